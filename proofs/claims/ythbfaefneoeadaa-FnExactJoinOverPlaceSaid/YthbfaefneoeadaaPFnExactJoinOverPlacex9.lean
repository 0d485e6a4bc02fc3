/- The walk of the law on JoinOverPlace, on the ways on which it answers true. No condition. -/
import Derived.Test.YthbfaefneoeadaaProg
import Derived.Below
import Derived.Deep.Draws
import Derived.Deep.AppendLies
import Derived.Maps.AppendAt
import Derived.OwnWalk
import Derived.Laws.BytesArg
import Derived.Laws.MakeOwn
import Derived.Laws.OwnMore
import Derived.Deep.OwnRows
import Derived.Tactics
import Derived.Lib.ConvBytes
import Derived.Laws.Slices
import Derived.WalkKit
import Derived.KernelRfl
import Derived.RowKit3
import Derived.Deep.LoopGhost
import Derived.Deep.QuietTactic
import Derived.BigQuiet
import Derived.WideLaws
import Derived.Deep.DeepCutAuto
import Derived.Deep.CutBlock
import Derived.Deep.RegionHeld3
import Derived.Laws.Rows
import Derived.Lib.AppendStr
import Derived.ArgAppend
import Derived.Laws.IdiomCopy
import Derived.OrdersHeld
import Derived.Laws.BitsLemmas
import Derived.RowKit
import Derived.Outline
import Derived.Laws.CopyOwn
import Derived.Test.YthbfaefneoeadaaJpDg
import Derived.Test.YthbfaefneoeadaaJpDg2
import Derived.Test.YthbfaefneoeadaaJpChA
import Derived.Test.YthbfaefneoeadaaJpChN
import Derived.Test.YthbfaefneoeadaaJpChC
import Derived.Test.YthbfaefneoeadaaJpGrowL
import Derived.Test.YthbfaefneoeadaaJpCo
import Derived.Test.YthbfaefneoeadaaJpWWords
import Derived.Test.YthbfaefneoeadaaJpWLast
import Derived.Test.YthbfaefneoeadaaJpWTab
import Derived.Test.YthbfaefneoeadaaJpWQPut
import Derived.Test.YthbfaefneoeadaaJpWApart
import Derived.Test.YthbfaefneoeadaaJpWFoot
import Derived.Test.YthbfaefneoeadaaJpWKept
import Derived.Test.YthbfaefneoeadaaJpWShare
import Derived.Test.YthbfaefneoeadaaJpWN
import Derived.Laws.StructEq
import Derived.Test.YthbfaefneoeadaaJpWRepsOne
import Derived.Test.YthbfaefneoeadaaJpWInv
import Derived.Test.YthbfaefneoeadaaJpWGuard
import Derived.Test.YthbfaefneoeadaaJpWNEv
import Derived.Test.YthbfaefneoeadaaJpWMore
import Derived.Test.YthbfaefneoeadaaPFnExactJoinOverPlacex1
import Derived.Test.YthbfaefneoeadaaPFnExactJoinOverPlacex2
import Derived.Test.YthbfaefneoeadaaPFnExactJoinOverPlacex3
import Derived.Test.YthbfaefneoeadaaPFnExactJoinOverPlacex4
import Derived.Test.YthbfaefneoeadaaPFnExactJoinOverPlacex5
import Derived.Test.YthbfaefneoeadaaPFnExactJoinOverPlacex6
import Derived.Test.YthbfaefneoeadaaPFnExactJoinOverPlacex7
import Derived.Test.YthbfaefneoeadaaPFnExactJoinOverPlacex8
namespace Go.Proofs.Ythbfaefneoeadaa.PFnExactJoinOverPlace
open Go.RowKit Go.Proofs.YthbfaefneoeadaaW.PrintWords Go.Proofs.YthbfaefneoeadaaW.PrintLast Go.Proofs.YthbfaefneoeadaaW.PrintMore Go.Proofs.Ythbfaefneoeadaa.DG
attribute [local go_sem] max2_int min2_int max_two min_two max_three min_three max_four min_four
set_option linter.unusedVariables false
set_option linter.unusedSimpArgs false
/-- A row of a law: who owns it, and that its blocks lie below. -/
structure Rw (w W : World) (P : Nat → Prop) (v : Value) (l : List Int) : Prop where
  R : Kd.R (Kd.int .i64) 2 W w.heap.size P v l
  h : ∀ k, P k → k < W.heap.size
theorem Rw.below {w W W' : World} {P : Nat → Prop} {v : Value} {l : List Int} (h : Rw w W P v l) (hb : Below W.heap.size W W') : Rw w W' P v l := ⟨Kd.R_below h.R hb, fun k hp => Nat.lt_of_lt_of_le (h.h k hp) hb.size⟩
theorem Rw.other {w W W' : World} {P Q : Nat → Prop} {v : Value} {l : List Int} (h : Rw w W P v l) (hk : Kept W W' Q) (hd : ∀ k, P k → ¬ Q k) : Rw w W' P v l := ⟨Kd.R_step h.R (fun k hk' hlt => hk.2 k hlt (hd k hk')), fun k hp => Nat.lt_of_lt_of_le (h.h k hp) hk.1⟩
theorem Rw.marked {w W W' : World} {P Q : Nat → Prop} {v : Value} {l l' : List Int} (h : Rw w W P v l) (r : Kd.R (Kd.int .i64) 2 W' w.heap.size Q v l') (hs : W.heap.size ≤ W'.heap.size) : Rw w W' P v l' := ⟨⟨h.R.1, r.2.imp_ (fun _ _ hp => hp)⟩, fun k hp => Nat.lt_of_lt_of_le (h.h k hp) hs⟩
theorem Rw.new {w W W' : World} {P : Nat → Prop} {v : Value} {l : List Int} (hs : w.heap.size ≤ W.heap.size) (r : Kd.R (Kd.int .i64) 2 W' W.heap.size P v l) : Rw w W' (fun k => W.heap.size ≤ k ∧ k < W'.heap.size) v l := ⟨⟨fun k hk => by
  have h := (Kd.R_bound r).1 k hk
  exact ⟨h.2.1, h.2.2.1⟩, (Kd.R_lower r hs).2.imp_ (fun _ _ hp => hp)⟩, fun k hp => hp.2⟩
theorem Rw.and {w W : World} {P Q : Nat → Prop} {v : Value} {l : List Int} (h : Rw w W P v l) (hq : ∀ k, v.ownBlock = some k → Q k) : Rw w W (fun k => P k ∧ Q k) v l := ⟨⟨fun k hk => ⟨h.R.1 k hk, hq k hk⟩, h.R.2.imp_ (fun _ _ hp => hp)⟩, fun k hp => h.h k hp.1⟩
theorem blk_kept {W W' : World} {Q : Nat → Prop} {g : Nat} {o : Obj} (h : W.heap[g]? = some o) (hk : Kept W W' Q) (hd : ¬ Q g) : W'.heap[g]? = some o := (hk.2 g (blk_lt h) hd).trans h
def jo12.T : Bool × List (List Nat × List Nat) := (true, [([], []), ([0], [0]), ([], []), ([2, 1], [2]), ([], []), ([4, 3], [4]), ([], []), ([6, 5], [6]), ([1, 3, 5, 7, 7], [1, 3, 5, 7]), ([8], [8]), ([9], [9]), ([9], [9]), ([9], [9]), ([], []), ([13, 10, 8, 0, 1, 2, 3, 4, 5, 6, 7, 8, 9, 10, 13], [10, 13]), ([11, 14, 0, 1, 2, 3, 4, 5, 6, 7, 8, 9, 10, 11, 13, 14], [11]), ([12, 15, 0, 1, 2, 3, 4, 5, 6, 7, 8, 9, 10, 11, 12, 13, 14, 15], [12])])
def jo12.B : List Nat := [0, 1, 0, 4, 0, 16, 0, 64, 255, 511, 1023, 1023, 1023, 0, 10239, 3071, 5119]
theorem jo12.tab : rtab .any (opsOf Try.f4 12) = jo12.T := by kernel_rfl
theorem jo12.bits : waitsOk jo12.T.2 jo12.B = true := by kernel_rfl
def jo47.T : Bool × List (List Nat × List Nat) := (true, [([], []), ([0], [0]), ([], []), ([2, 1], [2]), ([], []), ([4, 3], [4]), ([], []), ([6, 5], [6]), ([1, 3, 5, 7, 7], [1, 3, 5, 7]), ([8], [8]), ([9], [9]), ([9], [9]), ([9], [9]), ([], []), ([13, 10, 8, 0, 1, 2, 3, 4, 5, 6, 7, 8, 9, 10, 13], [10, 13]), ([11, 14, 0, 1, 2, 3, 4, 5, 6, 7, 8, 9, 10, 11, 13, 14], [11]), ([12, 15, 0, 1, 2, 3, 4, 5, 6, 7, 8, 9, 10, 11, 12, 13, 14, 15], [12])])
def jo47.B : List Nat := [0, 1, 0, 4, 0, 16, 0, 64, 255, 511, 1023, 1023, 1023, 0, 10239, 3071, 5119]
theorem jo47.tab : rtab .any (opsOf Try.f4 47) = jo47.T := by kernel_rfl
theorem jo47.bits : waitsOk jo47.T.2 jo47.B = true := by kernel_rfl
def jo20.T : Bool × List (List Nat × List Nat) := (true, [([], []), ([], []), ([1], [1]), ([0, 2, 2], [0, 2]), ([3], [3])])
def jo20.B : List Nat := [0, 0, 2, 7, 15]
theorem jo20.tab : rtab .any (opsOf Try.f4 20) = jo20.T := by kernel_rfl
theorem jo20.bits : waitsOk jo20.T.2 jo20.B = true := by kernel_rfl
def jo24.T : Bool × List (List Nat × List Nat) := (true, [([], []), ([], []), ([1], [1]), ([0, 2, 2], [0, 2]), ([3], [3])])
def jo24.B : List Nat := [0, 0, 2, 7, 15]
theorem jo24.tab : rtab .any (opsOf Try.f4 24) = jo24.T := by kernel_rfl
theorem jo24.bits : waitsOk jo24.T.2 jo24.B = true := by kernel_rfl
set_option maxHeartbeats 8000000 in
set_option maxRecDepth 100000 in
theorem jo_good (k : Nat) (A0 : Option Addr) (c0 : Nat) (l0 : List Int) (A1 : Option Addr) (c1 : Nat) (l1 : List Int) (A2 : Option Addr) (c2 : Nat) (l2 : List Int) (A3 : Option Addr) (c3 : Nat) (l3 : List Int) (w : World) (hr0 : Kd.C (Kd.int .i64) w A0 l0.length l0) (hc0 : l0.length ≤ c0) (hr1 : Kd.C (Kd.int .i64) w A1 l1.length l1) (hc1 : l1.length ≤ c1) (hr2 : Kd.C (Kd.int .i64) w A2 l2.length l2) (hc2 : l2.length ≤ c2) (hr3 : Kd.C (Kd.int .i64) w A3 l3.length l3) (hc3 : l3.length ≤ c3) (G H l0' l1' l2' l3' G' H' : List Int) (z1 z2 e0 m0 m1 m2 m3 n1 n2 : Int) (ht0 : laws_toSpace.f k l0 = some l0) (ht1 : laws_toInt64S.f k l1 = some l1) (ht2 : laws_toSpace.f k l2 = some l2) (ht3 : laws_toInt64S.f k l3 = some l3) (hz1 : laws_szSpace.f l0 1048576 = some z1) (hz2 : laws_szSpace.f l2 z1 = some z2) (hw : spec_JoinOverPlace.f k l0 l1 l2 l3 = some (G, H, e0)) (hg : impl_JoinOverPlace.f k l0 l1 l2 l3 = some (G, H, e0)) (he1 : laws_eqSpace.f k G G = some true) (he2 : laws_eqInt64S.f k H H = some true) (hq0 : laws_eqSpace.f k l0 l0 = some true) (hq1 : laws_eqInt64S.f k l1 l1 = some true) (hq2 : laws_eqSpace.f k l2 l2 = some true) (hq3 : laws_eqInt64S.f k l3 l3 = some true) (hm0 : laws_markSpace.f k l0 1 = some (m0, l0')) (hm1 : laws_markInt64S.f k l1 m0 = some (m1, l1')) (hm2 : laws_markSpace.f k l2 m1 = some (m2, l2')) (hm3 : laws_markInt64S.f k l3 m2 = some (m3, l3')) (hn1 : laws_markSpace.f k G 1 = some (n1, G')) (hn2 : laws_markInt64S.f k H n1 = some (n2, H')) (hh1 : laws_heldSpace.f k G' 1 = some n1) (hh2 : laws_heldInt64S.f k H' n1 = some n2) (q1_ : ¬ (l1.length : Int) > 1048576) (q2_ : ¬ (l3.length : Int) > 1048576) (q3_ : ¬ z1 < 0) (q4_ : ¬ z2 < 0) (q5_ : ¬ m3 < 0) (q6_ : ¬ n1 < 0) (q7_ : ¬ n2 < 0) :
    Calls Try.prog 4 #[.agg #[.slice A0 l0.length c0], .slice A1 l1.length c1, .agg #[.slice A2 l2.length c2], .slice A3 l3.length c3] w fun e w' => e = .returned (.bool true) ∧ Below w.heap.size w w' := by
  have HT0 := Aside0.mk ht0
  have HT1 := Aside0.mk ht1
  have HT2 := Aside0.mk ht2
  have HT3 := Aside0.mk ht3
  have Fz1 := Aside0.mk hz1
  have Fz2 := Aside0.mk hz2
  have Fw := Aside0.mk hw
  have Fg := Aside0.mk hg
  have Fe1 := Aside0.mk he1
  have Fe2 := Aside0.mk he2
  have Fq0 := Aside0.mk hq0
  have Fq1 := Aside0.mk hq1
  have Fq2 := Aside0.mk hq2
  have Fq3 := Aside0.mk hq3
  have Fm0 := Aside0.mk hm0
  have Fm1 := Aside0.mk hm1
  have Fm2 := Aside0.mk hm2
  have Fm3 := Aside0.mk hm3
  have Fn1 := Aside0.mk hn1
  have Fn2 := Aside0.mk hn2
  have Fh1 := Aside0.mk hh1
  have Fh2 := Aside0.mk hh2
  have HP0 := Aside0.mk hr0
  have HC0 := Aside0.mk hc0
  have HP1 := Aside0.mk hr1
  have HC1 := Aside0.mk hc1
  have HP2 := Aside0.mk hr2
  have HC2 := Aside0.mk hc2
  have HP3 := Aside0.mk hr3
  have HC3 := Aside0.mk hc3
  clear hr0 hc0 hr1 hc1 hr2 hc2 hr3 hc3
  clear ht0 ht1 ht2 ht3 hz1 hz2 hw hg he1 he2 hq0 hq1 hq2 hq3 hm0 hm1 hm2 hm3 hn1 hn2 hh1 hh2
  have q1_d : decide ((l1.length : Int) > 1048576) = false := decide_eq_false q1_
  have q2_d : decide ((l3.length : Int) > 1048576) = false := decide_eq_false q2_
  have q3_d : decide (z1 < 0) = false := decide_eq_false q3_
  have q4_d : decide (z2 < 0) = false := decide_eq_false q4_
  have q5_d : decide (m3 < 0) = false := decide_eq_false q5_
  have q6_d : decide (n1 < 0) = false := decide_eq_false q6_
  have q7_d : decide (n2 < 0) = false := decide_eq_false q7_
  go_enter Try.func4, Try.ntmps4
  go_wp2_with fail
  have hs1 := World.size_alloc w (.cells #[.slice A0 l0.length c0] 24)
  have hb0 := below_alloc (Below.refl w.heap.size w) (.cells #[.slice A0 l0.length c0] 24)
  have BKs := Aside0.mk (blk_new w (.cells #[.slice A0 l0.length c0] 24))
  generalize w.alloc (.cells #[.slice A0 l0.length c0] 24) = w1 at hs1 hb0 BKs ⊢
  have HB1 := Aside0.mk (below_step (Below.refl _ _) hb0)
  have Z1 := Aside0.mk (hb0.size)
  clear hb0
  have Ns := Aside0.mk (blk_lt BKs.out)
  have hb2 := below_alloc (Below.refl w1.heap.size w1) (.cells #[.slice A2 l2.length c2] 24)
  have BKt := Aside0.mk (blk_new w1 (.cells #[.slice A2 l2.length c2] 24))
  generalize w1.alloc (.cells #[.slice A2 l2.length c2] 24) = w2 at hb2 BKt ⊢
  have HB2 := Aside0.mk (below_step HB1.out hb2)
  have Z2 := Aside0.mk (hb2.size)
  replace BKs := Aside0.mk (blk_below BKs.out hb2)
  clear HB1
  clear hb2
  have Nt := Aside0.mk (blk_lt BKt.out)
  replace BKt := Aside0.mk (by have h := BKt.out; rw [hs1] at h; exact h)
  replace Nt := Aside0.mk (by have h := Nt.out; rw [hs1] at h; exact h)
  have ZT := Aside0.mk hs1
  clear hs1
  refine (laws_szSpace.calls A0 c0 l0 1048576 z1 w2 (Kd.C_below HP0.out HB2.out) HC0.out Fz1.out).mono ?_
  rintro e w3 ⟨rfl, hb3⟩
  have HB3 := Aside0.mk (below_step HB2.out hb3)
  have Z3 := Aside0.mk (hb3.size)
  replace BKs := Aside0.mk (blk_below BKs.out hb3)
  replace BKt := Aside0.mk (blk_below BKt.out hb3)
  clear HB2
  clear hb3
  have hct0 : w3.cell? ⟨(w.heap.size + 1), 0, none⟩ = some (.slice A2 l2.length c2) := (blk_cell BKt.out 0).trans rfl
  go_wp2_with fail
  clear hct0
  refine (laws_szSpace.calls A2 c2 l2 z1 z2 w3 (Kd.C_below HP2.out HB3.out) HC2.out Fz2.out).mono ?_
  rintro e w4 ⟨rfl, hb4⟩
  have HB4 := Aside0.mk (below_step HB3.out hb4)
  have Z4 := Aside0.mk (hb4.size)
  replace BKs := Aside0.mk (blk_below BKs.out hb4)
  replace BKt := Aside0.mk (blk_below BKt.out hb4)
  clear HB3
  clear hb4
  have hcs0 : w4.cell? ⟨w.heap.size, 0, none⟩ = some (.slice A0 l0.length c0) := (blk_cell BKs.out 0).trans rfl
  have hct0 : w4.cell? ⟨(w.heap.size + 1), 0, none⟩ = some (.slice A2 l2.length c2) := (blk_cell BKt.out 0).trans rfl
  go_wp2_with fail
  clear hcs0 hct0
  refine start_ (n := 17) (S := fun w' => w'.cell? ⟨w.heap.size, 0, none⟩ = some (.slice A0 l0.length c0) ∧ w'.cell? ⟨(w.heap.size + 1), 0, none⟩ = some (.slice A2 l2.length c2)) (ds := []) #[false, false, false, false, false, false, false, false, false, false, false, false, false, false, false, false, false] (by kernel_rfl) rfl rfl ⟨(blk_cell BKs.out 0).trans rfl, (blk_cell BKt.out 0).trans rfl⟩ (fun hHeld => ?_); refine with_tabW jo12.tab jo12.bits (fun HT_ HW_ => ?_)
  have hbw := below_drew (Below.refl w4.heap.size w4)
  generalize w4.drew = w5 at hbw hHeld ⊢
  replace hbw := Aside0.mk hbw
  refine take_ (i := 0) (N := some 43) (v := ?_) (a' := ?_) #[true, false, false, false, false, false, false, false, false, false, false, false, false, false, false, false, false] rfl rfl (take_ofW HT_.out HW_.out (by kernel_rfl)) (fun _ _ _ h => h) (Or.inl ⟨by rfl, ?_⟩) hHeld ?_ ?_
  rotate_left
  · rintro w' ⟨s0, s1⟩
    go_simp
    with_reducible rfl
  rotate_left
  · simp only [Act.put, List.setIfInBounds_toArray, List.set_cons_zero, List.set_cons_succ, i64_w, i32_w]
    rfl
  refine pure_ (i := 2) (N := some 45) (v := ?_) (a' := ?_) #[true, false, true, false, false, false, false, false, false, false, false, false, false, false, false, false, false] rfl rfl (any_of HT_.out (by kernel_rfl)) (fun _ _ _ h => h) (Or.inl ⟨by rfl, ?_⟩) ?_ ?_
  rotate_left
  · intro w'
    go_simp
    with_reducible rfl
  rotate_left
  · simp only [Act.put, List.setIfInBounds_toArray, List.set_cons_zero, List.set_cons_succ, i64_w, i32_w]
    rfl
  refine take_ (i := 4) (N := some 47) (v := ?_) (a' := ?_) #[true, false, true, false, true, false, false, false, false, false, false, false, false, false, false, false, false] rfl rfl (take_ofW HT_.out HW_.out (by kernel_rfl)) (fun _ _ _ h => h) (Or.inl ⟨by rfl, ?_⟩) hHeld ?_ ?_
  rotate_left
  · rintro w' ⟨s0, s1⟩
    go_simp
    with_reducible rfl
  rotate_left
  · simp only [Act.put, List.setIfInBounds_toArray, List.set_cons_zero, List.set_cons_succ, i64_w, i32_w]
    rfl
  refine pure_ (i := 6) (N := some 49) (v := ?_) (a' := ?_) #[true, false, true, false, true, false, true, false, false, false, false, false, false, false, false, false, false] rfl rfl (any_of HT_.out (by kernel_rfl)) (fun _ _ _ h => h) (Or.inl ⟨by rfl, ?_⟩) ?_ ?_
  rotate_left
  · intro w'
    go_simp
    with_reducible rfl
  rotate_left
  · simp only [Act.put, List.setIfInBounds_toArray, List.set_cons_zero, List.set_cons_succ, i64_w, i32_w]
    rfl
  refine join_ (σ := Value × Value × Value × Value × Value × Value × Nat) 3 #[true, true, true, true, true, true, true, true, true, true, true, true, true, true, false, false, false] (fun s => [(44, .agg #[s.1]), (46, s.2.1), (48, .agg #[s.2.2.1]), (50, s.2.2.2.1), (51, .tuple #[.agg #[s.2.2.2.2.1], s.2.2.2.2.2.1, .int .i64 e0]), (10, .pointer (some ⟨s.2.2.2.2.2.2, 0, none⟩)), (42, .tuple #[.agg #[s.2.2.2.2.1], s.2.2.2.2.2.1, .int .i64 e0]), (52, .agg #[s.2.2.2.2.1]), (53, s.2.2.2.2.2.1), (54, .int .i64 e0)]) (fun s w' => Below w4.heap.size w4 w' ∧ Kd.R (Kd.int .i64) 2 w' w4.heap.size (fun k => some k ≠ (s.2.2.2.2.2.1).ownBlock) s.2.2.2.2.1 G ∧ Kd.R (Kd.int .i64) 2 w' w4.heap.size (fun k => some k ≠ (s.2.2.2.2.1).ownBlock) s.2.2.2.2.2.1 H ∧ w'.heap[s.2.2.2.2.2.2]? = some (.cells #[.slice none 0 0] 30 (0, 0)) ∧ w4.heap.size ≤ s.2.2.2.2.2.2) ?_ (fun HJ => ?_)
  rotate_left
  · simp only [putAll, Act.put, List.setIfInBounds_toArray, List.set_cons_zero, List.set_cons_succ] at HJ
    have hbl := hbw.out
    refine two_ (i := 1) (j := 13) (Ni := some 44) (Nj := some 10) #[true, true, true, false, true, false, true, false, false, false, false, false, false, false, false, false, false] #[true, false, true, false, true, false, true, false, false, false, false, false, false, true, false, false, false] rfl rfl rfl rfl (two_of HT_.out (by kernel_rfl)) (by decide) (by decide) (fun K hK => ?_) (fun K hK => ?_)
    · refine goes_ Try.func11 (by kernel_rfl) rfl #[.agg #[.slice A0 l0.length c0]] (by rfl) rfl rfl (by (try simp only [List.map_toArray, List.map_cons, List.map_nil]); first | done | rfl) ?_
      refine (laws_toSpace.calls k A0 c0 l0 l0 w5 (Kd.C_below HP0.out (below_step HB4.out hbl)) HC0.out HT0.out).mono ?_
      rintro e y1 ⟨ua, rfl, hR, hb_⟩
      refine ⟨_, rfl, ?_⟩
      obtain ⟨Aa, ca, rfl⟩ := Kd.R_slice hR
      have hla := Aside0.mk (Kd.R_reads' hR).2.1
      have hca := Aside0.mk ((Kd.R_reads' hR).2.2)
      replace hbl := below_step hbl hb_
      clear hR hb_
      refine hK.out _ _ ⟨(blk_cell (blk_below BKs.out hbl) 0).trans rfl, (blk_cell (blk_below BKt.out hbl) 0).trans rfl⟩ (fun hHeld2 => ?_)
      clear hK K
      refine norm_ (a' := ?_) ?_ ?_
      rotate_left
      · show Act.put _ (some 44) _ = _
        simp only [Act.put, List.setIfInBounds_toArray, List.set_cons_zero, List.set_cons_succ, i64_w, i32_w]
        rfl
      refine two_ (i := 3) (j := 13) (Ni := some 46) (Nj := some 10) #[true, true, true, true, true, false, true, false, false, false, false, false, false, false, false, false, false] #[true, true, true, false, true, false, true, false, false, false, false, false, false, true, false, false, false] rfl rfl rfl rfl (two_of HT_.out (by kernel_rfl)) (by decide) (by decide) (fun K hK => ?_) (fun K hK => ?_)
      · refine goes_ Try.func17 (by kernel_rfl) rfl #[.slice A1 l1.length c1] (by rfl) rfl rfl (by (try simp only [List.map_toArray, List.map_cons, List.map_nil]); first | done | rfl) ?_
        refine (laws_toInt64S.calls k A1 c1 l1 l1 y1 (Kd.C_below HP1.out (below_step HB4.out hbl)) HC1.out HT1.out).mono ?_
        rintro e y2 ⟨ub, rfl, hR, hb_⟩
        refine ⟨_, rfl, ?_⟩
        obtain ⟨Ab, cb, rfl⟩ := Kd.R_slice hR
        have hlb := Aside0.mk (Kd.R_reads' hR).2.1
        have hcb := Aside0.mk ((Kd.R_reads' hR).2.2)
        replace hca := Aside0.mk (Kd.C_below hca.out hb_)
        replace hbl := below_step hbl hb_
        clear hR hb_
        refine hK.out _ _ ⟨(blk_cell (blk_below BKs.out hbl) 0).trans rfl, (blk_cell (blk_below BKt.out hbl) 0).trans rfl⟩ (fun hHeld2 => ?_)
        clear hK K
        refine norm_ (a' := ?_) ?_ ?_
        rotate_left
        · show Act.put _ (some 46) _ = _
          simp only [Act.put, List.setIfInBounds_toArray, List.set_cons_zero, List.set_cons_succ, i64_w, i32_w]
          rfl
        refine two_ (i := 5) (j := 13) (Ni := some 48) (Nj := some 10) #[true, true, true, true, true, true, true, false, false, false, false, false, false, false, false, false, false] #[true, true, true, true, true, false, true, false, false, false, false, false, false, true, false, false, false] rfl rfl rfl rfl (two_of HT_.out (by kernel_rfl)) (by decide) (by decide) (fun K hK => ?_) (fun K hK => ?_)
        · refine goes_ Try.func11 (by kernel_rfl) rfl #[.agg #[.slice A2 l2.length c2]] (by rfl) rfl rfl (by (try simp only [List.map_toArray, List.map_cons, List.map_nil]); first | done | rfl) ?_
          refine (laws_toSpace.calls k A2 c2 l2 l2 y2 (Kd.C_below HP2.out (below_step HB4.out hbl)) HC2.out HT2.out).mono ?_
          rintro e y3 ⟨uc, rfl, hR, hb_⟩
          refine ⟨_, rfl, ?_⟩
          obtain ⟨Ac, cc, rfl⟩ := Kd.R_slice hR
          have hlc := Aside0.mk (Kd.R_reads' hR).2.1
          have hcc := Aside0.mk ((Kd.R_reads' hR).2.2)
          replace hca := Aside0.mk (Kd.C_below hca.out hb_)
          replace hcb := Aside0.mk (Kd.C_below hcb.out hb_)
          replace hbl := below_step hbl hb_
          clear hR hb_
          refine hK.out _ _ ⟨(blk_cell (blk_below BKs.out hbl) 0).trans rfl, (blk_cell (blk_below BKt.out hbl) 0).trans rfl⟩ (fun hHeld2 => ?_)
          clear hK K
          refine norm_ (a' := ?_) ?_ ?_
          rotate_left
          · show Act.put _ (some 48) _ = _
            simp only [Act.put, List.setIfInBounds_toArray, List.set_cons_zero, List.set_cons_succ, i64_w, i32_w]
            rfl
          refine two_ (i := 7) (j := 13) (Ni := some 50) (Nj := some 10) #[true, true, true, true, true, true, true, true, false, false, false, false, false, false, false, false, false] #[true, true, true, true, true, true, true, false, false, false, false, false, false, true, false, false, false] rfl rfl rfl rfl (two_of HT_.out (by kernel_rfl)) (by decide) (by decide) (fun K hK => ?_) (fun K hK => ?_)
          · refine goes_ Try.func17 (by kernel_rfl) rfl #[.slice A3 l3.length c3] (by rfl) rfl rfl (by (try simp only [List.map_toArray, List.map_cons, List.map_nil]); first | done | rfl) ?_
            refine (laws_toInt64S.calls k A3 c3 l3 l3 y3 (Kd.C_below HP3.out (below_step HB4.out hbl)) HC3.out HT3.out).mono ?_
            rintro e y4 ⟨ud, rfl, hR, hb_⟩
            refine ⟨_, rfl, ?_⟩
            obtain ⟨Ad, cd, rfl⟩ := Kd.R_slice hR
            have hld := Aside0.mk (Kd.R_reads' hR).2.1
            have hcd := Aside0.mk ((Kd.R_reads' hR).2.2)
            replace hca := Aside0.mk (Kd.C_below hca.out hb_)
            replace hcb := Aside0.mk (Kd.C_below hcb.out hb_)
            replace hcc := Aside0.mk (Kd.C_below hcc.out hb_)
            replace hbl := below_step hbl hb_
            clear hR hb_
            refine hK.out _ _ ⟨(blk_cell (blk_below BKs.out hbl) 0).trans rfl, (blk_cell (blk_below BKt.out hbl) 0).trans rfl⟩ (fun hHeld2 => ?_)
            clear hK K
            refine norm_ (a' := ?_) ?_ ?_
            rotate_left
            · show Act.put _ (some 50) _ = _
              simp only [Act.put, List.setIfInBounds_toArray, List.set_cons_zero, List.set_cons_succ, i64_w, i32_w]
              rfl
            refine two_ (i := 8) (j := 13) (Ni := some 51) (Nj := some 10) #[true, true, true, true, true, true, true, true, true, false, false, false, false, false, false, false, false] #[true, true, true, true, true, true, true, true, false, false, false, false, false, true, false, false, false] rfl rfl rfl rfl (two_of HT_.out (by kernel_rfl)) (by decide) (by decide) (fun K hK => ?_) (fun K hK => ?_)
            · refine goes_ Try.func16 (by kernel_rfl) rfl #[.agg #[.slice Aa l0.length ca], .slice Ab l1.length cb, .agg #[.slice Ac l2.length cc], .slice Ad l3.length cd] (by rfl) rfl rfl (by (try simp only [List.map_toArray, List.map_cons, List.map_nil]); first | done | rfl) ?_
              refine (spec_JoinOverPlace.calls k Aa ca l0 Ab cb l1 Ac cc l2 Ad cd l3 G H e0 y4 hca.out hla.out hcb.out hlb.out hcc.out hlc.out hcd.out hld.out Fw.out).mono ?_
              rintro e y5 ⟨v52, v53, rfl, h0_, h1_, hb_⟩
              refine ⟨_, rfl, ?_⟩
              replace h0_ := Kd.R_mono (Kd.R_lower h0_ hbl.size) (fun _ hk => hk)
              replace h1_ := Kd.R_mono (Kd.R_lower h1_ hbl.size) (fun _ hk => hk)
              replace hbl := below_step hbl hb_
              clear hb_
              refine hK.out _ _ ⟨(blk_cell (blk_below BKs.out hbl) 0).trans rfl, (blk_cell (blk_below BKt.out hbl) 0).trans rfl⟩ (fun hHeld2 => ?_)
              clear hK K
              refine norm_ (a' := ?_) ?_ ?_
              rotate_left
              · show Act.put _ (some 51) _ = _
                simp only [Act.put, List.setIfInBounds_toArray, List.set_cons_zero, List.set_cons_succ, i64_w, i32_w]
                rfl
              refine pure_ (i := 9) (N := some 42) (v := ?_) (a' := ?_) #[true, true, true, true, true, true, true, true, true, true, false, false, false, false, false, false, false] rfl rfl (any_of HT_.out (by kernel_rfl)) (fun _ _ _ h => h) (Or.inl ⟨by rfl, ?_⟩) ?_ ?_
              rotate_left
              · intro w'
                go_simp
                with_reducible rfl
              rotate_left
              · simp only [Act.put, List.setIfInBounds_toArray, List.set_cons_zero, List.set_cons_succ, i64_w, i32_w]
                rfl
              refine pure_ (i := 10) (N := some 52) (v := ?_) (a' := ?_) #[true, true, true, true, true, true, true, true, true, true, true, false, false, false, false, false, false] rfl rfl (any_of HT_.out (by kernel_rfl)) (fun _ _ _ h => h) (Or.inl ⟨by rfl, ?_⟩) ?_ ?_
              rotate_left
              · intro w'
                go_simp
                with_reducible rfl
              rotate_left
              · simp only [Act.put, List.setIfInBounds_toArray, List.set_cons_zero, List.set_cons_succ, i64_w, i32_w]
                rfl
              refine pure_ (i := 11) (N := some 53) (v := ?_) (a' := ?_) #[true, true, true, true, true, true, true, true, true, true, true, true, false, false, false, false, false] rfl rfl (any_of HT_.out (by kernel_rfl)) (fun _ _ _ h => h) (Or.inl ⟨by rfl, ?_⟩) ?_ ?_
              rotate_left
              · intro w'
                go_simp
                with_reducible rfl
              rotate_left
              · simp only [Act.put, List.setIfInBounds_toArray, List.set_cons_zero, List.set_cons_succ, i64_w, i32_w]
                rfl
              refine pure_ (i := 12) (N := some 54) (v := ?_) (a' := ?_) #[true, true, true, true, true, true, true, true, true, true, true, true, true, false, false, false, false] rfl rfl (any_of HT_.out (by kernel_rfl)) (fun _ _ _ h => h) (Or.inl ⟨by rfl, ?_⟩) ?_ ?_
              rotate_left
              · intro w'
                go_simp
                with_reducible rfl
              rotate_left
              · simp only [Act.put, List.setIfInBounds_toArray, List.set_cons_zero, List.set_cons_succ, i64_w, i32_w]
                rfl
              refine one_ (i := 13) (N := some 10) #[true, true, true, true, true, true, true, true, true, true, true, true, true, true, false, false, false] rfl rfl (one_of HT_.out (by kernel_rfl)) (by decide) (fun K hK => ?_)
              refine value_ (w1 := y5.alloc (.cells #[.slice none 0 0] 30)) (v := .pointer (some ⟨y5.heap.size, 0, none⟩)) (by rfl) rfl (by go_simp) ?_
              have hba := below_alloc (Below.refl y5.heap.size y5) (.cells #[.slice none 0 0] 30)
              have hx := blk_new y5 (.cells #[.slice none 0 0] 30)
              have hgx := hbl.size
              generalize hgx0 : y5.heap.size = gx at hx hgx hba ⊢
              generalize y5.alloc (.cells #[.slice none 0 0] 30) = y6 at hx hba ⊢
              subst hgx0
              replace h0_ := Kd.R_below h0_ hba
              replace h1_ := Kd.R_below h1_ hba
              replace hbl := below_step hbl hba
              clear hba
              refine hK.out _ _ ⟨(blk_cell (blk_below BKs.out hbl) 0).trans rfl, (blk_cell (blk_below BKt.out hbl) 0).trans rfl⟩ (fun hHeld2 => ?_)
              clear hK K
              exact HJ (.slice Aa l0.length ca, .slice Ab l1.length cb, .slice Ac l2.length cc, .slice Ad l3.length cd, v52, v53, y5.heap.size) _ ⟨hbl, h0_, h1_, hx, hgx⟩
            · refine value_ (w1 := y4.alloc (.cells #[.slice none 0 0] 30)) (v := .pointer (some ⟨y4.heap.size, 0, none⟩)) (by rfl) rfl (by go_simp) ?_
              have hba := below_alloc (Below.refl y4.heap.size y4) (.cells #[.slice none 0 0] 30)
              have hx := blk_new y4 (.cells #[.slice none 0 0] 30)
              have hgx := hbl.size
              generalize hgx0 : y4.heap.size = gx at hx hgx hba ⊢
              generalize y4.alloc (.cells #[.slice none 0 0] 30) = y7 at hx hba ⊢
              subst hgx0
              replace hca := Aside0.mk (Kd.C_below hca.out hba)
              replace hcb := Aside0.mk (Kd.C_below hcb.out hba)
              replace hcc := Aside0.mk (Kd.C_below hcc.out hba)
              replace hcd := Aside0.mk (Kd.C_below hcd.out hba)
              replace hbl := below_step hbl hba
              clear hba
              refine hK.out _ _ ⟨(blk_cell (blk_below BKs.out hbl) 0).trans rfl, (blk_cell (blk_below BKt.out hbl) 0).trans rfl⟩ (fun hHeld2 => ?_)
              clear hK K
              refine norm_ (a' := ?_) ?_ ?_
              rotate_left
              · show Act.put _ (some 10) _ = _
                simp only [Act.put, List.setIfInBounds_toArray, List.set_cons_zero, List.set_cons_succ, i64_w, i32_w]
                rfl
              refine one_ (i := 8) (N := some 51) #[true, true, true, true, true, true, true, true, true, false, false, false, false, true, false, false, false] rfl rfl (one_of HT_.out (by kernel_rfl)) (by decide) (fun K hK => ?_)
              refine goes_ Try.func16 (by kernel_rfl) rfl #[.agg #[.slice Aa l0.length ca], .slice Ab l1.length cb, .agg #[.slice Ac l2.length cc], .slice Ad l3.length cd] (by rfl) rfl rfl (by (try simp only [List.map_toArray, List.map_cons, List.map_nil]); first | done | rfl) ?_
              refine (spec_JoinOverPlace.calls k Aa ca l0 Ab cb l1 Ac cc l2 Ad cd l3 G H e0 y7 hca.out hla.out hcb.out hlb.out hcc.out hlc.out hcd.out hld.out Fw.out).mono ?_
              rintro e y8 ⟨v52, v53, rfl, h0_, h1_, hb_⟩
              refine ⟨_, rfl, ?_⟩
              replace h0_ := Kd.R_mono (Kd.R_lower h0_ hbl.size) (fun _ hk => hk)
              replace h1_ := Kd.R_mono (Kd.R_lower h1_ hbl.size) (fun _ hk => hk)
              replace hx := blk_below hx hb_
              replace hbl := below_step hbl hb_
              clear hb_
              refine hK.out _ _ ⟨(blk_cell (blk_below BKs.out hbl) 0).trans rfl, (blk_cell (blk_below BKt.out hbl) 0).trans rfl⟩ (fun hHeld2 => ?_)
              clear hK K
              refine norm_ (a' := ?_) ?_ ?_
              rotate_left
              · show Act.put _ (some 51) _ = _
                simp only [Act.put, List.setIfInBounds_toArray, List.set_cons_zero, List.set_cons_succ, i64_w, i32_w]
                rfl
              refine pure_ (i := 9) (N := some 42) (v := ?_) (a' := ?_) #[true, true, true, true, true, true, true, true, true, true, false, false, false, true, false, false, false] rfl rfl (any_of HT_.out (by kernel_rfl)) (fun _ _ _ h => h) (Or.inl ⟨by rfl, ?_⟩) ?_ ?_
              rotate_left
              · intro w'
                go_simp
                with_reducible rfl
              rotate_left
              · simp only [Act.put, List.setIfInBounds_toArray, List.set_cons_zero, List.set_cons_succ, i64_w, i32_w]
                rfl
              refine pure_ (i := 10) (N := some 52) (v := ?_) (a' := ?_) #[true, true, true, true, true, true, true, true, true, true, true, false, false, true, false, false, false] rfl rfl (any_of HT_.out (by kernel_rfl)) (fun _ _ _ h => h) (Or.inl ⟨by rfl, ?_⟩) ?_ ?_
              rotate_left
              · intro w'
                go_simp
                with_reducible rfl
              rotate_left
              · simp only [Act.put, List.setIfInBounds_toArray, List.set_cons_zero, List.set_cons_succ, i64_w, i32_w]
                rfl
              refine pure_ (i := 11) (N := some 53) (v := ?_) (a' := ?_) #[true, true, true, true, true, true, true, true, true, true, true, true, false, true, false, false, false] rfl rfl (any_of HT_.out (by kernel_rfl)) (fun _ _ _ h => h) (Or.inl ⟨by rfl, ?_⟩) ?_ ?_
              rotate_left
              · intro w'
                go_simp
                with_reducible rfl
              rotate_left
              · simp only [Act.put, List.setIfInBounds_toArray, List.set_cons_zero, List.set_cons_succ, i64_w, i32_w]
                rfl
              refine pure_ (i := 12) (N := some 54) (v := ?_) (a' := ?_) #[true, true, true, true, true, true, true, true, true, true, true, true, true, true, false, false, false] rfl rfl (any_of HT_.out (by kernel_rfl)) (fun _ _ _ h => h) (Or.inl ⟨by rfl, ?_⟩) ?_ ?_
              rotate_left
              · intro w'
                go_simp
                with_reducible rfl
              rotate_left
              · simp only [Act.put, List.setIfInBounds_toArray, List.set_cons_zero, List.set_cons_succ, i64_w, i32_w]
                rfl
              exact HJ (.slice Aa l0.length ca, .slice Ab l1.length cb, .slice Ac l2.length cc, .slice Ad l3.length cd, v52, v53, y4.heap.size) _ ⟨hbl, h0_, h1_, hx, hgx⟩
          · refine value_ (w1 := y3.alloc (.cells #[.slice none 0 0] 30)) (v := .pointer (some ⟨y3.heap.size, 0, none⟩)) (by rfl) rfl (by go_simp) ?_
            have hba := below_alloc (Below.refl y3.heap.size y3) (.cells #[.slice none 0 0] 30)
            have hx := blk_new y3 (.cells #[.slice none 0 0] 30)
            have hgx := hbl.size
            generalize hgx0 : y3.heap.size = gx at hx hgx hba ⊢
            generalize y3.alloc (.cells #[.slice none 0 0] 30) = y9 at hx hba ⊢
            subst hgx0
            replace hca := Aside0.mk (Kd.C_below hca.out hba)
            replace hcb := Aside0.mk (Kd.C_below hcb.out hba)
            replace hcc := Aside0.mk (Kd.C_below hcc.out hba)
            replace hbl := below_step hbl hba
            clear hba
            refine hK.out _ _ ⟨(blk_cell (blk_below BKs.out hbl) 0).trans rfl, (blk_cell (blk_below BKt.out hbl) 0).trans rfl⟩ (fun hHeld2 => ?_)
            clear hK K
            refine norm_ (a' := ?_) ?_ ?_
            rotate_left
            · show Act.put _ (some 10) _ = _
              simp only [Act.put, List.setIfInBounds_toArray, List.set_cons_zero, List.set_cons_succ, i64_w, i32_w]
              rfl
            refine one_ (i := 7) (N := some 50) #[true, true, true, true, true, true, true, true, false, false, false, false, false, true, false, false, false] rfl rfl (one_of HT_.out (by kernel_rfl)) (by decide) (fun K hK => ?_)
            refine goes_ Try.func17 (by kernel_rfl) rfl #[.slice A3 l3.length c3] (by rfl) rfl rfl (by (try simp only [List.map_toArray, List.map_cons, List.map_nil]); first | done | rfl) ?_
            refine (laws_toInt64S.calls k A3 c3 l3 l3 y9 (Kd.C_below HP3.out (below_step HB4.out hbl)) HC3.out HT3.out).mono ?_
            rintro e y10 ⟨ud, rfl, hR, hb_⟩
            refine ⟨_, rfl, ?_⟩
            obtain ⟨Ad, cd, rfl⟩ := Kd.R_slice hR
            have hld := Aside0.mk (Kd.R_reads' hR).2.1
            have hcd := Aside0.mk ((Kd.R_reads' hR).2.2)
            replace hca := Aside0.mk (Kd.C_below hca.out hb_)
            replace hcb := Aside0.mk (Kd.C_below hcb.out hb_)
            replace hcc := Aside0.mk (Kd.C_below hcc.out hb_)
            replace hx := blk_below hx hb_
            replace hbl := below_step hbl hb_
            clear hR hb_
            refine hK.out _ _ ⟨(blk_cell (blk_below BKs.out hbl) 0).trans rfl, (blk_cell (blk_below BKt.out hbl) 0).trans rfl⟩ (fun hHeld2 => ?_)
            clear hK K
            refine norm_ (a' := ?_) ?_ ?_
            rotate_left
            · show Act.put _ (some 50) _ = _
              simp only [Act.put, List.setIfInBounds_toArray, List.set_cons_zero, List.set_cons_succ, i64_w, i32_w]
              rfl
            refine one_ (i := 8) (N := some 51) #[true, true, true, true, true, true, true, true, true, false, false, false, false, true, false, false, false] rfl rfl (one_of HT_.out (by kernel_rfl)) (by decide) (fun K hK => ?_)
            refine goes_ Try.func16 (by kernel_rfl) rfl #[.agg #[.slice Aa l0.length ca], .slice Ab l1.length cb, .agg #[.slice Ac l2.length cc], .slice Ad l3.length cd] (by rfl) rfl rfl (by (try simp only [List.map_toArray, List.map_cons, List.map_nil]); first | done | rfl) ?_
            refine (spec_JoinOverPlace.calls k Aa ca l0 Ab cb l1 Ac cc l2 Ad cd l3 G H e0 y10 hca.out hla.out hcb.out hlb.out hcc.out hlc.out hcd.out hld.out Fw.out).mono ?_
            rintro e y11 ⟨v52, v53, rfl, h0_, h1_, hb_⟩
            refine ⟨_, rfl, ?_⟩
            replace h0_ := Kd.R_mono (Kd.R_lower h0_ hbl.size) (fun _ hk => hk)
            replace h1_ := Kd.R_mono (Kd.R_lower h1_ hbl.size) (fun _ hk => hk)
            replace hx := blk_below hx hb_
            replace hbl := below_step hbl hb_
            clear hb_
            refine hK.out _ _ ⟨(blk_cell (blk_below BKs.out hbl) 0).trans rfl, (blk_cell (blk_below BKt.out hbl) 0).trans rfl⟩ (fun hHeld2 => ?_)
            clear hK K
            refine norm_ (a' := ?_) ?_ ?_
            rotate_left
            · show Act.put _ (some 51) _ = _
              simp only [Act.put, List.setIfInBounds_toArray, List.set_cons_zero, List.set_cons_succ, i64_w, i32_w]
              rfl
            refine pure_ (i := 9) (N := some 42) (v := ?_) (a' := ?_) #[true, true, true, true, true, true, true, true, true, true, false, false, false, true, false, false, false] rfl rfl (any_of HT_.out (by kernel_rfl)) (fun _ _ _ h => h) (Or.inl ⟨by rfl, ?_⟩) ?_ ?_
            rotate_left
            · intro w'
              go_simp
              with_reducible rfl
            rotate_left
            · simp only [Act.put, List.setIfInBounds_toArray, List.set_cons_zero, List.set_cons_succ, i64_w, i32_w]
              rfl
            refine pure_ (i := 10) (N := some 52) (v := ?_) (a' := ?_) #[true, true, true, true, true, true, true, true, true, true, true, false, false, true, false, false, false] rfl rfl (any_of HT_.out (by kernel_rfl)) (fun _ _ _ h => h) (Or.inl ⟨by rfl, ?_⟩) ?_ ?_
            rotate_left
            · intro w'
              go_simp
              with_reducible rfl
            rotate_left
            · simp only [Act.put, List.setIfInBounds_toArray, List.set_cons_zero, List.set_cons_succ, i64_w, i32_w]
              rfl
            refine pure_ (i := 11) (N := some 53) (v := ?_) (a' := ?_) #[true, true, true, true, true, true, true, true, true, true, true, true, false, true, false, false, false] rfl rfl (any_of HT_.out (by kernel_rfl)) (fun _ _ _ h => h) (Or.inl ⟨by rfl, ?_⟩) ?_ ?_
            rotate_left
            · intro w'
              go_simp
              with_reducible rfl
            rotate_left
            · simp only [Act.put, List.setIfInBounds_toArray, List.set_cons_zero, List.set_cons_succ, i64_w, i32_w]
              rfl
            refine pure_ (i := 12) (N := some 54) (v := ?_) (a' := ?_) #[true, true, true, true, true, true, true, true, true, true, true, true, true, true, false, false, false] rfl rfl (any_of HT_.out (by kernel_rfl)) (fun _ _ _ h => h) (Or.inl ⟨by rfl, ?_⟩) ?_ ?_
            rotate_left
            · intro w'
              go_simp
              with_reducible rfl
            rotate_left
            · simp only [Act.put, List.setIfInBounds_toArray, List.set_cons_zero, List.set_cons_succ, i64_w, i32_w]
              rfl
            exact HJ (.slice Aa l0.length ca, .slice Ab l1.length cb, .slice Ac l2.length cc, .slice Ad l3.length cd, v52, v53, y3.heap.size) _ ⟨hbl, h0_, h1_, hx, hgx⟩
        · refine value_ (w1 := y2.alloc (.cells #[.slice none 0 0] 30)) (v := .pointer (some ⟨y2.heap.size, 0, none⟩)) (by rfl) rfl (by go_simp) ?_
          have hba := below_alloc (Below.refl y2.heap.size y2) (.cells #[.slice none 0 0] 30)
          have hx := blk_new y2 (.cells #[.slice none 0 0] 30)
          have hgx := hbl.size
          generalize hgx0 : y2.heap.size = gx at hx hgx hba ⊢
          generalize y2.alloc (.cells #[.slice none 0 0] 30) = y12 at hx hba ⊢
          subst hgx0
          replace hca := Aside0.mk (Kd.C_below hca.out hba)
          replace hcb := Aside0.mk (Kd.C_below hcb.out hba)
          replace hbl := below_step hbl hba
          clear hba
          refine hK.out _ _ ⟨(blk_cell (blk_below BKs.out hbl) 0).trans rfl, (blk_cell (blk_below BKt.out hbl) 0).trans rfl⟩ (fun hHeld2 => ?_)
          clear hK K
          refine norm_ (a' := ?_) ?_ ?_
          rotate_left
          · show Act.put _ (some 10) _ = _
            simp only [Act.put, List.setIfInBounds_toArray, List.set_cons_zero, List.set_cons_succ, i64_w, i32_w]
            rfl
          refine one_ (i := 5) (N := some 48) #[true, true, true, true, true, true, true, false, false, false, false, false, false, true, false, false, false] rfl rfl (one_of HT_.out (by kernel_rfl)) (by decide) (fun K hK => ?_)
          refine goes_ Try.func11 (by kernel_rfl) rfl #[.agg #[.slice A2 l2.length c2]] (by rfl) rfl rfl (by (try simp only [List.map_toArray, List.map_cons, List.map_nil]); first | done | rfl) ?_
          refine (laws_toSpace.calls k A2 c2 l2 l2 y12 (Kd.C_below HP2.out (below_step HB4.out hbl)) HC2.out HT2.out).mono ?_
          rintro e y13 ⟨uc, rfl, hR, hb_⟩
          refine ⟨_, rfl, ?_⟩
          obtain ⟨Ac, cc, rfl⟩ := Kd.R_slice hR
          have hlc := Aside0.mk (Kd.R_reads' hR).2.1
          have hcc := Aside0.mk ((Kd.R_reads' hR).2.2)
          replace hca := Aside0.mk (Kd.C_below hca.out hb_)
          replace hcb := Aside0.mk (Kd.C_below hcb.out hb_)
          replace hx := blk_below hx hb_
          replace hbl := below_step hbl hb_
          clear hR hb_
          refine hK.out _ _ ⟨(blk_cell (blk_below BKs.out hbl) 0).trans rfl, (blk_cell (blk_below BKt.out hbl) 0).trans rfl⟩ (fun hHeld2 => ?_)
          clear hK K
          refine norm_ (a' := ?_) ?_ ?_
          rotate_left
          · show Act.put _ (some 48) _ = _
            simp only [Act.put, List.setIfInBounds_toArray, List.set_cons_zero, List.set_cons_succ, i64_w, i32_w]
            rfl
          refine one_ (i := 7) (N := some 50) #[true, true, true, true, true, true, true, true, false, false, false, false, false, true, false, false, false] rfl rfl (one_of HT_.out (by kernel_rfl)) (by decide) (fun K hK => ?_)
          refine goes_ Try.func17 (by kernel_rfl) rfl #[.slice A3 l3.length c3] (by rfl) rfl rfl (by (try simp only [List.map_toArray, List.map_cons, List.map_nil]); first | done | rfl) ?_
          refine (laws_toInt64S.calls k A3 c3 l3 l3 y13 (Kd.C_below HP3.out (below_step HB4.out hbl)) HC3.out HT3.out).mono ?_
          rintro e y14 ⟨ud, rfl, hR, hb_⟩
          refine ⟨_, rfl, ?_⟩
          obtain ⟨Ad, cd, rfl⟩ := Kd.R_slice hR
          have hld := Aside0.mk (Kd.R_reads' hR).2.1
          have hcd := Aside0.mk ((Kd.R_reads' hR).2.2)
          replace hca := Aside0.mk (Kd.C_below hca.out hb_)
          replace hcb := Aside0.mk (Kd.C_below hcb.out hb_)
          replace hcc := Aside0.mk (Kd.C_below hcc.out hb_)
          replace hx := blk_below hx hb_
          replace hbl := below_step hbl hb_
          clear hR hb_
          refine hK.out _ _ ⟨(blk_cell (blk_below BKs.out hbl) 0).trans rfl, (blk_cell (blk_below BKt.out hbl) 0).trans rfl⟩ (fun hHeld2 => ?_)
          clear hK K
          refine norm_ (a' := ?_) ?_ ?_
          rotate_left
          · show Act.put _ (some 50) _ = _
            simp only [Act.put, List.setIfInBounds_toArray, List.set_cons_zero, List.set_cons_succ, i64_w, i32_w]
            rfl
          refine one_ (i := 8) (N := some 51) #[true, true, true, true, true, true, true, true, true, false, false, false, false, true, false, false, false] rfl rfl (one_of HT_.out (by kernel_rfl)) (by decide) (fun K hK => ?_)
          refine goes_ Try.func16 (by kernel_rfl) rfl #[.agg #[.slice Aa l0.length ca], .slice Ab l1.length cb, .agg #[.slice Ac l2.length cc], .slice Ad l3.length cd] (by rfl) rfl rfl (by (try simp only [List.map_toArray, List.map_cons, List.map_nil]); first | done | rfl) ?_
          refine (spec_JoinOverPlace.calls k Aa ca l0 Ab cb l1 Ac cc l2 Ad cd l3 G H e0 y14 hca.out hla.out hcb.out hlb.out hcc.out hlc.out hcd.out hld.out Fw.out).mono ?_
          rintro e y15 ⟨v52, v53, rfl, h0_, h1_, hb_⟩
          refine ⟨_, rfl, ?_⟩
          replace h0_ := Kd.R_mono (Kd.R_lower h0_ hbl.size) (fun _ hk => hk)
          replace h1_ := Kd.R_mono (Kd.R_lower h1_ hbl.size) (fun _ hk => hk)
          replace hx := blk_below hx hb_
          replace hbl := below_step hbl hb_
          clear hb_
          refine hK.out _ _ ⟨(blk_cell (blk_below BKs.out hbl) 0).trans rfl, (blk_cell (blk_below BKt.out hbl) 0).trans rfl⟩ (fun hHeld2 => ?_)
          clear hK K
          refine norm_ (a' := ?_) ?_ ?_
          rotate_left
          · show Act.put _ (some 51) _ = _
            simp only [Act.put, List.setIfInBounds_toArray, List.set_cons_zero, List.set_cons_succ, i64_w, i32_w]
            rfl
          refine pure_ (i := 9) (N := some 42) (v := ?_) (a' := ?_) #[true, true, true, true, true, true, true, true, true, true, false, false, false, true, false, false, false] rfl rfl (any_of HT_.out (by kernel_rfl)) (fun _ _ _ h => h) (Or.inl ⟨by rfl, ?_⟩) ?_ ?_
          rotate_left
          · intro w'
            go_simp
            with_reducible rfl
          rotate_left
          · simp only [Act.put, List.setIfInBounds_toArray, List.set_cons_zero, List.set_cons_succ, i64_w, i32_w]
            rfl
          refine pure_ (i := 10) (N := some 52) (v := ?_) (a' := ?_) #[true, true, true, true, true, true, true, true, true, true, true, false, false, true, false, false, false] rfl rfl (any_of HT_.out (by kernel_rfl)) (fun _ _ _ h => h) (Or.inl ⟨by rfl, ?_⟩) ?_ ?_
          rotate_left
          · intro w'
            go_simp
            with_reducible rfl
          rotate_left
          · simp only [Act.put, List.setIfInBounds_toArray, List.set_cons_zero, List.set_cons_succ, i64_w, i32_w]
            rfl
          refine pure_ (i := 11) (N := some 53) (v := ?_) (a' := ?_) #[true, true, true, true, true, true, true, true, true, true, true, true, false, true, false, false, false] rfl rfl (any_of HT_.out (by kernel_rfl)) (fun _ _ _ h => h) (Or.inl ⟨by rfl, ?_⟩) ?_ ?_
          rotate_left
          · intro w'
            go_simp
            with_reducible rfl
          rotate_left
          · simp only [Act.put, List.setIfInBounds_toArray, List.set_cons_zero, List.set_cons_succ, i64_w, i32_w]
            rfl
          refine pure_ (i := 12) (N := some 54) (v := ?_) (a' := ?_) #[true, true, true, true, true, true, true, true, true, true, true, true, true, true, false, false, false] rfl rfl (any_of HT_.out (by kernel_rfl)) (fun _ _ _ h => h) (Or.inl ⟨by rfl, ?_⟩) ?_ ?_
          rotate_left
          · intro w'
            go_simp
            with_reducible rfl
          rotate_left
          · simp only [Act.put, List.setIfInBounds_toArray, List.set_cons_zero, List.set_cons_succ, i64_w, i32_w]
            rfl
          exact HJ (.slice Aa l0.length ca, .slice Ab l1.length cb, .slice Ac l2.length cc, .slice Ad l3.length cd, v52, v53, y2.heap.size) _ ⟨hbl, h0_, h1_, hx, hgx⟩
      · refine value_ (w1 := y1.alloc (.cells #[.slice none 0 0] 30)) (v := .pointer (some ⟨y1.heap.size, 0, none⟩)) (by rfl) rfl (by go_simp) ?_
        have hba := below_alloc (Below.refl y1.heap.size y1) (.cells #[.slice none 0 0] 30)
        have hx := blk_new y1 (.cells #[.slice none 0 0] 30)
        have hgx := hbl.size
        generalize hgx0 : y1.heap.size = gx at hx hgx hba ⊢
        generalize y1.alloc (.cells #[.slice none 0 0] 30) = y16 at hx hba ⊢
        subst hgx0
        replace hca := Aside0.mk (Kd.C_below hca.out hba)
        replace hbl := below_step hbl hba
        clear hba
        refine hK.out _ _ ⟨(blk_cell (blk_below BKs.out hbl) 0).trans rfl, (blk_cell (blk_below BKt.out hbl) 0).trans rfl⟩ (fun hHeld2 => ?_)
        clear hK K
        refine norm_ (a' := ?_) ?_ ?_
        rotate_left
        · show Act.put _ (some 10) _ = _
          simp only [Act.put, List.setIfInBounds_toArray, List.set_cons_zero, List.set_cons_succ, i64_w, i32_w]
          rfl
        refine one_ (i := 3) (N := some 46) #[true, true, true, true, true, false, true, false, false, false, false, false, false, true, false, false, false] rfl rfl (one_of HT_.out (by kernel_rfl)) (by decide) (fun K hK => ?_)
        refine goes_ Try.func17 (by kernel_rfl) rfl #[.slice A1 l1.length c1] (by rfl) rfl rfl (by (try simp only [List.map_toArray, List.map_cons, List.map_nil]); first | done | rfl) ?_
        refine (laws_toInt64S.calls k A1 c1 l1 l1 y16 (Kd.C_below HP1.out (below_step HB4.out hbl)) HC1.out HT1.out).mono ?_
        rintro e y17 ⟨ub, rfl, hR, hb_⟩
        refine ⟨_, rfl, ?_⟩
        obtain ⟨Ab, cb, rfl⟩ := Kd.R_slice hR
        have hlb := Aside0.mk (Kd.R_reads' hR).2.1
        have hcb := Aside0.mk ((Kd.R_reads' hR).2.2)
        replace hca := Aside0.mk (Kd.C_below hca.out hb_)
        replace hx := blk_below hx hb_
        replace hbl := below_step hbl hb_
        clear hR hb_
        refine hK.out _ _ ⟨(blk_cell (blk_below BKs.out hbl) 0).trans rfl, (blk_cell (blk_below BKt.out hbl) 0).trans rfl⟩ (fun hHeld2 => ?_)
        clear hK K
        refine norm_ (a' := ?_) ?_ ?_
        rotate_left
        · show Act.put _ (some 46) _ = _
          simp only [Act.put, List.setIfInBounds_toArray, List.set_cons_zero, List.set_cons_succ, i64_w, i32_w]
          rfl
        refine one_ (i := 5) (N := some 48) #[true, true, true, true, true, true, true, false, false, false, false, false, false, true, false, false, false] rfl rfl (one_of HT_.out (by kernel_rfl)) (by decide) (fun K hK => ?_)
        refine goes_ Try.func11 (by kernel_rfl) rfl #[.agg #[.slice A2 l2.length c2]] (by rfl) rfl rfl (by (try simp only [List.map_toArray, List.map_cons, List.map_nil]); first | done | rfl) ?_
        refine (laws_toSpace.calls k A2 c2 l2 l2 y17 (Kd.C_below HP2.out (below_step HB4.out hbl)) HC2.out HT2.out).mono ?_
        rintro e y18 ⟨uc, rfl, hR, hb_⟩
        refine ⟨_, rfl, ?_⟩
        obtain ⟨Ac, cc, rfl⟩ := Kd.R_slice hR
        have hlc := Aside0.mk (Kd.R_reads' hR).2.1
        have hcc := Aside0.mk ((Kd.R_reads' hR).2.2)
        replace hca := Aside0.mk (Kd.C_below hca.out hb_)
        replace hcb := Aside0.mk (Kd.C_below hcb.out hb_)
        replace hx := blk_below hx hb_
        replace hbl := below_step hbl hb_
        clear hR hb_
        refine hK.out _ _ ⟨(blk_cell (blk_below BKs.out hbl) 0).trans rfl, (blk_cell (blk_below BKt.out hbl) 0).trans rfl⟩ (fun hHeld2 => ?_)
        clear hK K
        refine norm_ (a' := ?_) ?_ ?_
        rotate_left
        · show Act.put _ (some 48) _ = _
          simp only [Act.put, List.setIfInBounds_toArray, List.set_cons_zero, List.set_cons_succ, i64_w, i32_w]
          rfl
        refine one_ (i := 7) (N := some 50) #[true, true, true, true, true, true, true, true, false, false, false, false, false, true, false, false, false] rfl rfl (one_of HT_.out (by kernel_rfl)) (by decide) (fun K hK => ?_)
        refine goes_ Try.func17 (by kernel_rfl) rfl #[.slice A3 l3.length c3] (by rfl) rfl rfl (by (try simp only [List.map_toArray, List.map_cons, List.map_nil]); first | done | rfl) ?_
        refine (laws_toInt64S.calls k A3 c3 l3 l3 y18 (Kd.C_below HP3.out (below_step HB4.out hbl)) HC3.out HT3.out).mono ?_
        rintro e y19 ⟨ud, rfl, hR, hb_⟩
        refine ⟨_, rfl, ?_⟩
        obtain ⟨Ad, cd, rfl⟩ := Kd.R_slice hR
        have hld := Aside0.mk (Kd.R_reads' hR).2.1
        have hcd := Aside0.mk ((Kd.R_reads' hR).2.2)
        replace hca := Aside0.mk (Kd.C_below hca.out hb_)
        replace hcb := Aside0.mk (Kd.C_below hcb.out hb_)
        replace hcc := Aside0.mk (Kd.C_below hcc.out hb_)
        replace hx := blk_below hx hb_
        replace hbl := below_step hbl hb_
        clear hR hb_
        refine hK.out _ _ ⟨(blk_cell (blk_below BKs.out hbl) 0).trans rfl, (blk_cell (blk_below BKt.out hbl) 0).trans rfl⟩ (fun hHeld2 => ?_)
        clear hK K
        refine norm_ (a' := ?_) ?_ ?_
        rotate_left
        · show Act.put _ (some 50) _ = _
          simp only [Act.put, List.setIfInBounds_toArray, List.set_cons_zero, List.set_cons_succ, i64_w, i32_w]
          rfl
        refine one_ (i := 8) (N := some 51) #[true, true, true, true, true, true, true, true, true, false, false, false, false, true, false, false, false] rfl rfl (one_of HT_.out (by kernel_rfl)) (by decide) (fun K hK => ?_)
        refine goes_ Try.func16 (by kernel_rfl) rfl #[.agg #[.slice Aa l0.length ca], .slice Ab l1.length cb, .agg #[.slice Ac l2.length cc], .slice Ad l3.length cd] (by rfl) rfl rfl (by (try simp only [List.map_toArray, List.map_cons, List.map_nil]); first | done | rfl) ?_
        refine (spec_JoinOverPlace.calls k Aa ca l0 Ab cb l1 Ac cc l2 Ad cd l3 G H e0 y19 hca.out hla.out hcb.out hlb.out hcc.out hlc.out hcd.out hld.out Fw.out).mono ?_
        rintro e y20 ⟨v52, v53, rfl, h0_, h1_, hb_⟩
        refine ⟨_, rfl, ?_⟩
        replace h0_ := Kd.R_mono (Kd.R_lower h0_ hbl.size) (fun _ hk => hk)
        replace h1_ := Kd.R_mono (Kd.R_lower h1_ hbl.size) (fun _ hk => hk)
        replace hx := blk_below hx hb_
        replace hbl := below_step hbl hb_
        clear hb_
        refine hK.out _ _ ⟨(blk_cell (blk_below BKs.out hbl) 0).trans rfl, (blk_cell (blk_below BKt.out hbl) 0).trans rfl⟩ (fun hHeld2 => ?_)
        clear hK K
        refine norm_ (a' := ?_) ?_ ?_
        rotate_left
        · show Act.put _ (some 51) _ = _
          simp only [Act.put, List.setIfInBounds_toArray, List.set_cons_zero, List.set_cons_succ, i64_w, i32_w]
          rfl
        refine pure_ (i := 9) (N := some 42) (v := ?_) (a' := ?_) #[true, true, true, true, true, true, true, true, true, true, false, false, false, true, false, false, false] rfl rfl (any_of HT_.out (by kernel_rfl)) (fun _ _ _ h => h) (Or.inl ⟨by rfl, ?_⟩) ?_ ?_
        rotate_left
        · intro w'
          go_simp
          with_reducible rfl
        rotate_left
        · simp only [Act.put, List.setIfInBounds_toArray, List.set_cons_zero, List.set_cons_succ, i64_w, i32_w]
          rfl
        refine pure_ (i := 10) (N := some 52) (v := ?_) (a' := ?_) #[true, true, true, true, true, true, true, true, true, true, true, false, false, true, false, false, false] rfl rfl (any_of HT_.out (by kernel_rfl)) (fun _ _ _ h => h) (Or.inl ⟨by rfl, ?_⟩) ?_ ?_
        rotate_left
        · intro w'
          go_simp
          with_reducible rfl
        rotate_left
        · simp only [Act.put, List.setIfInBounds_toArray, List.set_cons_zero, List.set_cons_succ, i64_w, i32_w]
          rfl
        refine pure_ (i := 11) (N := some 53) (v := ?_) (a' := ?_) #[true, true, true, true, true, true, true, true, true, true, true, true, false, true, false, false, false] rfl rfl (any_of HT_.out (by kernel_rfl)) (fun _ _ _ h => h) (Or.inl ⟨by rfl, ?_⟩) ?_ ?_
        rotate_left
        · intro w'
          go_simp
          with_reducible rfl
        rotate_left
        · simp only [Act.put, List.setIfInBounds_toArray, List.set_cons_zero, List.set_cons_succ, i64_w, i32_w]
          rfl
        refine pure_ (i := 12) (N := some 54) (v := ?_) (a' := ?_) #[true, true, true, true, true, true, true, true, true, true, true, true, true, true, false, false, false] rfl rfl (any_of HT_.out (by kernel_rfl)) (fun _ _ _ h => h) (Or.inl ⟨by rfl, ?_⟩) ?_ ?_
        rotate_left
        · intro w'
          go_simp
          with_reducible rfl
        rotate_left
        · simp only [Act.put, List.setIfInBounds_toArray, List.set_cons_zero, List.set_cons_succ, i64_w, i32_w]
          rfl
        exact HJ (.slice Aa l0.length ca, .slice Ab l1.length cb, .slice Ac l2.length cc, .slice Ad l3.length cd, v52, v53, y1.heap.size) _ ⟨hbl, h0_, h1_, hx, hgx⟩
    · refine value_ (w1 := w5.alloc (.cells #[.slice none 0 0] 30)) (v := .pointer (some ⟨w5.heap.size, 0, none⟩)) (by rfl) rfl (by go_simp) ?_
      have hba := below_alloc (Below.refl w5.heap.size w5) (.cells #[.slice none 0 0] 30)
      have hx := blk_new w5 (.cells #[.slice none 0 0] 30)
      have hgx := hbl.size
      generalize hgx0 : w5.heap.size = gx at hx hgx hba ⊢
      generalize w5.alloc (.cells #[.slice none 0 0] 30) = y21 at hx hba ⊢
      subst hgx0
      replace hbl := below_step hbl hba
      clear hba
      refine hK.out _ _ ⟨(blk_cell (blk_below BKs.out hbl) 0).trans rfl, (blk_cell (blk_below BKt.out hbl) 0).trans rfl⟩ (fun hHeld2 => ?_)
      clear hK K
      refine norm_ (a' := ?_) ?_ ?_
      rotate_left
      · show Act.put _ (some 10) _ = _
        simp only [Act.put, List.setIfInBounds_toArray, List.set_cons_zero, List.set_cons_succ, i64_w, i32_w]
        rfl
      refine one_ (i := 1) (N := some 44) #[true, true, true, false, true, false, true, false, false, false, false, false, false, true, false, false, false] rfl rfl (one_of HT_.out (by kernel_rfl)) (by decide) (fun K hK => ?_)
      refine goes_ Try.func11 (by kernel_rfl) rfl #[.agg #[.slice A0 l0.length c0]] (by rfl) rfl rfl (by (try simp only [List.map_toArray, List.map_cons, List.map_nil]); first | done | rfl) ?_
      refine (laws_toSpace.calls k A0 c0 l0 l0 y21 (Kd.C_below HP0.out (below_step HB4.out hbl)) HC0.out HT0.out).mono ?_
      rintro e y22 ⟨ua, rfl, hR, hb_⟩
      refine ⟨_, rfl, ?_⟩
      obtain ⟨Aa, ca, rfl⟩ := Kd.R_slice hR
      have hla := Aside0.mk (Kd.R_reads' hR).2.1
      have hca := Aside0.mk ((Kd.R_reads' hR).2.2)
      replace hx := blk_below hx hb_
      replace hbl := below_step hbl hb_
      clear hR hb_
      refine hK.out _ _ ⟨(blk_cell (blk_below BKs.out hbl) 0).trans rfl, (blk_cell (blk_below BKt.out hbl) 0).trans rfl⟩ (fun hHeld2 => ?_)
      clear hK K
      refine norm_ (a' := ?_) ?_ ?_
      rotate_left
      · show Act.put _ (some 44) _ = _
        simp only [Act.put, List.setIfInBounds_toArray, List.set_cons_zero, List.set_cons_succ, i64_w, i32_w]
        rfl
      refine one_ (i := 3) (N := some 46) #[true, true, true, true, true, false, true, false, false, false, false, false, false, true, false, false, false] rfl rfl (one_of HT_.out (by kernel_rfl)) (by decide) (fun K hK => ?_)
      refine goes_ Try.func17 (by kernel_rfl) rfl #[.slice A1 l1.length c1] (by rfl) rfl rfl (by (try simp only [List.map_toArray, List.map_cons, List.map_nil]); first | done | rfl) ?_
      refine (laws_toInt64S.calls k A1 c1 l1 l1 y22 (Kd.C_below HP1.out (below_step HB4.out hbl)) HC1.out HT1.out).mono ?_
      rintro e y23 ⟨ub, rfl, hR, hb_⟩
      refine ⟨_, rfl, ?_⟩
      obtain ⟨Ab, cb, rfl⟩ := Kd.R_slice hR
      have hlb := Aside0.mk (Kd.R_reads' hR).2.1
      have hcb := Aside0.mk ((Kd.R_reads' hR).2.2)
      replace hca := Aside0.mk (Kd.C_below hca.out hb_)
      replace hx := blk_below hx hb_
      replace hbl := below_step hbl hb_
      clear hR hb_
      refine hK.out _ _ ⟨(blk_cell (blk_below BKs.out hbl) 0).trans rfl, (blk_cell (blk_below BKt.out hbl) 0).trans rfl⟩ (fun hHeld2 => ?_)
      clear hK K
      refine norm_ (a' := ?_) ?_ ?_
      rotate_left
      · show Act.put _ (some 46) _ = _
        simp only [Act.put, List.setIfInBounds_toArray, List.set_cons_zero, List.set_cons_succ, i64_w, i32_w]
        rfl
      refine one_ (i := 5) (N := some 48) #[true, true, true, true, true, true, true, false, false, false, false, false, false, true, false, false, false] rfl rfl (one_of HT_.out (by kernel_rfl)) (by decide) (fun K hK => ?_)
      refine goes_ Try.func11 (by kernel_rfl) rfl #[.agg #[.slice A2 l2.length c2]] (by rfl) rfl rfl (by (try simp only [List.map_toArray, List.map_cons, List.map_nil]); first | done | rfl) ?_
      refine (laws_toSpace.calls k A2 c2 l2 l2 y23 (Kd.C_below HP2.out (below_step HB4.out hbl)) HC2.out HT2.out).mono ?_
      rintro e y24 ⟨uc, rfl, hR, hb_⟩
      refine ⟨_, rfl, ?_⟩
      obtain ⟨Ac, cc, rfl⟩ := Kd.R_slice hR
      have hlc := Aside0.mk (Kd.R_reads' hR).2.1
      have hcc := Aside0.mk ((Kd.R_reads' hR).2.2)
      replace hca := Aside0.mk (Kd.C_below hca.out hb_)
      replace hcb := Aside0.mk (Kd.C_below hcb.out hb_)
      replace hx := blk_below hx hb_
      replace hbl := below_step hbl hb_
      clear hR hb_
      refine hK.out _ _ ⟨(blk_cell (blk_below BKs.out hbl) 0).trans rfl, (blk_cell (blk_below BKt.out hbl) 0).trans rfl⟩ (fun hHeld2 => ?_)
      clear hK K
      refine norm_ (a' := ?_) ?_ ?_
      rotate_left
      · show Act.put _ (some 48) _ = _
        simp only [Act.put, List.setIfInBounds_toArray, List.set_cons_zero, List.set_cons_succ, i64_w, i32_w]
        rfl
      refine one_ (i := 7) (N := some 50) #[true, true, true, true, true, true, true, true, false, false, false, false, false, true, false, false, false] rfl rfl (one_of HT_.out (by kernel_rfl)) (by decide) (fun K hK => ?_)
      refine goes_ Try.func17 (by kernel_rfl) rfl #[.slice A3 l3.length c3] (by rfl) rfl rfl (by (try simp only [List.map_toArray, List.map_cons, List.map_nil]); first | done | rfl) ?_
      refine (laws_toInt64S.calls k A3 c3 l3 l3 y24 (Kd.C_below HP3.out (below_step HB4.out hbl)) HC3.out HT3.out).mono ?_
      rintro e y25 ⟨ud, rfl, hR, hb_⟩
      refine ⟨_, rfl, ?_⟩
      obtain ⟨Ad, cd, rfl⟩ := Kd.R_slice hR
      have hld := Aside0.mk (Kd.R_reads' hR).2.1
      have hcd := Aside0.mk ((Kd.R_reads' hR).2.2)
      replace hca := Aside0.mk (Kd.C_below hca.out hb_)
      replace hcb := Aside0.mk (Kd.C_below hcb.out hb_)
      replace hcc := Aside0.mk (Kd.C_below hcc.out hb_)
      replace hx := blk_below hx hb_
      replace hbl := below_step hbl hb_
      clear hR hb_
      refine hK.out _ _ ⟨(blk_cell (blk_below BKs.out hbl) 0).trans rfl, (blk_cell (blk_below BKt.out hbl) 0).trans rfl⟩ (fun hHeld2 => ?_)
      clear hK K
      refine norm_ (a' := ?_) ?_ ?_
      rotate_left
      · show Act.put _ (some 50) _ = _
        simp only [Act.put, List.setIfInBounds_toArray, List.set_cons_zero, List.set_cons_succ, i64_w, i32_w]
        rfl
      refine one_ (i := 8) (N := some 51) #[true, true, true, true, true, true, true, true, true, false, false, false, false, true, false, false, false] rfl rfl (one_of HT_.out (by kernel_rfl)) (by decide) (fun K hK => ?_)
      refine goes_ Try.func16 (by kernel_rfl) rfl #[.agg #[.slice Aa l0.length ca], .slice Ab l1.length cb, .agg #[.slice Ac l2.length cc], .slice Ad l3.length cd] (by rfl) rfl rfl (by (try simp only [List.map_toArray, List.map_cons, List.map_nil]); first | done | rfl) ?_
      refine (spec_JoinOverPlace.calls k Aa ca l0 Ab cb l1 Ac cc l2 Ad cd l3 G H e0 y25 hca.out hla.out hcb.out hlb.out hcc.out hlc.out hcd.out hld.out Fw.out).mono ?_
      rintro e y26 ⟨v52, v53, rfl, h0_, h1_, hb_⟩
      refine ⟨_, rfl, ?_⟩
      replace h0_ := Kd.R_mono (Kd.R_lower h0_ hbl.size) (fun _ hk => hk)
      replace h1_ := Kd.R_mono (Kd.R_lower h1_ hbl.size) (fun _ hk => hk)
      replace hx := blk_below hx hb_
      replace hbl := below_step hbl hb_
      clear hb_
      refine hK.out _ _ ⟨(blk_cell (blk_below BKs.out hbl) 0).trans rfl, (blk_cell (blk_below BKt.out hbl) 0).trans rfl⟩ (fun hHeld2 => ?_)
      clear hK K
      refine norm_ (a' := ?_) ?_ ?_
      rotate_left
      · show Act.put _ (some 51) _ = _
        simp only [Act.put, List.setIfInBounds_toArray, List.set_cons_zero, List.set_cons_succ, i64_w, i32_w]
        rfl
      refine pure_ (i := 9) (N := some 42) (v := ?_) (a' := ?_) #[true, true, true, true, true, true, true, true, true, true, false, false, false, true, false, false, false] rfl rfl (any_of HT_.out (by kernel_rfl)) (fun _ _ _ h => h) (Or.inl ⟨by rfl, ?_⟩) ?_ ?_
      rotate_left
      · intro w'
        go_simp
        with_reducible rfl
      rotate_left
      · simp only [Act.put, List.setIfInBounds_toArray, List.set_cons_zero, List.set_cons_succ, i64_w, i32_w]
        rfl
      refine pure_ (i := 10) (N := some 52) (v := ?_) (a' := ?_) #[true, true, true, true, true, true, true, true, true, true, true, false, false, true, false, false, false] rfl rfl (any_of HT_.out (by kernel_rfl)) (fun _ _ _ h => h) (Or.inl ⟨by rfl, ?_⟩) ?_ ?_
      rotate_left
      · intro w'
        go_simp
        with_reducible rfl
      rotate_left
      · simp only [Act.put, List.setIfInBounds_toArray, List.set_cons_zero, List.set_cons_succ, i64_w, i32_w]
        rfl
      refine pure_ (i := 11) (N := some 53) (v := ?_) (a' := ?_) #[true, true, true, true, true, true, true, true, true, true, true, true, false, true, false, false, false] rfl rfl (any_of HT_.out (by kernel_rfl)) (fun _ _ _ h => h) (Or.inl ⟨by rfl, ?_⟩) ?_ ?_
      rotate_left
      · intro w'
        go_simp
        with_reducible rfl
      rotate_left
      · simp only [Act.put, List.setIfInBounds_toArray, List.set_cons_zero, List.set_cons_succ, i64_w, i32_w]
        rfl
      refine pure_ (i := 12) (N := some 54) (v := ?_) (a' := ?_) #[true, true, true, true, true, true, true, true, true, true, true, true, true, true, false, false, false] rfl rfl (any_of HT_.out (by kernel_rfl)) (fun _ _ _ h => h) (Or.inl ⟨by rfl, ?_⟩) ?_ ?_
      rotate_left
      · intro w'
        go_simp
        with_reducible rfl
      rotate_left
      · simp only [Act.put, List.setIfInBounds_toArray, List.set_cons_zero, List.set_cons_succ, i64_w, i32_w]
        rfl
      exact HJ (.slice Aa l0.length ca, .slice Ab l1.length cb, .slice Ac l2.length cc, .slice Ad l3.length cd, v52, v53, w5.heap.size) _ ⟨hbl, h0_, h1_, hx, hgx⟩
  rintro ⟨ua, ub, uc, ud, vGa, vHa, gxa⟩ we ⟨hbl, h0_, h1_, hx, hgx⟩
  dsimp only at h0_ h1_ hx hgx ⊢
  refine norm_ (a' := ?_) ?_ ?_
  rotate_left
  · simp only [putAll, Act.put, List.setIfInBounds_toArray, List.set_cons_zero, List.set_cons_succ, i64_w, i32_w]
    rfl
  obtain ⟨AGa, cGa, rfl⟩ := Kd.R_slice h0_
  obtain ⟨AHa, cHa, rfl⟩ := Kd.R_slice h1_
  have hcx : we.cell? ⟨gxa, 0, none⟩ = some (.slice none 0 0) := (blk_cell hx 0).trans rfl
  have hfx : we.frozen? ⟨gxa, 0, none⟩ = false := blk_frozen hx 0
  refine one_ (i := 14) (N := none) #[true, true, true, true, true, true, true, true, true, true, true, true, true, true, true, false, false] rfl rfl (one_of HT_.out (by kernel_rfl)) (by decide) (fun K hK => ?_)
  refine skip_ (w1 := we.setCell ⟨gxa, 0, none⟩ (.slice AGa G.length cGa)) (by rfl) rfl ?_ ?_
  · go_simp
    try rfl
  have hb_ : Below w4.heap.size w4 (we.setCell ⟨gxa, 0, none⟩ (.slice AGa G.length cGa)) := below_set hbl hgx
  replace h0_ := Kd.R_mono (Kd.R_far (p := ⟨gxa, 0, none⟩) (Kd.R_types h0_ hx (by decide)) (fun _ hk => hk.2) (.slice AGa G.length cGa)) (fun _ hk => hk.1)
  replace h1_ := Kd.R_mono (Kd.R_far (p := ⟨gxa, 0, none⟩) (Kd.R_types h1_ hx (by decide)) (fun _ hk => hk.2) (.slice AGa G.length cGa)) (fun _ hk => hk.1)
  have BKa := Aside0.mk (show (we.setCell ⟨gxa, 0, none⟩ (.slice AGa G.length cGa)).heap[gxa]? = some (.cells #[.slice AGa G.length cGa] 30 (0, 0)) from blk_put (cs := #[.slice none 0 0]) hx 0 _ rfl)
  generalize we.setCell ⟨gxa, 0, none⟩ (.slice AGa G.length cGa) = w6 at hb_ h0_ h1_ BKa ⊢
  clear hx hcx hfx hbl
  have hsz := HB4.out.size
  have La := Aside0.mk hgx
  have Na := Aside0.mk (blk_lt BKa.out)
  clear hgx
  have HB6 := Aside0.mk (below_step HB4.out hb_)
  have Z5 := Aside0.mk (hb_.size)
  replace BKs := Aside0.mk (blk_below BKs.out hb_)
  replace BKt := Aside0.mk (blk_below BKt.out hb_)
  clear HB4
  have HRGa := Aside0.mk ((Rw.new hsz h0_).and (Q := fun k => some k ≠ (.slice AHa H.length cHa : Value).ownBlock) h0_.1)
  have HRHa := Aside0.mk ((Rw.new hsz h1_).and (Q := fun k => some k = (.slice AHa H.length cHa : Value).ownBlock) (fun k hk => hk.symm))
  clear h0_ h1_ hsz hb_ hbw
  refine hK.out _ _ ⟨(blk_cell BKs.out 0).trans rfl, (blk_cell BKt.out 0).trans rfl⟩ (fun hHeld => ?_)
  clear hK K
  refine pure_ (i := 15) (N := some 11) (v := ?_) (a' := ?_) #[true, true, true, true, true, true, true, true, true, true, true, true, true, true, true, true, false] rfl rfl (any_of HT_.out (by kernel_rfl)) (fun _ _ _ h => h) (Or.inl ⟨by rfl, ?_⟩) ?_ ?_
  rotate_left
  · intro w'
    go_simp
    with_reducible rfl
  rotate_left
  · simp only [Act.put, List.setIfInBounds_toArray, List.set_cons_zero, List.set_cons_succ, i64_w, i32_w]
    rfl
  refine pure_ (i := 16) (N := some 12) (v := ?_) (a' := ?_) #[true, true, true, true, true, true, true, true, true, true, true, true, true, true, true, true, true] rfl rfl (any_of HT_.out (by kernel_rfl)) (fun _ _ _ h => h) (Or.inl ⟨by rfl, ?_⟩) ?_ ?_
  rotate_left
  · intro w'
    go_simp
    with_reducible rfl
  rotate_left
  · simp only [Act.put, List.setIfInBounds_toArray, List.set_cons_zero, List.set_cons_succ, i64_w, i32_w]
    rfl
  refine done_ (by kernel_rfl) ?_
  have hcs0 : w6.cell? ⟨w.heap.size, 0, none⟩ = some (.slice A0 l0.length c0) := (blk_cell BKs.out 0).trans rfl
  go_wp2_with fail
  clear hcs0
  refine (laws_toSpace.calls k A0 c0 l0 l0 w6 (Kd.C_below HP0.out HB6.out) HC0.out HT0.out).mono ?_
  rintro e w7 ⟨vX, rfl, hR, hb7⟩
  have hsz : w.heap.size ≤ w6.heap.size := HB6.out.size
  have HB7 := Aside0.mk (below_step HB6.out hb7)
  have Z6 := Aside0.mk (hb7.size)
  replace BKs := Aside0.mk (blk_below BKs.out hb7)
  replace BKt := Aside0.mk (blk_below BKt.out hb7)
  replace BKa := Aside0.mk (blk_below BKa.out hb7)
  replace HRGa := Aside0.mk (HRGa.out.below hb7)
  replace HRHa := Aside0.mk (HRHa.out.below hb7)
  clear HB6
  obtain ⟨AX, cX, rfl⟩ := Kd.R_slice hR
  have HRX := Aside0.mk (Rw.new hsz hR)
  clear hR
  clear hb7 hsz
  go_wp2_with fail
  have hb8 := below_alloc (Below.refl w7.heap.size w7) (.cells #[.slice AX l0.length cX] 30)
  have BKx := Aside0.mk (blk_new w7 (.cells #[.slice AX l0.length cX] 30))
  generalize w7.alloc (.cells #[.slice AX l0.length cX] 30) = w8 at hb8 BKx ⊢
  have HB8 := Aside0.mk (below_step HB7.out hb8)
  have Z7 := Aside0.mk (hb8.size)
  replace BKs := Aside0.mk (blk_below BKs.out hb8)
  replace BKt := Aside0.mk (blk_below BKt.out hb8)
  replace BKa := Aside0.mk (blk_below BKa.out hb8)
  replace HRGa := Aside0.mk (HRGa.out.below hb8)
  replace HRHa := Aside0.mk (HRHa.out.below hb8)
  replace HRX := Aside0.mk (HRX.out.below hb8)
  clear HB7
  clear hb8
  have Nx := Aside0.mk (blk_lt BKx.out)
  refine (laws_toInt64S.calls k A1 c1 l1 l1 w8 (Kd.C_below HP1.out HB8.out) HC1.out HT1.out).mono ?_
  rintro e w9 ⟨vY, rfl, hR, hb9⟩
  have hsz : w.heap.size ≤ w8.heap.size := HB8.out.size
  have HB9 := Aside0.mk (below_step HB8.out hb9)
  have Z8 := Aside0.mk (hb9.size)
  replace BKs := Aside0.mk (blk_below BKs.out hb9)
  replace BKt := Aside0.mk (blk_below BKt.out hb9)
  replace BKa := Aside0.mk (blk_below BKa.out hb9)
  replace BKx := Aside0.mk (blk_below BKx.out hb9)
  replace HRGa := Aside0.mk (HRGa.out.below hb9)
  replace HRHa := Aside0.mk (HRHa.out.below hb9)
  replace HRX := Aside0.mk (HRX.out.below hb9)
  clear HB8
  obtain ⟨AY, cY, rfl⟩ := Kd.R_slice hR
  have HRY := Aside0.mk (Rw.new hsz hR)
  clear hR
  clear hb9 hsz
  have hct0 : w9.cell? ⟨(w.heap.size + 1), 0, none⟩ = some (.slice A2 l2.length c2) := (blk_cell BKt.out 0).trans rfl
  go_wp2_with fail
  clear hct0
  refine (laws_toSpace.calls k A2 c2 l2 l2 w9 (Kd.C_below HP2.out HB9.out) HC2.out HT2.out).mono ?_
  rintro e w10 ⟨vV, rfl, hR, hb10⟩
  have hsz : w.heap.size ≤ w9.heap.size := HB9.out.size
  have HB10 := Aside0.mk (below_step HB9.out hb10)
  have Z9 := Aside0.mk (hb10.size)
  replace BKs := Aside0.mk (blk_below BKs.out hb10)
  replace BKt := Aside0.mk (blk_below BKt.out hb10)
  replace BKa := Aside0.mk (blk_below BKa.out hb10)
  replace BKx := Aside0.mk (blk_below BKx.out hb10)
  replace HRGa := Aside0.mk (HRGa.out.below hb10)
  replace HRHa := Aside0.mk (HRHa.out.below hb10)
  replace HRX := Aside0.mk (HRX.out.below hb10)
  replace HRY := Aside0.mk (HRY.out.below hb10)
  clear HB9
  obtain ⟨AV, cV, rfl⟩ := Kd.R_slice hR
  have HRV := Aside0.mk (Rw.new hsz hR)
  clear hR
  clear hb10 hsz
  go_wp2_with fail
  have hb11 := below_alloc (Below.refl w10.heap.size w10) (.cells #[.slice AV l2.length cV] 30)
  have BKv := Aside0.mk (blk_new w10 (.cells #[.slice AV l2.length cV] 30))
  generalize w10.alloc (.cells #[.slice AV l2.length cV] 30) = w11 at hb11 BKv ⊢
  have HB11 := Aside0.mk (below_step HB10.out hb11)
  have Z10 := Aside0.mk (hb11.size)
  replace BKs := Aside0.mk (blk_below BKs.out hb11)
  replace BKt := Aside0.mk (blk_below BKt.out hb11)
  replace BKa := Aside0.mk (blk_below BKa.out hb11)
  replace BKx := Aside0.mk (blk_below BKx.out hb11)
  replace HRGa := Aside0.mk (HRGa.out.below hb11)
  replace HRHa := Aside0.mk (HRHa.out.below hb11)
  replace HRX := Aside0.mk (HRX.out.below hb11)
  replace HRY := Aside0.mk (HRY.out.below hb11)
  replace HRV := Aside0.mk (HRV.out.below hb11)
  clear HB10
  clear hb11
  have Nv := Aside0.mk (blk_lt BKv.out)
  refine (laws_toInt64S.calls k A3 c3 l3 l3 w11 (Kd.C_below HP3.out HB11.out) HC3.out HT3.out).mono ?_
  rintro e w12 ⟨vU, rfl, hR, hb12⟩
  have hsz : w.heap.size ≤ w11.heap.size := HB11.out.size
  have HB12 := Aside0.mk (below_step HB11.out hb12)
  have Z11 := Aside0.mk (hb12.size)
  replace BKs := Aside0.mk (blk_below BKs.out hb12)
  replace BKt := Aside0.mk (blk_below BKt.out hb12)
  replace BKa := Aside0.mk (blk_below BKa.out hb12)
  replace BKx := Aside0.mk (blk_below BKx.out hb12)
  replace BKv := Aside0.mk (blk_below BKv.out hb12)
  replace HRGa := Aside0.mk (HRGa.out.below hb12)
  replace HRHa := Aside0.mk (HRHa.out.below hb12)
  replace HRX := Aside0.mk (HRX.out.below hb12)
  replace HRY := Aside0.mk (HRY.out.below hb12)
  replace HRV := Aside0.mk (HRV.out.below hb12)
  clear HB11
  obtain ⟨AU, cU, rfl⟩ := Kd.R_slice hR
  have HRU := Aside0.mk (Rw.new hsz hR)
  clear hR
  clear hb12 hsz
  have hcx0 : w12.cell? ⟨w7.heap.size, 0, none⟩ = some (.slice AX l0.length cX) := (blk_cell BKx.out 0).trans rfl
  have hcv0 : w12.cell? ⟨w10.heap.size, 0, none⟩ = some (.slice AV l2.length cV) := (blk_cell BKv.out 0).trans rfl
  go_wp2_with fail
  clear hcx0 hcv0
  refine (impl_JoinOverPlace.calls k _ AX cX l0 AY cY l1 _ AV cV l2 AU cU l3 G H e0 w12 (Kd.R_V HRX.out.R) (Kd.R_reads' HRY.out.R).2.2 (Kd.R_reads' HRY.out.R).2.1 (Kd.R_V HRV.out.R) (Kd.R_reads' HRU.out.R).2.2 (Kd.R_reads' HRU.out.R).2.1 Fg.out).mono ?_
  rintro e w13 ⟨vg, vh, rfl, h0_, h1_, hb_⟩
  have hsz : w.heap.size ≤ w12.heap.size := HB12.out.size
  have HB13 := Aside0.mk (below_step HB12.out hb_)
  have Z12 := Aside0.mk (hb_.size)
  replace BKs := Aside0.mk (blk_below BKs.out hb_)
  replace BKt := Aside0.mk (blk_below BKt.out hb_)
  replace BKa := Aside0.mk (blk_below BKa.out hb_)
  replace BKx := Aside0.mk (blk_below BKx.out hb_)
  replace BKv := Aside0.mk (blk_below BKv.out hb_)
  replace HRGa := Aside0.mk (HRGa.out.below hb_)
  replace HRHa := Aside0.mk (HRHa.out.below hb_)
  replace HRX := Aside0.mk (HRX.out.below hb_)
  replace HRY := Aside0.mk (HRY.out.below hb_)
  replace HRV := Aside0.mk (HRV.out.below hb_)
  replace HRU := Aside0.mk (HRU.out.below hb_)
  clear HB12
  obtain ⟨AGb, cGb, rfl⟩ := Kd.R_slice h0_
  obtain ⟨AHb, cHb, rfl⟩ := Kd.R_slice h1_
  have HRGb := Aside0.mk ((Rw.new hsz h0_).and (Q := fun k => some k ≠ (.slice AHb H.length cHb : Value).ownBlock) (fun k hk => by have := h0_.1 k hk; first | exact this | exact this.2))
  have HRHb := Aside0.mk ((Rw.new hsz h1_).and (Q := fun k => some k = (.slice AHb H.length cHb : Value).ownBlock) (fun k hk => hk.symm))
  clear h0_ h1_
  clear hb_ hsz
  have hca0 : (w13.alloc (.cells #[.slice AGb G.length cGb] 30)).cell? ⟨gxa, 0, none⟩ = some (.slice AGa G.length cGa) := (blk_cell (blk_alloc BKa.out _) 0).trans rfl
  go_wp2_with fail
  clear hca0
  have hb14 := below_alloc (Below.refl w13.heap.size w13) (.cells #[.slice AGb G.length cGb] 30)
  have BKg := Aside0.mk (blk_new w13 (.cells #[.slice AGb G.length cGb] 30))
  generalize w13.alloc (.cells #[.slice AGb G.length cGb] 30) = w14 at hb14 BKg ⊢
  have HB14 := Aside0.mk (below_step HB13.out hb14)
  have Z13 := Aside0.mk (hb14.size)
  replace BKs := Aside0.mk (blk_below BKs.out hb14)
  replace BKt := Aside0.mk (blk_below BKt.out hb14)
  replace BKa := Aside0.mk (blk_below BKa.out hb14)
  replace BKx := Aside0.mk (blk_below BKx.out hb14)
  replace BKv := Aside0.mk (blk_below BKv.out hb14)
  replace HRGa := Aside0.mk (HRGa.out.below hb14)
  replace HRHa := Aside0.mk (HRHa.out.below hb14)
  replace HRX := Aside0.mk (HRX.out.below hb14)
  replace HRY := Aside0.mk (HRY.out.below hb14)
  replace HRV := Aside0.mk (HRV.out.below hb14)
  replace HRU := Aside0.mk (HRU.out.below hb14)
  replace HRGb := Aside0.mk (HRGb.out.below hb14)
  replace HRHb := Aside0.mk (HRHb.out.below hb14)
  clear HB13
  clear hb14
  have Ng := Aside0.mk (blk_lt BKg.out)
  refine (laws_eqSpace.calls k AGb cGb G AGa cGa G true w14 (Kd.R_reads' HRGb.out.R).2.2 (Kd.R_reads' HRGb.out.R).2.1 (Kd.R_reads' HRGa.out.R).2.2 (Kd.R_reads' HRGa.out.R).2.1 Fe1.out).mono ?_
  rintro e w15 ⟨rfl, hb15⟩
  have HB15 := Aside0.mk (below_step HB14.out hb15)
  have Z14 := Aside0.mk (hb15.size)
  replace BKs := Aside0.mk (blk_below BKs.out hb15)
  replace BKt := Aside0.mk (blk_below BKt.out hb15)
  replace BKa := Aside0.mk (blk_below BKa.out hb15)
  replace BKx := Aside0.mk (blk_below BKx.out hb15)
  replace BKv := Aside0.mk (blk_below BKv.out hb15)
  replace BKg := Aside0.mk (blk_below BKg.out hb15)
  replace HRGa := Aside0.mk (HRGa.out.below hb15)
  replace HRHa := Aside0.mk (HRHa.out.below hb15)
  replace HRX := Aside0.mk (HRX.out.below hb15)
  replace HRY := Aside0.mk (HRY.out.below hb15)
  replace HRV := Aside0.mk (HRV.out.below hb15)
  replace HRU := Aside0.mk (HRU.out.below hb15)
  replace HRGb := Aside0.mk (HRGb.out.below hb15)
  replace HRHb := Aside0.mk (HRHb.out.below hb15)
  clear HB14
  clear hb15
  go_wp2_with fail
  refine (laws_eqInt64S.calls k AHb cHb H AHa cHa H true w15 (Kd.R_reads' HRHb.out.R).2.2 (Kd.R_reads' HRHb.out.R).2.1 (Kd.R_reads' HRHa.out.R).2.2 (Kd.R_reads' HRHa.out.R).2.1 Fe2.out).mono ?_
  rintro e w16 ⟨rfl, hb16⟩
  replace hb16 := hb16.below
  have HB16 := Aside0.mk (below_step HB15.out hb16)
  have Z15 := Aside0.mk (hb16.size)
  replace BKs := Aside0.mk (blk_below BKs.out hb16)
  replace BKt := Aside0.mk (blk_below BKt.out hb16)
  replace BKa := Aside0.mk (blk_below BKa.out hb16)
  replace BKx := Aside0.mk (blk_below BKx.out hb16)
  replace BKv := Aside0.mk (blk_below BKv.out hb16)
  replace BKg := Aside0.mk (blk_below BKg.out hb16)
  replace HRGa := Aside0.mk (HRGa.out.below hb16)
  replace HRHa := Aside0.mk (HRHa.out.below hb16)
  replace HRX := Aside0.mk (HRX.out.below hb16)
  replace HRY := Aside0.mk (HRY.out.below hb16)
  replace HRV := Aside0.mk (HRV.out.below hb16)
  replace HRU := Aside0.mk (HRU.out.below hb16)
  replace HRGb := Aside0.mk (HRGb.out.below hb16)
  replace HRHb := Aside0.mk (HRHb.out.below hb16)
  clear HB15
  clear hb16
  go_wp2_with fail
  refine start_ (n := 5) (S := fun w' => w'.cell? ⟨w7.heap.size, 0, none⟩ = some (.slice AX l0.length cX) ∧ w'.cell? ⟨w.heap.size, 0, none⟩ = some (.slice A0 l0.length c0)) (ds := []) #[false, false, false, false, false] (by kernel_rfl) rfl rfl ⟨(blk_cell BKx.out 0).trans rfl, (blk_cell BKs.out 0).trans rfl⟩ (fun hHeld => ?_); refine with_tabW jo20.tab jo20.bits (fun HT_ HW_ => ?_)
  have hbd := below_drew (Below.refl w16.heap.size w16)
  generalize w16.drew = w17 at hbd hHeld ⊢
  have HB17 := Aside0.mk (below_step HB16.out hbd)
  have Z16 := Aside0.mk (hbd.size)
  replace BKs := Aside0.mk (blk_below BKs.out hbd)
  replace BKt := Aside0.mk (blk_below BKt.out hbd)
  replace BKa := Aside0.mk (blk_below BKa.out hbd)
  replace BKx := Aside0.mk (blk_below BKx.out hbd)
  replace BKv := Aside0.mk (blk_below BKv.out hbd)
  replace BKg := Aside0.mk (blk_below BKg.out hbd)
  replace HRGa := Aside0.mk (HRGa.out.below hbd)
  replace HRHa := Aside0.mk (HRHa.out.below hbd)
  replace HRX := Aside0.mk (HRX.out.below hbd)
  replace HRY := Aside0.mk (HRY.out.below hbd)
  replace HRV := Aside0.mk (HRV.out.below hbd)
  replace HRU := Aside0.mk (HRU.out.below hbd)
  replace HRGb := Aside0.mk (HRGb.out.below hbd)
  replace HRHb := Aside0.mk (HRHb.out.below hbd)
  clear HB16
  clear hbd
  refine take_ (i := 0) (N := some 87) (v := ?_) (a' := ?_) #[true, false, false, false, false] rfl rfl (take_ofW HT_.out HW_.out (by kernel_rfl)) (fun _ _ _ h => h) (Or.inl ⟨by rfl, ?_⟩) hHeld ?_ ?_
  rotate_left
  · rintro w' ⟨s0, s1⟩
    go_simp
    with_reducible rfl
  rotate_left
  · simp only [Act.put, List.setIfInBounds_toArray, List.set_cons_zero, List.set_cons_succ, i64_w, i32_w]
    rfl
  refine take_ (i := 1) (N := some 88) (v := ?_) (a' := ?_) #[true, true, false, false, false] rfl rfl (take_ofW HT_.out HW_.out (by kernel_rfl)) (fun _ _ _ h => h) (Or.inl ⟨by rfl, ?_⟩) hHeld ?_ ?_
  rotate_left
  · rintro w' ⟨s0, s1⟩
    go_simp
    with_reducible rfl
  rotate_left
  · simp only [Act.put, List.setIfInBounds_toArray, List.set_cons_zero, List.set_cons_succ, i64_w, i32_w]
    rfl
  refine one_ (i := 2) (N := some 89) #[true, true, true, false, false] rfl rfl (one_of HT_.out (by kernel_rfl)) (by decide) (fun K hK => ?_)
  refine goes_ Try.func11 (by kernel_rfl) rfl #[.agg #[.slice A0 l0.length c0]] (by rfl) rfl rfl (by (try simp only [List.map_toArray, List.map_cons, List.map_nil]); first | done | rfl) ?_
  refine (laws_toSpace.calls k A0 c0 l0 l0 w17 (Kd.C_below HP0.out HB17.out) HC0.out HT0.out).mono ?_
  rintro e w18 ⟨vT, rfl, hR, hb18⟩
  have hsz : w.heap.size ≤ w17.heap.size := HB17.out.size
  have HB18 := Aside0.mk (below_step HB17.out hb18)
  have Z17 := Aside0.mk (hb18.size)
  replace BKs := Aside0.mk (blk_below BKs.out hb18)
  replace BKt := Aside0.mk (blk_below BKt.out hb18)
  replace BKa := Aside0.mk (blk_below BKa.out hb18)
  replace BKx := Aside0.mk (blk_below BKx.out hb18)
  replace BKv := Aside0.mk (blk_below BKv.out hb18)
  replace BKg := Aside0.mk (blk_below BKg.out hb18)
  replace HRGa := Aside0.mk (HRGa.out.below hb18)
  replace HRHa := Aside0.mk (HRHa.out.below hb18)
  replace HRX := Aside0.mk (HRX.out.below hb18)
  replace HRY := Aside0.mk (HRY.out.below hb18)
  replace HRV := Aside0.mk (HRV.out.below hb18)
  replace HRU := Aside0.mk (HRU.out.below hb18)
  replace HRGb := Aside0.mk (HRGb.out.below hb18)
  replace HRHb := Aside0.mk (HRHb.out.below hb18)
  clear HB17
  obtain ⟨AT, cT, rfl⟩ := Kd.R_slice hR
  have HRT := Aside0.mk (Rw.new hsz hR)
  clear hR
  clear hb18 hsz
  refine ⟨_, rfl, ?_⟩
  refine hK.out _ _ ⟨(blk_cell BKx.out 0).trans rfl, (blk_cell BKs.out 0).trans rfl⟩ (fun hHeld => ?_)
  clear hK K
  refine norm_ (a' := ?_) ?_ ?_
  rotate_left
  · show Act.put _ (some 89) _ = _
    simp only [Act.put, List.setIfInBounds_toArray, List.set_cons_zero, List.set_cons_succ, i64_w, i32_w]
    rfl
  refine one_ (i := 3) (N := some 90) #[true, true, true, true, false] rfl rfl (one_of HT_.out (by kernel_rfl)) (by decide) (fun K hK => ?_)
  refine goes_ Try.func14 (by kernel_rfl) rfl #[.agg #[.slice AX l0.length cX], .agg #[.slice AT l0.length cT]] (by rfl) rfl rfl (by (try simp only [List.map_toArray, List.map_cons, List.map_nil]); first | done | rfl) ?_
  refine (laws_eqSpace.calls k AX cX l0 AT cT l0 true w18 (Kd.R_reads' HRX.out.R).2.2 (Kd.R_reads' HRX.out.R).2.1 (Kd.R_reads' HRT.out.R).2.2 (Kd.R_reads' HRT.out.R).2.1 Fq0.out).mono ?_
  rintro e w19 ⟨rfl, hb19⟩
  have HB19 := Aside0.mk (below_step HB18.out hb19)
  have Z18 := Aside0.mk (hb19.size)
  replace BKs := Aside0.mk (blk_below BKs.out hb19)
  replace BKt := Aside0.mk (blk_below BKt.out hb19)
  replace BKa := Aside0.mk (blk_below BKa.out hb19)
  replace BKx := Aside0.mk (blk_below BKx.out hb19)
  replace BKv := Aside0.mk (blk_below BKv.out hb19)
  replace BKg := Aside0.mk (blk_below BKg.out hb19)
  replace HRGa := Aside0.mk (HRGa.out.below hb19)
  replace HRHa := Aside0.mk (HRHa.out.below hb19)
  replace HRX := Aside0.mk (HRX.out.below hb19)
  replace HRY := Aside0.mk (HRY.out.below hb19)
  replace HRV := Aside0.mk (HRV.out.below hb19)
  replace HRU := Aside0.mk (HRU.out.below hb19)
  replace HRGb := Aside0.mk (HRGb.out.below hb19)
  replace HRHb := Aside0.mk (HRHb.out.below hb19)
  replace HRT := Aside0.mk (HRT.out.below hb19)
  clear HB18
  clear hb19
  clear HRT
  refine ⟨_, rfl, ?_⟩
  refine hK.out _ _ ⟨(blk_cell BKx.out 0).trans rfl, (blk_cell BKs.out 0).trans rfl⟩ (fun hHeld => ?_)
  clear hK K
  refine norm_ (a' := ?_) ?_ ?_
  rotate_left
  · show Act.put _ (some 90) _ = _
    simp only [Act.put, List.setIfInBounds_toArray, List.set_cons_zero, List.set_cons_succ, i64_w, i32_w]
    rfl
  refine pure_ (i := 4) (N := some 91) (v := ?_) (a' := ?_) #[true, true, true, true, true] rfl rfl (any_of HT_.out (by kernel_rfl)) (fun _ _ _ h => h) (Or.inl ⟨by rfl, ?_⟩) ?_ ?_
  rotate_left
  · intro w'
    go_simp
    with_reducible rfl
  rotate_left
  · simp only [Act.put, List.setIfInBounds_toArray, List.set_cons_zero, List.set_cons_succ, i64_w, i32_w]
    rfl
  refine done_ (by kernel_rfl) ?_
  go_wp2_with fail
  refine (laws_toInt64S.calls k A1 c1 l1 l1 w19 (Kd.C_below HP1.out HB19.out) HC1.out HT1.out).mono ?_
  rintro e w20 ⟨vT, rfl, hR, hb20⟩
  have hsz : w.heap.size ≤ w19.heap.size := HB19.out.size
  have HB20 := Aside0.mk (below_step HB19.out hb20)
  have Z19 := Aside0.mk (hb20.size)
  replace BKs := Aside0.mk (blk_below BKs.out hb20)
  replace BKt := Aside0.mk (blk_below BKt.out hb20)
  replace BKa := Aside0.mk (blk_below BKa.out hb20)
  replace BKx := Aside0.mk (blk_below BKx.out hb20)
  replace BKv := Aside0.mk (blk_below BKv.out hb20)
  replace BKg := Aside0.mk (blk_below BKg.out hb20)
  replace HRGa := Aside0.mk (HRGa.out.below hb20)
  replace HRHa := Aside0.mk (HRHa.out.below hb20)
  replace HRX := Aside0.mk (HRX.out.below hb20)
  replace HRY := Aside0.mk (HRY.out.below hb20)
  replace HRV := Aside0.mk (HRV.out.below hb20)
  replace HRU := Aside0.mk (HRU.out.below hb20)
  replace HRGb := Aside0.mk (HRGb.out.below hb20)
  replace HRHb := Aside0.mk (HRHb.out.below hb20)
  clear HB19
  obtain ⟨AT, cT, rfl⟩ := Kd.R_slice hR
  have HRT := Aside0.mk (Rw.new hsz hR)
  clear hR
  clear hb20 hsz
  go_wp2_with fail
  refine (laws_eqInt64S.calls k AY cY l1 AT cT l1 true w20 (Kd.R_reads' HRY.out.R).2.2 (Kd.R_reads' HRY.out.R).2.1 (Kd.R_reads' HRT.out.R).2.2 (Kd.R_reads' HRT.out.R).2.1 Fq1.out).mono ?_
  rintro e w21 ⟨rfl, hb21⟩
  replace hb21 := hb21.below
  have HB21 := Aside0.mk (below_step HB20.out hb21)
  have Z20 := Aside0.mk (hb21.size)
  replace BKs := Aside0.mk (blk_below BKs.out hb21)
  replace BKt := Aside0.mk (blk_below BKt.out hb21)
  replace BKa := Aside0.mk (blk_below BKa.out hb21)
  replace BKx := Aside0.mk (blk_below BKx.out hb21)
  replace BKv := Aside0.mk (blk_below BKv.out hb21)
  replace BKg := Aside0.mk (blk_below BKg.out hb21)
  replace HRGa := Aside0.mk (HRGa.out.below hb21)
  replace HRHa := Aside0.mk (HRHa.out.below hb21)
  replace HRX := Aside0.mk (HRX.out.below hb21)
  replace HRY := Aside0.mk (HRY.out.below hb21)
  replace HRV := Aside0.mk (HRV.out.below hb21)
  replace HRU := Aside0.mk (HRU.out.below hb21)
  replace HRGb := Aside0.mk (HRGb.out.below hb21)
  replace HRHb := Aside0.mk (HRHb.out.below hb21)
  replace HRT := Aside0.mk (HRT.out.below hb21)
  clear HB20
  clear hb21
  clear HRT
  go_wp2_with fail
  refine start_ (n := 5) (S := fun w' => w'.cell? ⟨w10.heap.size, 0, none⟩ = some (.slice AV l2.length cV) ∧ w'.cell? ⟨(w.heap.size + 1), 0, none⟩ = some (.slice A2 l2.length c2)) (ds := []) #[false, false, false, false, false] (by kernel_rfl) rfl rfl ⟨(blk_cell BKv.out 0).trans rfl, (blk_cell BKt.out 0).trans rfl⟩ (fun hHeld => ?_); refine with_tabW jo24.tab jo24.bits (fun HT_ HW_ => ?_)
  have hbd := below_drew (Below.refl w21.heap.size w21)
  generalize w21.drew = w22 at hbd hHeld ⊢
  have HB22 := Aside0.mk (below_step HB21.out hbd)
  have Z21 := Aside0.mk (hbd.size)
  replace BKs := Aside0.mk (blk_below BKs.out hbd)
  replace BKt := Aside0.mk (blk_below BKt.out hbd)
  replace BKa := Aside0.mk (blk_below BKa.out hbd)
  replace BKx := Aside0.mk (blk_below BKx.out hbd)
  replace BKv := Aside0.mk (blk_below BKv.out hbd)
  replace BKg := Aside0.mk (blk_below BKg.out hbd)
  replace HRGa := Aside0.mk (HRGa.out.below hbd)
  replace HRHa := Aside0.mk (HRHa.out.below hbd)
  replace HRX := Aside0.mk (HRX.out.below hbd)
  replace HRY := Aside0.mk (HRY.out.below hbd)
  replace HRV := Aside0.mk (HRV.out.below hbd)
  replace HRU := Aside0.mk (HRU.out.below hbd)
  replace HRGb := Aside0.mk (HRGb.out.below hbd)
  replace HRHb := Aside0.mk (HRHb.out.below hbd)
  clear HB21
  clear hbd
  refine take_ (i := 0) (N := some 97) (v := ?_) (a' := ?_) #[true, false, false, false, false] rfl rfl (take_ofW HT_.out HW_.out (by kernel_rfl)) (fun _ _ _ h => h) (Or.inl ⟨by rfl, ?_⟩) hHeld ?_ ?_
  rotate_left
  · rintro w' ⟨s0, s1⟩
    go_simp
    with_reducible rfl
  rotate_left
  · simp only [Act.put, List.setIfInBounds_toArray, List.set_cons_zero, List.set_cons_succ, i64_w, i32_w]
    rfl
  refine take_ (i := 1) (N := some 98) (v := ?_) (a' := ?_) #[true, true, false, false, false] rfl rfl (take_ofW HT_.out HW_.out (by kernel_rfl)) (fun _ _ _ h => h) (Or.inl ⟨by rfl, ?_⟩) hHeld ?_ ?_
  rotate_left
  · rintro w' ⟨s0, s1⟩
    go_simp
    with_reducible rfl
  rotate_left
  · simp only [Act.put, List.setIfInBounds_toArray, List.set_cons_zero, List.set_cons_succ, i64_w, i32_w]
    rfl
  refine one_ (i := 2) (N := some 99) #[true, true, true, false, false] rfl rfl (one_of HT_.out (by kernel_rfl)) (by decide) (fun K hK => ?_)
  refine goes_ Try.func11 (by kernel_rfl) rfl #[.agg #[.slice A2 l2.length c2]] (by rfl) rfl rfl (by (try simp only [List.map_toArray, List.map_cons, List.map_nil]); first | done | rfl) ?_
  refine (laws_toSpace.calls k A2 c2 l2 l2 w22 (Kd.C_below HP2.out HB22.out) HC2.out HT2.out).mono ?_
  rintro e w23 ⟨vT, rfl, hR, hb23⟩
  have hsz : w.heap.size ≤ w22.heap.size := HB22.out.size
  have HB23 := Aside0.mk (below_step HB22.out hb23)
  have Z22 := Aside0.mk (hb23.size)
  replace BKs := Aside0.mk (blk_below BKs.out hb23)
  replace BKt := Aside0.mk (blk_below BKt.out hb23)
  replace BKa := Aside0.mk (blk_below BKa.out hb23)
  replace BKx := Aside0.mk (blk_below BKx.out hb23)
  replace BKv := Aside0.mk (blk_below BKv.out hb23)
  replace BKg := Aside0.mk (blk_below BKg.out hb23)
  replace HRGa := Aside0.mk (HRGa.out.below hb23)
  replace HRHa := Aside0.mk (HRHa.out.below hb23)
  replace HRX := Aside0.mk (HRX.out.below hb23)
  replace HRY := Aside0.mk (HRY.out.below hb23)
  replace HRV := Aside0.mk (HRV.out.below hb23)
  replace HRU := Aside0.mk (HRU.out.below hb23)
  replace HRGb := Aside0.mk (HRGb.out.below hb23)
  replace HRHb := Aside0.mk (HRHb.out.below hb23)
  clear HB22
  obtain ⟨AT, cT, rfl⟩ := Kd.R_slice hR
  have HRT := Aside0.mk (Rw.new hsz hR)
  clear hR
  clear hb23 hsz
  refine ⟨_, rfl, ?_⟩
  refine hK.out _ _ ⟨(blk_cell BKv.out 0).trans rfl, (blk_cell BKt.out 0).trans rfl⟩ (fun hHeld => ?_)
  clear hK K
  refine norm_ (a' := ?_) ?_ ?_
  rotate_left
  · show Act.put _ (some 99) _ = _
    simp only [Act.put, List.setIfInBounds_toArray, List.set_cons_zero, List.set_cons_succ, i64_w, i32_w]
    rfl
  refine one_ (i := 3) (N := some 100) #[true, true, true, true, false] rfl rfl (one_of HT_.out (by kernel_rfl)) (by decide) (fun K hK => ?_)
  refine goes_ Try.func14 (by kernel_rfl) rfl #[.agg #[.slice AV l2.length cV], .agg #[.slice AT l2.length cT]] (by rfl) rfl rfl (by (try simp only [List.map_toArray, List.map_cons, List.map_nil]); first | done | rfl) ?_
  refine (laws_eqSpace.calls k AV cV l2 AT cT l2 true w23 (Kd.R_reads' HRV.out.R).2.2 (Kd.R_reads' HRV.out.R).2.1 (Kd.R_reads' HRT.out.R).2.2 (Kd.R_reads' HRT.out.R).2.1 Fq2.out).mono ?_
  rintro e w24 ⟨rfl, hb24⟩
  have HB24 := Aside0.mk (below_step HB23.out hb24)
  have Z23 := Aside0.mk (hb24.size)
  replace BKs := Aside0.mk (blk_below BKs.out hb24)
  replace BKt := Aside0.mk (blk_below BKt.out hb24)
  replace BKa := Aside0.mk (blk_below BKa.out hb24)
  replace BKx := Aside0.mk (blk_below BKx.out hb24)
  replace BKv := Aside0.mk (blk_below BKv.out hb24)
  replace BKg := Aside0.mk (blk_below BKg.out hb24)
  replace HRGa := Aside0.mk (HRGa.out.below hb24)
  replace HRHa := Aside0.mk (HRHa.out.below hb24)
  replace HRX := Aside0.mk (HRX.out.below hb24)
  replace HRY := Aside0.mk (HRY.out.below hb24)
  replace HRV := Aside0.mk (HRV.out.below hb24)
  replace HRU := Aside0.mk (HRU.out.below hb24)
  replace HRGb := Aside0.mk (HRGb.out.below hb24)
  replace HRHb := Aside0.mk (HRHb.out.below hb24)
  replace HRT := Aside0.mk (HRT.out.below hb24)
  clear HB23
  clear hb24
  clear HRT
  refine ⟨_, rfl, ?_⟩
  refine hK.out _ _ ⟨(blk_cell BKv.out 0).trans rfl, (blk_cell BKt.out 0).trans rfl⟩ (fun hHeld => ?_)
  clear hK K
  refine norm_ (a' := ?_) ?_ ?_
  rotate_left
  · show Act.put _ (some 100) _ = _
    simp only [Act.put, List.setIfInBounds_toArray, List.set_cons_zero, List.set_cons_succ, i64_w, i32_w]
    rfl
  refine pure_ (i := 4) (N := some 101) (v := ?_) (a' := ?_) #[true, true, true, true, true] rfl rfl (any_of HT_.out (by kernel_rfl)) (fun _ _ _ h => h) (Or.inl ⟨by rfl, ?_⟩) ?_ ?_
  rotate_left
  · intro w'
    go_simp
    with_reducible rfl
  rotate_left
  · simp only [Act.put, List.setIfInBounds_toArray, List.set_cons_zero, List.set_cons_succ, i64_w, i32_w]
    rfl
  refine done_ (by kernel_rfl) ?_
  go_wp2_with fail
  refine (laws_toInt64S.calls k A3 c3 l3 l3 w24 (Kd.C_below HP3.out HB24.out) HC3.out HT3.out).mono ?_
  rintro e w25 ⟨vT, rfl, hR, hb25⟩
  have hsz : w.heap.size ≤ w24.heap.size := HB24.out.size
  have HB25 := Aside0.mk (below_step HB24.out hb25)
  have Z24 := Aside0.mk (hb25.size)
  replace BKs := Aside0.mk (blk_below BKs.out hb25)
  replace BKt := Aside0.mk (blk_below BKt.out hb25)
  replace BKa := Aside0.mk (blk_below BKa.out hb25)
  replace BKx := Aside0.mk (blk_below BKx.out hb25)
  replace BKv := Aside0.mk (blk_below BKv.out hb25)
  replace BKg := Aside0.mk (blk_below BKg.out hb25)
  replace HRGa := Aside0.mk (HRGa.out.below hb25)
  replace HRHa := Aside0.mk (HRHa.out.below hb25)
  replace HRX := Aside0.mk (HRX.out.below hb25)
  replace HRY := Aside0.mk (HRY.out.below hb25)
  replace HRV := Aside0.mk (HRV.out.below hb25)
  replace HRU := Aside0.mk (HRU.out.below hb25)
  replace HRGb := Aside0.mk (HRGb.out.below hb25)
  replace HRHb := Aside0.mk (HRHb.out.below hb25)
  clear HB24
  obtain ⟨AT, cT, rfl⟩ := Kd.R_slice hR
  have HRT := Aside0.mk (Rw.new hsz hR)
  clear hR
  clear hb25 hsz
  go_wp2_with fail
  refine (laws_eqInt64S.calls k AU cU l3 AT cT l3 true w25 (Kd.R_reads' HRU.out.R).2.2 (Kd.R_reads' HRU.out.R).2.1 (Kd.R_reads' HRT.out.R).2.2 (Kd.R_reads' HRT.out.R).2.1 Fq3.out).mono ?_
  rintro e w26 ⟨rfl, hb26⟩
  replace hb26 := hb26.below
  have HB26 := Aside0.mk (below_step HB25.out hb26)
  have Z25 := Aside0.mk (hb26.size)
  replace BKs := Aside0.mk (blk_below BKs.out hb26)
  replace BKt := Aside0.mk (blk_below BKt.out hb26)
  replace BKa := Aside0.mk (blk_below BKa.out hb26)
  replace BKx := Aside0.mk (blk_below BKx.out hb26)
  replace BKv := Aside0.mk (blk_below BKv.out hb26)
  replace BKg := Aside0.mk (blk_below BKg.out hb26)
  replace HRGa := Aside0.mk (HRGa.out.below hb26)
  replace HRHa := Aside0.mk (HRHa.out.below hb26)
  replace HRX := Aside0.mk (HRX.out.below hb26)
  replace HRY := Aside0.mk (HRY.out.below hb26)
  replace HRV := Aside0.mk (HRV.out.below hb26)
  replace HRU := Aside0.mk (HRU.out.below hb26)
  replace HRGb := Aside0.mk (HRGb.out.below hb26)
  replace HRHb := Aside0.mk (HRHb.out.below hb26)
  replace HRT := Aside0.mk (HRT.out.below hb26)
  clear HB25
  clear hb26
  clear HRT
  have hcx0 : w26.cell? ⟨w7.heap.size, 0, none⟩ = some (.slice AX l0.length cX) := (blk_cell BKx.out 0).trans rfl
  go_wp2_with fail
  clear hcx0
  refine (laws_markSpace.calls k (fun k => (w6.heap.size ≤ k ∧ k < w7.heap.size)) (.slice AX l0.length cX) l0 1 m0 l0' w w26 HB26.out HRX.out.R Fm0.out).mono ?_
  rintro e w27 ⟨rfl, hR, hb, hk⟩
  replace HRX := Aside0.mk (HRX.out.marked hR hk.1)
  replace HRGa := Aside0.mk (HRGa.out.other hk (fun k h1 h2 => by have := Z5.out; have := Z6.out; replace h1 := h1.1; omega))
  replace HRHa := Aside0.mk (HRHa.out.other hk (fun k h1 h2 => by have := Z5.out; have := Z6.out; replace h1 := h1.1; omega))
  replace HRY := Aside0.mk (HRY.out.other hk (fun k h1 h2 => by have := Z6.out; have := Z7.out; have := Z8.out; omega))
  replace HRV := Aside0.mk (HRV.out.other hk (fun k h1 h2 => by have := Z6.out; have := Z7.out; have := Z8.out; have := Z9.out; omega))
  replace HRU := Aside0.mk (HRU.out.other hk (fun k h1 h2 => by have := Z6.out; have := Z7.out; have := Z8.out; have := Z9.out; have := Z10.out; have := Z11.out; omega))
  replace HRGb := Aside0.mk (HRGb.out.other hk (fun k h1 h2 => by have := Z6.out; have := Z7.out; have := Z8.out; have := Z9.out; have := Z10.out; have := Z11.out; have := Z12.out; replace h1 := h1.1; omega))
  replace HRHb := Aside0.mk (HRHb.out.other hk (fun k h1 h2 => by have := Z6.out; have := Z7.out; have := Z8.out; have := Z9.out; have := Z10.out; have := Z11.out; have := Z12.out; replace h1 := h1.1; omega))
  replace BKs := Aside0.mk (blk_kept BKs.out hk (fun h2 => by have := Z1.out; have := Z2.out; have := Z3.out; have := Z4.out; have := Z5.out; have := Z6.out; have := Ns.out; omega))
  replace BKt := Aside0.mk (blk_kept BKt.out hk (fun h2 => by have := Z2.out; have := Z3.out; have := Z4.out; have := Z5.out; have := Z6.out; have := Nt.out; have := ZT.out; omega))
  replace BKa := Aside0.mk (blk_kept BKa.out hk (fun h2 => by have := Z5.out; have := Z6.out; have := Na.out; have := La.out; omega))
  replace BKx := Aside0.mk (blk_kept BKx.out hk (fun h2 => by have := Z6.out; have := Z7.out; have := Nx.out; omega))
  replace BKv := Aside0.mk (blk_kept BKv.out hk (fun h2 => by have := Z6.out; have := Z7.out; have := Z8.out; have := Z9.out; have := Z10.out; have := Nv.out; omega))
  replace BKg := Aside0.mk (blk_kept BKg.out hk (fun h2 => by have := Z6.out; have := Z7.out; have := Z8.out; have := Z9.out; have := Z10.out; have := Z11.out; have := Z12.out; have := Z13.out; have := Ng.out; omega))
  have HB27 := Aside0.mk hb
  have Z26 := Aside0.mk (hk.1)
  clear hR hb hk HB26
  go_wp2_with fail
  refine (laws_markInt64S.calls k (fun k => (w8.heap.size ≤ k ∧ k < w9.heap.size)) (.slice AY l1.length cY) l1 m0 m1 l1' w w27 HB27.out HRY.out.R Fm1.out).mono ?_
  rintro e w28 ⟨rfl, hR, hb, hk⟩
  replace HRY := Aside0.mk (HRY.out.marked hR hk.1)
  replace HRGa := Aside0.mk (HRGa.out.other hk (fun k h1 h2 => by have := Z5.out; have := Z6.out; have := Z7.out; have := Z8.out; replace h1 := h1.1; omega))
  replace HRHa := Aside0.mk (HRHa.out.other hk (fun k h1 h2 => by have := Z5.out; have := Z6.out; have := Z7.out; have := Z8.out; replace h1 := h1.1; omega))
  replace HRX := Aside0.mk (HRX.out.other hk (fun k h1 h2 => by have := Z6.out; have := Z7.out; have := Z8.out; omega))
  replace HRV := Aside0.mk (HRV.out.other hk (fun k h1 h2 => by have := Z8.out; have := Z9.out; omega))
  replace HRU := Aside0.mk (HRU.out.other hk (fun k h1 h2 => by have := Z8.out; have := Z9.out; have := Z10.out; have := Z11.out; omega))
  replace HRGb := Aside0.mk (HRGb.out.other hk (fun k h1 h2 => by have := Z8.out; have := Z9.out; have := Z10.out; have := Z11.out; have := Z12.out; replace h1 := h1.1; omega))
  replace HRHb := Aside0.mk (HRHb.out.other hk (fun k h1 h2 => by have := Z8.out; have := Z9.out; have := Z10.out; have := Z11.out; have := Z12.out; replace h1 := h1.1; omega))
  replace BKs := Aside0.mk (blk_kept BKs.out hk (fun h2 => by have := Z1.out; have := Z2.out; have := Z3.out; have := Z4.out; have := Z5.out; have := Z6.out; have := Z7.out; have := Z8.out; have := Ns.out; omega))
  replace BKt := Aside0.mk (blk_kept BKt.out hk (fun h2 => by have := Z2.out; have := Z3.out; have := Z4.out; have := Z5.out; have := Z6.out; have := Z7.out; have := Z8.out; have := Nt.out; have := ZT.out; omega))
  replace BKa := Aside0.mk (blk_kept BKa.out hk (fun h2 => by have := Z5.out; have := Z6.out; have := Z7.out; have := Z8.out; have := Na.out; have := La.out; omega))
  replace BKx := Aside0.mk (blk_kept BKx.out hk (fun h2 => by have := Z7.out; have := Z8.out; have := Nx.out; omega))
  replace BKv := Aside0.mk (blk_kept BKv.out hk (fun h2 => by have := Z8.out; have := Z9.out; have := Z10.out; have := Nv.out; omega))
  replace BKg := Aside0.mk (blk_kept BKg.out hk (fun h2 => by have := Z8.out; have := Z9.out; have := Z10.out; have := Z11.out; have := Z12.out; have := Z13.out; have := Ng.out; omega))
  have HB28 := Aside0.mk hb
  have Z27 := Aside0.mk (hk.1)
  clear hR hb hk HB27
  have hcv0 : w28.cell? ⟨w10.heap.size, 0, none⟩ = some (.slice AV l2.length cV) := (blk_cell BKv.out 0).trans rfl
  go_wp2_with fail
  clear hcv0
  refine (laws_markSpace.calls k (fun k => (w9.heap.size ≤ k ∧ k < w10.heap.size)) (.slice AV l2.length cV) l2 m1 m2 l2' w w28 HB28.out HRV.out.R Fm2.out).mono ?_
  rintro e w29 ⟨rfl, hR, hb, hk⟩
  replace HRV := Aside0.mk (HRV.out.marked hR hk.1)
  replace HRGa := Aside0.mk (HRGa.out.other hk (fun k h1 h2 => by have := Z5.out; have := Z6.out; have := Z7.out; have := Z8.out; have := Z9.out; replace h1 := h1.1; omega))
  replace HRHa := Aside0.mk (HRHa.out.other hk (fun k h1 h2 => by have := Z5.out; have := Z6.out; have := Z7.out; have := Z8.out; have := Z9.out; replace h1 := h1.1; omega))
  replace HRX := Aside0.mk (HRX.out.other hk (fun k h1 h2 => by have := Z6.out; have := Z7.out; have := Z8.out; have := Z9.out; omega))
  replace HRY := Aside0.mk (HRY.out.other hk (fun k h1 h2 => by have := Z8.out; have := Z9.out; omega))
  replace HRU := Aside0.mk (HRU.out.other hk (fun k h1 h2 => by have := Z9.out; have := Z10.out; have := Z11.out; omega))
  replace HRGb := Aside0.mk (HRGb.out.other hk (fun k h1 h2 => by have := Z9.out; have := Z10.out; have := Z11.out; have := Z12.out; replace h1 := h1.1; omega))
  replace HRHb := Aside0.mk (HRHb.out.other hk (fun k h1 h2 => by have := Z9.out; have := Z10.out; have := Z11.out; have := Z12.out; replace h1 := h1.1; omega))
  replace BKs := Aside0.mk (blk_kept BKs.out hk (fun h2 => by have := Z1.out; have := Z2.out; have := Z3.out; have := Z4.out; have := Z5.out; have := Z6.out; have := Z7.out; have := Z8.out; have := Z9.out; have := Ns.out; omega))
  replace BKt := Aside0.mk (blk_kept BKt.out hk (fun h2 => by have := Z2.out; have := Z3.out; have := Z4.out; have := Z5.out; have := Z6.out; have := Z7.out; have := Z8.out; have := Z9.out; have := Nt.out; have := ZT.out; omega))
  replace BKa := Aside0.mk (blk_kept BKa.out hk (fun h2 => by have := Z5.out; have := Z6.out; have := Z7.out; have := Z8.out; have := Z9.out; have := Na.out; have := La.out; omega))
  replace BKx := Aside0.mk (blk_kept BKx.out hk (fun h2 => by have := Z7.out; have := Z8.out; have := Z9.out; have := Nx.out; omega))
  replace BKv := Aside0.mk (blk_kept BKv.out hk (fun h2 => by have := Z9.out; have := Z10.out; have := Nv.out; omega))
  replace BKg := Aside0.mk (blk_kept BKg.out hk (fun h2 => by have := Z9.out; have := Z10.out; have := Z11.out; have := Z12.out; have := Z13.out; have := Ng.out; omega))
  have HB29 := Aside0.mk hb
  have Z28 := Aside0.mk (hk.1)
  clear hR hb hk HB28
  go_wp2_with fail
  refine (laws_markInt64S.calls k (fun k => (w11.heap.size ≤ k ∧ k < w12.heap.size)) (.slice AU l3.length cU) l3 m2 m3 l3' w w29 HB29.out HRU.out.R Fm3.out).mono ?_
  rintro e w30 ⟨rfl, hR, hb, hk⟩
  replace HRU := Aside0.mk (HRU.out.marked hR hk.1)
  replace HRGa := Aside0.mk (HRGa.out.other hk (fun k h1 h2 => by have := Z5.out; have := Z6.out; have := Z7.out; have := Z8.out; have := Z9.out; have := Z10.out; have := Z11.out; replace h1 := h1.1; omega))
  replace HRHa := Aside0.mk (HRHa.out.other hk (fun k h1 h2 => by have := Z5.out; have := Z6.out; have := Z7.out; have := Z8.out; have := Z9.out; have := Z10.out; have := Z11.out; replace h1 := h1.1; omega))
  replace HRX := Aside0.mk (HRX.out.other hk (fun k h1 h2 => by have := Z6.out; have := Z7.out; have := Z8.out; have := Z9.out; have := Z10.out; have := Z11.out; omega))
  replace HRY := Aside0.mk (HRY.out.other hk (fun k h1 h2 => by have := Z8.out; have := Z9.out; have := Z10.out; have := Z11.out; omega))
  replace HRV := Aside0.mk (HRV.out.other hk (fun k h1 h2 => by have := Z9.out; have := Z10.out; have := Z11.out; omega))
  replace HRGb := Aside0.mk (HRGb.out.other hk (fun k h1 h2 => by have := Z11.out; have := Z12.out; replace h1 := h1.1; omega))
  replace HRHb := Aside0.mk (HRHb.out.other hk (fun k h1 h2 => by have := Z11.out; have := Z12.out; replace h1 := h1.1; omega))
  replace BKs := Aside0.mk (blk_kept BKs.out hk (fun h2 => by have := Z1.out; have := Z2.out; have := Z3.out; have := Z4.out; have := Z5.out; have := Z6.out; have := Z7.out; have := Z8.out; have := Z9.out; have := Z10.out; have := Z11.out; have := Ns.out; omega))
  replace BKt := Aside0.mk (blk_kept BKt.out hk (fun h2 => by have := Z2.out; have := Z3.out; have := Z4.out; have := Z5.out; have := Z6.out; have := Z7.out; have := Z8.out; have := Z9.out; have := Z10.out; have := Z11.out; have := Nt.out; have := ZT.out; omega))
  replace BKa := Aside0.mk (blk_kept BKa.out hk (fun h2 => by have := Z5.out; have := Z6.out; have := Z7.out; have := Z8.out; have := Z9.out; have := Z10.out; have := Z11.out; have := Na.out; have := La.out; omega))
  replace BKx := Aside0.mk (blk_kept BKx.out hk (fun h2 => by have := Z7.out; have := Z8.out; have := Z9.out; have := Z10.out; have := Z11.out; have := Nx.out; omega))
  replace BKv := Aside0.mk (blk_kept BKv.out hk (fun h2 => by have := Z10.out; have := Z11.out; have := Nv.out; omega))
  replace BKg := Aside0.mk (blk_kept BKg.out hk (fun h2 => by have := Z11.out; have := Z12.out; have := Z13.out; have := Ng.out; omega))
  have HB30 := Aside0.mk hb
  have Z29 := Aside0.mk (hk.1)
  clear hR hb hk HB29
  clear HRX
  clear HRY
  clear HRV
  clear HRU
  have hcg0 : w30.cell? ⟨w13.heap.size, 0, none⟩ = some (.slice AGb G.length cGb) := (blk_cell BKg.out 0).trans rfl
  have hca0 : w30.cell? ⟨gxa, 0, none⟩ = some (.slice AGa G.length cGa) := (blk_cell BKa.out 0).trans rfl
  go_wp2_with fail
  clear hcg0 hca0
  refine (laws_eqSpace.calls k AGb cGb G AGa cGa G true w30 (Kd.R_reads' HRGb.out.R).2.2 (Kd.R_reads' HRGb.out.R).2.1 (Kd.R_reads' HRGa.out.R).2.2 (Kd.R_reads' HRGa.out.R).2.1 Fe1.out).mono ?_
  rintro e w31 ⟨rfl, hb31⟩
  have HB31 := Aside0.mk (below_step HB30.out hb31)
  have Z30 := Aside0.mk (hb31.size)
  replace BKs := Aside0.mk (blk_below BKs.out hb31)
  replace BKt := Aside0.mk (blk_below BKt.out hb31)
  replace BKa := Aside0.mk (blk_below BKa.out hb31)
  replace BKx := Aside0.mk (blk_below BKx.out hb31)
  replace BKv := Aside0.mk (blk_below BKv.out hb31)
  replace BKg := Aside0.mk (blk_below BKg.out hb31)
  replace HRGa := Aside0.mk (HRGa.out.below hb31)
  replace HRHa := Aside0.mk (HRHa.out.below hb31)
  replace HRGb := Aside0.mk (HRGb.out.below hb31)
  replace HRHb := Aside0.mk (HRHb.out.below hb31)
  clear HB30
  clear hb31
  go_wp2_with fail
  refine (laws_eqInt64S.calls k AHb cHb H AHa cHa H true w31 (Kd.R_reads' HRHb.out.R).2.2 (Kd.R_reads' HRHb.out.R).2.1 (Kd.R_reads' HRHa.out.R).2.2 (Kd.R_reads' HRHa.out.R).2.1 Fe2.out).mono ?_
  rintro e w32 ⟨rfl, hb32⟩
  replace hb32 := hb32.below
  have HB32 := Aside0.mk (below_step HB31.out hb32)
  have Z31 := Aside0.mk (hb32.size)
  replace BKs := Aside0.mk (blk_below BKs.out hb32)
  replace BKt := Aside0.mk (blk_below BKt.out hb32)
  replace BKa := Aside0.mk (blk_below BKa.out hb32)
  replace BKx := Aside0.mk (blk_below BKx.out hb32)
  replace BKv := Aside0.mk (blk_below BKv.out hb32)
  replace BKg := Aside0.mk (blk_below BKg.out hb32)
  replace HRGa := Aside0.mk (HRGa.out.below hb32)
  replace HRHa := Aside0.mk (HRHa.out.below hb32)
  replace HRGb := Aside0.mk (HRGb.out.below hb32)
  replace HRHb := Aside0.mk (HRHb.out.below hb32)
  clear HB31
  clear hb32
  have hcg0 : w32.cell? ⟨w13.heap.size, 0, none⟩ = some (.slice AGb G.length cGb) := (blk_cell BKg.out 0).trans rfl
  go_wp2_with fail
  clear hcg0
  refine (laws_markSpace.calls k (fun k => (w12.heap.size ≤ k ∧ k < w13.heap.size) ∧ some k ≠ (.slice AHb H.length cHb : Value).ownBlock) (.slice AGb G.length cGb) G 1 n1 G' w w32 HB32.out HRGb.out.R Fn1.out).mono ?_
  rintro e w33 ⟨rfl, hR, hb, hk⟩
  replace HRGb := Aside0.mk (HRGb.out.marked hR hk.1)
  replace HRGa := Aside0.mk (HRGa.out.other hk (fun k h1 h2 => by have := Z5.out; have := Z6.out; have := Z7.out; have := Z8.out; have := Z9.out; have := Z10.out; have := Z11.out; have := Z12.out; replace h1 := h1.1; replace h2 := h2.1; omega))
  replace HRHa := Aside0.mk (HRHa.out.other hk (fun k h1 h2 => by have := Z5.out; have := Z6.out; have := Z7.out; have := Z8.out; have := Z9.out; have := Z10.out; have := Z11.out; have := Z12.out; replace h1 := h1.1; replace h2 := h2.1; omega))
  replace HRHb := Aside0.mk (HRHb.out.other hk (fun k h1 h2 => h2.2 h1.2))
  replace BKs := Aside0.mk (blk_kept BKs.out hk (fun h2 => by have := Z1.out; have := Z2.out; have := Z3.out; have := Z4.out; have := Z5.out; have := Z6.out; have := Z7.out; have := Z8.out; have := Z9.out; have := Z10.out; have := Z11.out; have := Z12.out; have := Ns.out; replace h2 := h2.1; omega))
  replace BKt := Aside0.mk (blk_kept BKt.out hk (fun h2 => by have := Z2.out; have := Z3.out; have := Z4.out; have := Z5.out; have := Z6.out; have := Z7.out; have := Z8.out; have := Z9.out; have := Z10.out; have := Z11.out; have := Z12.out; have := Nt.out; have := ZT.out; replace h2 := h2.1; omega))
  replace BKa := Aside0.mk (blk_kept BKa.out hk (fun h2 => by have := Z5.out; have := Z6.out; have := Z7.out; have := Z8.out; have := Z9.out; have := Z10.out; have := Z11.out; have := Z12.out; have := Na.out; have := La.out; replace h2 := h2.1; omega))
  replace BKx := Aside0.mk (blk_kept BKx.out hk (fun h2 => by have := Z7.out; have := Z8.out; have := Z9.out; have := Z10.out; have := Z11.out; have := Z12.out; have := Nx.out; replace h2 := h2.1; omega))
  replace BKv := Aside0.mk (blk_kept BKv.out hk (fun h2 => by have := Z10.out; have := Z11.out; have := Z12.out; have := Nv.out; replace h2 := h2.1; omega))
  replace BKg := Aside0.mk (blk_kept BKg.out hk (fun h2 => by have := Z12.out; have := Z13.out; have := Ng.out; replace h2 := h2.1; omega))
  have HB33 := Aside0.mk hb
  have Z32 := Aside0.mk (hk.1)
  clear hR hb hk HB32
  go_wp2_with fail
  refine (laws_markInt64S.calls k (fun k => (w12.heap.size ≤ k ∧ k < w13.heap.size) ∧ some k = (.slice AHb H.length cHb : Value).ownBlock) (.slice AHb H.length cHb) H n1 n2 H' w w33 HB33.out HRHb.out.R Fn2.out).mono ?_
  rintro e w34 ⟨rfl, hR, hb, hk⟩
  replace HRHb := Aside0.mk (HRHb.out.marked hR hk.1)
  replace HRGa := Aside0.mk (HRGa.out.other hk (fun k h1 h2 => by have := Z5.out; have := Z6.out; have := Z7.out; have := Z8.out; have := Z9.out; have := Z10.out; have := Z11.out; have := Z12.out; replace h1 := h1.1; replace h2 := h2.1; omega))
  replace HRHa := Aside0.mk (HRHa.out.other hk (fun k h1 h2 => by have := Z5.out; have := Z6.out; have := Z7.out; have := Z8.out; have := Z9.out; have := Z10.out; have := Z11.out; have := Z12.out; replace h1 := h1.1; replace h2 := h2.1; omega))
  replace HRGb := Aside0.mk (HRGb.out.other hk (fun k h1 h2 => h1.2 h2.2))
  replace BKs := Aside0.mk (blk_kept BKs.out hk (fun h2 => by have := Z1.out; have := Z2.out; have := Z3.out; have := Z4.out; have := Z5.out; have := Z6.out; have := Z7.out; have := Z8.out; have := Z9.out; have := Z10.out; have := Z11.out; have := Z12.out; have := Ns.out; replace h2 := h2.1; omega))
  replace BKt := Aside0.mk (blk_kept BKt.out hk (fun h2 => by have := Z2.out; have := Z3.out; have := Z4.out; have := Z5.out; have := Z6.out; have := Z7.out; have := Z8.out; have := Z9.out; have := Z10.out; have := Z11.out; have := Z12.out; have := Nt.out; have := ZT.out; replace h2 := h2.1; omega))
  replace BKa := Aside0.mk (blk_kept BKa.out hk (fun h2 => by have := Z5.out; have := Z6.out; have := Z7.out; have := Z8.out; have := Z9.out; have := Z10.out; have := Z11.out; have := Z12.out; have := Na.out; have := La.out; replace h2 := h2.1; omega))
  replace BKx := Aside0.mk (blk_kept BKx.out hk (fun h2 => by have := Z7.out; have := Z8.out; have := Z9.out; have := Z10.out; have := Z11.out; have := Z12.out; have := Nx.out; replace h2 := h2.1; omega))
  replace BKv := Aside0.mk (blk_kept BKv.out hk (fun h2 => by have := Z10.out; have := Z11.out; have := Z12.out; have := Nv.out; replace h2 := h2.1; omega))
  replace BKg := Aside0.mk (blk_kept BKg.out hk (fun h2 => by have := Z12.out; have := Z13.out; have := Ng.out; replace h2 := h2.1; omega))
  have HB34 := Aside0.mk hb
  have Z33 := Aside0.mk (hk.1)
  clear hR hb hk HB33
  have hcg0 : w34.cell? ⟨w13.heap.size, 0, none⟩ = some (.slice AGb G.length cGb) := (blk_cell BKg.out 0).trans rfl
  go_wp2_with fail
  clear hcg0
  obtain ⟨e_, hl_, hC_⟩ := Kd.R_reads' HRGb.out.R
  have HCA := laws_heldSpace.calls k AGb cGb G' 1 n1 w34 hC_ (by omega) Fh1.out
  rw [← e_] at HCA
  replace HCA := Aside0.mk HCA
  clear e_ hl_ hC_
  refine (HCA.out).mono ?_
  rintro e w35 ⟨rfl, hb35⟩
  have HB35 := Aside0.mk (below_step HB34.out hb35)
  have Z34 := Aside0.mk (hb35.size)
  replace BKs := Aside0.mk (blk_below BKs.out hb35)
  replace BKt := Aside0.mk (blk_below BKt.out hb35)
  replace BKa := Aside0.mk (blk_below BKa.out hb35)
  replace BKx := Aside0.mk (blk_below BKx.out hb35)
  replace BKv := Aside0.mk (blk_below BKv.out hb35)
  replace BKg := Aside0.mk (blk_below BKg.out hb35)
  replace HRGa := Aside0.mk (HRGa.out.below hb35)
  replace HRHa := Aside0.mk (HRHa.out.below hb35)
  replace HRGb := Aside0.mk (HRGb.out.below hb35)
  replace HRHb := Aside0.mk (HRHb.out.below hb35)
  clear HB34
  clear hb35
  clear HCA
  go_wp2_with fail
  obtain ⟨e_, hl_, hC_⟩ := Kd.R_reads' HRHb.out.R
  have HCA := laws_heldInt64S.calls k AHb cHb H' n1 n2 w35 hC_ (by omega) Fh2.out
  rw [← e_] at HCA
  replace HCA := Aside0.mk HCA
  clear e_ hl_ hC_
  refine (HCA.out).mono ?_
  rintro e w36 ⟨rfl, hb36⟩
  replace hb36 := hb36.below
  have HB36 := Aside0.mk (below_step HB35.out hb36)
  have Z35 := Aside0.mk (hb36.size)
  replace BKs := Aside0.mk (blk_below BKs.out hb36)
  replace BKt := Aside0.mk (blk_below BKt.out hb36)
  replace BKa := Aside0.mk (blk_below BKa.out hb36)
  replace BKx := Aside0.mk (blk_below BKx.out hb36)
  replace BKv := Aside0.mk (blk_below BKv.out hb36)
  replace BKg := Aside0.mk (blk_below BKg.out hb36)
  replace HRGa := Aside0.mk (HRGa.out.below hb36)
  replace HRHa := Aside0.mk (HRHa.out.below hb36)
  replace HRGb := Aside0.mk (HRGb.out.below hb36)
  replace HRHb := Aside0.mk (HRHb.out.below hb36)
  clear HB35
  clear hb36
  clear HCA
  go_wp2_with fail
  refine start_ (n := 17) (S := fun w' => w'.cell? ⟨w.heap.size, 0, none⟩ = some (.slice A0 l0.length c0) ∧ w'.cell? ⟨(w.heap.size + 1), 0, none⟩ = some (.slice A2 l2.length c2)) (ds := []) #[false, false, false, false, false, false, false, false, false, false, false, false, false, false, false, false, false] (by kernel_rfl) rfl rfl ⟨(blk_cell BKs.out 0).trans rfl, (blk_cell BKt.out 0).trans rfl⟩ (fun hHeld => ?_); refine with_tabW jo47.tab jo47.bits (fun HT_ HW_ => ?_)
  have hbw := below_drew (Below.refl w36.heap.size w36)
  generalize w36.drew = w37 at hbw hHeld ⊢
  replace hbw := Aside0.mk hbw
  refine take_ (i := 0) (N := some 158) (v := ?_) (a' := ?_) #[true, false, false, false, false, false, false, false, false, false, false, false, false, false, false, false, false] rfl rfl (take_ofW HT_.out HW_.out (by kernel_rfl)) (fun _ _ _ h => h) (Or.inl ⟨by rfl, ?_⟩) hHeld ?_ ?_
  rotate_left
  · rintro w' ⟨s0, s1⟩
    go_simp
    with_reducible rfl
  rotate_left
  · simp only [Act.put, List.setIfInBounds_toArray, List.set_cons_zero, List.set_cons_succ, i64_w, i32_w]
    rfl
  refine pure_ (i := 2) (N := some 160) (v := ?_) (a' := ?_) #[true, false, true, false, false, false, false, false, false, false, false, false, false, false, false, false, false] rfl rfl (any_of HT_.out (by kernel_rfl)) (fun _ _ _ h => h) (Or.inl ⟨by rfl, ?_⟩) ?_ ?_
  rotate_left
  · intro w'
    go_simp
    with_reducible rfl
  rotate_left
  · simp only [Act.put, List.setIfInBounds_toArray, List.set_cons_zero, List.set_cons_succ, i64_w, i32_w]
    rfl
  refine take_ (i := 4) (N := some 162) (v := ?_) (a' := ?_) #[true, false, true, false, true, false, false, false, false, false, false, false, false, false, false, false, false] rfl rfl (take_ofW HT_.out HW_.out (by kernel_rfl)) (fun _ _ _ h => h) (Or.inl ⟨by rfl, ?_⟩) hHeld ?_ ?_
  rotate_left
  · rintro w' ⟨s0, s1⟩
    go_simp
    with_reducible rfl
  rotate_left
  · simp only [Act.put, List.setIfInBounds_toArray, List.set_cons_zero, List.set_cons_succ, i64_w, i32_w]
    rfl
  refine pure_ (i := 6) (N := some 164) (v := ?_) (a' := ?_) #[true, false, true, false, true, false, true, false, false, false, false, false, false, false, false, false, false] rfl rfl (any_of HT_.out (by kernel_rfl)) (fun _ _ _ h => h) (Or.inl ⟨by rfl, ?_⟩) ?_ ?_
  rotate_left
  · intro w'
    go_simp
    with_reducible rfl
  rotate_left
  · simp only [Act.put, List.setIfInBounds_toArray, List.set_cons_zero, List.set_cons_succ, i64_w, i32_w]
    rfl
  refine join_ (σ := Value × Value × Value × Value × Value × Value × Nat) 3 #[true, true, true, true, true, true, true, true, true, true, true, true, true, true, false, false, false] (fun s => [(159, .agg #[s.1]), (161, s.2.1), (163, .agg #[s.2.2.1]), (165, s.2.2.2.1), (166, .tuple #[.agg #[s.2.2.2.2.1], s.2.2.2.2.2.1, .int .i64 e0]), (23, .pointer (some ⟨s.2.2.2.2.2.2, 0, none⟩)), (157, .tuple #[.agg #[s.2.2.2.2.1], s.2.2.2.2.2.1, .int .i64 e0]), (167, .agg #[s.2.2.2.2.1]), (168, s.2.2.2.2.2.1), (169, .int .i64 e0)]) (fun s w' => Below w36.heap.size w36 w' ∧ Kd.R (Kd.int .i64) 2 w' w36.heap.size (fun k => some k ≠ (s.2.2.2.2.2.1).ownBlock) s.2.2.2.2.1 G ∧ Kd.R (Kd.int .i64) 2 w' w36.heap.size (fun k => some k ≠ (s.2.2.2.2.1).ownBlock) s.2.2.2.2.2.1 H ∧ w'.heap[s.2.2.2.2.2.2]? = some (.cells #[.slice none 0 0] 30 (0, 0)) ∧ w36.heap.size ≤ s.2.2.2.2.2.2) ?_ (fun HJ => ?_)
  rotate_left
  · simp only [putAll, Act.put, List.setIfInBounds_toArray, List.set_cons_zero, List.set_cons_succ] at HJ
    have hbl := hbw.out
    refine two_ (i := 1) (j := 13) (Ni := some 159) (Nj := some 23) #[true, true, true, false, true, false, true, false, false, false, false, false, false, false, false, false, false] #[true, false, true, false, true, false, true, false, false, false, false, false, false, true, false, false, false] rfl rfl rfl rfl (two_of HT_.out (by kernel_rfl)) (by decide) (by decide) (fun K hK => ?_) (fun K hK => ?_)
    · refine goes_ Try.func11 (by kernel_rfl) rfl #[.agg #[.slice A0 l0.length c0]] (by rfl) rfl rfl (by (try simp only [List.map_toArray, List.map_cons, List.map_nil]); first | done | rfl) ?_
      refine (laws_toSpace.calls k A0 c0 l0 l0 w37 (Kd.C_below HP0.out (below_step HB36.out hbl)) HC0.out HT0.out).mono ?_
      rintro e y1 ⟨ua, rfl, hR, hb_⟩
      refine ⟨_, rfl, ?_⟩
      obtain ⟨Aa, ca, rfl⟩ := Kd.R_slice hR
      replace hR := Kd.R_bound hR
      have hla := Aside0.mk (Kd.R_reads' hR).2.1
      have hca := Aside0.mk (hR)
      replace hbl := below_step hbl hb_
      clear hR hb_
      refine hK.out _ _ ⟨(blk_cell (blk_below BKs.out hbl) 0).trans rfl, (blk_cell (blk_below BKt.out hbl) 0).trans rfl⟩ (fun hHeld2 => ?_)
      clear hK K
      refine norm_ (a' := ?_) ?_ ?_
      rotate_left
      · show Act.put _ (some 159) _ = _
        simp only [Act.put, List.setIfInBounds_toArray, List.set_cons_zero, List.set_cons_succ, i64_w, i32_w]
        rfl
      refine two_ (i := 3) (j := 13) (Ni := some 161) (Nj := some 23) #[true, true, true, true, true, false, true, false, false, false, false, false, false, false, false, false, false] #[true, true, true, false, true, false, true, false, false, false, false, false, false, true, false, false, false] rfl rfl rfl rfl (two_of HT_.out (by kernel_rfl)) (by decide) (by decide) (fun K hK => ?_) (fun K hK => ?_)
      · refine goes_ Try.func17 (by kernel_rfl) rfl #[.slice A1 l1.length c1] (by rfl) rfl rfl (by (try simp only [List.map_toArray, List.map_cons, List.map_nil]); first | done | rfl) ?_
        refine (laws_toInt64S.calls k A1 c1 l1 l1 y1 (Kd.C_below HP1.out (below_step HB36.out hbl)) HC1.out HT1.out).mono ?_
        rintro e y2 ⟨ub, rfl, hR, hb_⟩
        refine ⟨_, rfl, ?_⟩
        obtain ⟨Ab, cb, rfl⟩ := Kd.R_slice hR
        replace hR := Kd.R_bound hR
        have hlb := Aside0.mk (Kd.R_reads' hR).2.1
        have hcb := Aside0.mk ((Kd.R_reads' hR).2.2)
        replace hca := Aside0.mk (Kd.R_below hca.out hb_)
        replace hbl := below_step hbl hb_
        clear hR hb_
        refine hK.out _ _ ⟨(blk_cell (blk_below BKs.out hbl) 0).trans rfl, (blk_cell (blk_below BKt.out hbl) 0).trans rfl⟩ (fun hHeld2 => ?_)
        clear hK K
        refine norm_ (a' := ?_) ?_ ?_
        rotate_left
        · show Act.put _ (some 161) _ = _
          simp only [Act.put, List.setIfInBounds_toArray, List.set_cons_zero, List.set_cons_succ, i64_w, i32_w]
          rfl
        refine two_ (i := 5) (j := 13) (Ni := some 163) (Nj := some 23) #[true, true, true, true, true, true, true, false, false, false, false, false, false, false, false, false, false] #[true, true, true, true, true, false, true, false, false, false, false, false, false, true, false, false, false] rfl rfl rfl rfl (two_of HT_.out (by kernel_rfl)) (by decide) (by decide) (fun K hK => ?_) (fun K hK => ?_)
        · refine goes_ Try.func11 (by kernel_rfl) rfl #[.agg #[.slice A2 l2.length c2]] (by rfl) rfl rfl (by (try simp only [List.map_toArray, List.map_cons, List.map_nil]); first | done | rfl) ?_
          refine (laws_toSpace.calls k A2 c2 l2 l2 y2 (Kd.C_below HP2.out (below_step HB36.out hbl)) HC2.out HT2.out).mono ?_
          rintro e y3 ⟨uc, rfl, hR, hb_⟩
          refine ⟨_, rfl, ?_⟩
          obtain ⟨Ac, cc, rfl⟩ := Kd.R_slice hR
          replace hR := Kd.R_bound hR
          have hlc := Aside0.mk (Kd.R_reads' hR).2.1
          have hcc := Aside0.mk (hR)
          replace hca := Aside0.mk (Kd.R_below hca.out hb_)
          replace hcb := Aside0.mk (Kd.C_below hcb.out hb_)
          replace hbl := below_step hbl hb_
          clear hR hb_
          refine hK.out _ _ ⟨(blk_cell (blk_below BKs.out hbl) 0).trans rfl, (blk_cell (blk_below BKt.out hbl) 0).trans rfl⟩ (fun hHeld2 => ?_)
          clear hK K
          refine norm_ (a' := ?_) ?_ ?_
          rotate_left
          · show Act.put _ (some 163) _ = _
            simp only [Act.put, List.setIfInBounds_toArray, List.set_cons_zero, List.set_cons_succ, i64_w, i32_w]
            rfl
          refine two_ (i := 7) (j := 13) (Ni := some 165) (Nj := some 23) #[true, true, true, true, true, true, true, true, false, false, false, false, false, false, false, false, false] #[true, true, true, true, true, true, true, false, false, false, false, false, false, true, false, false, false] rfl rfl rfl rfl (two_of HT_.out (by kernel_rfl)) (by decide) (by decide) (fun K hK => ?_) (fun K hK => ?_)
          · refine goes_ Try.func17 (by kernel_rfl) rfl #[.slice A3 l3.length c3] (by rfl) rfl rfl (by (try simp only [List.map_toArray, List.map_cons, List.map_nil]); first | done | rfl) ?_
            refine (laws_toInt64S.calls k A3 c3 l3 l3 y3 (Kd.C_below HP3.out (below_step HB36.out hbl)) HC3.out HT3.out).mono ?_
            rintro e y4 ⟨ud, rfl, hR, hb_⟩
            refine ⟨_, rfl, ?_⟩
            obtain ⟨Ad, cd, rfl⟩ := Kd.R_slice hR
            replace hR := Kd.R_bound hR
            have hld := Aside0.mk (Kd.R_reads' hR).2.1
            have hcd := Aside0.mk ((Kd.R_reads' hR).2.2)
            replace hca := Aside0.mk (Kd.R_below hca.out hb_)
            replace hcb := Aside0.mk (Kd.C_below hcb.out hb_)
            replace hcc := Aside0.mk (Kd.R_below hcc.out hb_)
            replace hbl := below_step hbl hb_
            clear hR hb_
            refine hK.out _ _ ⟨(blk_cell (blk_below BKs.out hbl) 0).trans rfl, (blk_cell (blk_below BKt.out hbl) 0).trans rfl⟩ (fun hHeld2 => ?_)
            clear hK K
            refine norm_ (a' := ?_) ?_ ?_
            rotate_left
            · show Act.put _ (some 165) _ = _
              simp only [Act.put, List.setIfInBounds_toArray, List.set_cons_zero, List.set_cons_succ, i64_w, i32_w]
              rfl
            refine two_ (i := 8) (j := 13) (Ni := some 166) (Nj := some 23) #[true, true, true, true, true, true, true, true, true, false, false, false, false, false, false, false, false] #[true, true, true, true, true, true, true, true, false, false, false, false, false, true, false, false, false] rfl rfl rfl rfl (two_of HT_.out (by kernel_rfl)) (by decide) (by decide) (fun K hK => ?_) (fun K hK => ?_)
            · refine goes_ Try.func18 (by kernel_rfl) rfl #[.agg #[.slice Aa l0.length ca], .slice Ab l1.length cb, .agg #[.slice Ac l2.length cc], .slice Ad l3.length cd] (by rfl) rfl rfl (by (try simp only [List.map_toArray, List.map_cons, List.map_nil]); first | done | rfl) ?_
              refine (impl_JoinOverPlace.calls k _ Aa ca l0 Ab cb l1 _ Ac cc l2 Ad cd l3 G H e0 y4 (Kd.R_V hca.out) hcb.out hlb.out (Kd.R_V hcc.out) hcd.out hld.out Fg.out).mono ?_
              rintro e y5 ⟨v52, v53, rfl, h0_, h1_, hb_⟩
              refine ⟨_, rfl, ?_⟩
              replace h0_ := Kd.R_mono (Kd.R_lower h0_ hbl.size) (fun _ hk => hk.2)
              replace h1_ := Kd.R_mono (Kd.R_lower h1_ hbl.size) (fun _ hk => hk.2)
              replace hbl := below_step hbl hb_
              clear hb_
              refine hK.out _ _ ⟨(blk_cell (blk_below BKs.out hbl) 0).trans rfl, (blk_cell (blk_below BKt.out hbl) 0).trans rfl⟩ (fun hHeld2 => ?_)
              clear hK K
              refine norm_ (a' := ?_) ?_ ?_
              rotate_left
              · show Act.put _ (some 166) _ = _
                simp only [Act.put, List.setIfInBounds_toArray, List.set_cons_zero, List.set_cons_succ, i64_w, i32_w]
                rfl
              refine pure_ (i := 9) (N := some 157) (v := ?_) (a' := ?_) #[true, true, true, true, true, true, true, true, true, true, false, false, false, false, false, false, false] rfl rfl (any_of HT_.out (by kernel_rfl)) (fun _ _ _ h => h) (Or.inl ⟨by rfl, ?_⟩) ?_ ?_
              rotate_left
              · intro w'
                go_simp
                with_reducible rfl
              rotate_left
              · simp only [Act.put, List.setIfInBounds_toArray, List.set_cons_zero, List.set_cons_succ, i64_w, i32_w]
                rfl
              refine pure_ (i := 10) (N := some 167) (v := ?_) (a' := ?_) #[true, true, true, true, true, true, true, true, true, true, true, false, false, false, false, false, false] rfl rfl (any_of HT_.out (by kernel_rfl)) (fun _ _ _ h => h) (Or.inl ⟨by rfl, ?_⟩) ?_ ?_
              rotate_left
              · intro w'
                go_simp
                with_reducible rfl
              rotate_left
              · simp only [Act.put, List.setIfInBounds_toArray, List.set_cons_zero, List.set_cons_succ, i64_w, i32_w]
                rfl
              refine pure_ (i := 11) (N := some 168) (v := ?_) (a' := ?_) #[true, true, true, true, true, true, true, true, true, true, true, true, false, false, false, false, false] rfl rfl (any_of HT_.out (by kernel_rfl)) (fun _ _ _ h => h) (Or.inl ⟨by rfl, ?_⟩) ?_ ?_
              rotate_left
              · intro w'
                go_simp
                with_reducible rfl
              rotate_left
              · simp only [Act.put, List.setIfInBounds_toArray, List.set_cons_zero, List.set_cons_succ, i64_w, i32_w]
                rfl
              refine pure_ (i := 12) (N := some 169) (v := ?_) (a' := ?_) #[true, true, true, true, true, true, true, true, true, true, true, true, true, false, false, false, false] rfl rfl (any_of HT_.out (by kernel_rfl)) (fun _ _ _ h => h) (Or.inl ⟨by rfl, ?_⟩) ?_ ?_
              rotate_left
              · intro w'
                go_simp
                with_reducible rfl
              rotate_left
              · simp only [Act.put, List.setIfInBounds_toArray, List.set_cons_zero, List.set_cons_succ, i64_w, i32_w]
                rfl
              refine one_ (i := 13) (N := some 23) #[true, true, true, true, true, true, true, true, true, true, true, true, true, true, false, false, false] rfl rfl (one_of HT_.out (by kernel_rfl)) (by decide) (fun K hK => ?_)
              refine value_ (w1 := y5.alloc (.cells #[.slice none 0 0] 30)) (v := .pointer (some ⟨y5.heap.size, 0, none⟩)) (by rfl) rfl (by go_simp) ?_
              have hba := below_alloc (Below.refl y5.heap.size y5) (.cells #[.slice none 0 0] 30)
              have hx := blk_new y5 (.cells #[.slice none 0 0] 30)
              have hgx := hbl.size
              generalize hgx0 : y5.heap.size = gx at hx hgx hba ⊢
              generalize y5.alloc (.cells #[.slice none 0 0] 30) = y6 at hx hba ⊢
              subst hgx0
              replace h0_ := Kd.R_below h0_ hba
              replace h1_ := Kd.R_below h1_ hba
              replace hbl := below_step hbl hba
              clear hba
              refine hK.out _ _ ⟨(blk_cell (blk_below BKs.out hbl) 0).trans rfl, (blk_cell (blk_below BKt.out hbl) 0).trans rfl⟩ (fun hHeld2 => ?_)
              clear hK K
              exact HJ (.slice Aa l0.length ca, .slice Ab l1.length cb, .slice Ac l2.length cc, .slice Ad l3.length cd, v52, v53, y5.heap.size) _ ⟨hbl, h0_, h1_, hx, hgx⟩
            · refine value_ (w1 := y4.alloc (.cells #[.slice none 0 0] 30)) (v := .pointer (some ⟨y4.heap.size, 0, none⟩)) (by rfl) rfl (by go_simp) ?_
              have hba := below_alloc (Below.refl y4.heap.size y4) (.cells #[.slice none 0 0] 30)
              have hx := blk_new y4 (.cells #[.slice none 0 0] 30)
              have hgx := hbl.size
              generalize hgx0 : y4.heap.size = gx at hx hgx hba ⊢
              generalize y4.alloc (.cells #[.slice none 0 0] 30) = y7 at hx hba ⊢
              subst hgx0
              replace hca := Aside0.mk (Kd.R_below hca.out hba)
              replace hcb := Aside0.mk (Kd.C_below hcb.out hba)
              replace hcc := Aside0.mk (Kd.R_below hcc.out hba)
              replace hcd := Aside0.mk (Kd.C_below hcd.out hba)
              replace hbl := below_step hbl hba
              clear hba
              refine hK.out _ _ ⟨(blk_cell (blk_below BKs.out hbl) 0).trans rfl, (blk_cell (blk_below BKt.out hbl) 0).trans rfl⟩ (fun hHeld2 => ?_)
              clear hK K
              refine norm_ (a' := ?_) ?_ ?_
              rotate_left
              · show Act.put _ (some 23) _ = _
                simp only [Act.put, List.setIfInBounds_toArray, List.set_cons_zero, List.set_cons_succ, i64_w, i32_w]
                rfl
              refine one_ (i := 8) (N := some 166) #[true, true, true, true, true, true, true, true, true, false, false, false, false, true, false, false, false] rfl rfl (one_of HT_.out (by kernel_rfl)) (by decide) (fun K hK => ?_)
              refine goes_ Try.func18 (by kernel_rfl) rfl #[.agg #[.slice Aa l0.length ca], .slice Ab l1.length cb, .agg #[.slice Ac l2.length cc], .slice Ad l3.length cd] (by rfl) rfl rfl (by (try simp only [List.map_toArray, List.map_cons, List.map_nil]); first | done | rfl) ?_
              refine (impl_JoinOverPlace.calls k _ Aa ca l0 Ab cb l1 _ Ac cc l2 Ad cd l3 G H e0 y7 (Kd.R_V hca.out) hcb.out hlb.out (Kd.R_V hcc.out) hcd.out hld.out Fg.out).mono ?_
              rintro e y8 ⟨v52, v53, rfl, h0_, h1_, hb_⟩
              refine ⟨_, rfl, ?_⟩
              replace h0_ := Kd.R_mono (Kd.R_lower h0_ hbl.size) (fun _ hk => hk.2)
              replace h1_ := Kd.R_mono (Kd.R_lower h1_ hbl.size) (fun _ hk => hk.2)
              replace hx := blk_below hx hb_
              replace hbl := below_step hbl hb_
              clear hb_
              refine hK.out _ _ ⟨(blk_cell (blk_below BKs.out hbl) 0).trans rfl, (blk_cell (blk_below BKt.out hbl) 0).trans rfl⟩ (fun hHeld2 => ?_)
              clear hK K
              refine norm_ (a' := ?_) ?_ ?_
              rotate_left
              · show Act.put _ (some 166) _ = _
                simp only [Act.put, List.setIfInBounds_toArray, List.set_cons_zero, List.set_cons_succ, i64_w, i32_w]
                rfl
              refine pure_ (i := 9) (N := some 157) (v := ?_) (a' := ?_) #[true, true, true, true, true, true, true, true, true, true, false, false, false, true, false, false, false] rfl rfl (any_of HT_.out (by kernel_rfl)) (fun _ _ _ h => h) (Or.inl ⟨by rfl, ?_⟩) ?_ ?_
              rotate_left
              · intro w'
                go_simp
                with_reducible rfl
              rotate_left
              · simp only [Act.put, List.setIfInBounds_toArray, List.set_cons_zero, List.set_cons_succ, i64_w, i32_w]
                rfl
              refine pure_ (i := 10) (N := some 167) (v := ?_) (a' := ?_) #[true, true, true, true, true, true, true, true, true, true, true, false, false, true, false, false, false] rfl rfl (any_of HT_.out (by kernel_rfl)) (fun _ _ _ h => h) (Or.inl ⟨by rfl, ?_⟩) ?_ ?_
              rotate_left
              · intro w'
                go_simp
                with_reducible rfl
              rotate_left
              · simp only [Act.put, List.setIfInBounds_toArray, List.set_cons_zero, List.set_cons_succ, i64_w, i32_w]
                rfl
              refine pure_ (i := 11) (N := some 168) (v := ?_) (a' := ?_) #[true, true, true, true, true, true, true, true, true, true, true, true, false, true, false, false, false] rfl rfl (any_of HT_.out (by kernel_rfl)) (fun _ _ _ h => h) (Or.inl ⟨by rfl, ?_⟩) ?_ ?_
              rotate_left
              · intro w'
                go_simp
                with_reducible rfl
              rotate_left
              · simp only [Act.put, List.setIfInBounds_toArray, List.set_cons_zero, List.set_cons_succ, i64_w, i32_w]
                rfl
              refine pure_ (i := 12) (N := some 169) (v := ?_) (a' := ?_) #[true, true, true, true, true, true, true, true, true, true, true, true, true, true, false, false, false] rfl rfl (any_of HT_.out (by kernel_rfl)) (fun _ _ _ h => h) (Or.inl ⟨by rfl, ?_⟩) ?_ ?_
              rotate_left
              · intro w'
                go_simp
                with_reducible rfl
              rotate_left
              · simp only [Act.put, List.setIfInBounds_toArray, List.set_cons_zero, List.set_cons_succ, i64_w, i32_w]
                rfl
              exact HJ (.slice Aa l0.length ca, .slice Ab l1.length cb, .slice Ac l2.length cc, .slice Ad l3.length cd, v52, v53, y4.heap.size) _ ⟨hbl, h0_, h1_, hx, hgx⟩
          · refine value_ (w1 := y3.alloc (.cells #[.slice none 0 0] 30)) (v := .pointer (some ⟨y3.heap.size, 0, none⟩)) (by rfl) rfl (by go_simp) ?_
            have hba := below_alloc (Below.refl y3.heap.size y3) (.cells #[.slice none 0 0] 30)
            have hx := blk_new y3 (.cells #[.slice none 0 0] 30)
            have hgx := hbl.size
            generalize hgx0 : y3.heap.size = gx at hx hgx hba ⊢
            generalize y3.alloc (.cells #[.slice none 0 0] 30) = y9 at hx hba ⊢
            subst hgx0
            replace hca := Aside0.mk (Kd.R_below hca.out hba)
            replace hcb := Aside0.mk (Kd.C_below hcb.out hba)
            replace hcc := Aside0.mk (Kd.R_below hcc.out hba)
            replace hbl := below_step hbl hba
            clear hba
            refine hK.out _ _ ⟨(blk_cell (blk_below BKs.out hbl) 0).trans rfl, (blk_cell (blk_below BKt.out hbl) 0).trans rfl⟩ (fun hHeld2 => ?_)
            clear hK K
            refine norm_ (a' := ?_) ?_ ?_
            rotate_left
            · show Act.put _ (some 23) _ = _
              simp only [Act.put, List.setIfInBounds_toArray, List.set_cons_zero, List.set_cons_succ, i64_w, i32_w]
              rfl
            refine one_ (i := 7) (N := some 165) #[true, true, true, true, true, true, true, true, false, false, false, false, false, true, false, false, false] rfl rfl (one_of HT_.out (by kernel_rfl)) (by decide) (fun K hK => ?_)
            refine goes_ Try.func17 (by kernel_rfl) rfl #[.slice A3 l3.length c3] (by rfl) rfl rfl (by (try simp only [List.map_toArray, List.map_cons, List.map_nil]); first | done | rfl) ?_
            refine (laws_toInt64S.calls k A3 c3 l3 l3 y9 (Kd.C_below HP3.out (below_step HB36.out hbl)) HC3.out HT3.out).mono ?_
            rintro e y10 ⟨ud, rfl, hR, hb_⟩
            refine ⟨_, rfl, ?_⟩
            obtain ⟨Ad, cd, rfl⟩ := Kd.R_slice hR
            replace hR := Kd.R_bound hR
            have hld := Aside0.mk (Kd.R_reads' hR).2.1
            have hcd := Aside0.mk ((Kd.R_reads' hR).2.2)
            replace hca := Aside0.mk (Kd.R_below hca.out hb_)
            replace hcb := Aside0.mk (Kd.C_below hcb.out hb_)
            replace hcc := Aside0.mk (Kd.R_below hcc.out hb_)
            replace hx := blk_below hx hb_
            replace hbl := below_step hbl hb_
            clear hR hb_
            refine hK.out _ _ ⟨(blk_cell (blk_below BKs.out hbl) 0).trans rfl, (blk_cell (blk_below BKt.out hbl) 0).trans rfl⟩ (fun hHeld2 => ?_)
            clear hK K
            refine norm_ (a' := ?_) ?_ ?_
            rotate_left
            · show Act.put _ (some 165) _ = _
              simp only [Act.put, List.setIfInBounds_toArray, List.set_cons_zero, List.set_cons_succ, i64_w, i32_w]
              rfl
            refine one_ (i := 8) (N := some 166) #[true, true, true, true, true, true, true, true, true, false, false, false, false, true, false, false, false] rfl rfl (one_of HT_.out (by kernel_rfl)) (by decide) (fun K hK => ?_)
            refine goes_ Try.func18 (by kernel_rfl) rfl #[.agg #[.slice Aa l0.length ca], .slice Ab l1.length cb, .agg #[.slice Ac l2.length cc], .slice Ad l3.length cd] (by rfl) rfl rfl (by (try simp only [List.map_toArray, List.map_cons, List.map_nil]); first | done | rfl) ?_
            refine (impl_JoinOverPlace.calls k _ Aa ca l0 Ab cb l1 _ Ac cc l2 Ad cd l3 G H e0 y10 (Kd.R_V hca.out) hcb.out hlb.out (Kd.R_V hcc.out) hcd.out hld.out Fg.out).mono ?_
            rintro e y11 ⟨v52, v53, rfl, h0_, h1_, hb_⟩
            refine ⟨_, rfl, ?_⟩
            replace h0_ := Kd.R_mono (Kd.R_lower h0_ hbl.size) (fun _ hk => hk.2)
            replace h1_ := Kd.R_mono (Kd.R_lower h1_ hbl.size) (fun _ hk => hk.2)
            replace hx := blk_below hx hb_
            replace hbl := below_step hbl hb_
            clear hb_
            refine hK.out _ _ ⟨(blk_cell (blk_below BKs.out hbl) 0).trans rfl, (blk_cell (blk_below BKt.out hbl) 0).trans rfl⟩ (fun hHeld2 => ?_)
            clear hK K
            refine norm_ (a' := ?_) ?_ ?_
            rotate_left
            · show Act.put _ (some 166) _ = _
              simp only [Act.put, List.setIfInBounds_toArray, List.set_cons_zero, List.set_cons_succ, i64_w, i32_w]
              rfl
            refine pure_ (i := 9) (N := some 157) (v := ?_) (a' := ?_) #[true, true, true, true, true, true, true, true, true, true, false, false, false, true, false, false, false] rfl rfl (any_of HT_.out (by kernel_rfl)) (fun _ _ _ h => h) (Or.inl ⟨by rfl, ?_⟩) ?_ ?_
            rotate_left
            · intro w'
              go_simp
              with_reducible rfl
            rotate_left
            · simp only [Act.put, List.setIfInBounds_toArray, List.set_cons_zero, List.set_cons_succ, i64_w, i32_w]
              rfl
            refine pure_ (i := 10) (N := some 167) (v := ?_) (a' := ?_) #[true, true, true, true, true, true, true, true, true, true, true, false, false, true, false, false, false] rfl rfl (any_of HT_.out (by kernel_rfl)) (fun _ _ _ h => h) (Or.inl ⟨by rfl, ?_⟩) ?_ ?_
            rotate_left
            · intro w'
              go_simp
              with_reducible rfl
            rotate_left
            · simp only [Act.put, List.setIfInBounds_toArray, List.set_cons_zero, List.set_cons_succ, i64_w, i32_w]
              rfl
            refine pure_ (i := 11) (N := some 168) (v := ?_) (a' := ?_) #[true, true, true, true, true, true, true, true, true, true, true, true, false, true, false, false, false] rfl rfl (any_of HT_.out (by kernel_rfl)) (fun _ _ _ h => h) (Or.inl ⟨by rfl, ?_⟩) ?_ ?_
            rotate_left
            · intro w'
              go_simp
              with_reducible rfl
            rotate_left
            · simp only [Act.put, List.setIfInBounds_toArray, List.set_cons_zero, List.set_cons_succ, i64_w, i32_w]
              rfl
            refine pure_ (i := 12) (N := some 169) (v := ?_) (a' := ?_) #[true, true, true, true, true, true, true, true, true, true, true, true, true, true, false, false, false] rfl rfl (any_of HT_.out (by kernel_rfl)) (fun _ _ _ h => h) (Or.inl ⟨by rfl, ?_⟩) ?_ ?_
            rotate_left
            · intro w'
              go_simp
              with_reducible rfl
            rotate_left
            · simp only [Act.put, List.setIfInBounds_toArray, List.set_cons_zero, List.set_cons_succ, i64_w, i32_w]
              rfl
            exact HJ (.slice Aa l0.length ca, .slice Ab l1.length cb, .slice Ac l2.length cc, .slice Ad l3.length cd, v52, v53, y3.heap.size) _ ⟨hbl, h0_, h1_, hx, hgx⟩
        · refine value_ (w1 := y2.alloc (.cells #[.slice none 0 0] 30)) (v := .pointer (some ⟨y2.heap.size, 0, none⟩)) (by rfl) rfl (by go_simp) ?_
          have hba := below_alloc (Below.refl y2.heap.size y2) (.cells #[.slice none 0 0] 30)
          have hx := blk_new y2 (.cells #[.slice none 0 0] 30)
          have hgx := hbl.size
          generalize hgx0 : y2.heap.size = gx at hx hgx hba ⊢
          generalize y2.alloc (.cells #[.slice none 0 0] 30) = y12 at hx hba ⊢
          subst hgx0
          replace hca := Aside0.mk (Kd.R_below hca.out hba)
          replace hcb := Aside0.mk (Kd.C_below hcb.out hba)
          replace hbl := below_step hbl hba
          clear hba
          refine hK.out _ _ ⟨(blk_cell (blk_below BKs.out hbl) 0).trans rfl, (blk_cell (blk_below BKt.out hbl) 0).trans rfl⟩ (fun hHeld2 => ?_)
          clear hK K
          refine norm_ (a' := ?_) ?_ ?_
          rotate_left
          · show Act.put _ (some 23) _ = _
            simp only [Act.put, List.setIfInBounds_toArray, List.set_cons_zero, List.set_cons_succ, i64_w, i32_w]
            rfl
          refine one_ (i := 5) (N := some 163) #[true, true, true, true, true, true, true, false, false, false, false, false, false, true, false, false, false] rfl rfl (one_of HT_.out (by kernel_rfl)) (by decide) (fun K hK => ?_)
          refine goes_ Try.func11 (by kernel_rfl) rfl #[.agg #[.slice A2 l2.length c2]] (by rfl) rfl rfl (by (try simp only [List.map_toArray, List.map_cons, List.map_nil]); first | done | rfl) ?_
          refine (laws_toSpace.calls k A2 c2 l2 l2 y12 (Kd.C_below HP2.out (below_step HB36.out hbl)) HC2.out HT2.out).mono ?_
          rintro e y13 ⟨uc, rfl, hR, hb_⟩
          refine ⟨_, rfl, ?_⟩
          obtain ⟨Ac, cc, rfl⟩ := Kd.R_slice hR
          replace hR := Kd.R_bound hR
          have hlc := Aside0.mk (Kd.R_reads' hR).2.1
          have hcc := Aside0.mk (hR)
          replace hca := Aside0.mk (Kd.R_below hca.out hb_)
          replace hcb := Aside0.mk (Kd.C_below hcb.out hb_)
          replace hx := blk_below hx hb_
          replace hbl := below_step hbl hb_
          clear hR hb_
          refine hK.out _ _ ⟨(blk_cell (blk_below BKs.out hbl) 0).trans rfl, (blk_cell (blk_below BKt.out hbl) 0).trans rfl⟩ (fun hHeld2 => ?_)
          clear hK K
          refine norm_ (a' := ?_) ?_ ?_
          rotate_left
          · show Act.put _ (some 163) _ = _
            simp only [Act.put, List.setIfInBounds_toArray, List.set_cons_zero, List.set_cons_succ, i64_w, i32_w]
            rfl
          refine one_ (i := 7) (N := some 165) #[true, true, true, true, true, true, true, true, false, false, false, false, false, true, false, false, false] rfl rfl (one_of HT_.out (by kernel_rfl)) (by decide) (fun K hK => ?_)
          refine goes_ Try.func17 (by kernel_rfl) rfl #[.slice A3 l3.length c3] (by rfl) rfl rfl (by (try simp only [List.map_toArray, List.map_cons, List.map_nil]); first | done | rfl) ?_
          refine (laws_toInt64S.calls k A3 c3 l3 l3 y13 (Kd.C_below HP3.out (below_step HB36.out hbl)) HC3.out HT3.out).mono ?_
          rintro e y14 ⟨ud, rfl, hR, hb_⟩
          refine ⟨_, rfl, ?_⟩
          obtain ⟨Ad, cd, rfl⟩ := Kd.R_slice hR
          replace hR := Kd.R_bound hR
          have hld := Aside0.mk (Kd.R_reads' hR).2.1
          have hcd := Aside0.mk ((Kd.R_reads' hR).2.2)
          replace hca := Aside0.mk (Kd.R_below hca.out hb_)
          replace hcb := Aside0.mk (Kd.C_below hcb.out hb_)
          replace hcc := Aside0.mk (Kd.R_below hcc.out hb_)
          replace hx := blk_below hx hb_
          replace hbl := below_step hbl hb_
          clear hR hb_
          refine hK.out _ _ ⟨(blk_cell (blk_below BKs.out hbl) 0).trans rfl, (blk_cell (blk_below BKt.out hbl) 0).trans rfl⟩ (fun hHeld2 => ?_)
          clear hK K
          refine norm_ (a' := ?_) ?_ ?_
          rotate_left
          · show Act.put _ (some 165) _ = _
            simp only [Act.put, List.setIfInBounds_toArray, List.set_cons_zero, List.set_cons_succ, i64_w, i32_w]
            rfl
          refine one_ (i := 8) (N := some 166) #[true, true, true, true, true, true, true, true, true, false, false, false, false, true, false, false, false] rfl rfl (one_of HT_.out (by kernel_rfl)) (by decide) (fun K hK => ?_)
          refine goes_ Try.func18 (by kernel_rfl) rfl #[.agg #[.slice Aa l0.length ca], .slice Ab l1.length cb, .agg #[.slice Ac l2.length cc], .slice Ad l3.length cd] (by rfl) rfl rfl (by (try simp only [List.map_toArray, List.map_cons, List.map_nil]); first | done | rfl) ?_
          refine (impl_JoinOverPlace.calls k _ Aa ca l0 Ab cb l1 _ Ac cc l2 Ad cd l3 G H e0 y14 (Kd.R_V hca.out) hcb.out hlb.out (Kd.R_V hcc.out) hcd.out hld.out Fg.out).mono ?_
          rintro e y15 ⟨v52, v53, rfl, h0_, h1_, hb_⟩
          refine ⟨_, rfl, ?_⟩
          replace h0_ := Kd.R_mono (Kd.R_lower h0_ hbl.size) (fun _ hk => hk.2)
          replace h1_ := Kd.R_mono (Kd.R_lower h1_ hbl.size) (fun _ hk => hk.2)
          replace hx := blk_below hx hb_
          replace hbl := below_step hbl hb_
          clear hb_
          refine hK.out _ _ ⟨(blk_cell (blk_below BKs.out hbl) 0).trans rfl, (blk_cell (blk_below BKt.out hbl) 0).trans rfl⟩ (fun hHeld2 => ?_)
          clear hK K
          refine norm_ (a' := ?_) ?_ ?_
          rotate_left
          · show Act.put _ (some 166) _ = _
            simp only [Act.put, List.setIfInBounds_toArray, List.set_cons_zero, List.set_cons_succ, i64_w, i32_w]
            rfl
          refine pure_ (i := 9) (N := some 157) (v := ?_) (a' := ?_) #[true, true, true, true, true, true, true, true, true, true, false, false, false, true, false, false, false] rfl rfl (any_of HT_.out (by kernel_rfl)) (fun _ _ _ h => h) (Or.inl ⟨by rfl, ?_⟩) ?_ ?_
          rotate_left
          · intro w'
            go_simp
            with_reducible rfl
          rotate_left
          · simp only [Act.put, List.setIfInBounds_toArray, List.set_cons_zero, List.set_cons_succ, i64_w, i32_w]
            rfl
          refine pure_ (i := 10) (N := some 167) (v := ?_) (a' := ?_) #[true, true, true, true, true, true, true, true, true, true, true, false, false, true, false, false, false] rfl rfl (any_of HT_.out (by kernel_rfl)) (fun _ _ _ h => h) (Or.inl ⟨by rfl, ?_⟩) ?_ ?_
          rotate_left
          · intro w'
            go_simp
            with_reducible rfl
          rotate_left
          · simp only [Act.put, List.setIfInBounds_toArray, List.set_cons_zero, List.set_cons_succ, i64_w, i32_w]
            rfl
          refine pure_ (i := 11) (N := some 168) (v := ?_) (a' := ?_) #[true, true, true, true, true, true, true, true, true, true, true, true, false, true, false, false, false] rfl rfl (any_of HT_.out (by kernel_rfl)) (fun _ _ _ h => h) (Or.inl ⟨by rfl, ?_⟩) ?_ ?_
          rotate_left
          · intro w'
            go_simp
            with_reducible rfl
          rotate_left
          · simp only [Act.put, List.setIfInBounds_toArray, List.set_cons_zero, List.set_cons_succ, i64_w, i32_w]
            rfl
          refine pure_ (i := 12) (N := some 169) (v := ?_) (a' := ?_) #[true, true, true, true, true, true, true, true, true, true, true, true, true, true, false, false, false] rfl rfl (any_of HT_.out (by kernel_rfl)) (fun _ _ _ h => h) (Or.inl ⟨by rfl, ?_⟩) ?_ ?_
          rotate_left
          · intro w'
            go_simp
            with_reducible rfl
          rotate_left
          · simp only [Act.put, List.setIfInBounds_toArray, List.set_cons_zero, List.set_cons_succ, i64_w, i32_w]
            rfl
          exact HJ (.slice Aa l0.length ca, .slice Ab l1.length cb, .slice Ac l2.length cc, .slice Ad l3.length cd, v52, v53, y2.heap.size) _ ⟨hbl, h0_, h1_, hx, hgx⟩
      · refine value_ (w1 := y1.alloc (.cells #[.slice none 0 0] 30)) (v := .pointer (some ⟨y1.heap.size, 0, none⟩)) (by rfl) rfl (by go_simp) ?_
        have hba := below_alloc (Below.refl y1.heap.size y1) (.cells #[.slice none 0 0] 30)
        have hx := blk_new y1 (.cells #[.slice none 0 0] 30)
        have hgx := hbl.size
        generalize hgx0 : y1.heap.size = gx at hx hgx hba ⊢
        generalize y1.alloc (.cells #[.slice none 0 0] 30) = y16 at hx hba ⊢
        subst hgx0
        replace hca := Aside0.mk (Kd.R_below hca.out hba)
        replace hbl := below_step hbl hba
        clear hba
        refine hK.out _ _ ⟨(blk_cell (blk_below BKs.out hbl) 0).trans rfl, (blk_cell (blk_below BKt.out hbl) 0).trans rfl⟩ (fun hHeld2 => ?_)
        clear hK K
        refine norm_ (a' := ?_) ?_ ?_
        rotate_left
        · show Act.put _ (some 23) _ = _
          simp only [Act.put, List.setIfInBounds_toArray, List.set_cons_zero, List.set_cons_succ, i64_w, i32_w]
          rfl
        refine one_ (i := 3) (N := some 161) #[true, true, true, true, true, false, true, false, false, false, false, false, false, true, false, false, false] rfl rfl (one_of HT_.out (by kernel_rfl)) (by decide) (fun K hK => ?_)
        refine goes_ Try.func17 (by kernel_rfl) rfl #[.slice A1 l1.length c1] (by rfl) rfl rfl (by (try simp only [List.map_toArray, List.map_cons, List.map_nil]); first | done | rfl) ?_
        refine (laws_toInt64S.calls k A1 c1 l1 l1 y16 (Kd.C_below HP1.out (below_step HB36.out hbl)) HC1.out HT1.out).mono ?_
        rintro e y17 ⟨ub, rfl, hR, hb_⟩
        refine ⟨_, rfl, ?_⟩
        obtain ⟨Ab, cb, rfl⟩ := Kd.R_slice hR
        replace hR := Kd.R_bound hR
        have hlb := Aside0.mk (Kd.R_reads' hR).2.1
        have hcb := Aside0.mk ((Kd.R_reads' hR).2.2)
        replace hca := Aside0.mk (Kd.R_below hca.out hb_)
        replace hx := blk_below hx hb_
        replace hbl := below_step hbl hb_
        clear hR hb_
        refine hK.out _ _ ⟨(blk_cell (blk_below BKs.out hbl) 0).trans rfl, (blk_cell (blk_below BKt.out hbl) 0).trans rfl⟩ (fun hHeld2 => ?_)
        clear hK K
        refine norm_ (a' := ?_) ?_ ?_
        rotate_left
        · show Act.put _ (some 161) _ = _
          simp only [Act.put, List.setIfInBounds_toArray, List.set_cons_zero, List.set_cons_succ, i64_w, i32_w]
          rfl
        refine one_ (i := 5) (N := some 163) #[true, true, true, true, true, true, true, false, false, false, false, false, false, true, false, false, false] rfl rfl (one_of HT_.out (by kernel_rfl)) (by decide) (fun K hK => ?_)
        refine goes_ Try.func11 (by kernel_rfl) rfl #[.agg #[.slice A2 l2.length c2]] (by rfl) rfl rfl (by (try simp only [List.map_toArray, List.map_cons, List.map_nil]); first | done | rfl) ?_
        refine (laws_toSpace.calls k A2 c2 l2 l2 y17 (Kd.C_below HP2.out (below_step HB36.out hbl)) HC2.out HT2.out).mono ?_
        rintro e y18 ⟨uc, rfl, hR, hb_⟩
        refine ⟨_, rfl, ?_⟩
        obtain ⟨Ac, cc, rfl⟩ := Kd.R_slice hR
        replace hR := Kd.R_bound hR
        have hlc := Aside0.mk (Kd.R_reads' hR).2.1
        have hcc := Aside0.mk (hR)
        replace hca := Aside0.mk (Kd.R_below hca.out hb_)
        replace hcb := Aside0.mk (Kd.C_below hcb.out hb_)
        replace hx := blk_below hx hb_
        replace hbl := below_step hbl hb_
        clear hR hb_
        refine hK.out _ _ ⟨(blk_cell (blk_below BKs.out hbl) 0).trans rfl, (blk_cell (blk_below BKt.out hbl) 0).trans rfl⟩ (fun hHeld2 => ?_)
        clear hK K
        refine norm_ (a' := ?_) ?_ ?_
        rotate_left
        · show Act.put _ (some 163) _ = _
          simp only [Act.put, List.setIfInBounds_toArray, List.set_cons_zero, List.set_cons_succ, i64_w, i32_w]
          rfl
        refine one_ (i := 7) (N := some 165) #[true, true, true, true, true, true, true, true, false, false, false, false, false, true, false, false, false] rfl rfl (one_of HT_.out (by kernel_rfl)) (by decide) (fun K hK => ?_)
        refine goes_ Try.func17 (by kernel_rfl) rfl #[.slice A3 l3.length c3] (by rfl) rfl rfl (by (try simp only [List.map_toArray, List.map_cons, List.map_nil]); first | done | rfl) ?_
        refine (laws_toInt64S.calls k A3 c3 l3 l3 y18 (Kd.C_below HP3.out (below_step HB36.out hbl)) HC3.out HT3.out).mono ?_
        rintro e y19 ⟨ud, rfl, hR, hb_⟩
        refine ⟨_, rfl, ?_⟩
        obtain ⟨Ad, cd, rfl⟩ := Kd.R_slice hR
        replace hR := Kd.R_bound hR
        have hld := Aside0.mk (Kd.R_reads' hR).2.1
        have hcd := Aside0.mk ((Kd.R_reads' hR).2.2)
        replace hca := Aside0.mk (Kd.R_below hca.out hb_)
        replace hcb := Aside0.mk (Kd.C_below hcb.out hb_)
        replace hcc := Aside0.mk (Kd.R_below hcc.out hb_)
        replace hx := blk_below hx hb_
        replace hbl := below_step hbl hb_
        clear hR hb_
        refine hK.out _ _ ⟨(blk_cell (blk_below BKs.out hbl) 0).trans rfl, (blk_cell (blk_below BKt.out hbl) 0).trans rfl⟩ (fun hHeld2 => ?_)
        clear hK K
        refine norm_ (a' := ?_) ?_ ?_
        rotate_left
        · show Act.put _ (some 165) _ = _
          simp only [Act.put, List.setIfInBounds_toArray, List.set_cons_zero, List.set_cons_succ, i64_w, i32_w]
          rfl
        refine one_ (i := 8) (N := some 166) #[true, true, true, true, true, true, true, true, true, false, false, false, false, true, false, false, false] rfl rfl (one_of HT_.out (by kernel_rfl)) (by decide) (fun K hK => ?_)
        refine goes_ Try.func18 (by kernel_rfl) rfl #[.agg #[.slice Aa l0.length ca], .slice Ab l1.length cb, .agg #[.slice Ac l2.length cc], .slice Ad l3.length cd] (by rfl) rfl rfl (by (try simp only [List.map_toArray, List.map_cons, List.map_nil]); first | done | rfl) ?_
        refine (impl_JoinOverPlace.calls k _ Aa ca l0 Ab cb l1 _ Ac cc l2 Ad cd l3 G H e0 y19 (Kd.R_V hca.out) hcb.out hlb.out (Kd.R_V hcc.out) hcd.out hld.out Fg.out).mono ?_
        rintro e y20 ⟨v52, v53, rfl, h0_, h1_, hb_⟩
        refine ⟨_, rfl, ?_⟩
        replace h0_ := Kd.R_mono (Kd.R_lower h0_ hbl.size) (fun _ hk => hk.2)
        replace h1_ := Kd.R_mono (Kd.R_lower h1_ hbl.size) (fun _ hk => hk.2)
        replace hx := blk_below hx hb_
        replace hbl := below_step hbl hb_
        clear hb_
        refine hK.out _ _ ⟨(blk_cell (blk_below BKs.out hbl) 0).trans rfl, (blk_cell (blk_below BKt.out hbl) 0).trans rfl⟩ (fun hHeld2 => ?_)
        clear hK K
        refine norm_ (a' := ?_) ?_ ?_
        rotate_left
        · show Act.put _ (some 166) _ = _
          simp only [Act.put, List.setIfInBounds_toArray, List.set_cons_zero, List.set_cons_succ, i64_w, i32_w]
          rfl
        refine pure_ (i := 9) (N := some 157) (v := ?_) (a' := ?_) #[true, true, true, true, true, true, true, true, true, true, false, false, false, true, false, false, false] rfl rfl (any_of HT_.out (by kernel_rfl)) (fun _ _ _ h => h) (Or.inl ⟨by rfl, ?_⟩) ?_ ?_
        rotate_left
        · intro w'
          go_simp
          with_reducible rfl
        rotate_left
        · simp only [Act.put, List.setIfInBounds_toArray, List.set_cons_zero, List.set_cons_succ, i64_w, i32_w]
          rfl
        refine pure_ (i := 10) (N := some 167) (v := ?_) (a' := ?_) #[true, true, true, true, true, true, true, true, true, true, true, false, false, true, false, false, false] rfl rfl (any_of HT_.out (by kernel_rfl)) (fun _ _ _ h => h) (Or.inl ⟨by rfl, ?_⟩) ?_ ?_
        rotate_left
        · intro w'
          go_simp
          with_reducible rfl
        rotate_left
        · simp only [Act.put, List.setIfInBounds_toArray, List.set_cons_zero, List.set_cons_succ, i64_w, i32_w]
          rfl
        refine pure_ (i := 11) (N := some 168) (v := ?_) (a' := ?_) #[true, true, true, true, true, true, true, true, true, true, true, true, false, true, false, false, false] rfl rfl (any_of HT_.out (by kernel_rfl)) (fun _ _ _ h => h) (Or.inl ⟨by rfl, ?_⟩) ?_ ?_
        rotate_left
        · intro w'
          go_simp
          with_reducible rfl
        rotate_left
        · simp only [Act.put, List.setIfInBounds_toArray, List.set_cons_zero, List.set_cons_succ, i64_w, i32_w]
          rfl
        refine pure_ (i := 12) (N := some 169) (v := ?_) (a' := ?_) #[true, true, true, true, true, true, true, true, true, true, true, true, true, true, false, false, false] rfl rfl (any_of HT_.out (by kernel_rfl)) (fun _ _ _ h => h) (Or.inl ⟨by rfl, ?_⟩) ?_ ?_
        rotate_left
        · intro w'
          go_simp
          with_reducible rfl
        rotate_left
        · simp only [Act.put, List.setIfInBounds_toArray, List.set_cons_zero, List.set_cons_succ, i64_w, i32_w]
          rfl
        exact HJ (.slice Aa l0.length ca, .slice Ab l1.length cb, .slice Ac l2.length cc, .slice Ad l3.length cd, v52, v53, y1.heap.size) _ ⟨hbl, h0_, h1_, hx, hgx⟩
    · refine value_ (w1 := w37.alloc (.cells #[.slice none 0 0] 30)) (v := .pointer (some ⟨w37.heap.size, 0, none⟩)) (by rfl) rfl (by go_simp) ?_
      have hba := below_alloc (Below.refl w37.heap.size w37) (.cells #[.slice none 0 0] 30)
      have hx := blk_new w37 (.cells #[.slice none 0 0] 30)
      have hgx := hbl.size
      generalize hgx0 : w37.heap.size = gx at hx hgx hba ⊢
      generalize w37.alloc (.cells #[.slice none 0 0] 30) = y21 at hx hba ⊢
      subst hgx0
      replace hbl := below_step hbl hba
      clear hba
      refine hK.out _ _ ⟨(blk_cell (blk_below BKs.out hbl) 0).trans rfl, (blk_cell (blk_below BKt.out hbl) 0).trans rfl⟩ (fun hHeld2 => ?_)
      clear hK K
      refine norm_ (a' := ?_) ?_ ?_
      rotate_left
      · show Act.put _ (some 23) _ = _
        simp only [Act.put, List.setIfInBounds_toArray, List.set_cons_zero, List.set_cons_succ, i64_w, i32_w]
        rfl
      refine one_ (i := 1) (N := some 159) #[true, true, true, false, true, false, true, false, false, false, false, false, false, true, false, false, false] rfl rfl (one_of HT_.out (by kernel_rfl)) (by decide) (fun K hK => ?_)
      refine goes_ Try.func11 (by kernel_rfl) rfl #[.agg #[.slice A0 l0.length c0]] (by rfl) rfl rfl (by (try simp only [List.map_toArray, List.map_cons, List.map_nil]); first | done | rfl) ?_
      refine (laws_toSpace.calls k A0 c0 l0 l0 y21 (Kd.C_below HP0.out (below_step HB36.out hbl)) HC0.out HT0.out).mono ?_
      rintro e y22 ⟨ua, rfl, hR, hb_⟩
      refine ⟨_, rfl, ?_⟩
      obtain ⟨Aa, ca, rfl⟩ := Kd.R_slice hR
      replace hR := Kd.R_bound hR
      have hla := Aside0.mk (Kd.R_reads' hR).2.1
      have hca := Aside0.mk (hR)
      replace hx := blk_below hx hb_
      replace hbl := below_step hbl hb_
      clear hR hb_
      refine hK.out _ _ ⟨(blk_cell (blk_below BKs.out hbl) 0).trans rfl, (blk_cell (blk_below BKt.out hbl) 0).trans rfl⟩ (fun hHeld2 => ?_)
      clear hK K
      refine norm_ (a' := ?_) ?_ ?_
      rotate_left
      · show Act.put _ (some 159) _ = _
        simp only [Act.put, List.setIfInBounds_toArray, List.set_cons_zero, List.set_cons_succ, i64_w, i32_w]
        rfl
      refine one_ (i := 3) (N := some 161) #[true, true, true, true, true, false, true, false, false, false, false, false, false, true, false, false, false] rfl rfl (one_of HT_.out (by kernel_rfl)) (by decide) (fun K hK => ?_)
      refine goes_ Try.func17 (by kernel_rfl) rfl #[.slice A1 l1.length c1] (by rfl) rfl rfl (by (try simp only [List.map_toArray, List.map_cons, List.map_nil]); first | done | rfl) ?_
      refine (laws_toInt64S.calls k A1 c1 l1 l1 y22 (Kd.C_below HP1.out (below_step HB36.out hbl)) HC1.out HT1.out).mono ?_
      rintro e y23 ⟨ub, rfl, hR, hb_⟩
      refine ⟨_, rfl, ?_⟩
      obtain ⟨Ab, cb, rfl⟩ := Kd.R_slice hR
      replace hR := Kd.R_bound hR
      have hlb := Aside0.mk (Kd.R_reads' hR).2.1
      have hcb := Aside0.mk ((Kd.R_reads' hR).2.2)
      replace hca := Aside0.mk (Kd.R_below hca.out hb_)
      replace hx := blk_below hx hb_
      replace hbl := below_step hbl hb_
      clear hR hb_
      refine hK.out _ _ ⟨(blk_cell (blk_below BKs.out hbl) 0).trans rfl, (blk_cell (blk_below BKt.out hbl) 0).trans rfl⟩ (fun hHeld2 => ?_)
      clear hK K
      refine norm_ (a' := ?_) ?_ ?_
      rotate_left
      · show Act.put _ (some 161) _ = _
        simp only [Act.put, List.setIfInBounds_toArray, List.set_cons_zero, List.set_cons_succ, i64_w, i32_w]
        rfl
      refine one_ (i := 5) (N := some 163) #[true, true, true, true, true, true, true, false, false, false, false, false, false, true, false, false, false] rfl rfl (one_of HT_.out (by kernel_rfl)) (by decide) (fun K hK => ?_)
      refine goes_ Try.func11 (by kernel_rfl) rfl #[.agg #[.slice A2 l2.length c2]] (by rfl) rfl rfl (by (try simp only [List.map_toArray, List.map_cons, List.map_nil]); first | done | rfl) ?_
      refine (laws_toSpace.calls k A2 c2 l2 l2 y23 (Kd.C_below HP2.out (below_step HB36.out hbl)) HC2.out HT2.out).mono ?_
      rintro e y24 ⟨uc, rfl, hR, hb_⟩
      refine ⟨_, rfl, ?_⟩
      obtain ⟨Ac, cc, rfl⟩ := Kd.R_slice hR
      replace hR := Kd.R_bound hR
      have hlc := Aside0.mk (Kd.R_reads' hR).2.1
      have hcc := Aside0.mk (hR)
      replace hca := Aside0.mk (Kd.R_below hca.out hb_)
      replace hcb := Aside0.mk (Kd.C_below hcb.out hb_)
      replace hx := blk_below hx hb_
      replace hbl := below_step hbl hb_
      clear hR hb_
      refine hK.out _ _ ⟨(blk_cell (blk_below BKs.out hbl) 0).trans rfl, (blk_cell (blk_below BKt.out hbl) 0).trans rfl⟩ (fun hHeld2 => ?_)
      clear hK K
      refine norm_ (a' := ?_) ?_ ?_
      rotate_left
      · show Act.put _ (some 163) _ = _
        simp only [Act.put, List.setIfInBounds_toArray, List.set_cons_zero, List.set_cons_succ, i64_w, i32_w]
        rfl
      refine one_ (i := 7) (N := some 165) #[true, true, true, true, true, true, true, true, false, false, false, false, false, true, false, false, false] rfl rfl (one_of HT_.out (by kernel_rfl)) (by decide) (fun K hK => ?_)
      refine goes_ Try.func17 (by kernel_rfl) rfl #[.slice A3 l3.length c3] (by rfl) rfl rfl (by (try simp only [List.map_toArray, List.map_cons, List.map_nil]); first | done | rfl) ?_
      refine (laws_toInt64S.calls k A3 c3 l3 l3 y24 (Kd.C_below HP3.out (below_step HB36.out hbl)) HC3.out HT3.out).mono ?_
      rintro e y25 ⟨ud, rfl, hR, hb_⟩
      refine ⟨_, rfl, ?_⟩
      obtain ⟨Ad, cd, rfl⟩ := Kd.R_slice hR
      replace hR := Kd.R_bound hR
      have hld := Aside0.mk (Kd.R_reads' hR).2.1
      have hcd := Aside0.mk ((Kd.R_reads' hR).2.2)
      replace hca := Aside0.mk (Kd.R_below hca.out hb_)
      replace hcb := Aside0.mk (Kd.C_below hcb.out hb_)
      replace hcc := Aside0.mk (Kd.R_below hcc.out hb_)
      replace hx := blk_below hx hb_
      replace hbl := below_step hbl hb_
      clear hR hb_
      refine hK.out _ _ ⟨(blk_cell (blk_below BKs.out hbl) 0).trans rfl, (blk_cell (blk_below BKt.out hbl) 0).trans rfl⟩ (fun hHeld2 => ?_)
      clear hK K
      refine norm_ (a' := ?_) ?_ ?_
      rotate_left
      · show Act.put _ (some 165) _ = _
        simp only [Act.put, List.setIfInBounds_toArray, List.set_cons_zero, List.set_cons_succ, i64_w, i32_w]
        rfl
      refine one_ (i := 8) (N := some 166) #[true, true, true, true, true, true, true, true, true, false, false, false, false, true, false, false, false] rfl rfl (one_of HT_.out (by kernel_rfl)) (by decide) (fun K hK => ?_)
      refine goes_ Try.func18 (by kernel_rfl) rfl #[.agg #[.slice Aa l0.length ca], .slice Ab l1.length cb, .agg #[.slice Ac l2.length cc], .slice Ad l3.length cd] (by rfl) rfl rfl (by (try simp only [List.map_toArray, List.map_cons, List.map_nil]); first | done | rfl) ?_
      refine (impl_JoinOverPlace.calls k _ Aa ca l0 Ab cb l1 _ Ac cc l2 Ad cd l3 G H e0 y25 (Kd.R_V hca.out) hcb.out hlb.out (Kd.R_V hcc.out) hcd.out hld.out Fg.out).mono ?_
      rintro e y26 ⟨v52, v53, rfl, h0_, h1_, hb_⟩
      refine ⟨_, rfl, ?_⟩
      replace h0_ := Kd.R_mono (Kd.R_lower h0_ hbl.size) (fun _ hk => hk.2)
      replace h1_ := Kd.R_mono (Kd.R_lower h1_ hbl.size) (fun _ hk => hk.2)
      replace hx := blk_below hx hb_
      replace hbl := below_step hbl hb_
      clear hb_
      refine hK.out _ _ ⟨(blk_cell (blk_below BKs.out hbl) 0).trans rfl, (blk_cell (blk_below BKt.out hbl) 0).trans rfl⟩ (fun hHeld2 => ?_)
      clear hK K
      refine norm_ (a' := ?_) ?_ ?_
      rotate_left
      · show Act.put _ (some 166) _ = _
        simp only [Act.put, List.setIfInBounds_toArray, List.set_cons_zero, List.set_cons_succ, i64_w, i32_w]
        rfl
      refine pure_ (i := 9) (N := some 157) (v := ?_) (a' := ?_) #[true, true, true, true, true, true, true, true, true, true, false, false, false, true, false, false, false] rfl rfl (any_of HT_.out (by kernel_rfl)) (fun _ _ _ h => h) (Or.inl ⟨by rfl, ?_⟩) ?_ ?_
      rotate_left
      · intro w'
        go_simp
        with_reducible rfl
      rotate_left
      · simp only [Act.put, List.setIfInBounds_toArray, List.set_cons_zero, List.set_cons_succ, i64_w, i32_w]
        rfl
      refine pure_ (i := 10) (N := some 167) (v := ?_) (a' := ?_) #[true, true, true, true, true, true, true, true, true, true, true, false, false, true, false, false, false] rfl rfl (any_of HT_.out (by kernel_rfl)) (fun _ _ _ h => h) (Or.inl ⟨by rfl, ?_⟩) ?_ ?_
      rotate_left
      · intro w'
        go_simp
        with_reducible rfl
      rotate_left
      · simp only [Act.put, List.setIfInBounds_toArray, List.set_cons_zero, List.set_cons_succ, i64_w, i32_w]
        rfl
      refine pure_ (i := 11) (N := some 168) (v := ?_) (a' := ?_) #[true, true, true, true, true, true, true, true, true, true, true, true, false, true, false, false, false] rfl rfl (any_of HT_.out (by kernel_rfl)) (fun _ _ _ h => h) (Or.inl ⟨by rfl, ?_⟩) ?_ ?_
      rotate_left
      · intro w'
        go_simp
        with_reducible rfl
      rotate_left
      · simp only [Act.put, List.setIfInBounds_toArray, List.set_cons_zero, List.set_cons_succ, i64_w, i32_w]
        rfl
      refine pure_ (i := 12) (N := some 169) (v := ?_) (a' := ?_) #[true, true, true, true, true, true, true, true, true, true, true, true, true, true, false, false, false] rfl rfl (any_of HT_.out (by kernel_rfl)) (fun _ _ _ h => h) (Or.inl ⟨by rfl, ?_⟩) ?_ ?_
      rotate_left
      · intro w'
        go_simp
        with_reducible rfl
      rotate_left
      · simp only [Act.put, List.setIfInBounds_toArray, List.set_cons_zero, List.set_cons_succ, i64_w, i32_w]
        rfl
      exact HJ (.slice Aa l0.length ca, .slice Ab l1.length cb, .slice Ac l2.length cc, .slice Ad l3.length cd, v52, v53, w37.heap.size) _ ⟨hbl, h0_, h1_, hx, hgx⟩
  rintro ⟨ua, ub, uc, ud, vGc, vHc, gxh⟩ we ⟨hbl, h0_, h1_, hx, hgx⟩
  dsimp only at h0_ h1_ hx hgx ⊢
  refine norm_ (a' := ?_) ?_ ?_
  rotate_left
  · simp only [putAll, Act.put, List.setIfInBounds_toArray, List.set_cons_zero, List.set_cons_succ, i64_w, i32_w]
    rfl
  obtain ⟨AGc, cGc, rfl⟩ := Kd.R_slice h0_
  obtain ⟨AHc, cHc, rfl⟩ := Kd.R_slice h1_
  have hcx : we.cell? ⟨gxh, 0, none⟩ = some (.slice none 0 0) := (blk_cell hx 0).trans rfl
  have hfx : we.frozen? ⟨gxh, 0, none⟩ = false := blk_frozen hx 0
  refine one_ (i := 14) (N := none) #[true, true, true, true, true, true, true, true, true, true, true, true, true, true, true, false, false] rfl rfl (one_of HT_.out (by kernel_rfl)) (by decide) (fun K hK => ?_)
  refine skip_ (w1 := we.setCell ⟨gxh, 0, none⟩ (.slice AGc G.length cGc)) (by rfl) rfl ?_ ?_
  · go_simp
    try rfl
  have hb_ : Below w36.heap.size w36 (we.setCell ⟨gxh, 0, none⟩ (.slice AGc G.length cGc)) := below_set hbl hgx
  replace h0_ := Kd.R_mono (Kd.R_far (p := ⟨gxh, 0, none⟩) (Kd.R_types h0_ hx (by decide)) (fun _ hk => hk.2) (.slice AGc G.length cGc)) (fun _ hk => hk.1)
  replace h1_ := Kd.R_mono (Kd.R_far (p := ⟨gxh, 0, none⟩) (Kd.R_types h1_ hx (by decide)) (fun _ hk => hk.2) (.slice AGc G.length cGc)) (fun _ hk => hk.1)
  have BKh := Aside0.mk (show (we.setCell ⟨gxh, 0, none⟩ (.slice AGc G.length cGc)).heap[gxh]? = some (.cells #[.slice AGc G.length cGc] 30 (0, 0)) from blk_put (cs := #[.slice none 0 0]) hx 0 _ rfl)
  generalize we.setCell ⟨gxh, 0, none⟩ (.slice AGc G.length cGc) = w38 at hb_ h0_ h1_ BKh ⊢
  clear hx hcx hfx hbl
  have hsz := HB36.out.size
  have Lh := Aside0.mk hgx
  have Nh := Aside0.mk (blk_lt BKh.out)
  clear hgx
  have HB38 := Aside0.mk (below_step HB36.out hb_)
  have Z36 := Aside0.mk (hb_.size)
  replace BKs := Aside0.mk (blk_below BKs.out hb_)
  replace BKt := Aside0.mk (blk_below BKt.out hb_)
  replace BKa := Aside0.mk (blk_below BKa.out hb_)
  replace BKx := Aside0.mk (blk_below BKx.out hb_)
  replace BKv := Aside0.mk (blk_below BKv.out hb_)
  replace BKg := Aside0.mk (blk_below BKg.out hb_)
  replace HRGa := Aside0.mk (HRGa.out.below hb_)
  replace HRHa := Aside0.mk (HRHa.out.below hb_)
  replace HRGb := Aside0.mk (HRGb.out.below hb_)
  replace HRHb := Aside0.mk (HRHb.out.below hb_)
  clear HB36
  have HRGc := Aside0.mk ((Rw.new hsz h0_).and (Q := fun k => some k ≠ (.slice AHc H.length cHc : Value).ownBlock) h0_.1)
  have HRHc := Aside0.mk ((Rw.new hsz h1_).and (Q := fun k => some k = (.slice AHc H.length cHc : Value).ownBlock) (fun k hk => hk.symm))
  clear h0_ h1_ hsz hb_ hbw
  refine hK.out _ _ ⟨(blk_cell BKs.out 0).trans rfl, (blk_cell BKt.out 0).trans rfl⟩ (fun hHeld => ?_)
  clear hK K
  refine pure_ (i := 15) (N := some 24) (v := ?_) (a' := ?_) #[true, true, true, true, true, true, true, true, true, true, true, true, true, true, true, true, false] rfl rfl (any_of HT_.out (by kernel_rfl)) (fun _ _ _ h => h) (Or.inl ⟨by rfl, ?_⟩) ?_ ?_
  rotate_left
  · intro w'
    go_simp
    with_reducible rfl
  rotate_left
  · simp only [Act.put, List.setIfInBounds_toArray, List.set_cons_zero, List.set_cons_succ, i64_w, i32_w]
    rfl
  refine pure_ (i := 16) (N := some 25) (v := ?_) (a' := ?_) #[true, true, true, true, true, true, true, true, true, true, true, true, true, true, true, true, true] rfl rfl (any_of HT_.out (by kernel_rfl)) (fun _ _ _ h => h) (Or.inl ⟨by rfl, ?_⟩) ?_ ?_
  rotate_left
  · intro w'
    go_simp
    with_reducible rfl
  rotate_left
  · simp only [Act.put, List.setIfInBounds_toArray, List.set_cons_zero, List.set_cons_succ, i64_w, i32_w]
    rfl
  refine done_ (by kernel_rfl) ?_
  have hch0 : w38.cell? ⟨gxh, 0, none⟩ = some (.slice AGc G.length cGc) := (blk_cell BKh.out 0).trans rfl
  have hca0 : w38.cell? ⟨gxa, 0, none⟩ = some (.slice AGa G.length cGa) := (blk_cell BKa.out 0).trans rfl
  go_wp2_with fail
  clear hch0 hca0
  refine (laws_eqSpace.calls k AGc cGc G AGa cGa G true w38 (Kd.R_reads' HRGc.out.R).2.2 (Kd.R_reads' HRGc.out.R).2.1 (Kd.R_reads' HRGa.out.R).2.2 (Kd.R_reads' HRGa.out.R).2.1 Fe1.out).mono ?_
  rintro e w39 ⟨rfl, hb39⟩
  have HB39 := Aside0.mk (below_step HB38.out hb39)
  have Z37 := Aside0.mk (hb39.size)
  replace BKs := Aside0.mk (blk_below BKs.out hb39)
  replace BKt := Aside0.mk (blk_below BKt.out hb39)
  replace BKa := Aside0.mk (blk_below BKa.out hb39)
  replace BKx := Aside0.mk (blk_below BKx.out hb39)
  replace BKv := Aside0.mk (blk_below BKv.out hb39)
  replace BKg := Aside0.mk (blk_below BKg.out hb39)
  replace BKh := Aside0.mk (blk_below BKh.out hb39)
  replace HRGa := Aside0.mk (HRGa.out.below hb39)
  replace HRHa := Aside0.mk (HRHa.out.below hb39)
  replace HRGb := Aside0.mk (HRGb.out.below hb39)
  replace HRHb := Aside0.mk (HRHb.out.below hb39)
  replace HRGc := Aside0.mk (HRGc.out.below hb39)
  replace HRHc := Aside0.mk (HRHc.out.below hb39)
  clear HB38
  clear hb39
  go_wp2_with fail
  refine (laws_eqInt64S.calls k AHc cHc H AHa cHa H true w39 (Kd.R_reads' HRHc.out.R).2.2 (Kd.R_reads' HRHc.out.R).2.1 (Kd.R_reads' HRHa.out.R).2.2 (Kd.R_reads' HRHa.out.R).2.1 Fe2.out).mono ?_
  rintro e w40 ⟨rfl, hb40⟩
  replace hb40 := hb40.below
  have HB40 := Aside0.mk (below_step HB39.out hb40)
  have Z38 := Aside0.mk (hb40.size)
  replace BKs := Aside0.mk (blk_below BKs.out hb40)
  replace BKt := Aside0.mk (blk_below BKt.out hb40)
  replace BKa := Aside0.mk (blk_below BKa.out hb40)
  replace BKx := Aside0.mk (blk_below BKx.out hb40)
  replace BKv := Aside0.mk (blk_below BKv.out hb40)
  replace BKg := Aside0.mk (blk_below BKg.out hb40)
  replace BKh := Aside0.mk (blk_below BKh.out hb40)
  replace HRGa := Aside0.mk (HRGa.out.below hb40)
  replace HRHa := Aside0.mk (HRHa.out.below hb40)
  replace HRGb := Aside0.mk (HRGb.out.below hb40)
  replace HRHb := Aside0.mk (HRHb.out.below hb40)
  replace HRGc := Aside0.mk (HRGc.out.below hb40)
  replace HRHc := Aside0.mk (HRHc.out.below hb40)
  clear HB39
  clear hb40
  have hcg0 : w40.cell? ⟨w13.heap.size, 0, none⟩ = some (.slice AGb G.length cGb) := (blk_cell BKg.out 0).trans rfl
  go_wp2_with fail
  clear hcg0
  obtain ⟨e_, hl_, hC_⟩ := Kd.R_reads' HRGb.out.R
  have HCA := laws_heldSpace.calls k AGb cGb G' 1 n1 w40 hC_ (by omega) Fh1.out
  rw [← e_] at HCA
  replace HCA := Aside0.mk HCA
  clear e_ hl_ hC_
  refine (HCA.out).mono ?_
  rintro e w41 ⟨rfl, hb41⟩
  have HB41 := Aside0.mk (below_step HB40.out hb41)
  have Z39 := Aside0.mk (hb41.size)
  replace BKs := Aside0.mk (blk_below BKs.out hb41)
  replace BKt := Aside0.mk (blk_below BKt.out hb41)
  replace BKa := Aside0.mk (blk_below BKa.out hb41)
  replace BKx := Aside0.mk (blk_below BKx.out hb41)
  replace BKv := Aside0.mk (blk_below BKv.out hb41)
  replace BKg := Aside0.mk (blk_below BKg.out hb41)
  replace BKh := Aside0.mk (blk_below BKh.out hb41)
  replace HRGa := Aside0.mk (HRGa.out.below hb41)
  replace HRHa := Aside0.mk (HRHa.out.below hb41)
  replace HRGb := Aside0.mk (HRGb.out.below hb41)
  replace HRHb := Aside0.mk (HRHb.out.below hb41)
  replace HRGc := Aside0.mk (HRGc.out.below hb41)
  replace HRHc := Aside0.mk (HRHc.out.below hb41)
  clear HB40
  clear hb41
  clear HCA
  go_wp2_with fail
  obtain ⟨e_, hl_, hC_⟩ := Kd.R_reads' HRHb.out.R
  have HCA := laws_heldInt64S.calls k AHb cHb H' n1 n2 w41 hC_ (by omega) Fh2.out
  rw [← e_] at HCA
  replace HCA := Aside0.mk HCA
  clear e_ hl_ hC_
  refine (HCA.out).mono ?_
  rintro e w42 ⟨rfl, hb42⟩
  replace hb42 := hb42.below
  have HB42 := Aside0.mk (below_step HB41.out hb42)
  have Z40 := Aside0.mk (hb42.size)
  replace BKs := Aside0.mk (blk_below BKs.out hb42)
  replace BKt := Aside0.mk (blk_below BKt.out hb42)
  replace BKa := Aside0.mk (blk_below BKa.out hb42)
  replace BKx := Aside0.mk (blk_below BKx.out hb42)
  replace BKv := Aside0.mk (blk_below BKv.out hb42)
  replace BKg := Aside0.mk (blk_below BKg.out hb42)
  replace BKh := Aside0.mk (blk_below BKh.out hb42)
  replace HRGa := Aside0.mk (HRGa.out.below hb42)
  replace HRHa := Aside0.mk (HRHa.out.below hb42)
  replace HRGb := Aside0.mk (HRGb.out.below hb42)
  replace HRHb := Aside0.mk (HRHb.out.below hb42)
  replace HRGc := Aside0.mk (HRGc.out.below hb42)
  replace HRHc := Aside0.mk (HRHc.out.below hb42)
  clear HB41
  clear hb42
  clear HCA
  go_wp2
  go_ret
  exact ⟨rfl, HB42.out⟩
set_option maxHeartbeats 2000000 in
set_option maxRecDepth 100000 in
theorem jo_x1 (k : Nat) (A0 : Option Addr) (c0 : Nat) (l0 : List Int) (A1 : Option Addr) (c1 : Nat) (l1 : List Int) (A2 : Option Addr) (c2 : Nat) (l2 : List Int) (A3 : Option Addr) (c3 : Nat) (l3 : List Int) (w : World) (hr0 : Kd.C (Kd.int .i64) w A0 l0.length l0) (hc0 : l0.length ≤ c0) (hr1 : Kd.C (Kd.int .i64) w A1 l1.length l1) (hc1 : l1.length ≤ c1) (hr2 : Kd.C (Kd.int .i64) w A2 l2.length l2) (hc2 : l2.length ≤ c2) (hr3 : Kd.C (Kd.int .i64) w A3 l3.length l3) (hc3 : l3.length ≤ c3) (q1_ : (l1.length : Int) > 1048576) :
    Calls Try.prog 4 #[.agg #[.slice A0 l0.length c0], .slice A1 l1.length c1, .agg #[.slice A2 l2.length c2], .slice A3 l3.length c3] w fun e w' => e = .returned (.bool true) ∧ Below w.heap.size w w' := by
  clear hr0 hc0 hr1 hc1 hr2 hc2 hr3 hc3
  have q1_d : decide ((l1.length : Int) > 1048576) = true := decide_eq_true q1_
  go_enter Try.func4, Try.ntmps4
  have hb1 := below_alloc (below_alloc (Below.refl w.heap.size w) (.cells #[.slice A0 l0.length c0] 24)) (.cells #[.slice A2 l2.length c2] 24)
  go_wp2
  go_ret
  exact ⟨rfl, hb1⟩
set_option maxHeartbeats 2000000 in
set_option maxRecDepth 100000 in
theorem jo_x2 (k : Nat) (A0 : Option Addr) (c0 : Nat) (l0 : List Int) (A1 : Option Addr) (c1 : Nat) (l1 : List Int) (A2 : Option Addr) (c2 : Nat) (l2 : List Int) (A3 : Option Addr) (c3 : Nat) (l3 : List Int) (w : World) (hr0 : Kd.C (Kd.int .i64) w A0 l0.length l0) (hc0 : l0.length ≤ c0) (hr1 : Kd.C (Kd.int .i64) w A1 l1.length l1) (hc1 : l1.length ≤ c1) (hr2 : Kd.C (Kd.int .i64) w A2 l2.length l2) (hc2 : l2.length ≤ c2) (hr3 : Kd.C (Kd.int .i64) w A3 l3.length l3) (hc3 : l3.length ≤ c3) (q1_ : ¬ (l1.length : Int) > 1048576) (q2_ : (l3.length : Int) > 1048576) :
    Calls Try.prog 4 #[.agg #[.slice A0 l0.length c0], .slice A1 l1.length c1, .agg #[.slice A2 l2.length c2], .slice A3 l3.length c3] w fun e w' => e = .returned (.bool true) ∧ Below w.heap.size w w' := by
  clear hr0 hc0 hr1 hc1 hr2 hc2 hr3 hc3
  have q1_d : decide ((l1.length : Int) > 1048576) = false := decide_eq_false q1_
  have q2_d : decide ((l3.length : Int) > 1048576) = true := decide_eq_true q2_
  go_enter Try.func4, Try.ntmps4
  have hb1 := below_alloc (below_alloc (Below.refl w.heap.size w) (.cells #[.slice A0 l0.length c0] 24)) (.cells #[.slice A2 l2.length c2] 24)
  go_wp2
  go_ret
  exact ⟨rfl, hb1⟩
set_option maxHeartbeats 2000000 in
set_option maxRecDepth 100000 in
theorem jo_x3 (k : Nat) (A0 : Option Addr) (c0 : Nat) (l0 : List Int) (A1 : Option Addr) (c1 : Nat) (l1 : List Int) (A2 : Option Addr) (c2 : Nat) (l2 : List Int) (A3 : Option Addr) (c3 : Nat) (l3 : List Int) (w : World) (hr0 : Kd.C (Kd.int .i64) w A0 l0.length l0) (hc0 : l0.length ≤ c0) (hr1 : Kd.C (Kd.int .i64) w A1 l1.length l1) (hc1 : l1.length ≤ c1) (hr2 : Kd.C (Kd.int .i64) w A2 l2.length l2) (hc2 : l2.length ≤ c2) (hr3 : Kd.C (Kd.int .i64) w A3 l3.length l3) (hc3 : l3.length ≤ c3) (q1_ : ¬ (l1.length : Int) > 1048576) (q2_ : ¬ (l3.length : Int) > 1048576) (z1 : Int) (hz1 : laws_szSpace.f l0 1048576 = some z1) (q3_ : z1 < 0) :
    Calls Try.prog 4 #[.agg #[.slice A0 l0.length c0], .slice A1 l1.length c1, .agg #[.slice A2 l2.length c2], .slice A3 l3.length c3] w fun e w' => e = .returned (.bool true) ∧ Below w.heap.size w w' := by
  have HP0 := Aside0.mk hr0
  have HC0 := Aside0.mk hc0
  have HP1 := Aside0.mk hr1
  have HC1 := Aside0.mk hc1
  have HP2 := Aside0.mk hr2
  have HC2 := Aside0.mk hc2
  have HP3 := Aside0.mk hr3
  have HC3 := Aside0.mk hc3
  clear hr0 hc0 hr1 hc1 hr2 hc2 hr3 hc3
  have Fz1 := Aside0.mk hz1
  clear hz1
  have q1_d : decide ((l1.length : Int) > 1048576) = false := decide_eq_false q1_
  have q2_d : decide ((l3.length : Int) > 1048576) = false := decide_eq_false q2_
  have q3_d : decide (z1 < 0) = true := decide_eq_true q3_
  go_enter Try.func4, Try.ntmps4
  go_wp2_with fail
  have hs1 := World.size_alloc w (.cells #[.slice A0 l0.length c0] 24)
  have hb0 := below_alloc (Below.refl w.heap.size w) (.cells #[.slice A0 l0.length c0] 24)
  have BKs := Aside0.mk (blk_new w (.cells #[.slice A0 l0.length c0] 24))
  generalize w.alloc (.cells #[.slice A0 l0.length c0] 24) = w1 at hs1 hb0 BKs ⊢
  have HB1 := Aside0.mk (below_step (Below.refl _ _) hb0)
  have Z1 := Aside0.mk (hb0.size)
  clear hb0
  have Ns := Aside0.mk (blk_lt BKs.out)
  have hb2 := below_alloc (Below.refl w1.heap.size w1) (.cells #[.slice A2 l2.length c2] 24)
  have BKt := Aside0.mk (blk_new w1 (.cells #[.slice A2 l2.length c2] 24))
  generalize w1.alloc (.cells #[.slice A2 l2.length c2] 24) = w2 at hb2 BKt ⊢
  have HB2 := Aside0.mk (below_step HB1.out hb2)
  have Z2 := Aside0.mk (hb2.size)
  replace BKs := Aside0.mk (blk_below BKs.out hb2)
  clear HB1
  clear hb2
  have Nt := Aside0.mk (blk_lt BKt.out)
  replace BKt := Aside0.mk (by have h := BKt.out; rw [hs1] at h; exact h)
  replace Nt := Aside0.mk (by have h := Nt.out; rw [hs1] at h; exact h)
  have ZT := Aside0.mk hs1
  clear hs1
  refine (laws_szSpace.calls A0 c0 l0 1048576 z1 w2 (Kd.C_below HP0.out HB2.out) HC0.out Fz1.out).mono ?_
  rintro e w3 ⟨rfl, hb3⟩
  have HB3 := Aside0.mk (below_step HB2.out hb3)
  have Z3 := Aside0.mk (hb3.size)
  replace BKs := Aside0.mk (blk_below BKs.out hb3)
  replace BKt := Aside0.mk (blk_below BKt.out hb3)
  clear HB2
  clear hb3
  go_wp2
  go_ret
  exact ⟨rfl, HB3.out⟩
set_option maxHeartbeats 2000000 in
set_option maxRecDepth 100000 in
theorem jo_x4 (k : Nat) (A0 : Option Addr) (c0 : Nat) (l0 : List Int) (A1 : Option Addr) (c1 : Nat) (l1 : List Int) (A2 : Option Addr) (c2 : Nat) (l2 : List Int) (A3 : Option Addr) (c3 : Nat) (l3 : List Int) (w : World) (hr0 : Kd.C (Kd.int .i64) w A0 l0.length l0) (hc0 : l0.length ≤ c0) (hr1 : Kd.C (Kd.int .i64) w A1 l1.length l1) (hc1 : l1.length ≤ c1) (hr2 : Kd.C (Kd.int .i64) w A2 l2.length l2) (hc2 : l2.length ≤ c2) (hr3 : Kd.C (Kd.int .i64) w A3 l3.length l3) (hc3 : l3.length ≤ c3) (q1_ : ¬ (l1.length : Int) > 1048576) (q2_ : ¬ (l3.length : Int) > 1048576) (z1 z2 : Int) (hz1 : laws_szSpace.f l0 1048576 = some z1) (q3_ : ¬ z1 < 0) (hz2 : laws_szSpace.f l2 z1 = some z2) (q4_ : z2 < 0) :
    Calls Try.prog 4 #[.agg #[.slice A0 l0.length c0], .slice A1 l1.length c1, .agg #[.slice A2 l2.length c2], .slice A3 l3.length c3] w fun e w' => e = .returned (.bool true) ∧ Below w.heap.size w w' := by
  have HP0 := Aside0.mk hr0
  have HC0 := Aside0.mk hc0
  have HP1 := Aside0.mk hr1
  have HC1 := Aside0.mk hc1
  have HP2 := Aside0.mk hr2
  have HC2 := Aside0.mk hc2
  have HP3 := Aside0.mk hr3
  have HC3 := Aside0.mk hc3
  clear hr0 hc0 hr1 hc1 hr2 hc2 hr3 hc3
  have Fz1 := Aside0.mk hz1
  clear hz1
  have Fz2 := Aside0.mk hz2
  clear hz2
  have q1_d : decide ((l1.length : Int) > 1048576) = false := decide_eq_false q1_
  have q2_d : decide ((l3.length : Int) > 1048576) = false := decide_eq_false q2_
  have q3_d : decide (z1 < 0) = false := decide_eq_false q3_
  have q4_d : decide (z2 < 0) = true := decide_eq_true q4_
  go_enter Try.func4, Try.ntmps4
  go_wp2_with fail
  have hs1 := World.size_alloc w (.cells #[.slice A0 l0.length c0] 24)
  have hb0 := below_alloc (Below.refl w.heap.size w) (.cells #[.slice A0 l0.length c0] 24)
  have BKs := Aside0.mk (blk_new w (.cells #[.slice A0 l0.length c0] 24))
  generalize w.alloc (.cells #[.slice A0 l0.length c0] 24) = w1 at hs1 hb0 BKs ⊢
  have HB1 := Aside0.mk (below_step (Below.refl _ _) hb0)
  have Z1 := Aside0.mk (hb0.size)
  clear hb0
  have Ns := Aside0.mk (blk_lt BKs.out)
  have hb2 := below_alloc (Below.refl w1.heap.size w1) (.cells #[.slice A2 l2.length c2] 24)
  have BKt := Aside0.mk (blk_new w1 (.cells #[.slice A2 l2.length c2] 24))
  generalize w1.alloc (.cells #[.slice A2 l2.length c2] 24) = w2 at hb2 BKt ⊢
  have HB2 := Aside0.mk (below_step HB1.out hb2)
  have Z2 := Aside0.mk (hb2.size)
  replace BKs := Aside0.mk (blk_below BKs.out hb2)
  clear HB1
  clear hb2
  have Nt := Aside0.mk (blk_lt BKt.out)
  replace BKt := Aside0.mk (by have h := BKt.out; rw [hs1] at h; exact h)
  replace Nt := Aside0.mk (by have h := Nt.out; rw [hs1] at h; exact h)
  have ZT := Aside0.mk hs1
  clear hs1
  refine (laws_szSpace.calls A0 c0 l0 1048576 z1 w2 (Kd.C_below HP0.out HB2.out) HC0.out Fz1.out).mono ?_
  rintro e w3 ⟨rfl, hb3⟩
  have HB3 := Aside0.mk (below_step HB2.out hb3)
  have Z3 := Aside0.mk (hb3.size)
  replace BKs := Aside0.mk (blk_below BKs.out hb3)
  replace BKt := Aside0.mk (blk_below BKt.out hb3)
  clear HB2
  clear hb3
  have hct0 : w3.cell? ⟨(w.heap.size + 1), 0, none⟩ = some (.slice A2 l2.length c2) := (blk_cell BKt.out 0).trans rfl
  go_wp2_with fail
  clear hct0
  refine (laws_szSpace.calls A2 c2 l2 z1 z2 w3 (Kd.C_below HP2.out HB3.out) HC2.out Fz2.out).mono ?_
  rintro e w4 ⟨rfl, hb4⟩
  have HB4 := Aside0.mk (below_step HB3.out hb4)
  have Z4 := Aside0.mk (hb4.size)
  replace BKs := Aside0.mk (blk_below BKs.out hb4)
  replace BKt := Aside0.mk (blk_below BKt.out hb4)
  clear HB3
  clear hb4
  go_wp2
  go_ret
  exact ⟨rfl, HB4.out⟩
/-- What the law asks on the ways on which it answers true: what each function answers. -/
def JGood (k : Nat) (l0 l1 l2 l3 : List Int) : Prop := (l1.length : Int) > 1048576 ∨ (¬ (l1.length : Int) > 1048576 ∧ (l3.length : Int) > 1048576) ∨ (¬ (l1.length : Int) > 1048576 ∧ ¬ (l3.length : Int) > 1048576 ∧ ∃ z1, laws_szSpace.f l0 1048576 = some z1 ∧ z1 < 0) ∨ (¬ (l1.length : Int) > 1048576 ∧ ¬ (l3.length : Int) > 1048576 ∧ ∃ z1 z2, laws_szSpace.f l0 1048576 = some z1 ∧ ¬ z1 < 0 ∧ laws_szSpace.f l2 z1 = some z2 ∧ z2 < 0) ∨ ∃ (G H l0' l1' l2' l3' G' H' : List Int) (z1 z2 e0 m0 m1 m2 m3 n1 n2 : Int), (laws_toSpace.f k l0 = some l0) ∧ (laws_toInt64S.f k l1 = some l1) ∧ (laws_toSpace.f k l2 = some l2) ∧ (laws_toInt64S.f k l3 = some l3) ∧ (laws_szSpace.f l0 1048576 = some z1) ∧ (laws_szSpace.f l2 z1 = some z2) ∧ (spec_JoinOverPlace.f k l0 l1 l2 l3 = some (G, H, e0)) ∧ (impl_JoinOverPlace.f k l0 l1 l2 l3 = some (G, H, e0)) ∧ (laws_eqSpace.f k G G = some true) ∧ (laws_eqInt64S.f k H H = some true) ∧ (laws_eqSpace.f k l0 l0 = some true) ∧ (laws_eqInt64S.f k l1 l1 = some true) ∧ (laws_eqSpace.f k l2 l2 = some true) ∧ (laws_eqInt64S.f k l3 l3 = some true) ∧ (laws_markSpace.f k l0 1 = some (m0, l0')) ∧ (laws_markInt64S.f k l1 m0 = some (m1, l1')) ∧ (laws_markSpace.f k l2 m1 = some (m2, l2')) ∧ (laws_markInt64S.f k l3 m2 = some (m3, l3')) ∧ (laws_markSpace.f k G 1 = some (n1, G')) ∧ (laws_markInt64S.f k H n1 = some (n2, H')) ∧ (laws_heldSpace.f k G' 1 = some n1) ∧ (laws_heldInt64S.f k H' n1 = some n2) ∧ (¬ (l1.length : Int) > 1048576) ∧ (¬ (l3.length : Int) > 1048576) ∧ (¬ z1 < 0) ∧ (¬ z2 < 0) ∧ (¬ m3 < 0) ∧ (¬ n1 < 0) ∧ (¬ n2 < 0)
/-! ### laws_FnExactJoinOverPlace: function 4 -/
theorem laws_FnExactJoinOverPlace.calls (k : Nat) (A0 : Option Addr) (c0 : Nat) (l0 : List Int) (A1 : Option Addr) (c1 : Nat) (l1 : List Int) (A2 : Option Addr) (c2 : Nat) (l2 : List Int) (A3 : Option Addr) (c3 : Nat) (l3 : List Int) (w : World) (hr0 : Kd.C (Kd.int .i64) w A0 l0.length l0) (hc0 : l0.length ≤ c0) (hr1 : Kd.C (Kd.int .i64) w A1 l1.length l1) (hc1 : l1.length ≤ c1) (hr2 : Kd.C (Kd.int .i64) w A2 l2.length l2) (hc2 : l2.length ≤ c2) (hr3 : Kd.C (Kd.int .i64) w A3 l3.length l3) (hc3 : l3.length ≤ c3) (h : JGood k l0 l1 l2 l3) :
    Calls Try.prog 4 #[.agg #[.slice A0 l0.length c0], .slice A1 l1.length c1, .agg #[.slice A2 l2.length c2], .slice A3 l3.length c3] w fun e w' => e = .returned (.bool true) ∧ Below w.heap.size w w' := by
  rcases h with h | ⟨h1, h⟩ | ⟨h1, h2, z1, h3, h⟩ | ⟨h1, h2, z1, z2, h3, h4, h5, h⟩ | ⟨G, H, l0', l1', l2', l3', G', H', z1, z2, e0, m0, m1, m2, m3, n1, n2, ht0, ht1, ht2, ht3, hz1, hz2, hw, hg, he1, he2, hq0, hq1, hq2, hq3, hm0, hm1, hm2, hm3, hn1, hn2, hh1, hh2, q1_, q2_, q3_, q4_, q5_, q6_, q7_⟩
  · exact jo_x1 k A0 c0 l0 A1 c1 l1 A2 c2 l2 A3 c3 l3 w hr0 hc0 hr1 hc1 hr2 hc2 hr3 hc3 h
  · exact jo_x2 k A0 c0 l0 A1 c1 l1 A2 c2 l2 A3 c3 l3 w hr0 hc0 hr1 hc1 hr2 hc2 hr3 hc3 h1 h
  · exact jo_x3 k A0 c0 l0 A1 c1 l1 A2 c2 l2 A3 c3 l3 w hr0 hc0 hr1 hc1 hr2 hc2 hr3 hc3 h1 h2 z1 h3 h
  · exact jo_x4 k A0 c0 l0 A1 c1 l1 A2 c2 l2 A3 c3 l3 w hr0 hc0 hr1 hc1 hr2 hc2 hr3 hc3 h1 h2 z1 z2 h3 h4 h5 h
  · exact jo_good k A0 c0 l0 A1 c1 l1 A2 c2 l2 A3 c3 l3 w hr0 hc0 hr1 hc1 hr2 hc2 hr3 hc3 G H l0' l1' l2' l3' G' H' z1 z2 e0 m0 m1 m2 m3 n1 n2 ht0 ht1 ht2 ht3 hz1 hz2 hw hg he1 he2 hq0 hq1 hq2 hq3 hm0 hm1 hm2 hm3 hn1 hn2 hh1 hh2 q1_ q2_ q3_ q4_ q5_ q6_ q7_
end Go.Proofs.Ythbfaefneoeadaa.PFnExactJoinOverPlace
