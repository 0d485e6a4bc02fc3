-- WALKS, by a program and by hand
import Derived.Test.YthbfaefneoeadaaProg
import Derived.Below
import Derived.Deep.Draws
import Derived.Deep.AppendLies
import Derived.Maps.AppendAt
import Derived.OwnWalk
import Derived.Laws.BytesArg
import Derived.Laws.MakeOwn
import Derived.Laws.OwnMore
import Derived.Deep.OwnRows
import Derived.Tactics
import Derived.Lib.ConvBytes
import Derived.Laws.Slices
import Derived.WalkKit
import Derived.KernelRfl
import Derived.RowKit3
import Derived.Deep.LoopGhost
import Derived.Deep.QuietTactic
import Derived.BigQuiet
import Derived.WideLaws
import Derived.Deep.DeepCutAuto
import Derived.Deep.CutBlock
import Derived.Deep.RegionHeld3
import Derived.Laws.Rows
import Derived.Lib.AppendStr
import Derived.ArgAppend
import Derived.Laws.IdiomCopy
import Derived.OrdersHeld
import Derived.Laws.BitsLemmas
import Derived.RowKit
import Derived.Outline
import Derived.Laws.CopyOwn
import Derived.Test.YthbfaefneoeadaaCbDg
import Derived.Test.YthbfaefneoeadaaCbDg2
import Derived.Test.YthbfaefneoeadaaCbFw
import Derived.Test.YthbfaefneoeadaaCbDg3
import Derived.Test.YthbfaefneoeadaaCbCh
import Derived.Test.YthbfaefneoeadaaCbChA
import Derived.Test.YthbfaefneoeadaaCbChN
import Derived.Test.YthbfaefneoeadaaCbChC
import Derived.Test.YthbfaefneoeadaaCbGrowL
import Derived.Test.YthbfaefneoeadaaCbWWords
import Derived.Test.YthbfaefneoeadaaCbWLast
import Derived.Test.YthbfaefneoeadaaCbWTab
import Derived.Test.YthbfaefneoeadaaCbWQPut
import Derived.Test.YthbfaefneoeadaaCbWApart
import Derived.Test.YthbfaefneoeadaaCbWFoot
import Derived.Test.YthbfaefneoeadaaCbWKept
import Derived.Test.YthbfaefneoeadaaCbWShare
import Derived.Test.YthbfaefneoeadaaCbWN
import Derived.Laws.StructEq
import Derived.Test.YthbfaefneoeadaaCbWRepsOne
import Derived.Test.YthbfaefneoeadaaCbWInv
import Derived.Test.YthbfaefneoeadaaCbWGuard
import Derived.Test.YthbfaefneoeadaaCbWMore
import Derived.Test.YthbfaefneoeadaaPFnExactCodeByColumnsx11
namespace Go.Proofs.Ythbfaefneoeadaa.PFnExactCodeByColumns
open Go.RowKit Go.Proofs.YthbfaefneoeadaaW.PrintWords Go.Proofs.YthbfaefneoeadaaW.PrintLast Go.Proofs.YthbfaefneoeadaaW.PrintMore Go.Proofs.Ythbfaefneoeadaa.DG
attribute [local go_sem] max2_int min2_int max_two min_two max_three min_three max_four min_four
set_option linter.unusedVariables false
set_option linter.unusedSimpArgs false
/-- A row of a law: who owns it, and that its blocks lie below. -/
structure Rw (w W : World) (P : Nat → Prop) (v : Value) (l : List Int) : Prop where
  R : Kd.R (Kd.int .i64) 2 W w.heap.size P v l
  h : ∀ k, P k → k < W.heap.size
theorem Rw.below {w W W' : World} {P : Nat → Prop} {v : Value} {l : List Int} (h : Rw w W P v l) (hb : Below W.heap.size W W') : Rw w W' P v l := ⟨Kd.R_below h.R hb, fun k hp => Nat.lt_of_lt_of_le (h.h k hp) hb.size⟩
theorem Rw.other {w W W' : World} {P Q : Nat → Prop} {v : Value} {l : List Int} (h : Rw w W P v l) (hk : Kept W W' Q) (hd : ∀ k, P k → ¬ Q k) : Rw w W' P v l := ⟨Kd.R_step h.R (fun k hk' hlt => hk.2 k hlt (hd k hk')), fun k hp => Nat.lt_of_lt_of_le (h.h k hp) hk.1⟩
theorem Rw.marked {w W W' : World} {P Q : Nat → Prop} {v : Value} {l l' : List Int} (h : Rw w W P v l) (r : Kd.R (Kd.int .i64) 2 W' w.heap.size Q v l') (hs : W.heap.size ≤ W'.heap.size) : Rw w W' P v l' := ⟨⟨h.R.1, r.2.imp_ (fun _ _ hp => hp)⟩, fun k hp => Nat.lt_of_lt_of_le (h.h k hp) hs⟩
theorem Rw.new {w W W' : World} {P : Nat → Prop} {v : Value} {l : List Int} (hs : w.heap.size ≤ W.heap.size) (r : Kd.R (Kd.int .i64) 2 W' W.heap.size P v l) : Rw w W' (fun k => W.heap.size ≤ k ∧ k < W'.heap.size) v l := ⟨⟨fun k hk => by
  have h := (Kd.R_bound r).1 k hk
  exact ⟨h.2.1, h.2.2.1⟩, (Kd.R_lower r hs).2.imp_ (fun _ _ hp => hp)⟩, fun k hp => hp.2⟩
theorem Rw.and {w W : World} {P Q : Nat → Prop} {v : Value} {l : List Int} (h : Rw w W P v l) (hq : ∀ k, v.ownBlock = some k → Q k) : Rw w W (fun k => P k ∧ Q k) v l := ⟨⟨fun k hk => ⟨h.R.1 k hk, hq k hk⟩, h.R.2.imp_ (fun _ _ hp => hp)⟩, fun k hp => h.h k hp.1⟩
theorem blk_kept {W W' : World} {Q : Nat → Prop} {g : Nat} {o : Obj} (h : W.heap[g]? = some o) (hk : Kept W W' Q) (hd : ¬ Q g) : W'.heap[g]? = some o := (hk.2 g (blk_lt h) hd).trans h
def cb16.T : Bool × List (List Nat × List Nat) := (true, [([], []), ([], []), ([1], [1]), ([0, 2, 2], [0, 2]), ([3], [3])])
def cb16.B : List Nat := [0, 0, 2, 7, 15]
theorem cb16.tab : rtab .any (opsOf Try.f7 16) = cb16.T := by kernel_rfl
theorem cb16.bits : waitsOk cb16.T.2 cb16.B = true := by kernel_rfl
set_option maxHeartbeats 8000000 in
set_option maxRecDepth 100000 in
theorem jo_good (k : Nat) (A0 : Option Addr) (c0 : Nat) (l0 : List Int) (A1 : Option Addr) (c1 : Nat) (l1 : List Int) (A2 : Option Addr) (c2 : Nat) (l2 : List Int) (w : World) (hr0 : Kd.C (Kd.int .i64) w A0 l0.length l0) (hc0 : l0.length ≤ c0) (hr1 : Kd.C (Kd.int .i64) w A1 l1.length l1) (hc1 : l1.length ≤ c1) (hr2 : Kd.C (Kd.int .i64) w A2 l2.length l2) (hc2 : l2.length ≤ c2) (G H l0' l1' l2' G' H' : List Int) (z1 e0 m0 m1 m2 n1 n2 : Int) (ht0 : laws_toSpace.f k l0 = some l0) (ht1 : laws_toInt64S.f k l1 = some l1) (ht2 : laws_toInt64S.f k l2 = some l2) (hz1 : laws_szSpace.f l0 1048576 = some z1) (hw : spec_CodeByColumns.f k l0 l1 l2 = some (G, H, e0)) (hg : impl_CodeByColumns.f k l0 l1 l2 = some (G, H, e0)) (he1 : laws_eqSpace.f k G G = some true) (he2 : laws_eqInt64S.f k H H = some true) (hq0 : laws_eqSpace.f k l0 l0 = some true) (hq1 : laws_eqInt64S.f k l1 l1 = some true) (hq2 : laws_eqInt64S.f k l2 l2 = some true) (hm0 : laws_markSpace.f k l0 1 = some (m0, l0')) (hm1 : laws_markInt64S.f k l1 m0 = some (m1, l1')) (hm2 : laws_markInt64S.f k l2 m1 = some (m2, l2')) (hn1 : laws_markSpace.f k G 1 = some (n1, G')) (hn2 : laws_markInt64S.f k H n1 = some (n2, H')) (hh1 : laws_heldSpace.f k G' 1 = some n1) (hh2 : laws_heldInt64S.f k H' n1 = some n2) (q1_ : ¬ (l1.length : Int) > 1048576) (q2_ : ¬ (l2.length : Int) > 1048576) (q3_ : ¬ z1 < 0) (q5_ : ¬ m2 < 0) (q6_ : ¬ n1 < 0) (q7_ : ¬ n2 < 0) :
    Calls Try.prog 7 #[.agg #[.slice A0 l0.length c0], .slice A1 l1.length c1, .slice A2 l2.length c2] w fun e w' => e = .returned (.bool true) ∧ Below w.heap.size w w' := by
  have HT0 := Aside0.mk ht0
  have HT1 := Aside0.mk ht1
  have HT2 := Aside0.mk ht2
  have Fz1 := Aside0.mk hz1
  have Fw := Aside0.mk hw
  have Fg := Aside0.mk hg
  have Fe1 := Aside0.mk he1
  have Fe2 := Aside0.mk he2
  have Fq0 := Aside0.mk hq0
  have Fq1 := Aside0.mk hq1
  have Fq2 := Aside0.mk hq2
  have Fm0 := Aside0.mk hm0
  have Fm1 := Aside0.mk hm1
  have Fm2 := Aside0.mk hm2
  have Fn1 := Aside0.mk hn1
  have Fn2 := Aside0.mk hn2
  have Fh1 := Aside0.mk hh1
  have Fh2 := Aside0.mk hh2
  have HP0 := Aside0.mk hr0
  have HC0 := Aside0.mk hc0
  have HP1 := Aside0.mk hr1
  have HC1 := Aside0.mk hc1
  have HP2 := Aside0.mk hr2
  have HC2 := Aside0.mk hc2
  clear hr0 hc0 hr1 hc1 hr2 hc2
  clear ht0 ht1 ht2 hz1 hw hg he1 he2 hq0 hq1 hq2 hm0 hm1 hm2 hn1 hn2 hh1 hh2
  have q1_d : decide ((l1.length : Int) > 1048576) = false := decide_eq_false q1_
  have q2_d : decide ((l2.length : Int) > 1048576) = false := decide_eq_false q2_
  have q3_d : decide (z1 < 0) = false := decide_eq_false q3_
  have q5_d : decide (m2 < 0) = false := decide_eq_false q5_
  have q6_d : decide (n1 < 0) = false := decide_eq_false q6_
  have q7_d : decide (n2 < 0) = false := decide_eq_false q7_
  go_enter Try.func7, Try.ntmps7
  go_wp2_with fail
  have hb0 := below_alloc (Below.refl w.heap.size w) (.cells #[.slice A0 l0.length c0] 24)
  have BKs := Aside0.mk (blk_new w (.cells #[.slice A0 l0.length c0] 24))
  generalize w.alloc (.cells #[.slice A0 l0.length c0] 24) = w1 at hb0 BKs ⊢
  have HB1 := Aside0.mk (below_step (Below.refl _ _) hb0)
  have Z1 := Aside0.mk (hb0.size)
  clear hb0
  have Ns := Aside0.mk (blk_lt BKs.out)
  refine (laws_szSpace.calls A0 c0 l0 1048576 z1 w1 (Kd.C_below HP0.out HB1.out) HC0.out Fz1.out).mono ?_
  rintro e w2 ⟨rfl, hb2⟩
  have HB2 := Aside0.mk (below_step HB1.out hb2)
  have Z2 := Aside0.mk (hb2.size)
  replace BKs := Aside0.mk (blk_below BKs.out hb2)
  clear HB1
  clear hb2
  have hcs0 : w2.cell? ⟨w.heap.size, 0, none⟩ = some (.slice A0 l0.length c0) := (blk_cell BKs.out 0).trans rfl
  go_wp2_with fail
  clear hcs0
  refine (laws_toSpace.calls k A0 c0 l0 l0 w2 (Kd.C_below HP0.out HB2.out) HC0.out HT0.out).mono ?_
  rintro e w3 ⟨vP, rfl, hR, hb3⟩
  have hsz : w.heap.size ≤ w2.heap.size := HB2.out.size
  have HB3 := Aside0.mk (below_step HB2.out hb3)
  have Z3 := Aside0.mk (hb3.size)
  replace BKs := Aside0.mk (blk_below BKs.out hb3)
  clear HB2
  obtain ⟨AP, cP, rfl⟩ := Kd.R_slice hR
  have HRP := Aside0.mk (Rw.new hsz hR)
  clear hR
  clear hb3 hsz
  go_wp2_with fail
  refine (laws_toInt64S.calls k A1 c1 l1 l1 w3 (Kd.C_below HP1.out HB3.out) HC1.out HT1.out).mono ?_
  rintro e w4 ⟨vQ, rfl, hR, hb4⟩
  have hsz : w.heap.size ≤ w3.heap.size := HB3.out.size
  have HB4 := Aside0.mk (below_step HB3.out hb4)
  have Z4 := Aside0.mk (hb4.size)
  replace BKs := Aside0.mk (blk_below BKs.out hb4)
  replace HRP := Aside0.mk (HRP.out.below hb4)
  clear HB3
  obtain ⟨AQ, cQ, rfl⟩ := Kd.R_slice hR
  have HRQ := Aside0.mk (Rw.new hsz hR)
  clear hR
  clear hb4 hsz
  go_wp2_with fail
  refine (laws_toInt64S.calls k A2 c2 l2 l2 w4 (Kd.C_below HP2.out HB4.out) HC2.out HT2.out).mono ?_
  rintro e w5 ⟨vR, rfl, hR, hb5⟩
  have hsz : w.heap.size ≤ w4.heap.size := HB4.out.size
  have HB5 := Aside0.mk (below_step HB4.out hb5)
  have Z5 := Aside0.mk (hb5.size)
  replace BKs := Aside0.mk (blk_below BKs.out hb5)
  replace HRP := Aside0.mk (HRP.out.below hb5)
  replace HRQ := Aside0.mk (HRQ.out.below hb5)
  clear HB4
  obtain ⟨AR, cR, rfl⟩ := Kd.R_slice hR
  have HRR := Aside0.mk (Rw.new hsz hR)
  clear hR
  clear hb5 hsz
  go_wp2_with fail
  refine (spec_CodeByColumns.calls k AP cP l0 AQ cQ l1 AR cR l2 G H e0 w5 (Kd.R_reads' HRP.out.R).2.2 (Kd.R_reads' HRP.out.R).2.1 (Kd.R_reads' HRQ.out.R).2.2 (Kd.R_reads' HRQ.out.R).2.1 (Kd.R_reads' HRR.out.R).2.2 (Kd.R_reads' HRR.out.R).2.1 Fw.out).mono ?_
  rintro e w6 ⟨vGa, vHa, rfl, h0_, h1_, hb_⟩
  have hsz : w.heap.size ≤ w5.heap.size := HB5.out.size
  have HB6 := Aside0.mk (below_step HB5.out hb_)
  have Z6 := Aside0.mk (hb_.size)
  replace BKs := Aside0.mk (blk_below BKs.out hb_)
  replace HRP := Aside0.mk (HRP.out.below hb_)
  replace HRQ := Aside0.mk (HRQ.out.below hb_)
  replace HRR := Aside0.mk (HRR.out.below hb_)
  clear HB5
  obtain ⟨AGa, cGa, rfl⟩ := Kd.R_slice h0_
  obtain ⟨AHa, cHa, rfl⟩ := Kd.R_slice h1_
  have HRGa := Aside0.mk ((Rw.new hsz h0_).and (Q := fun k => some k ≠ (.slice AHa H.length cHa : Value).ownBlock) (fun k hk => by have := h0_.1 k hk; first | exact this | exact this.2))
  have HRHa := Aside0.mk ((Rw.new hsz h1_).and (Q := fun k => some k = (.slice AHa H.length cHa : Value).ownBlock) (fun k hk => hk.symm))
  clear h0_ h1_
  clear hb_ hsz
  have hcas : (w6.alloc (.cells #[.slice AGa G.length cGa] 30)).cell? ⟨w.heap.size, 0, none⟩ = some (.slice A0 l0.length c0) := (blk_cell (blk_alloc BKs.out _) 0).trans rfl
  go_wp2_with fail
  clear hcas
  have hb7 := below_alloc (Below.refl w6.heap.size w6) (.cells #[.slice AGa G.length cGa] 30)
  have BKa := Aside0.mk (blk_new w6 (.cells #[.slice AGa G.length cGa] 30))
  generalize w6.alloc (.cells #[.slice AGa G.length cGa] 30) = w7 at hb7 BKa ⊢
  have HB7 := Aside0.mk (below_step HB6.out hb7)
  have Z7 := Aside0.mk (hb7.size)
  replace BKs := Aside0.mk (blk_below BKs.out hb7)
  replace HRP := Aside0.mk (HRP.out.below hb7)
  replace HRQ := Aside0.mk (HRQ.out.below hb7)
  replace HRR := Aside0.mk (HRR.out.below hb7)
  replace HRGa := Aside0.mk (HRGa.out.below hb7)
  replace HRHa := Aside0.mk (HRHa.out.below hb7)
  clear HB6
  clear hb7
  have Na := Aside0.mk (blk_lt BKa.out)
  clear HRP
  clear HRQ
  clear HRR
  refine (laws_toSpace.calls k A0 c0 l0 l0 w7 (Kd.C_below HP0.out HB7.out) HC0.out HT0.out).mono ?_
  rintro e w8 ⟨vX, rfl, hR, hb8⟩
  have hsz : w.heap.size ≤ w7.heap.size := HB7.out.size
  have HB8 := Aside0.mk (below_step HB7.out hb8)
  have Z8 := Aside0.mk (hb8.size)
  replace BKs := Aside0.mk (blk_below BKs.out hb8)
  replace BKa := Aside0.mk (blk_below BKa.out hb8)
  replace HRGa := Aside0.mk (HRGa.out.below hb8)
  replace HRHa := Aside0.mk (HRHa.out.below hb8)
  clear HB7
  obtain ⟨AX, cX, rfl⟩ := Kd.R_slice hR
  have HRX := Aside0.mk (Rw.new hsz hR)
  clear hR
  clear hb8 hsz
  go_wp2_with fail
  have hb9 := below_alloc (Below.refl w8.heap.size w8) (.cells #[.slice AX l0.length cX] 30)
  have BKx := Aside0.mk (blk_new w8 (.cells #[.slice AX l0.length cX] 30))
  generalize w8.alloc (.cells #[.slice AX l0.length cX] 30) = w9 at hb9 BKx ⊢
  have HB9 := Aside0.mk (below_step HB8.out hb9)
  have Z9 := Aside0.mk (hb9.size)
  replace BKs := Aside0.mk (blk_below BKs.out hb9)
  replace BKa := Aside0.mk (blk_below BKa.out hb9)
  replace HRGa := Aside0.mk (HRGa.out.below hb9)
  replace HRHa := Aside0.mk (HRHa.out.below hb9)
  replace HRX := Aside0.mk (HRX.out.below hb9)
  clear HB8
  clear hb9
  have Nx := Aside0.mk (blk_lt BKx.out)
  refine (laws_toInt64S.calls k A1 c1 l1 l1 w9 (Kd.C_below HP1.out HB9.out) HC1.out HT1.out).mono ?_
  rintro e w10 ⟨vY, rfl, hR, hb10⟩
  have hsz : w.heap.size ≤ w9.heap.size := HB9.out.size
  have HB10 := Aside0.mk (below_step HB9.out hb10)
  have Z10 := Aside0.mk (hb10.size)
  replace BKs := Aside0.mk (blk_below BKs.out hb10)
  replace BKa := Aside0.mk (blk_below BKa.out hb10)
  replace BKx := Aside0.mk (blk_below BKx.out hb10)
  replace HRGa := Aside0.mk (HRGa.out.below hb10)
  replace HRHa := Aside0.mk (HRHa.out.below hb10)
  replace HRX := Aside0.mk (HRX.out.below hb10)
  clear HB9
  obtain ⟨AY, cY, rfl⟩ := Kd.R_slice hR
  have HRY := Aside0.mk (Rw.new hsz hR)
  clear hR
  clear hb10 hsz
  go_wp2_with fail
  refine (laws_toInt64S.calls k A2 c2 l2 l2 w10 (Kd.C_below HP2.out HB10.out) HC2.out HT2.out).mono ?_
  rintro e w11 ⟨vV, rfl, hR, hb11⟩
  have hsz : w.heap.size ≤ w10.heap.size := HB10.out.size
  have HB11 := Aside0.mk (below_step HB10.out hb11)
  have Z11 := Aside0.mk (hb11.size)
  replace BKs := Aside0.mk (blk_below BKs.out hb11)
  replace BKa := Aside0.mk (blk_below BKa.out hb11)
  replace BKx := Aside0.mk (blk_below BKx.out hb11)
  replace HRGa := Aside0.mk (HRGa.out.below hb11)
  replace HRHa := Aside0.mk (HRHa.out.below hb11)
  replace HRX := Aside0.mk (HRX.out.below hb11)
  replace HRY := Aside0.mk (HRY.out.below hb11)
  clear HB10
  obtain ⟨AV, cV, rfl⟩ := Kd.R_slice hR
  have HRV := Aside0.mk (Rw.new hsz hR)
  clear hR
  clear hb11 hsz
  have hcx0 : w11.cell? ⟨w8.heap.size, 0, none⟩ = some (.slice AX l0.length cX) := (blk_cell BKx.out 0).trans rfl
  go_wp2_with fail
  clear hcx0
  refine (impl_CodeByColumns.calls k AX cX l0 AY cY l1 AV cV l2 G H e0 w11 (Kd.R_reads' HRX.out.R).2.2 (Kd.R_reads' HRX.out.R).2.1 (Kd.R_reads' HRY.out.R).2.2 (Kd.R_reads' HRY.out.R).2.1 (Kd.R_reads' HRV.out.R).2.2 (Kd.R_reads' HRV.out.R).2.1 Fg.out).mono ?_
  rintro e w12 ⟨vGb, vHb, rfl, h0_, h1_, hb_⟩
  have hsz : w.heap.size ≤ w11.heap.size := HB11.out.size
  have HB12 := Aside0.mk (below_step HB11.out hb_)
  have Z12 := Aside0.mk (hb_.size)
  replace BKs := Aside0.mk (blk_below BKs.out hb_)
  replace BKa := Aside0.mk (blk_below BKa.out hb_)
  replace BKx := Aside0.mk (blk_below BKx.out hb_)
  replace HRGa := Aside0.mk (HRGa.out.below hb_)
  replace HRHa := Aside0.mk (HRHa.out.below hb_)
  replace HRX := Aside0.mk (HRX.out.below hb_)
  replace HRY := Aside0.mk (HRY.out.below hb_)
  replace HRV := Aside0.mk (HRV.out.below hb_)
  clear HB11
  obtain ⟨AGb, cGb, rfl⟩ := Kd.R_slice h0_
  obtain ⟨AHb, cHb, rfl⟩ := Kd.R_slice h1_
  have HRGb := Aside0.mk ((Rw.new hsz h0_).and (Q := fun k => some k ≠ (.slice AHb H.length cHb : Value).ownBlock) (fun k hk => by have := h0_.1 k hk; first | exact this | exact this.2))
  have HRHb := Aside0.mk ((Rw.new hsz h1_).and (Q := fun k => some k = (.slice AHb H.length cHb : Value).ownBlock) (fun k hk => hk.symm))
  clear h0_ h1_
  clear hb_ hsz
  have hcaa : (w12.alloc (.cells #[.slice AGb G.length cGb] 30)).cell? ⟨w6.heap.size, 0, none⟩ = some (.slice AGa G.length cGa) := (blk_cell (blk_alloc BKa.out _) 0).trans rfl
  go_wp2_with fail
  clear hcaa
  have hb13 := below_alloc (Below.refl w12.heap.size w12) (.cells #[.slice AGb G.length cGb] 30)
  have BKg := Aside0.mk (blk_new w12 (.cells #[.slice AGb G.length cGb] 30))
  generalize w12.alloc (.cells #[.slice AGb G.length cGb] 30) = w13 at hb13 BKg ⊢
  have HB13 := Aside0.mk (below_step HB12.out hb13)
  have Z13 := Aside0.mk (hb13.size)
  replace BKs := Aside0.mk (blk_below BKs.out hb13)
  replace BKa := Aside0.mk (blk_below BKa.out hb13)
  replace BKx := Aside0.mk (blk_below BKx.out hb13)
  replace HRGa := Aside0.mk (HRGa.out.below hb13)
  replace HRHa := Aside0.mk (HRHa.out.below hb13)
  replace HRX := Aside0.mk (HRX.out.below hb13)
  replace HRY := Aside0.mk (HRY.out.below hb13)
  replace HRV := Aside0.mk (HRV.out.below hb13)
  replace HRGb := Aside0.mk (HRGb.out.below hb13)
  replace HRHb := Aside0.mk (HRHb.out.below hb13)
  clear HB12
  clear hb13
  have Ng := Aside0.mk (blk_lt BKg.out)
  refine (laws_eqSpace.calls k AGb cGb G AGa cGa G true w13 (Kd.R_reads' HRGb.out.R).2.2 (Kd.R_reads' HRGb.out.R).2.1 (Kd.R_reads' HRGa.out.R).2.2 (Kd.R_reads' HRGa.out.R).2.1 Fe1.out).mono ?_
  rintro e w14 ⟨rfl, hb14⟩
  have HB14 := Aside0.mk (below_step HB13.out hb14)
  have Z14 := Aside0.mk (hb14.size)
  replace BKs := Aside0.mk (blk_below BKs.out hb14)
  replace BKa := Aside0.mk (blk_below BKa.out hb14)
  replace BKx := Aside0.mk (blk_below BKx.out hb14)
  replace BKg := Aside0.mk (blk_below BKg.out hb14)
  replace HRGa := Aside0.mk (HRGa.out.below hb14)
  replace HRHa := Aside0.mk (HRHa.out.below hb14)
  replace HRX := Aside0.mk (HRX.out.below hb14)
  replace HRY := Aside0.mk (HRY.out.below hb14)
  replace HRV := Aside0.mk (HRV.out.below hb14)
  replace HRGb := Aside0.mk (HRGb.out.below hb14)
  replace HRHb := Aside0.mk (HRHb.out.below hb14)
  clear HB13
  clear hb14
  go_wp2_with fail
  refine (laws_eqInt64S.calls k AHb cHb H AHa cHa H true w14 (Kd.R_reads' HRHb.out.R).2.2 (Kd.R_reads' HRHb.out.R).2.1 (Kd.R_reads' HRHa.out.R).2.2 (Kd.R_reads' HRHa.out.R).2.1 Fe2.out).mono ?_
  rintro e w15 ⟨rfl, hb15⟩
  replace hb15 := hb15.below
  have HB15 := Aside0.mk (below_step HB14.out hb15)
  have Z15 := Aside0.mk (hb15.size)
  replace BKs := Aside0.mk (blk_below BKs.out hb15)
  replace BKa := Aside0.mk (blk_below BKa.out hb15)
  replace BKx := Aside0.mk (blk_below BKx.out hb15)
  replace BKg := Aside0.mk (blk_below BKg.out hb15)
  replace HRGa := Aside0.mk (HRGa.out.below hb15)
  replace HRHa := Aside0.mk (HRHa.out.below hb15)
  replace HRX := Aside0.mk (HRX.out.below hb15)
  replace HRY := Aside0.mk (HRY.out.below hb15)
  replace HRV := Aside0.mk (HRV.out.below hb15)
  replace HRGb := Aside0.mk (HRGb.out.below hb15)
  replace HRHb := Aside0.mk (HRHb.out.below hb15)
  clear HB14
  clear hb15
  go_wp2_with fail
  refine start_ (n := 5) (S := fun w' => w'.cell? ⟨w8.heap.size, 0, none⟩ = some (.slice AX l0.length cX) ∧ w'.cell? ⟨w.heap.size, 0, none⟩ = some (.slice A0 l0.length c0)) (ds := []) #[false, false, false, false, false] (by kernel_rfl) rfl rfl ⟨(blk_cell BKx.out 0).trans rfl, (blk_cell BKs.out 0).trans rfl⟩ (fun hHeld => ?_); refine with_tabW cb16.tab cb16.bits (fun HT_ HW_ => ?_)
  have hbd := below_drew (Below.refl w15.heap.size w15)
  generalize w15.drew = w16 at hbd hHeld ⊢
  have HB16 := Aside0.mk (below_step HB15.out hbd)
  have Z16 := Aside0.mk (hbd.size)
  replace BKs := Aside0.mk (blk_below BKs.out hbd)
  replace BKa := Aside0.mk (blk_below BKa.out hbd)
  replace BKx := Aside0.mk (blk_below BKx.out hbd)
  replace BKg := Aside0.mk (blk_below BKg.out hbd)
  replace HRGa := Aside0.mk (HRGa.out.below hbd)
  replace HRHa := Aside0.mk (HRHa.out.below hbd)
  replace HRX := Aside0.mk (HRX.out.below hbd)
  replace HRY := Aside0.mk (HRY.out.below hbd)
  replace HRV := Aside0.mk (HRV.out.below hbd)
  replace HRGb := Aside0.mk (HRGb.out.below hbd)
  replace HRHb := Aside0.mk (HRHb.out.below hbd)
  clear HB15
  clear hbd
  refine take_ (i := 0) (N := some 74) (v := ?_) (a' := ?_) #[true, false, false, false, false] rfl rfl (take_ofW HT_.out HW_.out (by kernel_rfl)) (fun _ _ _ h => h) (Or.inl ⟨by rfl, ?_⟩) hHeld ?_ ?_
  rotate_left
  · rintro w' ⟨s0, s1⟩
    go_simp
    with_reducible rfl
  rotate_left
  · simp only [Act.put, List.setIfInBounds_toArray, List.set_cons_zero, List.set_cons_succ, i64_w, i32_w]
    rfl
  refine take_ (i := 1) (N := some 75) (v := ?_) (a' := ?_) #[true, true, false, false, false] rfl rfl (take_ofW HT_.out HW_.out (by kernel_rfl)) (fun _ _ _ h => h) (Or.inl ⟨by rfl, ?_⟩) hHeld ?_ ?_
  rotate_left
  · rintro w' ⟨s0, s1⟩
    go_simp
    with_reducible rfl
  rotate_left
  · simp only [Act.put, List.setIfInBounds_toArray, List.set_cons_zero, List.set_cons_succ, i64_w, i32_w]
    rfl
  refine one_ (i := 2) (N := some 76) #[true, true, true, false, false] rfl rfl (one_of HT_.out (by kernel_rfl)) (by decide) (fun K hK => ?_)
  refine goes_ Try.func11 (by kernel_rfl) rfl #[.agg #[.slice A0 l0.length c0]] (by rfl) rfl rfl (by (try simp only [List.map_toArray, List.map_cons, List.map_nil]); first | done | rfl) ?_
  refine (laws_toSpace.calls k A0 c0 l0 l0 w16 (Kd.C_below HP0.out HB16.out) HC0.out HT0.out).mono ?_
  rintro e w17 ⟨vT, rfl, hR, hb17⟩
  have hsz : w.heap.size ≤ w16.heap.size := HB16.out.size
  have HB17 := Aside0.mk (below_step HB16.out hb17)
  have Z17 := Aside0.mk (hb17.size)
  replace BKs := Aside0.mk (blk_below BKs.out hb17)
  replace BKa := Aside0.mk (blk_below BKa.out hb17)
  replace BKx := Aside0.mk (blk_below BKx.out hb17)
  replace BKg := Aside0.mk (blk_below BKg.out hb17)
  replace HRGa := Aside0.mk (HRGa.out.below hb17)
  replace HRHa := Aside0.mk (HRHa.out.below hb17)
  replace HRX := Aside0.mk (HRX.out.below hb17)
  replace HRY := Aside0.mk (HRY.out.below hb17)
  replace HRV := Aside0.mk (HRV.out.below hb17)
  replace HRGb := Aside0.mk (HRGb.out.below hb17)
  replace HRHb := Aside0.mk (HRHb.out.below hb17)
  clear HB16
  obtain ⟨AT, cT, rfl⟩ := Kd.R_slice hR
  have HRT := Aside0.mk (Rw.new hsz hR)
  clear hR
  clear hb17 hsz
  refine ⟨_, rfl, ?_⟩
  refine hK.out _ _ ⟨(blk_cell BKx.out 0).trans rfl, (blk_cell BKs.out 0).trans rfl⟩ (fun hHeld => ?_)
  clear hK K
  refine norm_ (a' := ?_) ?_ ?_
  rotate_left
  · show Act.put _ (some 76) _ = _
    simp only [Act.put, List.setIfInBounds_toArray, List.set_cons_zero, List.set_cons_succ, i64_w, i32_w]
    rfl
  refine one_ (i := 3) (N := some 77) #[true, true, true, true, false] rfl rfl (one_of HT_.out (by kernel_rfl)) (by decide) (fun K hK => ?_)
  refine goes_ Try.func14 (by kernel_rfl) rfl #[.agg #[.slice AX l0.length cX], .agg #[.slice AT l0.length cT]] (by rfl) rfl rfl (by (try simp only [List.map_toArray, List.map_cons, List.map_nil]); first | done | rfl) ?_
  refine (laws_eqSpace.calls k AX cX l0 AT cT l0 true w17 (Kd.R_reads' HRX.out.R).2.2 (Kd.R_reads' HRX.out.R).2.1 (Kd.R_reads' HRT.out.R).2.2 (Kd.R_reads' HRT.out.R).2.1 Fq0.out).mono ?_
  rintro e w18 ⟨rfl, hb18⟩
  have HB18 := Aside0.mk (below_step HB17.out hb18)
  have Z18 := Aside0.mk (hb18.size)
  replace BKs := Aside0.mk (blk_below BKs.out hb18)
  replace BKa := Aside0.mk (blk_below BKa.out hb18)
  replace BKx := Aside0.mk (blk_below BKx.out hb18)
  replace BKg := Aside0.mk (blk_below BKg.out hb18)
  replace HRGa := Aside0.mk (HRGa.out.below hb18)
  replace HRHa := Aside0.mk (HRHa.out.below hb18)
  replace HRX := Aside0.mk (HRX.out.below hb18)
  replace HRY := Aside0.mk (HRY.out.below hb18)
  replace HRV := Aside0.mk (HRV.out.below hb18)
  replace HRGb := Aside0.mk (HRGb.out.below hb18)
  replace HRHb := Aside0.mk (HRHb.out.below hb18)
  replace HRT := Aside0.mk (HRT.out.below hb18)
  clear HB17
  clear hb18
  clear HRT
  refine ⟨_, rfl, ?_⟩
  refine hK.out _ _ ⟨(blk_cell BKx.out 0).trans rfl, (blk_cell BKs.out 0).trans rfl⟩ (fun hHeld => ?_)
  clear hK K
  refine norm_ (a' := ?_) ?_ ?_
  rotate_left
  · show Act.put _ (some 77) _ = _
    simp only [Act.put, List.setIfInBounds_toArray, List.set_cons_zero, List.set_cons_succ, i64_w, i32_w]
    rfl
  refine pure_ (i := 4) (N := some 78) (v := ?_) (a' := ?_) #[true, true, true, true, true] rfl rfl (any_of HT_.out (by kernel_rfl)) (fun _ _ _ h => h) (Or.inl ⟨by rfl, ?_⟩) ?_ ?_
  rotate_left
  · intro w'
    go_simp
    with_reducible rfl
  rotate_left
  · simp only [Act.put, List.setIfInBounds_toArray, List.set_cons_zero, List.set_cons_succ, i64_w, i32_w]
    rfl
  refine done_ (by kernel_rfl) ?_
  go_wp2_with fail
  refine (laws_toInt64S.calls k A1 c1 l1 l1 w18 (Kd.C_below HP1.out HB18.out) HC1.out HT1.out).mono ?_
  rintro e w19 ⟨vT, rfl, hR, hb19⟩
  have hsz : w.heap.size ≤ w18.heap.size := HB18.out.size
  have HB19 := Aside0.mk (below_step HB18.out hb19)
  have Z19 := Aside0.mk (hb19.size)
  replace BKs := Aside0.mk (blk_below BKs.out hb19)
  replace BKa := Aside0.mk (blk_below BKa.out hb19)
  replace BKx := Aside0.mk (blk_below BKx.out hb19)
  replace BKg := Aside0.mk (blk_below BKg.out hb19)
  replace HRGa := Aside0.mk (HRGa.out.below hb19)
  replace HRHa := Aside0.mk (HRHa.out.below hb19)
  replace HRX := Aside0.mk (HRX.out.below hb19)
  replace HRY := Aside0.mk (HRY.out.below hb19)
  replace HRV := Aside0.mk (HRV.out.below hb19)
  replace HRGb := Aside0.mk (HRGb.out.below hb19)
  replace HRHb := Aside0.mk (HRHb.out.below hb19)
  clear HB18
  obtain ⟨AT, cT, rfl⟩ := Kd.R_slice hR
  have HRT := Aside0.mk (Rw.new hsz hR)
  clear hR
  clear hb19 hsz
  go_wp2_with fail
  refine (laws_eqInt64S.calls k AY cY l1 AT cT l1 true w19 (Kd.R_reads' HRY.out.R).2.2 (Kd.R_reads' HRY.out.R).2.1 (Kd.R_reads' HRT.out.R).2.2 (Kd.R_reads' HRT.out.R).2.1 Fq1.out).mono ?_
  rintro e w20 ⟨rfl, hb20⟩
  replace hb20 := hb20.below
  have HB20 := Aside0.mk (below_step HB19.out hb20)
  have Z20 := Aside0.mk (hb20.size)
  replace BKs := Aside0.mk (blk_below BKs.out hb20)
  replace BKa := Aside0.mk (blk_below BKa.out hb20)
  replace BKx := Aside0.mk (blk_below BKx.out hb20)
  replace BKg := Aside0.mk (blk_below BKg.out hb20)
  replace HRGa := Aside0.mk (HRGa.out.below hb20)
  replace HRHa := Aside0.mk (HRHa.out.below hb20)
  replace HRX := Aside0.mk (HRX.out.below hb20)
  replace HRY := Aside0.mk (HRY.out.below hb20)
  replace HRV := Aside0.mk (HRV.out.below hb20)
  replace HRGb := Aside0.mk (HRGb.out.below hb20)
  replace HRHb := Aside0.mk (HRHb.out.below hb20)
  replace HRT := Aside0.mk (HRT.out.below hb20)
  clear HB19
  clear hb20
  clear HRT
  go_wp2_with fail
  refine (laws_toInt64S.calls k A2 c2 l2 l2 w20 (Kd.C_below HP2.out HB20.out) HC2.out HT2.out).mono ?_
  rintro e w21 ⟨vT, rfl, hR, hb21⟩
  have hsz : w.heap.size ≤ w20.heap.size := HB20.out.size
  have HB21 := Aside0.mk (below_step HB20.out hb21)
  have Z21 := Aside0.mk (hb21.size)
  replace BKs := Aside0.mk (blk_below BKs.out hb21)
  replace BKa := Aside0.mk (blk_below BKa.out hb21)
  replace BKx := Aside0.mk (blk_below BKx.out hb21)
  replace BKg := Aside0.mk (blk_below BKg.out hb21)
  replace HRGa := Aside0.mk (HRGa.out.below hb21)
  replace HRHa := Aside0.mk (HRHa.out.below hb21)
  replace HRX := Aside0.mk (HRX.out.below hb21)
  replace HRY := Aside0.mk (HRY.out.below hb21)
  replace HRV := Aside0.mk (HRV.out.below hb21)
  replace HRGb := Aside0.mk (HRGb.out.below hb21)
  replace HRHb := Aside0.mk (HRHb.out.below hb21)
  clear HB20
  obtain ⟨AT, cT, rfl⟩ := Kd.R_slice hR
  have HRT := Aside0.mk (Rw.new hsz hR)
  clear hR
  clear hb21 hsz
  go_wp2_with fail
  refine (laws_eqInt64S.calls k AV cV l2 AT cT l2 true w21 (Kd.R_reads' HRV.out.R).2.2 (Kd.R_reads' HRV.out.R).2.1 (Kd.R_reads' HRT.out.R).2.2 (Kd.R_reads' HRT.out.R).2.1 Fq2.out).mono ?_
  rintro e w22 ⟨rfl, hb22⟩
  replace hb22 := hb22.below
  have HB22 := Aside0.mk (below_step HB21.out hb22)
  have Z22 := Aside0.mk (hb22.size)
  replace BKs := Aside0.mk (blk_below BKs.out hb22)
  replace BKa := Aside0.mk (blk_below BKa.out hb22)
  replace BKx := Aside0.mk (blk_below BKx.out hb22)
  replace BKg := Aside0.mk (blk_below BKg.out hb22)
  replace HRGa := Aside0.mk (HRGa.out.below hb22)
  replace HRHa := Aside0.mk (HRHa.out.below hb22)
  replace HRX := Aside0.mk (HRX.out.below hb22)
  replace HRY := Aside0.mk (HRY.out.below hb22)
  replace HRV := Aside0.mk (HRV.out.below hb22)
  replace HRGb := Aside0.mk (HRGb.out.below hb22)
  replace HRHb := Aside0.mk (HRHb.out.below hb22)
  replace HRT := Aside0.mk (HRT.out.below hb22)
  clear HB21
  clear hb22
  clear HRT
  have hcx0 : w22.cell? ⟨w8.heap.size, 0, none⟩ = some (.slice AX l0.length cX) := (blk_cell BKx.out 0).trans rfl
  go_wp2_with fail
  clear hcx0
  refine (laws_markSpace.calls k (fun k => (w7.heap.size ≤ k ∧ k < w8.heap.size)) (.slice AX l0.length cX) l0 1 m0 l0' w w22 HB22.out HRX.out.R Fm0.out).mono ?_
  rintro e w23 ⟨rfl, hR, hb, hk⟩
  replace HRX := Aside0.mk (HRX.out.marked hR hk.1)
  replace HRGa := Aside0.mk (HRGa.out.other hk (fun k h1 h2 => by have := Z6.out; have := Z7.out; have := Z8.out; replace h1 := h1.1; omega))
  replace HRHa := Aside0.mk (HRHa.out.other hk (fun k h1 h2 => by have := Z6.out; have := Z7.out; have := Z8.out; replace h1 := h1.1; omega))
  replace HRY := Aside0.mk (HRY.out.other hk (fun k h1 h2 => by have := Z8.out; have := Z9.out; have := Z10.out; omega))
  replace HRV := Aside0.mk (HRV.out.other hk (fun k h1 h2 => by have := Z8.out; have := Z9.out; have := Z10.out; have := Z11.out; omega))
  replace HRGb := Aside0.mk (HRGb.out.other hk (fun k h1 h2 => by have := Z8.out; have := Z9.out; have := Z10.out; have := Z11.out; have := Z12.out; replace h1 := h1.1; omega))
  replace HRHb := Aside0.mk (HRHb.out.other hk (fun k h1 h2 => by have := Z8.out; have := Z9.out; have := Z10.out; have := Z11.out; have := Z12.out; replace h1 := h1.1; omega))
  replace BKs := Aside0.mk (blk_kept BKs.out hk (fun h2 => by have := Z1.out; have := Z2.out; have := Z3.out; have := Z4.out; have := Z5.out; have := Z6.out; have := Z7.out; have := Z8.out; have := Ns.out; omega))
  replace BKa := Aside0.mk (blk_kept BKa.out hk (fun h2 => by have := Z7.out; have := Z8.out; have := Na.out; omega))
  replace BKx := Aside0.mk (blk_kept BKx.out hk (fun h2 => by have := Z8.out; have := Z9.out; have := Nx.out; omega))
  replace BKg := Aside0.mk (blk_kept BKg.out hk (fun h2 => by have := Z8.out; have := Z9.out; have := Z10.out; have := Z11.out; have := Z12.out; have := Z13.out; have := Ng.out; omega))
  have HB23 := Aside0.mk hb
  have Z23 := Aside0.mk (hk.1)
  clear hR hb hk HB22
  go_wp2_with fail
  refine (laws_markInt64S.calls k (fun k => (w9.heap.size ≤ k ∧ k < w10.heap.size)) (.slice AY l1.length cY) l1 m0 m1 l1' w w23 HB23.out HRY.out.R Fm1.out).mono ?_
  rintro e w24 ⟨rfl, hR, hb, hk⟩
  replace HRY := Aside0.mk (HRY.out.marked hR hk.1)
  replace HRGa := Aside0.mk (HRGa.out.other hk (fun k h1 h2 => by have := Z6.out; have := Z7.out; have := Z8.out; have := Z9.out; have := Z10.out; replace h1 := h1.1; omega))
  replace HRHa := Aside0.mk (HRHa.out.other hk (fun k h1 h2 => by have := Z6.out; have := Z7.out; have := Z8.out; have := Z9.out; have := Z10.out; replace h1 := h1.1; omega))
  replace HRX := Aside0.mk (HRX.out.other hk (fun k h1 h2 => by have := Z8.out; have := Z9.out; have := Z10.out; omega))
  replace HRV := Aside0.mk (HRV.out.other hk (fun k h1 h2 => by have := Z10.out; have := Z11.out; omega))
  replace HRGb := Aside0.mk (HRGb.out.other hk (fun k h1 h2 => by have := Z10.out; have := Z11.out; have := Z12.out; replace h1 := h1.1; omega))
  replace HRHb := Aside0.mk (HRHb.out.other hk (fun k h1 h2 => by have := Z10.out; have := Z11.out; have := Z12.out; replace h1 := h1.1; omega))
  replace BKs := Aside0.mk (blk_kept BKs.out hk (fun h2 => by have := Z1.out; have := Z2.out; have := Z3.out; have := Z4.out; have := Z5.out; have := Z6.out; have := Z7.out; have := Z8.out; have := Z9.out; have := Z10.out; have := Ns.out; omega))
  replace BKa := Aside0.mk (blk_kept BKa.out hk (fun h2 => by have := Z7.out; have := Z8.out; have := Z9.out; have := Z10.out; have := Na.out; omega))
  replace BKx := Aside0.mk (blk_kept BKx.out hk (fun h2 => by have := Z9.out; have := Z10.out; have := Nx.out; omega))
  replace BKg := Aside0.mk (blk_kept BKg.out hk (fun h2 => by have := Z10.out; have := Z11.out; have := Z12.out; have := Z13.out; have := Ng.out; omega))
  have HB24 := Aside0.mk hb
  have Z24 := Aside0.mk (hk.1)
  clear hR hb hk HB23
  go_wp2_with fail
  refine (laws_markInt64S.calls k (fun k => (w10.heap.size ≤ k ∧ k < w11.heap.size)) (.slice AV l2.length cV) l2 m1 m2 l2' w w24 HB24.out HRV.out.R Fm2.out).mono ?_
  rintro e w25 ⟨rfl, hR, hb, hk⟩
  replace HRV := Aside0.mk (HRV.out.marked hR hk.1)
  replace HRGa := Aside0.mk (HRGa.out.other hk (fun k h1 h2 => by have := Z6.out; have := Z7.out; have := Z8.out; have := Z9.out; have := Z10.out; have := Z11.out; replace h1 := h1.1; omega))
  replace HRHa := Aside0.mk (HRHa.out.other hk (fun k h1 h2 => by have := Z6.out; have := Z7.out; have := Z8.out; have := Z9.out; have := Z10.out; have := Z11.out; replace h1 := h1.1; omega))
  replace HRX := Aside0.mk (HRX.out.other hk (fun k h1 h2 => by have := Z8.out; have := Z9.out; have := Z10.out; have := Z11.out; omega))
  replace HRY := Aside0.mk (HRY.out.other hk (fun k h1 h2 => by have := Z10.out; have := Z11.out; omega))
  replace HRGb := Aside0.mk (HRGb.out.other hk (fun k h1 h2 => by have := Z11.out; have := Z12.out; replace h1 := h1.1; omega))
  replace HRHb := Aside0.mk (HRHb.out.other hk (fun k h1 h2 => by have := Z11.out; have := Z12.out; replace h1 := h1.1; omega))
  replace BKs := Aside0.mk (blk_kept BKs.out hk (fun h2 => by have := Z1.out; have := Z2.out; have := Z3.out; have := Z4.out; have := Z5.out; have := Z6.out; have := Z7.out; have := Z8.out; have := Z9.out; have := Z10.out; have := Z11.out; have := Ns.out; omega))
  replace BKa := Aside0.mk (blk_kept BKa.out hk (fun h2 => by have := Z7.out; have := Z8.out; have := Z9.out; have := Z10.out; have := Z11.out; have := Na.out; omega))
  replace BKx := Aside0.mk (blk_kept BKx.out hk (fun h2 => by have := Z9.out; have := Z10.out; have := Z11.out; have := Nx.out; omega))
  replace BKg := Aside0.mk (blk_kept BKg.out hk (fun h2 => by have := Z11.out; have := Z12.out; have := Z13.out; have := Ng.out; omega))
  have HB25 := Aside0.mk hb
  have Z25 := Aside0.mk (hk.1)
  clear hR hb hk HB24
  clear HRX
  clear HRY
  clear HRV
  have hcg0 : w25.cell? ⟨w12.heap.size, 0, none⟩ = some (.slice AGb G.length cGb) := (blk_cell BKg.out 0).trans rfl
  have hca0 : w25.cell? ⟨w6.heap.size, 0, none⟩ = some (.slice AGa G.length cGa) := (blk_cell BKa.out 0).trans rfl
  go_wp2_with fail
  clear hcg0 hca0
  refine (laws_eqSpace.calls k AGb cGb G AGa cGa G true w25 (Kd.R_reads' HRGb.out.R).2.2 (Kd.R_reads' HRGb.out.R).2.1 (Kd.R_reads' HRGa.out.R).2.2 (Kd.R_reads' HRGa.out.R).2.1 Fe1.out).mono ?_
  rintro e w26 ⟨rfl, hb26⟩
  have HB26 := Aside0.mk (below_step HB25.out hb26)
  have Z26 := Aside0.mk (hb26.size)
  replace BKs := Aside0.mk (blk_below BKs.out hb26)
  replace BKa := Aside0.mk (blk_below BKa.out hb26)
  replace BKx := Aside0.mk (blk_below BKx.out hb26)
  replace BKg := Aside0.mk (blk_below BKg.out hb26)
  replace HRGa := Aside0.mk (HRGa.out.below hb26)
  replace HRHa := Aside0.mk (HRHa.out.below hb26)
  replace HRGb := Aside0.mk (HRGb.out.below hb26)
  replace HRHb := Aside0.mk (HRHb.out.below hb26)
  clear HB25
  clear hb26
  go_wp2_with fail
  refine (laws_eqInt64S.calls k AHb cHb H AHa cHa H true w26 (Kd.R_reads' HRHb.out.R).2.2 (Kd.R_reads' HRHb.out.R).2.1 (Kd.R_reads' HRHa.out.R).2.2 (Kd.R_reads' HRHa.out.R).2.1 Fe2.out).mono ?_
  rintro e w27 ⟨rfl, hb27⟩
  replace hb27 := hb27.below
  have HB27 := Aside0.mk (below_step HB26.out hb27)
  have Z27 := Aside0.mk (hb27.size)
  replace BKs := Aside0.mk (blk_below BKs.out hb27)
  replace BKa := Aside0.mk (blk_below BKa.out hb27)
  replace BKx := Aside0.mk (blk_below BKx.out hb27)
  replace BKg := Aside0.mk (blk_below BKg.out hb27)
  replace HRGa := Aside0.mk (HRGa.out.below hb27)
  replace HRHa := Aside0.mk (HRHa.out.below hb27)
  replace HRGb := Aside0.mk (HRGb.out.below hb27)
  replace HRHb := Aside0.mk (HRHb.out.below hb27)
  clear HB26
  clear hb27
  have hcg0 : w27.cell? ⟨w12.heap.size, 0, none⟩ = some (.slice AGb G.length cGb) := (blk_cell BKg.out 0).trans rfl
  go_wp2_with fail
  clear hcg0
  refine (laws_markSpace.calls k (fun k => (w11.heap.size ≤ k ∧ k < w12.heap.size) ∧ some k ≠ (.slice AHb H.length cHb : Value).ownBlock) (.slice AGb G.length cGb) G 1 n1 G' w w27 HB27.out HRGb.out.R Fn1.out).mono ?_
  rintro e w28 ⟨rfl, hR, hb, hk⟩
  replace HRGb := Aside0.mk (HRGb.out.marked hR hk.1)
  replace HRGa := Aside0.mk (HRGa.out.other hk (fun k h1 h2 => by have := Z6.out; have := Z7.out; have := Z8.out; have := Z9.out; have := Z10.out; have := Z11.out; have := Z12.out; replace h1 := h1.1; replace h2 := h2.1; omega))
  replace HRHa := Aside0.mk (HRHa.out.other hk (fun k h1 h2 => by have := Z6.out; have := Z7.out; have := Z8.out; have := Z9.out; have := Z10.out; have := Z11.out; have := Z12.out; replace h1 := h1.1; replace h2 := h2.1; omega))
  replace HRHb := Aside0.mk (HRHb.out.other hk (fun k h1 h2 => h2.2 h1.2))
  replace BKs := Aside0.mk (blk_kept BKs.out hk (fun h2 => by have := Z1.out; have := Z2.out; have := Z3.out; have := Z4.out; have := Z5.out; have := Z6.out; have := Z7.out; have := Z8.out; have := Z9.out; have := Z10.out; have := Z11.out; have := Z12.out; have := Ns.out; replace h2 := h2.1; omega))
  replace BKa := Aside0.mk (blk_kept BKa.out hk (fun h2 => by have := Z7.out; have := Z8.out; have := Z9.out; have := Z10.out; have := Z11.out; have := Z12.out; have := Na.out; replace h2 := h2.1; omega))
  replace BKx := Aside0.mk (blk_kept BKx.out hk (fun h2 => by have := Z9.out; have := Z10.out; have := Z11.out; have := Z12.out; have := Nx.out; replace h2 := h2.1; omega))
  replace BKg := Aside0.mk (blk_kept BKg.out hk (fun h2 => by have := Z12.out; have := Z13.out; have := Ng.out; replace h2 := h2.1; omega))
  have HB28 := Aside0.mk hb
  have Z28 := Aside0.mk (hk.1)
  clear hR hb hk HB27
  go_wp2_with fail
  refine (laws_markInt64S.calls k (fun k => (w11.heap.size ≤ k ∧ k < w12.heap.size) ∧ some k = (.slice AHb H.length cHb : Value).ownBlock) (.slice AHb H.length cHb) H n1 n2 H' w w28 HB28.out HRHb.out.R Fn2.out).mono ?_
  rintro e w29 ⟨rfl, hR, hb, hk⟩
  replace HRHb := Aside0.mk (HRHb.out.marked hR hk.1)
  replace HRGa := Aside0.mk (HRGa.out.other hk (fun k h1 h2 => by have := Z6.out; have := Z7.out; have := Z8.out; have := Z9.out; have := Z10.out; have := Z11.out; have := Z12.out; replace h1 := h1.1; replace h2 := h2.1; omega))
  replace HRHa := Aside0.mk (HRHa.out.other hk (fun k h1 h2 => by have := Z6.out; have := Z7.out; have := Z8.out; have := Z9.out; have := Z10.out; have := Z11.out; have := Z12.out; replace h1 := h1.1; replace h2 := h2.1; omega))
  replace HRGb := Aside0.mk (HRGb.out.other hk (fun k h1 h2 => h1.2 h2.2))
  replace BKs := Aside0.mk (blk_kept BKs.out hk (fun h2 => by have := Z1.out; have := Z2.out; have := Z3.out; have := Z4.out; have := Z5.out; have := Z6.out; have := Z7.out; have := Z8.out; have := Z9.out; have := Z10.out; have := Z11.out; have := Z12.out; have := Ns.out; replace h2 := h2.1; omega))
  replace BKa := Aside0.mk (blk_kept BKa.out hk (fun h2 => by have := Z7.out; have := Z8.out; have := Z9.out; have := Z10.out; have := Z11.out; have := Z12.out; have := Na.out; replace h2 := h2.1; omega))
  replace BKx := Aside0.mk (blk_kept BKx.out hk (fun h2 => by have := Z9.out; have := Z10.out; have := Z11.out; have := Z12.out; have := Nx.out; replace h2 := h2.1; omega))
  replace BKg := Aside0.mk (blk_kept BKg.out hk (fun h2 => by have := Z12.out; have := Z13.out; have := Ng.out; replace h2 := h2.1; omega))
  have HB29 := Aside0.mk hb
  have Z29 := Aside0.mk (hk.1)
  clear hR hb hk HB28
  have hcg0 : w29.cell? ⟨w12.heap.size, 0, none⟩ = some (.slice AGb G.length cGb) := (blk_cell BKg.out 0).trans rfl
  go_wp2_with fail
  clear hcg0
  obtain ⟨e_, hl_, hC_⟩ := Kd.R_reads' HRGb.out.R
  have HCA := laws_heldSpace.calls k AGb cGb G' 1 n1 w29 hC_ (by omega) Fh1.out
  rw [← e_] at HCA
  replace HCA := Aside0.mk HCA
  clear e_ hl_ hC_
  refine (HCA.out).mono ?_
  rintro e w30 ⟨rfl, hb30⟩
  have HB30 := Aside0.mk (below_step HB29.out hb30)
  have Z30 := Aside0.mk (hb30.size)
  replace BKs := Aside0.mk (blk_below BKs.out hb30)
  replace BKa := Aside0.mk (blk_below BKa.out hb30)
  replace BKx := Aside0.mk (blk_below BKx.out hb30)
  replace BKg := Aside0.mk (blk_below BKg.out hb30)
  replace HRGa := Aside0.mk (HRGa.out.below hb30)
  replace HRHa := Aside0.mk (HRHa.out.below hb30)
  replace HRGb := Aside0.mk (HRGb.out.below hb30)
  replace HRHb := Aside0.mk (HRHb.out.below hb30)
  clear HB29
  clear hb30
  clear HCA
  go_wp2_with fail
  obtain ⟨e_, hl_, hC_⟩ := Kd.R_reads' HRHb.out.R
  have HCA := laws_heldInt64S.calls k AHb cHb H' n1 n2 w30 hC_ (by omega) Fh2.out
  rw [← e_] at HCA
  replace HCA := Aside0.mk HCA
  clear e_ hl_ hC_
  refine (HCA.out).mono ?_
  rintro e w31 ⟨rfl, hb31⟩
  replace hb31 := hb31.below
  have HB31 := Aside0.mk (below_step HB30.out hb31)
  have Z31 := Aside0.mk (hb31.size)
  replace BKs := Aside0.mk (blk_below BKs.out hb31)
  replace BKa := Aside0.mk (blk_below BKa.out hb31)
  replace BKx := Aside0.mk (blk_below BKx.out hb31)
  replace BKg := Aside0.mk (blk_below BKg.out hb31)
  replace HRGa := Aside0.mk (HRGa.out.below hb31)
  replace HRHa := Aside0.mk (HRHa.out.below hb31)
  replace HRGb := Aside0.mk (HRGb.out.below hb31)
  replace HRHb := Aside0.mk (HRHb.out.below hb31)
  clear HB30
  clear hb31
  clear HCA
  have hcs0 : w31.cell? ⟨w.heap.size, 0, none⟩ = some (.slice A0 l0.length c0) := (blk_cell BKs.out 0).trans rfl
  go_wp2_with fail
  clear hcs0
  refine (laws_toSpace.calls k A0 c0 l0 l0 w31 (Kd.C_below HP0.out HB31.out) HC0.out HT0.out).mono ?_
  rintro e w32 ⟨vP, rfl, hR, hb32⟩
  have hsz : w.heap.size ≤ w31.heap.size := HB31.out.size
  have HB32 := Aside0.mk (below_step HB31.out hb32)
  have Z32 := Aside0.mk (hb32.size)
  replace BKs := Aside0.mk (blk_below BKs.out hb32)
  replace BKa := Aside0.mk (blk_below BKa.out hb32)
  replace BKx := Aside0.mk (blk_below BKx.out hb32)
  replace BKg := Aside0.mk (blk_below BKg.out hb32)
  replace HRGa := Aside0.mk (HRGa.out.below hb32)
  replace HRHa := Aside0.mk (HRHa.out.below hb32)
  replace HRGb := Aside0.mk (HRGb.out.below hb32)
  replace HRHb := Aside0.mk (HRHb.out.below hb32)
  clear HB31
  obtain ⟨AP, cP, rfl⟩ := Kd.R_slice hR
  have HRP := Aside0.mk (Rw.new hsz hR)
  clear hR
  clear hb32 hsz
  go_wp2_with fail
  refine (laws_toInt64S.calls k A1 c1 l1 l1 w32 (Kd.C_below HP1.out HB32.out) HC1.out HT1.out).mono ?_
  rintro e w33 ⟨vQ, rfl, hR, hb33⟩
  have hsz : w.heap.size ≤ w32.heap.size := HB32.out.size
  have HB33 := Aside0.mk (below_step HB32.out hb33)
  have Z33 := Aside0.mk (hb33.size)
  replace BKs := Aside0.mk (blk_below BKs.out hb33)
  replace BKa := Aside0.mk (blk_below BKa.out hb33)
  replace BKx := Aside0.mk (blk_below BKx.out hb33)
  replace BKg := Aside0.mk (blk_below BKg.out hb33)
  replace HRGa := Aside0.mk (HRGa.out.below hb33)
  replace HRHa := Aside0.mk (HRHa.out.below hb33)
  replace HRGb := Aside0.mk (HRGb.out.below hb33)
  replace HRHb := Aside0.mk (HRHb.out.below hb33)
  replace HRP := Aside0.mk (HRP.out.below hb33)
  clear HB32
  obtain ⟨AQ, cQ, rfl⟩ := Kd.R_slice hR
  have HRQ := Aside0.mk (Rw.new hsz hR)
  clear hR
  clear hb33 hsz
  go_wp2_with fail
  refine (laws_toInt64S.calls k A2 c2 l2 l2 w33 (Kd.C_below HP2.out HB33.out) HC2.out HT2.out).mono ?_
  rintro e w34 ⟨vR, rfl, hR, hb34⟩
  have hsz : w.heap.size ≤ w33.heap.size := HB33.out.size
  have HB34 := Aside0.mk (below_step HB33.out hb34)
  have Z34 := Aside0.mk (hb34.size)
  replace BKs := Aside0.mk (blk_below BKs.out hb34)
  replace BKa := Aside0.mk (blk_below BKa.out hb34)
  replace BKx := Aside0.mk (blk_below BKx.out hb34)
  replace BKg := Aside0.mk (blk_below BKg.out hb34)
  replace HRGa := Aside0.mk (HRGa.out.below hb34)
  replace HRHa := Aside0.mk (HRHa.out.below hb34)
  replace HRGb := Aside0.mk (HRGb.out.below hb34)
  replace HRHb := Aside0.mk (HRHb.out.below hb34)
  replace HRP := Aside0.mk (HRP.out.below hb34)
  replace HRQ := Aside0.mk (HRQ.out.below hb34)
  clear HB33
  obtain ⟨AR, cR, rfl⟩ := Kd.R_slice hR
  have HRR := Aside0.mk (Rw.new hsz hR)
  clear hR
  clear hb34 hsz
  go_wp2_with fail
  refine (impl_CodeByColumns.calls k AP cP l0 AQ cQ l1 AR cR l2 G H e0 w34 (Kd.R_reads' HRP.out.R).2.2 (Kd.R_reads' HRP.out.R).2.1 (Kd.R_reads' HRQ.out.R).2.2 (Kd.R_reads' HRQ.out.R).2.1 (Kd.R_reads' HRR.out.R).2.2 (Kd.R_reads' HRR.out.R).2.1 Fg.out).mono ?_
  rintro e w35 ⟨vGc, vHc, rfl, h0_, h1_, hb_⟩
  have hsz : w.heap.size ≤ w34.heap.size := HB34.out.size
  have HB35 := Aside0.mk (below_step HB34.out hb_)
  have Z35 := Aside0.mk (hb_.size)
  replace BKs := Aside0.mk (blk_below BKs.out hb_)
  replace BKa := Aside0.mk (blk_below BKa.out hb_)
  replace BKx := Aside0.mk (blk_below BKx.out hb_)
  replace BKg := Aside0.mk (blk_below BKg.out hb_)
  replace HRGa := Aside0.mk (HRGa.out.below hb_)
  replace HRHa := Aside0.mk (HRHa.out.below hb_)
  replace HRGb := Aside0.mk (HRGb.out.below hb_)
  replace HRHb := Aside0.mk (HRHb.out.below hb_)
  replace HRP := Aside0.mk (HRP.out.below hb_)
  replace HRQ := Aside0.mk (HRQ.out.below hb_)
  replace HRR := Aside0.mk (HRR.out.below hb_)
  clear HB34
  obtain ⟨AGc, cGc, rfl⟩ := Kd.R_slice h0_
  obtain ⟨AHc, cHc, rfl⟩ := Kd.R_slice h1_
  have HRGc := Aside0.mk ((Rw.new hsz h0_).and (Q := fun k => some k ≠ (.slice AHc H.length cHc : Value).ownBlock) (fun k hk => by have := h0_.1 k hk; first | exact this | exact this.2))
  have HRHc := Aside0.mk ((Rw.new hsz h1_).and (Q := fun k => some k = (.slice AHc H.length cHc : Value).ownBlock) (fun k hk => hk.symm))
  clear h0_ h1_
  clear hb_ hsz
  have hcaa : (w35.alloc (.cells #[.slice AGc G.length cGc] 30)).cell? ⟨w6.heap.size, 0, none⟩ = some (.slice AGa G.length cGa) := (blk_cell (blk_alloc BKa.out _) 0).trans rfl
  go_wp2_with fail
  clear hcaa
  have hb36 := below_alloc (Below.refl w35.heap.size w35) (.cells #[.slice AGc G.length cGc] 30)
  have BKh := Aside0.mk (blk_new w35 (.cells #[.slice AGc G.length cGc] 30))
  generalize w35.alloc (.cells #[.slice AGc G.length cGc] 30) = w36 at hb36 BKh ⊢
  have HB36 := Aside0.mk (below_step HB35.out hb36)
  have Z36 := Aside0.mk (hb36.size)
  replace BKs := Aside0.mk (blk_below BKs.out hb36)
  replace BKa := Aside0.mk (blk_below BKa.out hb36)
  replace BKx := Aside0.mk (blk_below BKx.out hb36)
  replace BKg := Aside0.mk (blk_below BKg.out hb36)
  replace HRGa := Aside0.mk (HRGa.out.below hb36)
  replace HRHa := Aside0.mk (HRHa.out.below hb36)
  replace HRGb := Aside0.mk (HRGb.out.below hb36)
  replace HRHb := Aside0.mk (HRHb.out.below hb36)
  replace HRP := Aside0.mk (HRP.out.below hb36)
  replace HRQ := Aside0.mk (HRQ.out.below hb36)
  replace HRR := Aside0.mk (HRR.out.below hb36)
  replace HRGc := Aside0.mk (HRGc.out.below hb36)
  replace HRHc := Aside0.mk (HRHc.out.below hb36)
  clear HB35
  clear hb36
  have Nh := Aside0.mk (blk_lt BKh.out)
  clear HRP
  clear HRQ
  clear HRR
  refine (laws_eqSpace.calls k AGc cGc G AGa cGa G true w36 (Kd.R_reads' HRGc.out.R).2.2 (Kd.R_reads' HRGc.out.R).2.1 (Kd.R_reads' HRGa.out.R).2.2 (Kd.R_reads' HRGa.out.R).2.1 Fe1.out).mono ?_
  rintro e w37 ⟨rfl, hb37⟩
  have HB37 := Aside0.mk (below_step HB36.out hb37)
  have Z37 := Aside0.mk (hb37.size)
  replace BKs := Aside0.mk (blk_below BKs.out hb37)
  replace BKa := Aside0.mk (blk_below BKa.out hb37)
  replace BKx := Aside0.mk (blk_below BKx.out hb37)
  replace BKg := Aside0.mk (blk_below BKg.out hb37)
  replace BKh := Aside0.mk (blk_below BKh.out hb37)
  replace HRGa := Aside0.mk (HRGa.out.below hb37)
  replace HRHa := Aside0.mk (HRHa.out.below hb37)
  replace HRGb := Aside0.mk (HRGb.out.below hb37)
  replace HRHb := Aside0.mk (HRHb.out.below hb37)
  replace HRGc := Aside0.mk (HRGc.out.below hb37)
  replace HRHc := Aside0.mk (HRHc.out.below hb37)
  clear HB36
  clear hb37
  go_wp2_with fail
  refine (laws_eqInt64S.calls k AHc cHc H AHa cHa H true w37 (Kd.R_reads' HRHc.out.R).2.2 (Kd.R_reads' HRHc.out.R).2.1 (Kd.R_reads' HRHa.out.R).2.2 (Kd.R_reads' HRHa.out.R).2.1 Fe2.out).mono ?_
  rintro e w38 ⟨rfl, hb38⟩
  replace hb38 := hb38.below
  have HB38 := Aside0.mk (below_step HB37.out hb38)
  have Z38 := Aside0.mk (hb38.size)
  replace BKs := Aside0.mk (blk_below BKs.out hb38)
  replace BKa := Aside0.mk (blk_below BKa.out hb38)
  replace BKx := Aside0.mk (blk_below BKx.out hb38)
  replace BKg := Aside0.mk (blk_below BKg.out hb38)
  replace BKh := Aside0.mk (blk_below BKh.out hb38)
  replace HRGa := Aside0.mk (HRGa.out.below hb38)
  replace HRHa := Aside0.mk (HRHa.out.below hb38)
  replace HRGb := Aside0.mk (HRGb.out.below hb38)
  replace HRHb := Aside0.mk (HRHb.out.below hb38)
  replace HRGc := Aside0.mk (HRGc.out.below hb38)
  replace HRHc := Aside0.mk (HRHc.out.below hb38)
  clear HB37
  clear hb38
  have hcg0 : w38.cell? ⟨w12.heap.size, 0, none⟩ = some (.slice AGb G.length cGb) := (blk_cell BKg.out 0).trans rfl
  go_wp2_with fail
  clear hcg0
  obtain ⟨e_, hl_, hC_⟩ := Kd.R_reads' HRGb.out.R
  have HCA := laws_heldSpace.calls k AGb cGb G' 1 n1 w38 hC_ (by omega) Fh1.out
  rw [← e_] at HCA
  replace HCA := Aside0.mk HCA
  clear e_ hl_ hC_
  refine (HCA.out).mono ?_
  rintro e w39 ⟨rfl, hb39⟩
  have HB39 := Aside0.mk (below_step HB38.out hb39)
  have Z39 := Aside0.mk (hb39.size)
  replace BKs := Aside0.mk (blk_below BKs.out hb39)
  replace BKa := Aside0.mk (blk_below BKa.out hb39)
  replace BKx := Aside0.mk (blk_below BKx.out hb39)
  replace BKg := Aside0.mk (blk_below BKg.out hb39)
  replace BKh := Aside0.mk (blk_below BKh.out hb39)
  replace HRGa := Aside0.mk (HRGa.out.below hb39)
  replace HRHa := Aside0.mk (HRHa.out.below hb39)
  replace HRGb := Aside0.mk (HRGb.out.below hb39)
  replace HRHb := Aside0.mk (HRHb.out.below hb39)
  replace HRGc := Aside0.mk (HRGc.out.below hb39)
  replace HRHc := Aside0.mk (HRHc.out.below hb39)
  clear HB38
  clear hb39
  clear HCA
  go_wp2_with fail
  obtain ⟨e_, hl_, hC_⟩ := Kd.R_reads' HRHb.out.R
  have HCA := laws_heldInt64S.calls k AHb cHb H' n1 n2 w39 hC_ (by omega) Fh2.out
  rw [← e_] at HCA
  replace HCA := Aside0.mk HCA
  clear e_ hl_ hC_
  refine (HCA.out).mono ?_
  rintro e w40 ⟨rfl, hb40⟩
  replace hb40 := hb40.below
  have HB40 := Aside0.mk (below_step HB39.out hb40)
  have Z40 := Aside0.mk (hb40.size)
  replace BKs := Aside0.mk (blk_below BKs.out hb40)
  replace BKa := Aside0.mk (blk_below BKa.out hb40)
  replace BKx := Aside0.mk (blk_below BKx.out hb40)
  replace BKg := Aside0.mk (blk_below BKg.out hb40)
  replace BKh := Aside0.mk (blk_below BKh.out hb40)
  replace HRGa := Aside0.mk (HRGa.out.below hb40)
  replace HRHa := Aside0.mk (HRHa.out.below hb40)
  replace HRGb := Aside0.mk (HRGb.out.below hb40)
  replace HRHb := Aside0.mk (HRHb.out.below hb40)
  replace HRGc := Aside0.mk (HRGc.out.below hb40)
  replace HRHc := Aside0.mk (HRHc.out.below hb40)
  clear HB39
  clear hb40
  clear HCA
  go_wp2
  go_ret
  exact ⟨rfl, HB40.out⟩
set_option maxHeartbeats 2000000 in
set_option maxRecDepth 100000 in
theorem jo_x1 (k : Nat) (A0 : Option Addr) (c0 : Nat) (l0 : List Int) (A1 : Option Addr) (c1 : Nat) (l1 : List Int) (A2 : Option Addr) (c2 : Nat) (l2 : List Int) (w : World) (hr0 : Kd.C (Kd.int .i64) w A0 l0.length l0) (hc0 : l0.length ≤ c0) (hr1 : Kd.C (Kd.int .i64) w A1 l1.length l1) (hc1 : l1.length ≤ c1) (hr2 : Kd.C (Kd.int .i64) w A2 l2.length l2) (hc2 : l2.length ≤ c2) (q1_ : (l1.length : Int) > 1048576) :
    Calls Try.prog 7 #[.agg #[.slice A0 l0.length c0], .slice A1 l1.length c1, .slice A2 l2.length c2] w fun e w' => e = .returned (.bool true) ∧ Below w.heap.size w w' := by
  clear hr0 hc0 hr1 hc1 hr2 hc2
  have q1_d : decide ((l1.length : Int) > 1048576) = true := decide_eq_true q1_
  go_enter Try.func7, Try.ntmps7
  have hb1 := below_alloc (Below.refl w.heap.size w) (.cells #[.slice A0 l0.length c0] 24)
  go_wp2
  go_ret
  exact ⟨rfl, hb1⟩
set_option maxHeartbeats 2000000 in
set_option maxRecDepth 100000 in
theorem jo_x2 (k : Nat) (A0 : Option Addr) (c0 : Nat) (l0 : List Int) (A1 : Option Addr) (c1 : Nat) (l1 : List Int) (A2 : Option Addr) (c2 : Nat) (l2 : List Int) (w : World) (hr0 : Kd.C (Kd.int .i64) w A0 l0.length l0) (hc0 : l0.length ≤ c0) (hr1 : Kd.C (Kd.int .i64) w A1 l1.length l1) (hc1 : l1.length ≤ c1) (hr2 : Kd.C (Kd.int .i64) w A2 l2.length l2) (hc2 : l2.length ≤ c2) (q1_ : ¬ (l1.length : Int) > 1048576) (q2_ : (l2.length : Int) > 1048576) :
    Calls Try.prog 7 #[.agg #[.slice A0 l0.length c0], .slice A1 l1.length c1, .slice A2 l2.length c2] w fun e w' => e = .returned (.bool true) ∧ Below w.heap.size w w' := by
  clear hr0 hc0 hr1 hc1 hr2 hc2
  have q1_d : decide ((l1.length : Int) > 1048576) = false := decide_eq_false q1_
  have q2_d : decide ((l2.length : Int) > 1048576) = true := decide_eq_true q2_
  go_enter Try.func7, Try.ntmps7
  have hb1 := below_alloc (Below.refl w.heap.size w) (.cells #[.slice A0 l0.length c0] 24)
  go_wp2
  go_ret
  exact ⟨rfl, hb1⟩
set_option maxHeartbeats 2000000 in
set_option maxRecDepth 100000 in
theorem jo_x3 (k : Nat) (A0 : Option Addr) (c0 : Nat) (l0 : List Int) (A1 : Option Addr) (c1 : Nat) (l1 : List Int) (A2 : Option Addr) (c2 : Nat) (l2 : List Int) (w : World) (hr0 : Kd.C (Kd.int .i64) w A0 l0.length l0) (hc0 : l0.length ≤ c0) (hr1 : Kd.C (Kd.int .i64) w A1 l1.length l1) (hc1 : l1.length ≤ c1) (hr2 : Kd.C (Kd.int .i64) w A2 l2.length l2) (hc2 : l2.length ≤ c2) (q1_ : ¬ (l1.length : Int) > 1048576) (q2_ : ¬ (l2.length : Int) > 1048576) (z1 : Int) (hz1 : laws_szSpace.f l0 1048576 = some z1) (q3_ : z1 < 0) :
    Calls Try.prog 7 #[.agg #[.slice A0 l0.length c0], .slice A1 l1.length c1, .slice A2 l2.length c2] w fun e w' => e = .returned (.bool true) ∧ Below w.heap.size w w' := by
  have HP0 := Aside0.mk hr0
  have HC0 := Aside0.mk hc0
  have HP1 := Aside0.mk hr1
  have HC1 := Aside0.mk hc1
  have HP2 := Aside0.mk hr2
  have HC2 := Aside0.mk hc2
  clear hr0 hc0 hr1 hc1 hr2 hc2
  have Fz1 := Aside0.mk hz1
  clear hz1
  have q1_d : decide ((l1.length : Int) > 1048576) = false := decide_eq_false q1_
  have q2_d : decide ((l2.length : Int) > 1048576) = false := decide_eq_false q2_
  have q3_d : decide (z1 < 0) = true := decide_eq_true q3_
  go_enter Try.func7, Try.ntmps7
  go_wp2_with fail
  have hb0 := below_alloc (Below.refl w.heap.size w) (.cells #[.slice A0 l0.length c0] 24)
  have BKs := Aside0.mk (blk_new w (.cells #[.slice A0 l0.length c0] 24))
  generalize w.alloc (.cells #[.slice A0 l0.length c0] 24) = w1 at hb0 BKs ⊢
  have HB1 := Aside0.mk (below_step (Below.refl _ _) hb0)
  have Z1 := Aside0.mk (hb0.size)
  clear hb0
  have Ns := Aside0.mk (blk_lt BKs.out)
  refine (laws_szSpace.calls A0 c0 l0 1048576 z1 w1 (Kd.C_below HP0.out HB1.out) HC0.out Fz1.out).mono ?_
  rintro e w2 ⟨rfl, hb2⟩
  have HB2 := Aside0.mk (below_step HB1.out hb2)
  have Z2 := Aside0.mk (hb2.size)
  replace BKs := Aside0.mk (blk_below BKs.out hb2)
  clear HB1
  clear hb2
  go_wp2
  go_ret
  exact ⟨rfl, HB2.out⟩
/-- What the law asks on the ways on which it answers true: what each function answers. -/
def JGood (k : Nat) (l0 l1 l2 : List Int) : Prop := (l1.length : Int) > 1048576 ∨ (¬ (l1.length : Int) > 1048576 ∧ (l2.length : Int) > 1048576) ∨ (¬ (l1.length : Int) > 1048576 ∧ ¬ (l2.length : Int) > 1048576 ∧ ∃ z1, laws_szSpace.f l0 1048576 = some z1 ∧ z1 < 0) ∨ ∃ (G H l0' l1' l2' G' H' : List Int) (z1 e0 m0 m1 m2 n1 n2 : Int), (laws_toSpace.f k l0 = some l0) ∧ (laws_toInt64S.f k l1 = some l1) ∧ (laws_toInt64S.f k l2 = some l2) ∧ (laws_szSpace.f l0 1048576 = some z1) ∧ (spec_CodeByColumns.f k l0 l1 l2 = some (G, H, e0)) ∧ (impl_CodeByColumns.f k l0 l1 l2 = some (G, H, e0)) ∧ (laws_eqSpace.f k G G = some true) ∧ (laws_eqInt64S.f k H H = some true) ∧ (laws_eqSpace.f k l0 l0 = some true) ∧ (laws_eqInt64S.f k l1 l1 = some true) ∧ (laws_eqInt64S.f k l2 l2 = some true) ∧ (laws_markSpace.f k l0 1 = some (m0, l0')) ∧ (laws_markInt64S.f k l1 m0 = some (m1, l1')) ∧ (laws_markInt64S.f k l2 m1 = some (m2, l2')) ∧ (laws_markSpace.f k G 1 = some (n1, G')) ∧ (laws_markInt64S.f k H n1 = some (n2, H')) ∧ (laws_heldSpace.f k G' 1 = some n1) ∧ (laws_heldInt64S.f k H' n1 = some n2) ∧ (¬ (l1.length : Int) > 1048576) ∧ (¬ (l2.length : Int) > 1048576) ∧ (¬ z1 < 0) ∧ (¬ m2 < 0) ∧ (¬ n1 < 0) ∧ (¬ n2 < 0)
/-! ### laws_FnExactCodeByColumns: function 7 -/
theorem laws_FnExactCodeByColumns.calls (k : Nat) (A0 : Option Addr) (c0 : Nat) (l0 : List Int) (A1 : Option Addr) (c1 : Nat) (l1 : List Int) (A2 : Option Addr) (c2 : Nat) (l2 : List Int) (w : World) (hr0 : Kd.C (Kd.int .i64) w A0 l0.length l0) (hc0 : l0.length ≤ c0) (hr1 : Kd.C (Kd.int .i64) w A1 l1.length l1) (hc1 : l1.length ≤ c1) (hr2 : Kd.C (Kd.int .i64) w A2 l2.length l2) (hc2 : l2.length ≤ c2) (h : JGood k l0 l1 l2) :
    Calls Try.prog 7 #[.agg #[.slice A0 l0.length c0], .slice A1 l1.length c1, .slice A2 l2.length c2] w fun e w' => e = .returned (.bool true) ∧ Below w.heap.size w w' := by
  rcases h with h | ⟨h1, h⟩ | ⟨h1, h2, z1, h3, h⟩ | ⟨G, H, l0', l1', l2', G', H', z1, e0, m0, m1, m2, n1, n2, ht0, ht1, ht2, hz1, hw, hg, he1, he2, hq0, hq1, hq2, hm0, hm1, hm2, hn1, hn2, hh1, hh2, q1_, q2_, q3_, q5_, q6_, q7_⟩
  · exact jo_x1 k A0 c0 l0 A1 c1 l1 A2 c2 l2 w hr0 hc0 hr1 hc1 hr2 hc2 h
  · exact jo_x2 k A0 c0 l0 A1 c1 l1 A2 c2 l2 w hr0 hc0 hr1 hc1 hr2 hc2 h1 h
  · exact jo_x3 k A0 c0 l0 A1 c1 l1 A2 c2 l2 w hr0 hc0 hr1 hc1 hr2 hc2 h1 h2 z1 h3 h
  · exact jo_good k A0 c0 l0 A1 c1 l1 A2 c2 l2 w hr0 hc0 hr1 hc1 hr2 hc2 G H l0' l1' l2' G' H' z1 e0 m0 m1 m2 n1 n2 ht0 ht1 ht2 hz1 hw hg he1 he2 hq0 hq1 hq2 hm0 hm1 hm2 hn1 hn2 hh1 hh2 q1_ q2_ q3_ q5_ q6_ q7_
end Go.Proofs.Ythbfaefneoeadaa.PFnExactCodeByColumns
