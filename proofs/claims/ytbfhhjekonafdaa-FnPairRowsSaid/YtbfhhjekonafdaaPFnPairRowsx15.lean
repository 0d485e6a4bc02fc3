-- WALKS, by a program and by hand
import Derived.Test.YtbfhhjekonafdaaProg
import Derived.Below
import Derived.Deep.Draws
import Derived.Deep.AppendLies
import Derived.Maps.AppendAt
import Derived.OwnWalk
import Derived.Laws.BytesArg
import Derived.Laws.MakeOwn
import Derived.Laws.OwnMore
import Derived.Deep.OwnRows
import Derived.Tactics
import Derived.Lib.ConvBytes
import Derived.Laws.Slices
import Derived.WalkKit
import Derived.KernelRfl
import Derived.RowKit3
import Derived.Deep.LoopGhost
import Derived.Deep.QuietTactic
import Derived.BigQuiet
import Derived.WideLaws
import Derived.Deep.DeepCutAuto
import Derived.Deep.CutBlock
import Derived.Deep.RegionHeld3
import Derived.Laws.Rows
import Derived.Lib.AppendStr
import Derived.ArgAppend
import Derived.Laws.IdiomCopy
import Derived.OrdersHeld
import Derived.Laws.BitsLemmas
import Derived.RowKit
import Derived.Outline
import Derived.Laws.CopyOwn
import Derived.Test.YtbfhhjekonafdaaPrDg
import Derived.Test.YtbfhhjekonafdaaPrDg2
import Derived.Test.YtbfhhjekonafdaaPrSortL
import Derived.Test.YtbfhhjekonafdaaPrCh
import Derived.Test.YtbfhhjekonafdaaPrChA
import Derived.Test.YtbfhhjekonafdaaPrChN
import Derived.Test.YtbfhhjekonafdaaPrChC
import Derived.Test.YtbfhhjekonafdaaPrChO
import Derived.RegionTactic
import Derived.BigRegion
import Derived.ChangeAlike
import Derived.StillTailTactics
import Derived.Test.YtbfhhjekonafdaaPrWMore
import Derived.Test.YtbfhhjekonafdaaPrWNEv
import Derived.Test.YtbfhhjekonafdaaPrWGuard
import Derived.Test.YtbfhhjekonafdaaPrWN
import Derived.Test.YtbfhhjekonafdaaPrWShare
import Derived.Test.YtbfhhjekonafdaaPrWKept
import Derived.Test.YtbfhhjekonafdaaPrWFoot
import Derived.Test.YtbfhhjekonafdaaPrWWords
import Derived.Test.YtbfhhjekonafdaaPrWApart
import Derived.Test.YtbfhhjekonafdaaPrWQPut
import Derived.Test.YtbfhhjekonafdaaPrWTab
import Derived.Test.YtbfhhjekonafdaaPrWLast
import Derived.Shelf.Spec.SlicesGrow
import Derived.Ground.Names8Prog
import Derived.Test.YtbfhhjekonafdaaPrGr
import Derived.Test.YtbfhhjekonafdaaPrWAt
import Derived.Laws.StructEq
import Derived.Test.YtbfhhjekonafdaaPrWRepsOne
import Derived.Test.YtbfhhjekonafdaaPrWInv
import Derived.Test.YtbfhhjekonafdaaPFnPairRowsx1
import Derived.Test.YtbfhhjekonafdaaPFnPairRowsx2
import Derived.Test.YtbfhhjekonafdaaPFnPairRowsx3
import Derived.Test.YtbfhhjekonafdaaPFnPairRowsx4
import Derived.Test.YtbfhhjekonafdaaPFnPairRowsx5
import Derived.Test.YtbfhhjekonafdaaPFnPairRowsx6
import Derived.Test.YtbfhhjekonafdaaPFnPairRowsx7
import Derived.Test.YtbfhhjekonafdaaPFnPairRowsx8
import Derived.Test.YtbfhhjekonafdaaPFnPairRowsx9
import Derived.Test.YtbfhhjekonafdaaPFnPairRowsx10
import Derived.Test.YtbfhhjekonafdaaPFnPairRowsx11
import Derived.Test.YtbfhhjekonafdaaPFnPairRowsx12
import Derived.Test.YtbfhhjekonafdaaPFnPairRowsx13
import Derived.Test.YtbfhhjekonafdaaPFnPairRowsx14
namespace Go.Proofs.Ytbfhhjekonafdaa.PFnPairRows
open Go.RowKit Go.Proofs.YtbfhhjekonafdaaW.PrintWords Go.Proofs.YtbfhhjekonafdaaW.PrintLast Go.Proofs.YtbfhhjekonafdaaW.PrintMore Go.Proofs.Ytbfhhjekonafdaa.DG
attribute [local go_sem] max2_int min2_int max_two min_two max_three min_three max_four min_four
set_option linter.unusedVariables false
set_option linter.unusedSimpArgs false
set_option maxHeartbeats 4000000 in
set_option maxRecDepth 100000 in
theorem TGood_good (k : Nat) (A0 : Option Addr) (c0 : Nat) (l0 : List Int) (w : World) (hr0 : Kd.C (Kd.int .u8) w A0 l0.length l0) (hc0 : l0.length ≤ c0) (S R X L Y : List Int) (n e1 m e2 st e3 t b e4 lw ow : Int)
    (hbig : laws_big.f l0 = some false) (h1 : spec_DrawPairRows.f k l0 = some n) (h2 : impl_PairRows.f k n = some (S, R, e1)) (h3 : spec_PairRows.f k n = some (S, R, e1)) (h4 : laws_likeInts.f k S S = some true) (h5 : laws_likeInts.f k R R = some true) (h6 : impl_PairNumber.f k n = some (m, e2)) (h7 : spec_PairNumber.f k n = some (m, e2)) (h8 : spec_DrawStrengthOf.f k l0 = some (X, L)) (h9 : impl_StrengthOf.f k X L = some (st, e3)) (h10 : spec_StrengthOf.f k X L = some (st, e3)) (h11 : spec_DrawChoiceBound.f k l0 = some (Y, t)) (h12 : impl_ChoiceBound.f k Y t = some (b, e4)) (h13 : spec_ChoiceBound.f k Y t = some (b, e4)) (h14 : e3 = 0 → 0 < st → impl_ChoiceBound.f k X st = some (lw, 0) ∧ ¬ (L.length : Int) < lw) (h15 : e1 ≠ 0 → R = [] ∧ e2 = e1) (h16 : e1 = 0 → impl_StrengthOf.f k S R = some (ow, 0) ∧ e2 = 0 ∧ (R.length : Int) = m ∧ mn n 2 ≤ ow) :
    Calls Try.prog 3 #[.slice A0 l0.length c0] w fun e w' => e = .returned (.bool true) ∧ Below w.heap.size w w' := by
  have Hbig := zA hbig
  have H1 := zA h1
  have H2 := zA h2
  have H3 := zA h3
  have H4 := zA h4
  have H5 := zA h5
  have H6 := zA h6
  have H7 := zA h7
  have H8 := zA h8
  have H9 := zA h9
  have H10 := zA h10
  have H11 := zA h11
  have H12 := zA h12
  have H13 := zA h13
  have H14 := zA h14
  have H15 := zA h15
  have H16 := zA h16
  have HR0 := zA hr0
  have HC0 := zA hc0
  clear hr0 hc0 hbig h1 h2 h3 h4 h5 h6 h7 h8 h9 h10 h11 h12 h13 h14 h15 h16
  go_enter Try.func3, Try.ntmps3
  go_wp2_with fail
  refine (laws_big.calls A0 c0 l0 false w HR0.out HC0.out Hbig.out).mono ?_
  rintro e w1 ⟨rfl, hb1⟩
  replace hb1 := hb1.below
  have HB1 := zA (below_step (Below.refl _ _) hb1)
  clear hb1
  go_wp2_with fail
  refine (spec_DrawPairRows.calls k A0 c0 l0 n w1 (Kd.C_below HR0.out HB1.out) HC0.out H1.out).mono ?_
  rintro e w2 ⟨rfl, hb2⟩
  have HB2 := zA (below_step HB1.out hb2)
  clear HB1
  clear hb2
  go_wp2_with fail
  refine (impl_PairRows.calls k n S R e1 w2 H2.out).mono ?_
  rintro e w3 ⟨va_, vb_, rfl, hR, hQ, hb3⟩
  have HB3 := zA (below_step HB2.out hb3)
  clear HB2
  clear hb3
  obtain ⟨AS, cS, rfl⟩ := Kd.R_slice hR
  have HLS := zA (Kd.R_reads' hR).2.1
  have HVS := zA (Kd.R_reads' hR).2.2
  clear hR
  obtain ⟨AR, cR, rfl⟩ := Kd.R_slice hQ
  have HLR := zA (Kd.R_reads' hQ).2.1
  have HVR := zA (Kd.R_reads' hQ).2.2
  clear hQ
  go_wp2_with fail
  have hb4 := below_alloc (Below.refl w3.heap.size w3) (.cells #[.slice AS S.length cS] 27)
  have BKp := zA (blk_new w3 (.cells #[.slice AS S.length cS] 27))
  generalize w3.alloc (.cells #[.slice AS S.length cS] 27) = w4 at hb4 BKp ⊢
  have HB4 := zA (below_step HB3.out hb4)
  replace HVS := zA (Kd.C_below HVS.out hb4)
  replace HVR := zA (Kd.C_below HVR.out hb4)
  clear HB3
  clear hb4
  refine (spec_PairRows.calls k n S R e1 w4 H3.out).mono ?_
  rintro e w5 ⟨va_, vb_, rfl, hR, hQ, hb5⟩
  have HB5 := zA (below_step HB4.out hb5)
  replace BKp := zA (blk_below BKp.out hb5)
  replace HVS := zA (Kd.C_below HVS.out hb5)
  replace HVR := zA (Kd.C_below HVR.out hb5)
  clear HB4
  clear hb5
  obtain ⟨ASb, cSb, rfl⟩ := Kd.R_slice hR
  have HLSb := zA (Kd.R_reads' hR).2.1
  have HVSb := zA (Kd.R_reads' hR).2.2
  clear hR
  obtain ⟨ARb, cRb, rfl⟩ := Kd.R_slice hQ
  have HLRb := zA (Kd.R_reads' hQ).2.1
  have HVRb := zA (Kd.R_reads' hQ).2.2
  clear hQ
  have hcap : (w5.alloc (.cells #[.slice ASb S.length cSb] 27)).cell? ⟨w3.heap.size, 0, none⟩ = some (.slice AS S.length cS) := (blk_cell (blk_alloc BKp.out _) 0).trans rfl
  go_wp2_with fail
  clear hcap
  have hb6 := below_alloc (Below.refl w5.heap.size w5) (.cells #[.slice ASb S.length cSb] 27)
  have BKq := zA (blk_new w5 (.cells #[.slice ASb S.length cSb] 27))
  generalize w5.alloc (.cells #[.slice ASb S.length cSb] 27) = w6 at hb6 BKq ⊢
  have HB6 := zA (below_step HB5.out hb6)
  replace BKp := zA (blk_below BKp.out hb6)
  replace HVS := zA (Kd.C_below HVS.out hb6)
  replace HVR := zA (Kd.C_below HVR.out hb6)
  replace HVSb := zA (Kd.C_below HVSb.out hb6)
  replace HVRb := zA (Kd.C_below HVRb.out hb6)
  clear HB5
  clear hb6
  refine (laws_likeInts.calls k AS cS S ASb cSb S true w6 HVS.out HLS.out HVSb.out HLSb.out H4.out).mono ?_
  rintro e w7 ⟨rfl, hb7⟩
  replace hb7 := hb7.below
  have HB7 := zA (below_step HB6.out hb7)
  replace BKp := zA (blk_below BKp.out hb7)
  replace BKq := zA (blk_below BKq.out hb7)
  replace HVS := zA (Kd.C_below HVS.out hb7)
  replace HVR := zA (Kd.C_below HVR.out hb7)
  replace HVSb := zA (Kd.C_below HVSb.out hb7)
  replace HVRb := zA (Kd.C_below HVRb.out hb7)
  clear HB6
  clear hb7
  go_wp2_with fail
  refine (laws_likeInts.calls k AR cR R ARb cRb R true w7 HVR.out HLR.out HVRb.out HLRb.out H5.out).mono ?_
  rintro e w8 ⟨rfl, hb8⟩
  replace hb8 := hb8.below
  have HB8 := zA (below_step HB7.out hb8)
  replace BKp := zA (blk_below BKp.out hb8)
  replace BKq := zA (blk_below BKq.out hb8)
  replace HVS := zA (Kd.C_below HVS.out hb8)
  replace HVR := zA (Kd.C_below HVR.out hb8)
  replace HVSb := zA (Kd.C_below HVSb.out hb8)
  replace HVRb := zA (Kd.C_below HVRb.out hb8)
  clear HB7
  clear hb8
  clear HVSb HLSb
  clear HVRb HLRb
  clear BKq
  go_wp2_with fail
  refine (impl_PairNumber.calls k n m e2 w8 H6.out).mono ?_
  rintro e w9 ⟨rfl, hb9⟩
  have HB9 := zA (below_step HB8.out hb9)
  replace BKp := zA (blk_below BKp.out hb9)
  replace HVS := zA (Kd.C_below HVS.out hb9)
  replace HVR := zA (Kd.C_below HVR.out hb9)
  clear HB8
  clear hb9
  go_wp2_with fail
  refine (spec_PairNumber.calls k n m e2 w9 H7.out).mono ?_
  rintro e w10 ⟨rfl, hb10⟩
  replace hb10 := hb10.below
  have HB10 := zA (below_step HB9.out hb10)
  replace BKp := zA (blk_below BKp.out hb10)
  replace HVS := zA (Kd.C_below HVS.out hb10)
  replace HVR := zA (Kd.C_below HVR.out hb10)
  clear HB9
  clear hb10
  go_wp2_with fail
  refine (spec_DrawStrengthOf.calls k A0 c0 l0 X L w10 (Kd.C_below HR0.out HB10.out) HC0.out H8.out).mono ?_
  rintro e w11 ⟨va_, vb_, rfl, hR, hQ, hb11⟩
  have HB11 := zA (below_step HB10.out hb11)
  replace BKp := zA (blk_below BKp.out hb11)
  replace HVS := zA (Kd.C_below HVS.out hb11)
  replace HVR := zA (Kd.C_below HVR.out hb11)
  clear HB10
  clear hb11
  obtain ⟨AX, cX, rfl⟩ := Kd.R_slice hR
  have HLX := zA (Kd.R_reads' hR).2.1
  have HVX := zA (Kd.R_reads' hR).2.2
  clear hR
  obtain ⟨AL, cL, rfl⟩ := Kd.R_slice hQ
  have HLL := zA (Kd.R_reads' hQ).2.1
  have HVL := zA (Kd.R_reads' hQ).2.2
  clear hQ
  go_wp2_with fail
  have hb12 := below_alloc (Below.refl w11.heap.size w11) (.cells #[.slice AX X.length cX] 27)
  have BKx := zA (blk_new w11 (.cells #[.slice AX X.length cX] 27))
  generalize w11.alloc (.cells #[.slice AX X.length cX] 27) = w12 at hb12 BKx ⊢
  have HB12 := zA (below_step HB11.out hb12)
  replace BKp := zA (blk_below BKp.out hb12)
  replace HVS := zA (Kd.C_below HVS.out hb12)
  replace HVR := zA (Kd.C_below HVR.out hb12)
  replace HVX := zA (Kd.C_below HVX.out hb12)
  replace HVL := zA (Kd.C_below HVL.out hb12)
  clear HB11
  clear hb12
  refine (impl_StrengthOf.calls k AX cX X AL cL L st e3 w12 HVX.out HLX.out HVL.out HLL.out H9.out).mono ?_
  rintro e w13 ⟨rfl, hb13⟩
  have HB13 := zA (below_step HB12.out hb13)
  replace BKp := zA (blk_below BKp.out hb13)
  replace BKx := zA (blk_below BKx.out hb13)
  replace HVS := zA (Kd.C_below HVS.out hb13)
  replace HVR := zA (Kd.C_below HVR.out hb13)
  replace HVX := zA (Kd.C_below HVX.out hb13)
  replace HVL := zA (Kd.C_below HVL.out hb13)
  clear HB12
  clear hb13
  have hcx0 : w13.cell? ⟨w11.heap.size, 0, none⟩ = some (.slice AX X.length cX) := (blk_cell BKx.out 0).trans rfl
  go_wp2_with fail
  clear hcx0
  refine (spec_StrengthOf.calls k AX cX X AL cL L st e3 w13 HVX.out HLX.out HVL.out HLL.out H10.out).mono ?_
  rintro e w14 ⟨rfl, hb14⟩
  have HB14 := zA (below_step HB13.out hb14)
  replace BKp := zA (blk_below BKp.out hb14)
  replace BKx := zA (blk_below BKx.out hb14)
  replace HVS := zA (Kd.C_below HVS.out hb14)
  replace HVR := zA (Kd.C_below HVR.out hb14)
  replace HVX := zA (Kd.C_below HVX.out hb14)
  replace HVL := zA (Kd.C_below HVL.out hb14)
  clear HB13
  clear hb14
  go_wp2_with fail
  refine (spec_DrawChoiceBound.calls k A0 c0 l0 Y t w14 (Kd.C_below HR0.out HB14.out) HC0.out H11.out).mono ?_
  rintro e w15 ⟨va_, rfl, hR, hb15⟩
  have HB15 := zA (below_step HB14.out hb15)
  replace BKp := zA (blk_below BKp.out hb15)
  replace BKx := zA (blk_below BKx.out hb15)
  replace HVS := zA (Kd.C_below HVS.out hb15)
  replace HVR := zA (Kd.C_below HVR.out hb15)
  replace HVX := zA (Kd.C_below HVX.out hb15)
  replace HVL := zA (Kd.C_below HVL.out hb15)
  clear HB14
  clear hb15
  obtain ⟨AY, cY, rfl⟩ := Kd.R_slice hR
  have HLY := zA (Kd.R_reads' hR).2.1
  have HVY := zA (Kd.R_reads' hR).2.2
  clear hR
  go_wp2_with fail
  have hb16 := below_alloc (Below.refl w15.heap.size w15) (.cells #[.slice AY Y.length cY] 27)
  have BKy := zA (blk_new w15 (.cells #[.slice AY Y.length cY] 27))
  generalize w15.alloc (.cells #[.slice AY Y.length cY] 27) = w16 at hb16 BKy ⊢
  have HB16 := zA (below_step HB15.out hb16)
  replace BKp := zA (blk_below BKp.out hb16)
  replace BKx := zA (blk_below BKx.out hb16)
  replace HVS := zA (Kd.C_below HVS.out hb16)
  replace HVR := zA (Kd.C_below HVR.out hb16)
  replace HVX := zA (Kd.C_below HVX.out hb16)
  replace HVL := zA (Kd.C_below HVL.out hb16)
  replace HVY := zA (Kd.C_below HVY.out hb16)
  clear HB15
  clear hb16
  refine (impl_ChoiceBound.calls k AY cY Y t b e4 w16 HVY.out HLY.out H12.out).mono ?_
  rintro e w17 ⟨rfl, hb17⟩
  have HB17 := zA (below_step HB16.out hb17)
  replace BKp := zA (blk_below BKp.out hb17)
  replace BKx := zA (blk_below BKx.out hb17)
  replace BKy := zA (blk_below BKy.out hb17)
  replace HVS := zA (Kd.C_below HVS.out hb17)
  replace HVR := zA (Kd.C_below HVR.out hb17)
  replace HVX := zA (Kd.C_below HVX.out hb17)
  replace HVL := zA (Kd.C_below HVL.out hb17)
  replace HVY := zA (Kd.C_below HVY.out hb17)
  clear HB16
  clear hb17
  have hcy0 : w17.cell? ⟨w15.heap.size, 0, none⟩ = some (.slice AY Y.length cY) := (blk_cell BKy.out 0).trans rfl
  go_wp2_with fail
  clear hcy0
  refine (spec_ChoiceBound.calls k AY cY Y t b e4 w17 HVY.out HLY.out H13.out).mono ?_
  rintro e w18 ⟨rfl, hb18⟩
  have HB18 := zA (below_step HB17.out hb18)
  replace BKp := zA (blk_below BKp.out hb18)
  replace BKx := zA (blk_below BKx.out hb18)
  replace BKy := zA (blk_below BKy.out hb18)
  replace HVS := zA (Kd.C_below HVS.out hb18)
  replace HVR := zA (Kd.C_below HVR.out hb18)
  replace HVX := zA (Kd.C_below HVX.out hb18)
  replace HVL := zA (Kd.C_below HVL.out hb18)
  replace HVY := zA (Kd.C_below HVY.out hb18)
  clear HB17
  clear hb18
  clear HVY HLY
  clear BKy
  by_cases c3 : e3 = 0
  · subst c3
    by_cases c4 : 0 < st
    · have c4d : decide (st > 0) = true := decide_eq_true c4
      obtain ⟨ka, kb⟩ := H14.out rfl c4
      have HA := zA ka
      have dlw : decide ((L.length : Int) < lw) = false := decide_eq_false (by omega)
      clear ka kb
      have hcx0 : w18.cell? ⟨w11.heap.size, 0, none⟩ = some (.slice AX X.length cX) := (blk_cell BKx.out 0).trans rfl
      go_wp2_with fail
      clear hcx0
      refine (impl_ChoiceBound.calls k AX cX X st lw 0 w18 HVX.out HLX.out HA.out).mono ?_
      rintro e w19 ⟨rfl, hb19⟩
      have HB19 := zA (below_step HB18.out hb19)
      replace BKp := zA (blk_below BKp.out hb19)
      replace BKx := zA (blk_below BKx.out hb19)
      replace HVS := zA (Kd.C_below HVS.out hb19)
      replace HVR := zA (Kd.C_below HVR.out hb19)
      replace HVX := zA (Kd.C_below HVX.out hb19)
      replace HVL := zA (Kd.C_below HVL.out hb19)
      clear HB18
      clear hb19
      by_cases c1 : e1 = 0
      · subst c1
        obtain ⟨ka, kb, kc, kd⟩ := H16.out rfl
        subst kb kc
        have HA2 := zA ka
        have HMN := zA kd
        clear ka kd
        have hcp0 : w19.cell? ⟨w3.heap.size, 0, none⟩ = some (.slice AS S.length cS) := (blk_cell BKp.out 0).trans rfl
        go_wp2_with fail
        clear hcp0
        refine (impl_StrengthOf.calls k AS cS S AR cR R ow 0 w19 HVS.out HLS.out HVR.out HLR.out HA2.out).mono ?_
        rintro e w20 ⟨rfl, hb20⟩
        have HB20 := zA (below_step HB19.out hb20)
        replace BKp := zA (blk_below BKp.out hb20)
        replace BKx := zA (blk_below BKx.out hb20)
        replace HVS := zA (Kd.C_below HVS.out hb20)
        replace HVR := zA (Kd.C_below HVR.out hb20)
        replace HVX := zA (Kd.C_below HVX.out hb20)
        replace HVL := zA (Kd.C_below HVL.out hb20)
        clear HB19
        clear hb20
        by_cases c5 : 2 < n
        · have c5d : decide (2 < n) = true := decide_eq_true c5
          have kd := HMN.out
          unfold mn at kd
          rw [if_pos c5] at kd
          have dow : decide (2 ≤ ow) = true := decide_eq_true kd
          clear kd
          go_wp2
          go_ret
          exact ⟨rfl, HB20.out⟩
        · have c5d : decide (2 < n) = false := decide_eq_false c5
          have kd := HMN.out
          unfold mn at kd
          rw [if_neg c5] at kd
          have dow : decide (n ≤ ow) = true := decide_eq_true kd
          clear kd
          go_wp2
          go_ret
          exact ⟨rfl, HB20.out⟩
      · have c1b0 : (e1 == 0) = false := beq_eq_false_iff_ne.mpr c1
        have c1b1 : (e1 != 0) = true := bne_iff_ne.mpr c1
        obtain ⟨ka, kb⟩ := H15.out c1
        subst ka kb
        go_wp2
        go_ret
        exact ⟨rfl, HB19.out⟩
    · have c4d : decide (st > 0) = false := decide_eq_false c4
      by_cases c1 : e1 = 0
      · subst c1
        obtain ⟨ka, kb, kc, kd⟩ := H16.out rfl
        subst kb kc
        have HA2 := zA ka
        have HMN := zA kd
        clear ka kd
        have hcp0 : w18.cell? ⟨w3.heap.size, 0, none⟩ = some (.slice AS S.length cS) := (blk_cell BKp.out 0).trans rfl
        go_wp2_with fail
        clear hcp0
        refine (impl_StrengthOf.calls k AS cS S AR cR R ow 0 w18 HVS.out HLS.out HVR.out HLR.out HA2.out).mono ?_
        rintro e w19 ⟨rfl, hb19⟩
        have HB19 := zA (below_step HB18.out hb19)
        replace BKp := zA (blk_below BKp.out hb19)
        replace BKx := zA (blk_below BKx.out hb19)
        replace HVS := zA (Kd.C_below HVS.out hb19)
        replace HVR := zA (Kd.C_below HVR.out hb19)
        replace HVX := zA (Kd.C_below HVX.out hb19)
        replace HVL := zA (Kd.C_below HVL.out hb19)
        clear HB18
        clear hb19
        by_cases c5 : 2 < n
        · have c5d : decide (2 < n) = true := decide_eq_true c5
          have kd := HMN.out
          unfold mn at kd
          rw [if_pos c5] at kd
          have dow : decide (2 ≤ ow) = true := decide_eq_true kd
          clear kd
          go_wp2
          go_ret
          exact ⟨rfl, HB19.out⟩
        · have c5d : decide (2 < n) = false := decide_eq_false c5
          have kd := HMN.out
          unfold mn at kd
          rw [if_neg c5] at kd
          have dow : decide (n ≤ ow) = true := decide_eq_true kd
          clear kd
          go_wp2
          go_ret
          exact ⟨rfl, HB19.out⟩
      · have c1b0 : (e1 == 0) = false := beq_eq_false_iff_ne.mpr c1
        have c1b1 : (e1 != 0) = true := bne_iff_ne.mpr c1
        obtain ⟨ka, kb⟩ := H15.out c1
        subst ka kb
        go_wp2
        go_ret
        exact ⟨rfl, HB18.out⟩
  · have c3b0 : (e3 == 0) = false := beq_eq_false_iff_ne.mpr c3
    have c3b1 : (e3 != 0) = true := bne_iff_ne.mpr c3
    by_cases c1 : e1 = 0
    · subst c1
      obtain ⟨ka, kb, kc, kd⟩ := H16.out rfl
      subst kb kc
      have HA2 := zA ka
      have HMN := zA kd
      clear ka kd
      have hcp0 : w18.cell? ⟨w3.heap.size, 0, none⟩ = some (.slice AS S.length cS) := (blk_cell BKp.out 0).trans rfl
      go_wp2_with fail
      clear hcp0
      refine (impl_StrengthOf.calls k AS cS S AR cR R ow 0 w18 HVS.out HLS.out HVR.out HLR.out HA2.out).mono ?_
      rintro e w19 ⟨rfl, hb19⟩
      have HB19 := zA (below_step HB18.out hb19)
      replace BKp := zA (blk_below BKp.out hb19)
      replace BKx := zA (blk_below BKx.out hb19)
      replace HVS := zA (Kd.C_below HVS.out hb19)
      replace HVR := zA (Kd.C_below HVR.out hb19)
      replace HVX := zA (Kd.C_below HVX.out hb19)
      replace HVL := zA (Kd.C_below HVL.out hb19)
      clear HB18
      clear hb19
      by_cases c5 : 2 < n
      · have c5d : decide (2 < n) = true := decide_eq_true c5
        have kd := HMN.out
        unfold mn at kd
        rw [if_pos c5] at kd
        have dow : decide (2 ≤ ow) = true := decide_eq_true kd
        clear kd
        go_wp2
        go_ret
        exact ⟨rfl, HB19.out⟩
      · have c5d : decide (2 < n) = false := decide_eq_false c5
        have kd := HMN.out
        unfold mn at kd
        rw [if_neg c5] at kd
        have dow : decide (n ≤ ow) = true := decide_eq_true kd
        clear kd
        go_wp2
        go_ret
        exact ⟨rfl, HB19.out⟩
    · have c1b0 : (e1 == 0) = false := beq_eq_false_iff_ne.mpr c1
      have c1b1 : (e1 != 0) = true := bne_iff_ne.mpr c1
      obtain ⟨ka, kb⟩ := H15.out c1
      subst ka kb
      go_wp2
      go_ret
      exact ⟨rfl, HB18.out⟩
/-- What the law asks on the ways on which it answers true: what each function answers. -/
def TGood (k : Nat) (l0 : List Int) : Prop := laws_big.f l0 = some true ∨ ∃ (S R X L Y : List Int) (n e1 m e2 st e3 t b e4 lw ow : Int), (laws_big.f l0 = some false) ∧ (spec_DrawPairRows.f k l0 = some n) ∧ (impl_PairRows.f k n = some (S, R, e1)) ∧ (spec_PairRows.f k n = some (S, R, e1)) ∧ (laws_likeInts.f k S S = some true) ∧ (laws_likeInts.f k R R = some true) ∧ (impl_PairNumber.f k n = some (m, e2)) ∧ (spec_PairNumber.f k n = some (m, e2)) ∧ (spec_DrawStrengthOf.f k l0 = some (X, L)) ∧ (impl_StrengthOf.f k X L = some (st, e3)) ∧ (spec_StrengthOf.f k X L = some (st, e3)) ∧ (spec_DrawChoiceBound.f k l0 = some (Y, t)) ∧ (impl_ChoiceBound.f k Y t = some (b, e4)) ∧ (spec_ChoiceBound.f k Y t = some (b, e4)) ∧ (e3 = 0 → 0 < st → impl_ChoiceBound.f k X st = some (lw, 0) ∧ ¬ (L.length : Int) < lw) ∧ (e1 ≠ 0 → R = [] ∧ e2 = e1) ∧ (e1 = 0 → impl_StrengthOf.f k S R = some (ow, 0) ∧ e2 = 0 ∧ (R.length : Int) = m ∧ mn n 2 ≤ ow)
set_option maxHeartbeats 1000000 in
set_option maxRecDepth 100000 in
theorem TGood_big (k : Nat) (A0 : Option Addr) (c0 : Nat) (l0 : List Int) (w : World) (hr0 : Kd.C (Kd.int .u8) w A0 l0.length l0) (hc0 : l0.length ≤ c0) (h : laws_big.f l0 = some true) :
    Calls Try.prog 3 #[.slice A0 l0.length c0] w fun e w' => e = .returned (.bool true) ∧ Below w.heap.size w w' := by
  have H := zA (laws_big.calls A0 c0 l0 true w hr0 hc0 h)
  clear hr0 hc0 h
  go_enter Try.func3, Try.ntmps3
  go_wp2_with fail
  refine H.out.mono ?_
  rintro e w1 ⟨rfl, hb⟩
  have HB := zA hb.below
  clear hb
  go_wp2
  go_ret
  exact ⟨rfl, HB.out⟩
/-! ### laws_FnPairRows: function 3 -/
theorem laws_FnPairRows.calls (k : Nat) (A0 : Option Addr) (c0 : Nat) (l0 : List Int) (w : World) (hr0 : Kd.C (Kd.int .u8) w A0 l0.length l0) (hc0 : l0.length ≤ c0) (h : TGood k l0) :
    Calls Try.prog 3 #[.slice A0 l0.length c0] w fun e w' => e = .returned (.bool true) ∧ Below w.heap.size w w' := by
  rcases h with h | ⟨S, R, X, L, Y, n, e1, m, e2, st, e3, t, b, e4, lw, ow, hbig, h1, h2, h3, h4, h5, h6, h7, h8, h9, h10, h11, h12, h13, h14, h15, h16⟩
  · exact TGood_big k A0 c0 l0 w hr0 hc0 h
  · exact TGood_good k A0 c0 l0 w hr0 hc0 S R X L Y n e1 m e2 st e3 t b e4 lw ow hbig h1 h2 h3 h4 h5 h6 h7 h8 h9 h10 h11 h12 h13 h14 h15 h16
end Go.Proofs.Ytbfhhjekonafdaa.PFnPairRows
