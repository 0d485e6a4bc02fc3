-- WALKS, by a program and by hand
import Derived.Test.YtchlbkcladfloaaProg
import Derived.Below
import Derived.Deep.Draws
import Derived.Deep.AppendLies
import Derived.Maps.AppendAt
import Derived.OwnWalk
import Derived.Laws.BytesArg
import Derived.Laws.MakeOwn
import Derived.Laws.OwnMore
import Derived.Deep.OwnRows
import Derived.Tactics
import Derived.Lib.ConvBytes
import Derived.Laws.Slices
import Derived.WalkKit
import Derived.KernelRfl
import Derived.RowKit3
import Derived.Deep.LoopGhost
import Derived.Deep.QuietTactic
import Derived.BigQuiet
import Derived.WideLaws
import Derived.Deep.DeepCutAuto
import Derived.Deep.CutBlock
import Derived.Deep.RegionHeld3
import Derived.Laws.Rows
import Derived.Lib.AppendStr
import Derived.ArgAppend
import Derived.Laws.IdiomCopy
import Derived.OrdersHeld
import Derived.Laws.BitsLemmas
import Derived.RowKit
import Derived.Outline
import Derived.Laws.CopyOwn
import Derived.Test.YtchlbkcladfloaaGuSortL
import Derived.Test.YtchlbkcladfloaaGuLt
import Derived.Test.YtchlbkcladfloaaGuFd
import Derived.Test.YtchlbkcladfloaaGuWWords
import Derived.Test.YtchlbkcladfloaaGuWLast
import Derived.Test.YtchlbkcladfloaaGuWTab
import Derived.Test.YtchlbkcladfloaaGuWQPut
import Derived.Test.YtchlbkcladfloaaGuWApart
import Derived.Test.YtchlbkcladfloaaGuWArr
import Derived.Test.YtchlbkcladfloaaGuWFoot
import Derived.Test.YtchlbkcladfloaaGuWKept
import Derived.Test.YtchlbkcladfloaaGuWShare
import Derived.Test.YtchlbkcladfloaaGuWN
import Derived.Laws.StructEq
import Derived.Test.YtchlbkcladfloaaGuWRepsOne
import Derived.Test.YtchlbkcladfloaaGuWInv
import Derived.Test.YtchlbkcladfloaaGuWGuard
import Derived.Test.YtchlbkcladfloaaGuWMore
import Derived.Test.YtchlbkcladfloaaPFnGuaranteesx1
import Derived.Test.YtchlbkcladfloaaPFnGuaranteesx2
import Derived.Test.YtchlbkcladfloaaPFnGuaranteesx3
import Derived.Test.YtchlbkcladfloaaPFnGuaranteesx4
import Derived.Test.YtchlbkcladfloaaPFnGuaranteesx5
import Derived.Test.YtchlbkcladfloaaPFnGuaranteesx6
import Derived.Test.YtchlbkcladfloaaPFnGuaranteesx7
import Derived.Test.YtchlbkcladfloaaPFnGuaranteesx8
import Derived.Test.YtchlbkcladfloaaPFnGuaranteesx9
import Derived.Test.YtchlbkcladfloaaPFnGuaranteesx10
import Derived.Test.YtchlbkcladfloaaPFnGuaranteesx11
import Derived.Test.YtchlbkcladfloaaPFnGuaranteesx12
import Derived.Test.YtchlbkcladfloaaPFnGuaranteesx13
import Derived.Test.YtchlbkcladfloaaPFnGuaranteesx14
import Derived.Test.YtchlbkcladfloaaPFnGuaranteesx15
import Derived.Test.YtchlbkcladfloaaPFnGuaranteesx16
import Derived.Test.YtchlbkcladfloaaPFnGuaranteesx17
namespace Go.Proofs.Ytchlbkcladfloaa.PFnGuarantees
open Go.RowKit Go.Proofs.YtchlbkcladfloaaW.PrintWords Go.Proofs.YtchlbkcladfloaaW.PrintLast Go.Proofs.YtchlbkcladfloaaW.PrintMore Go.Proofs.Ytchlbkcladfloaa.DG
attribute [local go_sem] max2_int min2_int max_two min_two max_three min_three max_four min_four
set_option linter.unusedVariables false
set_option linter.unusedSimpArgs false
set_option maxHeartbeats 4000000 in
set_option maxRecDepth 100000 in
theorem TGood_good (k : Nat) (A0 : Option Addr) (c0 : Nat) (l0 : List Int) (w : World) (hr0 : Kd.C (Kd.int .u8) w A0 l0.length l0) (hc0 : l0.length ≤ c0) (T ND PL PZ LT GT MR : List Int) (b0 b1 b2 b3 e1 fm e2 ct e3 e4 x0 x1 x2 x3 dr e5 y0 y1 y2 y3 e6 z0 z1 z2 z3 e7 bd : Int) (gd : Bool)
  (hbig : laws_big.f l0 = some false) (h1 : spec_DrawGuarantees.f k l0 = some (b0, b1, b2, b3, T)) (h2 : impl_Guarantees.f k b0 b1 b2 b3 T = some (gd, e1)) (h3 : spec_Guarantees.f k b0 b1 b2 b3 T = some (gd, e1)) (h4 : impl_FirstMissed.f k b0 b1 b2 b3 T = some (fm, e2)) (h5 : spec_FirstMissed.f k b0 b1 b2 b3 T = some (fm, e2)) (h6 : impl_CountMissed.f k b0 b1 b2 b3 T = some (ct, e3)) (h7 : spec_CountMissed.f k b0 b1 b2 b3 T = some (ct, e3)) (h8 : impl_NeededTickets.f k b0 b1 b2 b3 T = some (ND, e4)) (h9 : spec_NeededTickets.f k b0 b1 b2 b3 T = some (ND, e4)) (h10 : laws_likeInts.f k ND ND = some true) (h11 : spec_DrawPrizesOf.f k l0 = some (x0, x1, x2, x3, PL, dr)) (h12 : impl_PrizesOf.f k x0 x1 x2 x3 PL dr = some (PZ, e5)) (h13 : spec_PrizesOf.f k x0 x1 x2 x3 PL dr = some (PZ, e5)) (h14 : laws_likeInts.f k PZ PZ = some true) (h15 : spec_DrawLeastTickets.f k l0 = some (y0, y1, y2, y3)) (h16 : impl_LeastTickets.f k y0 y1 y2 y3 = some (LT, e6)) (h17 : spec_LeastTickets.f k y0 y1 y2 y3 = some (LT, e6)) (h18 : laws_likeInts.f k LT LT = some true) (h19 : spec_DrawGreedyTickets.f k l0 = some (z0, z1, z2, z3)) (h20 : impl_GreedyTickets.f k z0 z1 z2 z3 = some (GT, e7)) (h21 : spec_GreedyTickets.f k z0 z1 z2 z3 = some (GT, e7)) (h22 : laws_likeInts.f k GT GT = some true) (h23 : e7 = 0 → impl_Guarantees.f k z0 z1 z2 z3 GT = some (true, 0)) (h24 : e6 = 0 → impl_Guarantees.f k y0 y1 y2 y3 LT = some (true, 0) ∧ impl_TicketBound.f k y0 y1 y2 y3 = some (bd, 0) ∧ bd ≤ (LT.length : Int) ∧ impl_GreedyTickets.f k y0 y1 y2 y3 = some (MR, 0) ∧ LT.length ≤ MR.length) (h25 : e5 = 0 → laws_sum.f k PZ = some (PL.length : Int)) (h26 : e1 ≠ 0 → gd = false ∧ e3 = e1 ∧ e4 = e1) (h27 : e1 = 0 → ND.length ≤ 200 ∧ (∀ x ∈ ND, laws_hasInt.f k T x = some true) ∧ e3 = 0 ∧ (ct == 0) = gd ∧ (e2 == 4) = gd) :
  Calls Try.prog 6 #[.slice A0 l0.length c0] w fun e w' => e = .returned (.bool true) ∧ Below w.heap.size w w' := by
 have Hbig := zA hbig
 have H1 := zA h1
 have H2 := zA h2
 have H3 := zA h3
 have H4 := zA h4
 have H5 := zA h5
 have H6 := zA h6
 have H7 := zA h7
 have H8 := zA h8
 have H9 := zA h9
 have H10 := zA h10
 have H11 := zA h11
 have H12 := zA h12
 have H13 := zA h13
 have H14 := zA h14
 have H15 := zA h15
 have H16 := zA h16
 have H17 := zA h17
 have H18 := zA h18
 have H19 := zA h19
 have H20 := zA h20
 have H21 := zA h21
 have H22 := zA h22
 have H23 := zA h23
 have H24 := zA h24
 have H25 := zA h25
 have H26 := zA h26
 have H27 := zA h27
 have HR0 := zA hr0
 have HC0 := zA hc0
 clear hr0 hc0 hbig h1 h2 h3 h4 h5 h6 h7 h8 h9 h10 h11 h12 h13 h14 h15 h16 h17 h18 h19 h20 h21 h22 h23 h24 h25 h26 h27
 go_enter Try.func6, Try.ntmps6
 go_wp2_with fail
 refine (laws_big.calls A0 c0 l0 false w HR0.out HC0.out Hbig.out).mono ?_
 rintro e w1 ⟨rfl, hb1⟩
 replace hb1 := hb1.below
 have HB1 := zA (below_step (Below.refl _ _) hb1)
 clear hb1
 go_wp2_with fail
 refine (spec_DrawGuarantees.calls k A0 c0 l0 b0 b1 b2 b3 T w1 (Kd.C_below HR0.out HB1.out) HC0.out H1.out).mono ?_
 rintro e w2 ⟨vT, rfl, hR, hb2⟩
 have HB2 := zA (below_step HB1.out hb2)
 clear HB1
 clear hb2
 obtain ⟨AT, cT, rfl⟩ := Kd.R_slice hR
 have HLT := zA (Kd.R_reads' hR).2.1
 have HVT := zA (Kd.R_reads' hR).2.2
 clear hR
 go_wp2_with fail
 have hb3 := below_alloc (Below.refl w2.heap.size w2) (.cells #[.int .i64 b0, .int .i64 b1, .int .i64 b2, .int .i64 b3] 27)
 have BKb := zA (blk_new w2 (.cells #[.int .i64 b0, .int .i64 b1, .int .i64 b2, .int .i64 b3] 27))
 generalize w2.alloc (.cells #[.int .i64 b0, .int .i64 b1, .int .i64 b2, .int .i64 b3] 27) = w3 at hb3 BKb ⊢
 have HB3 := zA (below_step HB2.out hb3)
 replace HVT := zA (Kd.C_below HVT.out hb3)
 clear HB2
 clear hb3
 refine (impl_Guarantees.calls k b0 b1 b2 b3 AT cT T gd e1 w3 HVT.out HLT.out H2.out).mono ?_
 rintro e w4 ⟨rfl, hb4⟩
 have HB4 := zA (below_step HB3.out hb4)
 replace BKb := zA (blk_below BKb.out hb4)
 replace HVT := zA (Kd.C_below HVT.out hb4)
 clear HB3
 clear hb4
 have hcb0 : w4.cell? ⟨w2.heap.size, 0, none⟩ = some (.int .i64 b0) := (blk_cell BKb.out 0).trans rfl
 have hcb1 : w4.cell? ⟨w2.heap.size, 1, none⟩ = some (.int .i64 b1) := (blk_cell BKb.out 1).trans rfl
 have hcb2 : w4.cell? ⟨w2.heap.size, 2, none⟩ = some (.int .i64 b2) := (blk_cell BKb.out 2).trans rfl
 have hcb3 : w4.cell? ⟨w2.heap.size, 3, none⟩ = some (.int .i64 b3) := (blk_cell BKb.out 3).trans rfl
 go_wp2_with fail
 clear hcb0 hcb1 hcb2 hcb3
 refine (spec_Guarantees.calls k b0 b1 b2 b3 AT cT T gd e1 w4 HVT.out HLT.out H3.out).mono ?_
 rintro e w5 ⟨rfl, hb5⟩
 have HB5 := zA (below_step HB4.out hb5)
 replace BKb := zA (blk_below BKb.out hb5)
 replace HVT := zA (Kd.C_below HVT.out hb5)
 clear HB4
 clear hb5
 have hcb0 : w5.cell? ⟨w2.heap.size, 0, none⟩ = some (.int .i64 b0) := (blk_cell BKb.out 0).trans rfl
 have hcb1 : w5.cell? ⟨w2.heap.size, 1, none⟩ = some (.int .i64 b1) := (blk_cell BKb.out 1).trans rfl
 have hcb2 : w5.cell? ⟨w2.heap.size, 2, none⟩ = some (.int .i64 b2) := (blk_cell BKb.out 2).trans rfl
 have hcb3 : w5.cell? ⟨w2.heap.size, 3, none⟩ = some (.int .i64 b3) := (blk_cell BKb.out 3).trans rfl
 go_wp2_with fail
 clear hcb0 hcb1 hcb2 hcb3
 refine (impl_FirstMissed.calls k b0 b1 b2 b3 AT cT T fm e2 w5 HVT.out HLT.out H4.out).mono ?_
 rintro e w6 ⟨rfl, hb6⟩
 have HB6 := zA (below_step HB5.out hb6)
 replace BKb := zA (blk_below BKb.out hb6)
 replace HVT := zA (Kd.C_below HVT.out hb6)
 clear HB5
 clear hb6
 have hcb0 : w6.cell? ⟨w2.heap.size, 0, none⟩ = some (.int .i64 b0) := (blk_cell BKb.out 0).trans rfl
 have hcb1 : w6.cell? ⟨w2.heap.size, 1, none⟩ = some (.int .i64 b1) := (blk_cell BKb.out 1).trans rfl
 have hcb2 : w6.cell? ⟨w2.heap.size, 2, none⟩ = some (.int .i64 b2) := (blk_cell BKb.out 2).trans rfl
 have hcb3 : w6.cell? ⟨w2.heap.size, 3, none⟩ = some (.int .i64 b3) := (blk_cell BKb.out 3).trans rfl
 go_wp2_with fail
 clear hcb0 hcb1 hcb2 hcb3
 refine (spec_FirstMissed.calls k b0 b1 b2 b3 AT cT T fm e2 w6 HVT.out HLT.out H5.out).mono ?_
 rintro e w7 ⟨rfl, hb7⟩
 have HB7 := zA (below_step HB6.out hb7)
 replace BKb := zA (blk_below BKb.out hb7)
 replace HVT := zA (Kd.C_below HVT.out hb7)
 clear HB6
 clear hb7
 have hcb0 : w7.cell? ⟨w2.heap.size, 0, none⟩ = some (.int .i64 b0) := (blk_cell BKb.out 0).trans rfl
 have hcb1 : w7.cell? ⟨w2.heap.size, 1, none⟩ = some (.int .i64 b1) := (blk_cell BKb.out 1).trans rfl
 have hcb2 : w7.cell? ⟨w2.heap.size, 2, none⟩ = some (.int .i64 b2) := (blk_cell BKb.out 2).trans rfl
 have hcb3 : w7.cell? ⟨w2.heap.size, 3, none⟩ = some (.int .i64 b3) := (blk_cell BKb.out 3).trans rfl
 go_wp2_with fail
 clear hcb0 hcb1 hcb2 hcb3
 refine (impl_CountMissed.calls k b0 b1 b2 b3 AT cT T ct e3 w7 HVT.out HLT.out H6.out).mono ?_
 rintro e w8 ⟨rfl, hb8⟩
 have HB8 := zA (below_step HB7.out hb8)
 replace BKb := zA (blk_below BKb.out hb8)
 replace HVT := zA (Kd.C_below HVT.out hb8)
 clear HB7
 clear hb8
 have hcb0 : w8.cell? ⟨w2.heap.size, 0, none⟩ = some (.int .i64 b0) := (blk_cell BKb.out 0).trans rfl
 have hcb1 : w8.cell? ⟨w2.heap.size, 1, none⟩ = some (.int .i64 b1) := (blk_cell BKb.out 1).trans rfl
 have hcb2 : w8.cell? ⟨w2.heap.size, 2, none⟩ = some (.int .i64 b2) := (blk_cell BKb.out 2).trans rfl
 have hcb3 : w8.cell? ⟨w2.heap.size, 3, none⟩ = some (.int .i64 b3) := (blk_cell BKb.out 3).trans rfl
 go_wp2_with fail
 clear hcb0 hcb1 hcb2 hcb3
 refine (spec_CountMissed.calls k b0 b1 b2 b3 AT cT T ct e3 w8 HVT.out HLT.out H7.out).mono ?_
 rintro e w9 ⟨rfl, hb9⟩
 have HB9 := zA (below_step HB8.out hb9)
 replace BKb := zA (blk_below BKb.out hb9)
 replace HVT := zA (Kd.C_below HVT.out hb9)
 clear HB8
 clear hb9
 have hcb0 : w9.cell? ⟨w2.heap.size, 0, none⟩ = some (.int .i64 b0) := (blk_cell BKb.out 0).trans rfl
 have hcb1 : w9.cell? ⟨w2.heap.size, 1, none⟩ = some (.int .i64 b1) := (blk_cell BKb.out 1).trans rfl
 have hcb2 : w9.cell? ⟨w2.heap.size, 2, none⟩ = some (.int .i64 b2) := (blk_cell BKb.out 2).trans rfl
 have hcb3 : w9.cell? ⟨w2.heap.size, 3, none⟩ = some (.int .i64 b3) := (blk_cell BKb.out 3).trans rfl
 go_wp2_with fail
 clear hcb0 hcb1 hcb2 hcb3
 refine (impl_NeededTickets.calls k b0 b1 b2 b3 AT cT T ND e4 w9 HVT.out HLT.out H8.out).mono ?_
 rintro e w10 ⟨vN, rfl, hR, hb10⟩
 have HB10 := zA (below_step HB9.out hb10)
 replace BKb := zA (blk_below BKb.out hb10)
 replace HVT := zA (Kd.C_below HVT.out hb10)
 clear HB9
 clear hb10
 obtain ⟨AN, cN, rfl⟩ := Kd.R_slice hR
 have HLN := zA (Kd.R_reads' hR).2.1
 have HVN := zA (Kd.R_reads' hR).2.2
 clear hR
 have hcb0 : w10.cell? ⟨w2.heap.size, 0, none⟩ = some (.int .i64 b0) := (blk_cell BKb.out 0).trans rfl
 have hcb1 : w10.cell? ⟨w2.heap.size, 1, none⟩ = some (.int .i64 b1) := (blk_cell BKb.out 1).trans rfl
 have hcb2 : w10.cell? ⟨w2.heap.size, 2, none⟩ = some (.int .i64 b2) := (blk_cell BKb.out 2).trans rfl
 have hcb3 : w10.cell? ⟨w2.heap.size, 3, none⟩ = some (.int .i64 b3) := (blk_cell BKb.out 3).trans rfl
 go_wp2_with fail
 clear hcb0 hcb1 hcb2 hcb3
 refine (spec_NeededTickets.calls k b0 b1 b2 b3 AT cT T ND e4 w10 HVT.out HLT.out H9.out).mono ?_
 rintro e w11 ⟨vNb, rfl, hR, hb11⟩
 have HB11 := zA (below_step HB10.out hb11)
 replace BKb := zA (blk_below BKb.out hb11)
 replace HVT := zA (Kd.C_below HVT.out hb11)
 replace HVN := zA (Kd.C_below HVN.out hb11)
 clear HB10
 clear hb11
 obtain ⟨ANb, cNb, rfl⟩ := Kd.R_slice hR
 have HLNb := zA (Kd.R_reads' hR).2.1
 have HVNb := zA (Kd.R_reads' hR).2.2
 clear hR
 go_wp2_with fail
 refine (laws_likeInts.calls k AN cN ND ANb cNb ND true w11 HVN.out HLN.out HVNb.out HLNb.out H10.out).mono ?_
 rintro e w12 ⟨rfl, hb12⟩
 replace hb12 := hb12.below
 have HB12 := zA (below_step HB11.out hb12)
 replace BKb := zA (blk_below BKb.out hb12)
 replace HVT := zA (Kd.C_below HVT.out hb12)
 replace HVN := zA (Kd.C_below HVN.out hb12)
 replace HVNb := zA (Kd.C_below HVNb.out hb12)
 clear HB11
 clear hb12
 clear HVNb HLNb
 clear BKb
 go_wp2_with fail
 refine (spec_DrawPrizesOf.calls k A0 c0 l0 x0 x1 x2 x3 PL dr w12 (Kd.C_below HR0.out HB12.out) HC0.out H11.out).mono ?_
 rintro e w13 ⟨vP, rfl, hR, hb13⟩
 have HB13 := zA (below_step HB12.out hb13)
 replace HVT := zA (Kd.C_below HVT.out hb13)
 replace HVN := zA (Kd.C_below HVN.out hb13)
 clear HB12
 clear hb13
 obtain ⟨AP, cP, rfl⟩ := Kd.R_slice hR
 have HLP := zA (Kd.R_reads' hR).2.1
 have HVP := zA (Kd.R_reads' hR).2.2
 clear hR
 go_wp2_with fail
 have hb14 := below_alloc (Below.refl w13.heap.size w13) (.cells #[.int .i64 x0, .int .i64 x1, .int .i64 x2, .int .i64 x3] 27)
 have BKx := zA (blk_new w13 (.cells #[.int .i64 x0, .int .i64 x1, .int .i64 x2, .int .i64 x3] 27))
 generalize w13.alloc (.cells #[.int .i64 x0, .int .i64 x1, .int .i64 x2, .int .i64 x3] 27) = w14 at hb14 BKx ⊢
 have HB14 := zA (below_step HB13.out hb14)
 replace HVT := zA (Kd.C_below HVT.out hb14)
 replace HVN := zA (Kd.C_below HVN.out hb14)
 replace HVP := zA (Kd.C_below HVP.out hb14)
 clear HB13
 clear hb14
 refine (impl_PrizesOf.calls k x0 x1 x2 x3 AP cP PL dr PZ e5 w14 HVP.out HLP.out H12.out).mono ?_
 rintro e w15 ⟨vZ, rfl, hR, hb15⟩
 have HB15 := zA (below_step HB14.out hb15)
 replace BKx := zA (blk_below BKx.out hb15)
 replace HVT := zA (Kd.C_below HVT.out hb15)
 replace HVN := zA (Kd.C_below HVN.out hb15)
 replace HVP := zA (Kd.C_below HVP.out hb15)
 clear HB14
 clear hb15
 obtain ⟨AZ, cZ, rfl⟩ := Kd.R_slice hR
 have HLZ := zA (Kd.R_reads' hR).2.1
 have HVZ := zA (Kd.R_reads' hR).2.2
 clear hR
 have hcx0 : w15.cell? ⟨w13.heap.size, 0, none⟩ = some (.int .i64 x0) := (blk_cell BKx.out 0).trans rfl
 have hcx1 : w15.cell? ⟨w13.heap.size, 1, none⟩ = some (.int .i64 x1) := (blk_cell BKx.out 1).trans rfl
 have hcx2 : w15.cell? ⟨w13.heap.size, 2, none⟩ = some (.int .i64 x2) := (blk_cell BKx.out 2).trans rfl
 have hcx3 : w15.cell? ⟨w13.heap.size, 3, none⟩ = some (.int .i64 x3) := (blk_cell BKx.out 3).trans rfl
 go_wp2_with fail
 clear hcx0 hcx1 hcx2 hcx3
 refine (spec_PrizesOf.calls k x0 x1 x2 x3 AP cP PL dr PZ e5 w15 HVP.out HLP.out H13.out).mono ?_
 rintro e w16 ⟨vZb, rfl, hR, hb16⟩
 have HB16 := zA (below_step HB15.out hb16)
 replace BKx := zA (blk_below BKx.out hb16)
 replace HVT := zA (Kd.C_below HVT.out hb16)
 replace HVN := zA (Kd.C_below HVN.out hb16)
 replace HVP := zA (Kd.C_below HVP.out hb16)
 replace HVZ := zA (Kd.C_below HVZ.out hb16)
 clear HB15
 clear hb16
 obtain ⟨AZb, cZb, rfl⟩ := Kd.R_slice hR
 have HLZb := zA (Kd.R_reads' hR).2.1
 have HVZb := zA (Kd.R_reads' hR).2.2
 clear hR
 clear BKx
 go_wp2_with fail
 refine (laws_likeInts.calls k AZ cZ PZ AZb cZb PZ true w16 HVZ.out HLZ.out HVZb.out HLZb.out H14.out).mono ?_
 rintro e w17 ⟨rfl, hb17⟩
 replace hb17 := hb17.below
 have HB17 := zA (below_step HB16.out hb17)
 replace HVT := zA (Kd.C_below HVT.out hb17)
 replace HVN := zA (Kd.C_below HVN.out hb17)
 replace HVP := zA (Kd.C_below HVP.out hb17)
 replace HVZ := zA (Kd.C_below HVZ.out hb17)
 replace HVZb := zA (Kd.C_below HVZb.out hb17)
 clear HB16
 clear hb17
 clear HVZb HLZb
 go_wp2_with fail
 refine (spec_DrawLeastTickets.calls k A0 c0 l0 y0 y1 y2 y3 w17 (Kd.C_below HR0.out HB17.out) HC0.out H15.out).mono ?_
 rintro e w18 ⟨rfl, hb18⟩
 have HB18 := zA (below_step HB17.out hb18)
 replace HVT := zA (Kd.C_below HVT.out hb18)
 replace HVN := zA (Kd.C_below HVN.out hb18)
 replace HVP := zA (Kd.C_below HVP.out hb18)
 replace HVZ := zA (Kd.C_below HVZ.out hb18)
 clear HB17
 clear hb18
 go_wp2_with fail
 have hb19 := below_alloc (Below.refl w18.heap.size w18) (.cells #[.int .i64 y0, .int .i64 y1, .int .i64 y2, .int .i64 y3] 27)
 have BKy := zA (blk_new w18 (.cells #[.int .i64 y0, .int .i64 y1, .int .i64 y2, .int .i64 y3] 27))
 generalize w18.alloc (.cells #[.int .i64 y0, .int .i64 y1, .int .i64 y2, .int .i64 y3] 27) = w19 at hb19 BKy ⊢
 have HB19 := zA (below_step HB18.out hb19)
 replace HVT := zA (Kd.C_below HVT.out hb19)
 replace HVN := zA (Kd.C_below HVN.out hb19)
 replace HVP := zA (Kd.C_below HVP.out hb19)
 replace HVZ := zA (Kd.C_below HVZ.out hb19)
 clear HB18
 clear hb19
 refine (impl_LeastTickets.calls k y0 y1 y2 y3 LT e6 w19 H16.out).mono ?_
 rintro e w20 ⟨vL, rfl, hR, hb20⟩
 have HB20 := zA (below_step HB19.out hb20)
 replace BKy := zA (blk_below BKy.out hb20)
 replace HVT := zA (Kd.C_below HVT.out hb20)
 replace HVN := zA (Kd.C_below HVN.out hb20)
 replace HVP := zA (Kd.C_below HVP.out hb20)
 replace HVZ := zA (Kd.C_below HVZ.out hb20)
 clear HB19
 clear hb20
 obtain ⟨AL, cL, rfl⟩ := Kd.R_slice hR
 have HLL := zA (Kd.R_reads' hR).2.1
 have HVL := zA (Kd.R_reads' hR).2.2
 clear hR
 have hcy0 : w20.cell? ⟨w18.heap.size, 0, none⟩ = some (.int .i64 y0) := (blk_cell BKy.out 0).trans rfl
 have hcy1 : w20.cell? ⟨w18.heap.size, 1, none⟩ = some (.int .i64 y1) := (blk_cell BKy.out 1).trans rfl
 have hcy2 : w20.cell? ⟨w18.heap.size, 2, none⟩ = some (.int .i64 y2) := (blk_cell BKy.out 2).trans rfl
 have hcy3 : w20.cell? ⟨w18.heap.size, 3, none⟩ = some (.int .i64 y3) := (blk_cell BKy.out 3).trans rfl
 go_wp2_with fail
 clear hcy0 hcy1 hcy2 hcy3
 refine (spec_LeastTickets.calls k y0 y1 y2 y3 LT e6 w20 H17.out).mono ?_
 rintro e w21 ⟨vLb, rfl, hR, hb21⟩
 have HB21 := zA (below_step HB20.out hb21)
 replace BKy := zA (blk_below BKy.out hb21)
 replace HVT := zA (Kd.C_below HVT.out hb21)
 replace HVN := zA (Kd.C_below HVN.out hb21)
 replace HVP := zA (Kd.C_below HVP.out hb21)
 replace HVZ := zA (Kd.C_below HVZ.out hb21)
 replace HVL := zA (Kd.C_below HVL.out hb21)
 clear HB20
 clear hb21
 obtain ⟨ALb, cLb, rfl⟩ := Kd.R_slice hR
 have HLLb := zA (Kd.R_reads' hR).2.1
 have HVLb := zA (Kd.R_reads' hR).2.2
 clear hR
 go_wp2_with fail
 refine (laws_likeInts.calls k AL cL LT ALb cLb LT true w21 HVL.out HLL.out HVLb.out HLLb.out H18.out).mono ?_
 rintro e w22 ⟨rfl, hb22⟩
 replace hb22 := hb22.below
 have HB22 := zA (below_step HB21.out hb22)
 replace BKy := zA (blk_below BKy.out hb22)
 replace HVT := zA (Kd.C_below HVT.out hb22)
 replace HVN := zA (Kd.C_below HVN.out hb22)
 replace HVP := zA (Kd.C_below HVP.out hb22)
 replace HVZ := zA (Kd.C_below HVZ.out hb22)
 replace HVL := zA (Kd.C_below HVL.out hb22)
 replace HVLb := zA (Kd.C_below HVLb.out hb22)
 clear HB21
 clear hb22
 clear HVLb HLLb
 go_wp2_with fail
 refine (spec_DrawGreedyTickets.calls k A0 c0 l0 z0 z1 z2 z3 w22 (Kd.C_below HR0.out HB22.out) HC0.out H19.out).mono ?_
 rintro e w23 ⟨rfl, hb23⟩
 have HB23 := zA (below_step HB22.out hb23)
 replace BKy := zA (blk_below BKy.out hb23)
 replace HVT := zA (Kd.C_below HVT.out hb23)
 replace HVN := zA (Kd.C_below HVN.out hb23)
 replace HVP := zA (Kd.C_below HVP.out hb23)
 replace HVZ := zA (Kd.C_below HVZ.out hb23)
 replace HVL := zA (Kd.C_below HVL.out hb23)
 clear HB22
 clear hb23
 go_wp2_with fail
 have hb24 := below_alloc (Below.refl w23.heap.size w23) (.cells #[.int .i64 z0, .int .i64 z1, .int .i64 z2, .int .i64 z3] 27)
 have BKz := zA (blk_new w23 (.cells #[.int .i64 z0, .int .i64 z1, .int .i64 z2, .int .i64 z3] 27))
 generalize w23.alloc (.cells #[.int .i64 z0, .int .i64 z1, .int .i64 z2, .int .i64 z3] 27) = w24 at hb24 BKz ⊢
 have HB24 := zA (below_step HB23.out hb24)
 replace BKy := zA (blk_below BKy.out hb24)
 replace HVT := zA (Kd.C_below HVT.out hb24)
 replace HVN := zA (Kd.C_below HVN.out hb24)
 replace HVP := zA (Kd.C_below HVP.out hb24)
 replace HVZ := zA (Kd.C_below HVZ.out hb24)
 replace HVL := zA (Kd.C_below HVL.out hb24)
 clear HB23
 clear hb24
 refine (impl_GreedyTickets.calls k z0 z1 z2 z3 GT e7 w24 H20.out).mono ?_
 rintro e w25 ⟨vG, rfl, hR, hb25⟩
 have HB25 := zA (below_step HB24.out hb25)
 replace BKy := zA (blk_below BKy.out hb25)
 replace BKz := zA (blk_below BKz.out hb25)
 replace HVT := zA (Kd.C_below HVT.out hb25)
 replace HVN := zA (Kd.C_below HVN.out hb25)
 replace HVP := zA (Kd.C_below HVP.out hb25)
 replace HVZ := zA (Kd.C_below HVZ.out hb25)
 replace HVL := zA (Kd.C_below HVL.out hb25)
 clear HB24
 clear hb25
 obtain ⟨AG, cG, rfl⟩ := Kd.R_slice hR
 have HLG := zA (Kd.R_reads' hR).2.1
 have HVG := zA (Kd.R_reads' hR).2.2
 clear hR
 have hcz0 : w25.cell? ⟨w23.heap.size, 0, none⟩ = some (.int .i64 z0) := (blk_cell BKz.out 0).trans rfl
 have hcz1 : w25.cell? ⟨w23.heap.size, 1, none⟩ = some (.int .i64 z1) := (blk_cell BKz.out 1).trans rfl
 have hcz2 : w25.cell? ⟨w23.heap.size, 2, none⟩ = some (.int .i64 z2) := (blk_cell BKz.out 2).trans rfl
 have hcz3 : w25.cell? ⟨w23.heap.size, 3, none⟩ = some (.int .i64 z3) := (blk_cell BKz.out 3).trans rfl
 go_wp2_with fail
 clear hcz0 hcz1 hcz2 hcz3
 refine (spec_GreedyTickets.calls k z0 z1 z2 z3 GT e7 w25 H21.out).mono ?_
 rintro e w26 ⟨vGb, rfl, hR, hb26⟩
 have HB26 := zA (below_step HB25.out hb26)
 replace BKy := zA (blk_below BKy.out hb26)
 replace BKz := zA (blk_below BKz.out hb26)
 replace HVT := zA (Kd.C_below HVT.out hb26)
 replace HVN := zA (Kd.C_below HVN.out hb26)
 replace HVP := zA (Kd.C_below HVP.out hb26)
 replace HVZ := zA (Kd.C_below HVZ.out hb26)
 replace HVL := zA (Kd.C_below HVL.out hb26)
 replace HVG := zA (Kd.C_below HVG.out hb26)
 clear HB25
 clear hb26
 obtain ⟨AGb, cGb, rfl⟩ := Kd.R_slice hR
 have HLGb := zA (Kd.R_reads' hR).2.1
 have HVGb := zA (Kd.R_reads' hR).2.2
 clear hR
 go_wp2_with fail
 refine (laws_likeInts.calls k AG cG GT AGb cGb GT true w26 HVG.out HLG.out HVGb.out HLGb.out H22.out).mono ?_
 rintro e w27 ⟨rfl, hb27⟩
 replace hb27 := hb27.below
 have HB27 := zA (below_step HB26.out hb27)
 replace BKy := zA (blk_below BKy.out hb27)
 replace BKz := zA (blk_below BKz.out hb27)
 replace HVT := zA (Kd.C_below HVT.out hb27)
 replace HVN := zA (Kd.C_below HVN.out hb27)
 replace HVP := zA (Kd.C_below HVP.out hb27)
 replace HVZ := zA (Kd.C_below HVZ.out hb27)
 replace HVL := zA (Kd.C_below HVL.out hb27)
 replace HVG := zA (Kd.C_below HVG.out hb27)
 replace HVGb := zA (Kd.C_below HVGb.out hb27)
 clear HB26
 clear hb27
 clear HVGb HLGb
 by_cases c7 : e7 = 0
 ·subst c7
  have HA := zA (H23.out rfl)
  have hcz0 : w27.cell? ⟨w23.heap.size, 0, none⟩ = some (.int .i64 z0) := (blk_cell BKz.out 0).trans rfl
  have hcz1 : w27.cell? ⟨w23.heap.size, 1, none⟩ = some (.int .i64 z1) := (blk_cell BKz.out 1).trans rfl
  have hcz2 : w27.cell? ⟨w23.heap.size, 2, none⟩ = some (.int .i64 z2) := (blk_cell BKz.out 2).trans rfl
  have hcz3 : w27.cell? ⟨w23.heap.size, 3, none⟩ = some (.int .i64 z3) := (blk_cell BKz.out 3).trans rfl
  go_wp2_with fail
  clear hcz0 hcz1 hcz2 hcz3
  refine (impl_Guarantees.calls k z0 z1 z2 z3 AG cG GT true 0 w27 HVG.out HLG.out HA.out).mono ?_
  rintro e w28 ⟨rfl, hb28⟩
  have HB28 := zA (below_step HB27.out hb28)
  replace BKy := zA (blk_below BKy.out hb28)
  replace BKz := zA (blk_below BKz.out hb28)
  replace HVT := zA (Kd.C_below HVT.out hb28)
  replace HVN := zA (Kd.C_below HVN.out hb28)
  replace HVP := zA (Kd.C_below HVP.out hb28)
  replace HVZ := zA (Kd.C_below HVZ.out hb28)
  replace HVL := zA (Kd.C_below HVL.out hb28)
  replace HVG := zA (Kd.C_below HVG.out hb28)
  clear HB27
  clear hb28
  clear HVG HLG
  clear BKz
  by_cases c6 : e6 = 0
  ·subst c6
   obtain ⟨ka, kb, kc, kd, ke⟩ := H24.out rfl
   have HA := zA ka
   have HA2 := zA kb
   have HA3 := zA kd
   have dbd : decide ((LT.length : Int) < bd) = false := decide_eq_false (by omega)
   have dmr : decide ((MR.length : Int) < (LT.length : Int)) = false := decide_eq_false (by omega)
   have dmr2 : decide (MR.length < LT.length) = false := decide_eq_false (by omega)
   clear ka kb kc kd ke
   have hcy0 : w28.cell? ⟨w18.heap.size, 0, none⟩ = some (.int .i64 y0) := (blk_cell BKy.out 0).trans rfl
   have hcy1 : w28.cell? ⟨w18.heap.size, 1, none⟩ = some (.int .i64 y1) := (blk_cell BKy.out 1).trans rfl
   have hcy2 : w28.cell? ⟨w18.heap.size, 2, none⟩ = some (.int .i64 y2) := (blk_cell BKy.out 2).trans rfl
   have hcy3 : w28.cell? ⟨w18.heap.size, 3, none⟩ = some (.int .i64 y3) := (blk_cell BKy.out 3).trans rfl
   go_wp2_with fail
   clear hcy0 hcy1 hcy2 hcy3
   refine (impl_Guarantees.calls k y0 y1 y2 y3 AL cL LT true 0 w28 HVL.out HLL.out HA.out).mono ?_
   rintro e w29 ⟨rfl, hb29⟩
   have HB29 := zA (below_step HB28.out hb29)
   replace BKy := zA (blk_below BKy.out hb29)
   replace HVT := zA (Kd.C_below HVT.out hb29)
   replace HVN := zA (Kd.C_below HVN.out hb29)
   replace HVP := zA (Kd.C_below HVP.out hb29)
   replace HVZ := zA (Kd.C_below HVZ.out hb29)
   replace HVL := zA (Kd.C_below HVL.out hb29)
   clear HB28
   clear hb29
   have hcy0 : w29.cell? ⟨w18.heap.size, 0, none⟩ = some (.int .i64 y0) := (blk_cell BKy.out 0).trans rfl
   have hcy1 : w29.cell? ⟨w18.heap.size, 1, none⟩ = some (.int .i64 y1) := (blk_cell BKy.out 1).trans rfl
   have hcy2 : w29.cell? ⟨w18.heap.size, 2, none⟩ = some (.int .i64 y2) := (blk_cell BKy.out 2).trans rfl
   have hcy3 : w29.cell? ⟨w18.heap.size, 3, none⟩ = some (.int .i64 y3) := (blk_cell BKy.out 3).trans rfl
   go_wp2_with fail
   clear hcy0 hcy1 hcy2 hcy3
   refine (impl_TicketBound.calls k y0 y1 y2 y3 bd 0 w29 HA2.out).mono ?_
   rintro e w30 ⟨rfl, hb30⟩
   have HB30 := zA (below_step HB29.out hb30)
   replace BKy := zA (blk_below BKy.out hb30)
   replace HVT := zA (Kd.C_below HVT.out hb30)
   replace HVN := zA (Kd.C_below HVN.out hb30)
   replace HVP := zA (Kd.C_below HVP.out hb30)
   replace HVZ := zA (Kd.C_below HVZ.out hb30)
   replace HVL := zA (Kd.C_below HVL.out hb30)
   clear HB29
   clear hb30
   have hcy0 : w30.cell? ⟨w18.heap.size, 0, none⟩ = some (.int .i64 y0) := (blk_cell BKy.out 0).trans rfl
   have hcy1 : w30.cell? ⟨w18.heap.size, 1, none⟩ = some (.int .i64 y1) := (blk_cell BKy.out 1).trans rfl
   have hcy2 : w30.cell? ⟨w18.heap.size, 2, none⟩ = some (.int .i64 y2) := (blk_cell BKy.out 2).trans rfl
   have hcy3 : w30.cell? ⟨w18.heap.size, 3, none⟩ = some (.int .i64 y3) := (blk_cell BKy.out 3).trans rfl
   go_wp2_with fail
   clear hcy0 hcy1 hcy2 hcy3
   refine (impl_GreedyTickets.calls k y0 y1 y2 y3 MR 0 w30 HA3.out).mono ?_
   rintro e w31 ⟨vM, rfl, hR, hb31⟩
   have HB31 := zA (below_step HB30.out hb31)
   replace BKy := zA (blk_below BKy.out hb31)
   replace HVT := zA (Kd.C_below HVT.out hb31)
   replace HVN := zA (Kd.C_below HVN.out hb31)
   replace HVP := zA (Kd.C_below HVP.out hb31)
   replace HVZ := zA (Kd.C_below HVZ.out hb31)
   replace HVL := zA (Kd.C_below HVL.out hb31)
   clear HB30
   clear hb31
   obtain ⟨AM, cM, rfl⟩ := Kd.R_slice hR
   have HLM := zA (Kd.R_reads' hR).2.1
   have HVM := zA (Kd.R_reads' hR).2.2
   clear hR
   clear HVM HLM
   clear HVL HLL
   clear BKy
   by_cases c5 : e5 = 0
   ·subst c5
    have HA4 := zA (H25.out rfl)
    go_wp2_with fail
    refine (laws_sum.calls k AZ cZ PZ (PL.length : Int) w31 HVZ.out HLZ.out HA4.out).mono ?_
    rintro e w32 ⟨rfl, hb32⟩
    replace hb32 := hb32.below
    have HB32 := zA (below_step HB31.out hb32)
    replace HVT := zA (Kd.C_below HVT.out hb32)
    replace HVN := zA (Kd.C_below HVN.out hb32)
    replace HVP := zA (Kd.C_below HVP.out hb32)
    replace HVZ := zA (Kd.C_below HVZ.out hb32)
    clear HB31
    clear hb32
    clear HVZ HLZ
    clear HVP HLP
    by_cases c1 : e1 = 0
    ·subst c1
     obtain ⟨knd, ka, kb, kc, kd⟩ := H27.out rfl
     subst kb
     have HND := zA ka
     clear ka
     go_wp2
     go_loopg [46] ND.length (fun gg s46 wr => ∃ j : Nat, s46 = .int .i64 j ∧ j ≤ ND.length ∧ ND.length - j ≤ gg ∧ Aside0 (Below w32.heap.size w32 wr))
     case atStart => exact ⟨0, rfl, by omega, by omega, ⟨Below.refl _ _⟩⟩
     case round =>
      obtain ⟨j, rfl, hj, hgg, HBL⟩ := hrel
      by_cases hlt : j < ND.length
      ·have hlt1 : (j : Int) < (ND.length : Int) := by omega
       obtain ⟨ad, e, hcell⟩ := Kd.at_int (Kd.C_below HVN.out HBL.out) (j : Int) (by omega) hlt1
       subst e
       rw [Int.toNat_natCast] at hcell
       have HH := zA (laws_hasInt.calls k AT cT T (rd ND (j : Int)) true wr (Kd.C_below HVT.out HBL.out) HLT.out (HND.out _ (by simp [rd, List.getElem?_eq_getElem hlt])))
       go_wp2_with fail
       refine HH.out.mono ?_
       rintro e w99 ⟨rfl, hd⟩
       have HB99 := zA (below_step HBL.out hd.below)
       clear hd HH hcell
       go_wp2
       go_roundg (ND.length - (j + 1))
       case measure => omega
       case rel => exact ⟨j + 1, by go_num, by omega, by omega, HB99⟩
      ·obtain rfl : j = ND.length := by omega
       have hlt1 : ¬ (ND.length : Int) < (ND.length : Int) := by omega
       go_wp2
       go_ret
       exact ⟨rfl, below_step HB32.out HBL.out⟩
    ·have c1b0 : (e1 == 0) = false := beq_eq_false_iff_ne.mpr c1
     have c1b1 : (e1 != 0) = true := bne_iff_ne.mpr c1
     obtain ⟨ka, kb, kc⟩ := H26.out c1
     subst ka kb kc
     go_wp2
     go_ret
     exact ⟨rfl, HB32.out⟩
   ·have c5b0 : (e5 == 0) = false := beq_eq_false_iff_ne.mpr c5
    have c5b1 : (e5 != 0) = true := bne_iff_ne.mpr c5
    clear HVZ HLZ
    clear HVP HLP
    by_cases c1 : e1 = 0
    ·subst c1
     obtain ⟨knd, ka, kb, kc, kd⟩ := H27.out rfl
     subst kb
     have HND := zA ka
     clear ka
     go_wp2
     go_loopg [46] ND.length (fun gg s46 wr => ∃ j : Nat, s46 = .int .i64 j ∧ j ≤ ND.length ∧ ND.length - j ≤ gg ∧ Aside0 (Below w31.heap.size w31 wr))
     case atStart => exact ⟨0, rfl, by omega, by omega, ⟨Below.refl _ _⟩⟩
     case round =>
      obtain ⟨j, rfl, hj, hgg, HBL⟩ := hrel
      by_cases hlt : j < ND.length
      ·have hlt1 : (j : Int) < (ND.length : Int) := by omega
       obtain ⟨ad, e, hcell⟩ := Kd.at_int (Kd.C_below HVN.out HBL.out) (j : Int) (by omega) hlt1
       subst e
       rw [Int.toNat_natCast] at hcell
       have HH := zA (laws_hasInt.calls k AT cT T (rd ND (j : Int)) true wr (Kd.C_below HVT.out HBL.out) HLT.out (HND.out _ (by simp [rd, List.getElem?_eq_getElem hlt])))
       go_wp2_with fail
       refine HH.out.mono ?_
       rintro e w99 ⟨rfl, hd⟩
       have HB99 := zA (below_step HBL.out hd.below)
       clear hd HH hcell
       go_wp2
       go_roundg (ND.length - (j + 1))
       case measure => omega
       case rel => exact ⟨j + 1, by go_num, by omega, by omega, HB99⟩
      ·obtain rfl : j = ND.length := by omega
       have hlt1 : ¬ (ND.length : Int) < (ND.length : Int) := by omega
       go_wp2
       go_ret
       exact ⟨rfl, below_step HB31.out HBL.out⟩
    ·have c1b0 : (e1 == 0) = false := beq_eq_false_iff_ne.mpr c1
     have c1b1 : (e1 != 0) = true := bne_iff_ne.mpr c1
     obtain ⟨ka, kb, kc⟩ := H26.out c1
     subst ka kb kc
     go_wp2
     go_ret
     exact ⟨rfl, HB31.out⟩
  ·have c6b0 : (e6 == 0) = false := beq_eq_false_iff_ne.mpr c6
   have c6b1 : (e6 != 0) = true := bne_iff_ne.mpr c6
   clear HVL HLL
   clear BKy
   by_cases c5 : e5 = 0
   ·subst c5
    have HA4 := zA (H25.out rfl)
    go_wp2_with fail
    refine (laws_sum.calls k AZ cZ PZ (PL.length : Int) w28 HVZ.out HLZ.out HA4.out).mono ?_
    rintro e w29 ⟨rfl, hb29⟩
    replace hb29 := hb29.below
    have HB29 := zA (below_step HB28.out hb29)
    replace HVT := zA (Kd.C_below HVT.out hb29)
    replace HVN := zA (Kd.C_below HVN.out hb29)
    replace HVP := zA (Kd.C_below HVP.out hb29)
    replace HVZ := zA (Kd.C_below HVZ.out hb29)
    clear HB28
    clear hb29
    clear HVZ HLZ
    clear HVP HLP
    by_cases c1 : e1 = 0
    ·subst c1
     obtain ⟨knd, ka, kb, kc, kd⟩ := H27.out rfl
     subst kb
     have HND := zA ka
     clear ka
     go_wp2
     go_loopg [46] ND.length (fun gg s46 wr => ∃ j : Nat, s46 = .int .i64 j ∧ j ≤ ND.length ∧ ND.length - j ≤ gg ∧ Aside0 (Below w29.heap.size w29 wr))
     case atStart => exact ⟨0, rfl, by omega, by omega, ⟨Below.refl _ _⟩⟩
     case round =>
      obtain ⟨j, rfl, hj, hgg, HBL⟩ := hrel
      by_cases hlt : j < ND.length
      ·have hlt1 : (j : Int) < (ND.length : Int) := by omega
       obtain ⟨ad, e, hcell⟩ := Kd.at_int (Kd.C_below HVN.out HBL.out) (j : Int) (by omega) hlt1
       subst e
       rw [Int.toNat_natCast] at hcell
       have HH := zA (laws_hasInt.calls k AT cT T (rd ND (j : Int)) true wr (Kd.C_below HVT.out HBL.out) HLT.out (HND.out _ (by simp [rd, List.getElem?_eq_getElem hlt])))
       go_wp2_with fail
       refine HH.out.mono ?_
       rintro e w99 ⟨rfl, hd⟩
       have HB99 := zA (below_step HBL.out hd.below)
       clear hd HH hcell
       go_wp2
       go_roundg (ND.length - (j + 1))
       case measure => omega
       case rel => exact ⟨j + 1, by go_num, by omega, by omega, HB99⟩
      ·obtain rfl : j = ND.length := by omega
       have hlt1 : ¬ (ND.length : Int) < (ND.length : Int) := by omega
       go_wp2
       go_ret
       exact ⟨rfl, below_step HB29.out HBL.out⟩
    ·have c1b0 : (e1 == 0) = false := beq_eq_false_iff_ne.mpr c1
     have c1b1 : (e1 != 0) = true := bne_iff_ne.mpr c1
     obtain ⟨ka, kb, kc⟩ := H26.out c1
     subst ka kb kc
     go_wp2
     go_ret
     exact ⟨rfl, HB29.out⟩
   ·have c5b0 : (e5 == 0) = false := beq_eq_false_iff_ne.mpr c5
    have c5b1 : (e5 != 0) = true := bne_iff_ne.mpr c5
    clear HVZ HLZ
    clear HVP HLP
    by_cases c1 : e1 = 0
    ·subst c1
     obtain ⟨knd, ka, kb, kc, kd⟩ := H27.out rfl
     subst kb
     have HND := zA ka
     clear ka
     go_wp2
     go_loopg [46] ND.length (fun gg s46 wr => ∃ j : Nat, s46 = .int .i64 j ∧ j ≤ ND.length ∧ ND.length - j ≤ gg ∧ Aside0 (Below w28.heap.size w28 wr))
     case atStart => exact ⟨0, rfl, by omega, by omega, ⟨Below.refl _ _⟩⟩
     case round =>
      obtain ⟨j, rfl, hj, hgg, HBL⟩ := hrel
      by_cases hlt : j < ND.length
      ·have hlt1 : (j : Int) < (ND.length : Int) := by omega
       obtain ⟨ad, e, hcell⟩ := Kd.at_int (Kd.C_below HVN.out HBL.out) (j : Int) (by omega) hlt1
       subst e
       rw [Int.toNat_natCast] at hcell
       have HH := zA (laws_hasInt.calls k AT cT T (rd ND (j : Int)) true wr (Kd.C_below HVT.out HBL.out) HLT.out (HND.out _ (by simp [rd, List.getElem?_eq_getElem hlt])))
       go_wp2_with fail
       refine HH.out.mono ?_
       rintro e w99 ⟨rfl, hd⟩
       have HB99 := zA (below_step HBL.out hd.below)
       clear hd HH hcell
       go_wp2
       go_roundg (ND.length - (j + 1))
       case measure => omega
       case rel => exact ⟨j + 1, by go_num, by omega, by omega, HB99⟩
      ·obtain rfl : j = ND.length := by omega
       have hlt1 : ¬ (ND.length : Int) < (ND.length : Int) := by omega
       go_wp2
       go_ret
       exact ⟨rfl, below_step HB28.out HBL.out⟩
    ·have c1b0 : (e1 == 0) = false := beq_eq_false_iff_ne.mpr c1
     have c1b1 : (e1 != 0) = true := bne_iff_ne.mpr c1
     obtain ⟨ka, kb, kc⟩ := H26.out c1
     subst ka kb kc
     go_wp2
     go_ret
     exact ⟨rfl, HB28.out⟩
 ·have c7b0 : (e7 == 0) = false := beq_eq_false_iff_ne.mpr c7
  have c7b1 : (e7 != 0) = true := bne_iff_ne.mpr c7
  clear HVG HLG
  clear BKz
  by_cases c6 : e6 = 0
  ·subst c6
   obtain ⟨ka, kb, kc, kd, ke⟩ := H24.out rfl
   have HA := zA ka
   have HA2 := zA kb
   have HA3 := zA kd
   have dbd : decide ((LT.length : Int) < bd) = false := decide_eq_false (by omega)
   have dmr : decide ((MR.length : Int) < (LT.length : Int)) = false := decide_eq_false (by omega)
   have dmr2 : decide (MR.length < LT.length) = false := decide_eq_false (by omega)
   clear ka kb kc kd ke
   have hcy0 : w27.cell? ⟨w18.heap.size, 0, none⟩ = some (.int .i64 y0) := (blk_cell BKy.out 0).trans rfl
   have hcy1 : w27.cell? ⟨w18.heap.size, 1, none⟩ = some (.int .i64 y1) := (blk_cell BKy.out 1).trans rfl
   have hcy2 : w27.cell? ⟨w18.heap.size, 2, none⟩ = some (.int .i64 y2) := (blk_cell BKy.out 2).trans rfl
   have hcy3 : w27.cell? ⟨w18.heap.size, 3, none⟩ = some (.int .i64 y3) := (blk_cell BKy.out 3).trans rfl
   go_wp2_with fail
   clear hcy0 hcy1 hcy2 hcy3
   refine (impl_Guarantees.calls k y0 y1 y2 y3 AL cL LT true 0 w27 HVL.out HLL.out HA.out).mono ?_
   rintro e w28 ⟨rfl, hb28⟩
   have HB28 := zA (below_step HB27.out hb28)
   replace BKy := zA (blk_below BKy.out hb28)
   replace HVT := zA (Kd.C_below HVT.out hb28)
   replace HVN := zA (Kd.C_below HVN.out hb28)
   replace HVP := zA (Kd.C_below HVP.out hb28)
   replace HVZ := zA (Kd.C_below HVZ.out hb28)
   replace HVL := zA (Kd.C_below HVL.out hb28)
   clear HB27
   clear hb28
   have hcy0 : w28.cell? ⟨w18.heap.size, 0, none⟩ = some (.int .i64 y0) := (blk_cell BKy.out 0).trans rfl
   have hcy1 : w28.cell? ⟨w18.heap.size, 1, none⟩ = some (.int .i64 y1) := (blk_cell BKy.out 1).trans rfl
   have hcy2 : w28.cell? ⟨w18.heap.size, 2, none⟩ = some (.int .i64 y2) := (blk_cell BKy.out 2).trans rfl
   have hcy3 : w28.cell? ⟨w18.heap.size, 3, none⟩ = some (.int .i64 y3) := (blk_cell BKy.out 3).trans rfl
   go_wp2_with fail
   clear hcy0 hcy1 hcy2 hcy3
   refine (impl_TicketBound.calls k y0 y1 y2 y3 bd 0 w28 HA2.out).mono ?_
   rintro e w29 ⟨rfl, hb29⟩
   have HB29 := zA (below_step HB28.out hb29)
   replace BKy := zA (blk_below BKy.out hb29)
   replace HVT := zA (Kd.C_below HVT.out hb29)
   replace HVN := zA (Kd.C_below HVN.out hb29)
   replace HVP := zA (Kd.C_below HVP.out hb29)
   replace HVZ := zA (Kd.C_below HVZ.out hb29)
   replace HVL := zA (Kd.C_below HVL.out hb29)
   clear HB28
   clear hb29
   have hcy0 : w29.cell? ⟨w18.heap.size, 0, none⟩ = some (.int .i64 y0) := (blk_cell BKy.out 0).trans rfl
   have hcy1 : w29.cell? ⟨w18.heap.size, 1, none⟩ = some (.int .i64 y1) := (blk_cell BKy.out 1).trans rfl
   have hcy2 : w29.cell? ⟨w18.heap.size, 2, none⟩ = some (.int .i64 y2) := (blk_cell BKy.out 2).trans rfl
   have hcy3 : w29.cell? ⟨w18.heap.size, 3, none⟩ = some (.int .i64 y3) := (blk_cell BKy.out 3).trans rfl
   go_wp2_with fail
   clear hcy0 hcy1 hcy2 hcy3
   refine (impl_GreedyTickets.calls k y0 y1 y2 y3 MR 0 w29 HA3.out).mono ?_
   rintro e w30 ⟨vM, rfl, hR, hb30⟩
   have HB30 := zA (below_step HB29.out hb30)
   replace BKy := zA (blk_below BKy.out hb30)
   replace HVT := zA (Kd.C_below HVT.out hb30)
   replace HVN := zA (Kd.C_below HVN.out hb30)
   replace HVP := zA (Kd.C_below HVP.out hb30)
   replace HVZ := zA (Kd.C_below HVZ.out hb30)
   replace HVL := zA (Kd.C_below HVL.out hb30)
   clear HB29
   clear hb30
   obtain ⟨AM, cM, rfl⟩ := Kd.R_slice hR
   have HLM := zA (Kd.R_reads' hR).2.1
   have HVM := zA (Kd.R_reads' hR).2.2
   clear hR
   clear HVM HLM
   clear HVL HLL
   clear BKy
   by_cases c5 : e5 = 0
   ·subst c5
    have HA4 := zA (H25.out rfl)
    go_wp2_with fail
    refine (laws_sum.calls k AZ cZ PZ (PL.length : Int) w30 HVZ.out HLZ.out HA4.out).mono ?_
    rintro e w31 ⟨rfl, hb31⟩
    replace hb31 := hb31.below
    have HB31 := zA (below_step HB30.out hb31)
    replace HVT := zA (Kd.C_below HVT.out hb31)
    replace HVN := zA (Kd.C_below HVN.out hb31)
    replace HVP := zA (Kd.C_below HVP.out hb31)
    replace HVZ := zA (Kd.C_below HVZ.out hb31)
    clear HB30
    clear hb31
    clear HVZ HLZ
    clear HVP HLP
    by_cases c1 : e1 = 0
    ·subst c1
     obtain ⟨knd, ka, kb, kc, kd⟩ := H27.out rfl
     subst kb
     have HND := zA ka
     clear ka
     go_wp2
     go_loopg [46] ND.length (fun gg s46 wr => ∃ j : Nat, s46 = .int .i64 j ∧ j ≤ ND.length ∧ ND.length - j ≤ gg ∧ Aside0 (Below w31.heap.size w31 wr))
     case atStart => exact ⟨0, rfl, by omega, by omega, ⟨Below.refl _ _⟩⟩
     case round =>
      obtain ⟨j, rfl, hj, hgg, HBL⟩ := hrel
      by_cases hlt : j < ND.length
      ·have hlt1 : (j : Int) < (ND.length : Int) := by omega
       obtain ⟨ad, e, hcell⟩ := Kd.at_int (Kd.C_below HVN.out HBL.out) (j : Int) (by omega) hlt1
       subst e
       rw [Int.toNat_natCast] at hcell
       have HH := zA (laws_hasInt.calls k AT cT T (rd ND (j : Int)) true wr (Kd.C_below HVT.out HBL.out) HLT.out (HND.out _ (by simp [rd, List.getElem?_eq_getElem hlt])))
       go_wp2_with fail
       refine HH.out.mono ?_
       rintro e w99 ⟨rfl, hd⟩
       have HB99 := zA (below_step HBL.out hd.below)
       clear hd HH hcell
       go_wp2
       go_roundg (ND.length - (j + 1))
       case measure => omega
       case rel => exact ⟨j + 1, by go_num, by omega, by omega, HB99⟩
      ·obtain rfl : j = ND.length := by omega
       have hlt1 : ¬ (ND.length : Int) < (ND.length : Int) := by omega
       go_wp2
       go_ret
       exact ⟨rfl, below_step HB31.out HBL.out⟩
    ·have c1b0 : (e1 == 0) = false := beq_eq_false_iff_ne.mpr c1
     have c1b1 : (e1 != 0) = true := bne_iff_ne.mpr c1
     obtain ⟨ka, kb, kc⟩ := H26.out c1
     subst ka kb kc
     go_wp2
     go_ret
     exact ⟨rfl, HB31.out⟩
   ·have c5b0 : (e5 == 0) = false := beq_eq_false_iff_ne.mpr c5
    have c5b1 : (e5 != 0) = true := bne_iff_ne.mpr c5
    clear HVZ HLZ
    clear HVP HLP
    by_cases c1 : e1 = 0
    ·subst c1
     obtain ⟨knd, ka, kb, kc, kd⟩ := H27.out rfl
     subst kb
     have HND := zA ka
     clear ka
     go_wp2
     go_loopg [46] ND.length (fun gg s46 wr => ∃ j : Nat, s46 = .int .i64 j ∧ j ≤ ND.length ∧ ND.length - j ≤ gg ∧ Aside0 (Below w30.heap.size w30 wr))
     case atStart => exact ⟨0, rfl, by omega, by omega, ⟨Below.refl _ _⟩⟩
     case round =>
      obtain ⟨j, rfl, hj, hgg, HBL⟩ := hrel
      by_cases hlt : j < ND.length
      ·have hlt1 : (j : Int) < (ND.length : Int) := by omega
       obtain ⟨ad, e, hcell⟩ := Kd.at_int (Kd.C_below HVN.out HBL.out) (j : Int) (by omega) hlt1
       subst e
       rw [Int.toNat_natCast] at hcell
       have HH := zA (laws_hasInt.calls k AT cT T (rd ND (j : Int)) true wr (Kd.C_below HVT.out HBL.out) HLT.out (HND.out _ (by simp [rd, List.getElem?_eq_getElem hlt])))
       go_wp2_with fail
       refine HH.out.mono ?_
       rintro e w99 ⟨rfl, hd⟩
       have HB99 := zA (below_step HBL.out hd.below)
       clear hd HH hcell
       go_wp2
       go_roundg (ND.length - (j + 1))
       case measure => omega
       case rel => exact ⟨j + 1, by go_num, by omega, by omega, HB99⟩
      ·obtain rfl : j = ND.length := by omega
       have hlt1 : ¬ (ND.length : Int) < (ND.length : Int) := by omega
       go_wp2
       go_ret
       exact ⟨rfl, below_step HB30.out HBL.out⟩
    ·have c1b0 : (e1 == 0) = false := beq_eq_false_iff_ne.mpr c1
     have c1b1 : (e1 != 0) = true := bne_iff_ne.mpr c1
     obtain ⟨ka, kb, kc⟩ := H26.out c1
     subst ka kb kc
     go_wp2
     go_ret
     exact ⟨rfl, HB30.out⟩
  ·have c6b0 : (e6 == 0) = false := beq_eq_false_iff_ne.mpr c6
   have c6b1 : (e6 != 0) = true := bne_iff_ne.mpr c6
   clear HVL HLL
   clear BKy
   by_cases c5 : e5 = 0
   ·subst c5
    have HA4 := zA (H25.out rfl)
    go_wp2_with fail
    refine (laws_sum.calls k AZ cZ PZ (PL.length : Int) w27 HVZ.out HLZ.out HA4.out).mono ?_
    rintro e w28 ⟨rfl, hb28⟩
    replace hb28 := hb28.below
    have HB28 := zA (below_step HB27.out hb28)
    replace HVT := zA (Kd.C_below HVT.out hb28)
    replace HVN := zA (Kd.C_below HVN.out hb28)
    replace HVP := zA (Kd.C_below HVP.out hb28)
    replace HVZ := zA (Kd.C_below HVZ.out hb28)
    clear HB27
    clear hb28
    clear HVZ HLZ
    clear HVP HLP
    by_cases c1 : e1 = 0
    ·subst c1
     obtain ⟨knd, ka, kb, kc, kd⟩ := H27.out rfl
     subst kb
     have HND := zA ka
     clear ka
     go_wp2
     go_loopg [46] ND.length (fun gg s46 wr => ∃ j : Nat, s46 = .int .i64 j ∧ j ≤ ND.length ∧ ND.length - j ≤ gg ∧ Aside0 (Below w28.heap.size w28 wr))
     case atStart => exact ⟨0, rfl, by omega, by omega, ⟨Below.refl _ _⟩⟩
     case round =>
      obtain ⟨j, rfl, hj, hgg, HBL⟩ := hrel
      by_cases hlt : j < ND.length
      ·have hlt1 : (j : Int) < (ND.length : Int) := by omega
       obtain ⟨ad, e, hcell⟩ := Kd.at_int (Kd.C_below HVN.out HBL.out) (j : Int) (by omega) hlt1
       subst e
       rw [Int.toNat_natCast] at hcell
       have HH := zA (laws_hasInt.calls k AT cT T (rd ND (j : Int)) true wr (Kd.C_below HVT.out HBL.out) HLT.out (HND.out _ (by simp [rd, List.getElem?_eq_getElem hlt])))
       go_wp2_with fail
       refine HH.out.mono ?_
       rintro e w99 ⟨rfl, hd⟩
       have HB99 := zA (below_step HBL.out hd.below)
       clear hd HH hcell
       go_wp2
       go_roundg (ND.length - (j + 1))
       case measure => omega
       case rel => exact ⟨j + 1, by go_num, by omega, by omega, HB99⟩
      ·obtain rfl : j = ND.length := by omega
       have hlt1 : ¬ (ND.length : Int) < (ND.length : Int) := by omega
       go_wp2
       go_ret
       exact ⟨rfl, below_step HB28.out HBL.out⟩
    ·have c1b0 : (e1 == 0) = false := beq_eq_false_iff_ne.mpr c1
     have c1b1 : (e1 != 0) = true := bne_iff_ne.mpr c1
     obtain ⟨ka, kb, kc⟩ := H26.out c1
     subst ka kb kc
     go_wp2
     go_ret
     exact ⟨rfl, HB28.out⟩
   ·have c5b0 : (e5 == 0) = false := beq_eq_false_iff_ne.mpr c5
    have c5b1 : (e5 != 0) = true := bne_iff_ne.mpr c5
    clear HVZ HLZ
    clear HVP HLP
    by_cases c1 : e1 = 0
    ·subst c1
     obtain ⟨knd, ka, kb, kc, kd⟩ := H27.out rfl
     subst kb
     have HND := zA ka
     clear ka
     go_wp2
     go_loopg [46] ND.length (fun gg s46 wr => ∃ j : Nat, s46 = .int .i64 j ∧ j ≤ ND.length ∧ ND.length - j ≤ gg ∧ Aside0 (Below w27.heap.size w27 wr))
     case atStart => exact ⟨0, rfl, by omega, by omega, ⟨Below.refl _ _⟩⟩
     case round =>
      obtain ⟨j, rfl, hj, hgg, HBL⟩ := hrel
      by_cases hlt : j < ND.length
      ·have hlt1 : (j : Int) < (ND.length : Int) := by omega
       obtain ⟨ad, e, hcell⟩ := Kd.at_int (Kd.C_below HVN.out HBL.out) (j : Int) (by omega) hlt1
       subst e
       rw [Int.toNat_natCast] at hcell
       have HH := zA (laws_hasInt.calls k AT cT T (rd ND (j : Int)) true wr (Kd.C_below HVT.out HBL.out) HLT.out (HND.out _ (by simp [rd, List.getElem?_eq_getElem hlt])))
       go_wp2_with fail
       refine HH.out.mono ?_
       rintro e w99 ⟨rfl, hd⟩
       have HB99 := zA (below_step HBL.out hd.below)
       clear hd HH hcell
       go_wp2
       go_roundg (ND.length - (j + 1))
       case measure => omega
       case rel => exact ⟨j + 1, by go_num, by omega, by omega, HB99⟩
      ·obtain rfl : j = ND.length := by omega
       have hlt1 : ¬ (ND.length : Int) < (ND.length : Int) := by omega
       go_wp2
       go_ret
       exact ⟨rfl, below_step HB27.out HBL.out⟩
    ·have c1b0 : (e1 == 0) = false := beq_eq_false_iff_ne.mpr c1
     have c1b1 : (e1 != 0) = true := bne_iff_ne.mpr c1
     obtain ⟨ka, kb, kc⟩ := H26.out c1
     subst ka kb kc
     go_wp2
     go_ret
     exact ⟨rfl, HB27.out⟩
def TGood (k : Nat) (l0 : List Int) : Prop := laws_big.f l0 = some true ∨ ∃ (T ND PL PZ LT GT MR : List Int) (b0 b1 b2 b3 e1 fm e2 ct e3 e4 x0 x1 x2 x3 dr e5 y0 y1 y2 y3 e6 z0 z1 z2 z3 e7 bd : Int) (gd : Bool), (laws_big.f l0 = some false) ∧ (spec_DrawGuarantees.f k l0 = some (b0, b1, b2, b3, T)) ∧ (impl_Guarantees.f k b0 b1 b2 b3 T = some (gd, e1)) ∧ (spec_Guarantees.f k b0 b1 b2 b3 T = some (gd, e1)) ∧ (impl_FirstMissed.f k b0 b1 b2 b3 T = some (fm, e2)) ∧ (spec_FirstMissed.f k b0 b1 b2 b3 T = some (fm, e2)) ∧ (impl_CountMissed.f k b0 b1 b2 b3 T = some (ct, e3)) ∧ (spec_CountMissed.f k b0 b1 b2 b3 T = some (ct, e3)) ∧ (impl_NeededTickets.f k b0 b1 b2 b3 T = some (ND, e4)) ∧ (spec_NeededTickets.f k b0 b1 b2 b3 T = some (ND, e4)) ∧ (laws_likeInts.f k ND ND = some true) ∧ (spec_DrawPrizesOf.f k l0 = some (x0, x1, x2, x3, PL, dr)) ∧ (impl_PrizesOf.f k x0 x1 x2 x3 PL dr = some (PZ, e5)) ∧ (spec_PrizesOf.f k x0 x1 x2 x3 PL dr = some (PZ, e5)) ∧ (laws_likeInts.f k PZ PZ = some true) ∧ (spec_DrawLeastTickets.f k l0 = some (y0, y1, y2, y3)) ∧ (impl_LeastTickets.f k y0 y1 y2 y3 = some (LT, e6)) ∧ (spec_LeastTickets.f k y0 y1 y2 y3 = some (LT, e6)) ∧ (laws_likeInts.f k LT LT = some true) ∧ (spec_DrawGreedyTickets.f k l0 = some (z0, z1, z2, z3)) ∧ (impl_GreedyTickets.f k z0 z1 z2 z3 = some (GT, e7)) ∧ (spec_GreedyTickets.f k z0 z1 z2 z3 = some (GT, e7)) ∧ (laws_likeInts.f k GT GT = some true) ∧ (e7 = 0 → impl_Guarantees.f k z0 z1 z2 z3 GT = some (true, 0)) ∧ (e6 = 0 → impl_Guarantees.f k y0 y1 y2 y3 LT = some (true, 0) ∧ impl_TicketBound.f k y0 y1 y2 y3 = some (bd, 0) ∧ bd ≤ (LT.length : Int) ∧ impl_GreedyTickets.f k y0 y1 y2 y3 = some (MR, 0) ∧ LT.length ≤ MR.length) ∧ (e5 = 0 → laws_sum.f k PZ = some (PL.length : Int)) ∧ (e1 ≠ 0 → gd = false ∧ e3 = e1 ∧ e4 = e1) ∧ (e1 = 0 → ND.length ≤ 200 ∧ (∀ x ∈ ND, laws_hasInt.f k T x = some true) ∧ e3 = 0 ∧ (ct == 0) = gd ∧ (e2 == 4) = gd)
set_option maxHeartbeats 1000000 in
set_option maxRecDepth 100000 in
theorem TGood_big (k : Nat) (A0 : Option Addr) (c0 : Nat) (l0 : List Int) (w : World) (hr0 : Kd.C (Kd.int .u8) w A0 l0.length l0) (hc0 : l0.length ≤ c0) (h : laws_big.f l0 = some true) :
  Calls Try.prog 6 #[.slice A0 l0.length c0] w fun e w' => e = .returned (.bool true) ∧ Below w.heap.size w w' := by
 have H := zA (laws_big.calls A0 c0 l0 true w hr0 hc0 h)
 clear hr0 hc0 h
 go_enter Try.func6, Try.ntmps6
 go_wp2_with fail
 refine H.out.mono ?_
 rintro e w1 ⟨rfl, hb⟩
 have HB := zA hb.below
 clear hb
 go_wp2
 go_ret
 exact ⟨rfl, HB.out⟩
theorem laws_FnGuarantees.calls (k : Nat) (A0 : Option Addr) (c0 : Nat) (l0 : List Int) (w : World) (hr0 : Kd.C (Kd.int .u8) w A0 l0.length l0) (hc0 : l0.length ≤ c0) (h : TGood k l0) :
  Calls Try.prog 6 #[.slice A0 l0.length c0] w fun e w' => e = .returned (.bool true) ∧ Below w.heap.size w w' := by
 rcases h with h | ⟨T, ND, PL, PZ, LT, GT, MR, b0, b1, b2, b3, e1, fm, e2, ct, e3, e4, x0, x1, x2, x3, dr, e5, y0, y1, y2, y3, e6, z0, z1, z2, z3, e7, bd, gd, hbig, h1, h2, h3, h4, h5, h6, h7, h8, h9, h10, h11, h12, h13, h14, h15, h16, h17, h18, h19, h20, h21, h22, h23, h24, h25, h26, h27⟩
 ·exact TGood_big k A0 c0 l0 w hr0 hc0 h
 ·exact TGood_good k A0 c0 l0 w hr0 hc0 T ND PL PZ LT GT MR b0 b1 b2 b3 e1 fm e2 ct e3 e4 x0 x1 x2 x3 dr e5 y0 y1 y2 y3 e6 z0 z1 z2 z3 e7 bd gd hbig h1 h2 h3 h4 h5 h6 h7 h8 h9 h10 h11 h12 h13 h14 h15 h16 h17 h18 h19 h20 h21 h22 h23 h24 h25 h26 h27
end Go.Proofs.Ytchlbkcladfloaa.PFnGuarantees
