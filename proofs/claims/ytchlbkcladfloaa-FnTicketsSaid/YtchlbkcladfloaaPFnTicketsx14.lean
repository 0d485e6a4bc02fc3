-- WALKS, by a program and by hand
import Derived.Test.YtchlbkcladfloaaPFnTicketsx0
import Derived.Test.YtchlbkcladfloaaPFnTicketsx1
import Derived.Test.YtchlbkcladfloaaPFnTicketsx2
import Derived.Test.YtchlbkcladfloaaPFnTicketsx3
import Derived.Test.YtchlbkcladfloaaPFnTicketsx4
import Derived.Test.YtchlbkcladfloaaPFnTicketsx5
import Derived.Test.YtchlbkcladfloaaPFnTicketsx6
import Derived.Test.YtchlbkcladfloaaPFnTicketsx7
import Derived.Test.YtchlbkcladfloaaPFnTicketsx8
import Derived.Test.YtchlbkcladfloaaPFnTicketsx11
import Derived.Test.YtchlbkcladfloaaPFnTicketsx12
import Derived.Test.YtchlbkcladfloaaPFnTicketsx13
namespace Go.Proofs.Ytchlbkcladfloaa.PFnTickets
open Go.RowKit Go.Proofs.Ytchlbkcladfloaa.DG Go.Proofs.YtchlbkcladfloaaW.PrintWords Go.Proofs.YtchlbkcladfloaaW.PrintLast Go.Proofs.YtchlbkcladfloaaW.PrintMore
attribute [local go_sem] max2_int min2_int max_two min_two max_three min_three max_four min_four   -- for this text's walks alone
set_option linter.unusedVariables false
set_option linter.unusedSimpArgs false

/-! ### laws_FnTickets: function 5 -/
set_option maxHeartbeats 4000000 in
set_option maxRecDepth 100000 in
theorem TGood_good (k : Nat) (A0 : Option Addr) (c0 : Nat) (l0 : List Int) (w : World) (hr0 : Kd.C (Kd.int .u8) w A0 l0.length l0) (hc0 : l0.length ≤ c0) (L N : List Int) (b0 b1 b2 b3 t r e1 x0 x1 x2 x3 n m e2 y0 y1 y2 y3 o e3 z0 z1 z2 z3 s e4 al e5 dr e6 ht e7 bd e8 u0 u1 u2 u3 so dw cm e9 : Int) (ib : Bool)
    (hbig : laws_big.f l0 = some false) (h1 : spec_DrawRankOfTicket.f k l0 = some (b0, b1, b2, b3, t)) (h2 : impl_RankOfTicket.f k b0 b1 b2 b3 t = some (r, e1)) (h3 : spec_RankOfTicket.f k b0 b1 b2 b3 t = some (r, e1)) (h4 : spec_DrawTicketOfRank.f k l0 = some (x0, x1, x2, x3, n)) (h5 : impl_TicketOfRank.f k x0 x1 x2 x3 n = some (m, e2)) (h6 : spec_TicketOfRank.f k x0 x1 x2 x3 n = some (m, e2)) (h7 : spec_DrawTicketOf.f k l0 = some (y0, y1, y2, y3, L)) (h8 : impl_TicketOf.f k y0 y1 y2 y3 L = some (o, e3)) (h9 : spec_TicketOf.f k y0 y1 y2 y3 L = some (o, e3)) (h10 : spec_DrawNumbersOf.f k l0 = some (z0, z1, z2, z3, s)) (h11 : impl_NumbersOf.f k z0 z1 z2 z3 s = some (N, e4)) (h12 : spec_NumbersOf.f k z0 z1 z2 z3 s = some (N, e4)) (h13 : laws_likeInts.f k N N = some true) (h14 : impl_CountTickets.f k b0 b1 b2 b3 = some (al, e5)) (h15 : spec_CountTickets.f k b0 b1 b2 b3 = some (al, e5)) (h16 : impl_CountDraws.f k b0 b1 b2 b3 = some (dr, e6)) (h17 : spec_CountDraws.f k b0 b1 b2 b3 = some (dr, e6)) (h18 : impl_DrawsHit.f k b0 b1 b2 b3 = some (ht, e7)) (h19 : spec_DrawsHit.f k b0 b1 b2 b3 = some (ht, e7)) (h20 : impl_TicketBound.f k b0 b1 b2 b3 = some (bd, e8)) (h21 : spec_TicketBound.f k b0 b1 b2 b3 = some (bd, e8)) (h22 : impl_IsLottery.f b0 b1 b2 b3 = some ib) (h23 : spec_IsLottery.f b0 b1 b2 b3 = some ib) (h24 : spec_DrawCommonNumbers.f k l0 = some (u0, u1, u2, u3, so, dw)) (h25 : impl_CommonNumbers.f u0 u1 u2 u3 so dw = some (cm, e9)) (h26 : spec_CommonNumbers.f k u0 u1 u2 u3 so dw = some (cm, e9)) (h27 : e3 = 0 → impl_NumbersOf.f k y0 y1 y2 y3 o = some (L, 0) ∧ laws_likeInts.f k L L = some true) (h28 : e2 = 0 → impl_RankOfTicket.f k x0 x1 x2 x3 m = some (n, 0)) (h29 : e1 ≠ 0 → r = 0) (h30 : e1 = 0 → impl_TicketOfRank.f k b0 b1 b2 b3 r = some (t, 0) ∧ impl_CountMissed.f k b0 b1 b2 b3 [t] = some (wrap64 (dr - ht), 0) ∧ e5 = 0 ∧ r < al ∧ e6 = 0 ∧ e7 = 0 ∧ e8 = 0 ∧ 1 ≤ bd) :
    Calls Try.prog 5 #[.slice A0 l0.length c0] w fun e w' => e = .returned (.bool true) ∧ Below w.heap.size w w' := by
  have Hbig := Aside0.mk hbig
  have H1 := Aside0.mk h1
  have H2 := Aside0.mk h2
  have H3 := Aside0.mk h3
  have H4 := Aside0.mk h4
  have H5 := Aside0.mk h5
  have H6 := Aside0.mk h6
  have H7 := Aside0.mk h7
  have H8 := Aside0.mk h8
  have H9 := Aside0.mk h9
  have H10 := Aside0.mk h10
  have H11 := Aside0.mk h11
  have H12 := Aside0.mk h12
  have H13 := Aside0.mk h13
  have H14 := Aside0.mk h14
  have H15 := Aside0.mk h15
  have H16 := Aside0.mk h16
  have H17 := Aside0.mk h17
  have H18 := Aside0.mk h18
  have H19 := Aside0.mk h19
  have H20 := Aside0.mk h20
  have H21 := Aside0.mk h21
  have H22 := Aside0.mk h22
  have H23 := Aside0.mk h23
  have H24 := Aside0.mk h24
  have H25 := Aside0.mk h25
  have H26 := Aside0.mk h26
  have HR0 := Aside0.mk hr0
  have HC0 := Aside0.mk hc0
  have H27 := Aside0.mk h27
  have H28 := Aside0.mk h28
  have H29 := Aside0.mk h29
  have H30 := Aside0.mk h30
  clear hr0 hc0 hbig h1 h2 h3 h4 h5 h6 h7 h8 h9 h10 h11 h12 h13 h14 h15 h16 h17 h18 h19 h20 h21 h22 h23 h24 h25 h26 h27 h28 h29 h30
  go_enter Try.func5, Try.ntmps5
  go_wp2_with fail
  refine (laws_big.calls A0 c0 l0 false w HR0.out HC0.out Hbig.out).mono ?_
  rintro e w1 ⟨rfl, hb1⟩
  replace hb1 := hb1.below
  have HB1 := Aside0.mk (below_step (Below.refl _ _) hb1)
  clear hb1
  go_wp2_with fail
  refine (spec_DrawRankOfTicket.calls k A0 c0 l0 b0 b1 b2 b3 t w1 (Kd.C_below HR0.out HB1.out) HC0.out H1.out).mono ?_
  rintro e w2 ⟨rfl, hb2⟩
  have HB2 := Aside0.mk (below_step HB1.out hb2)
  clear HB1
  clear hb2
  go_wp2_with fail
  have hb3 := below_alloc (Below.refl w2.heap.size w2) (.cells #[.int .i64 b0, .int .i64 b1, .int .i64 b2, .int .i64 b3] 27)
  have BKb := Aside0.mk (blk_new w2 (.cells #[.int .i64 b0, .int .i64 b1, .int .i64 b2, .int .i64 b3] 27))
  generalize w2.alloc (.cells #[.int .i64 b0, .int .i64 b1, .int .i64 b2, .int .i64 b3] 27) = w3 at hb3 BKb ⊢
  have HB3 := Aside0.mk (below_step HB2.out hb3)
  clear HB2
  clear hb3
  refine (impl_RankOfTicket.calls k b0 b1 b2 b3 t r e1 w3 H2.out).mono ?_
  rintro e w4 ⟨rfl, hb4⟩
  have HB4 := Aside0.mk (below_step HB3.out hb4)
  replace BKb := Aside0.mk (blk_below BKb.out hb4)
  clear HB3
  clear hb4
  have hcb0 : w4.cell? ⟨w2.heap.size, 0, none⟩ = some (.int .i64 b0) := (blk_cell BKb.out 0).trans rfl
  have hcb1 : w4.cell? ⟨w2.heap.size, 1, none⟩ = some (.int .i64 b1) := (blk_cell BKb.out 1).trans rfl
  have hcb2 : w4.cell? ⟨w2.heap.size, 2, none⟩ = some (.int .i64 b2) := (blk_cell BKb.out 2).trans rfl
  have hcb3 : w4.cell? ⟨w2.heap.size, 3, none⟩ = some (.int .i64 b3) := (blk_cell BKb.out 3).trans rfl
  go_wp2_with fail
  clear hcb0 hcb1 hcb2 hcb3
  refine (spec_RankOfTicket.calls k b0 b1 b2 b3 t r e1 w4 H3.out).mono ?_
  rintro e w5 ⟨rfl, hb5⟩
  have HB5 := Aside0.mk (below_step HB4.out hb5)
  replace BKb := Aside0.mk (blk_below BKb.out hb5)
  clear HB4
  clear hb5
  go_wp2_with fail
  refine (spec_DrawTicketOfRank.calls k A0 c0 l0 x0 x1 x2 x3 n w5 (Kd.C_below HR0.out HB5.out) HC0.out H4.out).mono ?_
  rintro e w6 ⟨rfl, hb6⟩
  have HB6 := Aside0.mk (below_step HB5.out hb6)
  replace BKb := Aside0.mk (blk_below BKb.out hb6)
  clear HB5
  clear hb6
  go_wp2_with fail
  have hb7 := below_alloc (Below.refl w6.heap.size w6) (.cells #[.int .i64 x0, .int .i64 x1, .int .i64 x2, .int .i64 x3] 27)
  have BKx := Aside0.mk (blk_new w6 (.cells #[.int .i64 x0, .int .i64 x1, .int .i64 x2, .int .i64 x3] 27))
  generalize w6.alloc (.cells #[.int .i64 x0, .int .i64 x1, .int .i64 x2, .int .i64 x3] 27) = w7 at hb7 BKx ⊢
  have HB7 := Aside0.mk (below_step HB6.out hb7)
  replace BKb := Aside0.mk (blk_below BKb.out hb7)
  clear HB6
  clear hb7
  refine (impl_TicketOfRank.calls k x0 x1 x2 x3 n m e2 w7 H5.out).mono ?_
  rintro e w8 ⟨rfl, hb8⟩
  have HB8 := Aside0.mk (below_step HB7.out hb8)
  replace BKb := Aside0.mk (blk_below BKb.out hb8)
  replace BKx := Aside0.mk (blk_below BKx.out hb8)
  clear HB7
  clear hb8
  have hcx0 : w8.cell? ⟨w6.heap.size, 0, none⟩ = some (.int .i64 x0) := (blk_cell BKx.out 0).trans rfl
  have hcx1 : w8.cell? ⟨w6.heap.size, 1, none⟩ = some (.int .i64 x1) := (blk_cell BKx.out 1).trans rfl
  have hcx2 : w8.cell? ⟨w6.heap.size, 2, none⟩ = some (.int .i64 x2) := (blk_cell BKx.out 2).trans rfl
  have hcx3 : w8.cell? ⟨w6.heap.size, 3, none⟩ = some (.int .i64 x3) := (blk_cell BKx.out 3).trans rfl
  go_wp2_with fail
  clear hcx0 hcx1 hcx2 hcx3
  refine (spec_TicketOfRank.calls k x0 x1 x2 x3 n m e2 w8 H6.out).mono ?_
  rintro e w9 ⟨rfl, hb9⟩
  have HB9 := Aside0.mk (below_step HB8.out hb9)
  replace BKb := Aside0.mk (blk_below BKb.out hb9)
  replace BKx := Aside0.mk (blk_below BKx.out hb9)
  clear HB8
  clear hb9
  go_wp2_with fail
  refine (spec_DrawTicketOf.calls k A0 c0 l0 y0 y1 y2 y3 L w9 (Kd.C_below HR0.out HB9.out) HC0.out H7.out).mono ?_
  rintro e w10 ⟨vL, rfl, hR, hb10⟩
  have HB10 := Aside0.mk (below_step HB9.out hb10)
  replace BKb := Aside0.mk (blk_below BKb.out hb10)
  replace BKx := Aside0.mk (blk_below BKx.out hb10)
  clear HB9
  clear hb10
  obtain ⟨AL, cL, rfl, hlL, hCL⟩ := Kd.Q_reads hR
  have HLL := Aside0.mk hlL
  have HVL := Aside0.mk hCL
  clear hlL hCL hR
  go_wp2_with fail
  have hb11 := below_alloc (Below.refl w10.heap.size w10) (.cells #[.int .i64 y0, .int .i64 y1, .int .i64 y2, .int .i64 y3] 27)
  have BKy := Aside0.mk (blk_new w10 (.cells #[.int .i64 y0, .int .i64 y1, .int .i64 y2, .int .i64 y3] 27))
  generalize w10.alloc (.cells #[.int .i64 y0, .int .i64 y1, .int .i64 y2, .int .i64 y3] 27) = w11 at hb11 BKy ⊢
  have HB11 := Aside0.mk (below_step HB10.out hb11)
  replace BKb := Aside0.mk (blk_below BKb.out hb11)
  replace BKx := Aside0.mk (blk_below BKx.out hb11)
  replace HVL := Aside0.mk (Kd.C_below HVL.out hb11)
  clear HB10
  clear hb11
  refine (impl_TicketOf.calls k y0 y1 y2 y3 AL cL L o e3 w11 HVL.out HLL.out H8.out).mono ?_
  rintro e w12 ⟨rfl, hb12⟩
  have HB12 := Aside0.mk (below_step HB11.out hb12)
  replace BKb := Aside0.mk (blk_below BKb.out hb12)
  replace BKx := Aside0.mk (blk_below BKx.out hb12)
  replace BKy := Aside0.mk (blk_below BKy.out hb12)
  replace HVL := Aside0.mk (Kd.C_below HVL.out hb12)
  clear HB11
  clear hb12
  have hcy0 : w12.cell? ⟨w10.heap.size, 0, none⟩ = some (.int .i64 y0) := (blk_cell BKy.out 0).trans rfl
  have hcy1 : w12.cell? ⟨w10.heap.size, 1, none⟩ = some (.int .i64 y1) := (blk_cell BKy.out 1).trans rfl
  have hcy2 : w12.cell? ⟨w10.heap.size, 2, none⟩ = some (.int .i64 y2) := (blk_cell BKy.out 2).trans rfl
  have hcy3 : w12.cell? ⟨w10.heap.size, 3, none⟩ = some (.int .i64 y3) := (blk_cell BKy.out 3).trans rfl
  go_wp2_with fail
  clear hcy0 hcy1 hcy2 hcy3
  refine (spec_TicketOf.calls k y0 y1 y2 y3 AL cL L o e3 w12 HVL.out HLL.out H9.out).mono ?_
  rintro e w13 ⟨rfl, hb13⟩
  have HB13 := Aside0.mk (below_step HB12.out hb13)
  replace BKb := Aside0.mk (blk_below BKb.out hb13)
  replace BKx := Aside0.mk (blk_below BKx.out hb13)
  replace BKy := Aside0.mk (blk_below BKy.out hb13)
  replace HVL := Aside0.mk (Kd.C_below HVL.out hb13)
  clear HB12
  clear hb13
  go_wp2_with fail
  refine (spec_DrawNumbersOf.calls k A0 c0 l0 z0 z1 z2 z3 s w13 (Kd.C_below HR0.out HB13.out) HC0.out H10.out).mono ?_
  rintro e w14 ⟨rfl, hb14⟩
  have HB14 := Aside0.mk (below_step HB13.out hb14)
  replace BKb := Aside0.mk (blk_below BKb.out hb14)
  replace BKx := Aside0.mk (blk_below BKx.out hb14)
  replace BKy := Aside0.mk (blk_below BKy.out hb14)
  replace HVL := Aside0.mk (Kd.C_below HVL.out hb14)
  clear HB13
  clear hb14
  go_wp2_with fail
  have hb15 := below_alloc (Below.refl w14.heap.size w14) (.cells #[.int .i64 z0, .int .i64 z1, .int .i64 z2, .int .i64 z3] 27)
  have BKz := Aside0.mk (blk_new w14 (.cells #[.int .i64 z0, .int .i64 z1, .int .i64 z2, .int .i64 z3] 27))
  generalize w14.alloc (.cells #[.int .i64 z0, .int .i64 z1, .int .i64 z2, .int .i64 z3] 27) = w15 at hb15 BKz ⊢
  have HB15 := Aside0.mk (below_step HB14.out hb15)
  replace BKb := Aside0.mk (blk_below BKb.out hb15)
  replace BKx := Aside0.mk (blk_below BKx.out hb15)
  replace BKy := Aside0.mk (blk_below BKy.out hb15)
  replace HVL := Aside0.mk (Kd.C_below HVL.out hb15)
  clear HB14
  clear hb15
  refine (impl_NumbersOf.calls k z0 z1 z2 z3 s N e4 w15 H11.out).mono ?_
  rintro e w16 ⟨vN, rfl, hR, hb16⟩
  have HB16 := Aside0.mk (below_step HB15.out hb16)
  replace BKb := Aside0.mk (blk_below BKb.out hb16)
  replace BKx := Aside0.mk (blk_below BKx.out hb16)
  replace BKy := Aside0.mk (blk_below BKy.out hb16)
  replace BKz := Aside0.mk (blk_below BKz.out hb16)
  replace HVL := Aside0.mk (Kd.C_below HVL.out hb16)
  clear HB15
  clear hb16
  obtain ⟨AN, cN, rfl⟩ := Kd.R_slice hR
  have HLN := Aside0.mk (Kd.R_reads' hR).2.1
  have HVN := Aside0.mk (Kd.R_reads' hR).2.2
  clear hR
  have hcz0 : w16.cell? ⟨w14.heap.size, 0, none⟩ = some (.int .i64 z0) := (blk_cell BKz.out 0).trans rfl
  have hcz1 : w16.cell? ⟨w14.heap.size, 1, none⟩ = some (.int .i64 z1) := (blk_cell BKz.out 1).trans rfl
  have hcz2 : w16.cell? ⟨w14.heap.size, 2, none⟩ = some (.int .i64 z2) := (blk_cell BKz.out 2).trans rfl
  have hcz3 : w16.cell? ⟨w14.heap.size, 3, none⟩ = some (.int .i64 z3) := (blk_cell BKz.out 3).trans rfl
  go_wp2_with fail
  clear hcz0 hcz1 hcz2 hcz3
  refine (spec_NumbersOf.calls k z0 z1 z2 z3 s N e4 w16 H12.out).mono ?_
  rintro e w17 ⟨vM, rfl, hR, hb17⟩
  have HB17 := Aside0.mk (below_step HB16.out hb17)
  replace BKb := Aside0.mk (blk_below BKb.out hb17)
  replace BKx := Aside0.mk (blk_below BKx.out hb17)
  replace BKy := Aside0.mk (blk_below BKy.out hb17)
  replace BKz := Aside0.mk (blk_below BKz.out hb17)
  replace HVL := Aside0.mk (Kd.C_below HVL.out hb17)
  replace HVN := Aside0.mk (Kd.C_below HVN.out hb17)
  clear HB16
  clear hb17
  obtain ⟨AM, cM, rfl⟩ := Kd.R_slice hR
  have HLM := Aside0.mk (Kd.R_reads' hR).2.1
  have HVM := Aside0.mk (Kd.R_reads' hR).2.2
  clear hR
  go_wp2_with fail
  refine (laws_likeInts.calls k AN cN N AM cM N true w17 HVN.out HLN.out HVM.out HLM.out H13.out).mono ?_
  rintro e w18 ⟨rfl, hb18⟩
  replace hb18 := hb18.below
  have HB18 := Aside0.mk (below_step HB17.out hb18)
  replace BKb := Aside0.mk (blk_below BKb.out hb18)
  replace BKx := Aside0.mk (blk_below BKx.out hb18)
  replace BKy := Aside0.mk (blk_below BKy.out hb18)
  replace BKz := Aside0.mk (blk_below BKz.out hb18)
  replace HVL := Aside0.mk (Kd.C_below HVL.out hb18)
  replace HVN := Aside0.mk (Kd.C_below HVN.out hb18)
  replace HVM := Aside0.mk (Kd.C_below HVM.out hb18)
  clear HB17
  clear hb18
  clear HVN HLN
  clear HVM HLM
  have hcb0 : w18.cell? ⟨w2.heap.size, 0, none⟩ = some (.int .i64 b0) := (blk_cell BKb.out 0).trans rfl
  have hcb1 : w18.cell? ⟨w2.heap.size, 1, none⟩ = some (.int .i64 b1) := (blk_cell BKb.out 1).trans rfl
  have hcb2 : w18.cell? ⟨w2.heap.size, 2, none⟩ = some (.int .i64 b2) := (blk_cell BKb.out 2).trans rfl
  have hcb3 : w18.cell? ⟨w2.heap.size, 3, none⟩ = some (.int .i64 b3) := (blk_cell BKb.out 3).trans rfl
  go_wp2_with fail
  clear hcb0 hcb1 hcb2 hcb3
  refine (impl_CountTickets.calls k b0 b1 b2 b3 al e5 w18 H14.out).mono ?_
  rintro e w19 ⟨rfl, hb19⟩
  have HB19 := Aside0.mk (below_step HB18.out hb19)
  replace BKb := Aside0.mk (blk_below BKb.out hb19)
  replace BKx := Aside0.mk (blk_below BKx.out hb19)
  replace BKy := Aside0.mk (blk_below BKy.out hb19)
  replace BKz := Aside0.mk (blk_below BKz.out hb19)
  replace HVL := Aside0.mk (Kd.C_below HVL.out hb19)
  clear HB18
  clear hb19
  have hcb0 : w19.cell? ⟨w2.heap.size, 0, none⟩ = some (.int .i64 b0) := (blk_cell BKb.out 0).trans rfl
  have hcb1 : w19.cell? ⟨w2.heap.size, 1, none⟩ = some (.int .i64 b1) := (blk_cell BKb.out 1).trans rfl
  have hcb2 : w19.cell? ⟨w2.heap.size, 2, none⟩ = some (.int .i64 b2) := (blk_cell BKb.out 2).trans rfl
  have hcb3 : w19.cell? ⟨w2.heap.size, 3, none⟩ = some (.int .i64 b3) := (blk_cell BKb.out 3).trans rfl
  go_wp2_with fail
  clear hcb0 hcb1 hcb2 hcb3
  refine (spec_CountTickets.calls k b0 b1 b2 b3 al e5 w19 H15.out).mono ?_
  rintro e w20 ⟨rfl, hb20⟩
  have HB20 := Aside0.mk (below_step HB19.out hb20)
  replace BKb := Aside0.mk (blk_below BKb.out hb20)
  replace BKx := Aside0.mk (blk_below BKx.out hb20)
  replace BKy := Aside0.mk (blk_below BKy.out hb20)
  replace BKz := Aside0.mk (blk_below BKz.out hb20)
  replace HVL := Aside0.mk (Kd.C_below HVL.out hb20)
  clear HB19
  clear hb20
  have hcb0 : w20.cell? ⟨w2.heap.size, 0, none⟩ = some (.int .i64 b0) := (blk_cell BKb.out 0).trans rfl
  have hcb1 : w20.cell? ⟨w2.heap.size, 1, none⟩ = some (.int .i64 b1) := (blk_cell BKb.out 1).trans rfl
  have hcb2 : w20.cell? ⟨w2.heap.size, 2, none⟩ = some (.int .i64 b2) := (blk_cell BKb.out 2).trans rfl
  have hcb3 : w20.cell? ⟨w2.heap.size, 3, none⟩ = some (.int .i64 b3) := (blk_cell BKb.out 3).trans rfl
  go_wp2_with fail
  clear hcb0 hcb1 hcb2 hcb3
  refine (impl_CountDraws.calls k b0 b1 b2 b3 dr e6 w20 H16.out).mono ?_
  rintro e w21 ⟨rfl, hb21⟩
  have HB21 := Aside0.mk (below_step HB20.out hb21)
  replace BKb := Aside0.mk (blk_below BKb.out hb21)
  replace BKx := Aside0.mk (blk_below BKx.out hb21)
  replace BKy := Aside0.mk (blk_below BKy.out hb21)
  replace BKz := Aside0.mk (blk_below BKz.out hb21)
  replace HVL := Aside0.mk (Kd.C_below HVL.out hb21)
  clear HB20
  clear hb21
  have hcb0 : w21.cell? ⟨w2.heap.size, 0, none⟩ = some (.int .i64 b0) := (blk_cell BKb.out 0).trans rfl
  have hcb1 : w21.cell? ⟨w2.heap.size, 1, none⟩ = some (.int .i64 b1) := (blk_cell BKb.out 1).trans rfl
  have hcb2 : w21.cell? ⟨w2.heap.size, 2, none⟩ = some (.int .i64 b2) := (blk_cell BKb.out 2).trans rfl
  have hcb3 : w21.cell? ⟨w2.heap.size, 3, none⟩ = some (.int .i64 b3) := (blk_cell BKb.out 3).trans rfl
  go_wp2_with fail
  clear hcb0 hcb1 hcb2 hcb3
  refine (spec_CountDraws.calls k b0 b1 b2 b3 dr e6 w21 H17.out).mono ?_
  rintro e w22 ⟨rfl, hb22⟩
  have HB22 := Aside0.mk (below_step HB21.out hb22)
  replace BKb := Aside0.mk (blk_below BKb.out hb22)
  replace BKx := Aside0.mk (blk_below BKx.out hb22)
  replace BKy := Aside0.mk (blk_below BKy.out hb22)
  replace BKz := Aside0.mk (blk_below BKz.out hb22)
  replace HVL := Aside0.mk (Kd.C_below HVL.out hb22)
  clear HB21
  clear hb22
  have hcb0 : w22.cell? ⟨w2.heap.size, 0, none⟩ = some (.int .i64 b0) := (blk_cell BKb.out 0).trans rfl
  have hcb1 : w22.cell? ⟨w2.heap.size, 1, none⟩ = some (.int .i64 b1) := (blk_cell BKb.out 1).trans rfl
  have hcb2 : w22.cell? ⟨w2.heap.size, 2, none⟩ = some (.int .i64 b2) := (blk_cell BKb.out 2).trans rfl
  have hcb3 : w22.cell? ⟨w2.heap.size, 3, none⟩ = some (.int .i64 b3) := (blk_cell BKb.out 3).trans rfl
  go_wp2_with fail
  clear hcb0 hcb1 hcb2 hcb3
  refine (impl_DrawsHit.calls k b0 b1 b2 b3 ht e7 w22 H18.out).mono ?_
  rintro e w23 ⟨rfl, hb23⟩
  have HB23 := Aside0.mk (below_step HB22.out hb23)
  replace BKb := Aside0.mk (blk_below BKb.out hb23)
  replace BKx := Aside0.mk (blk_below BKx.out hb23)
  replace BKy := Aside0.mk (blk_below BKy.out hb23)
  replace BKz := Aside0.mk (blk_below BKz.out hb23)
  replace HVL := Aside0.mk (Kd.C_below HVL.out hb23)
  clear HB22
  clear hb23
  have hcb0 : w23.cell? ⟨w2.heap.size, 0, none⟩ = some (.int .i64 b0) := (blk_cell BKb.out 0).trans rfl
  have hcb1 : w23.cell? ⟨w2.heap.size, 1, none⟩ = some (.int .i64 b1) := (blk_cell BKb.out 1).trans rfl
  have hcb2 : w23.cell? ⟨w2.heap.size, 2, none⟩ = some (.int .i64 b2) := (blk_cell BKb.out 2).trans rfl
  have hcb3 : w23.cell? ⟨w2.heap.size, 3, none⟩ = some (.int .i64 b3) := (blk_cell BKb.out 3).trans rfl
  go_wp2_with fail
  clear hcb0 hcb1 hcb2 hcb3
  refine (spec_DrawsHit.calls k b0 b1 b2 b3 ht e7 w23 H19.out).mono ?_
  rintro e w24 ⟨rfl, hb24⟩
  have HB24 := Aside0.mk (below_step HB23.out hb24)
  replace BKb := Aside0.mk (blk_below BKb.out hb24)
  replace BKx := Aside0.mk (blk_below BKx.out hb24)
  replace BKy := Aside0.mk (blk_below BKy.out hb24)
  replace BKz := Aside0.mk (blk_below BKz.out hb24)
  replace HVL := Aside0.mk (Kd.C_below HVL.out hb24)
  clear HB23
  clear hb24
  have hcb0 : w24.cell? ⟨w2.heap.size, 0, none⟩ = some (.int .i64 b0) := (blk_cell BKb.out 0).trans rfl
  have hcb1 : w24.cell? ⟨w2.heap.size, 1, none⟩ = some (.int .i64 b1) := (blk_cell BKb.out 1).trans rfl
  have hcb2 : w24.cell? ⟨w2.heap.size, 2, none⟩ = some (.int .i64 b2) := (blk_cell BKb.out 2).trans rfl
  have hcb3 : w24.cell? ⟨w2.heap.size, 3, none⟩ = some (.int .i64 b3) := (blk_cell BKb.out 3).trans rfl
  go_wp2_with fail
  clear hcb0 hcb1 hcb2 hcb3
  refine (impl_TicketBound.calls k b0 b1 b2 b3 bd e8 w24 H20.out).mono ?_
  rintro e w25 ⟨rfl, hb25⟩
  have HB25 := Aside0.mk (below_step HB24.out hb25)
  replace BKb := Aside0.mk (blk_below BKb.out hb25)
  replace BKx := Aside0.mk (blk_below BKx.out hb25)
  replace BKy := Aside0.mk (blk_below BKy.out hb25)
  replace BKz := Aside0.mk (blk_below BKz.out hb25)
  replace HVL := Aside0.mk (Kd.C_below HVL.out hb25)
  clear HB24
  clear hb25
  have hcb0 : w25.cell? ⟨w2.heap.size, 0, none⟩ = some (.int .i64 b0) := (blk_cell BKb.out 0).trans rfl
  have hcb1 : w25.cell? ⟨w2.heap.size, 1, none⟩ = some (.int .i64 b1) := (blk_cell BKb.out 1).trans rfl
  have hcb2 : w25.cell? ⟨w2.heap.size, 2, none⟩ = some (.int .i64 b2) := (blk_cell BKb.out 2).trans rfl
  have hcb3 : w25.cell? ⟨w2.heap.size, 3, none⟩ = some (.int .i64 b3) := (blk_cell BKb.out 3).trans rfl
  go_wp2_with fail
  clear hcb0 hcb1 hcb2 hcb3
  refine (spec_TicketBound.calls k b0 b1 b2 b3 bd e8 w25 H21.out).mono ?_
  rintro e w26 ⟨rfl, hb26⟩
  have HB26 := Aside0.mk (below_step HB25.out hb26)
  replace BKb := Aside0.mk (blk_below BKb.out hb26)
  replace BKx := Aside0.mk (blk_below BKx.out hb26)
  replace BKy := Aside0.mk (blk_below BKy.out hb26)
  replace BKz := Aside0.mk (blk_below BKz.out hb26)
  replace HVL := Aside0.mk (Kd.C_below HVL.out hb26)
  clear HB25
  clear hb26
  have hcb0 : w26.cell? ⟨w2.heap.size, 0, none⟩ = some (.int .i64 b0) := (blk_cell BKb.out 0).trans rfl
  have hcb1 : w26.cell? ⟨w2.heap.size, 1, none⟩ = some (.int .i64 b1) := (blk_cell BKb.out 1).trans rfl
  have hcb2 : w26.cell? ⟨w2.heap.size, 2, none⟩ = some (.int .i64 b2) := (blk_cell BKb.out 2).trans rfl
  have hcb3 : w26.cell? ⟨w2.heap.size, 3, none⟩ = some (.int .i64 b3) := (blk_cell BKb.out 3).trans rfl
  go_wp2_with fail
  clear hcb0 hcb1 hcb2 hcb3
  refine start_ (n := 15) (S := fun w' => w'.cell? ⟨w2.heap.size, 0, none⟩ = some (.int .i64 b0) ∧ w'.cell? ⟨w2.heap.size, 1, none⟩ = some (.int .i64 b1) ∧ w'.cell? ⟨w2.heap.size, 2, none⟩ = some (.int .i64 b2) ∧ w'.cell? ⟨w2.heap.size, 3, none⟩ = some (.int .i64 b3)) (ds := []) #[false, false, false, false, false, false, false, false, false, false, false, false, false, false, false] (by kernel_rfl) rfl rfl ⟨(blk_cell BKb.out 0).trans rfl, (blk_cell BKb.out 1).trans rfl, (blk_cell BKb.out 2).trans rfl, (blk_cell BKb.out 3).trans rfl⟩ (fun hHeld => ?_)
  have hbd := below_drew (Below.refl w26.heap.size w26)
  generalize w26.drew = w27 at hbd hHeld ⊢
  have HB27 := Aside0.mk (below_step HB26.out hbd)
  replace BKb := Aside0.mk (blk_below BKb.out hbd)
  replace BKx := Aside0.mk (blk_below BKx.out hbd)
  replace BKy := Aside0.mk (blk_below BKy.out hbd)
  replace BKz := Aside0.mk (blk_below BKz.out hbd)
  replace HVL := Aside0.mk (Kd.C_below HVL.out hbd)
  clear HB26
  clear hbd
  refine pure_ (i := 0) (N := some 225) (v := ?_) (a' := ?_) #[true, false, false, false, false, false, false, false, false, false, false, false, false, false, false] rfl rfl (by kernel_rfl) (fun _ _ _ h => h) (Or.inl ⟨by rfl, ?_⟩) ?_ ?_
  rotate_left
  · intro w'
    go_simp
    with_reducible rfl
  rotate_left
  · simp only [Act.put, List.setIfInBounds_toArray, List.set_cons_zero, List.set_cons_succ, i64_w, i32_w]
    rfl
  refine pure_ (i := 1) (N := some 226) (v := ?_) (a' := ?_) #[true, true, false, false, false, false, false, false, false, false, false, false, false, false, false] rfl rfl (by kernel_rfl) (fun _ _ _ h => h) (Or.inl ⟨by rfl, ?_⟩) ?_ ?_
  rotate_left
  · intro w'
    go_simp
    with_reducible rfl
  rotate_left
  · simp only [Act.put, List.setIfInBounds_toArray, List.set_cons_zero, List.set_cons_succ, i64_w, i32_w]
    rfl
  refine pure_ (i := 2) (N := some 227) (v := ?_) (a' := ?_) #[true, true, true, false, false, false, false, false, false, false, false, false, false, false, false] rfl rfl (by kernel_rfl) (fun _ _ _ h => h) (Or.inl ⟨by rfl, ?_⟩) ?_ ?_
  rotate_left
  · intro w'
    go_simp
    with_reducible rfl
  rotate_left
  · simp only [Act.put, List.setIfInBounds_toArray, List.set_cons_zero, List.set_cons_succ, i64_w, i32_w]
    rfl
  refine pure_ (i := 3) (N := some 228) (v := ?_) (a' := ?_) #[true, true, true, true, false, false, false, false, false, false, false, false, false, false, false] rfl rfl (by kernel_rfl) (fun _ _ _ h => h) (Or.inl ⟨by rfl, ?_⟩) ?_ ?_
  rotate_left
  · intro w'
    go_simp
    with_reducible rfl
  rotate_left
  · simp only [Act.put, List.setIfInBounds_toArray, List.set_cons_zero, List.set_cons_succ, i64_w, i32_w]
    rfl
  refine pure_ (i := 4) (N := some 229) (v := ?_) (a' := ?_) #[true, true, true, true, true, false, false, false, false, false, false, false, false, false, false] rfl rfl (by kernel_rfl) (fun _ _ _ h => h) (Or.inl ⟨by rfl, ?_⟩) ?_ ?_
  rotate_left
  · intro w'
    go_simp
    with_reducible rfl
  rotate_left
  · simp only [Act.put, List.setIfInBounds_toArray, List.set_cons_zero, List.set_cons_succ, i64_w, i32_w]
    rfl
  refine pure_ (i := 5) (N := some 230) (v := ?_) (a' := ?_) #[true, true, true, true, true, true, false, false, false, false, false, false, false, false, false] rfl rfl (by kernel_rfl) (fun _ _ _ h => h) (Or.inl ⟨by rfl, ?_⟩) ?_ ?_
  rotate_left
  · intro w'
    go_simp
    with_reducible rfl
  rotate_left
  · simp only [Act.put, List.setIfInBounds_toArray, List.set_cons_zero, List.set_cons_succ, i64_w, i32_w]
    rfl
  refine pure_ (i := 6) (N := some 231) (v := ?_) (a' := ?_) #[true, true, true, true, true, true, true, false, false, false, false, false, false, false, false] rfl rfl (by kernel_rfl) (fun _ _ _ h => h) (Or.inl ⟨by rfl, ?_⟩) ?_ ?_
  rotate_left
  · intro w'
    go_simp
    with_reducible rfl
  rotate_left
  · simp only [Act.put, List.setIfInBounds_toArray, List.set_cons_zero, List.set_cons_succ, i64_w, i32_w]
    rfl
  refine pure_ (i := 7) (N := some 232) (v := ?_) (a' := ?_) #[true, true, true, true, true, true, true, true, false, false, false, false, false, false, false] rfl rfl (by kernel_rfl) (fun _ _ _ h => h) (Or.inl ⟨by rfl, ?_⟩) ?_ ?_
  rotate_left
  · intro w'
    go_simp
    with_reducible rfl
  rotate_left
  · simp only [Act.put, List.setIfInBounds_toArray, List.set_cons_zero, List.set_cons_succ, i64_w, i32_w]
    rfl
  refine pure_ (i := 8) (N := some 233) (v := ?_) (a' := ?_) #[true, true, true, true, true, true, true, true, true, false, false, false, false, false, false] rfl rfl (by kernel_rfl) (fun _ _ _ h => h) (Or.inl ⟨by rfl, ?_⟩) ?_ ?_
  rotate_left
  · intro w'
    go_simp
    with_reducible rfl
  rotate_left
  · simp only [Act.put, List.setIfInBounds_toArray, List.set_cons_zero, List.set_cons_succ, i64_w, i32_w]
    rfl
  refine take_ (i := 9) (N := some 234) (v := ?_) (a' := ?_) #[true, true, true, true, true, true, true, true, true, true, false, false, false, false, false] rfl rfl (by kernel_rfl) (fun _ _ _ h => h) (Or.inl ⟨by rfl, ?_⟩) hHeld ?_ ?_
  rotate_left
  · rintro w' ⟨s0, s1, s2, s3⟩
    go_simp
    with_reducible rfl
  rotate_left
  · simp only [Act.put, List.setIfInBounds_toArray, List.set_cons_zero, List.set_cons_succ, i64_w, i32_w]
    rfl
  refine take_ (i := 11) (N := some 236) (v := ?_) (a' := ?_) #[true, true, true, true, true, true, true, true, true, true, false, true, false, false, false] rfl rfl (by kernel_rfl) (fun _ _ _ h => h) (Or.inl ⟨by rfl, ?_⟩) hHeld ?_ ?_
  rotate_left
  · rintro w' ⟨s0, s1, s2, s3⟩
    go_simp
    with_reducible rfl
  rotate_left
  · simp only [Act.put, List.setIfInBounds_toArray, List.set_cons_zero, List.set_cons_succ, i64_w, i32_w]
    rfl
  refine one_ (i := 10) (N := some 235) #[true, true, true, true, true, true, true, true, true, true, true, true, false, false, false] rfl rfl (by kernel_rfl) (by decide) (fun K hK => ?_)
  refine goes_ Try.func37 (by kernel_rfl) rfl #[.agg #[.int .i64 b0, .int .i64 b1, .int .i64 b2, .int .i64 b3]] (by rfl) rfl rfl (by (try simp only [List.map_toArray, List.map_cons, List.map_nil]); first | done | rfl) ?_
  refine (impl_IsLottery.calls b0 b1 b2 b3 ib _ H22.out).mono ?_
  rintro e w28 ⟨rfl, hb_⟩
  refine ⟨_, rfl, ?_⟩
  have HB28 := Aside0.mk (below_step HB27.out hb_)
  replace BKb := Aside0.mk (blk_below BKb.out hb_)
  replace BKx := Aside0.mk (blk_below BKx.out hb_)
  replace BKy := Aside0.mk (blk_below BKy.out hb_)
  replace BKz := Aside0.mk (blk_below BKz.out hb_)
  replace HVL := Aside0.mk (Kd.C_below HVL.out hb_)
  clear HB27
  clear hb_
  refine hK.out _ _ ⟨(blk_cell BKb.out 0).trans rfl, (blk_cell BKb.out 1).trans rfl, (blk_cell BKb.out 2).trans rfl, (blk_cell BKb.out 3).trans rfl⟩ (fun hHeld => ?_)
  clear hK K
  refine norm_ (a' := ?_) ?_ ?_
  rotate_left
  · show Act.put _ (some 235) _ = _
    simp only [Act.put, List.setIfInBounds_toArray, List.set_cons_zero, List.set_cons_succ, i64_w, i32_w]
    rfl
  refine one_ (i := 12) (N := some 237) #[true, true, true, true, true, true, true, true, true, true, true, true, true, false, false] rfl rfl (by kernel_rfl) (by decide) (fun K hK => ?_)
  refine goes_ Try.func38 (by kernel_rfl) rfl #[.agg #[.int .i64 b0, .int .i64 b1, .int .i64 b2, .int .i64 b3]] (by rfl) rfl rfl (by (try simp only [List.map_toArray, List.map_cons, List.map_nil]); first | done | rfl) ?_
  refine (spec_IsLottery.calls b0 b1 b2 b3 ib _ H23.out).mono ?_
  rintro e w29 ⟨rfl, hb_⟩
  refine ⟨_, rfl, ?_⟩
  have HB29 := Aside0.mk (below_step HB28.out hb_)
  replace BKb := Aside0.mk (blk_below BKb.out hb_)
  replace BKx := Aside0.mk (blk_below BKx.out hb_)
  replace BKy := Aside0.mk (blk_below BKy.out hb_)
  replace BKz := Aside0.mk (blk_below BKz.out hb_)
  replace HVL := Aside0.mk (Kd.C_below HVL.out hb_)
  clear HB28
  clear hb_
  refine hK.out _ _ ⟨(blk_cell BKb.out 0).trans rfl, (blk_cell BKb.out 1).trans rfl, (blk_cell BKb.out 2).trans rfl, (blk_cell BKb.out 3).trans rfl⟩ (fun hHeld => ?_)
  clear hK K
  refine norm_ (a' := ?_) ?_ ?_
  rotate_left
  · show Act.put _ (some 237) _ = _
    simp only [Act.put, List.setIfInBounds_toArray, List.set_cons_zero, List.set_cons_succ, i64_w, i32_w]
    rfl
  refine pure_ (i := 13) (N := some 238) (v := ?_) (a' := ?_) #[true, true, true, true, true, true, true, true, true, true, true, true, true, true, false] rfl rfl (by kernel_rfl) (fun _ _ _ h => h) (Or.inl ⟨by rfl, ?_⟩) ?_ ?_
  rotate_left
  · intro w'
    go_simp
    with_reducible rfl
  rotate_left
  · simp only [Act.put, List.setIfInBounds_toArray, List.set_cons_zero, List.set_cons_succ, i64_w, i32_w]
    rfl
  refine pure_ (i := 14) (N := some 239) (v := ?_) (a' := ?_) #[true, true, true, true, true, true, true, true, true, true, true, true, true, true, true] rfl rfl (by kernel_rfl) (fun _ _ _ h => h) (Or.inl ⟨by rfl, ?_⟩) ?_ ?_
  rotate_left
  · intro w'
    go_simp
    with_reducible rfl
  rotate_left
  · simp only [Act.put, List.setIfInBounds_toArray, List.set_cons_zero, List.set_cons_succ, i64_w, i32_w]
    rfl
  refine done_ (by kernel_rfl) ?_
  go_wp2_with fail
  refine (spec_DrawCommonNumbers.calls k A0 c0 l0 u0 u1 u2 u3 so dw w29 (Kd.C_below HR0.out HB29.out) HC0.out H24.out).mono ?_
  rintro e w30 ⟨rfl, hb30⟩
  have HB30 := Aside0.mk (below_step HB29.out hb30)
  replace BKb := Aside0.mk (blk_below BKb.out hb30)
  replace BKx := Aside0.mk (blk_below BKx.out hb30)
  replace BKy := Aside0.mk (blk_below BKy.out hb30)
  replace BKz := Aside0.mk (blk_below BKz.out hb30)
  replace HVL := Aside0.mk (Kd.C_below HVL.out hb30)
  clear HB29
  clear hb30
  go_wp2_with fail
  have hb31 := below_alloc (Below.refl w30.heap.size w30) (.cells #[.int .i64 u0, .int .i64 u1, .int .i64 u2, .int .i64 u3] 27)
  have BKu := Aside0.mk (blk_new w30 (.cells #[.int .i64 u0, .int .i64 u1, .int .i64 u2, .int .i64 u3] 27))
  generalize w30.alloc (.cells #[.int .i64 u0, .int .i64 u1, .int .i64 u2, .int .i64 u3] 27) = w31 at hb31 BKu ⊢
  have HB31 := Aside0.mk (below_step HB30.out hb31)
  replace BKb := Aside0.mk (blk_below BKb.out hb31)
  replace BKx := Aside0.mk (blk_below BKx.out hb31)
  replace BKy := Aside0.mk (blk_below BKy.out hb31)
  replace BKz := Aside0.mk (blk_below BKz.out hb31)
  replace HVL := Aside0.mk (Kd.C_below HVL.out hb31)
  clear HB30
  clear hb31
  refine (impl_CommonNumbers.calls u0 u1 u2 u3 so dw cm e9 w31 H25.out).mono ?_
  rintro e w32 ⟨rfl, hb32⟩
  have HB32 := Aside0.mk (below_step HB31.out hb32)
  replace BKb := Aside0.mk (blk_below BKb.out hb32)
  replace BKx := Aside0.mk (blk_below BKx.out hb32)
  replace BKy := Aside0.mk (blk_below BKy.out hb32)
  replace BKz := Aside0.mk (blk_below BKz.out hb32)
  replace BKu := Aside0.mk (blk_below BKu.out hb32)
  replace HVL := Aside0.mk (Kd.C_below HVL.out hb32)
  clear HB31
  clear hb32
  have hcu0 : w32.cell? ⟨w30.heap.size, 0, none⟩ = some (.int .i64 u0) := (blk_cell BKu.out 0).trans rfl
  have hcu1 : w32.cell? ⟨w30.heap.size, 1, none⟩ = some (.int .i64 u1) := (blk_cell BKu.out 1).trans rfl
  have hcu2 : w32.cell? ⟨w30.heap.size, 2, none⟩ = some (.int .i64 u2) := (blk_cell BKu.out 2).trans rfl
  have hcu3 : w32.cell? ⟨w30.heap.size, 3, none⟩ = some (.int .i64 u3) := (blk_cell BKu.out 3).trans rfl
  go_wp2_with fail
  clear hcu0 hcu1 hcu2 hcu3
  refine (spec_CommonNumbers.calls k u0 u1 u2 u3 so dw cm e9 w32 H26.out).mono ?_
  rintro e w33 ⟨rfl, hb33⟩
  have HB33 := Aside0.mk (below_step HB32.out hb33)
  replace BKb := Aside0.mk (blk_below BKb.out hb33)
  replace BKx := Aside0.mk (blk_below BKx.out hb33)
  replace BKy := Aside0.mk (blk_below BKy.out hb33)
  replace BKz := Aside0.mk (blk_below BKz.out hb33)
  replace BKu := Aside0.mk (blk_below BKu.out hb33)
  replace HVL := Aside0.mk (Kd.C_below HVL.out hb33)
  clear HB32
  clear hb33
  by_cases c3 : e3 = 0
  · subst c3
    obtain ⟨h27a, h27b⟩ := H27.out rfl
    have H31 := Aside0.mk h27a
    have H32 := Aside0.mk h27b
    clear h27a h27b
    have hcy0 : w33.cell? ⟨w10.heap.size, 0, none⟩ = some (.int .i64 y0) := (blk_cell BKy.out 0).trans rfl
    have hcy1 : w33.cell? ⟨w10.heap.size, 1, none⟩ = some (.int .i64 y1) := (blk_cell BKy.out 1).trans rfl
    have hcy2 : w33.cell? ⟨w10.heap.size, 2, none⟩ = some (.int .i64 y2) := (blk_cell BKy.out 2).trans rfl
    have hcy3 : w33.cell? ⟨w10.heap.size, 3, none⟩ = some (.int .i64 y3) := (blk_cell BKy.out 3).trans rfl
    go_wp2_with fail
    clear hcy0 hcy1 hcy2 hcy3
    refine (impl_NumbersOf.calls k y0 y1 y2 y3 o L 0 w33 H31.out).mono ?_
    rintro e w34 ⟨vP, rfl, hR, hb34⟩
    have HB34 := Aside0.mk (below_step HB33.out hb34)
    replace BKb := Aside0.mk (blk_below BKb.out hb34)
    replace BKx := Aside0.mk (blk_below BKx.out hb34)
    replace BKy := Aside0.mk (blk_below BKy.out hb34)
    replace BKz := Aside0.mk (blk_below BKz.out hb34)
    replace BKu := Aside0.mk (blk_below BKu.out hb34)
    replace HVL := Aside0.mk (Kd.C_below HVL.out hb34)
    clear HB33
    clear hb34
    obtain ⟨AP, cP, rfl⟩ := Kd.R_slice hR
    have HLP := Aside0.mk (Kd.R_reads' hR).2.1
    have HVP := Aside0.mk (Kd.R_reads' hR).2.2
    clear hR
    go_wp2_with fail
    refine (laws_likeInts.calls k AP cP L AL cL L true w34 HVP.out HLP.out HVL.out HLL.out H32.out).mono ?_
    rintro e w35 ⟨rfl, hb35⟩
    replace hb35 := hb35.below
    have HB35 := Aside0.mk (below_step HB34.out hb35)
    replace BKb := Aside0.mk (blk_below BKb.out hb35)
    replace BKx := Aside0.mk (blk_below BKx.out hb35)
    replace BKy := Aside0.mk (blk_below BKy.out hb35)
    replace BKz := Aside0.mk (blk_below BKz.out hb35)
    replace BKu := Aside0.mk (blk_below BKu.out hb35)
    replace HVL := Aside0.mk (Kd.C_below HVL.out hb35)
    replace HVP := Aside0.mk (Kd.C_below HVP.out hb35)
    clear HB34
    clear hb35
    clear HVP HLP
    by_cases c2 : e2 = 0
    · subst c2
      have H33 := Aside0.mk (H28.out rfl)
      have hcx0 : w35.cell? ⟨w6.heap.size, 0, none⟩ = some (.int .i64 x0) := (blk_cell BKx.out 0).trans rfl
      have hcx1 : w35.cell? ⟨w6.heap.size, 1, none⟩ = some (.int .i64 x1) := (blk_cell BKx.out 1).trans rfl
      have hcx2 : w35.cell? ⟨w6.heap.size, 2, none⟩ = some (.int .i64 x2) := (blk_cell BKx.out 2).trans rfl
      have hcx3 : w35.cell? ⟨w6.heap.size, 3, none⟩ = some (.int .i64 x3) := (blk_cell BKx.out 3).trans rfl
      go_wp2_with fail
      clear hcx0 hcx1 hcx2 hcx3
      refine (impl_RankOfTicket.calls k x0 x1 x2 x3 m n 0 w35 H33.out).mono ?_
      rintro e w36 ⟨rfl, hb36⟩
      have HB36 := Aside0.mk (below_step HB35.out hb36)
      replace BKb := Aside0.mk (blk_below BKb.out hb36)
      replace BKx := Aside0.mk (blk_below BKx.out hb36)
      replace BKy := Aside0.mk (blk_below BKy.out hb36)
      replace BKz := Aside0.mk (blk_below BKz.out hb36)
      replace BKu := Aside0.mk (blk_below BKu.out hb36)
      replace HVL := Aside0.mk (Kd.C_below HVL.out hb36)
      clear HB35
      clear hb36
      by_cases c1 : e1 = 0
      · subst c1
        obtain ⟨k1, k2, k3, k4, k5, k6, k7, k8⟩ := H30.out rfl
        subst k3 k5 k6 k7
        obtain ⟨ms, hms⟩ : ∃ ms, wrap64 (dr - ht) = ms := ⟨_, rfl⟩
        rw [hms] at k2
        have hmw : IntKind.i64.wrap (dr - ht) = ms := (i64_w _).trans hms
        have d4 : decide (r < al) = true := decide_eq_true k4
        have d8 : decide (1 ≤ bd) = true := decide_eq_true k8
        have H34 := Aside0.mk k1
        have H35 := Aside0.mk k2
        clear k1 k2 k4 k8
        have hcb0 : w36.cell? ⟨w2.heap.size, 0, none⟩ = some (.int .i64 b0) := (blk_cell BKb.out 0).trans rfl
        have hcb1 : w36.cell? ⟨w2.heap.size, 1, none⟩ = some (.int .i64 b1) := (blk_cell BKb.out 1).trans rfl
        have hcb2 : w36.cell? ⟨w2.heap.size, 2, none⟩ = some (.int .i64 b2) := (blk_cell BKb.out 2).trans rfl
        have hcb3 : w36.cell? ⟨w2.heap.size, 3, none⟩ = some (.int .i64 b3) := (blk_cell BKb.out 3).trans rfl
        go_wp2_with fail
        clear hcb0 hcb1 hcb2 hcb3
        refine (impl_TicketOfRank.calls k b0 b1 b2 b3 r t 0 w36 H34.out).mono ?_
        rintro e w37 ⟨rfl, hb37⟩
        have HB37 := Aside0.mk (below_step HB36.out hb37)
        replace BKb := Aside0.mk (blk_below BKb.out hb37)
        replace BKx := Aside0.mk (blk_below BKx.out hb37)
        replace BKy := Aside0.mk (blk_below BKy.out hb37)
        replace BKz := Aside0.mk (blk_below BKz.out hb37)
        replace BKu := Aside0.mk (blk_below BKu.out hb37)
        replace HVL := Aside0.mk (Kd.C_below HVL.out hb37)
        clear HB36
        clear hb37
        have hcb0 : w37.cell? ⟨w2.heap.size, 0, none⟩ = some (.int .i64 b0) := (blk_cell BKb.out 0).trans rfl
        have hcb1 : w37.cell? ⟨w2.heap.size, 1, none⟩ = some (.int .i64 b1) := (blk_cell BKb.out 1).trans rfl
        have hcb2 : w37.cell? ⟨w2.heap.size, 2, none⟩ = some (.int .i64 b2) := (blk_cell BKb.out 2).trans rfl
        have hcb3 : w37.cell? ⟨w2.heap.size, 3, none⟩ = some (.int .i64 b3) := (blk_cell BKb.out 3).trans rfl
        go_wp2_with fail
        clear hcb0 hcb1 hcb2 hcb3
        have hb38 := below_alloc (Below.refl w37.heap.size w37) (.cells #[.int .i64 t] 2)
        have BKv := Aside0.mk (blk_new w37 (.cells #[.int .i64 t] 2))
        generalize w37.alloc (.cells #[.int .i64 t] 2) = w38 at hb38 BKv ⊢
        have HB38 := Aside0.mk (below_step HB37.out hb38)
        replace BKb := Aside0.mk (blk_below BKb.out hb38)
        replace BKx := Aside0.mk (blk_below BKx.out hb38)
        replace BKy := Aside0.mk (blk_below BKy.out hb38)
        replace BKz := Aside0.mk (blk_below BKz.out hb38)
        replace BKu := Aside0.mk (blk_below BKu.out hb38)
        replace HVL := Aside0.mk (Kd.C_below HVL.out hb38)
        clear HB37
        clear hb38
        have hC : Kd.C (Kd.int .i64) w38 (some ⟨w37.heap.size, 0, none⟩) [t].length [t] := Kd.C_of_reads (d := (0 : Int)) (h1 := fun _ => rfl) ⟨rfl, by simp, fun _ => ⟨_, rfl, fun j hj => by
          have hj0 : j = 0 := by simpa using hj
          subst hj0
          rw [add_plain, blk_cell BKv.out 0]
          rfl⟩⟩
        refine (impl_CountMissed.calls k b0 b1 b2 b3 (some ⟨w37.heap.size, 0, none⟩) 1 [t] ms 0 w38 hC (Nat.le_refl _) H35.out).mono ?_
        rintro e w39 ⟨rfl, hb39⟩
        have HB39 := Aside0.mk (below_step HB38.out hb39)
        replace BKb := Aside0.mk (blk_below BKb.out hb39)
        replace BKx := Aside0.mk (blk_below BKx.out hb39)
        replace BKy := Aside0.mk (blk_below BKy.out hb39)
        replace BKz := Aside0.mk (blk_below BKz.out hb39)
        replace BKu := Aside0.mk (blk_below BKu.out hb39)
        replace BKv := Aside0.mk (blk_below BKv.out hb39)
        replace HVL := Aside0.mk (Kd.C_below HVL.out hb39)
        clear HB38
        clear hb39
        clear hC
        go_wp2
        go_ret
        exact ⟨rfl, HB39.out⟩
      · have c1b0 : (e1 == 0) = false := beq_eq_false_iff_ne.mpr c1
        have c1b1 : (e1 != 0) = true := bne_iff_ne.mpr c1
        have hr := H29.out c1
        subst hr
        go_wp2
        go_ret
        exact ⟨rfl, HB36.out⟩
    · have c2b0 : (e2 == 0) = false := beq_eq_false_iff_ne.mpr c2
      have c2b1 : (e2 != 0) = true := bne_iff_ne.mpr c2
      by_cases c1 : e1 = 0
      · subst c1
        obtain ⟨k1, k2, k3, k4, k5, k6, k7, k8⟩ := H30.out rfl
        subst k3 k5 k6 k7
        obtain ⟨ms, hms⟩ : ∃ ms, wrap64 (dr - ht) = ms := ⟨_, rfl⟩
        rw [hms] at k2
        have hmw : IntKind.i64.wrap (dr - ht) = ms := (i64_w _).trans hms
        have d4 : decide (r < al) = true := decide_eq_true k4
        have d8 : decide (1 ≤ bd) = true := decide_eq_true k8
        have H34 := Aside0.mk k1
        have H35 := Aside0.mk k2
        clear k1 k2 k4 k8
        have hcb0 : w35.cell? ⟨w2.heap.size, 0, none⟩ = some (.int .i64 b0) := (blk_cell BKb.out 0).trans rfl
        have hcb1 : w35.cell? ⟨w2.heap.size, 1, none⟩ = some (.int .i64 b1) := (blk_cell BKb.out 1).trans rfl
        have hcb2 : w35.cell? ⟨w2.heap.size, 2, none⟩ = some (.int .i64 b2) := (blk_cell BKb.out 2).trans rfl
        have hcb3 : w35.cell? ⟨w2.heap.size, 3, none⟩ = some (.int .i64 b3) := (blk_cell BKb.out 3).trans rfl
        go_wp2_with fail
        clear hcb0 hcb1 hcb2 hcb3
        refine (impl_TicketOfRank.calls k b0 b1 b2 b3 r t 0 w35 H34.out).mono ?_
        rintro e w36 ⟨rfl, hb36⟩
        have HB36 := Aside0.mk (below_step HB35.out hb36)
        replace BKb := Aside0.mk (blk_below BKb.out hb36)
        replace BKx := Aside0.mk (blk_below BKx.out hb36)
        replace BKy := Aside0.mk (blk_below BKy.out hb36)
        replace BKz := Aside0.mk (blk_below BKz.out hb36)
        replace BKu := Aside0.mk (blk_below BKu.out hb36)
        replace HVL := Aside0.mk (Kd.C_below HVL.out hb36)
        clear HB35
        clear hb36
        have hcb0 : w36.cell? ⟨w2.heap.size, 0, none⟩ = some (.int .i64 b0) := (blk_cell BKb.out 0).trans rfl
        have hcb1 : w36.cell? ⟨w2.heap.size, 1, none⟩ = some (.int .i64 b1) := (blk_cell BKb.out 1).trans rfl
        have hcb2 : w36.cell? ⟨w2.heap.size, 2, none⟩ = some (.int .i64 b2) := (blk_cell BKb.out 2).trans rfl
        have hcb3 : w36.cell? ⟨w2.heap.size, 3, none⟩ = some (.int .i64 b3) := (blk_cell BKb.out 3).trans rfl
        go_wp2_with fail
        clear hcb0 hcb1 hcb2 hcb3
        have hb37 := below_alloc (Below.refl w36.heap.size w36) (.cells #[.int .i64 t] 2)
        have BKv := Aside0.mk (blk_new w36 (.cells #[.int .i64 t] 2))
        generalize w36.alloc (.cells #[.int .i64 t] 2) = w37 at hb37 BKv ⊢
        have HB37 := Aside0.mk (below_step HB36.out hb37)
        replace BKb := Aside0.mk (blk_below BKb.out hb37)
        replace BKx := Aside0.mk (blk_below BKx.out hb37)
        replace BKy := Aside0.mk (blk_below BKy.out hb37)
        replace BKz := Aside0.mk (blk_below BKz.out hb37)
        replace BKu := Aside0.mk (blk_below BKu.out hb37)
        replace HVL := Aside0.mk (Kd.C_below HVL.out hb37)
        clear HB36
        clear hb37
        have hC : Kd.C (Kd.int .i64) w37 (some ⟨w36.heap.size, 0, none⟩) [t].length [t] := Kd.C_of_reads (d := (0 : Int)) (h1 := fun _ => rfl) ⟨rfl, by simp, fun _ => ⟨_, rfl, fun j hj => by
          have hj0 : j = 0 := by simpa using hj
          subst hj0
          rw [add_plain, blk_cell BKv.out 0]
          rfl⟩⟩
        refine (impl_CountMissed.calls k b0 b1 b2 b3 (some ⟨w36.heap.size, 0, none⟩) 1 [t] ms 0 w37 hC (Nat.le_refl _) H35.out).mono ?_
        rintro e w38 ⟨rfl, hb38⟩
        have HB38 := Aside0.mk (below_step HB37.out hb38)
        replace BKb := Aside0.mk (blk_below BKb.out hb38)
        replace BKx := Aside0.mk (blk_below BKx.out hb38)
        replace BKy := Aside0.mk (blk_below BKy.out hb38)
        replace BKz := Aside0.mk (blk_below BKz.out hb38)
        replace BKu := Aside0.mk (blk_below BKu.out hb38)
        replace BKv := Aside0.mk (blk_below BKv.out hb38)
        replace HVL := Aside0.mk (Kd.C_below HVL.out hb38)
        clear HB37
        clear hb38
        clear hC
        go_wp2
        go_ret
        exact ⟨rfl, HB38.out⟩
      · have c1b0 : (e1 == 0) = false := beq_eq_false_iff_ne.mpr c1
        have c1b1 : (e1 != 0) = true := bne_iff_ne.mpr c1
        have hr := H29.out c1
        subst hr
        go_wp2
        go_ret
        exact ⟨rfl, HB35.out⟩
  · have c3b0 : (e3 == 0) = false := beq_eq_false_iff_ne.mpr c3
    have c3b1 : (e3 != 0) = true := bne_iff_ne.mpr c3
    by_cases c2 : e2 = 0
    · subst c2
      have H33 := Aside0.mk (H28.out rfl)
      have hcx0 : w33.cell? ⟨w6.heap.size, 0, none⟩ = some (.int .i64 x0) := (blk_cell BKx.out 0).trans rfl
      have hcx1 : w33.cell? ⟨w6.heap.size, 1, none⟩ = some (.int .i64 x1) := (blk_cell BKx.out 1).trans rfl
      have hcx2 : w33.cell? ⟨w6.heap.size, 2, none⟩ = some (.int .i64 x2) := (blk_cell BKx.out 2).trans rfl
      have hcx3 : w33.cell? ⟨w6.heap.size, 3, none⟩ = some (.int .i64 x3) := (blk_cell BKx.out 3).trans rfl
      go_wp2_with fail
      clear hcx0 hcx1 hcx2 hcx3
      refine (impl_RankOfTicket.calls k x0 x1 x2 x3 m n 0 w33 H33.out).mono ?_
      rintro e w34 ⟨rfl, hb34⟩
      have HB34 := Aside0.mk (below_step HB33.out hb34)
      replace BKb := Aside0.mk (blk_below BKb.out hb34)
      replace BKx := Aside0.mk (blk_below BKx.out hb34)
      replace BKy := Aside0.mk (blk_below BKy.out hb34)
      replace BKz := Aside0.mk (blk_below BKz.out hb34)
      replace BKu := Aside0.mk (blk_below BKu.out hb34)
      replace HVL := Aside0.mk (Kd.C_below HVL.out hb34)
      clear HB33
      clear hb34
      by_cases c1 : e1 = 0
      · subst c1
        obtain ⟨k1, k2, k3, k4, k5, k6, k7, k8⟩ := H30.out rfl
        subst k3 k5 k6 k7
        obtain ⟨ms, hms⟩ : ∃ ms, wrap64 (dr - ht) = ms := ⟨_, rfl⟩
        rw [hms] at k2
        have hmw : IntKind.i64.wrap (dr - ht) = ms := (i64_w _).trans hms
        have d4 : decide (r < al) = true := decide_eq_true k4
        have d8 : decide (1 ≤ bd) = true := decide_eq_true k8
        have H34 := Aside0.mk k1
        have H35 := Aside0.mk k2
        clear k1 k2 k4 k8
        have hcb0 : w34.cell? ⟨w2.heap.size, 0, none⟩ = some (.int .i64 b0) := (blk_cell BKb.out 0).trans rfl
        have hcb1 : w34.cell? ⟨w2.heap.size, 1, none⟩ = some (.int .i64 b1) := (blk_cell BKb.out 1).trans rfl
        have hcb2 : w34.cell? ⟨w2.heap.size, 2, none⟩ = some (.int .i64 b2) := (blk_cell BKb.out 2).trans rfl
        have hcb3 : w34.cell? ⟨w2.heap.size, 3, none⟩ = some (.int .i64 b3) := (blk_cell BKb.out 3).trans rfl
        go_wp2_with fail
        clear hcb0 hcb1 hcb2 hcb3
        refine (impl_TicketOfRank.calls k b0 b1 b2 b3 r t 0 w34 H34.out).mono ?_
        rintro e w35 ⟨rfl, hb35⟩
        have HB35 := Aside0.mk (below_step HB34.out hb35)
        replace BKb := Aside0.mk (blk_below BKb.out hb35)
        replace BKx := Aside0.mk (blk_below BKx.out hb35)
        replace BKy := Aside0.mk (blk_below BKy.out hb35)
        replace BKz := Aside0.mk (blk_below BKz.out hb35)
        replace BKu := Aside0.mk (blk_below BKu.out hb35)
        replace HVL := Aside0.mk (Kd.C_below HVL.out hb35)
        clear HB34
        clear hb35
        have hcb0 : w35.cell? ⟨w2.heap.size, 0, none⟩ = some (.int .i64 b0) := (blk_cell BKb.out 0).trans rfl
        have hcb1 : w35.cell? ⟨w2.heap.size, 1, none⟩ = some (.int .i64 b1) := (blk_cell BKb.out 1).trans rfl
        have hcb2 : w35.cell? ⟨w2.heap.size, 2, none⟩ = some (.int .i64 b2) := (blk_cell BKb.out 2).trans rfl
        have hcb3 : w35.cell? ⟨w2.heap.size, 3, none⟩ = some (.int .i64 b3) := (blk_cell BKb.out 3).trans rfl
        go_wp2_with fail
        clear hcb0 hcb1 hcb2 hcb3
        have hb36 := below_alloc (Below.refl w35.heap.size w35) (.cells #[.int .i64 t] 2)
        have BKv := Aside0.mk (blk_new w35 (.cells #[.int .i64 t] 2))
        generalize w35.alloc (.cells #[.int .i64 t] 2) = w36 at hb36 BKv ⊢
        have HB36 := Aside0.mk (below_step HB35.out hb36)
        replace BKb := Aside0.mk (blk_below BKb.out hb36)
        replace BKx := Aside0.mk (blk_below BKx.out hb36)
        replace BKy := Aside0.mk (blk_below BKy.out hb36)
        replace BKz := Aside0.mk (blk_below BKz.out hb36)
        replace BKu := Aside0.mk (blk_below BKu.out hb36)
        replace HVL := Aside0.mk (Kd.C_below HVL.out hb36)
        clear HB35
        clear hb36
        have hC : Kd.C (Kd.int .i64) w36 (some ⟨w35.heap.size, 0, none⟩) [t].length [t] := Kd.C_of_reads (d := (0 : Int)) (h1 := fun _ => rfl) ⟨rfl, by simp, fun _ => ⟨_, rfl, fun j hj => by
          have hj0 : j = 0 := by simpa using hj
          subst hj0
          rw [add_plain, blk_cell BKv.out 0]
          rfl⟩⟩
        refine (impl_CountMissed.calls k b0 b1 b2 b3 (some ⟨w35.heap.size, 0, none⟩) 1 [t] ms 0 w36 hC (Nat.le_refl _) H35.out).mono ?_
        rintro e w37 ⟨rfl, hb37⟩
        have HB37 := Aside0.mk (below_step HB36.out hb37)
        replace BKb := Aside0.mk (blk_below BKb.out hb37)
        replace BKx := Aside0.mk (blk_below BKx.out hb37)
        replace BKy := Aside0.mk (blk_below BKy.out hb37)
        replace BKz := Aside0.mk (blk_below BKz.out hb37)
        replace BKu := Aside0.mk (blk_below BKu.out hb37)
        replace BKv := Aside0.mk (blk_below BKv.out hb37)
        replace HVL := Aside0.mk (Kd.C_below HVL.out hb37)
        clear HB36
        clear hb37
        clear hC
        go_wp2
        go_ret
        exact ⟨rfl, HB37.out⟩
      · have c1b0 : (e1 == 0) = false := beq_eq_false_iff_ne.mpr c1
        have c1b1 : (e1 != 0) = true := bne_iff_ne.mpr c1
        have hr := H29.out c1
        subst hr
        go_wp2
        go_ret
        exact ⟨rfl, HB34.out⟩
    · have c2b0 : (e2 == 0) = false := beq_eq_false_iff_ne.mpr c2
      have c2b1 : (e2 != 0) = true := bne_iff_ne.mpr c2
      by_cases c1 : e1 = 0
      · subst c1
        obtain ⟨k1, k2, k3, k4, k5, k6, k7, k8⟩ := H30.out rfl
        subst k3 k5 k6 k7
        obtain ⟨ms, hms⟩ : ∃ ms, wrap64 (dr - ht) = ms := ⟨_, rfl⟩
        rw [hms] at k2
        have hmw : IntKind.i64.wrap (dr - ht) = ms := (i64_w _).trans hms
        have d4 : decide (r < al) = true := decide_eq_true k4
        have d8 : decide (1 ≤ bd) = true := decide_eq_true k8
        have H34 := Aside0.mk k1
        have H35 := Aside0.mk k2
        clear k1 k2 k4 k8
        have hcb0 : w33.cell? ⟨w2.heap.size, 0, none⟩ = some (.int .i64 b0) := (blk_cell BKb.out 0).trans rfl
        have hcb1 : w33.cell? ⟨w2.heap.size, 1, none⟩ = some (.int .i64 b1) := (blk_cell BKb.out 1).trans rfl
        have hcb2 : w33.cell? ⟨w2.heap.size, 2, none⟩ = some (.int .i64 b2) := (blk_cell BKb.out 2).trans rfl
        have hcb3 : w33.cell? ⟨w2.heap.size, 3, none⟩ = some (.int .i64 b3) := (blk_cell BKb.out 3).trans rfl
        go_wp2_with fail
        clear hcb0 hcb1 hcb2 hcb3
        refine (impl_TicketOfRank.calls k b0 b1 b2 b3 r t 0 w33 H34.out).mono ?_
        rintro e w34 ⟨rfl, hb34⟩
        have HB34 := Aside0.mk (below_step HB33.out hb34)
        replace BKb := Aside0.mk (blk_below BKb.out hb34)
        replace BKx := Aside0.mk (blk_below BKx.out hb34)
        replace BKy := Aside0.mk (blk_below BKy.out hb34)
        replace BKz := Aside0.mk (blk_below BKz.out hb34)
        replace BKu := Aside0.mk (blk_below BKu.out hb34)
        replace HVL := Aside0.mk (Kd.C_below HVL.out hb34)
        clear HB33
        clear hb34
        have hcb0 : w34.cell? ⟨w2.heap.size, 0, none⟩ = some (.int .i64 b0) := (blk_cell BKb.out 0).trans rfl
        have hcb1 : w34.cell? ⟨w2.heap.size, 1, none⟩ = some (.int .i64 b1) := (blk_cell BKb.out 1).trans rfl
        have hcb2 : w34.cell? ⟨w2.heap.size, 2, none⟩ = some (.int .i64 b2) := (blk_cell BKb.out 2).trans rfl
        have hcb3 : w34.cell? ⟨w2.heap.size, 3, none⟩ = some (.int .i64 b3) := (blk_cell BKb.out 3).trans rfl
        go_wp2_with fail
        clear hcb0 hcb1 hcb2 hcb3
        have hb35 := below_alloc (Below.refl w34.heap.size w34) (.cells #[.int .i64 t] 2)
        have BKv := Aside0.mk (blk_new w34 (.cells #[.int .i64 t] 2))
        generalize w34.alloc (.cells #[.int .i64 t] 2) = w35 at hb35 BKv ⊢
        have HB35 := Aside0.mk (below_step HB34.out hb35)
        replace BKb := Aside0.mk (blk_below BKb.out hb35)
        replace BKx := Aside0.mk (blk_below BKx.out hb35)
        replace BKy := Aside0.mk (blk_below BKy.out hb35)
        replace BKz := Aside0.mk (blk_below BKz.out hb35)
        replace BKu := Aside0.mk (blk_below BKu.out hb35)
        replace HVL := Aside0.mk (Kd.C_below HVL.out hb35)
        clear HB34
        clear hb35
        have hC : Kd.C (Kd.int .i64) w35 (some ⟨w34.heap.size, 0, none⟩) [t].length [t] := Kd.C_of_reads (d := (0 : Int)) (h1 := fun _ => rfl) ⟨rfl, by simp, fun _ => ⟨_, rfl, fun j hj => by
          have hj0 : j = 0 := by simpa using hj
          subst hj0
          rw [add_plain, blk_cell BKv.out 0]
          rfl⟩⟩
        refine (impl_CountMissed.calls k b0 b1 b2 b3 (some ⟨w34.heap.size, 0, none⟩) 1 [t] ms 0 w35 hC (Nat.le_refl _) H35.out).mono ?_
        rintro e w36 ⟨rfl, hb36⟩
        have HB36 := Aside0.mk (below_step HB35.out hb36)
        replace BKb := Aside0.mk (blk_below BKb.out hb36)
        replace BKx := Aside0.mk (blk_below BKx.out hb36)
        replace BKy := Aside0.mk (blk_below BKy.out hb36)
        replace BKz := Aside0.mk (blk_below BKz.out hb36)
        replace BKu := Aside0.mk (blk_below BKu.out hb36)
        replace BKv := Aside0.mk (blk_below BKv.out hb36)
        replace HVL := Aside0.mk (Kd.C_below HVL.out hb36)
        clear HB35
        clear hb36
        clear hC
        go_wp2
        go_ret
        exact ⟨rfl, HB36.out⟩
      · have c1b0 : (e1 == 0) = false := beq_eq_false_iff_ne.mpr c1
        have c1b1 : (e1 != 0) = true := bne_iff_ne.mpr c1
        have hr := H29.out c1
        subst hr
        go_wp2
        go_ret
        exact ⟨rfl, HB33.out⟩
/-- What the law asks on the ways on which it answers true: what each function answers. -/
def TGood (k : Nat) (l0 : List Int) : Prop := laws_big.f l0 = some true ∨ ∃ (L N : List Int) (b0 b1 b2 b3 t r e1 x0 x1 x2 x3 n m e2 y0 y1 y2 y3 o e3 z0 z1 z2 z3 s e4 al e5 dr e6 ht e7 bd e8 u0 u1 u2 u3 so dw cm e9 : Int) (ib : Bool), (laws_big.f l0 = some false) ∧ (spec_DrawRankOfTicket.f k l0 = some (b0, b1, b2, b3, t)) ∧ (impl_RankOfTicket.f k b0 b1 b2 b3 t = some (r, e1)) ∧ (spec_RankOfTicket.f k b0 b1 b2 b3 t = some (r, e1)) ∧ (spec_DrawTicketOfRank.f k l0 = some (x0, x1, x2, x3, n)) ∧ (impl_TicketOfRank.f k x0 x1 x2 x3 n = some (m, e2)) ∧ (spec_TicketOfRank.f k x0 x1 x2 x3 n = some (m, e2)) ∧ (spec_DrawTicketOf.f k l0 = some (y0, y1, y2, y3, L)) ∧ (impl_TicketOf.f k y0 y1 y2 y3 L = some (o, e3)) ∧ (spec_TicketOf.f k y0 y1 y2 y3 L = some (o, e3)) ∧ (spec_DrawNumbersOf.f k l0 = some (z0, z1, z2, z3, s)) ∧ (impl_NumbersOf.f k z0 z1 z2 z3 s = some (N, e4)) ∧ (spec_NumbersOf.f k z0 z1 z2 z3 s = some (N, e4)) ∧ (laws_likeInts.f k N N = some true) ∧ (impl_CountTickets.f k b0 b1 b2 b3 = some (al, e5)) ∧ (spec_CountTickets.f k b0 b1 b2 b3 = some (al, e5)) ∧ (impl_CountDraws.f k b0 b1 b2 b3 = some (dr, e6)) ∧ (spec_CountDraws.f k b0 b1 b2 b3 = some (dr, e6)) ∧ (impl_DrawsHit.f k b0 b1 b2 b3 = some (ht, e7)) ∧ (spec_DrawsHit.f k b0 b1 b2 b3 = some (ht, e7)) ∧ (impl_TicketBound.f k b0 b1 b2 b3 = some (bd, e8)) ∧ (spec_TicketBound.f k b0 b1 b2 b3 = some (bd, e8)) ∧ (impl_IsLottery.f b0 b1 b2 b3 = some ib) ∧ (spec_IsLottery.f b0 b1 b2 b3 = some ib) ∧ (spec_DrawCommonNumbers.f k l0 = some (u0, u1, u2, u3, so, dw)) ∧ (impl_CommonNumbers.f u0 u1 u2 u3 so dw = some (cm, e9)) ∧ (spec_CommonNumbers.f k u0 u1 u2 u3 so dw = some (cm, e9)) ∧ (e3 = 0 → impl_NumbersOf.f k y0 y1 y2 y3 o = some (L, 0) ∧ laws_likeInts.f k L L = some true) ∧ (e2 = 0 → impl_RankOfTicket.f k x0 x1 x2 x3 m = some (n, 0)) ∧ (e1 ≠ 0 → r = 0) ∧ (e1 = 0 → impl_TicketOfRank.f k b0 b1 b2 b3 r = some (t, 0) ∧ impl_CountMissed.f k b0 b1 b2 b3 [t] = some (wrap64 (dr - ht), 0) ∧ e5 = 0 ∧ r < al ∧ e6 = 0 ∧ e7 = 0 ∧ e8 = 0 ∧ 1 ≤ bd)
set_option maxHeartbeats 1000000 in
set_option maxRecDepth 100000 in
theorem TGood_big (k : Nat) (A0 : Option Addr) (c0 : Nat) (l0 : List Int) (w : World) (hr0 : Kd.C (Kd.int .u8) w A0 l0.length l0) (hc0 : l0.length ≤ c0) (h : laws_big.f l0 = some true) :
    Calls Try.prog 5 #[.slice A0 l0.length c0] w fun e w' => e = .returned (.bool true) ∧ Below w.heap.size w w' := by
  have H := Aside0.mk (laws_big.calls A0 c0 l0 true w hr0 hc0 h)
  clear hr0 hc0 h
  go_enter Try.func5, Try.ntmps5
  go_wp2_with fail
  refine H.out.mono ?_
  rintro e w1 ⟨rfl, hb⟩
  have HB := Aside0.mk hb.below
  clear hb
  go_wp2
  go_ret
  exact ⟨rfl, HB.out⟩
theorem laws_FnTickets.calls (k : Nat) (A0 : Option Addr) (c0 : Nat) (l0 : List Int) (w : World) (hr0 : Kd.C (Kd.int .u8) w A0 l0.length l0) (hc0 : l0.length ≤ c0) (h : TGood k l0) :
    Calls Try.prog 5 #[.slice A0 l0.length c0] w fun e w' => e = .returned (.bool true) ∧ Below w.heap.size w w' := by
  rcases h with h | ⟨L, N, b0, b1, b2, b3, t, r, e1, x0, x1, x2, x3, n, m, e2, y0, y1, y2, y3, o, e3, z0, z1, z2, z3, s, e4, al, e5, dr, e6, ht, e7, bd, e8, u0, u1, u2, u3, so, dw, cm, e9, ib, hbig, h1, h2, h3, h4, h5, h6, h7, h8, h9, h10, h11, h12, h13, h14, h15, h16, h17, h18, h19, h20, h21, h22, h23, h24, h25, h26, h27, h28, h29, h30⟩
  · exact TGood_big k A0 c0 l0 w hr0 hc0 h
  · exact TGood_good k A0 c0 l0 w hr0 hc0 L N b0 b1 b2 b3 t r e1 x0 x1 x2 x3 n m e2 y0 y1 y2 y3 o e3 z0 z1 z2 z3 s e4 al e5 dr e6 ht e7 bd e8 u0 u1 u2 u3 so dw cm e9 ib hbig h1 h2 h3 h4 h5 h6 h7 h8 h9 h10 h11 h12 h13 h14 h15 h16 h17 h18 h19 h20 h21 h22 h23 h24 h25 h26 h27 h28 h29 h30

end Go.Proofs.Ytchlbkcladfloaa.PFnTickets
