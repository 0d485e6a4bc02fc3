/- The library's Concat at []int64, over lists that are not all empty. -/
import Derived.Test.YthbfaefneoeadaaChO
import Derived.Test.YthbfaefneoeadaaGrowL
namespace Go.Proofs.Ythbfaefneoeadaa.DG
open Go Go.RowKit Go.Proofs.YthbfaefneoeadaaW.PrintWords Go.Proofs.YthbfaefneoeadaaW.PrintLast Go.Proofs.YthbfaefneoeadaaW.PrintMore
set_option linter.unusedVariables false
set_option linter.unusedSimpArgs false
def lenS : List (List Int) → Nat
  | [] => 0
  | x :: xs => x.length + lenS xs
theorem lenS_flat : ∀ xs : List (List Int), xs.flatten.length = lenS xs
  | [] => rfl
  | x :: xs => by simp only [List.flatten_cons, List.length_append, lenS]; rw [lenS_flat xs]
theorem lenS_next (xs : List (List Int)) (j : Nat) (hj : j < xs.length) : lenS (xs.drop j) = (rdL xs j).length + lenS (xs.drop (j + 1)) := by
  rw [List.drop_eq_getElem_cons hj, rdL_eq xs j hj]; rfl
theorem flat_next (xs : List (List Int)) (j : Nat) (hj : j < xs.length) : (xs.take (j + 1)).flatten = (xs.take j).flatten ++ rdL xs j := by
  rw [List.take_succ_eq_append_getElem hj, List.flatten_append, rdL_eq xs j hj]; simp
theorem lenS_drop (xs : List (List Int)) : ∀ j, lenS (xs.drop j) ≤ lenS xs := by
  induction xs with
  | nil => intro j; simp [lenS]
  | cons x xs ih =>
    intro j
    cases j with
    | zero => exact Nat.le_refl _
    | succ j => have := ih j; simp only [List.drop_succ_cons, lenS]; omega
/-- Grow of nil: a row of no elements with room. -/
theorem grow_nil (n : Nat) (hn : 0 < n) (hm : n ≤ 1000000) (w : World) : Calls Try.prog 72 #[.slice none 0 0, .int .i64 n] w fun e w' => ∃ v0_ : Value, e = .returned v0_ ∧ Kd.R (Kd.int .i64) 2 w' w.heap.size (fun _ => True) v0_ [] ∧ Below w.heap.size w w' := by
  obtain ⟨i0, hi0, hi1⟩ := Option.map_eq_some_iff.1 of_info
  simp only [Prod.mk.injEq] at hi1
  obtain ⟨hz, hs, hbt⟩ := hi1
  refine (Any8.slices_Grow_grow mGrow i0 (.int .i64 0) hi0 hz (by omega) none 0 0 n [] w (Nat.le_refl _) (by omega) (by rw [hbt]; omega) (by omega) (by simp) (fun _ => rfl) (fun a h => by cases h)).mono ?_
  rintro e w' ⟨rfl, rfl⟩
  have et : mGrow_ren.t 25 = 2 := rfl
  have hc : (0 : Nat) + n ≤ grownCap w (0 + n) 0 2 := grownCap_ge w _ _ _
  have hx : grownCap w (0 + n) 0 2 ≤ maxLen := grownCap_le_maxLen w _ _ _ (by unfold maxLen; omega)
  rw [et]
  generalize grownCap w (0 + n) 0 2 = G at hc hx ⊢
  refine ⟨_, rfl, ?_, below_alloc (below_drew (Below.refl _ _)) _⟩
  refine Kd.R_of_own (h1 := fun _ => rfl) ⟨rfl, .inr ⟨w.heap.size, G, _, rfl, Nat.le_refl _, blk_new w.drew _, Nat.zero_le _, hx, ?_, ?_⟩⟩ (fun _ _ => trivial)
  · simp [Builtin.zeroCells, Value.cells]
    omega
  · rfl
set_option maxHeartbeats 2000000 in
set_option maxRecDepth 100000 in
theorem concat_walk (A : Option Addr) (c : Nat) (xs : List (List Int)) (w : World) (hC : Kd.C (Kd.slice 2 (Kd.int .i64)) w A xs.length xs) (hl : xs.length ≤ 1000) (h0 : 0 < lenS xs) (hm : lenS xs ≤ 1000000) :
    Calls Try.prog 45 #[.slice A xs.length c] w fun e w' => ∃ v0_ : Value, e = .returned v0_ ∧ Kd.R (Kd.int .i64) 2 w' w.heap.size (fun _ => True) v0_ xs.flatten ∧ Below w.heap.size w w' := by
  have HC := Aside0.mk hC
  clear hC
  go_enter Try.func45, Try.ntmps45
  go_wp2
  go_loopg [3, 11] xs.length (fun gg s3 s11 wr => ∃ (j n : Nat), s3 = .int .i64 n ∧ s11 = .int .i64 j ∧ j ≤ xs.length ∧ xs.length - j ≤ gg ∧ Aside0 (n + lenS (xs.drop j) = lenS xs) ∧ Aside0 (Below w.heap.size w wr))
  case atStart => exact ⟨0, 0, rfl, rfl, by omega, by omega, ⟨by simp⟩, ⟨Below.refl _ _⟩⟩
  case round =>
    obtain ⟨j, n, rfl, rfl, hj, hgg, HN, HB⟩ := hrel
    by_cases hlt : j < xs.length
    · have hlt1 : (j : Int) < (xs.length : Int) := by omega
      have hj0 : (0 : Int) ≤ (j : Int) := by omega
      obtain ⟨ad, Ap, cp, e, hx, hlp, hCp⟩ := at_rows HC.out j hlt
      cases e
      replace hx := cell_blk_ne hx HB.out
      have HNN := Aside0.mk (lenS_next xs j hlt)
      have hd := lenS_drop xs j
      have hb1 : n ≤ 1000000 := by have := HN.out; omega
      have hb2 : (rdL xs j).length ≤ 1000000 := by have := HNN.out; omega
      obtain ⟨p, hpe⟩ : ∃ p, p = rdL xs j := ⟨_, rfl⟩
      rw [← hpe] at hx hlp HNN hb2
      clear hpe hd hCp
      have hneg : ¬ ((n : Int) + (p.length : Int) < 0) := by omega
      have hnw : IntKind.i64.wrap ((n : Int) + (p.length : Int)) = (n : Int) + (p.length : Int) := by rw [IntKind.wrap_i64]; omega
      go_wp2
      go_roundg (xs.length - (j + 1))
      case measure => omega
      case rel => exact ⟨j + 1, n + p.length, by go_num, by go_num, by omega, by omega, ⟨by have h1 := HN.out; have h2 := HNN.out; omega⟩, HB⟩
    · obtain rfl : j = xs.length := by omega
      have hlt1 : ¬ (xs.length : Int) < (xs.length : Int) := by omega
      have HNE := HN.out
      rw [List.drop_of_length_le (Nat.le_refl _)] at HNE
      have hn : n = lenS xs := by simpa [lenS] using HNE
      subst hn
      clear HN HNE
      have HG := Aside0.mk (grow_nil (lenS xs) h0 hm wr)
      go_wp2_with fail
      refine HG.out.mono ?_
      rintro e w2 ⟨v2, rfl, hR2, hb2⟩
      obtain ⟨A2, c2, rfl⟩ := Kd.R_slice hR2
      have HR2 := Aside0.mk (Kd.R_lower hR2 HB.out.size)
      have HB2 := Aside0.mk (below_step HB.out hb2)
      clear hR2 hb2 HG
      have HF2 := Aside0.mk (show Kd.R (Kd.int .i64) 2 w2 w.heap.size (fun _ => True) (.slice A2 ([] : List Int).length c2) (xs.take 0).flatten from by simpa using HR2.out)
      clear HR2
      go_wp2
      go_loopg [6, 27] xs.length (fun gg s6 s27 wr => ∃ (j : Nat) (v : Value), s6 = v ∧ s27 = .int .i64 j ∧ j ≤ xs.length ∧ xs.length - j ≤ gg ∧ Aside0 (Kd.R (Kd.int .i64) 2 wr w.heap.size (fun _ => True) v (xs.take j).flatten) ∧ Aside0 (Below w.heap.size w wr))
      case atStart => exact ⟨0, _, rfl, rfl, by omega, by omega, HF2, HB2⟩
      case round =>
        obtain ⟨j, v, rfl, rfl, hj, hgg, HV, HBr⟩ := hrel
        by_cases hlt : j < xs.length
        · have hlt1 : (j : Int) < (xs.length : Int) := by omega
          have hj0 : (0 : Int) ≤ (j : Int) := by omega
          obtain ⟨ad, Ap, cp, e, hx, hlp, hCp⟩ := at_rows HC.out j hlt
          cases e
          replace hx := cell_blk_ne hx HBr.out
          have HCp := Aside0.mk (Kd.C_below hCp HBr.out)
          have HFN := Aside0.mk (flat_next xs j hlt)
          have hfl : (xs.take j).flatten.length + (rdL xs j).length ≤ 1000000 := by
            have h1 := HFN.out
            have h2 := congrArg List.length h1
            rw [List.length_append] at h2
            have h3 := lenS_flat (xs.take (j + 1))
            have h4 : lenS (xs.take (j + 1)) ≤ lenS xs := by
              have h5 := lenS_flat xs
              have h6 : xs.flatten = (xs.take (j + 1)).flatten ++ (xs.drop (j + 1)).flatten := by
                rw [← List.flatten_append, List.take_append_drop]
              have h7 := congrArg List.length h6
              rw [List.length_append] at h7
              omega
            omega
          obtain ⟨p, hpe⟩ : ∃ p, p = rdL xs j := ⟨_, rfl⟩
          rw [← hpe] at hx hlp HFN hfl HCp
          clear hpe hCp
          go_wp2_with (at_builtin; refine Kd.R_append_rows (Kd.int .i64) (w0 := w) w.heap.size rfl (.tmp 31) (.tmp 32) 22 2 (.int .i64 0) 8 rfl Try.underlying22 of_info rfl (by decide) (by omega) _ (xs.take j).flatten p _ _ _ (fun _ => True) (fun _ => False) rfl rfl HV.out HCp.out (fun _ _ h => h) (fun _ h => h.elim) (fun _ _ => trivial) HBr.out HBr.out.size (by omega) ?_; intro v1 w9 ho hb hg hat)
          go_roundg (xs.length - (j + 1))
          case measure => omega
          case rel => exact ⟨j + 1, _, rfl, by go_num, by omega, by omega, ⟨by rw [HFN.out]; exact ho⟩, ⟨hb⟩⟩
        · obtain rfl : j = xs.length := by omega
          have hlt1 : ¬ (xs.length : Int) < (xs.length : Int) := by omega
          go_wp2
          go_ret
          refine ⟨_, rfl, ?_, HBr.out⟩
          have h := HV.out
          rwa [List.take_length] at h
theorem two_rows (W : World) (A B : Option Addr) (a b ca cb : Nat) (x y : List Int) (hx : Kd.C (Kd.int .i64) W A x.length x) (hy : Kd.C (Kd.int .i64) W B y.length y) (h1 : a = x.length) (h2 : b = y.length) (h3 : x.length ≤ ca) (h4 : y.length ≤ cb) : Kd.C (Kd.slice 2 (Kd.int .i64)) (W.alloc (.cells #[.slice A a ca, .slice B b cb] 22)) (some ⟨W.heap.size, 0, none⟩) ([x, y] : List (List Int)).length [x, y] := by
  subst h1 h2
  refine ⟨rfl, by simp, fun _ => ⟨_, rfl, fun j p hj => ?_⟩⟩
  have hc := fun i => blk_cell (blk_new W (.cells #[.slice A x.length ca, .slice B y.length cb] 22)) i
  match j, hj with
  | 0, hj =>
    have e : x = p := by simpa using hj
    subst e
    refine ⟨[.slice A x.length ca], rfl, ⟨A, ca, rfl, h3, Kd.C_alloc hx _⟩, fun i u hu => ?_⟩
    cases i with
    | zero =>
      have : Value.slice A x.length ca = u := by simpa using hu
      subst this
      exact (hc 0).trans rfl
    | succ i => simp at hu
  | 1, hj =>
    have e : y = p := by simpa using hj
    subst e
    refine ⟨[.slice B y.length cb], rfl, ⟨B, cb, rfl, h4, Kd.C_alloc hy _⟩, fun i u hu => ?_⟩
    cases i with
    | zero =>
      have : Value.slice B y.length cb = u := by simpa using hu
      subst this
      exact (hc 1).trans rfl
    | succ i => simp at hu
  | j + 2, hj => simp at hj
theorem downTo_stop (F : List Int) (n : Int) (k : Nat) (h : ¬ n < rd F (k : Int)) : downTo F n k = k := by
  cases k with
  | zero => rfl
  | succ k => rw [downTo, if_neg h]
theorem dig_next (z : List Int) (hz : ∀ q ∈ z, 2 ≤ q ∧ q ≤ 4) (N : Int) (m : Nat) (hm : m < z.length) : (List.replicate (m + 1) 0 ++ digL (z.drop (m + 1)) N).set m (N / prodI (z.drop (m + 1)) % rd z (m : Int)) = List.replicate m 0 ++ digL (z.drop m) N := by
  rw [List.drop_eq_getElem_cons hm, rd_nat' z m hm, List.replicate_succ', List.append_assoc, List.set_append]
  simp [digL]
set_option maxHeartbeats 4000000 in
set_option maxRecDepth 100000 in
theorem told_walk (g : Nat) (A : Option Addr) (c : Nat) (s : List Int) (AP : Option Addr) (cP : Nat) (P : List (List Int)) (AF : Option Addr) (cF : Nat) (F : List Int) (mm n : Int) (w : World) (hch : ChAt w g A c s AP cP P AF cF F mm) (hok : ChOk s P F) (hP : 0 < P.length) (hp1 : ∀ p ∈ P, 0 < p.length) (hn0 : rd F 0 ≤ n) (hn1 : n ≤ 1000000) :
    Calls Try.prog 81 #[.pointer (some ⟨g, 0, none⟩), .int .i64 n] w fun e w' => ∃ v0_ : Value, e = .returned v0_ ∧ Kd.R (Kd.int .i64) 2 w' w.heap.size (fun _ => True) v0_ (toldZ s P F n) ∧ Below w.heap.size w w' := by
  have HCH := Aside0.mk hch
  have HOK := Aside0.mk hok
  have HP1 := Aside0.mk hp1
  have HLL := Aside0.mk hok.hl
  have hPl := hok.hPl
  have hFl : F.length ≤ 100 := by rw [hok.hl]; exact hPl
  have hF0 : 0 < F.length := by rw [hok.hl]; exact hP
  have hc2 : w.cell? ⟨g, 2, none⟩ = some (.slice AF F.length cF) := (blk_cell hch.cell 2).trans rfl
  have HN0 := Aside0.mk hn0
  clear hch hok hp1 hn0
  go_enter Try.func81, Try.ntmps81
  go_wp2
  go_loopg [5] F.length (fun gg s5 wr => ∃ k : Nat, s5 = .int .i64 k ∧ k ≤ F.length - 1 ∧ k ≤ gg ∧ Aside0 (downTo F n k = downTo F n (F.length - 1)) ∧ Aside0 (Below w.heap.size w wr))
  case atStart => exact ⟨F.length - 1, congrArg (Value.int .i64) (by omega), by omega, by omega, ⟨rfl⟩, ⟨Below.refl _ _⟩⟩
  case round =>
    obtain ⟨k, rfl, hk, hgg, HD, HB⟩ := hrel
    have hkl : k < F.length := by omega
    have hk1 : (k : Int) < (F.length : Int) := by omega
    have hk0 : (0 : Int) ≤ (k : Int) := by omega
    have hcr : wr.cell? ⟨g, 2, none⟩ = some (.slice AF F.length cF) := (blk_cell (HCH.out.below HB.out).cell 2).trans rfl
    obtain ⟨adF, eF, hxF⟩ := Kd.at_int HCH.out.hF (k : Int) hk0 hk1
    cases eF
    rw [Int.toNat_natCast] at hxF
    replace hxF := cell_blk_ne hxF HB.out
    have hfb := HOK.out.hFb (rd F (k : Int)) (by rw [rd_nat' F k hkl]; exact List.getElem_mem hkl)
    by_cases hgt : n < rd F (k : Int)
    · have hk2 : 1 ≤ k := by
        cases k with
        | zero => exact absurd hgt (Int.not_lt.2 HN0.out)
        | succ k => omega
      have HD2 := Aside0.mk (show downTo F n (k - 1) = downTo F n (F.length - 1) by
        obtain ⟨q, rfl⟩ : ∃ q, k = q + 1 := ⟨k - 1, by omega⟩
        rw [← HD.out, downTo, if_pos hgt]; rfl)
      obtain ⟨fk, hfk⟩ : ∃ fk, fk = rd F (k : Int) := ⟨_, rfl⟩
      rw [← hfk] at hxF hgt hfb
      clear hfk
      have hgt2 : decide (fk > n) = true := decide_eq_true hgt
      go_wp2
      go_roundg (k - 1)
      case measure => omega
      case rel => exact ⟨k - 1, congrArg (Value.int .i64) (by omega), by omega, by omega, HD2, HB⟩
    · have HKK := Aside0.mk ((downTo_stop F n k hgt).symm.trans HD.out)
      have hkP : k < P.length := by rw [← HLL.out]; exact hkl
      obtain ⟨adP, Ap, cp, eP, hxP, hlp, hCp⟩ := at_rows HCH.out.hP k hkP
      cases eP
      replace hxP := cell_blk_ne hxP HB.out
      have HCP := Aside0.mk hCp
      have hpm : rdL P k ∈ P := by rw [rdL_eq P k hkP]; exact List.getElem_mem hkP
      obtain ⟨hp3, hpk⟩ := HOK.out.hp _ hpm
      have HPK := Aside0.mk hpk
      have HZ := Aside0.mk (szs_ok s HOK.out.hq _ hpk)
      have hpp := HP1.out _ hpm
      have HPE := Aside0.mk (show rdL P k = P.getD k [] from rfl)
      obtain ⟨fk, hfk⟩ : ∃ fk, fk = rd F (k : Int) := ⟨_, rfl⟩
      have HFK := Aside0.mk hfk
      rw [← hfk] at hxF hgt hfb
      clear hfk hCp hpk hpm
      obtain ⟨p, hpe⟩ : ∃ p, p = rdL P k := ⟨_, rfl⟩
      rw [← hpe] at hxP hlp hp3 HCP HPK HZ hpp HPE
      clear hpe
      have hgt2 : decide (fk > n) = false := decide_eq_false hgt
      have hcp1 : wr.cell? ⟨g, 1, none⟩ = some (.slice (some adP) P.length cP) := (blk_cell (HCH.out.below HB.out).cell 1).trans rfl
      have hnw : IntKind.i64.wrap (n - fk) = n - fk := by rw [IntKind.wrap_i64]; omega
      have hpl0 : (0 : Int) ≤ (p.length : Int) := by omega
      go_wp2_with ((with_reducible refine gate_dst (N := 45) rfl ?_); refine Kd.R_make (Kd.int .i64) w.heap.size 2 rfl (N := 45) rfl 22 _ _ rfl (p.length : Int) rfl rfl Try.underlying22 (.int .i64 0) 8 of_info rfl (by decide) (by omega) 0 (ok := fun _ => True) (okp := fun _ => True) rfl (fun _ hk => hk) trivial hpl0 (by rw [Int.toNat_natCast]; omega) HB.out HB.out.size ?_; intro vs w3 ho hb hg_ hnew_; have HS3 := Aside0.mk ho; have HB3 := Aside0.mk hb; clear ho hb hg_ hnew_)
      have HN0n := Aside0.mk (show (0 : Int) ≤ n - fk ∧ n - fk ≤ 1000000 by omega)
      obtain ⟨N0, hN0⟩ : ∃ N0, N0 = n - fk := ⟨_, rfl⟩
      have HNE := Aside0.mk hN0
      rw [← hN0] at HN0n ⊢
      clear hN0
      have hz8 : (szs s p).length = p.length := by simp [szs]
      have HZL := Aside0.mk hz8
      have HS4 := Aside0.mk (show Kd.R (Kd.int .i64) 2 w3 w.heap.size (fun _ => True) vs (List.replicate ((p.length : Int) - 1 + 1).toNat 0 ++ digL ((szs s p).drop ((p.length : Int) - 1 + 1).toNat) N0) by
        have h := HS3.out
        rw [show ((p.length : Int) - 1 + 1).toNat = p.length by omega, List.drop_of_length_le (by omega)]
        rw [Int.toNat_natCast] at h
        simpa [digL] using h)
      have HV4 := Aside0.mk (show N0 = N0 / prodI ((szs s p).drop ((p.length : Int) - 1 + 1).toNat) by
        rw [show ((p.length : Int) - 1 + 1).toNat = p.length by omega, List.drop_of_length_le (by omega)]
        simp [prodI])
      have hq0 := HN0n.out.1
      have hq1 := HN0n.out.2
      clear hz8 hxF hgt hgt2 hcr hcp1 hnw hfb hxP
      clear HS3
      go_loopg [1, 8] p.length (fun gi s1 s8 wi => ∃ (i v : Int), s1 = .int .i64 v ∧ s8 = .int .i64 i ∧ -1 ≤ i ∧ i < (p.length : Int) ∧ (i + 1).toNat ≤ gi ∧ 0 ≤ v ∧ v ≤ 1000000 ∧ Aside0 (v = N0 / prodI ((szs s p).drop (i + 1).toNat)) ∧ Aside0 (Kd.R (Kd.int .i64) 2 wi w.heap.size (fun _ => True) vs (List.replicate (i + 1).toNat 0 ++ digL ((szs s p).drop (i + 1).toNat) N0)) ∧ Aside0 (Below w.heap.size w wi))
      case atStart => exact ⟨(p.length : Int) - 1, N0, rfl, rfl, by omega, by omega, by omega, hq0, hq1, HV4, HS4, HB3⟩
      case round =>
        obtain ⟨i, v, rfl, rfl, hi1, hi2, hgi, hv0, hv1, HVi, HSi, HBi⟩ := hrel
        by_cases hi : 0 ≤ i
        · obtain ⟨m, rfl⟩ : ∃ m : Nat, i = m := ⟨i.toNat, by omega⟩
          have hip : m < p.length := by omega
          have HVi2 := Aside0.mk (show v = N0 / prodI ((szs s p).drop (m + 1)) from HVi.out)
          have HSi2 := Aside0.mk (show Kd.R (Kd.int .i64) 2 wr w.heap.size (fun _ => True) vs (List.replicate (m + 1) 0 ++ digL ((szs s p).drop (m + 1)) N0) from HSi.out)
          clear HVi HSi
          have hi0 : (0 : Int) ≤ (m : Int) := by omega
          obtain ⟨adp, ep, hxp⟩ := Kd.at_int HCP.out (m : Int) hi0 hi2
          cases ep
          rw [Int.toNat_natCast, rd_nat' p m hip] at hxp
          replace hxp := cell_blk_ne hxp HBi.out
          have hpi := HPK.out _ (List.getElem_mem hip)
          obtain ⟨ii, hii⟩ : ∃ ii : Nat, p[m] = (ii : Int) := ⟨p[m].toNat, by omega⟩
          rw [hii] at hxp hpi
          have hil : (ii : Int) < (s.length : Int) := by omega
          have hii0 : (0 : Int) ≤ (ii : Int) := by omega
          obtain ⟨ads, es, hz⟩ := Kd.at_int HCH.out.hs (ii : Int) hii0 hil
          cases es
          rw [Int.toNat_natCast] at hz
          replace hz := cell_blk_ne hz HBi.out
          have hg0 : wr.cell? ⟨g, 0, none⟩ = some (.slice (some ads) s.length c) := (blk_cell (HCH.out.below HBi.out).cell 0).trans rfl
          have hq1_ := rd_ge s _ HOK.out.hq ii (by omega)
          have HRZ := Aside0.mk (show rd (szs s p) (m : Int) = rd s (ii : Int) by
            rw [rd_nat' _ m (by rw [HZL.out]; exact hip)]; simp [szs, hii])
          obtain ⟨q, hqq⟩ : ∃ q, q = rd s (ii : Int) := ⟨_, rfl⟩
          rw [← hqq] at hz hq1_ HRZ
          clear hqq hii hpi
          obtain ⟨hqm1, hqm2⟩ := hq1_
          have hmod1 := Int.emod_nonneg v (b := q) (by omega)
          have hmod2 := Int.emod_lt_of_pos v (b := q) (by omega)
          have hd1 : 0 ≤ v / q := Int.ediv_nonneg hv0 (by omega)
          have hd2 : v / q ≤ v := Int.ediv_le_self _ hv0
          have HSL := Aside0.mk (show (List.replicate (m + 1) 0 ++ digL ((szs s p).drop (m + 1)) N0).length = p.length by
            rw [List.length_append, List.length_replicate, digL_len, List.length_drop, HZL.out]; omega)
          have HDN := Aside0.mk (dig_next (szs s p) HZ.out N0 m (by rw [HZL.out]; exact hip))
          have HDV := Aside0.mk (div_prod (szs s p) N0 m (by rw [HZL.out]; exact hip) HZ.out)
          rw [HRZ.out, ← HVi2.out] at HDN HDV
          obtain ⟨Sg, hSg⟩ : ∃ Sg, Sg = List.replicate (m + 1) 0 ++ digL ((szs s p).drop (m + 1)) N0 := ⟨_, rfl⟩
          rw [← hSg] at HSL HDN HSi2
          clear hSg
          obtain ⟨go9, co9, eo9, gb9, gl9, cl9, HG9⟩ := Kd.R_form HSi2.out (by rw [HSL.out]; omega)
          rw [HSL.out] at eo9
          cases eo9
          have GB9 := Aside0.mk gb9
          clear gb9 gl9 HG9
          obtain ⟨hx9, hf9⟩ := Kd.R_celln 0 HSi2.out (m : Int) hi0 hi2
          rw [Int.toNat_natCast] at hx9 hf9
          have HP := Aside0.mk (Kd.R_putg HSi2.out (m : Int) (v % q)).1
          rw [Int.toNat_natCast, HDN.out] at HP
          go_wp2
          go_region
          go_wp2
          go_roundg m
          case measure => omega
          case rel =>
            refine ⟨(m : Int) - 1, v / q, by first | rfl | go_num, by first | rfl | go_num, by omega, by omega, by omega, hd1, by omega, ⟨?_⟩, ⟨?_⟩, ⟨?_⟩⟩
            · rw [show ((m : Int) - 1 + 1).toNat = m by omega]
              exact HDV.out
            · rw [show ((m : Int) - 1 + 1).toNat = m by omega]
              exact Kd.R_drew HP.out
            · exact below_drew (below_set HBi.out GB9.out)
        · obtain rfl : i = -1 := by omega
          have HSE := Aside0.mk (show Kd.R (Kd.int .i64) 2 wr w.heap.size (fun _ => True) vs (digL (szs s p) N0) from by
            have h := HSi.out
            rw [show ((-1 : Int) + 1).toNat = 0 from rfl] at h
            simpa using h)
          clear HSi HVi
          have hdl : (digL (szs s p) N0).length = p.length := by rw [digL_len, HZL.out]
          have HDL := Aside0.mk hdl
          obtain ⟨As, cs, es, hls, hCs⟩ := Kd.R_reads HSE.out
          rw [hdl] at es hls
          subst es
          have hlsum : lenS [p, digL (szs s p) N0] = p.length + p.length := by simp [lenS, hdl]
          have HCT := Aside0.mk (concat_walk (some ⟨wr.heap.size, 0, none⟩) 2 [p, digL (szs s p) N0] (wr.alloc (.cells #[.slice Ap p.length cp, .slice As p.length cs] 22)) (two_rows wr Ap As p.length p.length cp cs p _ (Kd.C_below HCP.out HBi.out) hCs rfl hdl.symm hlp (by rw [hdl]; exact hls)) (by simp) (by rw [hlsum]; omega) (by rw [hlsum]; omega))
          have hbw := HBi.out.size
          have HBW := Aside0.mk (below_alloc HBi.out (.cells #[.slice Ap p.length cp, .slice As p.length cs] 22))
          clear hCs hdl hlsum hls
          go_wp2_with fail
          refine HCT.out.mono ?_
          rintro e w5 ⟨v5, rfl, hR5, hb5⟩
          have HR5 := Aside0.mk hR5
          have HB5 := Aside0.mk hb5
          clear hR5 hb5
          go_wp2
          go_ret
          refine ⟨_, rfl, ?_, below_step HBW.out HB5.out⟩
          have e1 : toldZ s P F n = ([p, digL (szs s p) N0] : List (List Int)).flatten := by
            unfold toldZ
            rw [← HKK.out, ← HPE.out, ← HFK.out, ← HNE.out]
            simp
          rw [e1]
          exact Kd.R_lower HR5.out HBW.out.size
/-- The choices whose number comes never, from a number on. -/
def missL (f : Int → List Int) : Int → List Int → List (List Int)
  | _, [] => []
  | n, x :: o => if x = 0 then f n :: missL f (n + 1) o else missL f (n + 1) o
/-- The choices of t places that no row has. -/
def missT (s rows : List Int) (t : Nat) : List (List Int) := missL (toldZ s (plc s.length t 0) (firsts s 0 (plc s.length t 0))) 0 (oftT s t rows)
theorem miss_next (f : Int → List Int) (o : List Int) (j : Nat) (hj : j < o.length) : missL f (j : Int) (o.drop j) = if rd o (j : Int) = 0 then f (j : Int) :: missL f ((j : Int) + 1) (o.drop (j + 1)) else missL f ((j : Int) + 1) (o.drop (j + 1)) := by
  rw [List.drop_eq_getElem_cons hj, rd_nat' o j hj]; rfl
theorem told_plc (g : Nat) (A : Option Addr) (c : Nat) (s : List Int) (t : Nat) (AP : Option Addr) (cP : Nat) (AF : Option Addr) (cF : Nat) (n : Int) (w : World) (hch : ChAt w g A c s AP cP (plc s.length t 0) AF cF (firsts s 0 (plc s.length t 0)) (manyC s (plc s.length t 0))) (h8 : s.length ≤ 8) (hs : ∀ q ∈ s, 2 ≤ q ∧ q ≤ 4) (ht0 : 1 ≤ t) (ht : t ≤ 3) (hn0 : 0 ≤ n) (hn1 : n < manyC s (plc s.length t 0)) :
    Calls Try.prog 81 #[.pointer (some ⟨g, 0, none⟩), .int .i64 n] w fun e w' => ∃ v0_ : Value, e = .returned v0_ ∧ Kd.R (Kd.int .i64) 2 w' w.heap.size (fun _ => True) v0_ (toldZ s (plc s.length t 0) (firsts s 0 (plc s.length t 0)) n) ∧ Below w.heap.size w w' := by
  have hm := plc_many s h8 hs t ht
  have hP : 0 < (plc s.length t 0).length := by
    cases hp : plc s.length t 0 with
    | nil => rw [hp] at hn1; simp [manyC] at hn1; omega
    | cons p P => simp
  have hf : rd (firsts s 0 (plc s.length t 0)) 0 = 0 := by
    cases hp : plc s.length t 0 with
    | nil => rw [hp] at hP; simp at hP
    | cons p P => rfl
  exact told_walk g A c s AP cP _ AF cF _ _ n w hch (plc_chok s h8 hs t ht) hP (fun p hp => by have := (plc_ok _ _ _ p hp).1; omega) (by rw [hf]; exact hn0) (by omega)
set_option maxHeartbeats 4000000 in
set_option maxRecDepth 100000 in
theorem missing_walk (g : Nat) (A : Option Addr) (c : Nat) (s : List Int) (t : Nat) (AP : Option Addr) (cP : Nat) (AF : Option Addr) (cF : Nat) (AR : Option Addr) (cR : Nat) (rows : List Int) (w : World) (hch : ChAt w g A c s AP cP (plc s.length t 0) AF cF (firsts s 0 (plc s.length t 0)) (manyC s (plc s.length t 0))) (h8 : s.length ≤ 8) (hs : ∀ q ∈ s, 2 ≤ q ∧ q ≤ 4) (ht0 : 1 ≤ t) (ht : t ≤ 3)
    (hR : Kd.C (Kd.int .i64) w AR rows.length rows) (hRl : rows.length ≤ 1000000) (hr : ∀ r ∈ rows, 0 ≤ r ∧ r ≤ 1073741824) :
    Calls Try.prog 56 #[.pointer (some ⟨g, 0, none⟩), .slice AR rows.length cR] w fun e w' => ∃ v0_ : Value, e = .returned v0_ ∧ Kd.S (Kd.slice 2 (Kd.int .i64)) 22 w' w.heap.size (fun _ => True) v0_ (missT s rows t) ∧ Below w.heap.size w w' := by
  have HCH := Aside0.mk hch
  have HQ := Aside0.mk hs
  have HW1 := Aside0.mk (often_plc g A c s t AP cP AF cF AR cR rows (w.alloc (.cells #[] 22)) (hch.below (below_alloc (Below.refl _ _) _)) h8 hs ht (Kd.C_alloc hR _) hRl hr)
  have HO1 := Aside0.mk (show Kd.S (Kd.slice 2 (Kd.int .i64)) 22 (w.alloc (.cells #[] 22)) w.heap.size (fun _ => True) (.slice (some ⟨w.heap.size, 0, none⟩) 0 0) [] from ⟨fun _ => 0, fun _ _ => trivial, OwnRow.lit w w.heap.size (Reps.none _ _) (Nat.le_refl _) (by simp)⟩)
  have HB1 := Aside0.mk (below_alloc (Below.refl w.heap.size w) (.cells #[] 22))
  have HZ1 := Aside0.mk (World.size_alloc w (.cells #[] 22))
  have HMM := Aside0.mk (plc_many s h8 hs t ht)
  have HOL := Aside0.mk (oftT_len s t rows)
  clear hch hs hR hr
  go_enter Try.func56, Try.ntmps56
  go_wp2_with fail
  refine HW1.out.mono ?_
  rintro e w2 ⟨v2, rfl, hR2, hb2⟩
  obtain ⟨A2, c2, rfl⟩ := Kd.R_slice hR2
  obtain ⟨o, hoe⟩ : ∃ o, o = oftT s t rows := ⟨_, rfl⟩
  have HMV := Aside0.mk (show ([] : List (List Int)) ++ missL (toldZ s (plc s.length t 0) (firsts s 0 (plc s.length t 0))) ((0 : Nat) : Int) (o.drop 0) = missT s rows t by rw [hoe]; rfl)
  rw [← hoe] at hR2 HOL ⊢
  have HB2 := Aside0.mk (below_step HB1.out hb2)
  have HO2 := Aside0.mk (show Kd.S (Kd.slice 2 (Kd.int .i64)) 22 w2 w.heap.size (fun k => some k ≠ (Value.slice A2 o.length c2).ownBlock) (.slice (some ⟨w.heap.size, 0, none⟩) 0 0) [] from Kd.S_mono (Kd.S_below (Kd.S_bound HO1.out) hb2) (fun k hk he => by
    have h1 := Kd.R_base hR2 k he.symm
    have h2 := hk.2.2.1
    omega))
  have HI2 := Aside0.mk (Kd.R_lower hR2 (by rw [HZ1.out]; omega : w.heap.size ≤ (w.alloc (.cells #[] 22)).heap.size))
  have hol : o.length ≤ 3584 := by have h1 := HOL.out; have h2 := HMM.out; omega
  clear hR2 hb2 hoe
  go_wp2
  go_loopg [5, 13] o.length (fun gg s5 s13 wr => ∃ (j : Nat) (v : Value) (out : List (List Int)), s5 = v ∧ s13 = .int .i64 j ∧ j ≤ o.length ∧ o.length - j ≤ gg ∧ out.length ≤ j ∧ Aside0 (out ++ missL (toldZ s (plc s.length t 0) (firsts s 0 (plc s.length t 0))) (j : Int) (o.drop j) = missT s rows t) ∧ Aside0 (Kd.S (Kd.slice 2 (Kd.int .i64)) 22 wr w.heap.size (fun k => some k ≠ (Value.slice A2 o.length c2).ownBlock) v out) ∧ Aside0 (Kd.R (Kd.int .i64) 2 wr w.heap.size (fun _ => True) (.slice A2 o.length c2) o) ∧ Aside0 (Below w.heap.size w wr))
  case atStart => exact ⟨0, _, [], rfl, rfl, by omega, by omega, by simp, HMV, HO2, HI2, HB2⟩
  case round =>
    obtain ⟨j, v, out, rfl, rfl, hj, hgg, houl, HV, HO, HI, HB⟩ := hrel
    by_cases hlt : j < o.length
    · have hlt1 : (j : Int) < (o.length : Int) := by omega
      have hj0 : (0 : Int) ≤ (j : Int) := by omega
      obtain ⟨ad2, e2, hx2⟩ := Kd.at_int (Kd.R_reads' HI.out).2.2 (j : Int) hj0 hlt1
      cases e2
      rw [Int.toNat_natCast] at hx2
      have HNX := Aside0.mk (miss_next (toldZ s (plc s.length t 0) (firsts s 0 (plc s.length t 0))) o j hlt)
      obtain ⟨x, hxe⟩ : ∃ x, x = rd o (j : Int) := ⟨_, rfl⟩
      rw [← hxe] at hx2 HNX
      clear hxe
      by_cases hx0 : x = 0
      · subst hx0
        rw [if_pos rfl] at HNX
        have HTW := Aside0.mk (told_plc g A c s t AP cP AF cF (j : Int) wr (HCH.out.below HB.out) h8 HQ.out ht0 ht hj0 (by have h1 := HOL.out; have h2 := HMM.out; omega))
        go_wp2_with fail
        refine HTW.out.mono ?_
        rintro e w4 ⟨v4, rfl, hR4, hb4⟩
        obtain ⟨A4, c4, rfl⟩ := Kd.R_slice hR4
        have HSZ : ∀ k, u5.ownBlock = some k → k < wr.heap.size := fun k hk => (Kd.S_lt HO.out k hk)
        have HSO : ∀ k, (Value.slice (some ad2) o.length c2).ownBlock = some k → k < wr.heap.size := fun k hk => (R_blk HI.out k hk).1
        have hsz4 := hb4.size
        have HR4 := Aside0.mk hR4
        have HO4 := Aside0.mk (Kd.S_mono (Kd.S_old HO.out hb4) (fun k hk => (⟨hk.1, by have := hk.2; omega⟩ : some k ≠ (Value.slice (some ad2) o.length c2).ownBlock ∧ ¬ wr.heap.size ≤ k)))
        have HI4 := Aside0.mk (Kd.R_below HI.out hb4)
        have HB4 := Aside0.mk (below_step HB.out hb4)
        have hbw := HB.out.size
        obtain ⟨T, hT⟩ : ∃ T, T = toldZ s (plc s.length t 0) (firsts s 0 (plc s.length t 0)) (j : Int) := ⟨_, rfl⟩
        rw [← hT] at HR4 HNX
        rw [← hT]
        clear hR4 hb4 hT HTW
        go_wp2_with (at_builtin; refine Kd.S_append (Kd.slice 2 (Kd.int .i64)) (w0 := w) w.heap.size rfl (.tmp 20) (.tmp 24) 25 22 (.slice none 0 0) 24 rfl Try.underlying25 nc_info22 rfl (by decide) (by omega) u5 out T [.slice A4 T.length c4] (fun k => some k ≠ (Value.slice (some ad2) o.length c2).ownBlock) (fun k => wr.heap.size ≤ k) rfl rfl (nc_m HR4.out hbw) (fun k hk => ⟨fun he => by have := HSO k he.symm; omega, fun he => by have := HSZ k he.symm; omega⟩) (fun k hk he => by have := HSO k he.symm; omega) HO4.out HB4.out HB4.out.size (by omega) ?_; intro v9 w9 ho hb hg hat)
        have HI9 := Aside0.mk (show Kd.R (Kd.int .i64) 2 w9 w.heap.size (fun _ => True) (.slice (some ad2) o.length c2) o from Kd.R_mono (Kd.R_grown (R_own HI4.out) hg (fun k hk he => ((Kd.S_R HO4.out).1 k he.symm).1 hk.symm)) (fun _ _ => trivial))
        have HO9 := Aside0.mk ho
        have HB9 := Aside0.mk hb
        clear ho hb hg hat
        go_roundg (o.length - (j + 1))
        case measure => omega
        case rel =>
          refine ⟨j + 1, v9, out ++ [T], rfl, by go_num, by omega, by omega, by simp; omega, ⟨?_⟩, HO9, HI9, HB9⟩
          rw [← HV.out, HNX.out, List.append_assoc]; rfl
      · rw [if_neg hx0] at HNX
        have hx1 : (x == 0) = false := beq_eq_false_iff_ne.2 hx0
        go_wp2
        go_roundg (o.length - (j + 1))
        case measure => omega
        case rel =>
          refine ⟨j + 1, u5, out, rfl, by go_num, by omega, by omega, by omega, ⟨?_⟩, HO, HI, HB⟩
          rw [← HV.out, HNX.out]; rfl
    · obtain rfl : j = o.length := by omega
      have hlt1 : ¬ (o.length : Int) < (o.length : Int) := by omega
      have HVE := Aside0.mk (show out = missT s rows t by
        rw [← HV.out, List.drop_of_length_le (Nat.le_refl _)]; simp [missL])
      go_wp2
      go_ret
      exact ⟨_, rfl, by rw [← HVE.out]; exact Kd.S_mono HO.out (fun _ _ => trivial), HB.out⟩
end Go.Proofs.Ythbfaefneoeadaa.DG
