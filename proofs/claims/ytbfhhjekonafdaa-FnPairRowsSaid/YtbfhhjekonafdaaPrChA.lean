/- Walks over the choices of a space: of. Spaces of at most 8 places of sizes 2 to 4, rows of at most 1073741824. -/
import Derived.Test.YtbfhhjekonafdaaPrCh
namespace Go.Proofs.Ytbfhhjekonafdaa.DG
open Go Go.RowKit Go.Proofs.YtbfhhjekonafdaaW.PrintWords Go.Proofs.YtbfhhjekonafdaaW.PrintLast Go.Proofs.YtbfhhjekonafdaaW.PrintMore
set_option linter.unusedVariables false
set_option linter.unusedSimpArgs false
def rdL (xs : List (List Int)) (i : Nat) : List Int := xs.getD i []
theorem rdL_eq (xs : List (List Int)) (i : Nat) (h : i < xs.length) : rdL xs i = xs[i] := by simp [rdL, List.getElem?_eq_getElem h]
theorem at_rows {w : World} {A : Option Addr} {n : Nat} {xs : List (List Int)} (h : Kd.C (Kd.slice 2 (Kd.int .i64)) w A n xs) (i : Nat) (h1 : i < n) : ∃ ad A0 c0, A = some ad ∧ w.cell? (ad.add i) = some (.slice A0 (rdL xs i).length c0) ∧ (rdL xs i).length ≤ c0 ∧ Kd.C (Kd.int .i64) w A0 (rdL xs i).length (rdL xs i) := by
  obtain ⟨ad, c, e, _, hK, hc0⟩ := Kd.C_get h ([] : List Int) (i : Int) (by omega) (by omega)
  rw [Int.toNat_natCast] at hK hc0
  have hc : ∀ j u, c[j]? = some u → w.cell? (ad.add (i * 1 + j)) = some u := hc0
  obtain ⟨A0, c0, rfl, l0, g0⟩ := hK
  exact ⟨ad, A0, c0, e, by have hq := hc 0 _ rfl; rwa [Nat.mul_one, Nat.add_zero] at hq, l0, g0⟩
/-- What the choices' struct holds. -/
structure ChAt (w : World) (g : Nat) (A : Option Addr) (c : Nat) (s : List Int) (AP : Option Addr) (cP : Nat) (P : List (List Int)) (AF : Option Addr) (cF : Nat) (F : List Int) (m : Int) : Prop where
  cell : w.heap[g]? = some (.cells #[.slice A s.length c, .slice AP P.length cP, .slice AF F.length cF, .int .i64 m] 82 (0, 0))
  hs : Kd.C (Kd.int .i64) w A s.length s
  hP : Kd.C (Kd.slice 2 (Kd.int .i64)) w AP P.length P
  hF : Kd.C (Kd.int .i64) w AF F.length F
  lc : s.length ≤ c
theorem ChAt.below {w w' : World} {g : Nat} {A : Option Addr} {c : Nat} {s : List Int} {AP : Option Addr} {cP : Nat} {P : List (List Int)} {AF : Option Addr} {cF : Nat} {F : List Int} {m : Int} (h : ChAt w g A c s AP cP P AF cF F m) (hb : Below w.heap.size w w') : ChAt w' g A c s AP cP P AF cF F m :=
  ⟨blk_below h.cell hb, Kd.C_below h.hs hb, Kd.C_below h.hP hb, Kd.C_below h.hF hb, h.lc⟩
/-- What the choices' lists are. -/
structure ChOk (s : List Int) (P : List (List Int)) (F : List Int) : Prop where
  h8 : s.length ≤ 8
  hq : ∀ q ∈ s, 2 ≤ q ∧ q ≤ 4
  hl : F.length = P.length
  hp : ∀ p ∈ P, p.length ≤ 3 ∧ PlOk s.length p
  hPl : P.length ≤ 100
  hFb : ∀ x ∈ F, 0 ≤ x ∧ x ≤ 100000
theorem ofZ_take (s d F : List Int) (P : List (List Int)) (j : Nat) (hl : F.length = P.length) (hj : j < P.length) : (ofZ s d F P).take (j + 1) = (ofZ s d F P).take j ++ [rd F (j : Int) + wordI 0 (szs s (rdL P j)) ((rdL P j).map (rd d))] := by
  have hlen : (ofZ s d F P).length = P.length := by simp [ofZ, hl]
  rw [List.take_succ_eq_append_getElem (by omega), rdL_eq P j hj, rd_nat' F j (by omega)]
  simp [ofZ]
theorem word_next2 (z y : List Int) (acc : Int) (i : Nat) (h : i < z.length) (h2 : i < y.length) : wordI acc (z.drop i) (y.drop i) = wordI (acc * z[i] + y[i]) (z.drop (i + 1)) (y.drop (i + 1)) := by
  rw [List.drop_eq_getElem_cons h, List.drop_eq_getElem_cons h2]
  rfl
def ob4 : Nat → Int
  | 0 => 1
  | n + 1 => 4 * ob4 n
theorem ob4_le : ∀ i, i ≤ 3 → ob4 i ≤ 64 ∧ 1 ≤ ob4 i := by decide
theorem digL_le3 (s : List Int) (hs : ∀ q ∈ s, 2 ≤ q ∧ q ≤ 4) (w : Int) : ∀ (i : Nat), 0 ≤ rd (digL s w) (i : Int) ∧ rd (digL s w) (i : Int) ≤ 3 := by
  induction s with
  | nil => intro i; simp [digL, rd]
  | cons q s ih =>
    intro i
    have hq := hs q (by simp)
    cases i with
    | zero =>
      simp only [digL, rd, Int.toNat_natCast, List.getD_cons_zero]
      have h1 := Int.emod_nonneg (w / prodI s) (show q ≠ 0 by omega)
      have h2 := Int.emod_lt_of_pos (w / prodI s) (show 0 < q by omega)
      omega
    | succ i =>
      have := ih (fun x hx => hs x (by simp [hx])) i
      simpa [digL, rd] using this
theorem dl_rd2 (s : List Int) (a : Int) (d0 d1 d2 d3 d4 d5 d6 d7 : Int) (h : dl s a 0 = [d0, d1, d2, d3, d4, d5, d6, d7]) (i : Nat) : rd [d0, d1, d2, d3, d4, d5, d6, d7] (i : Int) = rd (digL s a) (i : Int) := by
  have e : dl s a 0 = digL s a ++ List.replicate (8 - s.length) 0 := by simp [dl]
  rw [← h, e]
  simp only [rd, Int.toNat_natCast]
  exact getD_zeros _ _ _
theorem cell_blk_ne {w wr : World} {a : Addr} {v : Value} (h : w.cell? a = some v) (hb : Below w.heap.size w wr) : wr.cell? a = some v := (hb.cell (World.block_lt_of_cell? w a h)).trans h
theorem of_empty (w w1 : World) (o : Obj) (hb : Below w.heap.size w w1) : Kd.R (Kd.int .i64) 2 ((w1.alloc (.cells #[] 2)).alloc o) w.heap.size (fun k => k ≠ w1.heap.size + 1) (.slice (some ⟨w1.heap.size, 0, none⟩) 0 0) [] := by
  refine Kd.R_below (w := w1.alloc (.cells #[] 2)) ⟨fun k hk => ?_, OwnRow.lit w1 w.heap.size (Reps.none _ _) hb.size (by simp)⟩ ((Below.refl _ _).alloc (Nat.le_refl _) _)
  have : w1.heap.size = k := by simpa [Value.ownBlock] using hk
  omega
theorem of_info : (Try.prog.info? 2).map (fun i => (i.zero, i.size, i.bytes)) = some (some (.int .i64 0), 1, 8) := by kernel_rfl
set_option maxHeartbeats 2000000 in
set_option maxRecDepth 100000 in
theorem of_walk (g : Nat) (A : Option Addr) (c : Nat) (s : List Int) (AP : Option Addr) (cP : Nat) (P : List (List Int)) (AF : Option Addr) (cF : Nat) (F : List Int) (m row : Int) (w : World) (hch : ChAt w g A c s AP cP P AF cF F m) (hok : ChOk s P F) (hr0 : 0 ≤ row) (hr1 : row ≤ 1073741824) :
    Calls Try.prog 62 #[.pointer (some ⟨g, 0, none⟩), .int .i64 row] w fun e w' => ∃ v0_ : Value, e = .returned v0_ ∧ Kd.R (Kd.int .i64) 2 w' w.heap.size (fun _ => True) v0_ (ofZ s (digL s row) F P) ∧ Below w.heap.size w w' := by
  obtain ⟨d0, d1, d2, d3, d4, d5, d6, d7, hd⟩ := eight (dl s row 0) (dl_len s row 0 (by omega) hok.h8)
  have HCH := Aside0.mk hch
  have HOK := Aside0.mk hok
  have h8 := hok.h8
  have hl := hok.hl
  have hPl := hok.hPl
  have HDG := Aside0.mk (digitsOf_walk A c s row w hch.hs hok.h8 hok.hq hr0 hr1 d0 d1 d2 d3 d4 d5 d6 d7 hd)
  have HDL := Aside0.mk hd
  have hc0 : w.cell? ⟨g, 0, none⟩ = some (.slice A s.length c) := (blk_cell hch.cell 0).trans rfl
  clear hch hok hd
  go_enter Try.func62, Try.ntmps62
  go_wp2_with fail
  refine HDG.out.mono ?_
  rintro e w1 ⟨rfl, hb1⟩
  have hb2 : Below w.heap.size w ((w1.alloc (.cells #[] 2)).alloc (.cells (ag8 d0 d1 d2 d3 d4 d5 d6 d7) 60)) := below_alloc (below_alloc hb1 _) _
  have HB2 := Aside0.mk hb2
  have HD2 := Aside0.mk (blk_new (w1.alloc (.cells #[] 2)) (.cells (ag8 d0 d1 d2 d3 d4 d5 d6 d7) 60))
  have HO2 := Aside0.mk (of_empty w w1 (.cells (ag8 d0 d1 d2 d3 d4 d5 d6 d7) 60) hb1)
  have HCH1 := Aside0.mk (HCH.out.below hb2)
  have hc1 : ((w1.alloc (.cells #[] 2)).alloc (.cells (ag8 d0 d1 d2 d3 d4 d5 d6 d7) 60)).cell? ⟨g, 1, none⟩ = some (.slice AP P.length cP) := (blk_cell HCH1.out.cell 1).trans rfl
  rw [World.size_alloc] at HD2
  have hw1 : w.heap.size ≤ w1.heap.size := hb1.size
  clear hb1 hb2 hc0
  go_wp2
  go_loopg [6, 24] P.length (fun gg s6 s24 wr => ∃ (j : Nat) (v : Value), s6 = v ∧ s24 = .int .i64 j ∧ j ≤ P.length ∧ P.length - j ≤ gg ∧ Aside0 (Kd.R (Kd.int .i64) 2 wr w.heap.size (fun k => k ≠ w1.heap.size + 1) v ((ofZ s (digL s row) F P).take j)) ∧ Aside0 (wr.heap[w1.heap.size + 1]? = some (.cells (ag8 d0 d1 d2 d3 d4 d5 d6 d7) 60 (0, 0))) ∧ Aside0 (Below w.heap.size w wr))
  case atStart => exact ⟨0, _, rfl, rfl, by omega, by omega, ⟨by simpa using HO2.out⟩, HD2, HB2⟩
  case round =>
    obtain ⟨j, v, rfl, rfl, hj, hgg, HV, HDr, HB⟩ := hrel
    have hlen : (ofZ s (digL s row) F P).length = P.length := by simp [ofZ, hl]
    by_cases hlt : j < P.length
    · have hlt1 : (j : Int) < (P.length : Int) := by omega
      have hj0 : (0 : Int) ≤ (j : Int) := by omega
      obtain ⟨ad, Ap, cp, e, hx, hlp, hCp⟩ := at_rows HCH.out.hP j hlt
      cases e
      replace hx := cell_blk_ne hx HB.out
      have HCP := Aside0.mk hCp
      obtain ⟨hp3, hpk⟩ := HOK.out.hp _ (by rw [rdL_eq P j hlt]; exact List.getElem_mem hlt : rdL P j ∈ P)
      have HPK := Aside0.mk hpk
      have hFj := HOK.out.hFb _ (List.getElem_mem (show j < F.length by omega))
      have HTK := Aside0.mk (ofZ_take s (digL s row) F P j hl hlt)
      rw [rd_nat' F j (by omega)] at HTK
      obtain ⟨fj, hfj⟩ : ∃ x, x = F[j] := ⟨_, rfl⟩
      rw [← hfj] at hFj HTK
      obtain ⟨adF, eF, hxF⟩ := Kd.at_int HCH.out.hF (j : Int) hj0 (by omega)
      cases eF
      rw [Int.toNat_natCast, rd_nat' F j (by omega), ← hfj] at hxF
      have HXF := Aside0.mk hxF
      clear hxF hCp hpk hfj
      obtain ⟨p, hpe⟩ : ∃ p, p = rdL P j := ⟨_, rfl⟩
      rw [← hpe] at hx hlp hp3 HCP HPK HTK
      have HPE := Aside0.mk hpe
      clear hpe
      go_wp2
      go_loopg [9, 31] p.length (fun gi s9 s31 wi => ∃ (i : Nat) (n : Int), s9 = .int .i64 n ∧ s31 = .int .i64 i ∧ i ≤ p.length ∧ p.length - i ≤ gi ∧ 0 ≤ n ∧ Aside0 (n + 1 ≤ ob4 i) ∧ Aside0 (wordI n ((szs s p).drop i) ((p.map (rd (digL s row))).drop i) = wordI 0 (szs s p) (p.map (rd (digL s row)))) ∧ Aside0 (Kd.R (Kd.int .i64) 2 wi w.heap.size (fun k => k ≠ w1.heap.size + 1) u6 ((ofZ s (digL s row) F P).take j)) ∧ Aside0 (wi.heap[w1.heap.size + 1]? = some (.cells (ag8 d0 d1 d2 d3 d4 d5 d6 d7) 60 (0, 0))) ∧ Aside0 (Below w.heap.size w wi))
      case atStart => exact ⟨0, 0, rfl, rfl, by omega, by omega, by omega, ⟨by decide⟩, ⟨by simp⟩, HV, HDr, HB⟩
      case round =>
        obtain ⟨i, n, rfl, rfl, hi, hgi, hn0, HN4, HNW, HVi, HDi, HBi⟩ := hrel
        by_cases hip : i < p.length
        · have hip1 : (i : Int) < (p.length : Int) := by omega
          have hi0 : (0 : Int) ≤ (i : Int) := by omega
          obtain ⟨adp, ep, hxp⟩ := Kd.at_int HCP.out (i : Int) hi0 hip1
          cases ep
          rw [Int.toNat_natCast, rd_nat' p i hip] at hxp
          replace hxp := cell_blk_ne hxp HBi.out
          have hpi := HPK.out _ (List.getElem_mem hip)
          obtain ⟨ii, hii⟩ : ∃ ii : Nat, p[i] = (ii : Int) := ⟨p[i].toNat, by omega⟩
          rw [hii] at hxp hpi
          have hil : (ii : Int) < (s.length : Int) := by omega
          have hii0 : (0 : Int) ≤ (ii : Int) := by omega
          have hi8 : (ii : Int) < 8 := by omega
          obtain ⟨ads, es, hz⟩ := Kd.at_int HCH.out.hs (ii : Int) hii0 hil
          cases es
          rw [Int.toNat_natCast] at hz
          replace hz := cell_blk_ne hz HBi.out
          have hg0 : wr.cell? ⟨g, 0, none⟩ = some (.slice (some ads) s.length c) := (blk_cell (HCH.out.below HBi.out).cell 0).trans rfl
          have hcell := ag8_cell d0 d1 d2 d3 d4 d5 d6 d7 HDi.out ii (by omega)
          rw [dl_rd2 s row d0 d1 d2 d3 d4 d5 d6 d7 HDL.out ii] at hcell
          obtain ⟨hd0, hd3⟩ := digL_le3 s HOK.out.hq row ii
          have hq1 := rd_ge s _ HOK.out.hq ii (by omega)
          have HNX := Aside0.mk (word_next2 (szs s p) (p.map (rd (digL s row))) n i (by simp [szs]; exact hip) (by simpa using hip))
          have ez : (szs s p)[i]'(by simp [szs]; exact hip) = rd s (ii : Int) := by simp [szs, hii]
          have ey : (p.map (rd (digL s row)))[i]'(by simpa using hip) = rd (digL s row) (ii : Int) := by simp [hii]
          rw [ez, ey] at HNX
          clear ez ey
          obtain ⟨dd, hdd⟩ : ∃ dd, dd = rd (digL s row) (ii : Int) := ⟨_, rfl⟩
          obtain ⟨q, hqq⟩ : ∃ q, q = rd s (ii : Int) := ⟨_, rfl⟩
          rw [← hdd] at hcell hd0 hd3 HNX
          rw [← hqq] at hz hq1 HNX
          clear hdd hqq hii
          obtain ⟨hq1, hq2⟩ := hq1
          have hob := ob4_le i (by omega)
          have hn4 := HN4.out
          have hm1 : n * q ≤ n * 4 := Int.mul_le_mul_of_nonneg_left hq2 hn0
          have hm2 : 0 ≤ n * q := Int.mul_nonneg hn0 (by omega)
          have hm3 : n * q ≤ 256 := by omega
          have hs4 : IntKind.i64.wrap dd = dd := by rw [IntKind.wrap_i64]; omega
          clear hob hpi hm1
          have HM1 := Aside0.mk (show n * q ≤ n * 4 from Int.mul_le_mul_of_nonneg_left hq2 hn0)
          go_wp2
          go_region
          go_wp2
          go_roundg (p.length - (i + 1))
          case measure => omega
          case rel =>
            refine ⟨i + 1, n * q + dd, by go_num, by go_num, by omega, by omega, by omega, ⟨?_⟩, ⟨?_⟩, ?_, ?_, ?_⟩
            · show n * q + dd + 1 ≤ 4 * ob4 i
              have := HM1.out
              omega
            · rw [← HNX.out, HNW.out]
            · exact ⟨Kd.R_drew HVi.out⟩
            · exact HDi
            · exact ⟨below_drew HBi.out⟩
        · obtain rfl : i = p.length := by omega
          have hip1 : ¬ (p.length : Int) < (p.length : Int) := by omega
          have hnw : n = wordI 0 (szs s p) (p.map (rd (digL s row))) := by
            have h := HNW.out
            rw [List.drop_eq_nil_of_le (by simp [szs]), List.drop_eq_nil_of_le (by simp)] at h
            exact h
          have hn64 : n ≤ 63 := by
            have h1 := HN4.out
            have h2 := ob4_le p.length hp3
            omega
          have HNV := Aside0.mk hnw
          have hg2 : wr.cell? ⟨g, 2, none⟩ = some (.slice (some adF) F.length cF) := (blk_cell (HCH.out.below HBi.out).cell 2).trans rfl
          have hxF := cell_blk_ne HXF.out HBi.out
          have hjF : (j : Int) < (F.length : Int) := by omega
          have hblt : w1.heap.size + 1 < wr.heap.size := blk_lt HDi.out
          have hlv : ((ofZ s (digL s row) F P).take j).length = j := by rw [List.length_take]; omega
          clear hnw
          go_wp2_with (at_builtin; refine Kd.R_append (Kd.int .i64) (w0 := w) w.heap.size rfl (.tmp 51) (.tmp 61) 25 2 (.int .i64 0) 8 rfl Try.underlying25 of_info rfl (by decide) (by omega) u6 _ (fj + n) [.int .i64 (fj + n)] (fun k => k ≠ w1.heap.size + 1) (fun _ => False) rfl rfl rfl (fun _ h => h.elim) ?aF HVi.out HBi.out ?aS ?aL ?_; (case aF => exact fun k hk => by omega); (case aS => exact HBi.out.size); (case aL => omega); intro v1 w9 ho hb hg hat)
          go_roundg (P.length - (j + 1))
          case measure => omega
          case rel =>
            refine ⟨j + 1, _, rfl, by go_num, by omega, by omega, ⟨?_⟩, ⟨?_⟩, ⟨hb⟩⟩
            · rw [HTK.out, ← HNV.out]
              exact ho
            · exact blk_grown HDi.out hg (fun he => HVi.out.1 _ he.symm rfl)
    · obtain rfl : j = P.length := by omega
      have hlt1 : ¬ (P.length : Int) < (P.length : Int) := by omega
      go_wp2
      go_ret
      refine ⟨_, rfl, ?_, HB.out⟩
      have h := HV.out
      rw [List.take_of_length_le (by omega)] at h
      exact Kd.R_mono h (fun _ _ => trivial)
end Go.Proofs.Ytbfhhjekonafdaa.DG
