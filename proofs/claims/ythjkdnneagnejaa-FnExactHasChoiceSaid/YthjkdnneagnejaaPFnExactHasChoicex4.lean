-- WALKS, by a program and by hand
import Derived.Test.YthjkdnneagnejaaPFnExactHasChoicex0
import Derived.Test.YthjkdnneagnejaaPFnExactHasChoicex3
namespace Go.Proofs.Ythjkdnneagnejaa.PFnExactHasChoice
open Go.RowKit Go.Proofs.Ythjkdnneagnejaa.DG Go.Proofs.YthjkdnneagnejaaW.PrintWords Go.Proofs.YthjkdnneagnejaaW.PrintLast Go.Proofs.YthjkdnneagnejaaW.PrintMore
attribute [local go_sem] max2_int min2_int max_two min_two max_three min_three max_four min_four   -- for this text's walks alone
set_option linter.unusedVariables false
set_option linter.unusedSimpArgs false

/-! ### impl_HasChoice: function 26 -/
/-- A round of the choice: whether it is no good. -/
def hcBad (s l : List Int) (t k : Nat) : Bool := !(decide (0 ≤ rd l (k : Int)) && decide (rd l (k : Int) < (s.length : Int))) || (decide (0 < k) && decide (rd l (k : Int) ≤ rd l ((k - 1 : Nat) : Int))) || decide (rd l ((t + k : Nat) : Int) < 0) || decide (rd s (rd l (k : Int)) ≤ rd l ((t + k : Nat) : Int))
def hcL (s l d : List Int) (t : Nat) : Nat → Nat → Bool → Bool × Int
  | 0, _, has => (has, 0)
  | n + 1, k, has => if hcBad s l t k = true then (false, 2) else hcL s l d t n (k + 1) (has && rd d (rd l (k : Int)) == rd l ((t + k : Nat) : Int))
def hcGo (s l : List Int) (a : Int) : Option (Bool × Int) := if okS s = true then (if 0 ≤ a then (if a ≤ 1073741824 then some (hcL s l (digL s a) (l.length / 2) (l.length / 2) 0 true) else none) else none) else none
def impl_HasChoice.f (k : Nat) (l0 : List Int) (a1 : Int) (l2 : List Int) : Option (Bool × Int) := (impl_wordCode.f k l0 [a1]).bind fun c => if c = 0 then (if l2.length % 2 = 0 then ((impl_isStrength.f l0 ((l2.length / 2 : Nat) : Int)).bind fun b => if b = true then hcGo l0 l2 a1 else some (false, 2)) else some (false, 2)) else some (false, c)
theorem impl_HasChoice.mono : ∀ a0 a1 a2 k, LeO (impl_HasChoice.f k a0 a1 a2) (impl_HasChoice.f (k + 1) a0 a1 a2) := by
  intro a0 a1 a2 k
  unfold impl_HasChoice.f
  exact LeO.bind (impl_wordCode.mono _ _ k) (fun _ => LeO.refl _)
theorem one_row (W : World) (x : Int) : Kd.C (Kd.int .i64) (W.alloc (.cells #[.int .i64 x] 2)) (some ⟨W.heap.size, 0, none⟩) ([x] : List Int).length [x] := by
  refine Kd.C_of_reads (d := (0 : Int)) (h1 := fun _ => rfl) ⟨rfl, by simp, fun _ => ⟨_, rfl, fun j hj => ?_⟩⟩
  have hj0 : j = 0 := by simpa using hj
  subst hj0
  rw [add_plain, blk_cell (blk_new W _) 0]
  rfl
theorem place_ev (s : List Int) (a : Int) : impl_isPlace.f s a = some (decide (0 ≤ a ∧ a < (s.length : Int))) := by
  unfold impl_isPlace.f impl_places.f
  by_cases h0 : a ≥ 0
  · rw [if_pos h0, Option.bind_some]; congr 1; rw [Bool.eq_iff_iff]; simp; omega
  · rw [if_neg h0]; congr 1; rw [Bool.eq_iff_iff]; simp; omega
theorem hcL_bad {s l d : List Int} {t n k : Nat} {has : Bool} (h : hcBad s l t k = true) : hcL s l d t (n + 1) k has = (false, 2) := by
  simp only [hcL]; rw [if_pos h]
theorem hcL_good {s l d : List Int} {t n k : Nat} {has : Bool} (h : hcBad s l t k = false) : hcL s l d t (n + 1) k has = hcL s l d t n (k + 1) (has && rd d (rd l (k : Int)) == rd l ((t + k : Nat) : Int)) := by
  simp only [hcL]; rw [if_neg (by rw [h]; decide)]
theorem dl_rd (s : List Int) (a : Int) (d0 d1 d2 d3 d4 d5 d6 d7 : Int) (h : dl s a 0 = [d0, d1, d2, d3, d4, d5, d6, d7]) (i : Nat) : rd [d0, d1, d2, d3, d4, d5, d6, d7] (i : Int) = rd (digL s a) (i : Int) := by
  have e : dl s a 0 = digL s a ++ List.replicate (8 - s.length) 0 := by simp [dl]
  rw [← h, e]
  simp only [rd, Int.toNat_natCast]
  exact getD_zeros _ _ _
theorem digL_lt4 : ∀ (s : List Int), (∀ q ∈ s, 2 ≤ q ∧ q ≤ 4) → ∀ (a : Int) (i : Nat), 0 ≤ rd (digL s a) (i : Int) ∧ rd (digL s a) (i : Int) < 4
  | [], _, a, i => by simp [digL, rd]
  | q :: s, h, a, 0 => by
    have hq := h q (by simp)
    simp only [digL, rd, Int.toNat_natCast, List.getD_cons_zero]
    have h1 := Int.emod_nonneg (a / prodI s) (show q ≠ 0 by omega)
    have h2 := Int.emod_lt_of_pos (a / prodI s) (show 0 < q by omega)
    omega
  | q :: s, h, a, i + 1 => by
    have := digL_lt4 s (fun x hx => h x (by simp [hx])) a i
    simpa [digL, rd] using this
set_option maxHeartbeats 1000000 in
set_option maxRecDepth 100000 in
theorem hasChoice_code (k : Nat) (A0 : Option Addr) (c0 : Nat) (l0 : List Int) (a : Int) (A2 : Option Addr) (c2 : Nat) (l2 : List Int) (w : World) (hr0 : Kd.C (Kd.int .i64) w A0 l0.length l0) (hc0 : l0.length ≤ c0) (c : Int) (hw : impl_wordCode.f k l0 [a] = some c) (hn : c ≠ 0) :
    Calls Try.prog 26 #[.agg #[.slice A0 l0.length c0], .int .i64 a, .slice A2 l2.length c2] w fun e w' => e = .returned (.tuple #[.bool false, .int .i64 c]) ∧ Below w.heap.size w w' := by
  obtain HR0 := Aside0.mk hr0
  have HC0 := Aside0.mk hc0
  have HWE := Aside0.mk hw
  clear hr0 hc0 hw
  go_enter Try.func26, Try.ntmps26
  go_wp2_with fail
  have hb1 : Below w.heap.size w ((w.alloc (.cells #[.slice A0 l0.length c0] 28)).alloc (.cells #[.int .i64 a] 2)) := below_alloc (below_alloc (Below.refl _ _) _) _
  have hk1 := blk_alloc (blk_new w (.cells #[.slice A0 l0.length c0] 28)) (.cells #[.int .i64 a] 2)
  have hc1 := one_row (w.alloc (.cells #[.slice A0 l0.length c0] 28)) a
  rw [World.size_alloc] at hc1
  generalize (w.alloc (.cells #[.slice A0 l0.length c0] 28)).alloc (.cells #[.int .i64 a] 2) = W1 at hb1 hk1 hc1 ⊢
  refine (impl_wordCode.calls k A0 c0 l0 _ 1 [a] c W1 (Kd.C_below HR0.out hb1) HC0.out hc1 (Nat.le_refl _) HWE.out).mono ?_
  rintro e w2 ⟨rfl, hb2⟩
  have HB2 := Aside0.mk (below_step hb1 hb2)
  have HK2 := Aside0.mk (blk_below hk1 hb2)
  clear hb1 hk1 hc1 hb2
  have hne : (c != 0) = true := bne_iff_ne.2 hn
  go_wp2
  go_ret2
  exact ⟨rfl, HB2.out⟩
set_option maxHeartbeats 1000000 in
set_option maxRecDepth 100000 in
theorem hasChoice_odd (k : Nat) (A0 : Option Addr) (c0 : Nat) (l0 : List Int) (a : Int) (A2 : Option Addr) (c2 : Nat) (l2 : List Int) (w : World) (hr0 : Kd.C (Kd.int .i64) w A0 l0.length l0) (hc0 : l0.length ≤ c0) (hm : l2.length ≤ maxLen) (hw : impl_wordCode.f k l0 [a] = some 0) (ho : l2.length % 2 = 1) :
    Calls Try.prog 26 #[.agg #[.slice A0 l0.length c0], .int .i64 a, .slice A2 l2.length c2] w fun e w' => e = .returned (.tuple #[.bool false, .int .i64 2]) ∧ Below w.heap.size w w' := by
  unfold maxLen at hm
  obtain HR0 := Aside0.mk hr0
  have HC0 := Aside0.mk hc0
  have HWE := Aside0.mk hw
  clear hr0 hc0 hw
  go_enter Try.func26, Try.ntmps26
  go_wp2_with fail
  have hb1 : Below w.heap.size w ((w.alloc (.cells #[.slice A0 l0.length c0] 28)).alloc (.cells #[.int .i64 a] 2)) := below_alloc (below_alloc (Below.refl _ _) _) _
  have hk1 := blk_alloc (blk_new w (.cells #[.slice A0 l0.length c0] 28)) (.cells #[.int .i64 a] 2)
  have hc1 := one_row (w.alloc (.cells #[.slice A0 l0.length c0] 28)) a
  rw [World.size_alloc] at hc1
  generalize (w.alloc (.cells #[.slice A0 l0.length c0] 28)).alloc (.cells #[.int .i64 a] 2) = W1 at hb1 hk1 hc1 ⊢
  refine (impl_wordCode.calls k A0 c0 l0 _ 1 [a] 0 W1 (Kd.C_below HR0.out hb1) HC0.out hc1 (Nat.le_refl _) HWE.out).mono ?_
  rintro e w2 ⟨rfl, hb2⟩
  have HB2 := Aside0.mk (below_step hb1 hb2)
  have HK2 := Aside0.mk (blk_below hk1 hb2)
  clear hb1 hk1 hc1 hb2
  have hr2 : Int.tmod (l2.length : Int) 2 = 1 := by rw [Int.tmod_eq_emod_of_nonneg (by omega)]; omega
  have hr3 : (l2.length : Int) % 2 = 1 := by omega
  go_wp2
  go_ret2
  exact ⟨rfl, HB2.out⟩
set_option maxHeartbeats 1000000 in
set_option maxRecDepth 100000 in
theorem hasChoice_weak (k : Nat) (A0 : Option Addr) (c0 : Nat) (l0 : List Int) (a : Int) (A2 : Option Addr) (c2 : Nat) (l2 : List Int) (w : World) (hr0 : Kd.C (Kd.int .i64) w A0 l0.length l0) (hc0 : l0.length ≤ c0) (hm : l2.length ≤ maxLen) (t : Nat) (hw : impl_wordCode.f k l0 [a] = some 0) (ht : l2.length = 2 * t) (hst : impl_isStrength.f l0 (t : Int) = some false) :
    Calls Try.prog 26 #[.agg #[.slice A0 l0.length c0], .int .i64 a, .slice A2 l2.length c2] w fun e w' => e = .returned (.tuple #[.bool false, .int .i64 2]) ∧ Below w.heap.size w w' := by
  unfold maxLen at hm
  have HST := Aside0.mk hst
  clear hst
  obtain HR0 := Aside0.mk hr0
  have HC0 := Aside0.mk hc0
  have HWE := Aside0.mk hw
  clear hr0 hc0 hw
  go_enter Try.func26, Try.ntmps26
  go_wp2_with fail
  have hb1 : Below w.heap.size w ((w.alloc (.cells #[.slice A0 l0.length c0] 28)).alloc (.cells #[.int .i64 a] 2)) := below_alloc (below_alloc (Below.refl _ _) _) _
  have hk1 := blk_alloc (blk_new w (.cells #[.slice A0 l0.length c0] 28)) (.cells #[.int .i64 a] 2)
  have hc1 := one_row (w.alloc (.cells #[.slice A0 l0.length c0] 28)) a
  rw [World.size_alloc] at hc1
  generalize (w.alloc (.cells #[.slice A0 l0.length c0] 28)).alloc (.cells #[.int .i64 a] 2) = W1 at hb1 hk1 hc1 ⊢
  refine (impl_wordCode.calls k A0 c0 l0 _ 1 [a] 0 W1 (Kd.C_below HR0.out hb1) HC0.out hc1 (Nat.le_refl _) HWE.out).mono ?_
  rintro e w2 ⟨rfl, hb2⟩
  have HB2 := Aside0.mk (below_step hb1 hb2)
  have HK2 := Aside0.mk (blk_below hk1 hb2)
  clear hb1 hk1 hc1 hb2
  have hbx : w2.cell? ⟨w.heap.size, 0, none⟩ = some (.slice A0 l0.length c0) := (blk_cell HK2.out 0).trans rfl
  have hq2 : Int.tdiv (l2.length : Int) 2 = (t : Int) := by rw [Int.tdiv_eq_ediv_of_nonneg (by omega)]; omega
  have hr2 : Int.tmod (l2.length : Int) 2 = 0 := by rw [Int.tmod_eq_emod_of_nonneg (by omega)]; omega
  have hq3 : (l2.length : Int) / 2 = (t : Int) := by omega
  have hr3 : (l2.length : Int) % 2 = 0 := by omega
  clear ht
  go_wp2_with fail
  refine (impl_isStrength.calls A0 c0 l0 (t : Int) false w2 (Kd.C_below HR0.out HB2.out) HC0.out HST.out).mono ?_
  rintro e w3 ⟨rfl, hb3⟩
  have HB3 := Aside0.mk (below_step HB2.out hb3)
  clear hb3 hbx
  go_wp2
  go_ret2
  exact ⟨rfl, HB3.out⟩
set_option maxHeartbeats 4000000 in
set_option maxRecDepth 100000 in
theorem hasChoice_walk (k : Nat) (A0 : Option Addr) (c0 : Nat) (l0 : List Int) (a : Int) (A2 : Option Addr) (c2 : Nat) (l2 : List Int) (t : Nat) (w : World) (hr0 : Kd.C (Kd.int .i64) w A0 l0.length l0) (hc0 : l0.length ≤ c0) (hr2 : Kd.C (Kd.int .i64) w A2 l2.length l2) (hc2 : l2.length ≤ c2)
    (hw : impl_wordCode.f k l0 [a] = some 0) (ht : l2.length = 2 * t) (ht1 : 1 ≤ t) (hst : impl_isStrength.f l0 (t : Int) = some true) (h8 : l0.length ≤ 8) (hq : ∀ q ∈ l0, 2 ≤ q ∧ q ≤ 4) (ha0 : 0 ≤ a) (ha1 : a ≤ 1073741824) :
    Calls Try.prog 26 #[.agg #[.slice A0 l0.length c0], .int .i64 a, .slice A2 l2.length c2] w fun e w' => e = .returned (.tuple #[.bool (hcL l0 l2 (digL l0 a) t t 0 true).1, .int .i64 (hcL l0 l2 (digL l0 a) t t 0 true).2]) ∧ Below w.heap.size w w' := by
  have hm2 := hr2.2.1
  have hlz : (l2.length : Int) = 2 * (t : Int) := by omega
  obtain ⟨ad, rfl, _⟩ := Kd.at_int hr2 0 (by omega) (by omega)
  have HR0 := Aside0.mk hr0
  have HC0 := Aside0.mk hc0
  have HR2 := Aside0.mk hr2
  have HWE := Aside0.mk hw
  have HST := Aside0.mk hst
  have HQ := Aside0.mk hq
  have HLZ := Aside0.mk hlz
  have HT := Aside0.mk ht
  clear hr0 hc0 hr2 hw hst hq hlz ht
  go_enter Try.func26, Try.ntmps26
  go_wp2_with fail
  have hb1 : Below w.heap.size w ((w.alloc (.cells #[.slice A0 l0.length c0] 28)).alloc (.cells #[.int .i64 a] 2)) := below_alloc (below_alloc (Below.refl _ _) _) _
  have hk1 := blk_alloc (blk_new w (.cells #[.slice A0 l0.length c0] 28)) (.cells #[.int .i64 a] 2)
  have hc1 := one_row (w.alloc (.cells #[.slice A0 l0.length c0] 28)) a
  rw [World.size_alloc] at hc1
  generalize (w.alloc (.cells #[.slice A0 l0.length c0] 28)).alloc (.cells #[.int .i64 a] 2) = W1 at hb1 hk1 hc1 ⊢
  refine (impl_wordCode.calls k A0 c0 l0 _ 1 [a] 0 W1 (Kd.C_below HR0.out hb1) HC0.out hc1 (Nat.le_refl _) HWE.out).mono ?_
  rintro e w2 ⟨rfl, hb2⟩
  have HB2 := Aside0.mk (below_step hb1 hb2)
  have HK2 := Aside0.mk (blk_below hk1 hb2)
  clear hb1 hk1 hc1 hb2
  have hbx : w2.cell? ⟨w.heap.size, 0, none⟩ = some (.slice A0 l0.length c0) := (blk_cell HK2.out 0).trans rfl
  have hq2 : Int.tdiv (l2.length : Int) 2 = (t : Int) := by rw [Int.tdiv_eq_ediv_of_nonneg (by omega)]; have := HLZ.out; omega
  have hr2 : Int.tmod (l2.length : Int) 2 = 0 := by rw [Int.tmod_eq_emod_of_nonneg (by omega)]; have := HLZ.out; omega
  have hq3 : (l2.length : Int) / 2 = (t : Int) := by have := HLZ.out; omega
  have hr3 : (l2.length : Int) % 2 = 0 := by have := HLZ.out; omega
  go_wp2_with fail
  refine (impl_isStrength.calls A0 c0 l0 (t : Int) true w2 (Kd.C_below HR0.out HB2.out) HC0.out HST.out).mono ?_
  rintro e w3 ⟨rfl, hb3⟩
  have HB3 := Aside0.mk (below_step HB2.out hb3)
  have HK3 := Aside0.mk (blk_below HK2.out hb3)
  clear hb3 hbx
  have hbx : w3.cell? ⟨w.heap.size, 0, none⟩ = some (.slice A0 l0.length c0) := (blk_cell HK3.out 0).trans rfl
  obtain ⟨d0, d1, d2, d3, d4, d5, d6, d7, hd⟩ := eight (dl l0 a 0) (dl_len l0 a 0 (by omega) h8)
  have HDL := Aside0.mk hd
  clear hd
  go_wp2_with fail
  refine (digitsOf_walk A0 c0 l0 a w3 (Kd.C_below HR0.out HB3.out) h8 HQ.out ha0 ha1 d0 d1 d2 d3 d4 d5 d6 d7 HDL.out).mono ?_
  rintro e w4 ⟨rfl, hb4⟩
  have HB4 := Aside0.mk (below_alloc (below_step HB3.out hb4) (.cells (ag8 d0 d1 d2 d3 d4 d5 d6 d7) 73))
  have HK4 := Aside0.mk (blk_alloc (blk_below HK3.out hb4) (.cells (ag8 d0 d1 d2 d3 d4 d5 d6 d7) 73))
  have HD4 := Aside0.mk (blk_new w4 (.cells (ag8 d0 d1 d2 d3 d4 d5 d6 d7) 73))
  clear hb4 hbx
  have ht2 : (t : Int) ≤ (l2.length : Int) := by have := HLZ.out; omega
  have ht3 : (t : Int) ≤ (c2 : Int) := by omega
  go_wp2
  have HN0 := Aside0.mk (show hcL l0 l2 (digL l0 a) t (t - 0) 0 true = hcL l0 l2 (digL l0 a) t t 0 true from rfl)
  go_loopg [11, 42] t (fun gg s11 s42 wr => ∃ (j : Nat) (has : Bool), s11 = .bool has ∧ s42 = .int .i64 j ∧ j ≤ t ∧ t - j ≤ gg ∧ Aside0 (hcL l0 l2 (digL l0 a) t (t - j) j has = hcL l0 l2 (digL l0 a) t t 0 true) ∧ Aside0 (wr.heap[w.heap.size]? = some (.cells #[.slice A0 l0.length c0] 28 (0, 0))) ∧ Aside0 (wr.heap[w4.heap.size]? = some (.cells (ag8 d0 d1 d2 d3 d4 d5 d6 d7) 73 (0, 0))) ∧ Aside0 (Below w.heap.size w wr))
  case atStart => exact ⟨0, true, rfl, rfl, by omega, by omega, HN0, HK4, HD4, HB4⟩
  case round =>
    obtain ⟨j, has, rfl, rfl, hj, hgg, HN, HK, HDr, HB⟩ := hrel
    by_cases hlt : j < t
    · have hlt1 : (j : Int) < (t : Int) := by omega
      have hj0 : (0 : Int) ≤ (j : Int) := by omega
      have hlz := HLZ.out
      have hj2 : (j : Int) < (l2.length : Int) := by omega
      have hj3 : (t : Int) + (j : Int) < (l2.length : Int) := by omega
      have hj4 : (0 : Int) ≤ (t : Int) + (j : Int) := by omega
      obtain ⟨ad1, e, hx⟩ := Kd.at_int HR2.out (j : Int) hj0 hj2
      cases e
      obtain ⟨ad1, e, hs⟩ := Kd.at_int HR2.out ((t + j : Nat) : Int) (by omega) (by omega)
      cases e
      rw [Int.toNat_natCast] at hx hs
      replace hx := (HB.out.cell (World.block_lt_of_cell? w _ hx)).trans hx
      replace hs := (HB.out.cell (World.block_lt_of_cell? w _ hs)).trans hs
      have hbx : wr.cell? ⟨w.heap.size, 0, none⟩ = some (.slice A0 l0.length c0) := (blk_cell HK.out 0).trans rfl
      have e1 : t - j = (t - (j + 1)) + 1 := by omega
      have HN1 := Aside0.mk (show hcL l0 l2 (digL l0 a) t ((t - (j + 1)) + 1) j has = hcL l0 l2 (digL l0 a) t t 0 true by rw [← e1]; exact HN.out)
      clear e1 hlz HN
      obtain ⟨b, hb⟩ : ∃ b, b = decide (0 ≤ rd l2 (j : Int) ∧ rd l2 (j : Int) < (l0.length : Int)) := ⟨_, rfl⟩
      have HPL := Aside0.mk hb.symm
      clear hb
      cases b with
      | false =>
        go_wp2_with fail
        refine (impl_isPlace.calls A0 c0 l0 (rd l2 (j : Int)) false wr (Kd.C_below HR0.out HB.out) HC0.out (by rw [place_ev, HPL.out])).mono ?_
        rintro e w8 ⟨rfl, hb8⟩
        have HB8 := Aside0.mk (below_step HB.out hb8)
        clear hb8 hbx
        go_wp2
        go_ret2
        have hbd : hcBad l0 l2 t j = true := by
          have h := of_decide_eq_false HPL.out
          unfold hcBad
          simp only [Bool.or_eq_true, Bool.not_eq_true', Bool.and_eq_false_iff, decide_eq_false_iff_not]
          omega
        rw [← HN1.out, hcL_bad hbd]
        exact ⟨rfl, HB8.out⟩
      -- <true>
      | true =>
        have hpl := of_decide_eq_true HPL.out
        obtain ⟨ii, hii⟩ : ∃ ii : Nat, rd l2 (j : Int) = (ii : Int) := ⟨(rd l2 (j : Int)).toNat, by omega⟩
        have hil : (ii : Int) < (l0.length : Int) := by omega
        have hi0 : (0 : Int) ≤ (ii : Int) := by omega
        have hi8 : (ii : Int) < 8 := by omega
        obtain ⟨ad0, e, hz⟩ := Kd.at_int HR0.out (ii : Int) hi0 hil
        cases e
        rw [Int.toNat_natCast] at hz
        replace hz := (HB.out.cell (World.block_lt_of_cell? w _ hz)).trans hz
        have HCL := Aside0.mk (impl_isPlace.calls (some ad0) c0 l0 (ii : Int) true wr (Kd.C_below HR0.out HB.out) HC0.out (by rw [place_ev, ← hii, HPL.out]))
        rw [hii] at hx
        have HII := Aside0.mk hii
        clear hii hpl
        obtain ⟨sg, hsg⟩ : ∃ sg, sg = rd l2 ((t : Int) + (j : Int)) := ⟨_, rfl⟩
        rw [show ((t + j : Nat) : Int) = (t : Int) + (j : Int) by omega, ← hsg] at hs
        have HSG := Aside0.mk hsg
        have hcell := ag8_cell d0 d1 d2 d3 d4 d5 d6 d7 HDr.out ii (by omega)
        rw [dl_rd l0 a d0 d1 d2 d3 d4 d5 d6 d7 HDL.out ii] at hcell
        obtain ⟨hd0, hd4⟩ := digL_lt4 l0 HQ.out a ii
        obtain ⟨dd, hdd⟩ : ∃ dd, dd = rd (digL l0 a) (ii : Int) := ⟨_, rfl⟩
        rw [← hdd] at hcell hd0 hd4
        have HDD := Aside0.mk hdd
        clear hsg hdd
        obtain ⟨sz, hszz⟩ : ∃ sz, sz = rd l0 (ii : Int) := ⟨_, rfl⟩
        rw [← hszz] at hz
        have HSZ := Aside0.mk hszz
        clear hszz
        by_cases hjp : 0 < j
        · have hz1 : decide ((j : Int) > 0) = true := decide_eq_true (by omega)
          obtain ⟨ad2, e, hp⟩ := Kd.at_int HR2.out ((j - 1 : Nat) : Int) (by omega) (by omega)
          cases e
          rw [Int.toNat_natCast] at hp
          replace hp := (HB.out.cell (World.block_lt_of_cell? w _ hp)).trans hp
          have hj5 : ((j : Int) - 1).toNat = j - 1 := by omega
          have hj6 : (0 : Int) ≤ (j : Int) - 1 := by omega
          have hj7 : (j : Int) - 1 < (l2.length : Int) := by omega
          obtain ⟨pv, hpv⟩ : ∃ pv, pv = rd l2 ((j - 1 : Nat) : Int) := ⟨_, rfl⟩
          rw [← hpv] at hp
          have HPV := Aside0.mk hpv
          clear hpv
          by_cases hle : (ii : Int) ≤ pv
          · have f0 : decide ((ii : Int) ≤ pv) = true := decide_eq_true hle
            go_wp2_with fail
            refine HCL.out.mono ?_
            rintro e w8 ⟨rfl, hb8⟩
            have HB8 := Aside0.mk (below_step HB.out hb8)
            have HK8 := Aside0.mk (blk_below HK.out hb8)
            have HD8 := Aside0.mk (blk_below HDr.out hb8)
            have hs8 := (hb8.cell (World.block_lt_of_cell? _ _ hs)).trans hs
            have hz8 := (hb8.cell (World.block_lt_of_cell? _ _ hz)).trans hz
            have hbx8 := (hb8.cell (World.block_lt_of_cell? _ _ hbx)).trans hbx
            have hc8 := (hb8.cell (World.block_lt_of_cell? _ _ hcell)).trans hcell
            have hp8 := (hb8.cell (World.block_lt_of_cell? _ _ hp)).trans hp
            clear hx hs hz hbx hcell hb8 hp
            go_wp2
            go_ret2
            have hbd : hcBad l0 l2 t j = true := by
              unfold hcBad
              rw [show ((t + j : Nat) : Int) = (t : Int) + (j : Int) by omega, ← HSG.out, HII.out, ← HSZ.out]
              simp only [Bool.or_eq_true, Bool.not_eq_true', Bool.and_eq_true, Bool.and_eq_false_iff, decide_eq_false_iff_not, decide_eq_true_eq]
              rw [← HPV.out]
              omega
            rw [← HN1.out, hcL_bad hbd]
            exact ⟨rfl, HB8.out⟩
          have f0 : decide ((ii : Int) ≤ pv) = false := decide_eq_false hle
          by_cases hs0 : sg < 0
          · have f1 : decide (sg < 0) = true := decide_eq_true hs0
            go_wp2_with fail
            refine HCL.out.mono ?_
            rintro e w8 ⟨rfl, hb8⟩
            have HB8 := Aside0.mk (below_step HB.out hb8)
            have HK8 := Aside0.mk (blk_below HK.out hb8)
            have HD8 := Aside0.mk (blk_below HDr.out hb8)
            have hs8 := (hb8.cell (World.block_lt_of_cell? _ _ hs)).trans hs
            have hz8 := (hb8.cell (World.block_lt_of_cell? _ _ hz)).trans hz
            have hbx8 := (hb8.cell (World.block_lt_of_cell? _ _ hbx)).trans hbx
            have hc8 := (hb8.cell (World.block_lt_of_cell? _ _ hcell)).trans hcell
            have hp8 := (hb8.cell (World.block_lt_of_cell? _ _ hp)).trans hp
            clear hx hs hz hbx hcell hb8 hp
            go_wp2
            go_ret2
            have hbd : hcBad l0 l2 t j = true := by
              unfold hcBad
              rw [show ((t + j : Nat) : Int) = (t : Int) + (j : Int) by omega, ← HSG.out, HII.out, ← HSZ.out]
              simp only [Bool.or_eq_true, Bool.not_eq_true', Bool.and_eq_true, Bool.and_eq_false_iff, decide_eq_false_iff_not, decide_eq_true_eq]
              rw [← HPV.out]
              omega
            rw [← HN1.out, hcL_bad hbd]
            exact ⟨rfl, HB8.out⟩
          have f1 : decide (sg < 0) = false := decide_eq_false hs0
          by_cases hs1 : sg ≥ sz
          · have f2 : decide (sg ≥ sz) = true := decide_eq_true hs1
            go_wp2_with fail
            refine HCL.out.mono ?_
            rintro e w8 ⟨rfl, hb8⟩
            have HB8 := Aside0.mk (below_step HB.out hb8)
            have HK8 := Aside0.mk (blk_below HK.out hb8)
            have HD8 := Aside0.mk (blk_below HDr.out hb8)
            have hs8 := (hb8.cell (World.block_lt_of_cell? _ _ hs)).trans hs
            have hz8 := (hb8.cell (World.block_lt_of_cell? _ _ hz)).trans hz
            have hbx8 := (hb8.cell (World.block_lt_of_cell? _ _ hbx)).trans hbx
            have hc8 := (hb8.cell (World.block_lt_of_cell? _ _ hcell)).trans hcell
            have hp8 := (hb8.cell (World.block_lt_of_cell? _ _ hp)).trans hp
            clear hx hs hz hbx hcell hb8 hp
            go_wp2
            go_ret2
            have hbd : hcBad l0 l2 t j = true := by
              unfold hcBad
              rw [show ((t + j : Nat) : Int) = (t : Int) + (j : Int) by omega, ← HSG.out, HII.out, ← HSZ.out]
              simp only [Bool.or_eq_true, Bool.not_eq_true', Bool.and_eq_true, Bool.and_eq_false_iff, decide_eq_false_iff_not, decide_eq_true_eq]
              rw [← HPV.out]
              omega
            rw [← HN1.out, hcL_bad hbd]
            exact ⟨rfl, HB8.out⟩
          have f2 : decide (sg ≥ sz) = false := decide_eq_false hs1
          go_wp2_with fail
          refine HCL.out.mono ?_
          rintro e w8 ⟨rfl, hb8⟩
          have HB8 := Aside0.mk (below_step HB.out hb8)
          have HK8 := Aside0.mk (blk_below HK.out hb8)
          have HD8 := Aside0.mk (blk_below HDr.out hb8)
          have hs8 := (hb8.cell (World.block_lt_of_cell? _ _ hs)).trans hs
          have hz8 := (hb8.cell (World.block_lt_of_cell? _ _ hz)).trans hz
          have hbx8 := (hb8.cell (World.block_lt_of_cell? _ _ hbx)).trans hbx
          have hc8 := (hb8.cell (World.block_lt_of_cell? _ _ hcell)).trans hcell
          have hp8 := (hb8.cell (World.block_lt_of_cell? _ _ hp)).trans hp
          clear hx hs hz hbx hcell hb8 hp
          have hgd : hcBad l0 l2 t j = false := by
            rw [Bool.eq_false_iff]
            intro hbd
            revert hbd
            unfold hcBad
            rw [show ((t + j : Nat) : Int) = (t : Int) + (j : Int) by omega, ← HSG.out, HII.out, ← HSZ.out]
            simp only [Bool.or_eq_true, Bool.not_eq_true', Bool.and_eq_true, Bool.and_eq_false_iff, decide_eq_false_iff_not, decide_eq_true_eq]
            rw [← HPV.out]
            omega
          have HN2 := Aside0.mk ((hcL_good hgd).symm.trans HN1.out)
          rw [HII.out, show ((t + j : Nat) : Int) = (t : Int) + (j : Int) by omega, ← HSG.out, ← HDD.out] at HN2
          clear hgd
          cases has with
          | true =>
            go_wp2
            go_roundg (t - (j + 1))
            case measure => omega
            case rel =>
              refine ⟨j + 1, (dd == sg), rfl, by go_num, by omega, by omega, ⟨?_⟩, HK8, HD8, HB8⟩
              have h := HN2.out
              rw [Bool.true_and] at h
              exact h
          | false =>
            go_wp2
            go_roundg (t - (j + 1))
            case measure => omega
            case rel =>
              refine ⟨j + 1, false, rfl, by go_num, by omega, by omega, ⟨?_⟩, HK8, HD8, HB8⟩
              have h := HN2.out
              rw [Bool.false_and] at h
              exact h
        · have hz1 : decide ((j : Int) > 0) = false := decide_eq_false (by omega)
          by_cases hs0 : sg < 0
          · have f1 : decide (sg < 0) = true := decide_eq_true hs0
            go_wp2_with fail
            refine HCL.out.mono ?_
            rintro e w8 ⟨rfl, hb8⟩
            have HB8 := Aside0.mk (below_step HB.out hb8)
            have HK8 := Aside0.mk (blk_below HK.out hb8)
            have HD8 := Aside0.mk (blk_below HDr.out hb8)
            have hs8 := (hb8.cell (World.block_lt_of_cell? _ _ hs)).trans hs
            have hz8 := (hb8.cell (World.block_lt_of_cell? _ _ hz)).trans hz
            have hbx8 := (hb8.cell (World.block_lt_of_cell? _ _ hbx)).trans hbx
            have hc8 := (hb8.cell (World.block_lt_of_cell? _ _ hcell)).trans hcell
            clear hx hs hz hbx hcell hb8
            go_wp2
            go_ret2
            have hbd : hcBad l0 l2 t j = true := by
              unfold hcBad
              rw [show ((t + j : Nat) : Int) = (t : Int) + (j : Int) by omega, ← HSG.out, HII.out, ← HSZ.out]
              simp only [Bool.or_eq_true, Bool.not_eq_true', Bool.and_eq_true, Bool.and_eq_false_iff, decide_eq_false_iff_not, decide_eq_true_eq]
              omega
            rw [← HN1.out, hcL_bad hbd]
            exact ⟨rfl, HB8.out⟩
          have f1 : decide (sg < 0) = false := decide_eq_false hs0
          by_cases hs1 : sg ≥ sz
          · have f2 : decide (sg ≥ sz) = true := decide_eq_true hs1
            go_wp2_with fail
            refine HCL.out.mono ?_
            rintro e w8 ⟨rfl, hb8⟩
            have HB8 := Aside0.mk (below_step HB.out hb8)
            have HK8 := Aside0.mk (blk_below HK.out hb8)
            have HD8 := Aside0.mk (blk_below HDr.out hb8)
            have hs8 := (hb8.cell (World.block_lt_of_cell? _ _ hs)).trans hs
            have hz8 := (hb8.cell (World.block_lt_of_cell? _ _ hz)).trans hz
            have hbx8 := (hb8.cell (World.block_lt_of_cell? _ _ hbx)).trans hbx
            have hc8 := (hb8.cell (World.block_lt_of_cell? _ _ hcell)).trans hcell
            clear hx hs hz hbx hcell hb8
            go_wp2
            go_ret2
            have hbd : hcBad l0 l2 t j = true := by
              unfold hcBad
              rw [show ((t + j : Nat) : Int) = (t : Int) + (j : Int) by omega, ← HSG.out, HII.out, ← HSZ.out]
              simp only [Bool.or_eq_true, Bool.not_eq_true', Bool.and_eq_true, Bool.and_eq_false_iff, decide_eq_false_iff_not, decide_eq_true_eq]
              omega
            rw [← HN1.out, hcL_bad hbd]
            exact ⟨rfl, HB8.out⟩
          have f2 : decide (sg ≥ sz) = false := decide_eq_false hs1
          go_wp2_with fail
          refine HCL.out.mono ?_
          rintro e w8 ⟨rfl, hb8⟩
          have HB8 := Aside0.mk (below_step HB.out hb8)
          have HK8 := Aside0.mk (blk_below HK.out hb8)
          have HD8 := Aside0.mk (blk_below HDr.out hb8)
          have hs8 := (hb8.cell (World.block_lt_of_cell? _ _ hs)).trans hs
          have hz8 := (hb8.cell (World.block_lt_of_cell? _ _ hz)).trans hz
          have hbx8 := (hb8.cell (World.block_lt_of_cell? _ _ hbx)).trans hbx
          have hc8 := (hb8.cell (World.block_lt_of_cell? _ _ hcell)).trans hcell
          clear hx hs hz hbx hcell hb8
          have hgd : hcBad l0 l2 t j = false := by
            rw [Bool.eq_false_iff]
            intro hbd
            revert hbd
            unfold hcBad
            rw [show ((t + j : Nat) : Int) = (t : Int) + (j : Int) by omega, ← HSG.out, HII.out, ← HSZ.out]
            simp only [Bool.or_eq_true, Bool.not_eq_true', Bool.and_eq_true, Bool.and_eq_false_iff, decide_eq_false_iff_not, decide_eq_true_eq]
            omega
          have HN2 := Aside0.mk ((hcL_good hgd).symm.trans HN1.out)
          rw [HII.out, show ((t + j : Nat) : Int) = (t : Int) + (j : Int) by omega, ← HSG.out, ← HDD.out] at HN2
          clear hgd
          cases has with
          | true =>
            go_wp2
            go_roundg (t - (j + 1))
            case measure => omega
            case rel =>
              refine ⟨j + 1, (dd == sg), rfl, by go_num, by omega, by omega, ⟨?_⟩, HK8, HD8, HB8⟩
              have h := HN2.out
              rw [Bool.true_and] at h
              exact h
          | false =>
            go_wp2
            go_roundg (t - (j + 1))
            case measure => omega
            case rel =>
              refine ⟨j + 1, false, rfl, by go_num, by omega, by omega, ⟨?_⟩, HK8, HD8, HB8⟩
              have h := HN2.out
              rw [Bool.false_and] at h
              exact h
      -- </true>
    · obtain rfl : j = t := by omega
      have hlt1 : ¬ (j : Int) < (j : Int) := by omega
      have hn := HN.out
      rw [Nat.sub_self] at hn
      simp only [hcL] at hn
      have HN1 := Aside0.mk hn
      clear hn
      go_wp2
      go_ret2
      rw [← HN1.out]
      exact ⟨rfl, HB.out⟩
theorem strength_pos (l : List Int) (a : Int) (h : impl_isStrength.f l a = some true) : 1 ≤ a := by
  unfold impl_isStrength.f at h
  by_cases h1 : a ≥ 1
  · exact h1
  · rw [if_neg h1] at h; cases h
theorem impl_HasChoice.calls (k : Nat) (A0_0 : Option Addr) (c0_0 : Nat) (l0_0 : List Int) (a1 : Int) (A2 : Option Addr) (c2 : Nat) (l2 : List Int) (r1 : Bool) (r2 : Int) (w : World) (hr0_0 : Kd.C (Kd.int .i64) w A0_0 l0_0.length l0_0) (hc0_0 : l0_0.length ≤ c0_0) (hr2 : Kd.C (Kd.int .i64) w A2 l2.length l2) (hc2 : l2.length ≤ c2) (h : impl_HasChoice.f k l0_0 a1 l2 = some (r1, r2)) :
    Calls Try.prog 26 #[.agg #[.slice A0_0 l0_0.length c0_0], .int .i64 a1, .slice A2 l2.length c2] w fun e w' => e = .returned (.tuple #[.bool r1, .int .i64 r2]) ∧ Below w.heap.size w w' := by
  unfold impl_HasChoice.f at h
  obtain ⟨c, hc, h⟩ := Option.bind_eq_some_iff.1 h
  by_cases h0 : c = 0
  · subst h0
    rw [if_pos rfl] at h
    by_cases h1 : l2.length % 2 = 0
    · rw [if_pos h1] at h
      obtain ⟨b, hb, h⟩ := Option.bind_eq_some_iff.1 h
      have e : l2.length = 2 * (l2.length / 2) := by omega
      cases b with
      | false =>
        rw [if_neg (by decide)] at h
        cases h
        exact hasChoice_weak k A0_0 c0_0 l0_0 a1 A2 c2 l2 w hr0_0 hc0_0 hr2.2.1 _ hc e hb
      | true =>
        rw [if_pos rfl] at h
        unfold hcGo at h
        by_cases o1 : okS l0_0 = true
        · rw [if_pos o1] at h
          by_cases o2 : 0 ≤ a1
          · rw [if_pos o2] at h
            by_cases o3 : a1 ≤ 1073741824
            · rw [if_pos o3] at h
              obtain ⟨h8, hq⟩ := (okS_iff l0_0).1 o1
              have hr := Option.some.inj h
              have := hasChoice_walk k A0_0 c0_0 l0_0 a1 A2 c2 l2 (l2.length / 2) w hr0_0 hc0_0 hr2 hc2 hc e (by have := strength_pos _ _ hb; omega) hb h8 hq o2 o3
              rw [hr] at this
              exact this
            · rw [if_neg o3] at h; cases h
          · rw [if_neg o2] at h; cases h
        · rw [if_neg o1] at h; cases h
    · rw [if_neg h1] at h
      cases h
      exact hasChoice_odd k A0_0 c0_0 l0_0 a1 A2 c2 l2 w hr0_0 hc0_0 hr2.2.1 hc (by omega)
  · rw [if_neg h0] at h
    cases h
    exact hasChoice_code k A0_0 c0_0 l0_0 a1 A2 c2 l2 w hr0_0 hc0_0 _ hc h0

/-! ### laws_eqInt64S: function 28 -/
def laws_eqInt64S.l0 : Nat → List Int → List Int → Int → Option (Bool)
  | 0, _, _, _ => none
  | k + 1, x0, x1, x5 => if x5 < (x0.length : Int) then (if 0 ≤ x5 then (if x5 < (x1.length : Int) then (if (rd x0 x5) = (rd x1 x5) then (laws_eqInt64S.l0 k x0 x1 (wrap64 (x5 + 1))) else (some false)) else (none)) else (none)) else (some true)
def laws_eqInt64S.f (k : Nat) (l0 : List Int) (l1 : List Int) : Option (Bool) := if (l0.length : Int) = (l1.length : Int) then (laws_eqInt64S.l0 k l0 l1 0) else (some false)
theorem laws_eqInt64S.mono_l : ∀ k, (∀ y0 y1 y2, LeO (laws_eqInt64S.l0 k y0 y1 y2) (laws_eqInt64S.l0 (k + 1) y0 y1 y2))
  | 0 => fun _ _ _ r h => by simp [laws_eqInt64S.l0] at h
  | k + 1 => by
    have ih0 := laws_eqInt64S.mono_l k
    · intro y0 y1 y2
      unfold laws_eqInt64S.l0
      repeat' first
      | (with_reducible exact ih0 _ _ _)
      | (with_reducible exact LeO.refl _)
      | (with_reducible exact LeO.none _)
      | (with_reducible refine LeO.ite ?_ ?_)
      | (with_reducible refine LeO.bind ?_ (fun _ => ?_))
      | exact ih0 _ _ _
      | exact LeO.none _
      | refine LeO.ite ?_ ?_
      | refine LeO.bind ?_ (fun _ => ?_)
theorem laws_eqInt64S.mono : ∀ a0 a1 k, LeO (laws_eqInt64S.f k a0 a1) (laws_eqInt64S.f (k + 1) a0 a1) := by
  intro a0 a1 k
  have ih0 := laws_eqInt64S.mono_l k
  unfold laws_eqInt64S.f
  repeat' first
      | (with_reducible exact ih0 _ _ _)
      | (with_reducible exact LeO.refl _)
      | (with_reducible exact LeO.none _)
      | (with_reducible refine LeO.ite ?_ ?_)
      | (with_reducible refine LeO.bind ?_ (fun _ => ?_))
      | exact ih0 _ _ _
      | exact LeO.none _
      | refine LeO.ite ?_ ?_
      | refine LeO.bind ?_ (fun _ => ?_)
set_option maxHeartbeats 8000000 in
set_option maxRecDepth 100000 in
theorem laws_eqInt64S.calls (k : Nat) (A0 : Option Addr) (c0 : Nat) (l0 : List Int) (A1 : Option Addr) (c1 : Nat) (l1 : List Int) (r : Bool) (w : World) (hr0 : Kd.C (Kd.int .i64) w A0 l0.length l0) (hc0 : l0.length ≤ c0) (hr1 : Kd.C (Kd.int .i64) w A1 l1.length l1) (hc1 : l1.length ≤ c1) (h : laws_eqInt64S.f k l0 l1 = some r) :
    Calls Try.prog 28 #[.slice A0 l0.length c0, .slice A1 l1.length c1] w fun e w' => e = .returned (.bool r) ∧ Drawn0 w w' := by
  have HR0 := Aside0.mk hr0
  have HC0 := Aside0.mk hc0
  clear hr0 hc0
  have HR1 := Aside0.mk hr1
  have HC1 := Aside0.mk hc1
  clear hr1 hc1
  have H : (if (l0.length : Int) = (l1.length : Int) then (laws_eqInt64S.l0 k l0 l1 0) else (some false)) = some r := h
  clear h
  by_cases c3 : (l0.length : Int) = (l1.length : Int)
  · rw [if_pos c3] at H
    have c3b0 : ((l0.length : Int) == (l1.length : Int)) = true := beq_iff_eq.mpr c3
    have c3b1 : ((l0.length : Int) != (l1.length : Int)) = false := bne_eq_false_iff_eq.mpr c3
    have c3b2 : (l0.length == l1.length) = true := by first | simpa using c3 | (simp at c3 ⊢; omega)
    clear c3
    have H' := Aside0.mk H
    clear H
    go_enter Try.func28, Try.ntmps28
    go_wp2
    repeat (go_quiet (fail); try go_wp2)
    go_loopg [5] k (fun kq v5 w' => ∃ (x5_1 : Int), v5 = .int .i64 x5_1 ∧ Aside0 (laws_eqInt64S.l0 kq l0 l1 x5_1 = some r) ∧ Aside0 (kq ≤ k) ∧ Drawn0 w w')
    case atStart => exact ⟨(0), (by first | rfl | (simp; done) | (simp [*]; done)), H', ⟨Nat.le_refl _⟩, by repeat (first | exact Drawn0.refl _ | apply Drawn0.step)⟩
    case round =>
      clear H'
      try clear c1
      try clear c2
      try clear p2
      try clear c3
      try clear c3b0
      try clear c3b1
      try clear c3b2
      obtain ⟨x5_1, rfl, HA, HK1, ⟨m1, rfl⟩⟩ := hrel
      cases gk with
      | zero => exact absurd HA.out (by simp [laws_eqInt64S.l0])
      | succ k1 =>
        have H := HA.out
        clear HA
        simp only [laws_eqInt64S.l0] at H
        by_cases c4 : x5_1 < (l0.length : Int)
        · rw [if_pos c4] at H
          have c4b0 : decide (x5_1 < (l0.length : Int)) = true := decide_eq_true c4
          clear c4
          by_cases c5 : 0 ≤ x5_1
          · rw [if_pos c5] at H
            have c5b0 : decide (0 ≤ x5_1) = true := decide_eq_true c5
            clear c5
            by_cases c6 : x5_1 < (l1.length : Int)
            · rw [if_pos c6] at H
              have c6b0 : decide (x5_1 < (l1.length : Int)) = true := decide_eq_true c6
              clear c6
              by_cases c7 : (rd l0 x5_1) = (rd l1 x5_1)
              · rw [if_pos c7] at H
                have c7b0 : ((rd l0 x5_1) == (rd l1 x5_1)) = true := beq_iff_eq.mpr c7
                have c7b1 : ((rd l0 x5_1) != (rd l1 x5_1)) = false := bne_eq_false_iff_eq.mpr c7
                clear c7
                have H' := Aside0.mk H
                clear H
                have p171 : 0 ≤ (x5_1 : Int) := of_decide_eq_true (by first | (with_reducible assumption) | assumption)
                have q171 : x5_1 < (l0.length : Int) := of_decide_eq_true (by first | (with_reducible assumption) | assumption)
                obtain ⟨ad171, e171, hx171_0⟩ := Kd.at_int HR0.out x5_1 p171 q171
                cases e171
                replace p171 := eq_true p171
                replace q171 := eq_true q171
                have p172 : 0 ≤ (x5_1 : Int) := of_decide_eq_true (by first | (with_reducible assumption) | assumption)
                have q172 : x5_1 < (l1.length : Int) := of_decide_eq_true (by first | (with_reducible assumption) | assumption)
                obtain ⟨ad172, e172, hx172_0⟩ := Kd.at_int HR1.out x5_1 p172 q172
                cases e172
                replace p172 := eq_true p172
                replace q172 := eq_true q172
                go_wp2
                repeat (go_quiet (fail); try go_wp2)
                go_roundg k1
                case measure => have := HK1.out; omega
                case rel => exact ⟨(wrap64 (x5_1 + 1)), (by first | rfl | (simp; done) | (simp [*]; done)), H', ⟨by have := HK1.out; omega⟩, by repeat (first | exact Drawn0.refl _ | apply Drawn0.step)⟩
              · rw [if_neg c7] at H
                have c7b0 : ((rd l0 x5_1) == (rd l1 x5_1)) = false := beq_eq_false_iff_ne.mpr c7
                have c7b1 : ((rd l0 x5_1) != (rd l1 x5_1)) = true := bne_iff_ne.mpr c7
                obtain rfl := Option.some.inj H
                have p171 : 0 ≤ (x5_1 : Int) := of_decide_eq_true (by first | (with_reducible assumption) | assumption)
                have q171 : x5_1 < (l0.length : Int) := of_decide_eq_true (by first | (with_reducible assumption) | assumption)
                obtain ⟨ad171, e171, hx171_0⟩ := Kd.at_int HR0.out x5_1 p171 q171
                cases e171
                replace p171 := eq_true p171
                replace q171 := eq_true q171
                have p172 : 0 ≤ (x5_1 : Int) := of_decide_eq_true (by first | (with_reducible assumption) | assumption)
                have q172 : x5_1 < (l1.length : Int) := of_decide_eq_true (by first | (with_reducible assumption) | assumption)
                obtain ⟨ad172, e172, hx172_0⟩ := Kd.at_int HR1.out x5_1 p172 q172
                cases e172
                replace p172 := eq_true p172
                replace q172 := eq_true q172
                go_wp2
                repeat (go_quiet (fail); try go_wp2)
                go_ret
                exact ⟨by first | rfl | (simp; done) | (simp [*]; done), by repeat (first | exact Drawn0.refl _ | apply Drawn0.step)⟩
            · rw [if_neg c6] at H
              exact absurd H (by simp)
          · rw [if_neg c5] at H
            exact absurd H (by simp)
        · rw [if_neg c4] at H
          have c4b0 : decide (x5_1 < (l0.length : Int)) = false := decide_eq_false c4
          clear c4
          obtain rfl := Option.some.inj H
          go_wp2
          repeat (go_quiet (fail); try go_wp2)
          go_ret
          exact ⟨by first | rfl | (simp; done) | (simp [*]; done), by repeat (first | exact Drawn0.refl _ | apply Drawn0.step)⟩
  · rw [if_neg c3] at H
    have c3b0 : ((l0.length : Int) == (l1.length : Int)) = false := beq_eq_false_iff_ne.mpr c3
    have c3b1 : ((l0.length : Int) != (l1.length : Int)) = true := bne_iff_ne.mpr c3
    have c3b2 : (l0.length == l1.length) = false := by first | simpa using c3 | (simp at c3 ⊢; omega)
    obtain rfl := Option.some.inj H
    go_enter Try.func28, Try.ntmps28
    go_wp2
    repeat (go_quiet (fail); try go_wp2)
    go_ret
    exact ⟨by first | rfl | (simp; done) | (simp [*]; done), by repeat (first | exact Drawn0.refl _ | apply Drawn0.step)⟩

/-! ### laws_eqSpace: function 27 -/
def laws_eqSpace.f (k : Nat) (l0_0 : List Int) (l1_0 : List Int) : Option (Bool) := (laws_eqInt64S.f k l0_0 l1_0).bind fun t175 => (if t175 = true then (some true) else (some false))
theorem laws_eqSpace.mono : ∀ a0 a1 k, LeO (laws_eqSpace.f k a0 a1) (laws_eqSpace.f (k + 1) a0 a1) := by
  intro a0 a1 k
  unfold laws_eqSpace.f
  repeat' first
      | (with_reducible exact laws_eqInt64S.mono _ _ _)
      | (with_reducible exact LeO.refl _)
      | (with_reducible exact LeO.none _)
      | (with_reducible refine LeO.ite ?_ ?_)
      | (with_reducible refine LeO.bind ?_ (fun _ => ?_))
      | exact laws_eqInt64S.mono _ _ _
      | exact LeO.none _
      | refine LeO.ite ?_ ?_
      | refine LeO.bind ?_ (fun _ => ?_)
set_option maxHeartbeats 8000000 in
set_option maxRecDepth 100000 in
theorem laws_eqSpace.calls (k : Nat) (A0_0 : Option Addr) (c0_0 : Nat) (l0_0 : List Int) (A1_0 : Option Addr) (c1_0 : Nat) (l1_0 : List Int) (r : Bool) (w : World) (hr0_0 : Kd.C (Kd.int .i64) w A0_0 l0_0.length l0_0) (hc0_0 : l0_0.length ≤ c0_0) (hr1_0 : Kd.C (Kd.int .i64) w A1_0 l1_0.length l1_0) (hc1_0 : l1_0.length ≤ c1_0) (h : laws_eqSpace.f k l0_0 l1_0 = some r) :
    Calls Try.prog 27 #[.agg #[.slice A0_0 l0_0.length c0_0], .agg #[.slice A1_0 l1_0.length c1_0]] w fun e w' => e = .returned (.bool r) ∧ Below w.heap.size w w' := by
  have hu28 := Try.underlying28
  have HR0_0 := Aside0.mk hr0_0
  have HC0_0 := Aside0.mk hc0_0
  clear hr0_0 hc0_0
  have HR1_0 := Aside0.mk hr1_0
  have HC1_0 := Aside0.mk hc1_0
  clear hr1_0 hc1_0
  have HB := Aside0.mk (Below.refl w.heap.size w)
  have H : ((laws_eqInt64S.f k l0_0 l1_0).bind fun t175 => (if t175 = true then (some true) else (some false))) = some r := h
  clear h
  replace H := Option.bind_eq_some_iff.mp H
  obtain ⟨t175, A30, H⟩ := H
  replace H : (if t175 = true then (some true) else (some false)) = some r := H
  have A3 := Aside0.mk A30
  clear A30
  by_cases c4 : t175 = true
  · subst c4
    have H1 : (some true) = some r := by rw [if_pos rfl] at H; exact H
    clear H
    have H := H1
    clear H1
    obtain rfl := Option.some.inj H
    go_enter Try.func27, Try.ntmps27
    go_wp2_with (first | ((with_reducible refine gate_dst (N := 2) rfl ?_); refine box_event ?hg (N := 2) ?hd (cs := #[.slice A0_0 l0_0.length c0_0]) (t := 28) ?hr ?_; (case hd => rfl); (case hg => rfl); (case hr => first | (go_simp; done) | (go_simp; rfl)); intro gb173 hg w5 hbox hb; have n0_ := Aside0.mk (below_step (by repeat (first | (with_reducible first | exact HB.out | apply below_alloc | apply pw_below_drewN | apply below_drew1) | exact HB.out)) hb); have n1_ := Aside0.mk (hbox); have n2_ := Aside0.mk ((by rw [hg]; exact (below_size (by repeat (first | (with_reducible first | exact HB.out | apply below_alloc | apply pw_below_drewN | apply below_drew1) | exact HB.out))) : w.heap.size ≤ gb173)); have n3_ := Aside0.mk ((by rw [hg]; exact (below_size (by repeat (first | (with_reducible first | exact HB.out | apply below_alloc | apply pw_below_drewN | apply below_drew1) | exact HB.out))) : w.heap.size ≤ gb173)); clear HB; have HB := n0_; have BK173 := n1_; have GW173 := n2_; have GE173 := n3_; clear n0_ n1_ n2_ n3_; clear hb hbox hg) | ((with_reducible refine gate_dst (N := 3) rfl ?_); refine box_event ?hg (N := 3) ?hd (cs := #[.slice A1_0 l1_0.length c1_0]) (t := 28) ?hr ?_; (case hd => rfl); (case hg => rfl); (case hr => first | (go_simp; done) | (go_simp; rfl)); intro gb174 hg w6 hbox hb; have n0_ := Aside0.mk (blk_below (g := gb173) (o := .cells #[.slice A0_0 l0_0.length c0_0] 28 (0, 0)) (by (with_reducible repeat (first | refine blk_drewN ?_ _ | refine blk_drew ?_ | refine blk_alloc ?_ _)); exact BK173.out) hb); have n1_ := Aside0.mk (below_step (by repeat (first | (with_reducible first | exact HB.out | apply below_alloc | apply pw_below_drewN | apply below_drew1 | refine below_set ?_ GE173.out) | exact HB.out)) hb); have n2_ := Aside0.mk (hbox); have n3_ := Aside0.mk ((by rw [hg]; exact (below_size (by repeat (first | (with_reducible first | exact HB.out | apply below_alloc | apply pw_below_drewN | apply below_drew1 | refine below_set ?_ GE173.out) | exact HB.out))) : w.heap.size ≤ gb174)); have n4_ := Aside0.mk ((by rw [hg]; exact (below_size (by repeat (first | (with_reducible first | exact HB.out | apply below_alloc | apply pw_below_drewN | apply below_drew1 | refine below_set ?_ GE173.out) | exact HB.out))) : w.heap.size ≤ gb174)); have n5_ := Aside0.mk ((by rw [hg]; exact Nat.ne_of_lt (blk_lt (g := gb173) (o := .cells #[.slice A0_0 l0_0.length c0_0] 28 (0, 0)) (by (with_reducible repeat (first | refine blk_drewN ?_ _ | refine blk_drew ?_ | refine blk_alloc ?_ _)); exact BK173.out)) : gb173 ≠ gb174)); have n6_ := Aside0.mk ((by rw [hg]; exact Nat.ne_of_gt (blk_lt (g := gb173) (o := .cells #[.slice A0_0 l0_0.length c0_0] 28 (0, 0)) (by (with_reducible repeat (first | refine blk_drewN ?_ _ | refine blk_drew ?_ | refine blk_alloc ?_ _)); exact BK173.out)) : gb174 ≠ gb173)); clear BK173; clear HB; have BK173 := n0_; have HB := n1_; have BK174 := n2_; have GW174 := n3_; have GE174 := n4_; have NB173_174 := n5_; have NB174_173 := n6_; clear n0_ n1_ n2_ n3_ n4_ n5_ n6_; clear hb hbox hg; have hnb7 := NB173_174.out; have hnc7 := NB174_173.out; have hcz8_0 : w6.cell? ⟨gb173, 0, none⟩ = some (.slice A0_0 l0_0.length c0_0) := (blk_cell BK173.out 0).trans rfl; have hfz8_0 := blk_frozen BK173.out 0; have hcz9_0 : w6.cell? ⟨gb174, 0, none⟩ = some (.slice A1_0 l1_0.length c1_0) := (blk_cell BK174.out 0).trans rfl; have hfz9_0 := blk_frozen BK174.out 0) | ((with_reducible refine gate_callee (f := 28) rfl ?_); refine goesL_ (some 9) rfl rfl Try.func28 (by kernel_rfl) rfl #[.slice A0_0 l0_0.length c0_0, .slice A1_0 l1_0.length c1_0] rfl (by (try simp only [List.map_toArray, List.map_cons, List.map_nil]); first | done | rfl | (simp only [List.length_drop, List.length_take]; rfl)) ?_; (with_reducible refine (laws_eqInt64S.calls k _ _ l0_0 _ _ l1_0 true _ ?side1 ?side2 ?side3 ?side4 A3.out).mono ?_); (case side1 => repeat (first | exact (Kd.C_below HR0_0.out HB.out) | (with_reducible refine Kd.C_alloc ?_ _) | (with_reducible refine Kd.C_drewN ?_ _) | (with_reducible refine Kd.C_drew ?_))); (case side2 => exact HC0_0.out); (case side3 => repeat (first | exact (Kd.C_below HR1_0.out HB.out) | (with_reducible refine Kd.C_alloc ?_ _) | (with_reducible refine Kd.C_drewN ?_ _) | (with_reducible refine Kd.C_drew ?_))); (case side4 => exact HC1_0.out); rintro e w' ⟨rfl, ⟨nd, rfl⟩⟩; refine ⟨_, rfl, ?_⟩))
    go_ret
    exact ⟨by first | rfl | (simp [errW_none, errW_some] <;> rfl) | (simp [*, errW_none, errW_some] <;> rfl), by repeat (first | (with_reducible first | exact HB.out | apply below_alloc | apply pw_below_drewN | apply below_drew1 | refine below_set ?_ GE173.out | refine below_set ?_ GE174.out) | exact HB.out)⟩
  · replace c4 := Bool.eq_false_iff.mpr c4
    subst c4
    have H1 : (some false) = some r := by rw [if_neg (show ¬ (false = true) by decide)] at H; exact H
    clear H
    have H := H1
    clear H1
    obtain rfl := Option.some.inj H
    go_enter Try.func27, Try.ntmps27
    go_wp2_with (first | ((with_reducible refine gate_dst (N := 2) rfl ?_); refine box_event ?hg (N := 2) ?hd (cs := #[.slice A0_0 l0_0.length c0_0]) (t := 28) ?hr ?_; (case hd => rfl); (case hg => rfl); (case hr => first | (go_simp; done) | (go_simp; rfl)); intro gb173 hg w10 hbox hb; have n0_ := Aside0.mk (below_step (by repeat (first | (with_reducible first | exact HB.out | apply below_alloc | apply pw_below_drewN | apply below_drew1) | exact HB.out)) hb); have n1_ := Aside0.mk (hbox); have n2_ := Aside0.mk ((by rw [hg]; exact (below_size (by repeat (first | (with_reducible first | exact HB.out | apply below_alloc | apply pw_below_drewN | apply below_drew1) | exact HB.out))) : w.heap.size ≤ gb173)); have n3_ := Aside0.mk ((by rw [hg]; exact (below_size (by repeat (first | (with_reducible first | exact HB.out | apply below_alloc | apply pw_below_drewN | apply below_drew1) | exact HB.out))) : w.heap.size ≤ gb173)); clear HB; have HB := n0_; have BK173 := n1_; have GW173 := n2_; have GE173 := n3_; clear n0_ n1_ n2_ n3_; clear hb hbox hg) | ((with_reducible refine gate_dst (N := 3) rfl ?_); refine box_event ?hg (N := 3) ?hd (cs := #[.slice A1_0 l1_0.length c1_0]) (t := 28) ?hr ?_; (case hd => rfl); (case hg => rfl); (case hr => first | (go_simp; done) | (go_simp; rfl)); intro gb174 hg w11 hbox hb; have n0_ := Aside0.mk (blk_below (g := gb173) (o := .cells #[.slice A0_0 l0_0.length c0_0] 28 (0, 0)) (by (with_reducible repeat (first | refine blk_drewN ?_ _ | refine blk_drew ?_ | refine blk_alloc ?_ _)); exact BK173.out) hb); have n1_ := Aside0.mk (below_step (by repeat (first | (with_reducible first | exact HB.out | apply below_alloc | apply pw_below_drewN | apply below_drew1 | refine below_set ?_ GE173.out) | exact HB.out)) hb); have n2_ := Aside0.mk (hbox); have n3_ := Aside0.mk ((by rw [hg]; exact (below_size (by repeat (first | (with_reducible first | exact HB.out | apply below_alloc | apply pw_below_drewN | apply below_drew1 | refine below_set ?_ GE173.out) | exact HB.out))) : w.heap.size ≤ gb174)); have n4_ := Aside0.mk ((by rw [hg]; exact (below_size (by repeat (first | (with_reducible first | exact HB.out | apply below_alloc | apply pw_below_drewN | apply below_drew1 | refine below_set ?_ GE173.out) | exact HB.out))) : w.heap.size ≤ gb174)); have n5_ := Aside0.mk ((by rw [hg]; exact Nat.ne_of_lt (blk_lt (g := gb173) (o := .cells #[.slice A0_0 l0_0.length c0_0] 28 (0, 0)) (by (with_reducible repeat (first | refine blk_drewN ?_ _ | refine blk_drew ?_ | refine blk_alloc ?_ _)); exact BK173.out)) : gb173 ≠ gb174)); have n6_ := Aside0.mk ((by rw [hg]; exact Nat.ne_of_gt (blk_lt (g := gb173) (o := .cells #[.slice A0_0 l0_0.length c0_0] 28 (0, 0)) (by (with_reducible repeat (first | refine blk_drewN ?_ _ | refine blk_drew ?_ | refine blk_alloc ?_ _)); exact BK173.out)) : gb174 ≠ gb173)); clear BK173; clear HB; have BK173 := n0_; have HB := n1_; have BK174 := n2_; have GW174 := n3_; have GE174 := n4_; have NB173_174 := n5_; have NB174_173 := n6_; clear n0_ n1_ n2_ n3_ n4_ n5_ n6_; clear hb hbox hg; have hnb12 := NB173_174.out; have hnc12 := NB174_173.out; have hcz13_0 : w11.cell? ⟨gb173, 0, none⟩ = some (.slice A0_0 l0_0.length c0_0) := (blk_cell BK173.out 0).trans rfl; have hfz13_0 := blk_frozen BK173.out 0; have hcz14_0 : w11.cell? ⟨gb174, 0, none⟩ = some (.slice A1_0 l1_0.length c1_0) := (blk_cell BK174.out 0).trans rfl; have hfz14_0 := blk_frozen BK174.out 0) | ((with_reducible refine gate_callee (f := 28) rfl ?_); refine goesL_ (some 9) rfl rfl Try.func28 (by kernel_rfl) rfl #[.slice A0_0 l0_0.length c0_0, .slice A1_0 l1_0.length c1_0] rfl (by (try simp only [List.map_toArray, List.map_cons, List.map_nil]); first | done | rfl | (simp only [List.length_drop, List.length_take]; rfl)) ?_; (with_reducible refine (laws_eqInt64S.calls k _ _ l0_0 _ _ l1_0 false _ ?side1 ?side2 ?side3 ?side4 A3.out).mono ?_); (case side1 => repeat (first | exact (Kd.C_below HR0_0.out HB.out) | (with_reducible refine Kd.C_alloc ?_ _) | (with_reducible refine Kd.C_drewN ?_ _) | (with_reducible refine Kd.C_drew ?_))); (case side2 => exact HC0_0.out); (case side3 => repeat (first | exact (Kd.C_below HR1_0.out HB.out) | (with_reducible refine Kd.C_alloc ?_ _) | (with_reducible refine Kd.C_drewN ?_ _) | (with_reducible refine Kd.C_drew ?_))); (case side4 => exact HC1_0.out); rintro e w' ⟨rfl, ⟨nd, rfl⟩⟩; refine ⟨_, rfl, ?_⟩))
    go_ret
    exact ⟨by first | rfl | (simp [errW_none, errW_some] <;> rfl) | (simp [*, errW_none, errW_some] <;> rfl), by repeat (first | (with_reducible first | exact HB.out | apply below_alloc | apply pw_below_drewN | apply below_drew1 | refine below_set ?_ GE173.out | refine below_set ?_ GE174.out) | exact HB.out)⟩

end Go.Proofs.Ythjkdnneagnejaa.PFnExactHasChoice
