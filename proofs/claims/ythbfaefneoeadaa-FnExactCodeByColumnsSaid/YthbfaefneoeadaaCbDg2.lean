/- Walks over the digits of words: far, wordOf, sumOf. Spaces of at most 8 places of sizes 2 to 4. -/
import Derived.Test.YthbfaefneoeadaaCbDg
import Derived.Outline
namespace Go.Proofs.Ythbfaefneoeadaa.DG
open Go Go.RowKit Go.Proofs.YthbfaefneoeadaaW.PrintWords Go.Proofs.YthbfaefneoeadaaW.PrintLast Go.Proofs.YthbfaefneoeadaaW.PrintMore
set_option linter.unusedVariables false
set_option linter.unusedSimpArgs false
/-- In how many places two lists are not one. -/
def farL : List Int → List Int → Int
  | x :: r, y :: s => (if x = y then 0 else 1) + farL r s
  | _, _ => 0
/-- Eight numbers as they lie. -/
abbrev ag8 (a0 a1 a2 a3 a4 a5 a6 a7 : Int) : Array Value := #[.int .u8 a0, .int .u8 a1, .int .u8 a2, .int .u8 a3, .int .u8 a4, .int .u8 a5, .int .u8 a6, .int .u8 a7]
theorem ag8_cell (a0 a1 a2 a3 a4 a5 a6 a7 : Int) {w : World} {g : Nat} {t : TypeId} (h : w.heap[g]? = some (.cells (ag8 a0 a1 a2 a3 a4 a5 a6 a7) t (0, 0))) (i : Nat) (hi : i < 8) : w.cell? ⟨g, i, none⟩ = some (.int .u8 (rd [a0, a1, a2, a3, a4, a5, a6, a7] (i : Int))) := by
  rw [blk_cell h i]
  match i, hi with
  | 0, _ => rfl
  | 1, _ => rfl
  | 2, _ => rfl
  | 3, _ => rfl
  | 4, _ => rfl
  | 5, _ => rfl
  | 6, _ => rfl
  | 7, _ => rfl
def impl_far.f (k : Nat) (a0_0 a0_1 a0_2 a0_3 a0_4 a0_5 a0_6 a0_7 a1_0 a1_1 a1_2 a1_3 a1_4 a1_5 a1_6 a1_7 : Int) : Option Int := some (farL [a0_0, a0_1, a0_2, a0_3, a0_4, a0_5, a0_6, a0_7] [a1_0, a1_1, a1_2, a1_3, a1_4, a1_5, a1_6, a1_7])
theorem impl_far.mono : ∀ a0 a1 a2 a3 a4 a5 a6 a7 b0 b1 b2 b3 b4 b5 b6 b7 k, LeO (impl_far.f k a0 a1 a2 a3 a4 a5 a6 a7 b0 b1 b2 b3 b4 b5 b6 b7) (impl_far.f (k + 1) a0 a1 a2 a3 a4 a5 a6 a7 b0 b1 b2 b3 b4 b5 b6 b7) := fun _ _ _ _ _ _ _ _ _ _ _ _ _ _ _ _ _ => LeO.refl _
/-- The word with digits, over acc. -/
def wordI : Int → List Int → List Int → Int
  | acc, q :: r, d :: s => wordI (acc * q + d) r s
  | acc, _, _ => acc
theorem word_next (acc : Int) (l m : List Int) (i : Nat) (h : i < l.length) (h2 : i < m.length) : wordI acc (l.drop i) (m.drop i) = wordI (acc * rd l (i : Int) + rd m (i : Int)) (l.drop (i + 1)) (m.drop (i + 1)) := by
  rw [List.drop_eq_getElem_cons h, List.drop_eq_getElem_cons h2]
  simp [wordI, rd, List.getElem?_eq_getElem h, List.getElem?_eq_getElem h2]
theorem rd_ge (l : List Int) (P : Int → Prop) (h : ∀ q ∈ l, P q) (m : Nat) (hm : m < l.length) : P (rd l (m : Int)) := by
  have e : rd l (m : Int) = l[m] := by simp [rd, List.getElem?_eq_getElem hm]
  rw [e]; exact h _ (List.getElem_mem hm)
def pw4 : Nat → Int
  | 0 => 85
  | n + 1 => 4 * pw4 n
theorem pw4_le : ∀ i, i ≤ 8 → pw4 i ≤ 5570560 ∧ 85 ≤ pw4 i := by decide
set_option maxHeartbeats 1000000 in
set_option maxRecDepth 100000 in
theorem wordOf_walk (A : Option Addr) (c : Nat) (l : List Int) (b0 b1 b2 b3 b4 b5 b6 b7 : Int) (w : World) (hr : Kd.C (Kd.int .i64) w A l.length l) (h8 : l.length ≤ 8) (hq : ∀ q ∈ l, 2 ≤ q ∧ q ≤ 4) (hb : ∀ x ∈ [b0, b1, b2, b3, b4, b5, b6, b7], 0 ≤ x ∧ x ≤ 255) :
    Calls Try.prog 68 #[.agg #[.slice A l.length c], .agg (ag8 b0 b1 b2 b3 b4 b5 b6 b7)] w fun e w' => e = .returned (.int .i64 (wordI 0 l [b0, b1, b2, b3, b4, b5, b6, b7])) ∧ Below w.heap.size w w' := by
  have HR := Aside0.mk hr
  have HQ := Aside0.mk hq
  have HBD := Aside0.mk hb
  clear hr hq hb
  go_enter Try.func68, Try.ntmps68
  go_wp2
  go_loopg [5, 11] 8 (fun gg s5 s11 wr => ∃ (i : Nat) (n : Int), s5 = .int .i64 n ∧ s11 = .int .i64 i ∧ i ≤ l.length ∧ l.length - i ≤ gg ∧ 0 ≤ n ∧ Aside0 (n + 85 ≤ pw4 i) ∧ Aside0 (wordI n (l.drop i) ([b0, b1, b2, b3, b4, b5, b6, b7].drop i) = wordI 0 l [b0, b1, b2, b3, b4, b5, b6, b7]) ∧ Aside0 (wr.heap[w.heap.size + 1]? = some (.cells (ag8 b0 b1 b2 b3 b4 b5 b6 b7) 82 (0, 0))) ∧ Aside0 (Below w.heap.size w wr))
  case atStart =>
    refine ⟨0, 0, rfl, rfl, by omega, by omega, by omega, ⟨by decide⟩, ⟨by simp⟩, ⟨?_⟩, ⟨below_alloc (below_alloc (Below.refl _ _) _) _⟩⟩
    have h := blk_new (w.alloc (.cells #[.slice A l.length c] 30)) (.cells (ag8 b0 b1 b2 b3 b4 b5 b6 b7) 82)
    rw [World.size_alloc] at h
    exact h
  case round =>
    obtain ⟨i, n, rfl, rfl, hil, hgg, hn0, HP, HN, H1, HB⟩ := hrel
    by_cases hi : i < l.length
    · have hiz : (i : Int) < (l.length : Int) := by omega
      have hi8 : (i : Int) < 8 := by omega
      have hi0 : (0 : Int) ≤ (i : Int) := by omega
      obtain ⟨ad, e, hx⟩ := Kd.at_int HR.out (i : Int) (by omega) hiz
      cases e
      rw [Int.toNat_natCast] at hx
      replace hx := (HB.out.cell (World.block_lt_of_cell? w _ hx)).trans hx
      have hcell := ag8_cell b0 b1 b2 b3 b4 b5 b6 b7 H1.out i (by omega)
      have hq1 := rd_ge l _ HQ.out i hi
      have hd1 := rd_ge [b0, b1, b2, b3, b4, b5, b6, b7] _ HBD.out i (show i < 8 by omega)
      have HNX := Aside0.mk (word_next n l [b0, b1, b2, b3, b4, b5, b6, b7] i hi (show i < 8 by omega))
      obtain ⟨q, hqe⟩ : ∃ x, x = rd l (i : Int) := ⟨_, rfl⟩
      obtain ⟨d, hde⟩ : ∃ y, y = rd [b0, b1, b2, b3, b4, b5, b6, b7] (i : Int) := ⟨_, rfl⟩
      rw [← hqe] at hx hq1 HNX
      rw [← hde] at hcell hd1 HNX
      clear hqe hde
      obtain ⟨hq1, hq2⟩ := hq1
      obtain ⟨hd1, hd2⟩ := hd1
      have hpw := pw4_le i (by omega)
      have hp := HP.out
      have hm1 : n * q ≤ n * 4 := Int.mul_le_mul_of_nonneg_left hq2 hn0
      have hm2 : 0 ≤ n * q := Int.mul_nonneg hn0 (by omega)
      have hm3 : n * q ≤ 22282240 := by omega
      clear hpw
      go_wp2
      go_roundg (l.length - (i + 1))
      case measure => omega
      case rel =>
        refine ⟨i + 1, n * q + d, rfl, by go_num, by omega, by omega, by omega, ⟨?_⟩, ⟨?_⟩, H1, HB⟩
        · show n * q + d + 85 ≤ 4 * pw4 i
          omega
        · rw [← HN.out, HNX.out]
    · obtain rfl : i = l.length := by omega
      have hiz : ¬ (l.length : Int) < (l.length : Int) := by omega
      go_wp2
      go_ret
      refine ⟨?_, HB.out⟩
      rw [← HN.out, List.drop_length]
      simp [wordI]
def okB (d : List Int) : Bool := d.all fun x => decide (0 ≤ x) && decide (x ≤ 255)
def impl_wordOf.f (k : Nat) (l0_0 : List Int) (a1_0 a1_1 a1_2 a1_3 a1_4 a1_5 a1_6 a1_7 : Int) : Option Int := if okS l0_0 = true then (if okB [a1_0, a1_1, a1_2, a1_3, a1_4, a1_5, a1_6, a1_7] = true then some (wordI 0 l0_0 [a1_0, a1_1, a1_2, a1_3, a1_4, a1_5, a1_6, a1_7]) else none) else none
theorem impl_wordOf.mono : ∀ a0 b0 b1 b2 b3 b4 b5 b6 b7 k, LeO (impl_wordOf.f k a0 b0 b1 b2 b3 b4 b5 b6 b7) (impl_wordOf.f (k + 1) a0 b0 b1 b2 b3 b4 b5 b6 b7) := fun _ _ _ _ _ _ _ _ _ _ => LeO.refl _
theorem impl_wordOf.calls (k : Nat) (A0_0 : Option Addr) (c0_0 : Nat) (l0_0 : List Int) (a1_0 a1_1 a1_2 a1_3 a1_4 a1_5 a1_6 a1_7 : Int) (r : Int) (w : World) (hr0_0 : Kd.C (Kd.int .i64) w A0_0 l0_0.length l0_0) (hc0_0 : l0_0.length ≤ c0_0) (h : impl_wordOf.f k l0_0 a1_0 a1_1 a1_2 a1_3 a1_4 a1_5 a1_6 a1_7 = some r) :
    Calls Try.prog 68 #[.agg #[.slice A0_0 l0_0.length c0_0], .agg #[.int .u8 a1_0, .int .u8 a1_1, .int .u8 a1_2, .int .u8 a1_3, .int .u8 a1_4, .int .u8 a1_5, .int .u8 a1_6, .int .u8 a1_7]] w fun e w' => e = .returned (.int .i64 r) ∧ Below w.heap.size w w' := by
  unfold impl_wordOf.f at h
  by_cases h1 : okS l0_0 = true
  · rw [if_pos h1] at h
    by_cases h2 : okB [a1_0, a1_1, a1_2, a1_3, a1_4, a1_5, a1_6, a1_7] = true
    · rw [if_pos h2] at h
      obtain rfl := Option.some.inj h
      obtain ⟨h8, hq⟩ := (okS_iff l0_0).1 h1
      exact wordOf_walk A0_0 c0_0 l0_0 a1_0 a1_1 a1_2 a1_3 a1_4 a1_5 a1_6 a1_7 w hr0_0 h8 hq (by simpa [okB] using h2)
    · rw [if_neg h2] at h; cases h
  · rw [if_neg h1] at h; cases h
/-- Sums, place by place. -/
def sumL : List Int → List Int → List Int → List Int
  | q :: r, x :: s, y :: t => ((x + y) % q) :: sumL r s t
  | _, _, _ => []
theorem sumL_len : ∀ (l a b : List Int), l.length ≤ a.length → l.length ≤ b.length → (sumL l a b).length = l.length
  | [], _, _, _, _ => by simp [sumL]
  | _ :: r, [], _, h, _ => by simp at h
  | _ :: r, _ :: _, [], _, h => by simp at h
  | q :: r, x :: s, y :: t, h, h' => by
    simp only [sumL, List.length_cons] at *
    rw [sumL_len r s t (by omega) (by omega)]
theorem sumL_get : ∀ (l a b : List Int) (i : Nat), i < l.length → l.length ≤ a.length → l.length ≤ b.length → (sumL l a b)[i]? = some ((rd a (i : Int) + rd b (i : Int)) % rd l (i : Int))
  | [], _, _, i, h, _, _ => by simp at h
  | _ :: r, [], _, i, _, h, _ => by simp at h
  | _ :: r, _ :: _, [], i, _, _, h => by simp at h
  | q :: r, x :: s, y :: t, 0, _, _, _ => by simp [sumL, rd]
  | q :: r, x :: s, y :: t, i + 1, h, h', h'' => by
    simp only [List.length_cons] at *
    have := sumL_get r s t i (by omega) (by omega) (by omega)
    simp only [rd, Int.toNat_natCast] at *
    simp only [sumL, List.getElem?_cons_succ, List.getD_cons_succ]
    exact this
/-- The cells while the sums are made. -/
def sl8 (l a b : List Int) (i : Nat) : List Int := (sumL l a b).take i ++ List.replicate (8 - i) 0
theorem sl8_len (l a b : List Int) (i : Nat) (hi : i ≤ l.length) (h8 : l.length ≤ 8) (ha : a.length = 8) (hb : b.length = 8) : (sl8 l a b i).length = 8 := by
  unfold sl8
  rw [List.length_append, List.length_take, sumL_len l a b (by omega) (by omega), List.length_replicate]; omega
theorem sl8_step (l a b : List Int) (i : Nat) (hi : i < l.length) (h8 : l.length ≤ 8) (ha : a.length = 8) (hb : b.length = 8) : (cellsU8 (sl8 l a b i)).setIfInBounds i (.int .u8 ((rd a (i : Int) + rd b (i : Int)) % rd l (i : Int))) = cellsU8 (sl8 l a b (i + 1)) := by
  unfold cellsU8
  rw [List.setIfInBounds_toArray, ← List.map_set]
  congr 2
  unfold sl8
  have hl := sumL_len l a b (by omega) (by omega)
  have hg := sumL_get l a b i hi (by omega) (by omega)
  rw [List.take_add_one, hg, List.set_append]
  have ht : ((sumL l a b).take i).length = i := by rw [List.length_take]; omega
  rw [if_neg (by omega), ht, Nat.sub_self, show 8 - i = (8 - (i + 1)) + 1 by omega, List.replicate_succ]
  simp
set_option maxHeartbeats 2000000 in
set_option maxRecDepth 100000 in
theorem sumOf_walk (A : Option Addr) (c : Nat) (l : List Int) (a0 a1 a2 a3 a4 a5 a6 a7 b0 b1 b2 b3 b4 b5 b6 b7 : Int) (w : World) (hr : Kd.C (Kd.int .i64) w A l.length l) (h8 : l.length ≤ 8) (hq : ∀ q ∈ l, 2 ≤ q ∧ q ≤ 4) (ha : ∀ x ∈ [a0, a1, a2, a3, a4, a5, a6, a7], 0 ≤ x ∧ x ≤ 255) (hb : ∀ x ∈ [b0, b1, b2, b3, b4, b5, b6, b7], 0 ≤ x ∧ x ≤ 255) (d0 d1 d2 d3 d4 d5 d6 d7 : Int) (hd : sl8 l [a0, a1, a2, a3, a4, a5, a6, a7] [b0, b1, b2, b3, b4, b5, b6, b7] l.length = [d0, d1, d2, d3, d4, d5, d6, d7]) :
    Calls Try.prog 67 #[.agg #[.slice A l.length c], .agg (ag8 a0 a1 a2 a3 a4 a5 a6 a7), .agg (ag8 b0 b1 b2 b3 b4 b5 b6 b7)] w fun e w' => e = .returned (.agg (ag8 d0 d1 d2 d3 d4 d5 d6 d7)) ∧ Below w.heap.size w w' := by
  have HR := Aside0.mk hr
  have HQ := Aside0.mk hq
  have HAD := Aside0.mk ha
  have HBD := Aside0.mk hb
  have HD := Aside0.mk hd
  clear hr hq ha hb hd
  go_enter Try.func67, Try.ntmps67
  go_wp2
  go_loopg [14] 8 (fun gg s14 wr => ∃ (i : Nat), s14 = .int .i64 i ∧ i ≤ l.length ∧ l.length - i ≤ gg ∧ Aside0 (wr.heap[w.heap.size + 1]? = some (.cells (ag8 a0 a1 a2 a3 a4 a5 a6 a7) 82 (0, 0))) ∧ Aside0 (wr.heap[w.heap.size + 1 + 1]? = some (.cells (ag8 b0 b1 b2 b3 b4 b5 b6 b7) 82 (0, 0))) ∧ Aside0 (wr.heap[w.heap.size + 1 + 1 + 1]? = some (.cells #[.int .u8 0, .int .u8 0, .int .u8 0, .int .u8 0, .int .u8 0, .int .u8 0, .int .u8 0, .int .u8 0] 82 (0, 0))) ∧ Aside0 (wr.heap[w.heap.size + 1 + 1 + 1 + 1]? = some (.cells (cellsU8 (sl8 l [a0, a1, a2, a3, a4, a5, a6, a7] [b0, b1, b2, b3, b4, b5, b6, b7] i)) 82 (0, 0))) ∧ Aside0 (Below w.heap.size w wr))
  case atStart =>
    refine ⟨0, rfl, by omega, by omega, ⟨?_⟩, ⟨?_⟩, ⟨?_⟩, ⟨?_⟩, ⟨below_alloc (below_alloc (below_alloc (below_alloc (below_alloc (Below.refl _ _) _) _) _) _) _⟩⟩
    · have h := blk_alloc (blk_alloc (blk_alloc (blk_new (w.alloc (.cells #[.slice A l.length c] 30)) (.cells (ag8 a0 a1 a2 a3 a4 a5 a6 a7) 82)) (.cells (ag8 b0 b1 b2 b3 b4 b5 b6 b7) 82)) (.cells #[.int .u8 0, .int .u8 0, .int .u8 0, .int .u8 0, .int .u8 0, .int .u8 0, .int .u8 0, .int .u8 0] 82)) (.cells #[.int .u8 0, .int .u8 0, .int .u8 0, .int .u8 0, .int .u8 0, .int .u8 0, .int .u8 0, .int .u8 0] 82)
      rw [World.size_alloc] at h
      exact h
    · have h := blk_alloc (blk_alloc (blk_new ((w.alloc (.cells #[.slice A l.length c] 30)).alloc (.cells (ag8 a0 a1 a2 a3 a4 a5 a6 a7) 82)) (.cells (ag8 b0 b1 b2 b3 b4 b5 b6 b7) 82)) (.cells #[.int .u8 0, .int .u8 0, .int .u8 0, .int .u8 0, .int .u8 0, .int .u8 0, .int .u8 0, .int .u8 0] 82)) (.cells #[.int .u8 0, .int .u8 0, .int .u8 0, .int .u8 0, .int .u8 0, .int .u8 0, .int .u8 0, .int .u8 0] 82)
      rw [World.size_alloc, World.size_alloc] at h
      exact h
    · have h := blk_alloc (blk_new (((w.alloc (.cells #[.slice A l.length c] 30)).alloc (.cells (ag8 a0 a1 a2 a3 a4 a5 a6 a7) 82)).alloc (.cells (ag8 b0 b1 b2 b3 b4 b5 b6 b7) 82)) (.cells #[.int .u8 0, .int .u8 0, .int .u8 0, .int .u8 0, .int .u8 0, .int .u8 0, .int .u8 0, .int .u8 0] 82)) (.cells #[.int .u8 0, .int .u8 0, .int .u8 0, .int .u8 0, .int .u8 0, .int .u8 0, .int .u8 0, .int .u8 0] 82)
      rw [World.size_alloc, World.size_alloc, World.size_alloc] at h
      exact h
    · have h := blk_new ((((w.alloc (.cells #[.slice A l.length c] 30)).alloc (.cells (ag8 a0 a1 a2 a3 a4 a5 a6 a7) 82)).alloc (.cells (ag8 b0 b1 b2 b3 b4 b5 b6 b7) 82)).alloc (.cells #[.int .u8 0, .int .u8 0, .int .u8 0, .int .u8 0, .int .u8 0, .int .u8 0, .int .u8 0, .int .u8 0] 82)) (.cells #[.int .u8 0, .int .u8 0, .int .u8 0, .int .u8 0, .int .u8 0, .int .u8 0, .int .u8 0, .int .u8 0] 82)
      rw [World.size_alloc, World.size_alloc, World.size_alloc, World.size_alloc] at h
      exact h
  case round =>
    obtain ⟨i, rfl, hil, hgg, H1, H2, H3, H4, HB⟩ := hrel
    by_cases hi : i < l.length
    · have hiz : (i : Int) < (l.length : Int) := by omega
      have hi8 : (i : Int) < 8 := by omega
      have hi0 : (0 : Int) ≤ (i : Int) := by omega
      obtain ⟨ad, e, hx⟩ := Kd.at_int HR.out (i : Int) (by omega) hiz
      cases e
      rw [Int.toNat_natCast] at hx
      replace hx := (HB.out.cell (World.block_lt_of_cell? w _ hx)).trans hx
      have hca := ag8_cell a0 a1 a2 a3 a4 a5 a6 a7 H1.out i (by omega)
      have hcb := ag8_cell b0 b1 b2 b3 b4 b5 b6 b7 H2.out i (by omega)
      have hq1 := rd_ge l _ HQ.out i hi
      have ha1 := rd_ge [a0, a1, a2, a3, a4, a5, a6, a7] _ HAD.out i (show i < 8 by omega)
      have hd1 := rd_ge [b0, b1, b2, b3, b4, b5, b6, b7] _ HBD.out i (show i < 8 by omega)
      have HST := Aside0.mk (sl8_step l [a0, a1, a2, a3, a4, a5, a6, a7] [b0, b1, b2, b3, b4, b5, b6, b7] i hi h8 rfl rfl)
      obtain ⟨old, hold⟩ : ∃ old, wr.cell? ⟨w.heap.size + 1 + 1 + 1 + 1, i, none⟩ = some old := by
        rw [blk_cell H4.out i]
        refine ⟨_, Array.getElem?_eq_getElem ?_⟩
        unfold cellsU8
        rw [List.size_toArray, List.length_map, sl8_len l _ _ i hil h8 rfl rfl]; omega
      have hfz : wr.frozen? ⟨w.heap.size + 1 + 1 + 1 + 1, i, none⟩ = false := blk_frozen H4.out i
      obtain ⟨q, hqe⟩ : ∃ x, x = rd l (i : Int) := ⟨_, rfl⟩
      obtain ⟨x, hxe⟩ : ∃ y, y = rd [a0, a1, a2, a3, a4, a5, a6, a7] (i : Int) := ⟨_, rfl⟩
      obtain ⟨d, hde⟩ : ∃ y, y = rd [b0, b1, b2, b3, b4, b5, b6, b7] (i : Int) := ⟨_, rfl⟩
      rw [← hqe] at hx hq1 HST
      rw [← hxe] at hca ha1 HST
      rw [← hde] at hcb hd1 HST
      clear hqe hde hxe
      obtain ⟨hq1, hq2⟩ := hq1
      obtain ⟨hd1, hd2⟩ := hd1
      obtain ⟨ha1, ha2⟩ := ha1
      have hmod1 := Int.emod_nonneg (x + d) (b := q) (by omega)
      have hmod2 := Int.emod_lt_of_pos (x + d) (b := q) (by omega)
      have hs1 : IntKind.i64.wrap (x + d) = x + d := by rw [IntKind.wrap_i64]; omega
      have hs2 : (x + d).tmod q = (x + d) % q := Int.tmod_eq_emod_of_nonneg (by omega)
      have hs3 : IntKind.u8.wrap ((x + d) % q) = (x + d) % q := by
        have e : IntKind.u8.wrap ((x + d) % q) = ((x + d) % q) % 256 := by simp [IntKind.wrap, IntKind.bits, IntKind.signed]
        rw [e]; exact Int.emod_eq_of_lt hmod1 (by omega)
      have hs4 : IntKind.i64.wrap x = x := by rw [IntKind.wrap_i64]; omega
      have hs5 : IntKind.i64.wrap d = d := by rw [IntKind.wrap_i64]; omega
      have hq0 : (q == 0) = false := beq_eq_false_iff_ne.2 (by omega)
      go_wp2
      go_region
      go_wp2
      go_roundg (l.length - (i + 1))
      case measure => omega
      case rel =>
        refine ⟨i + 1, by go_num, by omega, by omega, ⟨blk_far H1.out (show w.heap.size + 1 ≠ w.heap.size + 1 + 1 + 1 + 1 by omega) _⟩, ⟨blk_far H2.out (show w.heap.size + 1 + 1 ≠ w.heap.size + 1 + 1 + 1 + 1 by omega) _⟩, ⟨blk_far H3.out (show w.heap.size + 1 + 1 + 1 ≠ w.heap.size + 1 + 1 + 1 + 1 by omega) _⟩, ⟨?_⟩, ⟨below_drew (below_set (g := w.heap.size + 1 + 1 + 1 + 1) HB.out (by omega))⟩⟩
        exact blk_put H4.out i _ HST.out
    · obtain rfl : i = l.length := by omega
      have hiz : ¬ (l.length : Int) < (l.length : Int) := by omega
      have H4' := Aside0.mk (show wr.heap[w.heap.size + 1 + 1 + 1 + 1]? = some (.cells (ag8 d0 d1 d2 d3 d4 d5 d6 d7) 82 (0, 0)) by
        have h := H4.out
        rw [HD.out] at h
        exact h)
      have l0 : wr.cell? ⟨w.heap.size + 1 + 1 + 1 + 1, 0, none⟩ = some (.int .u8 d0) := (blk_cell H4'.out 0).trans rfl
      have l1 : wr.cell? ⟨w.heap.size + 1 + 1 + 1 + 1, 1, none⟩ = some (.int .u8 d1) := (blk_cell H4'.out 1).trans rfl
      have l2 : wr.cell? ⟨w.heap.size + 1 + 1 + 1 + 1, 2, none⟩ = some (.int .u8 d2) := (blk_cell H4'.out 2).trans rfl
      have l3 : wr.cell? ⟨w.heap.size + 1 + 1 + 1 + 1, 3, none⟩ = some (.int .u8 d3) := (blk_cell H4'.out 3).trans rfl
      have l4 : wr.cell? ⟨w.heap.size + 1 + 1 + 1 + 1, 4, none⟩ = some (.int .u8 d4) := (blk_cell H4'.out 4).trans rfl
      have l5 : wr.cell? ⟨w.heap.size + 1 + 1 + 1 + 1, 5, none⟩ = some (.int .u8 d5) := (blk_cell H4'.out 5).trans rfl
      have l6 : wr.cell? ⟨w.heap.size + 1 + 1 + 1 + 1, 6, none⟩ = some (.int .u8 d6) := (blk_cell H4'.out 6).trans rfl
      have l7 : wr.cell? ⟨w.heap.size + 1 + 1 + 1 + 1, 7, none⟩ = some (.int .u8 d7) := (blk_cell H4'.out 7).trans rfl
      have c0 : wr.cell? ⟨w.heap.size + 1 + 1 + 1, 0, none⟩ = some (.int .u8 0) := (blk_cell H3.out 0).trans rfl
      have c1 : wr.cell? ⟨w.heap.size + 1 + 1 + 1, 1, none⟩ = some (.int .u8 0) := (blk_cell H3.out 1).trans rfl
      have c2 : wr.cell? ⟨w.heap.size + 1 + 1 + 1, 2, none⟩ = some (.int .u8 0) := (blk_cell H3.out 2).trans rfl
      have c3 : wr.cell? ⟨w.heap.size + 1 + 1 + 1, 3, none⟩ = some (.int .u8 0) := (blk_cell H3.out 3).trans rfl
      have c4 : wr.cell? ⟨w.heap.size + 1 + 1 + 1, 4, none⟩ = some (.int .u8 0) := (blk_cell H3.out 4).trans rfl
      have c5 : wr.cell? ⟨w.heap.size + 1 + 1 + 1, 5, none⟩ = some (.int .u8 0) := (blk_cell H3.out 5).trans rfl
      have c6 : wr.cell? ⟨w.heap.size + 1 + 1 + 1, 6, none⟩ = some (.int .u8 0) := (blk_cell H3.out 6).trans rfl
      have c7 : wr.cell? ⟨w.heap.size + 1 + 1 + 1, 7, none⟩ = some (.int .u8 0) := (blk_cell H3.out 7).trans rfl
      have f : ∀ j, wr.frozen? ⟨w.heap.size + 1 + 1 + 1, j, none⟩ = false := fun j => blk_frozen H3.out j
      go_wp2
      refine bodyPost_ret (results_cell_row rfl _ _ (w.heap.size + 1 + 1 + 1) 82 (ag8 d0 d1 d2 d3 d4 d5 d6 d7) (0, 0) _ rfl ?_ Try.underlying82 rfl (by kernel_rfl)) rfl ⟨rfl, ?_⟩
      · exact blk_put (blk_put (blk_put (blk_put (blk_put (blk_put (blk_put (blk_put H3.out 0 _ rfl) 1 _ rfl) 2 _ rfl) 3 _ rfl) 4 _ rfl) 5 _ rfl) 6 _ rfl) 7 _ rfl
      · exact below_set (below_set (below_set (below_set (below_set (below_set (below_set (below_set HB.out (by omega)) (by omega)) (by omega)) (by omega)) (by omega)) (by omega)) (by omega)) (by omega)
theorem getD_pad (s : List Int) (m j : Nat) : (s ++ List.replicate m 0).getD j 0 = s.getD j 0 := getD_zeros s m j
theorem sl8_tup (l a b : List Int) (r1 r2 r3 r4 r5 r6 r7 r8 : Int) (h : tup8 (sumL l a b) = (r1, r2, r3, r4, r5, r6, r7, r8)) (h8 : l.length ≤ 8) (ha : a.length = 8) (hb : b.length = 8) : sl8 l a b l.length = [r1, r2, r3, r4, r5, r6, r7, r8] := by
  obtain ⟨e0, e1, e2, e3, e4, e5, e6, e7, he⟩ := eight (sl8 l a b l.length) (sl8_len l a b l.length (Nat.le_refl _) h8 ha hb)
  rw [he]
  have hz : sl8 l a b l.length = sumL l a b ++ List.replicate (8 - l.length) 0 := by
    unfold sl8
    rw [List.take_of_length_le (by rw [sumL_len l a b (by omega) (by omega)]; omega)]
  have g : ∀ j, (sumL l a b).getD j 0 = [e0, e1, e2, e3, e4, e5, e6, e7].getD j 0 := fun j => by rw [← he, hz, getD_pad]
  unfold tup8 at h
  rw [g, g, g, g, g, g, g, g] at h
  simpa using h
def impl_sumOf.f (k : Nat) (l0_0 : List Int) (a1_0 a1_1 a1_2 a1_3 a1_4 a1_5 a1_6 a1_7 a2_0 a2_1 a2_2 a2_3 a2_4 a2_5 a2_6 a2_7 : Int) : Option (Int × Int × Int × Int × Int × Int × Int × Int) := if okS l0_0 = true then (if okB [a1_0, a1_1, a1_2, a1_3, a1_4, a1_5, a1_6, a1_7] = true then (if okB [a2_0, a2_1, a2_2, a2_3, a2_4, a2_5, a2_6, a2_7] = true then some (tup8 (sumL l0_0 [a1_0, a1_1, a1_2, a1_3, a1_4, a1_5, a1_6, a1_7] [a2_0, a2_1, a2_2, a2_3, a2_4, a2_5, a2_6, a2_7])) else none) else none) else none
theorem impl_sumOf.mono : ∀ a0 b0 b1 b2 b3 b4 b5 b6 b7 c0 c1 c2 c3 c4 c5 c6 c7 k, LeO (impl_sumOf.f k a0 b0 b1 b2 b3 b4 b5 b6 b7 c0 c1 c2 c3 c4 c5 c6 c7) (impl_sumOf.f (k + 1) a0 b0 b1 b2 b3 b4 b5 b6 b7 c0 c1 c2 c3 c4 c5 c6 c7) := fun _ _ _ _ _ _ _ _ _ _ _ _ _ _ _ _ _ _ => LeO.refl _
theorem impl_sumOf.calls (k : Nat) (A0_0 : Option Addr) (c0_0 : Nat) (l0_0 : List Int) (a1_0 a1_1 a1_2 a1_3 a1_4 a1_5 a1_6 a1_7 a2_0 a2_1 a2_2 a2_3 a2_4 a2_5 a2_6 a2_7 : Int) (r1 r2 r3 r4 r5 r6 r7 r8 : Int) (w : World) (hr0_0 : Kd.C (Kd.int .i64) w A0_0 l0_0.length l0_0) (hc0_0 : l0_0.length ≤ c0_0) (h : impl_sumOf.f k l0_0 a1_0 a1_1 a1_2 a1_3 a1_4 a1_5 a1_6 a1_7 a2_0 a2_1 a2_2 a2_3 a2_4 a2_5 a2_6 a2_7 = some (r1, r2, r3, r4, r5, r6, r7, r8)) :
    Calls Try.prog 67 #[.agg #[.slice A0_0 l0_0.length c0_0], .agg #[.int .u8 a1_0, .int .u8 a1_1, .int .u8 a1_2, .int .u8 a1_3, .int .u8 a1_4, .int .u8 a1_5, .int .u8 a1_6, .int .u8 a1_7], .agg #[.int .u8 a2_0, .int .u8 a2_1, .int .u8 a2_2, .int .u8 a2_3, .int .u8 a2_4, .int .u8 a2_5, .int .u8 a2_6, .int .u8 a2_7]] w fun e w' => e = .returned (.agg #[.int .u8 r1, .int .u8 r2, .int .u8 r3, .int .u8 r4, .int .u8 r5, .int .u8 r6, .int .u8 r7, .int .u8 r8]) ∧ Below w.heap.size w w' := by
  unfold impl_sumOf.f at h
  by_cases h1 : okS l0_0 = true
  · rw [if_pos h1] at h
    by_cases h2 : okB [a1_0, a1_1, a1_2, a1_3, a1_4, a1_5, a1_6, a1_7] = true
    · rw [if_pos h2] at h
      by_cases h3 : okB [a2_0, a2_1, a2_2, a2_3, a2_4, a2_5, a2_6, a2_7] = true
      · rw [if_pos h3] at h
        obtain ⟨h8, hq⟩ := (okS_iff l0_0).1 h1
        exact sumOf_walk A0_0 c0_0 l0_0 a1_0 a1_1 a1_2 a1_3 a1_4 a1_5 a1_6 a1_7 a2_0 a2_1 a2_2 a2_3 a2_4 a2_5 a2_6 a2_7 w hr0_0 h8 hq (by simpa [okB] using h2) (by simpa [okB] using h3) r1 r2 r3 r4 r5 r6 r7 r8 (sl8_tup l0_0 _ _ _ _ _ _ _ _ _ _ (Option.some.inj h) h8 rfl rfl)
      · rw [if_neg h3] at h; cases h
    · rw [if_neg h2] at h; cases h
  · rw [if_neg h1] at h; cases h
end Go.Proofs.Ythbfaefneoeadaa.DG
