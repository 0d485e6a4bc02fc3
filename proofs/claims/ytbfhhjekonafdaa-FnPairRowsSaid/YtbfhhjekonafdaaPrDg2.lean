/- Walks over the digits of words: far, wordOf, sumOf. Spaces of at most 8 places of sizes 2 to 4. -/
import Derived.Test.YtbfhhjekonafdaaPrDg
import Derived.Outline
namespace Go.Proofs.Ytbfhhjekonafdaa.DG
open Go Go.RowKit Go.Proofs.YtbfhhjekonafdaaW.PrintWords Go.Proofs.YtbfhhjekonafdaaW.PrintLast Go.Proofs.YtbfhhjekonafdaaW.PrintMore
set_option linter.unusedVariables false
set_option linter.unusedSimpArgs false
/-- In how many places two lists are not one. -/
def farL : List Int → List Int → Int
  | x :: r, y :: s => (if x = y then 0 else 1) + farL r s
  | _, _ => 0
/-- Eight numbers as they lie. -/
abbrev ag8 (a0 a1 a2 a3 a4 a5 a6 a7 : Int) : Array Value := #[.int .u8 a0, .int .u8 a1, .int .u8 a2, .int .u8 a3, .int .u8 a4, .int .u8 a5, .int .u8 a6, .int .u8 a7]
theorem ag8_cell (a0 a1 a2 a3 a4 a5 a6 a7 : Int) {w : World} {g : Nat} {t : TypeId} (h : w.heap[g]? = some (.cells (ag8 a0 a1 a2 a3 a4 a5 a6 a7) t (0, 0))) (i : Nat) (hi : i < 8) : w.cell? ⟨g, i, none⟩ = some (.int .u8 (rd [a0, a1, a2, a3, a4, a5, a6, a7] (i : Int))) := by
  rw [blk_cell h i]
  match i, hi with
  | 0, _ => rfl
  | 1, _ => rfl
  | 2, _ => rfl
  | 3, _ => rfl
  | 4, _ => rfl
  | 5, _ => rfl
  | 6, _ => rfl
  | 7, _ => rfl
def impl_far.f (k : Nat) (a0_0 a0_1 a0_2 a0_3 a0_4 a0_5 a0_6 a0_7 a1_0 a1_1 a1_2 a1_3 a1_4 a1_5 a1_6 a1_7 : Int) : Option Int := some (farL [a0_0, a0_1, a0_2, a0_3, a0_4, a0_5, a0_6, a0_7] [a1_0, a1_1, a1_2, a1_3, a1_4, a1_5, a1_6, a1_7])
theorem impl_far.mono : ∀ a0 a1 a2 a3 a4 a5 a6 a7 b0 b1 b2 b3 b4 b5 b6 b7 k, LeO (impl_far.f k a0 a1 a2 a3 a4 a5 a6 a7 b0 b1 b2 b3 b4 b5 b6 b7) (impl_far.f (k + 1) a0 a1 a2 a3 a4 a5 a6 a7 b0 b1 b2 b3 b4 b5 b6 b7) := fun _ _ _ _ _ _ _ _ _ _ _ _ _ _ _ _ _ => LeO.refl _
/-- The word with digits, over acc. -/
def wordI : Int → List Int → List Int → Int
  | acc, q :: r, d :: s => wordI (acc * q + d) r s
  | acc, _, _ => acc
theorem word_next (acc : Int) (l m : List Int) (i : Nat) (h : i < l.length) (h2 : i < m.length) : wordI acc (l.drop i) (m.drop i) = wordI (acc * rd l (i : Int) + rd m (i : Int)) (l.drop (i + 1)) (m.drop (i + 1)) := by
  rw [List.drop_eq_getElem_cons h, List.drop_eq_getElem_cons h2]
  simp [wordI, rd, List.getElem?_eq_getElem h, List.getElem?_eq_getElem h2]
theorem rd_ge (l : List Int) (P : Int → Prop) (h : ∀ q ∈ l, P q) (m : Nat) (hm : m < l.length) : P (rd l (m : Int)) := by
  have e : rd l (m : Int) = l[m] := by simp [rd, List.getElem?_eq_getElem hm]
  rw [e]; exact h _ (List.getElem_mem hm)
def pw4 : Nat → Int
  | 0 => 85
  | n + 1 => 4 * pw4 n
theorem pw4_le : ∀ i, i ≤ 8 → pw4 i ≤ 5570560 ∧ 85 ≤ pw4 i := by decide
set_option maxHeartbeats 1000000 in
set_option maxRecDepth 100000 in
theorem wordOf_walk (A : Option Addr) (c : Nat) (l : List Int) (b0 b1 b2 b3 b4 b5 b6 b7 : Int) (w : World) (hr : Kd.C (Kd.int .i64) w A l.length l) (h8 : l.length ≤ 8) (hq : ∀ q ∈ l, 2 ≤ q ∧ q ≤ 4) (hb : ∀ x ∈ [b0, b1, b2, b3, b4, b5, b6, b7], 0 ≤ x ∧ x ≤ 255) :
    Calls Try.prog 42 #[.agg #[.slice A l.length c], .agg (ag8 b0 b1 b2 b3 b4 b5 b6 b7)] w fun e w' => e = .returned (.int .i64 (wordI 0 l [b0, b1, b2, b3, b4, b5, b6, b7])) ∧ Below w.heap.size w w' := by
  have HR := Aside0.mk hr
  have HQ := Aside0.mk hq
  have HBD := Aside0.mk hb
  clear hr hq hb
  go_enter Try.func42, Try.ntmps42
  go_wp2
  go_loopg [5, 11] 8 (fun gg s5 s11 wr => ∃ (i : Nat) (n : Int), s5 = .int .i64 n ∧ s11 = .int .i64 i ∧ i ≤ l.length ∧ l.length - i ≤ gg ∧ 0 ≤ n ∧ Aside0 (n + 85 ≤ pw4 i) ∧ Aside0 (wordI n (l.drop i) ([b0, b1, b2, b3, b4, b5, b6, b7].drop i) = wordI 0 l [b0, b1, b2, b3, b4, b5, b6, b7]) ∧ Aside0 (wr.heap[w.heap.size + 1]? = some (.cells (ag8 b0 b1 b2 b3 b4 b5 b6 b7) 60 (0, 0))) ∧ Aside0 (Below w.heap.size w wr))
  case atStart =>
    refine ⟨0, 0, rfl, rfl, by omega, by omega, by omega, ⟨by decide⟩, ⟨by simp⟩, ⟨?_⟩, ⟨below_alloc (below_alloc (Below.refl _ _) _) _⟩⟩
    have h := blk_new (w.alloc (.cells #[.slice A l.length c] 27)) (.cells (ag8 b0 b1 b2 b3 b4 b5 b6 b7) 60)
    rw [World.size_alloc] at h
    exact h
  case round =>
    obtain ⟨i, n, rfl, rfl, hil, hgg, hn0, HP, HN, H1, HB⟩ := hrel
    by_cases hi : i < l.length
    · have hiz : (i : Int) < (l.length : Int) := by omega
      have hi8 : (i : Int) < 8 := by omega
      have hi0 : (0 : Int) ≤ (i : Int) := by omega
      obtain ⟨ad, e, hx⟩ := Kd.at_int HR.out (i : Int) (by omega) hiz
      cases e
      rw [Int.toNat_natCast] at hx
      replace hx := (HB.out.cell (World.block_lt_of_cell? w _ hx)).trans hx
      have hcell := ag8_cell b0 b1 b2 b3 b4 b5 b6 b7 H1.out i (by omega)
      have hq1 := rd_ge l _ HQ.out i hi
      have hd1 := rd_ge [b0, b1, b2, b3, b4, b5, b6, b7] _ HBD.out i (show i < 8 by omega)
      have HNX := Aside0.mk (word_next n l [b0, b1, b2, b3, b4, b5, b6, b7] i hi (show i < 8 by omega))
      obtain ⟨q, hqe⟩ : ∃ x, x = rd l (i : Int) := ⟨_, rfl⟩
      obtain ⟨d, hde⟩ : ∃ y, y = rd [b0, b1, b2, b3, b4, b5, b6, b7] (i : Int) := ⟨_, rfl⟩
      rw [← hqe] at hx hq1 HNX
      rw [← hde] at hcell hd1 HNX
      clear hqe hde
      obtain ⟨hq1, hq2⟩ := hq1
      obtain ⟨hd1, hd2⟩ := hd1
      have hpw := pw4_le i (by omega)
      have hp := HP.out
      have hm1 : n * q ≤ n * 4 := Int.mul_le_mul_of_nonneg_left hq2 hn0
      have hm2 : 0 ≤ n * q := Int.mul_nonneg hn0 (by omega)
      have hm3 : n * q ≤ 22282240 := by omega
      clear hpw
      go_wp2
      go_roundg (l.length - (i + 1))
      case measure => omega
      case rel =>
        refine ⟨i + 1, n * q + d, rfl, by go_num, by omega, by omega, by omega, ⟨?_⟩, ⟨?_⟩, H1, HB⟩
        · show n * q + d + 85 ≤ 4 * pw4 i
          omega
        · rw [← HN.out, HNX.out]
    · obtain rfl : i = l.length := by omega
      have hiz : ¬ (l.length : Int) < (l.length : Int) := by omega
      go_wp2
      go_ret
      refine ⟨?_, HB.out⟩
      rw [← HN.out, List.drop_length]
      simp [wordI]
def okB (d : List Int) : Bool := d.all fun x => decide (0 ≤ x) && decide (x ≤ 255)
def impl_wordOf.f (k : Nat) (l0_0 : List Int) (a1_0 a1_1 a1_2 a1_3 a1_4 a1_5 a1_6 a1_7 : Int) : Option Int := if okS l0_0 = true then (if okB [a1_0, a1_1, a1_2, a1_3, a1_4, a1_5, a1_6, a1_7] = true then some (wordI 0 l0_0 [a1_0, a1_1, a1_2, a1_3, a1_4, a1_5, a1_6, a1_7]) else none) else none
theorem impl_wordOf.mono : ∀ a0 b0 b1 b2 b3 b4 b5 b6 b7 k, LeO (impl_wordOf.f k a0 b0 b1 b2 b3 b4 b5 b6 b7) (impl_wordOf.f (k + 1) a0 b0 b1 b2 b3 b4 b5 b6 b7) := fun _ _ _ _ _ _ _ _ _ _ => LeO.refl _
theorem impl_wordOf.calls (k : Nat) (A0_0 : Option Addr) (c0_0 : Nat) (l0_0 : List Int) (a1_0 a1_1 a1_2 a1_3 a1_4 a1_5 a1_6 a1_7 : Int) (r : Int) (w : World) (hr0_0 : Kd.C (Kd.int .i64) w A0_0 l0_0.length l0_0) (hc0_0 : l0_0.length ≤ c0_0) (h : impl_wordOf.f k l0_0 a1_0 a1_1 a1_2 a1_3 a1_4 a1_5 a1_6 a1_7 = some r) :
    Calls Try.prog 42 #[.agg #[.slice A0_0 l0_0.length c0_0], .agg #[.int .u8 a1_0, .int .u8 a1_1, .int .u8 a1_2, .int .u8 a1_3, .int .u8 a1_4, .int .u8 a1_5, .int .u8 a1_6, .int .u8 a1_7]] w fun e w' => e = .returned (.int .i64 r) ∧ Below w.heap.size w w' := by
  unfold impl_wordOf.f at h
  by_cases h1 : okS l0_0 = true
  · rw [if_pos h1] at h
    by_cases h2 : okB [a1_0, a1_1, a1_2, a1_3, a1_4, a1_5, a1_6, a1_7] = true
    · rw [if_pos h2] at h
      obtain rfl := Option.some.inj h
      obtain ⟨h8, hq⟩ := (okS_iff l0_0).1 h1
      exact wordOf_walk A0_0 c0_0 l0_0 a1_0 a1_1 a1_2 a1_3 a1_4 a1_5 a1_6 a1_7 w hr0_0 h8 hq (by simpa [okB] using h2)
    · rw [if_neg h2] at h; cases h
  · rw [if_neg h1] at h; cases h
/-- Sums, place by place. -/
def sumL : List Int → List Int → List Int → List Int
  | q :: r, x :: s, y :: t => ((x + y) % q) :: sumL r s t
  | _, _, _ => []
def impl_sumOf.f (k : Nat) (l0_0 : List Int) (a1_0 a1_1 a1_2 a1_3 a1_4 a1_5 a1_6 a1_7 a2_0 a2_1 a2_2 a2_3 a2_4 a2_5 a2_6 a2_7 : Int) : Option (Int × Int × Int × Int × Int × Int × Int × Int) := if okS l0_0 = true then (if okB [a1_0, a1_1, a1_2, a1_3, a1_4, a1_5, a1_6, a1_7] = true then (if okB [a2_0, a2_1, a2_2, a2_3, a2_4, a2_5, a2_6, a2_7] = true then some (tup8 (sumL l0_0 [a1_0, a1_1, a1_2, a1_3, a1_4, a1_5, a1_6, a1_7] [a2_0, a2_1, a2_2, a2_3, a2_4, a2_5, a2_6, a2_7])) else none) else none) else none
theorem impl_sumOf.mono : ∀ a0 b0 b1 b2 b3 b4 b5 b6 b7 c0 c1 c2 c3 c4 c5 c6 c7 k, LeO (impl_sumOf.f k a0 b0 b1 b2 b3 b4 b5 b6 b7 c0 c1 c2 c3 c4 c5 c6 c7) (impl_sumOf.f (k + 1) a0 b0 b1 b2 b3 b4 b5 b6 b7 c0 c1 c2 c3 c4 c5 c6 c7) := fun _ _ _ _ _ _ _ _ _ _ _ _ _ _ _ _ _ _ => LeO.refl _
end Go.Proofs.Ytbfhhjekonafdaa.DG
