/- The numbers of a set are told alike, and each call's list is new. For every five numbers of 64 bits. -/
import Derived.Test.YtklbkleibefldaaPFnExactNumbersOfx0
import Derived.Test.YtklbkleibefldaaPFnExactNumbersOfx1
import Derived.Test.YtklbkleibefldaaPFnExactNumbersOfx2
import Derived.Test.YtklbkleibefldaaLotMath
import Derived.Test.YtklbkleibefldaaLotHit
import Derived.Test.YtklbkleibefldaaLotRank
import Derived.KernelRfl
namespace Go.Proofs.Ytklbkleibefldaa.Pure
open Go Go.RowKit Go.Proofs.Ytklbkleibefldaa.PFnExactNumbersOf Go.Proofs.YtklbkleibefldaaW.PrintWords Go.Proofs.YtklbkleibefldaaW.PrintLast Go.Proofs.YtklbkleibefldaaW.PrintMore Go.Proofs.Ytklbkleibefldaa.LotM
set_option linter.unusedVariables false
set_option linter.unusedSimpArgs false
theorem shl_one : ∀ n, n < 13 → shl .i64 1 ((n : Nat) : Int) = ((2 ^ n : Nat) : Int) := by decide +kernel
theorem pow_le {n : Nat} (h : n ≤ 12) : 2 ^ n ≤ 4096 := Nat.pow_le_pow_right (n := 2) (by omega) h
theorem w64 {i : Int} (h0 : -9223372036854775808 ≤ i) (h : i < 9223372036854775808) : wrap64 i = i := by unfold wrap64; omega
theorem u64 {i : Int} (h0 : 0 ≤ i) (h : i < 9223372036854775808) : IntKind.u64.wrap i = i := by
  have e : IntKind.u64.wrap i = i % 18446744073709551616 := by simp [IntKind.wrap, IntKind.bits, IntKind.signed]
  rw [e]; omega
def allN (p : Nat → Bool) : Nat → Bool
  | 0 => true
  | n+1 => p n && allN p n
theorem allN_at (p : Nat → Bool) : ∀ n, allN p n = true → ∀ s, s < n → p s = true
  | 0, _, s, h => by omega
  | n+1, h, s, hs => by
    simp only [allN, Bool.and_eq_true] at h
    by_cases e : s = n
    · subst e; exact h.1
    · exact allN_at p n h.2 s (by omega)

theorem isLot (a b c d : Int) : spec_l08Is.f a b c d = impl_IsLottery.f a b c d := by
  unfold spec_l08Is.f spec_l01In.f impl_IsLottery.f mn
  repeat' split
  all_goals simp_all
  all_goals omega

/-- What a lottery's numbers are. -/
theorem lot_cases (a b c d : Int) : impl_IsLottery.f a b c d = some false ∨ (impl_IsLottery.f a b c d = some true ∧ ∃ n p q h : Nat, a = n ∧ b = p ∧ c = q ∧ d = h ∧ 1 ≤ n ∧ n ≤ 12 ∧ 1 ≤ p ∧ p ≤ n ∧ 1 ≤ q ∧ q ≤ n ∧ 1 ≤ h ∧ h ≤ p ∧ h ≤ q) := by
  by_cases hv : 1 ≤ a ∧ a ≤ 12 ∧ 1 ≤ b ∧ b ≤ a ∧ 1 ≤ c ∧ c ≤ a ∧ 1 ≤ d ∧ d ≤ b ∧ d ≤ c
  · refine .inr ⟨?_, a.toNat, b.toNat, c.toNat, d.toNat, by omega, by omega, by omega, by omega, by omega, by omega, by omega, by omega, by omega, by omega, by omega, by omega, by omega⟩
    unfold impl_IsLottery.f mn
    repeat' split
    all_goals simp_all
    all_goals omega
  · refine .inl ?_
    unfold impl_IsLottery.f mn
    repeat' split
    all_goals simp_all
    all_goals omega

theorem isSet_ev (n p q h : Nat) (s : Int) (hn : n ≤ 12) : impl_isSet.f n p q h s = some (decide (0 ≤ s) && decide (s < ((2 ^ n : Nat) : Int))) := by
  unfold impl_isSet.f
  rw [shl_one n (by omega)]
  by_cases h0 : 0 ≤ s
  · rw [if_pos h0, if_pos (by omega)]; simp [h0]
  · rw [if_neg h0]; simp [h0]

theorem specCut_ev (n : Nat) (s : Int) (hn1 : 1 ≤ n) (hn : n ≤ 12) : spec_l01In.f s 0 (wrap64 ((shl .i64 1 (IntKind.u64.wrap (n : Int))) - 1)) = some (decide (0 ≤ s) && decide (s < ((2 ^ n : Nat) : Int))) := by
  have hp := pow_le hn
  have hp1 : 1 ≤ 2 ^ n := Nat.one_le_two_pow
  unfold spec_l01In.f
  rw [u64 (by omega) (by omega), shl_one n (by omega), w64 (by omega) (by omega)]
  generalize 2 ^ n = P at *
  by_cases h0 : 0 ≤ s
  · rw [if_pos h0]
    by_cases h1 : s < (P : Int)
    · have h2 : s ≤ (P : Int) - 1 := by omega
      simp [h0, h1, h2]
    · have h2 : ¬ s ≤ (P : Int) - 1 := by omega
      simp [h0, h1, h2]
  · rw [if_neg h0]; simp [h0]

theorem w_i64 : ∀ n : Int, 0 ≤ n → n < 2 ^ 63 → IntKind.i64.wrap n = n := fun n h0 h1 => by rw [IntKind.wrap_i64]; omega
theorem band (a b : Nat) (ha : a < 4611686018427387904) (hb : b < 4611686018427387904) : Go.bits .and .i64 (a : Int) (b : Int) = ((a &&& b : Nat) : Int) :=
  (bits_nat .i64 63 (by decide) w_i64 a b (by omega) (by omega)).1
theorem bor (a b : Nat) (ha : a < 4611686018427387904) (hb : b < 4611686018427387904) : Go.bits .or .i64 (a : Int) (b : Int) = ((a ||| b : Nat) : Int) :=
  (bits_nat .i64 63 (by decide) w_i64 a b (by omega) (by omega)).2
theorem shr_nat (a i : Nat) (hi : i ≤ 64) : shr .i64 (a : Int) (i : Int) = ((a / 2 ^ i : Nat) : Int) := by
  unfold shr
  have e : min ((i : Int).toNat) IntKind.i64.bits = i := by
    have : IntKind.i64.bits = 64 := rfl
    rw [this, Int.toNat_natCast]; omega
  rw [e]; simp
theorem bit_nat (a i : Nat) (ha : a < 4611686018427387904) (hi : i ≤ 64) : Go.bits .and .i64 (shr .i64 (a : Int) (i : Int)) 1 = ((a / 2 ^ i % 2 : Nat) : Int) := by
  rw [shr_nat a i hi, show (1 : Int) = ((1 : Nat) : Int) from rfl, band _ _ (Nat.lt_of_le_of_lt (Nat.div_le_self _ _) ha) (by omega), Nat.and_one_is_mod]

theorem set_mid (A B : List Int) (b s : Int) : (A ++ b :: B).set A.length s = (A ++ [s]) ++ B := by
  induction A with
  | nil => rfl
  | cons a A ih => simp [List.set_cons_succ]
theorem rd_mid (A B : List Int) (b : Int) : rd (A ++ b :: B) (A.length : Int) = b := by simp [rd]
theorem rd_nat (M : List Int) (i : Nat) (h : i < M.length) : rd M (i : Int) = M[i] := by simp [rd, List.getElem?_eq_getElem h]
def seqI : Int → Nat → List Int
  | _, 0 => []
  | s, n+1 => s :: seqI (s+1) n

theorem eq_l (l : List Int) (hl : l.length ≤ 4611686018427387904) : ∀ d i : Nat, i + d = l.length → ∀ k, d < k → laws_eqInt64S.l0 k l l i = some true
  | 0, i, e, k, hk => by
    obtain ⟨k, rfl⟩ : ∃ q, k = q + 1 := ⟨k - 1, by omega⟩
    simp only [laws_eqInt64S.l0]; rw [if_neg (by omega)]
  | d+1, i, e, k, hk => by
    obtain ⟨k, rfl⟩ : ∃ q, k = q + 1 := ⟨k - 1, by omega⟩
    simp only [laws_eqInt64S.l0]
    rw [if_pos (by omega), if_pos (by omega), if_pos (by omega), if_pos trivial, w64 (by omega) (by omega), show (i : Int) + 1 = ((i + 1 : Nat) : Int) by omega]
    exact eq_l l hl d (i+1) (by omega) k (by omega)
theorem eq_ev (l : List Int) (hl : l.length ≤ 4611686018427387904) (k : Nat) (hk : l.length < k) : laws_eqInt64S.f k l l = some true := by
  unfold laws_eqInt64S.f
  rw [if_pos rfl]
  exact eq_l l hl l.length 0 (by omega) k hk

theorem seqI_len (s : Int) (n : Nat) : (seqI s n).length = n := by
  induction n generalizing s with
  | zero => rfl
  | succ n ih => simp [seqI, ih]
theorem mark_l : ∀ (B A : List Int) (s : Int), 0 ≤ s → s + B.length ≤ 4611686018427387904 → A.length + B.length ≤ 4611686018427387904 → ∀ k, B.length < k → laws_markInt64S.l0 k (A ++ B) s A.length = some (s + B.length, A ++ seqI s B.length)
  | [], A, s, h0, h1, h2, k, hk => by
    obtain ⟨k, rfl⟩ : ∃ q, k = q + 1 := ⟨k - 1, by simp at hk; omega⟩
    simp only [laws_markInt64S.l0]
    rw [if_neg (by simp)]; simp [seqI]
  | b :: B, A, s, h0, h1, h2, k, hk => by
    obtain ⟨k, rfl⟩ : ∃ q, k = q + 1 := ⟨k - 1, by simp at hk; omega⟩
    simp only [laws_markInt64S.l0]
    simp only [List.length_cons] at h1 h2 hk
    rw [if_pos (by simp; omega), if_pos (by omega), Int.toNat_natCast, set_mid, w64 (by omega) (by omega), w64 (by omega) (by omega), show (A.length : Int) + 1 = ((A ++ [s]).length : Int) by simp]
    rw [mark_l B (A ++ [s]) (s+1) (by omega) (by omega) (by simp; omega) k (by omega)]
    simp only [List.length_cons, seqI, List.append_assoc, List.singleton_append]
    congr 2
    omega
theorem held_l : ∀ (n : Nat) (A : List Int) (s : Int), 0 ≤ s → s + n ≤ 4611686018427387904 → A.length + n ≤ 4611686018427387904 → ∀ k, n < k → laws_heldInt64S.l0 k (A ++ seqI s n) s A.length = some (s + n)
  | 0, A, s, h0, h1, h2, k, hk => by
    obtain ⟨k, rfl⟩ : ∃ q, k = q + 1 := ⟨k - 1, by omega⟩
    simp only [laws_heldInt64S.l0]
    rw [if_neg (by simp [seqI])]; simp
  | n+1, A, s, h0, h1, h2, k, hk => by
    obtain ⟨k, rfl⟩ : ∃ q, k = q + 1 := ⟨k - 1, by omega⟩
    show laws_heldInt64S.l0 (k+1) (A ++ s :: seqI (s+1) n) s A.length = _
    simp only [laws_heldInt64S.l0]
    rw [if_pos (by simp; omega), if_pos (by omega), rd_mid, if_pos rfl, w64 (by omega) (by omega), w64 (by omega) (by omega), show (A.length : Int) + 1 = ((A ++ [s]).length : Int) by simp]
    have := held_l n (A ++ [s]) (s+1) (by omega) (by omega) (by simp; omega) k (by omega)
    rw [List.append_assoc, List.singleton_append] at this
    rw [this]
    congr 1; omega
theorem mark_held (l : List Int) (hl : l.length ≤ 1048576) (k : Nat) (hk : 1048576 < k) : ∃ l', laws_markInt64S.f k l 1 = some (1 + (l.length : Int), l') ∧ ∀ k, 1048576 < k → laws_heldInt64S.f k l' 1 = some (1 + (l.length : Int)) := by
  refine ⟨seqI 1 l.length, ?_, fun k hk => ?_⟩
  · unfold laws_markInt64S.f
    exact mark_l l [] 1 (by omega) (by omega) (by simp; omega) k (by omega)
  · unfold laws_heldInt64S.f
    exact held_l l.length [] 1 (by omega) (by omega) (by simp; omega) k (by omega)

theorem numbers_both (n p q h : Nat) (hn : n ≤ 12) (s : Nat) (hs : s < 4096) : ∀ (d i : Nat) (acc : List Int), i + d = n → acc.length ≤ i → ∃ r : List Int, r.length ≤ 12 ∧ (∀ k, d < k → spec_NumbersOf.l0 k s acc i n p q h = some (r, 0)) ∧ ∀ k, d < k → impl_NumbersOf.l0 k s acc n i = some (r, 0)
  | 0, i, acc, e, ha => by
    refine ⟨acc, by omega, fun k hk => ?_, fun k hk => ?_⟩
    · obtain ⟨k, rfl⟩ : ∃ q, k = q + 1 := ⟨k - 1, by omega⟩
      simp only [spec_NumbersOf.l0]; rw [if_neg (by omega)]
    · obtain ⟨k, rfl⟩ : ∃ q, k = q + 1 := ⟨k - 1, by omega⟩
      simp only [impl_NumbersOf.l0]; rw [if_neg (by omega)]
  | d+1, i, acc, e, ha => by
    have hb := bit_nat s i (by omega) (by omega)
    have hw : wrap64 ((i : Int) + 1) = ((i + 1 : Nat) : Int) := by rw [w64 (by omega) (by omega)]; omega
    by_cases hc : s / 2 ^ i % 2 = 1
    · obtain ⟨r, h1, h2, h3⟩ := numbers_both n p q h hn s hs d (i+1) (acc ++ [(i : Int)]) (by omega) (by simp; omega)
      refine ⟨r, h1, fun k hk => ?_, fun k hk => ?_⟩
      · obtain ⟨k, rfl⟩ : ∃ q, k = q + 1 := ⟨k - 1, by omega⟩
        simp only [spec_NumbersOf.l0]
        rw [if_pos (by omega), u64 (by omega) (by omega), if_pos (by omega), hb, if_pos (by omega), if_pos (by omega), hw]
        exact h2 k (by omega)
      · obtain ⟨k, rfl⟩ : ∃ q, k = q + 1 := ⟨k - 1, by omega⟩
        simp only [impl_NumbersOf.l0]
        rw [if_pos (by omega), if_pos (by omega), hb, if_pos (by omega), if_pos (by omega), hw]
        exact h3 k (by omega)
    · obtain ⟨r, h1, h2, h3⟩ := numbers_both n p q h hn s hs d (i+1) acc (by omega) (by omega)
      refine ⟨r, h1, fun k hk => ?_, fun k hk => ?_⟩
      · obtain ⟨k, rfl⟩ : ∃ q, k = q + 1 := ⟨k - 1, by omega⟩
        simp only [spec_NumbersOf.l0]
        rw [if_pos (by omega), u64 (by omega) (by omega), if_pos (by omega), hb, if_neg (by omega), hw]
        exact h2 k (by omega)
      · obtain ⟨k, rfl⟩ : ∃ q, k = q + 1 := ⟨k - 1, by omega⟩
        simp only [impl_NumbersOf.l0]
        rw [if_pos (by omega), if_pos (by omega), hb, if_neg (by omega), hw]
        exact h3 k (by omega)
theorem numbers_ev (a b c d s : Int) : ∃ (r : List Int) (e : Int), r.length ≤ 12 ∧ (∀ k, 20 ≤ k → spec_NumbersOf.f k a b c d s = some (r, e)) ∧ ∀ k, 20 ≤ k → impl_NumbersOf.f k a b c d s = some (r, e) := by
  rcases lot_cases a b c d with h | ⟨h, n, p, q, e, rfl, rfl, rfl, rfl, h1, h2, h3, h4, h5, h6, h7, h8, h9⟩
  · refine ⟨[], 1, by simp, fun k hk => ?_, fun k hk => ?_⟩
    · unfold spec_NumbersOf.f; rw [isLot, h]; rfl
    · unfold impl_NumbersOf.f; rw [h]; rfl
  · have hp := pow_le h2
    by_cases hv : 0 ≤ s ∧ s < ((2 ^ n : Nat) : Int)
    · obtain ⟨t, rfl⟩ : ∃ t : Nat, s = t := ⟨s.toNat, by omega⟩
      obtain ⟨r, g1, g2, g3⟩ := numbers_both n p q e h2 t (by omega) n 0 [] (by omega) (by simp)
      refine ⟨r, 0, g1, fun k hk => ?_, fun k hk => ?_⟩
      · unfold spec_NumbersOf.f
        rw [isLot, h, specCut_ev n _ h1 h2, u64 (by omega) (by omega)]
        simp only [Option.bind_some, if_true]
        rw [if_pos (by omega)]
        simp only [hv.1, hv.2, decide_true, Bool.and_self, Option.bind_some, if_true]
        exact g2 k (by omega)
      · unfold impl_NumbersOf.f
        rw [h, isSet_ev n p q e _ h2]
        simp only [hv.1, hv.2, decide_true, Bool.and_self, Option.bind_some, if_true]
        exact g3 k (by omega)
    · have hf : (decide (0 ≤ s) && decide (s < ((2 ^ n : Nat) : Int))) = false := by
        generalize 2 ^ n = P at *
        simp; omega
      refine ⟨[], 2, by simp, fun k hk => ?_, fun k hk => ?_⟩
      · unfold spec_NumbersOf.f
        rw [isLot, h, specCut_ev n _ h1 h2, u64 (by omega) (by omega), hf]
        simp only [Option.bind_some, if_true]
        rw [if_pos (by omega)]
        rfl
      · unfold impl_NumbersOf.f
        rw [h, isSet_ev n p q e _ h2, hf]
        rfl
theorem FnExactNumbersOf (a b c d : Int) (_ : (Lit.int .i64 a).wf = true) (_ : (Lit.int .i64 b).wf = true) (_ : (Lit.int .i64 c).wf = true) (_ : (Lit.int .i64 d).wf = true) (s : Int) (_ : (Lit.int .i64 s).wf = true) : ∃ k, laws_FnExactNumbersOf.f k a b c d s = some true := by
  obtain ⟨k, hk⟩ : ∃ k : Nat, 1048600 ≤ k := ⟨1048600, Nat.le_refl _⟩
  obtain ⟨r, e, hr, h1, h2⟩ := numbers_ev a b c d s
  obtain ⟨l', hm, hh⟩ := mark_held r (by omega) (k+1) (by omega)
  refine ⟨k + 2, ?_⟩
  unfold laws_FnExactNumbersOf.f laws_toLottery.f
  simp only [Option.bind_some]
  rw [h1 (k+2) (by omega), h2 (k+2) (by omega)]
  simp only [Option.bind_some]
  rw [eq_ev r (by omega) (k+2) (by omega)]
  simp only [Option.bind_some, if_true, bne_self_eq_false, laws_FnExactNumbersOf.j0, laws_toLottery.f]
  rw [hm]
  simp only [Option.bind_some]
  rw [hh (k+1) (by omega), h2 (k+1) (by omega)]
  simp only [Option.bind_some]
  rw [eq_ev r (by omega) (k+1) (by omega)]
  simp only [Option.bind_some, if_true, bne_self_eq_false, laws_FnExactNumbersOf.j1, Bool.false_eq_true, if_false]
  rw [hh k (by omega)]
  have hneg : ¬ (1 + (r.length : Int) < 0) := by omega
  simp [hneg]

end Go.Proofs.Ytklbkleibefldaa.Pure
