/- Tickets are made of numbers alike, and the argument is left alone. For every lottery and numbers. -/
import Derived.Test.YtklbkleibefldaaTof1
import Derived.Test.YtklbkleibefldaaTof2
import Derived.Test.YtklbkleibefldaaLotMath
import Derived.Test.YtklbkleibefldaaLotHit
import Derived.Test.YtklbkleibefldaaLotRank
import Derived.KernelRfl
namespace Go.Proofs.Ytklbkleibefldaa.Pure
open Go Go.RowKit Go.Proofs.Ytklbkleibefldaa.PFnExactTicketOf Go.Proofs.YtklbkleibefldaaW.PrintWords Go.Proofs.YtklbkleibefldaaW.PrintLast Go.Proofs.YtklbkleibefldaaW.PrintMore Go.Proofs.Ytklbkleibefldaa.LotM
set_option linter.unusedVariables false
set_option linter.unusedSimpArgs false
theorem shl_one : ∀ n, n < 13 → shl .i64 1 ((n : Nat) : Int) = ((2 ^ n : Nat) : Int) := by decide +kernel
theorem pow_le {n : Nat} (h : n ≤ 12) : 2 ^ n ≤ 4096 := Nat.pow_le_pow_right (n := 2) (by omega) h
theorem w64 {i : Int} (h0 : -9223372036854775808 ≤ i) (h : i < 9223372036854775808) : wrap64 i = i := by unfold wrap64; omega
theorem u64 {i : Int} (h0 : 0 ≤ i) (h : i < 9223372036854775808) : IntKind.u64.wrap i = i := by
  have e : IntKind.u64.wrap i = i % 18446744073709551616 := by simp [IntKind.wrap, IntKind.bits, IntKind.signed]
  rw [e]; omega
def allN (p : Nat → Bool) : Nat → Bool
  | 0 => true
  | n+1 => p n && allN p n
theorem allN_at (p : Nat → Bool) : ∀ n, allN p n = true → ∀ s, s < n → p s = true
  | 0, _, s, h => by omega
  | n+1, h, s, hs => by
    simp only [allN, Bool.and_eq_true] at h
    by_cases e : s = n
    · subst e; exact h.1
    · exact allN_at p n h.2 s (by omega)

theorem isLot (a b c d : Int) : spec_l08Is.f a b c d = impl_IsLottery.f a b c d := by
  unfold spec_l08Is.f spec_l01In.f impl_IsLottery.f mn
  repeat' split
  all_goals simp_all
  all_goals omega

/-- What a lottery's numbers are. -/
theorem lot_cases (a b c d : Int) : impl_IsLottery.f a b c d = some false ∨ (impl_IsLottery.f a b c d = some true ∧ ∃ n p q h : Nat, a = n ∧ b = p ∧ c = q ∧ d = h ∧ 1 ≤ n ∧ n ≤ 12 ∧ 1 ≤ p ∧ p ≤ n ∧ 1 ≤ q ∧ q ≤ n ∧ 1 ≤ h ∧ h ≤ p ∧ h ≤ q) := by
  by_cases hv : 1 ≤ a ∧ a ≤ 12 ∧ 1 ≤ b ∧ b ≤ a ∧ 1 ≤ c ∧ c ≤ a ∧ 1 ≤ d ∧ d ≤ b ∧ d ≤ c
  · refine .inr ⟨?_, a.toNat, b.toNat, c.toNat, d.toNat, by omega, by omega, by omega, by omega, by omega, by omega, by omega, by omega, by omega, by omega, by omega, by omega, by omega⟩
    unfold impl_IsLottery.f mn
    repeat' split
    all_goals simp_all
    all_goals omega
  · refine .inl ?_
    unfold impl_IsLottery.f mn
    repeat' split
    all_goals simp_all
    all_goals omega

theorem set_mid (A B : List Int) (b s : Int) : (A ++ b :: B).set A.length s = (A ++ [s]) ++ B := by
  induction A with
  | nil => rfl
  | cons a A ih => simp [List.set_cons_succ]
theorem rd_mid (A B : List Int) (b : Int) : rd (A ++ b :: B) (A.length : Int) = b := by simp [rd]
theorem rd_nat (M : List Int) (i : Nat) (h : i < M.length) : rd M (i : Int) = M[i] := by simp [rd, List.getElem?_eq_getElem h]
def seqI : Int → Nat → List Int
  | _, 0 => []
  | s, n+1 => s :: seqI (s+1) n

theorem eq_l (l : List Int) (hl : l.length ≤ 4611686018427387904) : ∀ d i : Nat, i + d = l.length → ∀ k, d < k → laws_eqInt64S.l0 k l l i = some true
  | 0, i, e, k, hk => by
    obtain ⟨k, rfl⟩ : ∃ q, k = q + 1 := ⟨k - 1, by omega⟩
    simp only [laws_eqInt64S.l0]; rw [if_neg (by omega)]
  | d+1, i, e, k, hk => by
    obtain ⟨k, rfl⟩ : ∃ q, k = q + 1 := ⟨k - 1, by omega⟩
    simp only [laws_eqInt64S.l0]
    rw [if_pos (by omega), if_pos (by omega), if_pos (by omega), if_pos trivial, w64 (by omega) (by omega), show (i : Int) + 1 = ((i + 1 : Nat) : Int) by omega]
    exact eq_l l hl d (i+1) (by omega) k (by omega)
theorem eq_ev (l : List Int) (hl : l.length ≤ 4611686018427387904) (k : Nat) (hk : l.length < k) : laws_eqInt64S.f k l l = some true := by
  unfold laws_eqInt64S.f
  rw [if_pos rfl]
  exact eq_l l hl l.length 0 (by omega) k hk

theorem to_l (l : List Int) (hl : l.length ≤ 4611686018427387904) : ∀ (B A : List Int), l = A ++ B → ∀ k, B.length < k → laws_toInt64S.l0 k l (A ++ List.replicate B.length 0) A.length = some l
  | [], A, e, k, hk => by
    obtain ⟨k, rfl⟩ : ∃ q, k = q + 1 := ⟨k - 1, by simp at hk; omega⟩
    simp only [laws_toInt64S.l0]
    simp at e
    subst e
    rw [if_neg (by omega)]; simp
  | b :: B, A, e, k, hk => by
    obtain ⟨k, rfl⟩ : ∃ q, k = q + 1 := ⟨k - 1, by simp at hk; omega⟩
    simp only [laws_toInt64S.l0]
    have hlen : l.length = A.length + (B.length + 1) := by rw [e]; simp
    rw [if_pos (by omega), if_pos (by omega), if_pos (by simp; omega)]
    have hb : rd l (A.length : Int) = b := by rw [e]; exact rd_mid A B b
    rw [hb, List.length_cons, List.replicate_succ, Int.toNat_natCast, set_mid, w64 (by omega) (by omega), show (A.length : Int) + 1 = ((A ++ [b]).length : Int) by simp]
    exact to_l l hl B (A ++ [b]) (by rw [e]; simp) k (by simp at hk; omega)
theorem to_ev (l : List Int) (hl : l.length ≤ 1048576) (k : Nat) (hk : 1048576 < k) : laws_toInt64S.f k l = some l := by
  unfold laws_toInt64S.f
  rw [if_pos (by omega), if_pos (by omega), Int.toNat_natCast]
  exact to_l l (by omega) l [] rfl k (by omega)

theorem to_both (n p q h : Nat) (hn1 : 1 ≤ n) (hn : n ≤ 12) (l : List Int) (hl : l.length ≤ 1048576) : ∀ (d i : Nat) (x : Int), i + d = l.length → ∃ r : Int × Int, (∀ k, d + 1 ≤ k → spec_TicketOf.l0 k l x i n p q h = some r) ∧ ∀ k, d + 1 ≤ k → impl_TicketOf.l0 k l x l l.length i n p q h = some r
  | 0, i, x, e => by
    refine ⟨if (l.length : Int) = (p : Int) then (x, 0) else (0, 2), fun k hk => ?_, fun k hk => ?_⟩
    · obtain ⟨k, rfl⟩ : ∃ q, k = q + 1 := ⟨k - 1, by omega⟩
      simp only [spec_TicketOf.l0]
      rw [if_neg (by omega)]
      by_cases hp : (l.length : Int) = (p : Int)
      · rw [if_pos hp, if_pos hp]
      · rw [if_neg hp, if_neg hp]
    · obtain ⟨k, rfl⟩ : ∃ q, k = q + 1 := ⟨k - 1, by omega⟩
      simp only [impl_TicketOf.l0]
      rw [if_neg (by omega)]
      by_cases hp : (l.length : Int) = (p : Int)
      · rw [if_pos hp, if_pos hp]
      · rw [if_neg hp, if_neg hp]
  | d+1, i, x, e => by
    have hi : i < l.length := by omega
    have hr := rd_nat l i hi
    have hw : wrap64 ((i : Int) + 1) = ((i + 1 : Nat) : Int) := by rw [w64 (by omega) (by omega)]; omega
    have hwn : wrap64 ((n : Int) - 1) = (n : Int) - 1 := w64 (by omega) (by omega)
    by_cases hv : 0 ≤ l[i] ∧ l[i] ≤ (n : Int) - 1
    · have e1 : spec_l01In.f l[i] 0 ((n : Int) - 1) = some true := by
        unfold spec_l01In.f; rw [if_pos hv.1, decide_eq_true hv.2]
      have hu : IntKind.u64.wrap l[i] = l[i] := u64 hv.1 (by omega)
      obtain ⟨r, g1, g2⟩ := to_both n p q h hn1 hn l hl d (i+1) (Go.bits .or .i64 x (shl .i64 1 l[i])) (by omega)
      by_cases h0 : 0 < i
      · have hw1 : wrap64 ((i : Int) - 1) = ((i - 1 : Nat) : Int) := by rw [w64 (by omega) (by omega)]; omega
        have hr1 := rd_nat l (i - 1) (by omega)
        by_cases hle : l[i] ≤ l[i-1]
        · refine ⟨(0, 2), fun k hk => ?_, fun k hk => ?_⟩
          · obtain ⟨k, rfl⟩ : ∃ q, k = q + 1 := ⟨k - 1, by omega⟩
            simp only [spec_TicketOf.l0]
            rw [if_pos (by omega), if_pos (by omega), hr, hwn, e1, Option.bind_some, if_pos rfl, if_pos (by omega), hw1, if_pos (by omega), if_pos (by omega), hr1, if_pos (by omega)]
          · obtain ⟨k, rfl⟩ : ∃ q, k = q + 1 := ⟨k - 1, by omega⟩
            simp only [impl_TicketOf.l0]
            rw [if_pos (by omega), if_pos (by omega), if_pos (by omega), hr, if_neg (by omega), if_neg (by omega), if_pos (by omega), hw1, if_pos (by omega), if_pos (by omega), hr1, if_pos (by omega)]
        · refine ⟨r, fun k hk => ?_, fun k hk => ?_⟩
          · obtain ⟨k, rfl⟩ : ∃ q, k = q + 1 := ⟨k - 1, by omega⟩
            simp only [spec_TicketOf.l0]
            rw [if_pos (by omega), if_pos (by omega), hr, hwn, e1, Option.bind_some, if_pos rfl, if_pos (by omega), hw1, if_pos (by omega), if_pos (by omega), hr1, if_neg (by omega), hu, if_pos (by omega), hw]
            exact g1 k (by omega)
          · obtain ⟨k, rfl⟩ : ∃ q, k = q + 1 := ⟨k - 1, by omega⟩
            simp only [impl_TicketOf.l0]
            rw [if_pos (by omega), if_pos (by omega), if_pos (by omega), hr, if_neg (by omega), if_neg (by omega), if_pos (by omega), hw1, if_pos (by omega), if_pos (by omega), hr1, if_neg (by omega), if_pos (by omega), hw]
            exact g2 k (by omega)
      · refine ⟨r, fun k hk => ?_, fun k hk => ?_⟩
        · obtain ⟨k, rfl⟩ : ∃ q, k = q + 1 := ⟨k - 1, by omega⟩
          simp only [spec_TicketOf.l0]
          rw [if_pos (by omega), if_pos (by omega), hr, hwn, e1, Option.bind_some, if_pos rfl, if_neg (by omega), hu, if_pos (by omega), hw]
          exact g1 k (by omega)
        · obtain ⟨k, rfl⟩ : ∃ q, k = q + 1 := ⟨k - 1, by omega⟩
          simp only [impl_TicketOf.l0]
          rw [if_pos (by omega), if_pos (by omega), if_pos (by omega), hr, if_neg (by omega), if_neg (by omega), if_neg (by omega), if_pos (by omega), hw]
          exact g2 k (by omega)
    · have e1 : spec_l01In.f l[i] 0 ((n : Int) - 1) = some false := by
        unfold spec_l01In.f
        by_cases h1 : l[i] ≥ 0
        · rw [if_pos h1, decide_eq_false (by omega)]
        · rw [if_neg h1]
      refine ⟨(0, 2), fun k hk => ?_, fun k hk => ?_⟩
      · obtain ⟨k, rfl⟩ : ∃ q, k = q + 1 := ⟨k - 1, by omega⟩
        simp only [spec_TicketOf.l0]
        rw [if_pos (by omega), if_pos (by omega), hr, hwn, e1, Option.bind_some, if_neg (by decide)]
      · obtain ⟨k, rfl⟩ : ∃ q, k = q + 1 := ⟨k - 1, by omega⟩
        simp only [impl_TicketOf.l0]
        rw [if_pos (by omega), if_pos (by omega), if_pos (by omega), hr]
        by_cases h1 : l[i] < 0
        · rw [if_pos h1]
        · rw [if_neg h1, if_pos (by omega)]
theorem FnExactTicketOf (a b c d : Int) (_ : (Lit.int .i64 a).wf = true) (_ : (Lit.int .i64 b).wf = true) (_ : (Lit.int .i64 c).wf = true) (_ : (Lit.int .i64 d).wf = true) (l : List Int) (_ : l.length ≤ maxLen) (_ : l.length * 8 ≤ 140737488351232) (_ : ∀ x ∈ l, (Lit.int .i64 x).wf = true) : ∃ k, laws_FnExactTicketOf.f k a b c d l = some true := by
  by_cases hl : (l.length : Int) > 1048576
  · refine ⟨0, ?_⟩
    unfold laws_FnExactTicketOf.f
    rw [if_pos hl]
  · obtain ⟨k, hk⟩ : ∃ k : Nat, 1048700 ≤ k := ⟨1048700, Nat.le_refl _⟩
    have hl' : l.length ≤ 1048576 := by omega
    have hboth : ∃ r : Int × Int, spec_TicketOf.f (k+1) a b c d l = some r ∧ impl_TicketOf.f (k+1) a b c d l = some r := by
      unfold spec_TicketOf.f impl_TicketOf.f
      rw [isLot]
      rcases lot_cases a b c d with h | ⟨h, n, p, q, e, rfl, rfl, rfl, rfl, h1, h2, _⟩
      · rw [h]; exact ⟨_, rfl, rfl⟩
      · obtain ⟨r, g1, g2⟩ := to_both n p q e h1 h2 l hl' l.length 0 0 (by omega)
        rw [h, Option.bind_some, Option.bind_some, if_pos rfl, if_pos rfl]
        exact ⟨r, g1 _ (by omega), g2 _ (by omega)⟩
    obtain ⟨r, h1, h2⟩ := hboth
    refine ⟨k + 1, ?_⟩
    unfold laws_FnExactTicketOf.f laws_toLottery.f
    rw [if_neg hl]
    simp only [Option.bind_some]
    rw [to_ev l hl' (k+1) (by omega)]
    simp only [Option.bind_some]
    rw [h1, h2]
    simp only [Option.bind_some, if_true, bne_self_eq_false, laws_FnExactTicketOf.j0, Bool.false_eq_true, if_false]
    rw [to_ev l hl' k (by omega)]
    simp only [Option.bind_some]
    rw [eq_ev l (by omega) k (by omega)]
    simp

end Go.Proofs.Ytklbkleibefldaa.Pure
