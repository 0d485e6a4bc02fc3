/- The number of all draws is the number of ways to choose. For every four numbers of 64 bits. -/
import Derived.Test.YtklbkleibefldaaPFnExactCountDrawsx0
import Derived.Test.YtklbkleibefldaaPFnExactCountDrawsx1
import Derived.Test.YtklbkleibefldaaLotMath
import Derived.Test.YtklbkleibefldaaLotHit
import Derived.Test.YtklbkleibefldaaLotRank
import Derived.KernelRfl
namespace Go.Proofs.Ytklbkleibefldaa.Pure
open Go Go.RowKit Go.Proofs.Ytklbkleibefldaa.PFnExactCountDraws Go.Proofs.YtklbkleibefldaaW.PrintWords Go.Proofs.YtklbkleibefldaaW.PrintLast Go.Proofs.YtklbkleibefldaaW.PrintMore Go.Proofs.Ytklbkleibefldaa.LotM
set_option linter.unusedVariables false
set_option linter.unusedSimpArgs false
theorem shl_one : ∀ n, n < 13 → shl .i64 1 ((n : Nat) : Int) = ((2 ^ n : Nat) : Int) := by decide +kernel
theorem pow_le {n : Nat} (h : n ≤ 12) : 2 ^ n ≤ 4096 := Nat.pow_le_pow_right (n := 2) (by omega) h
theorem w64 {i : Int} (h0 : -9223372036854775808 ≤ i) (h : i < 9223372036854775808) : wrap64 i = i := by unfold wrap64; omega
theorem u64 {i : Int} (h0 : 0 ≤ i) (h : i < 9223372036854775808) : IntKind.u64.wrap i = i := by
  have e : IntKind.u64.wrap i = i % 18446744073709551616 := by simp [IntKind.wrap, IntKind.bits, IntKind.signed]
  rw [e]; omega
def allN (p : Nat → Bool) : Nat → Bool
  | 0 => true
  | n+1 => p n && allN p n
theorem allN_at (p : Nat → Bool) : ∀ n, allN p n = true → ∀ s, s < n → p s = true
  | 0, _, s, h => by omega
  | n+1, h, s, hs => by
    simp only [allN, Bool.and_eq_true] at h
    by_cases e : s = n
    · subst e; exact h.1
    · exact allN_at p n h.2 s (by omega)

theorem isLot (a b c d : Int) : spec_l08Is.f a b c d = impl_IsLottery.f a b c d := by
  unfold spec_l08Is.f spec_l01In.f impl_IsLottery.f mn
  repeat' split
  all_goals simp_all
  all_goals omega

/-- What a lottery's numbers are. -/
theorem lot_cases (a b c d : Int) : impl_IsLottery.f a b c d = some false ∨ (impl_IsLottery.f a b c d = some true ∧ ∃ n p q h : Nat, a = n ∧ b = p ∧ c = q ∧ d = h ∧ 1 ≤ n ∧ n ≤ 12 ∧ 1 ≤ p ∧ p ≤ n ∧ 1 ≤ q ∧ q ≤ n ∧ 1 ≤ h ∧ h ≤ p ∧ h ≤ q) := by
  by_cases hv : 1 ≤ a ∧ a ≤ 12 ∧ 1 ≤ b ∧ b ≤ a ∧ 1 ≤ c ∧ c ≤ a ∧ 1 ≤ d ∧ d ≤ b ∧ d ≤ c
  · refine .inr ⟨?_, a.toNat, b.toNat, c.toNat, d.toNat, by omega, by omega, by omega, by omega, by omega, by omega, by omega, by omega, by omega, by omega, by omega, by omega, by omega⟩
    unfold impl_IsLottery.f mn
    repeat' split
    all_goals simp_all
    all_goals omega
  · refine .inl ?_
    unfold impl_IsLottery.f mn
    repeat' split
    all_goals simp_all
    all_goals omega

def okS (s : Nat) : Bool := match impl_size.f (s : Int) with
  | some r => r == (pcF 12 s : Int)
  | none => false
theorem okS_all : allN okS 4096 = true := by kernel_rfl
theorem size_nat (s : Nat) (h : s < 4096) : impl_size.f (s : Int) = some (pc s : Int) := by
  have := allN_at okS 4096 okS_all s h
  unfold okS at this
  split at this
  · rename_i r hr; rw [hr, beq_iff_eq.mp this]; rfl
  · cases this

theorem sets_l (m : Nat) (N : Nat) (hN : N ≤ 4096) : ∀ d i (acc : List Int), i + d = N → acc.length ≤ i → ∀ k, d < k → impl_sets.l0 k m acc N i = some (acc ++ ((List.range' i d).filter (fun s => pc s == m)).map Int.ofNat)
  | 0, i, acc, h, ha, k, hk => by
    obtain ⟨k, rfl⟩ : ∃ q, k = q + 1 := ⟨k - 1, by omega⟩
    simp only [impl_sets.l0]; rw [if_neg (by omega)]; simp
  | d+1, i, acc, h, ha, k, hk => by
    obtain ⟨k, rfl⟩ : ∃ q, k = q + 1 := ⟨k - 1, by omega⟩
    simp only [impl_sets.l0]
    rw [if_pos (by omega), size_nat i (by omega)]
    simp only [Option.bind_some]
    rw [w64 (by omega) (by omega), show ((i : Int) + 1) = ((i + 1 : Nat) : Int) by omega]
    rw [List.range'_succ, List.filter_cons]
    by_cases e : pc i = m
    · rw [if_pos (by omega), if_pos (by omega)]
      rw [sets_l m N hN d (i+1) (acc ++ [(i : Int)]) (by omega) (by simp; omega) k (by omega)]
      simp [e]
    · rw [if_neg (by omega)]
      rw [sets_l m N hN d (i+1) acc (by omega) (by omega) k (by omega)]
      simp [e]
theorem sets_ev (n m : Nat) (hn : n ≤ 12) : ∀ k, 4096 < k → impl_sets.f k n m = some ((S n m).map Int.ofNat) := by
  intro k hk
  have hp := pow_le hn
  unfold impl_sets.f
  rw [if_pos (by omega), shl_one n (by omega)]
  rw [show (0 : Int) = ((0 : Nat) : Int) from rfl, sets_l m (2^n) hp (2^n) 0 [] (by omega) (by simp) k (by omega)]
  simp [S, List.range_eq_range']

def okC (x : Nat) : Bool := match spec_l08Choose.f 14 ((x / 16 : Nat) : Int) ((x % 16 : Nat) : Int) with
  | some r => r == (binom (x / 16) (x % 16) : Int)
  | none => false
theorem okC_all : allN okC 208 = true := by kernel_rfl
theorem choose_nat (n j : Nat) (hn : n ≤ 12) (hj : j ≤ 15) : ∀ k, 14 ≤ k → spec_l08Choose.f k n j = some (binom n j : Int) := by
  intro k hk
  have := allN_at okC 208 okC_all (16 * n + j) (by omega)
  unfold okC at this
  rw [show (16 * n + j) / 16 = n by omega, show (16 * n + j) % 16 = j by omega] at this
  split at this
  · rename_i r hr
    rw [beq_iff_eq.mp this] at hr
    exact at_rounds (g := fun k => spec_l08Choose.f k n j) (fun k => spec_l08Choose.mono _ _ k) hk hr
  · cases this

theorem FnExactCountDraws (a b c d : Int) (_ : (Lit.int .i64 a).wf = true) (_ : (Lit.int .i64 b).wf = true) (_ : (Lit.int .i64 c).wf = true) (_ : (Lit.int .i64 d).wf = true) : ∃ k, laws_FnExactCountDraws.f k a b c d = some true := by
  obtain ⟨k, hk⟩ : ∃ k : Nat, 5000 ≤ k := ⟨5000, Nat.le_refl _⟩
  refine ⟨k, ?_⟩
  unfold laws_FnExactCountDraws.f laws_toLottery.f
  simp only [Option.bind_some]
  unfold spec_CountDraws.f impl_CountDraws.f
  rw [isLot]
  rcases lot_cases a b c d with h | ⟨h, n, p, q, e, rfl, rfl, rfl, rfl, h1, h2, h3, h4, h5, h6, h7, h8, h9⟩
  · rw [h]; rfl
  · rw [h]
    simp only [Option.bind_some, if_true]
    unfold impl_allDraws.f
    rw [choose_nat n q h2 (by omega) k (by omega), sets_ev n q h2 k (by omega)]
    simp [S_length n q h2]

end Go.Proofs.Ytklbkleibefldaa.Pure
