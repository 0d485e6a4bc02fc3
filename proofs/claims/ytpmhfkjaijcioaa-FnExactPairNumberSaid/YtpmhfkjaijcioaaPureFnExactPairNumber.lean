/- The pair number of the program is the reference's. For every number of 64 bits. -/
import Derived.Test.YtpmhfkjaijcioaaPFnExactPairNumberx0
import Derived.Test.YtpmhfkjaijcioaaPFnExactPairNumberx1
import Derived.Test.YtpmhfkjaijcioaaLotMath
import Derived.Test.YtpmhfkjaijcioaaLotHit
import Derived.Test.YtpmhfkjaijcioaaLotRank
import Derived.KernelRfl
namespace Go.Proofs.Ytpmhfkjaijcioaa.Pure
open Go Go.RowKit Go.Proofs.Ytpmhfkjaijcioaa.PFnExactPairNumber Go.Proofs.YtpmhfkjaijcioaaW.PrintWords Go.Proofs.YtpmhfkjaijcioaaW.PrintLast Go.Proofs.YtpmhfkjaijcioaaW.PrintMore Go.Proofs.Ytpmhfkjaijcioaa.LotM
set_option linter.unusedVariables false
set_option linter.unusedSimpArgs false
theorem shl_one : ∀ n, n < 13 → shl .i64 1 ((n : Nat) : Int) = ((2 ^ n : Nat) : Int) := by decide +kernel
theorem pow_le {n : Nat} (h : n ≤ 12) : 2 ^ n ≤ 4096 := Nat.pow_le_pow_right (n := 2) (by omega) h
theorem w64 {i : Int} (h0 : -9223372036854775808 ≤ i) (h : i < 9223372036854775808) : wrap64 i = i := by unfold wrap64; omega
theorem u64 {i : Int} (h0 : 0 ≤ i) (h : i < 9223372036854775808) : IntKind.u64.wrap i = i := by
  have e : IntKind.u64.wrap i = i % 18446744073709551616 := by simp [IntKind.wrap, IntKind.bits, IntKind.signed]
  rw [e]; omega
def allN (p : Nat → Bool) : Nat → Bool
  | 0 => true
  | n+1 => p n && allN p n
theorem allN_at (p : Nat → Bool) : ∀ n, allN p n = true → ∀ s, s < n → p s = true
  | 0, _, s, h => by omega
  | n+1, h, s, hs => by
    simp only [allN, Bool.and_eq_true] at h
    by_cases e : s = n
    · subst e; exact h.1
    · exact allN_at p n h.2 s (by omega)

def okS (s : Nat) : Bool := match impl_size.f (s : Int) with
  | some r => r == (pcF 12 s : Int)
  | none => false
theorem okS_all : allN okS 4096 = true := by kernel_rfl
theorem size_nat (s : Nat) (h : s < 4096) : impl_size.f (s : Int) = some (pc s : Int) := by
  have := allN_at okS 4096 okS_all s h
  unfold okS at this
  split at this
  · rename_i r hr; rw [hr, beq_iff_eq.mp this]; rfl
  · cases this

theorem sets_l (m : Nat) (N : Nat) (hN : N ≤ 4096) : ∀ d i (acc : List Int), i + d = N → acc.length ≤ i → ∀ k, d < k → impl_sets.l0 k m acc N i = some (acc ++ ((List.range' i d).filter (fun s => pc s == m)).map Int.ofNat)
  | 0, i, acc, h, ha, k, hk => by
    obtain ⟨k, rfl⟩ : ∃ q, k = q + 1 := ⟨k - 1, by omega⟩
    simp only [impl_sets.l0]; rw [if_neg (by omega)]; simp
  | d+1, i, acc, h, ha, k, hk => by
    obtain ⟨k, rfl⟩ : ∃ q, k = q + 1 := ⟨k - 1, by omega⟩
    simp only [impl_sets.l0]
    rw [if_pos (by omega), size_nat i (by omega)]
    simp only [Option.bind_some]
    rw [w64 (by omega) (by omega), show ((i : Int) + 1) = ((i + 1 : Nat) : Int) by omega]
    rw [List.range'_succ, List.filter_cons]
    by_cases e : pc i = m
    · rw [if_pos (by omega), if_pos (by omega)]
      rw [sets_l m N hN d (i+1) (acc ++ [(i : Int)]) (by omega) (by simp; omega) k (by omega)]
      simp [e]
    · rw [if_neg (by omega)]
      rw [sets_l m N hN d (i+1) acc (by omega) (by omega) k (by omega)]
      simp [e]
theorem sets_ev (n m : Nat) (hn : n ≤ 12) : ∀ k, 4096 < k → impl_sets.f k n m = some ((S n m).map Int.ofNat) := by
  intro k hk
  have hp := pow_le hn
  unfold impl_sets.f
  rw [if_pos (by omega), shl_one n (by omega)]
  rw [show (0 : Int) = ((0 : Nat) : Int) from rfl, sets_l m (2^n) hp (2^n) 0 [] (by omega) (by simp) k (by omega)]
  simp [S, List.range_eq_range']

def okC (x : Nat) : Bool := match spec_l08Choose.f 14 ((x / 16 : Nat) : Int) ((x % 16 : Nat) : Int) with
  | some r => r == (binom (x / 16) (x % 16) : Int)
  | none => false
theorem okC_all : allN okC 208 = true := by kernel_rfl
theorem choose_nat (n j : Nat) (hn : n ≤ 12) (hj : j ≤ 15) : ∀ k, 14 ≤ k → spec_l08Choose.f k n j = some (binom n j : Int) := by
  intro k hk
  have := allN_at okC 208 okC_all (16 * n + j) (by omega)
  unfold okC at this
  rw [show (16 * n + j) / 16 = n by omega, show (16 * n + j) % 16 = j by omega] at this
  split at this
  · rename_i r hr
    rw [beq_iff_eq.mp this] at hr
    exact at_rounds (g := fun k => spec_l08Choose.f k n j) (fun k => spec_l08Choose.mono _ _ k) hk hr
  · cases this

theorem S_lt {n m x : Nat} (hn : n ≤ 12) (h : x ∈ S n m) : x < 4096 := Nat.lt_of_lt_of_le (mem_S.1 h).1 (pow_le hn)
theorem S_len (n m : Nat) (hn : n ≤ 12) : (S n m).length ≤ 4096 := by
  have h : (S n m).length ≤ (List.range (2^n)).length := List.length_filter_le _ _
  rw [List.length_range] at h
  exact Nat.le_trans h (pow_le hn)

theorem half (m : Nat) (h : m ≤ 10) : wrap64 (Int.tdiv (wrap64 ((m : Int) + 1)) 2) = (((m + 1) / 2 : Nat) : Int) := by
  have e1 : wrap64 ((m : Int) + 1) = (m : Int) + 1 := w64 (by omega) (by omega)
  rw [e1, Int.tdiv_eq_ediv_of_nonneg (by omega), w64 (by omega) (by omega)]
  omega
theorem pairs_both (n : Nat) (hn : n ≤ 8) : ∀ d m : Nat, m + d = 6 → 1 ≤ m → ∃ r : Int, (∀ k, 5000 + d ≤ k → spec_l10Pairs.l0 k n m = some r) ∧ ∀ k, 5000 + d ≤ k → impl_pairNumber.l0 k n m = some r
  | d, m, e, h1 => by
    have hw : wrap64 ((m : Int) - 1) = ((m - 1 : Nat) : Int) := by rw [w64 (by omega) (by omega)]; omega
    have hw1 : wrap64 ((m : Int) + 1) = ((m + 1 : Nat) : Int) := by rw [w64 (by omega) (by omega)]; omega
    by_cases hc : binom (m - 1) ((m + 1) / 2) < n
    · have hd : 1 ≤ d := by
        by_cases h : 1 ≤ d
        · exact h
        · obtain rfl : m = 6 := by omega
          have : binom (6 - 1) ((6 + 1) / 2) = 10 := by decide
          omega
      obtain ⟨r, g1, g2⟩ := pairs_both n hn (d - 1) (m + 1) (by omega) (by omega)
      refine ⟨r, fun k hk => ?_, fun k hk => ?_⟩
      · obtain ⟨k, rfl⟩ : ∃ q, k = q + 1 := ⟨k - 1, by omega⟩
        simp only [spec_l10Pairs.l0]
        rw [hw, half m (by omega), choose_nat _ _ (by omega) (by omega) k (by omega)]
        simp only [Option.bind_some]
        rw [if_pos (by omega), hw1]
        exact g1 k (by omega)
      · obtain ⟨k, rfl⟩ : ∃ q, k = q + 1 := ⟨k - 1, by omega⟩
        simp only [impl_pairNumber.l0]
        rw [hw, half m (by omega), sets_ev _ _ (by omega) k (by omega)]
        simp only [Option.bind_some, List.length_map, S_length (m - 1) _ (show m - 1 ≤ 12 by omega)]
        rw [if_neg (by omega), hw1]
        exact g2 k (by omega)
    · refine ⟨m, fun k hk => ?_, fun k hk => ?_⟩
      · obtain ⟨k, rfl⟩ : ∃ q, k = q + 1 := ⟨k - 1, by omega⟩
        simp only [spec_l10Pairs.l0]
        rw [hw, half m (by omega), choose_nat _ _ (by omega) (by omega) k (by omega)]
        simp only [Option.bind_some]
        rw [if_neg (by omega)]
      · obtain ⟨k, rfl⟩ : ∃ q, k = q + 1 := ⟨k - 1, by omega⟩
        simp only [impl_pairNumber.l0]
        rw [hw, half m (by omega), sets_ev _ _ (by omega) k (by omega)]
        simp only [Option.bind_some, List.length_map, S_length (m - 1) _ (show m - 1 ≤ 12 by omega)]
        rw [if_pos (by omega)]
termination_by d => d
theorem FnExactPairNumber : laws_FnExactPairNumber.Pure := by
  intro n _
  obtain ⟨k, hk⟩ : ∃ k : Nat, 5100 ≤ k := ⟨5100, Nat.le_refl _⟩
  refine ⟨k, ?_⟩
  unfold laws_FnExactPairNumber.f spec_PairNumber.f impl_PairNumber.f spec_l01In.f
  by_cases h1 : n < 1
  · rw [if_neg (by omega), if_pos h1]; rfl
  · by_cases h2 : n > 8
    · rw [if_pos (by omega), if_neg (by omega), if_pos h2]
      have : decide (n ≤ 8) = false := by simp; omega
      rw [this]; rfl
    · rw [if_pos (by omega), if_neg (by omega), if_neg (by omega)]
      have : decide (n ≤ 8) = true := by simp; omega
      rw [this]
      obtain ⟨m, rfl⟩ : ∃ m : Nat, n = m := ⟨n.toNat, by omega⟩
      obtain ⟨r, g1, g2⟩ := pairs_both m (by omega) 5 1 (by omega) (by omega)
      have g1 := g1 k (by omega)
      have g2 := g2 k (by omega)
      simp only [Option.bind_some, if_true]
      unfold spec_l10Pairs.f impl_pairNumber.f
      rw [show (1 : Int) = ((1 : Nat) : Int) from rfl, g1, g2]
      simp

end Go.Proofs.Ytpmhfkjaijcioaa.Pure
