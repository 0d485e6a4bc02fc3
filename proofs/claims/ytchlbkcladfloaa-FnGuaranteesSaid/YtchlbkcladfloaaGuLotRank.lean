/- Ranks of tickets, forth and back. n at most 12. -/
import Derived.Test.YtchlbkcladfloaaGuLotMath
namespace Go.Proofs.Ytchlbkcladfloaa.LotM
theorem ofRank_lt (k r i : Nat) (h1 : binom i (k+1) ≤ r) (h2 : r < binom (i+1) (k+1)) : r - binom i (k+1) < binom i k := by
  simp only [binom] at h2; omega
theorem ofRank_step (n k r i u : Nat) (hn : n ≤ 12) (hi : i < n) (h1 : binom i (k+1) ≤ r) (h2 : r < binom (i+1) (k+1)) (hu : (S i k)[r - binom i (k+1)]? = some u) : (S n (k+1))[r]? = some (u + 2^i) := by
  rw [S_prefix (i+1) n (k+1) r (by omega) hn h2, S_succ i k (by omega), List.getElem?_append_right (by rw [S_length _ _ (by omega)]; exact h1), S_length _ _ (by omega), List.getElem?_map, hu]; rfl
theorem binom_mono1 (n k : Nat) : binom n k ≤ binom (n+1) k := by cases k with
  | zero => cases n <;> exact Nat.le_refl _
  | succ k => simp only [binom]; omega
theorem binom_mono (n m k : Nat) (h : n ≤ m) : binom n k ≤ binom m k := by
  induction m with
  | zero => have : n = 0 := by omega
            subst this; exact Nat.le_refl _
  | succ m ih =>
    by_cases e : n = m + 1
    · subst e; exact Nat.le_refl _
    · exact Nat.le_trans (ih (by omega)) (binom_mono1 m k)
theorem S_first (n k i j t : Nat) (hi : (S n k)[i]? = some t) (hj : (S n k)[j]? = some t) : i = j := by
  have hs := S_sorted n k
  obtain ⟨h1, e1⟩ := List.getElem?_eq_some_iff.1 hi
  obtain ⟨h2, e2⟩ := List.getElem?_eq_some_iff.1 hj
  rcases Nat.lt_trichotomy i j with h | h | h
  · have := List.pairwise_iff_getElem.1 hs i j h1 h2 h; omega
  · exact h
  · have := List.pairwise_iff_getElem.1 hs j i h2 h1 h; omega
theorem rk_mod (n t : Nat) (hn : n < 12) : rk (n+1) (t % 2^(n+1)) = if t / 2^n % 2 = 1 then binom n (pc (t % 2^n) + 1) + rk n (t % 2^n) else rk n (t % 2^n) := by
  have e : t % 2^(n+1) = t % 2^n + 2^n * (t / 2^n % 2) := by rw [Nat.pow_succ, Nat.mod_mul]
  have hl : t % 2^n < 2^n := Nat.mod_lt _ (Nat.two_pow_pos n)
  have hb : t / 2^n % 2 = 0 ∨ t / 2^n % 2 = 1 := by omega
  rcases hb with hb | hb
  · rw [e, hb]; simp only [Nat.mul_zero, Nat.add_zero, rk, if_pos hl]; simp
  · rw [e, hb]; simp only [Nat.mul_one, rk]
    rw [if_neg (by omega), if_pos trivial, pc_add n _ hl hn]; congr 2; omega
theorem pc_mod (n t : Nat) (hn : n < 12) : pc (t % 2^(n+1)) = if t / 2^n % 2 = 1 then pc (t % 2^n) + 1 else pc (t % 2^n) := by
  have e : t % 2^(n+1) = t % 2^n + 2^n * (t / 2^n % 2) := by rw [Nat.pow_succ, Nat.mod_mul]
  have hl : t % 2^n < 2^n := Nat.mod_lt _ (Nat.two_pow_pos n)
  have hb : t / 2^n % 2 = 0 ∨ t / 2^n % 2 = 1 := by omega
  rcases hb with hb | hb
  · rw [e, hb]; simp
  · rw [e, hb]; simp only [Nat.mul_one]; rw [pc_add n _ hl hn, if_pos trivial]
end Go.Proofs.Ytchlbkcladfloaa.LotM
