/- Sets of a given number of numbers, their count and their places in order. No condition but n at most 12. -/
namespace Go.Proofs.Ytchlbkcladfloaa.LotM
def pcF : Nat → Nat → Nat
  | 0, _ => 0
  | k+1, n => n % 2 + pcF k (n / 2)
def pc (n : Nat) : Nat := pcF 12 n

theorem pcF_zero (m : Nat) : pcF m 0 = 0 := by
  induction m with
  | zero => rfl
  | succ m ih => simp [pcF, ih]

theorem pcF_add (n : Nat) : ∀ (m x : Nat), x < 2^n → n < m → pcF m (x + 2^n) = pcF m x + 1 := by
  induction n with
  | zero =>
    intro m x hx hm
    obtain ⟨m, rfl⟩ : ∃ q, m = q + 1 := ⟨m - 1, by omega⟩
    have : x = 0 := by simp at hx; omega
    subst this
    simp [pcF, pcF_zero]
  | succ n ih =>
    intro m x hx hm
    obtain ⟨m, rfl⟩ : ∃ q, m = q + 1 := ⟨m - 1, by omega⟩
    have h1 : (x + 2^(n+1)) % 2 = x % 2 := by rw [Nat.pow_succ]; omega
    have h2 : (x + 2^(n+1)) / 2 = x / 2 + 2^n := by rw [Nat.pow_succ]; omega
    have h3 : x / 2 < 2^n := by rw [Nat.pow_succ] at hx; omega
    simp only [pcF]
    rw [h1, h2, ih m (x/2) h3 (by omega)]
    omega

theorem pc_add (n x : Nat) (hx : x < 2^n) (hn : n < 12) : pc (x + 2^n) = pc x + 1 := pcF_add n 12 x hx hn

def binom : Nat → Nat → Nat
  | _, 0 => 1
  | 0, _+1 => 0
  | n+1, k+1 => binom n k + binom n (k+1)

def S (n k : Nat) : List Nat := (List.range (2^n)).filter (fun s => pc s == k)

theorem range_double (n : Nat) : List.range (2^(n+1)) = List.range (2^n) ++ (List.range (2^n)).map (· + 2^n) := by
  rw [Nat.pow_succ, show 2^n * 2 = 2^n + 2^n by omega, List.range_add]
  congr 1
  apply List.map_congr_left
  intro a _; omega

theorem S_succ (n k : Nat) (hn : n < 12) : S (n+1) (k+1) = S n (k+1) ++ (S n k).map (· + 2^n) := by
  unfold S
  rw [range_double, List.filter_append]
  congr 1
  rw [List.filter_map]
  congr 1
  apply List.filter_congr
  intro x hx
  have hx : x < 2^n := by simpa using hx
  simp [pc_add n x hx hn]

theorem S_succ0 (n : Nat) (hn : n < 12) : S (n+1) 0 = S n 0 := by
  unfold S
  rw [range_double, List.filter_append]
  rw [List.filter_map]
  have : List.filter ((fun s => pc s == 0) ∘ fun x => x + 2^n) (List.range (2^n)) = [] := by
    rw [List.filter_eq_nil_iff]
    intro x hx
    have hx : x < 2^n := by simpa using hx
    simp [pc_add n x hx hn]
  rw [this]; simp

theorem S_length (n : Nat) : ∀ k, n ≤ 12 → (S n k).length = binom n k := by
  induction n with
  | zero => intro k _; cases k <;> rfl
  | succ n ih =>
    intro k hn
    cases k with
    | zero => rw [S_succ0 n (by omega), ih 0 (by omega)]; cases n <;> rfl
    | succ k => rw [S_succ n k (by omega)]; simp [ih _ (show n ≤ 12 by omega), binom]; omega

theorem mem_S {n k t : Nat} : t ∈ S n k ↔ t < 2^n ∧ pc t = k := by simp [S]

def rk : Nat → Nat → Nat
  | 0, _ => 0
  | n+1, t => if t < 2^n then rk n t else binom n (pc t) + rk n (t - 2^n)

theorem S_rk (n : Nat) : ∀ t, n ≤ 12 → t < 2^n → (S n (pc t))[rk n t]? = some t := by
  induction n with
  | zero => intro t _ h; have : t = 0 := by simp at h; omega
            subst this; rfl
  | succ n ih =>
    intro t hn ht
    by_cases h : t < 2^n
    · have := ih t (by omega) h
      simp only [rk, if_pos h]
      cases hp : pc t with
      | zero => rw [S_succ0 n (by omega)]; rw [hp] at this; exact this
      | succ k =>
        rw [S_succ n k (by omega)]
        rw [hp] at this
        rw [List.getElem?_append_left (List.getElem?_eq_some_iff.1 this).1]; exact this
    · simp only [rk, if_neg h]
      rw [Nat.pow_succ] at ht
      have h2 := ih (t - 2^n) (by omega) (by omega)
      have h3 := pc_add n (t - 2^n) (by omega) (by omega)
      rw [show t - 2^n + 2^n = t by omega] at h3
      rw [h3, S_succ n _ (by omega), List.getElem?_append_right (by rw [S_length _ _ (by omega)]; omega), S_length _ _ (by omega)]
      rw [show binom n (pc (t - 2^n) + 1) + rk n (t - 2^n) - binom n (pc (t - 2^n) + 1) = rk n (t - 2^n) by omega]
      rw [List.getElem?_map, h2]
      simp; omega

theorem S_sorted (n k : Nat) : (S n k).Pairwise (· < ·) := List.Pairwise.filter _ List.pairwise_lt_range

theorem S_prefix (n m k i : Nat) (hnm : n ≤ m) (hm : m ≤ 12) (hi : i < binom n k) : (S m k)[i]? = (S n k)[i]? := by
  induction m with
  | zero => have : n = 0 := by omega
            subst this; rfl
  | succ m ih =>
    by_cases he : n = m + 1
    · subst he; rfl
    · rw [← ih (by omega) (by omega)]
      cases k with
      | zero => rw [S_succ0 m (by omega)]
      | succ k =>
        rw [S_succ m k (by omega), List.getElem?_append_left]
        have h1 : i < (S n (k+1)).length := by rw [S_length _ _ (by omega)]; exact hi
        have h2 := List.getElem?_eq_getElem h1
        rw [← ih (by omega) (by omega)] at h2
        exact (List.getElem?_eq_some_iff.1 h2).1

theorem binom_gt (n : Nat) : ∀ k, n < k → binom n k = 0 := by
  induction n with
  | zero => intro k h; cases k with | zero => omega | succ k => rfl
  | succ n ih => intro k h; cases k with | zero => omega | succ k => simp [binom, ih k (by omega), ih (k+1) (by omega)]

end Go.Proofs.Ytchlbkcladfloaa.LotM
