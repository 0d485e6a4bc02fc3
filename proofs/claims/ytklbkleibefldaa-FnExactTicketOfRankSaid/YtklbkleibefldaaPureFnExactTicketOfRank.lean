/- Tickets are told alike by their ranks. For every five numbers of 64 bits. -/
import Derived.Test.YtklbkleibefldaaPFnExactTicketOfRankx0
import Derived.Test.YtklbkleibefldaaPFnExactTicketOfRankx1
import Derived.Test.YtklbkleibefldaaPFnExactTicketOfRankx2
import Derived.Test.YtklbkleibefldaaLotMath
import Derived.Test.YtklbkleibefldaaLotHit
import Derived.Test.YtklbkleibefldaaLotRank
import Derived.KernelRfl
namespace Go.Proofs.Ytklbkleibefldaa.Pure
open Go Go.RowKit Go.Proofs.Ytklbkleibefldaa.PFnExactTicketOfRank Go.Proofs.YtklbkleibefldaaW.PrintWords Go.Proofs.YtklbkleibefldaaW.PrintLast Go.Proofs.YtklbkleibefldaaW.PrintMore Go.Proofs.Ytklbkleibefldaa.LotM
set_option linter.unusedVariables false
set_option linter.unusedSimpArgs false
theorem shl_one : ∀ n, n < 13 → shl .i64 1 ((n : Nat) : Int) = ((2 ^ n : Nat) : Int) := by decide +kernel
theorem pow_le {n : Nat} (h : n ≤ 12) : 2 ^ n ≤ 4096 := Nat.pow_le_pow_right (n := 2) (by omega) h
theorem w64 {i : Int} (h0 : -9223372036854775808 ≤ i) (h : i < 9223372036854775808) : wrap64 i = i := by unfold wrap64; omega
theorem u64 {i : Int} (h0 : 0 ≤ i) (h : i < 9223372036854775808) : IntKind.u64.wrap i = i := by
  have e : IntKind.u64.wrap i = i % 18446744073709551616 := by simp [IntKind.wrap, IntKind.bits, IntKind.signed]
  rw [e]; omega
def allN (p : Nat → Bool) : Nat → Bool
  | 0 => true
  | n+1 => p n && allN p n
theorem allN_at (p : Nat → Bool) : ∀ n, allN p n = true → ∀ s, s < n → p s = true
  | 0, _, s, h => by omega
  | n+1, h, s, hs => by
    simp only [allN, Bool.and_eq_true] at h
    by_cases e : s = n
    · subst e; exact h.1
    · exact allN_at p n h.2 s (by omega)

theorem isLot (a b c d : Int) : spec_l08Is.f a b c d = impl_IsLottery.f a b c d := by
  unfold spec_l08Is.f spec_l01In.f impl_IsLottery.f mn
  repeat' split
  all_goals simp_all
  all_goals omega

/-- What a lottery's numbers are. -/
theorem lot_cases (a b c d : Int) : impl_IsLottery.f a b c d = some false ∨ (impl_IsLottery.f a b c d = some true ∧ ∃ n p q h : Nat, a = n ∧ b = p ∧ c = q ∧ d = h ∧ 1 ≤ n ∧ n ≤ 12 ∧ 1 ≤ p ∧ p ≤ n ∧ 1 ≤ q ∧ q ≤ n ∧ 1 ≤ h ∧ h ≤ p ∧ h ≤ q) := by
  by_cases hv : 1 ≤ a ∧ a ≤ 12 ∧ 1 ≤ b ∧ b ≤ a ∧ 1 ≤ c ∧ c ≤ a ∧ 1 ≤ d ∧ d ≤ b ∧ d ≤ c
  · refine .inr ⟨?_, a.toNat, b.toNat, c.toNat, d.toNat, by omega, by omega, by omega, by omega, by omega, by omega, by omega, by omega, by omega, by omega, by omega, by omega, by omega⟩
    unfold impl_IsLottery.f mn
    repeat' split
    all_goals simp_all
    all_goals omega
  · refine .inl ?_
    unfold impl_IsLottery.f mn
    repeat' split
    all_goals simp_all
    all_goals omega

def okS (s : Nat) : Bool := match impl_size.f (s : Int) with
  | some r => r == (pcF 12 s : Int)
  | none => false
theorem okS_all : allN okS 4096 = true := by kernel_rfl
theorem size_nat (s : Nat) (h : s < 4096) : impl_size.f (s : Int) = some (pc s : Int) := by
  have := allN_at okS 4096 okS_all s h
  unfold okS at this
  split at this
  · rename_i r hr; rw [hr, beq_iff_eq.mp this]; rfl
  · cases this

theorem sets_l (m : Nat) (N : Nat) (hN : N ≤ 4096) : ∀ d i (acc : List Int), i + d = N → acc.length ≤ i → ∀ k, d < k → impl_sets.l0 k m acc N i = some (acc ++ ((List.range' i d).filter (fun s => pc s == m)).map Int.ofNat)
  | 0, i, acc, h, ha, k, hk => by
    obtain ⟨k, rfl⟩ : ∃ q, k = q + 1 := ⟨k - 1, by omega⟩
    simp only [impl_sets.l0]; rw [if_neg (by omega)]; simp
  | d+1, i, acc, h, ha, k, hk => by
    obtain ⟨k, rfl⟩ : ∃ q, k = q + 1 := ⟨k - 1, by omega⟩
    simp only [impl_sets.l0]
    rw [if_pos (by omega), size_nat i (by omega)]
    simp only [Option.bind_some]
    rw [w64 (by omega) (by omega), show ((i : Int) + 1) = ((i + 1 : Nat) : Int) by omega]
    rw [List.range'_succ, List.filter_cons]
    by_cases e : pc i = m
    · rw [if_pos (by omega), if_pos (by omega)]
      rw [sets_l m N hN d (i+1) (acc ++ [(i : Int)]) (by omega) (by simp; omega) k (by omega)]
      simp [e]
    · rw [if_neg (by omega)]
      rw [sets_l m N hN d (i+1) acc (by omega) (by omega) k (by omega)]
      simp [e]
theorem sets_ev (n m : Nat) (hn : n ≤ 12) : ∀ k, 4096 < k → impl_sets.f k n m = some ((S n m).map Int.ofNat) := by
  intro k hk
  have hp := pow_le hn
  unfold impl_sets.f
  rw [if_pos (by omega), shl_one n (by omega)]
  rw [show (0 : Int) = ((0 : Nat) : Int) from rfl, sets_l m (2^n) hp (2^n) 0 [] (by omega) (by simp) k (by omega)]
  simp [S, List.range_eq_range']

def okC (x : Nat) : Bool := match spec_l08Choose.f 14 ((x / 16 : Nat) : Int) ((x % 16 : Nat) : Int) with
  | some r => r == (binom (x / 16) (x % 16) : Int)
  | none => false
theorem okC_all : allN okC 208 = true := by kernel_rfl
theorem choose_nat (n j : Nat) (hn : n ≤ 12) (hj : j ≤ 15) : ∀ k, 14 ≤ k → spec_l08Choose.f k n j = some (binom n j : Int) := by
  intro k hk
  have := allN_at okC 208 okC_all (16 * n + j) (by omega)
  unfold okC at this
  rw [show (16 * n + j) / 16 = n by omega, show (16 * n + j) % 16 = j by omega] at this
  split at this
  · rename_i r hr
    rw [beq_iff_eq.mp this] at hr
    exact at_rounds (g := fun k => spec_l08Choose.f k n j) (fun k => spec_l08Choose.mono _ _ k) hk hr
  · cases this

theorem w_i64 : ∀ n : Int, 0 ≤ n → n < 2 ^ 63 → IntKind.i64.wrap n = n := fun n h0 h1 => by rw [IntKind.wrap_i64]; omega
theorem band (a b : Nat) (ha : a < 4611686018427387904) (hb : b < 4611686018427387904) : Go.bits .and .i64 (a : Int) (b : Int) = ((a &&& b : Nat) : Int) :=
  (bits_nat .i64 63 (by decide) w_i64 a b (by omega) (by omega)).1
theorem bor (a b : Nat) (ha : a < 4611686018427387904) (hb : b < 4611686018427387904) : Go.bits .or .i64 (a : Int) (b : Int) = ((a ||| b : Nat) : Int) :=
  (bits_nat .i64 63 (by decide) w_i64 a b (by omega) (by omega)).2
theorem shr_nat (a i : Nat) (hi : i ≤ 64) : shr .i64 (a : Int) (i : Int) = ((a / 2 ^ i : Nat) : Int) := by
  unfold shr
  have e : min ((i : Int).toNat) IntKind.i64.bits = i := by
    have : IntKind.i64.bits = 64 := rfl
    rw [this, Int.toNat_natCast]; omega
  rw [e]; simp
theorem bit_nat (a i : Nat) (ha : a < 4611686018427387904) (hi : i ≤ 64) : Go.bits .and .i64 (shr .i64 (a : Int) (i : Int)) 1 = ((a / 2 ^ i % 2 : Nat) : Int) := by
  rw [shr_nat a i hi, show (1 : Int) = ((1 : Nat) : Int) from rfl, band _ _ (Nat.lt_of_le_of_lt (Nat.div_le_self _ _) ha) (by omega), Nat.and_one_is_mod]

theorem rd_map (M : List Nat) (i : Nat) (h : i < M.length) : rd (M.map Int.ofNat) (i : Int) = (M[i] : Int) := by
  simp [rd, List.getElem?_eq_getElem h]

theorem or_add (x m i : Nat) (hx : x % 2 ^ m = 0) (hi : i < m) : x ||| 2 ^ i = x + 2 ^ i := by
  obtain ⟨q, rfl⟩ : ∃ q, x = 2 ^ m * q := ⟨x / 2 ^ m, by have := Nat.div_add_mod x (2 ^ m); omega⟩
  have hlt : 2 ^ i < 2 ^ m := Nat.pow_lt_pow_right (by omega) hi
  rw [← Nat.two_pow_add_eq_or_of_lt hlt]
theorem mul_add_mod (x m i : Nat) (hx : x % 2 ^ m = 0) (hi : i < m) : (x + 2 ^ i) % 2 ^ i = 0 := by
  obtain ⟨e, rfl⟩ : ∃ e, m = i + e := ⟨m - i, by omega⟩
  have h1 : x % 2 ^ i = 0 := by
    have hd : 2 ^ i ∣ 2 ^ (i + e) := ⟨2 ^ e, Nat.pow_add 2 i e⟩
    exact Nat.mod_eq_zero_of_dvd (Nat.dvd_trans hd (Nat.dvd_of_mod_eq_zero hx))
  rw [Nat.add_mod, h1]; simp
theorem one_shl (i : Nat) (hi : i < 13) : shl .i64 1 (IntKind.u64.wrap (i : Int)) = ((2 ^ i : Nat) : Int) := by
  rw [u64 (by omega) (by omega), shl_one i hi]
theorem ofRank_l1 (m p r x : Nat) (hm : m ≤ 12) (hr : r < binom m (p+1)) (F : Option Int) (K : Nat) (hx : x % 2 ^ m = 0) (hx2 : x + 2 ^ m ≤ 4096)
    (next : ∀ i, i < m → binom i (p+1) ≤ r → r < binom (i+1) (p+1) → ∀ k, K ≤ k → spec_l08OfRank.l0 k p ((r - binom i (p+1) : Nat) : Int) ((x + 2 ^ i : Nat) : Int) = F) (hK : 16 ≤ K) :
    ∀ d i : Nat, i + d = m → i < m → binom i (p+1) ≤ r → ∀ k, K + d ≤ k → spec_l08OfRank.l1 k ((p : Int) + 1) r x i = F
  | 0, i, e, hi, h1, k, hk => by omega
  | d+1, i, e, hi, h1, k, hk => by
    obtain ⟨k, rfl⟩ : ∃ q, k = q + 1 := ⟨k - 1, by omega⟩
    have hp : p ≤ 14 := by
      by_cases hp : p ≤ 14
      · exact hp
      · rw [binom_gt m (p+1) (by omega)] at hr; omega
    simp only [spec_l08OfRank.l1]
    rw [w64 (i := (i : Int) + 1) (by omega) (by omega), show (i : Int) + 1 = ((i + 1 : Nat) : Int) by omega, show (p : Int) + 1 = ((p + 1 : Nat) : Int) by omega, choose_nat (i+1) (p+1) (by omega) (by omega) k (by omega)]
    simp only [Option.bind_some]
    have hpi : 2 ^ i < 2 ^ m := Nat.pow_lt_pow_right (by omega) hi
    by_cases hle : binom (i+1) (p+1) ≤ r
    · rw [if_pos (by omega)]
      have hi2 : i + 1 < m := by
        by_cases hi2 : i + 1 < m
        · exact hi2
        · have : i + 1 = m := by omega
          rw [this] at hle; omega
      have := ofRank_l1 m p r x hm hr F K hx hx2 next hK d (i+1) (by omega) hi2 hle k (by omega)
      exact this
    · rw [if_neg (by omega), choose_nat i (p+1) (by omega) (by omega) k (by omega)]
      simp only [Option.bind_some]
      have hr2 : r < 4096 := by
        have := S_length m (p+1) hm
        have h2 : (S m (p+1)).length ≤ (List.range (2^m)).length := List.length_filter_le _ _
        rw [List.length_range] at h2
        have := pow_le hm
        omega
      rw [one_shl i (by omega), u64 (by omega) (by omega), if_pos (by omega), bor x (2 ^ i) (by omega) (by omega), or_add x m i hx hi, w64 (by omega) (by omega), w64 (by omega) (by omega), show ((p + 1 : Nat) : Int) - 1 = (p : Int) by omega, show (r : Int) - (binom i (p+1) : Int) = ((r - binom i (p+1) : Nat) : Int) by omega]
      exact next i hi h1 (by omega) k (by omega)
theorem ofRank_l0 : ∀ (p m r x : Nat), m ≤ 12 → r < binom m p → x % 2 ^ m = 0 → x + 2 ^ m ≤ 4096 → ∃ t, (S m p)[r]? = some t ∧ ∀ k, 16 + 16 * (p + 1) ≤ k → spec_l08OfRank.l0 k p r x = some ((x + t : Nat) : Int)
  | 0, m, r, x, hm, hr, hx, hx2 => by
    have h0 : binom m 0 = 1 := by cases m <;> rfl
    obtain rfl : r = 0 := by omega
    refine ⟨0, ?_, fun k hk => ?_⟩
    · have := S_rk m 0 hm (Nat.two_pow_pos m)
      have hz : ∀ m, rk m 0 = 0 := by
        intro m
        induction m with
        | zero => rfl
        | succ m ih => simp only [rk]; rw [if_pos (Nat.two_pow_pos m)]; exact ih
      rw [hz] at this
      exact this
    · obtain ⟨k, rfl⟩ : ∃ q, k = q + 1 := ⟨k - 1, by omega⟩
      simp only [spec_l08OfRank.l0]; rw [if_neg (by omega)]; rfl
  | p+1, m, r, x, hm, hr, hx, hx2 => by
    have hpm : p + 1 ≤ m := by
      by_cases h : p + 1 ≤ m
      · exact h
      · rw [binom_gt m (p+1) (by omega)] at hr; omega
    have hex : ∃ i, i < m ∧ binom i (p+1) ≤ r ∧ r < binom (i+1) (p+1) := by
      have : ∀ m, r < binom m (p+1) → ∃ i, i < m ∧ binom i (p+1) ≤ r ∧ r < binom (i+1) (p+1) := by
        intro m
        induction m with
        | zero => intro h; simp [binom] at h
        | succ m ih =>
          intro h
          by_cases h2 : r < binom m (p+1)
          · obtain ⟨i, a, b, c⟩ := ih h2; exact ⟨i, by omega, b, c⟩
          · exact ⟨m, by omega, by omega, h⟩
      exact this m hr
    obtain ⟨i0, hi0, ha0, hb0⟩ := hex
    have huniq : ∀ i, binom i (p+1) ≤ r → r < binom (i+1) (p+1) → i = i0 := by
      intro i ha hb
      rcases Nat.lt_trichotomy i i0 with h | h | h
      · have := binom_mono (i+1) i0 (p+1) (by omega); omega
      · exact h
      · have := binom_mono (i0+1) i (p+1) (by omega); omega
    have hpow : 2 ^ i0 < 2 ^ m := Nat.pow_lt_pow_right (by omega) hi0
    have hpow2 : 2 ^ i0 + 2 ^ i0 ≤ 2 ^ m := by
      have : 2 ^ (i0 + 1) ≤ 2 ^ m := Nat.pow_le_pow_right (by omega) (by omega)
      rw [Nat.pow_succ] at this; omega
    obtain ⟨u, hu, hrec⟩ := ofRank_l0 p i0 (r - binom i0 (p+1)) (x + 2 ^ i0) (by omega) (ofRank_lt p r i0 ha0 hb0) (mul_add_mod x m i0 hx hi0) (by omega)
    refine ⟨u + 2 ^ i0, ofRank_step m p r i0 u hm hi0 ha0 hb0 hu, fun k hk => ?_⟩
    obtain ⟨k, rfl⟩ : ∃ q, k = q + 1 := ⟨k - 1, by omega⟩
    simp only [spec_l08OfRank.l0]
    rw [if_pos (by omega), w64 (by omega) (by omega), show ((p + 1 : Nat) : Int) - 1 = (p : Int) by omega, show ((p + 1 : Nat) : Int) = (p : Int) + 1 by omega]
    refine ofRank_l1 m p r x hm hr _ (16 + 16 * (p + 1)) hx hx2 (fun i hi ha hb k hk => ?_) (by omega) (m - p) p (by omega) (by omega) (by rw [binom_gt p (p+1) (by omega)]; omega) k (by omega)
    obtain rfl := huniq i ha hb
    rw [hrec k (by omega)]
    congr 1
    omega
theorem FnExactTicketOfRank (a b c d : Int) (_ : (Lit.int .i64 a).wf = true) (_ : (Lit.int .i64 b).wf = true) (_ : (Lit.int .i64 c).wf = true) (_ : (Lit.int .i64 d).wf = true) (t : Int) (_ : (Lit.int .i64 t).wf = true) : ∃ k, laws_FnExactTicketOfRank.f k a b c d t = some true := by
  obtain ⟨k, hk⟩ : ∃ k : Nat, 5000 ≤ k := ⟨5000, Nat.le_refl _⟩
  refine ⟨k, ?_⟩
  unfold laws_FnExactTicketOfRank.f laws_toLottery.f
  simp only [Option.bind_some]
  unfold spec_TicketOfRank.f impl_TicketOfRank.f
  rw [isLot]
  rcases lot_cases a b c d with h | ⟨h, n, p, q, e, rfl, rfl, rfl, rfl, h1, h2, h3, h4, h5, h6, h7, h8, h9⟩
  · rw [h]; rfl
  · rw [h]
    simp only [Option.bind_some, if_true]
    by_cases ht : t < 0
    · simp [ht]
    · rw [if_neg ht, if_neg ht]
      unfold impl_allTickets.f
      rw [choose_nat n p h2 (by omega) k (by omega), sets_ev n p h2 k (by omega)]
      simp only [Option.bind_some, List.length_map, S_length n p h2]
      by_cases hge : t ≥ (binom n p : Int)
      · simp [hge]
      · rw [if_neg hge, if_neg hge]
        obtain ⟨r, rfl⟩ : ∃ r : Nat, t = r := ⟨t.toNat, by omega⟩
        have hp := pow_le h2
        obtain ⟨u, hu, hrec⟩ := ofRank_l0 p n r 0 h2 (by omega) (by simp) (by omega)
        unfold spec_l08OfRank.f
        rw [show (0 : Int) = ((0 : Nat) : Int) from rfl, hrec k (by omega), if_pos (by omega), if_pos (by omega)]
        obtain ⟨hlt, he⟩ := List.getElem?_eq_some_iff.1 hu
        rw [rd_map (S n p) r hlt, he]
        simp

end Go.Proofs.Ytklbkleibefldaa.Pure
