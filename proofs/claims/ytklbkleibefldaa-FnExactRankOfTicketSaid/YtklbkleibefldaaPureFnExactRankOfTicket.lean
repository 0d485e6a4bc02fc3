/- Ranks of tickets are told alike. For every five numbers of 64 bits. -/
import Derived.Test.YtklbkleibefldaaPFnExactRankOfTicketx0
import Derived.Test.YtklbkleibefldaaPFnExactRankOfTicketx1
import Derived.Test.YtklbkleibefldaaPFnExactRankOfTicketx2
import Derived.Test.YtklbkleibefldaaLotMath
import Derived.Test.YtklbkleibefldaaLotHit
import Derived.Test.YtklbkleibefldaaLotRank
import Derived.KernelRfl
namespace Go.Proofs.Ytklbkleibefldaa.Pure
open Go Go.RowKit Go.Proofs.Ytklbkleibefldaa.PFnExactRankOfTicket Go.Proofs.YtklbkleibefldaaW.PrintWords Go.Proofs.YtklbkleibefldaaW.PrintLast Go.Proofs.YtklbkleibefldaaW.PrintMore Go.Proofs.Ytklbkleibefldaa.LotM
set_option linter.unusedVariables false
set_option linter.unusedSimpArgs false
theorem shl_one : ∀ n, n < 13 → shl .i64 1 ((n : Nat) : Int) = ((2 ^ n : Nat) : Int) := by decide +kernel
theorem pow_le {n : Nat} (h : n ≤ 12) : 2 ^ n ≤ 4096 := Nat.pow_le_pow_right (n := 2) (by omega) h
theorem w64 {i : Int} (h0 : -9223372036854775808 ≤ i) (h : i < 9223372036854775808) : wrap64 i = i := by unfold wrap64; omega
theorem u64 {i : Int} (h0 : 0 ≤ i) (h : i < 9223372036854775808) : IntKind.u64.wrap i = i := by
  have e : IntKind.u64.wrap i = i % 18446744073709551616 := by simp [IntKind.wrap, IntKind.bits, IntKind.signed]
  rw [e]; omega
def allN (p : Nat → Bool) : Nat → Bool
  | 0 => true
  | n+1 => p n && allN p n
theorem allN_at (p : Nat → Bool) : ∀ n, allN p n = true → ∀ s, s < n → p s = true
  | 0, _, s, h => by omega
  | n+1, h, s, hs => by
    simp only [allN, Bool.and_eq_true] at h
    by_cases e : s = n
    · subst e; exact h.1
    · exact allN_at p n h.2 s (by omega)

theorem isLot (a b c d : Int) : spec_l08Is.f a b c d = impl_IsLottery.f a b c d := by
  unfold spec_l08Is.f spec_l01In.f impl_IsLottery.f mn
  repeat' split
  all_goals simp_all
  all_goals omega

/-- What a lottery's numbers are. -/
theorem lot_cases (a b c d : Int) : impl_IsLottery.f a b c d = some false ∨ (impl_IsLottery.f a b c d = some true ∧ ∃ n p q h : Nat, a = n ∧ b = p ∧ c = q ∧ d = h ∧ 1 ≤ n ∧ n ≤ 12 ∧ 1 ≤ p ∧ p ≤ n ∧ 1 ≤ q ∧ q ≤ n ∧ 1 ≤ h ∧ h ≤ p ∧ h ≤ q) := by
  by_cases hv : 1 ≤ a ∧ a ≤ 12 ∧ 1 ≤ b ∧ b ≤ a ∧ 1 ≤ c ∧ c ≤ a ∧ 1 ≤ d ∧ d ≤ b ∧ d ≤ c
  · refine .inr ⟨?_, a.toNat, b.toNat, c.toNat, d.toNat, by omega, by omega, by omega, by omega, by omega, by omega, by omega, by omega, by omega, by omega, by omega, by omega, by omega⟩
    unfold impl_IsLottery.f mn
    repeat' split
    all_goals simp_all
    all_goals omega
  · refine .inl ?_
    unfold impl_IsLottery.f mn
    repeat' split
    all_goals simp_all
    all_goals omega

/-- A set of m of n numbers. -/
def isT (n m : Nat) (s : Int) : Bool := decide (0 ≤ s) && decide (s < ((2 ^ n : Nat) : Int)) && (((pc s.toNat : Nat) : Int) == (m : Int))
theorem isT_nat {n m : Nat} {s : Int} (h : isT n m s = true) : ∃ t : Nat, s = t ∧ t < 2 ^ n ∧ pc t = m := by
  simp only [isT, Bool.and_eq_true, decide_eq_true_eq, beq_iff_eq] at h
  obtain ⟨⟨h0, h1⟩, h2⟩ := h
  refine ⟨s.toNat, by omega, by omega, by omega⟩

def okSS (s : Nat) : Bool := match spec_l08Size.f 14 (s : Int) with
  | some r => r == (pcF 12 s : Int)
  | none => false
theorem okSS_all : allN okSS 4096 = true := by kernel_rfl
theorem ssize_nat (s : Nat) (h : s < 4096) : ∀ k, 14 ≤ k → spec_l08Size.f k (s : Int) = some (pc s : Int) := by
  intro k hk
  have := allN_at okSS 4096 okSS_all s h
  unfold okSS at this
  split at this
  · rename_i r hr
    rw [beq_iff_eq.mp this] at hr
    exact at_rounds (g := fun k => spec_l08Size.f k (s : Int)) (fun k => spec_l08Size.mono _ k) hk hr
  · cases this

theorem specSet_ev (n p q h m : Nat) (s : Int) (hn1 : 1 ≤ n) (hn : n ≤ 12) (k : Nat) (hk : 14 ≤ k) : spec_l08Set.f k n p q h s m = some (isT n m s) := by
  have hp := pow_le hn
  have hp1 : 1 ≤ 2 ^ n := Nat.one_le_two_pow
  unfold spec_l08Set.f spec_l01In.f isT
  rw [u64 (by omega) (by omega), if_pos (by omega), shl_one n (by omega), w64 (by omega) (by omega)]
  generalize 2 ^ n = P at *
  by_cases h0 : 0 ≤ s
  · rw [if_pos h0]
    simp only [Option.bind_some]
    by_cases h1 : s < (P : Int)
    · have h2 : s ≤ (P : Int) - 1 := by omega
      obtain ⟨t, rfl⟩ : ∃ t : Nat, s = t := ⟨s.toNat, by omega⟩
      rw [ssize_nat t (by omega) k hk]
      simp [h1, h2]
    · have h2 : ¬ s ≤ (P : Int) - 1 := by omega
      simp [h1, h2]
  · rw [if_neg h0]; simp [h0]

theorem isSet_ev (n p q h : Nat) (s : Int) (hn : n ≤ 12) : impl_isSet.f n p q h s = some (decide (0 ≤ s) && decide (s < ((2 ^ n : Nat) : Int))) := by
  unfold impl_isSet.f
  rw [shl_one n (by omega)]
  by_cases h0 : 0 ≤ s
  · rw [if_pos h0, if_pos (by omega)]; simp [h0]
  · rw [if_neg h0]; simp [h0]

def okS (s : Nat) : Bool := match impl_size.f (s : Int) with
  | some r => r == (pcF 12 s : Int)
  | none => false
theorem okS_all : allN okS 4096 = true := by kernel_rfl
theorem size_nat (s : Nat) (h : s < 4096) : impl_size.f (s : Int) = some (pc s : Int) := by
  have := allN_at okS 4096 okS_all s h
  unfold okS at this
  split at this
  · rename_i r hr; rw [hr, beq_iff_eq.mp this]; rfl
  · cases this

theorem isTicket_ev (n p q h : Nat) (s : Int) (hn : n ≤ 12) : impl_isTicket.f n p q h s = some (isT n p s) := by
  have hp := pow_le hn
  unfold impl_isTicket.f
  rw [isSet_ev n p q h s hn]
  unfold isT
  generalize 2 ^ n = P at *
  by_cases hv : 0 ≤ s ∧ s < (P : Int)
  · obtain ⟨t, rfl⟩ : ∃ t : Nat, s = t := ⟨s.toNat, by omega⟩
    simp only [hv.1, hv.2, decide_true, Bool.and_self, Option.bind_some, if_true]
    rw [size_nat t (by omega)]; simp
  · have : (decide (0 ≤ s) && decide (s < (P : Int))) = false := by simp; omega
    rw [this]; simp

theorem sets_l (m : Nat) (N : Nat) (hN : N ≤ 4096) : ∀ d i (acc : List Int), i + d = N → acc.length ≤ i → ∀ k, d < k → impl_sets.l0 k m acc N i = some (acc ++ ((List.range' i d).filter (fun s => pc s == m)).map Int.ofNat)
  | 0, i, acc, h, ha, k, hk => by
    obtain ⟨k, rfl⟩ : ∃ q, k = q + 1 := ⟨k - 1, by omega⟩
    simp only [impl_sets.l0]; rw [if_neg (by omega)]; simp
  | d+1, i, acc, h, ha, k, hk => by
    obtain ⟨k, rfl⟩ : ∃ q, k = q + 1 := ⟨k - 1, by omega⟩
    simp only [impl_sets.l0]
    rw [if_pos (by omega), size_nat i (by omega)]
    simp only [Option.bind_some]
    rw [w64 (by omega) (by omega), show ((i : Int) + 1) = ((i + 1 : Nat) : Int) by omega]
    rw [List.range'_succ, List.filter_cons]
    by_cases e : pc i = m
    · rw [if_pos (by omega), if_pos (by omega)]
      rw [sets_l m N hN d (i+1) (acc ++ [(i : Int)]) (by omega) (by simp; omega) k (by omega)]
      simp [e]
    · rw [if_neg (by omega)]
      rw [sets_l m N hN d (i+1) acc (by omega) (by omega) k (by omega)]
      simp [e]
theorem sets_ev (n m : Nat) (hn : n ≤ 12) : ∀ k, 4096 < k → impl_sets.f k n m = some ((S n m).map Int.ofNat) := by
  intro k hk
  have hp := pow_le hn
  unfold impl_sets.f
  rw [if_pos (by omega), shl_one n (by omega)]
  rw [show (0 : Int) = ((0 : Nat) : Int) from rfl, sets_l m (2^n) hp (2^n) 0 [] (by omega) (by simp) k (by omega)]
  simp [S, List.range_eq_range']

def okC (x : Nat) : Bool := match spec_l08Choose.f 14 ((x / 16 : Nat) : Int) ((x % 16 : Nat) : Int) with
  | some r => r == (binom (x / 16) (x % 16) : Int)
  | none => false
theorem okC_all : allN okC 208 = true := by kernel_rfl
theorem choose_nat (n j : Nat) (hn : n ≤ 12) (hj : j ≤ 15) : ∀ k, 14 ≤ k → spec_l08Choose.f k n j = some (binom n j : Int) := by
  intro k hk
  have := allN_at okC 208 okC_all (16 * n + j) (by omega)
  unfold okC at this
  rw [show (16 * n + j) / 16 = n by omega, show (16 * n + j) % 16 = j by omega] at this
  split at this
  · rename_i r hr
    rw [beq_iff_eq.mp this] at hr
    exact at_rounds (g := fun k => spec_l08Choose.f k n j) (fun k => spec_l08Choose.mono _ _ k) hk hr
  · cases this

theorem w_i64 : ∀ n : Int, 0 ≤ n → n < 2 ^ 63 → IntKind.i64.wrap n = n := fun n h0 h1 => by rw [IntKind.wrap_i64]; omega
theorem band (a b : Nat) (ha : a < 4611686018427387904) (hb : b < 4611686018427387904) : Go.bits .and .i64 (a : Int) (b : Int) = ((a &&& b : Nat) : Int) :=
  (bits_nat .i64 63 (by decide) w_i64 a b (by omega) (by omega)).1
theorem bor (a b : Nat) (ha : a < 4611686018427387904) (hb : b < 4611686018427387904) : Go.bits .or .i64 (a : Int) (b : Int) = ((a ||| b : Nat) : Int) :=
  (bits_nat .i64 63 (by decide) w_i64 a b (by omega) (by omega)).2
theorem shr_nat (a i : Nat) (hi : i ≤ 64) : shr .i64 (a : Int) (i : Int) = ((a / 2 ^ i : Nat) : Int) := by
  unfold shr
  have e : min ((i : Int).toNat) IntKind.i64.bits = i := by
    have : IntKind.i64.bits = 64 := rfl
    rw [this, Int.toNat_natCast]; omega
  rw [e]; simp
theorem bit_nat (a i : Nat) (ha : a < 4611686018427387904) (hi : i ≤ 64) : Go.bits .and .i64 (shr .i64 (a : Int) (i : Int)) 1 = ((a / 2 ^ i % 2 : Nat) : Int) := by
  rw [shr_nat a i hi, show (1 : Int) = ((1 : Nat) : Int) from rfl, band _ _ (Nat.lt_of_le_of_lt (Nat.div_le_self _ _) ha) (by omega), Nat.and_one_is_mod]

theorem rk_ext (t n : Nat) (ht : t < 2 ^ n) : ∀ m, n ≤ m → rk m t = rk n t := by
  intro m hm
  induction m with
  | zero => have : n = 0 := by omega
            subst this; rfl
  | succ m ih =>
    by_cases e : n = m + 1
    · subst e; rfl
    · have h2 : t < 2 ^ m := Nat.lt_of_lt_of_le ht (Nat.pow_le_pow_right (by omega) (by omega))
      simp only [rk]; rw [if_pos h2]; exact ih (by omega)
theorem rk_lt (t : Nat) (n : Nat) (hn : n ≤ 12) (ht : t < 2 ^ n) : rk n t < binom n (pc t) := by
  have := S_rk n t hn ht
  have h := (List.getElem?_eq_some_iff.1 this).1
  rwa [S_length n _ hn] at h
theorem rk_mod_lt (n t : Nat) (hn : n ≤ 12) : rk n (t % 2 ^ n) ≤ 4096 := by
  have h1 : t % 2 ^ n < 2 ^ n := Nat.mod_lt _ (Nat.two_pow_pos n)
  have h2 := rk_lt _ n hn h1
  have h3 : binom n (pc (t % 2 ^ n)) ≤ 2 ^ n := by
    rw [← S_length n _ hn]
    have h : (S n (pc (t % 2 ^ n))).length ≤ (List.range (2^n)).length := List.length_filter_le _ _
    rwa [List.length_range] at h
  have := pow_le hn
  omega
theorem pcF_le (m : Nat) : ∀ x, pcF m x ≤ m := by
  induction m with
  | zero => intro x; simp [pcF]
  | succ m ih => intro x; simp only [pcF]; have := ih (x / 2); omega
theorem pc_le (x : Nat) : pc x ≤ 12 := pcF_le 12 x
theorem specRank_l (t : Nat) (ht : t < 4096) : ∀ d i : Nat, i + d = 12 → ∀ k, d + 16 ≤ k → spec_l08Rank.l0 k t (rk i (t % 2 ^ i)) (pc (t % 2 ^ i)) i = some (rk 12 (t % 2 ^ 12) : Int)
  | 0, i, e, k, hk => by
    obtain ⟨k, rfl⟩ : ∃ q, k = q + 1 := ⟨k - 1, by omega⟩
    obtain rfl : i = 12 := by omega
    simp only [spec_l08Rank.l0]; rw [if_neg (by omega)]
  | d+1, i, e, k, hk => by
    obtain ⟨k, rfl⟩ : ∃ q, k = q + 1 := ⟨k - 1, by omega⟩
    simp only [spec_l08Rank.l0]
    have h1 := rk_mod i t (by omega)
    have h2 := pc_mod i t (by omega)
    have h3 := rk_mod_lt i t (by omega)
    have h4 := pc_le (t % 2 ^ i)
    rw [if_pos (by omega), u64 (by omega) (by omega), if_pos (by omega), bit_nat t i (by omega) (by omega), w64 (i := (i : Int) + 1) (by omega) (by omega)]
    by_cases hb : t / 2 ^ i % 2 = 1
    · rw [if_pos (by omega), w64 (i := (pc (t % 2 ^ i) : Int) + 1) (by omega) (by omega), show ((pc (t % 2 ^ i) : Nat) : Int) + 1 = ((pc (t % 2 ^ i) + 1 : Nat) : Int) by omega]
      rw [choose_nat i (pc (t % 2 ^ i) + 1) (by omega) (by omega) k (by omega)]
      simp only [Option.bind_some]
      rw [if_pos hb] at h1 h2
      have h5 := rk_mod_lt (i+1) t (by omega)
      rw [h1] at h5
      have := specRank_l t ht d (i+1) (by omega) k (by omega)
      rw [h1, h2] at this
      rw [w64 (by omega) (by omega), show ((rk i (t % 2 ^ i) : Nat) : Int) + (binom i (pc (t % 2 ^ i) + 1) : Int) = ((binom i (pc (t % 2 ^ i) + 1) + rk i (t % 2 ^ i) : Nat) : Int) by omega, show (i : Int) + 1 = ((i + 1 : Nat) : Int) by omega]
      exact this
    · rw [if_neg (by omega)]
      rw [if_neg hb] at h1 h2
      have := specRank_l t ht d (i+1) (by omega) k (by omega)
      rw [h1, h2] at this
      rw [show (i : Int) + 1 = ((i + 1 : Nat) : Int) by omega]
      exact this
theorem specRank_ev (t : Nat) (ht : t < 4096) (k : Nat) (hk : 30 ≤ k) : spec_l08Rank.f k t = some (rk 12 t : Int) := by
  unfold spec_l08Rank.f
  have := specRank_l t ht 12 0 (by omega) k (by omega)
  rw [show t % 2 ^ 12 = t from Nat.mod_eq_of_lt ht, show t % 2 ^ 0 = 0 by omega] at this
  exact this

theorem rd_map (M : List Nat) (i : Nat) (h : i < M.length) : rd (M.map Int.ofNat) (i : Int) = (M[i] : Int) := by
  simp [rd, List.getElem?_eq_getElem h]

theorem S_lt {n m x : Nat} (hn : n ≤ 12) (h : x ∈ S n m) : x < 4096 := Nat.lt_of_lt_of_le (mem_S.1 h).1 (pow_le hn)
theorem S_len (n m : Nat) (hn : n ≤ 12) : (S n m).length ≤ 4096 := by
  have h : (S n m).length ≤ (List.range (2^n)).length := List.length_filter_le _ _
  rw [List.length_range] at h
  exact Nat.le_trans h (pow_le hn)

theorem index_l (M : List Nat) (hl : M.length ≤ 4096) (t : Nat) (r : Nat) (hr : M[r]? = some t) (hfirst : ∀ j, M[j]? = some t → j = r) : ∀ d i : Nat, i + d = r → ∀ k, d < k → slices_Index_int64_int64.l0 k (M.map Int.ofNat) t M.length i = some (r : Int)
  | 0, i, e, k, hk => by
    obtain ⟨k, rfl⟩ : ∃ q, k = q + 1 := ⟨k - 1, by omega⟩
    obtain rfl : i = r := by omega
    obtain ⟨h1, h2⟩ := List.getElem?_eq_some_iff.1 hr
    simp only [slices_Index_int64_int64.l0]
    rw [if_pos (by omega), if_pos (by omega), if_pos (by simp; omega), rd_map M i h1, h2, if_pos rfl]
  | d+1, i, e, k, hk => by
    obtain ⟨k, rfl⟩ : ∃ q, k = q + 1 := ⟨k - 1, by omega⟩
    obtain ⟨h1, h2⟩ := List.getElem?_eq_some_iff.1 hr
    have hi : i < M.length := by omega
    have hne : ¬ (t : Int) = (M[i] : Int) := by
      intro he
      have he : M[i] = t := by omega
      have := hfirst i (by rw [List.getElem?_eq_getElem hi, he])
      omega
    simp only [slices_Index_int64_int64.l0]
    rw [if_pos (by omega), if_pos (by omega), if_pos (by simp; omega), rd_map M i hi, if_neg hne, w64 (by omega) (by omega), show (i : Int) + 1 = ((i + 1 : Nat) : Int) by omega]
    exact index_l M hl t r hr hfirst d (i+1) (by omega) k (by omega)

theorem FnExactRankOfTicket (a b c d : Int) (_ : (Lit.int .i64 a).wf = true) (_ : (Lit.int .i64 b).wf = true) (_ : (Lit.int .i64 c).wf = true) (_ : (Lit.int .i64 d).wf = true) (t : Int) (_ : (Lit.int .i64 t).wf = true) : ∃ k, laws_FnExactRankOfTicket.f k a b c d t = some true := by
  obtain ⟨k, hk⟩ : ∃ k : Nat, 5000 ≤ k := ⟨5000, Nat.le_refl _⟩
  refine ⟨k, ?_⟩
  unfold laws_FnExactRankOfTicket.f laws_toLottery.f
  simp only [Option.bind_some]
  unfold spec_RankOfTicket.f impl_RankOfTicket.f impl_ticketCode.f
  rw [isLot]
  rcases lot_cases a b c d with h | ⟨h, n, p, q, e, rfl, rfl, rfl, rfl, h1, h2, h3, h4, h5, h6, h7, h8, h9⟩
  · rw [h]; rfl
  · rw [h]
    simp only [Option.bind_some, if_true]
    rw [specSet_ev n p q e p t h1 h2 k (by omega), isTicket_ev n p q e t h2]
    cases ht : isT n p t with
    | false => simp
    | true =>
      obtain ⟨t, rfl, ht1, ht2⟩ := isT_nat ht
      have hp := pow_le h2
      have hr := S_rk n t h2 ht1
      rw [ht2] at hr
      have hx : slices_Index_int64_int64.f k ((S n p).map Int.ofNat) t = some ((rk n t : Nat) : Int) := by
        have hlt := (List.getElem?_eq_some_iff.1 hr).1
        have hl := S_len n p h2
        unfold slices_Index_int64_int64.f
        rw [List.length_map]
        exact index_l (S n p) hl t (rk n t) hr (fun j hj => S_first n p j (rk n t) t hj hr) (rk n t) 0 (by omega) k (by omega)
      unfold impl_allTickets.f
      simp only [Option.bind_some, if_true]
      rw [sets_ev n p h2 k (by omega), specRank_ev t (by omega) k (by omega), rk_ext t n ht1 12 h2]
      simp only [Option.bind_some, hx, if_true]

end Go.Proofs.Ytklbkleibefldaa.Pure
