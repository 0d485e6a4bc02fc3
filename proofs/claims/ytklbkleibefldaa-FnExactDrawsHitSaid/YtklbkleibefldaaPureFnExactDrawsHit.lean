/- The draws that a ticket hits are as many as the sum of products tells. For every four numbers of 64 bits. -/
import Derived.Test.YtklbkleibefldaaPFnExactDrawsHitx0
import Derived.Test.YtklbkleibefldaaPFnExactDrawsHitx1
import Derived.Test.YtklbkleibefldaaPFnExactDrawsHitx2
import Derived.Test.YtklbkleibefldaaLotMath
import Derived.Test.YtklbkleibefldaaLotHit
import Derived.Test.YtklbkleibefldaaLotRank
import Derived.KernelRfl
namespace Go.Proofs.Ytklbkleibefldaa.Pure
open Go Go.RowKit Go.Proofs.Ytklbkleibefldaa.PFnExactDrawsHit Go.Proofs.YtklbkleibefldaaW.PrintWords Go.Proofs.YtklbkleibefldaaW.PrintLast Go.Proofs.YtklbkleibefldaaW.PrintMore Go.Proofs.Ytklbkleibefldaa.LotM
set_option linter.unusedVariables false
set_option linter.unusedSimpArgs false
theorem shl_one : ∀ n, n < 13 → shl .i64 1 ((n : Nat) : Int) = ((2 ^ n : Nat) : Int) := by decide +kernel
theorem pow_le {n : Nat} (h : n ≤ 12) : 2 ^ n ≤ 4096 := Nat.pow_le_pow_right (n := 2) (by omega) h
theorem w64 {i : Int} (h0 : -9223372036854775808 ≤ i) (h : i < 9223372036854775808) : wrap64 i = i := by unfold wrap64; omega
theorem u64 {i : Int} (h0 : 0 ≤ i) (h : i < 9223372036854775808) : IntKind.u64.wrap i = i := by
  have e : IntKind.u64.wrap i = i % 18446744073709551616 := by simp [IntKind.wrap, IntKind.bits, IntKind.signed]
  rw [e]; omega
def allN (p : Nat → Bool) : Nat → Bool
  | 0 => true
  | n+1 => p n && allN p n
theorem allN_at (p : Nat → Bool) : ∀ n, allN p n = true → ∀ s, s < n → p s = true
  | 0, _, s, h => by omega
  | n+1, h, s, hs => by
    simp only [allN, Bool.and_eq_true] at h
    by_cases e : s = n
    · subst e; exact h.1
    · exact allN_at p n h.2 s (by omega)

theorem isLot (a b c d : Int) : spec_l08Is.f a b c d = impl_IsLottery.f a b c d := by
  unfold spec_l08Is.f spec_l01In.f impl_IsLottery.f mn
  repeat' split
  all_goals simp_all
  all_goals omega

/-- What a lottery's numbers are. -/
theorem lot_cases (a b c d : Int) : impl_IsLottery.f a b c d = some false ∨ (impl_IsLottery.f a b c d = some true ∧ ∃ n p q h : Nat, a = n ∧ b = p ∧ c = q ∧ d = h ∧ 1 ≤ n ∧ n ≤ 12 ∧ 1 ≤ p ∧ p ≤ n ∧ 1 ≤ q ∧ q ≤ n ∧ 1 ≤ h ∧ h ≤ p ∧ h ≤ q) := by
  by_cases hv : 1 ≤ a ∧ a ≤ 12 ∧ 1 ≤ b ∧ b ≤ a ∧ 1 ≤ c ∧ c ≤ a ∧ 1 ≤ d ∧ d ≤ b ∧ d ≤ c
  · refine .inr ⟨?_, a.toNat, b.toNat, c.toNat, d.toNat, by omega, by omega, by omega, by omega, by omega, by omega, by omega, by omega, by omega, by omega, by omega, by omega, by omega⟩
    unfold impl_IsLottery.f mn
    repeat' split
    all_goals simp_all
    all_goals omega
  · refine .inl ?_
    unfold impl_IsLottery.f mn
    repeat' split
    all_goals simp_all
    all_goals omega

def okS (s : Nat) : Bool := match impl_size.f (s : Int) with
  | some r => r == (pcF 12 s : Int)
  | none => false
theorem okS_all : allN okS 4096 = true := by kernel_rfl
theorem size_nat (s : Nat) (h : s < 4096) : impl_size.f (s : Int) = some (pc s : Int) := by
  have := allN_at okS 4096 okS_all s h
  unfold okS at this
  split at this
  · rename_i r hr; rw [hr, beq_iff_eq.mp this]; rfl
  · cases this

theorem sets_l (m : Nat) (N : Nat) (hN : N ≤ 4096) : ∀ d i (acc : List Int), i + d = N → acc.length ≤ i → ∀ k, d < k → impl_sets.l0 k m acc N i = some (acc ++ ((List.range' i d).filter (fun s => pc s == m)).map Int.ofNat)
  | 0, i, acc, h, ha, k, hk => by
    obtain ⟨k, rfl⟩ : ∃ q, k = q + 1 := ⟨k - 1, by omega⟩
    simp only [impl_sets.l0]; rw [if_neg (by omega)]; simp
  | d+1, i, acc, h, ha, k, hk => by
    obtain ⟨k, rfl⟩ : ∃ q, k = q + 1 := ⟨k - 1, by omega⟩
    simp only [impl_sets.l0]
    rw [if_pos (by omega), size_nat i (by omega)]
    simp only [Option.bind_some]
    rw [w64 (by omega) (by omega), show ((i : Int) + 1) = ((i + 1 : Nat) : Int) by omega]
    rw [List.range'_succ, List.filter_cons]
    by_cases e : pc i = m
    · rw [if_pos (by omega), if_pos (by omega)]
      rw [sets_l m N hN d (i+1) (acc ++ [(i : Int)]) (by omega) (by simp; omega) k (by omega)]
      simp [e]
    · rw [if_neg (by omega)]
      rw [sets_l m N hN d (i+1) acc (by omega) (by omega) k (by omega)]
      simp [e]
theorem sets_ev (n m : Nat) (hn : n ≤ 12) : ∀ k, 4096 < k → impl_sets.f k n m = some ((S n m).map Int.ofNat) := by
  intro k hk
  have hp := pow_le hn
  unfold impl_sets.f
  rw [if_pos (by omega), shl_one n (by omega)]
  rw [show (0 : Int) = ((0 : Nat) : Int) from rfl, sets_l m (2^n) hp (2^n) 0 [] (by omega) (by simp) k (by omega)]
  simp [S, List.range_eq_range']

theorem w_i64 : ∀ n : Int, 0 ≤ n → n < 2 ^ 63 → IntKind.i64.wrap n = n := fun n h0 h1 => by rw [IntKind.wrap_i64]; omega
theorem band (a b : Nat) (ha : a < 4611686018427387904) (hb : b < 4611686018427387904) : Go.bits .and .i64 (a : Int) (b : Int) = ((a &&& b : Nat) : Int) :=
  (bits_nat .i64 63 (by decide) w_i64 a b (by omega) (by omega)).1
theorem bor (a b : Nat) (ha : a < 4611686018427387904) (hb : b < 4611686018427387904) : Go.bits .or .i64 (a : Int) (b : Int) = ((a ||| b : Nat) : Int) :=
  (bits_nat .i64 63 (by decide) w_i64 a b (by omega) (by omega)).2
theorem shr_nat (a i : Nat) (hi : i ≤ 64) : shr .i64 (a : Int) (i : Int) = ((a / 2 ^ i : Nat) : Int) := by
  unfold shr
  have e : min ((i : Int).toNat) IntKind.i64.bits = i := by
    have : IntKind.i64.bits = 64 := rfl
    rw [this, Int.toNat_natCast]; omega
  rw [e]; simp
theorem bit_nat (a i : Nat) (ha : a < 4611686018427387904) (hi : i ≤ 64) : Go.bits .and .i64 (shr .i64 (a : Int) (i : Int)) 1 = ((a / 2 ^ i % 2 : Nat) : Int) := by
  rw [shr_nat a i hi, show (1 : Int) = ((1 : Nat) : Int) from rfl, band _ _ (Nat.lt_of_le_of_lt (Nat.div_le_self _ _) ha) (by omega), Nat.and_one_is_mod]

theorem hits_ev (n p q h t u : Nat) (ht : t < 4096) (hu : u < 4096) : impl_hits.f n p q h t u = some (decide (h ≤ pc (t &&& u))) := by
  have hl := land_lt 12 t u (by omega)
  unfold impl_hits.f
  rw [band t u (by omega) (by omega), size_nat _ (by omega)]
  simp
theorem rd_map (M : List Nat) (i : Nat) (h : i < M.length) : rd (M.map Int.ofNat) (i : Int) = (M[i] : Int) := by
  simp [rd, List.getElem?_eq_getElem h]
theorem pc_ones : ∀ p, p < 13 → pc (2 ^ p - 1) = p := by decide +kernel

theorem drawsHit_l (n p q h : Nat) (hp : p ≤ 12) (M : List Nat) (hM : ∀ x ∈ M, x < 4096) (hl : M.length ≤ 4096) : ∀ d i cnt : Nat, i + d = M.length → cnt ≤ i → ∀ k, d < k → impl_drawsHit.l0 k cnt (M.map Int.ofNat) M.length i n p q h = some ((cnt + ((M.drop i).filter (fun x => decide (h ≤ pc ((2 ^ p - 1) &&& x)))).length : Nat) : Int)
  | 0, i, cnt, e, hc, k, hk => by
    obtain ⟨k, rfl⟩ : ∃ q, k = q + 1 := ⟨k - 1, by omega⟩
    simp only [impl_drawsHit.l0]; rw [if_neg (by omega), List.drop_eq_nil_of_le (by omega)]; simp
  | d+1, i, cnt, e, hc, k, hk => by
    obtain ⟨k, rfl⟩ : ∃ q, k = q + 1 := ⟨k - 1, by omega⟩
    have hi : i < M.length := by omega
    have hpp := pow_le hp
    have hp1 : 1 ≤ 2 ^ p := Nat.one_le_two_pow
    simp only [impl_drawsHit.l0]
    rw [if_pos (by omega), if_pos (by omega), if_pos (by simp; omega), if_pos (by omega), rd_map M i hi, shl_one p (by omega), w64 (by omega) (by omega), show ((2 ^ p : Nat) : Int) - 1 = ((2 ^ p - 1 : Nat) : Int) by omega, hits_ev n p q h _ _ (by omega) (hM _ (List.getElem_mem hi))]
    simp only [Option.bind_some]
    rw [w64 (by omega) (by omega), w64 (by omega) (by omega), show ((i : Int) + 1) = ((i + 1 : Nat) : Int) by omega, show ((cnt : Int) + 1) = ((cnt + 1 : Nat) : Int) by omega, List.drop_eq_getElem_cons hi, List.filter_cons]
    by_cases hh : h ≤ pc ((2 ^ p - 1) &&& M[i])
    · rw [if_pos (by simpa using hh), if_pos (by simpa using hh), drawsHit_l n p q h hp M hM hl d (i+1) (cnt+1) (by omega) (by omega) k (by omega)]
      simp only [List.length_cons]; congr 1; omega
    · rw [if_neg (by simpa using hh), if_neg (by simpa using hh), drawsHit_l n p q h hp M hM hl d (i+1) cnt (by omega) (by omega) k (by omega)]
theorem S_lt {n m x : Nat} (hn : n ≤ 12) (h : x ∈ S n m) : x < 4096 := Nat.lt_of_lt_of_le (mem_S.1 h).1 (pow_le hn)
theorem S_len (n m : Nat) (hn : n ≤ 12) : (S n m).length ≤ 4096 := by
  have h : (S n m).length ≤ (List.range (2^n)).length := List.length_filter_le _ _
  rw [List.length_range] at h
  exact Nat.le_trans h (pow_le hn)
theorem drawsHit_ev (n p q h : Nat) (hn : n ≤ 12) (hp : p ≤ n) (k : Nat) (hk : 5000 ≤ k) : impl_drawsHit.f k n p q h = some (hitF p (n - p) q h : Int) := by
  unfold impl_drawsHit.f impl_allDraws.f
  rw [sets_ev n q hn k (by omega)]
  simp only [Option.bind_some, List.length_map]
  have hl := S_len n q hn
  have := drawsHit_l n p q h (by omega) (S n q) (fun x hx => S_lt hn hx) hl (S n q).length 0 0 (by omega) (by omega) k (by omega)
  have h1 : (2 ^ p - 1) < 2 ^ n := by
    have := Nat.pow_le_pow_right (n := 2) (by omega) hp
    have : 1 ≤ 2 ^ p := Nat.one_le_two_pow
    omega
  have h2 := (hitL_length n (2 ^ p - 1) q h hn h1).1
  rw [pc_ones p (by omega)] at h2
  unfold hitL at h2
  rw [List.drop_zero, h2] at this
  simpa using this

def okC (x : Nat) : Bool := match spec_l08Choose.f 14 ((x / 16 : Nat) : Int) ((x % 16 : Nat) : Int) with
  | some r => r == (binom (x / 16) (x % 16) : Int)
  | none => false
theorem okC_all : allN okC 208 = true := by kernel_rfl
theorem choose_nat (n j : Nat) (hn : n ≤ 12) (hj : j ≤ 15) : ∀ k, 14 ≤ k → spec_l08Choose.f k n j = some (binom n j : Int) := by
  intro k hk
  have := allN_at okC 208 okC_all (16 * n + j) (by omega)
  unfold okC at this
  rw [show (16 * n + j) / 16 = n by omega, show (16 * n + j) % 16 = j by omega] at this
  split at this
  · rename_i r hr
    rw [beq_iff_eq.mp this] at hr
    exact at_rounds (g := fun k => spec_l08Choose.f k n j) (fun k => spec_l08Choose.mono _ _ k) hk hr
  · cases this

theorem choose_neg (n : Int) (j : Int) (hj : j < 0) (k : Nat) (hk : 1 ≤ k) : spec_l08Choose.f k n j = some 0 := by
  obtain ⟨k, rfl⟩ : ∃ q, k = q + 1 := ⟨k - 1, by omega⟩
  unfold spec_l08Choose.f
  rw [if_pos hj]
  simp [spec_l08Choose.j0]
theorem binom_le (n : Nat) : ∀ k, binom n k ≤ 2 ^ n := by
  induction n with
  | zero => intro k; cases k <;> simp [binom]
  | succ n ih =>
    intro k
    have hp : 2 ^ (n+1) = 2 ^ n + 2 ^ n := by rw [Nat.pow_succ]; omega
    cases k with
    | zero => simp only [binom]; exact Nat.one_le_two_pow
    | succ k => simp only [binom]; have := ih k; have := ih (k+1); omega
theorem binom_pos (n : Nat) : ∀ k, k ≤ n → 0 < binom n k := by
  induction n with
  | zero => intro k h; have : k = 0 := by omega
            subst this; decide
  | succ n ih =>
    intro k h
    cases k with
    | zero => simp [binom]
    | succ k => simp only [binom]; have := ih k (by omega); omega
theorem term_le (p q dr h j : Nat) (hp : p ≤ 12) (hq : q ≤ 12) : term p q dr h j ≤ 16777216 := by
  unfold term
  split
  · have h1 := binom_le p j
    have h2 := binom_le q (dr - j)
    have h3 := pow_le hp
    have h4 := pow_le hq
    show binom p j * binom q (dr - j) ≤ 4096 * 4096
    exact Nat.mul_le_mul (by omega) (by omega)
  · omega
theorem sumTo_le (f : Nat → Nat) (B : Nat) (hf : ∀ j, f j ≤ B) : ∀ n, sumTo f n ≤ n * B
  | 0 => by simp [sumTo]
  | n+1 => by
    have := sumTo_le f B hf n
    have := hf n
    simp only [sumTo]; rw [Nat.succ_mul]; omega
theorem sumTo_zero (f : Nat → Nat) : ∀ n, (∀ j, j < n → f j = 0) → sumTo f n = 0
  | 0, _ => rfl
  | n+1, h => by simp only [sumTo]; rw [sumTo_zero f n (fun j hj => h j (by omega)), h n (by omega)]
theorem sumTo_pos (f : Nat → Nat) : ∀ n j, j < n → 0 < f j → 0 < sumTo f n
  | 0, j, h, _ => by omega
  | n+1, j, h, hf => by
    simp only [sumTo]
    by_cases e : j = n
    · subst e; omega
    · have := sumTo_pos f n j (by omega) hf; omega
theorem hitF_pos (n p q h : Nat) (hp : p ≤ n) (hq : q ≤ n) (h1 : h ≤ p) (h2 : h ≤ q) : 0 < hitF p (n - p) q h := by
  unfold hitF
  refine sumTo_pos _ _ (min p q) (by omega) ?_
  unfold term
  rw [if_pos (by omega)]
  exact Nat.mul_pos (binom_pos _ _ (by omega)) (binom_pos _ _ (by omega))

theorem specHit_l (n p q h : Nat) (hn : n ≤ 12) (hp : p ≤ n) (hq : q ≤ n) : ∀ d j : Nat, j + d = p + 1 → h ≤ j → ∀ k, d + 15 ≤ k → spec_l08Hit.l0 k (sumTo (term p (n - p) q h) j : Int) j n p q h = some (hitF p (n - p) q h : Int)
  | 0, j, e, hj, k, hk => by
    obtain ⟨k, rfl⟩ : ∃ q, k = q + 1 := ⟨k - 1, by omega⟩
    simp only [spec_l08Hit.l0]; rw [if_neg (by omega)]
    have : j = p + 1 := by omega
    subst this; rfl
  | d+1, j, e, hj, k, hk => by
    obtain ⟨k, rfl⟩ : ∃ q, k = q + 1 := ⟨k - 1, by omega⟩
    simp only [spec_l08Hit.l0]
    have hs := sumTo_le (term p (n - p) q h) 16777216 (fun j => term_le p (n - p) q h j (by omega) (by omega)) j
    have hs2 : sumTo (term p (n - p) q h) j ≤ 218103808 := by omega
    have ht := term_le p (n - p) q h j (by omega) (by omega)
    rw [if_pos (by omega), choose_nat p j (by omega) (by omega) k (by omega), w64 (i := (n : Int) - p) (by omega) (by omega), w64 (i := (q : Int) - j) (by omega) (by omega), show (n : Int) - p = ((n - p : Nat) : Int) by omega]
    simp only [Option.bind_some]
    have key : (spec_l08Choose.f k ((n - p : Nat) : Int) ((q : Int) - j)).bind (fun t111 => spec_l08Hit.l0 k (wrap64 ((sumTo (term p (n - p) q h) j : Int) + wrap64 ((binom p j : Int) * t111))) (wrap64 ((j : Int) + 1)) n p q h) = spec_l08Hit.l0 k (sumTo (term p (n - p) q h) (j + 1) : Int) ((j + 1 : Nat) : Int) n p q h := by
      by_cases hjq : j ≤ q
      · rw [show (q : Int) - j = ((q - j : Nat) : Int) by omega, choose_nat (n - p) (q - j) (by omega) (by omega) k (by omega)]
        simp only [Option.bind_some]
        have hterm : term p (n - p) q h j = binom p j * binom (n - p) (q - j) := by unfold term; rw [if_pos (by omega)]
        rw [show ((binom p j : Int) * (binom (n - p) (q - j) : Int)) = ((term p (n - p) q h j : Nat) : Int) by rw [hterm]; simp]
        rw [w64 (i := ((term p (n - p) q h j : Nat) : Int)) (by omega) (by omega), w64 (by omega) (by omega), w64 (by omega) (by omega)]
        rw [show ((sumTo (term p (n - p) q h) j : Int) + (term p (n - p) q h j : Int)) = ((sumTo (term p (n - p) q h) (j + 1) : Nat) : Int) by simp [sumTo]]
        rfl
      · rw [choose_neg _ _ (by omega) k (by omega)]
        simp only [Option.bind_some, Int.mul_zero]
        have hterm : term p (n - p) q h j = 0 := by unfold term; rw [if_neg (by omega)]
        rw [w64 (i := 0) (by omega) (by omega), w64 (by omega) (by omega), w64 (by omega) (by omega)]
        rw [show ((sumTo (term p (n - p) q h) j : Int) + 0) = ((sumTo (term p (n - p) q h) (j + 1) : Nat) : Int) by simp [sumTo, hterm]]
        rfl
    rw [key]
    exact specHit_l n p q h hn hp hq d (j+1) (by omega) (by omega) k (by omega)
theorem specHit_ev (n p q h : Nat) (hn : n ≤ 12) (hp : p ≤ n) (hq : q ≤ n) (hh : h ≤ p) (k : Nat) (hk : 40 ≤ k) : spec_l08Hit.f k n p q h = some (hitF p (n - p) q h : Int) := by
  unfold spec_l08Hit.f
  have hz : sumTo (term p (n - p) q h) h = 0 := sumTo_zero _ _ (fun j hj => by unfold term; rw [if_neg (by omega)])
  have := specHit_l n p q h hn hp hq (p + 1 - h) h (by omega) (by omega) k (by omega)
  rw [hz] at this
  exact this

theorem FnExactDrawsHit (a b c d : Int) (_ : (Lit.int .i64 a).wf = true) (_ : (Lit.int .i64 b).wf = true) (_ : (Lit.int .i64 c).wf = true) (_ : (Lit.int .i64 d).wf = true) : ∃ k, laws_FnExactDrawsHit.f k a b c d = some true := by
  obtain ⟨k, hk⟩ : ∃ k : Nat, 5000 ≤ k := ⟨5000, Nat.le_refl _⟩
  refine ⟨k, ?_⟩
  unfold laws_FnExactDrawsHit.f laws_toLottery.f
  simp only [Option.bind_some]
  unfold spec_DrawsHit.f impl_DrawsHit.f
  rw [isLot]
  rcases lot_cases a b c d with h | ⟨h, n, p, q, e, rfl, rfl, rfl, rfl, h1, h2, h3, h4, h5, h6, h7, h8, h9⟩
  · rw [h]; rfl
  · rw [h]
    simp only [Option.bind_some, if_true]
    rw [specHit_ev n p q e h2 h4 h6 h8 k (by omega), drawsHit_ev n p q e h2 h4 k (by omega)]
    simp

end Go.Proofs.Ytklbkleibefldaa.Pure
