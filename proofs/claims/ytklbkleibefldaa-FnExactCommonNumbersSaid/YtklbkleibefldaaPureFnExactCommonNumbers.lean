/- Numbers in common are counted alike. For every six numbers of 64 bits. -/
import Derived.Test.YtklbkleibefldaaPFnExactCommonNumbersx0
import Derived.Test.YtklbkleibefldaaPFnExactCommonNumbersx1
import Derived.Test.YtklbkleibefldaaPFnExactCommonNumbersx2
import Derived.Test.YtklbkleibefldaaLotMath
import Derived.Test.YtklbkleibefldaaLotHit
import Derived.Test.YtklbkleibefldaaLotRank
import Derived.KernelRfl
namespace Go.Proofs.Ytklbkleibefldaa.Pure
open Go Go.RowKit Go.Proofs.Ytklbkleibefldaa.PFnExactCommonNumbers Go.Proofs.YtklbkleibefldaaW.PrintWords Go.Proofs.YtklbkleibefldaaW.PrintLast Go.Proofs.YtklbkleibefldaaW.PrintMore Go.Proofs.Ytklbkleibefldaa.LotM
set_option linter.unusedVariables false
set_option linter.unusedSimpArgs false
theorem shl_one : ∀ n, n < 13 → shl .i64 1 ((n : Nat) : Int) = ((2 ^ n : Nat) : Int) := by decide +kernel
theorem pow_le {n : Nat} (h : n ≤ 12) : 2 ^ n ≤ 4096 := Nat.pow_le_pow_right (n := 2) (by omega) h
theorem w64 {i : Int} (h0 : -9223372036854775808 ≤ i) (h : i < 9223372036854775808) : wrap64 i = i := by unfold wrap64; omega
theorem u64 {i : Int} (h0 : 0 ≤ i) (h : i < 9223372036854775808) : IntKind.u64.wrap i = i := by
  have e : IntKind.u64.wrap i = i % 18446744073709551616 := by simp [IntKind.wrap, IntKind.bits, IntKind.signed]
  rw [e]; omega
def allN (p : Nat → Bool) : Nat → Bool
  | 0 => true
  | n+1 => p n && allN p n
theorem allN_at (p : Nat → Bool) : ∀ n, allN p n = true → ∀ s, s < n → p s = true
  | 0, _, s, h => by omega
  | n+1, h, s, hs => by
    simp only [allN, Bool.and_eq_true] at h
    by_cases e : s = n
    · subst e; exact h.1
    · exact allN_at p n h.2 s (by omega)

theorem isLot (a b c d : Int) : spec_l08Is.f a b c d = impl_IsLottery.f a b c d := by
  unfold spec_l08Is.f spec_l01In.f impl_IsLottery.f mn
  repeat' split
  all_goals simp_all
  all_goals omega

/-- What a lottery's numbers are. -/
theorem lot_cases (a b c d : Int) : impl_IsLottery.f a b c d = some false ∨ (impl_IsLottery.f a b c d = some true ∧ ∃ n p q h : Nat, a = n ∧ b = p ∧ c = q ∧ d = h ∧ 1 ≤ n ∧ n ≤ 12 ∧ 1 ≤ p ∧ p ≤ n ∧ 1 ≤ q ∧ q ≤ n ∧ 1 ≤ h ∧ h ≤ p ∧ h ≤ q) := by
  by_cases hv : 1 ≤ a ∧ a ≤ 12 ∧ 1 ≤ b ∧ b ≤ a ∧ 1 ≤ c ∧ c ≤ a ∧ 1 ≤ d ∧ d ≤ b ∧ d ≤ c
  · refine .inr ⟨?_, a.toNat, b.toNat, c.toNat, d.toNat, by omega, by omega, by omega, by omega, by omega, by omega, by omega, by omega, by omega, by omega, by omega, by omega, by omega⟩
    unfold impl_IsLottery.f mn
    repeat' split
    all_goals simp_all
    all_goals omega
  · refine .inl ?_
    unfold impl_IsLottery.f mn
    repeat' split
    all_goals simp_all
    all_goals omega

/-- A set of m of n numbers. -/
def isT (n m : Nat) (s : Int) : Bool := decide (0 ≤ s) && decide (s < ((2 ^ n : Nat) : Int)) && (((pc s.toNat : Nat) : Int) == (m : Int))
theorem isT_nat {n m : Nat} {s : Int} (h : isT n m s = true) : ∃ t : Nat, s = t ∧ t < 2 ^ n ∧ pc t = m := by
  simp only [isT, Bool.and_eq_true, decide_eq_true_eq, beq_iff_eq] at h
  obtain ⟨⟨h0, h1⟩, h2⟩ := h
  refine ⟨s.toNat, by omega, by omega, by omega⟩

def okSS (s : Nat) : Bool := match spec_l08Size.f 14 (s : Int) with
  | some r => r == (pcF 12 s : Int)
  | none => false
theorem okSS_all : allN okSS 4096 = true := by kernel_rfl
theorem ssize_nat (s : Nat) (h : s < 4096) : ∀ k, 14 ≤ k → spec_l08Size.f k (s : Int) = some (pc s : Int) := by
  intro k hk
  have := allN_at okSS 4096 okSS_all s h
  unfold okSS at this
  split at this
  · rename_i r hr
    rw [beq_iff_eq.mp this] at hr
    exact at_rounds (g := fun k => spec_l08Size.f k (s : Int)) (fun k => spec_l08Size.mono _ k) hk hr
  · cases this

theorem specSet_ev (n p q h m : Nat) (s : Int) (hn1 : 1 ≤ n) (hn : n ≤ 12) (k : Nat) (hk : 14 ≤ k) : spec_l08Set.f k n p q h s m = some (isT n m s) := by
  have hp := pow_le hn
  have hp1 : 1 ≤ 2 ^ n := Nat.one_le_two_pow
  unfold spec_l08Set.f spec_l01In.f isT
  rw [u64 (by omega) (by omega), if_pos (by omega), shl_one n (by omega), w64 (by omega) (by omega)]
  generalize 2 ^ n = P at *
  by_cases h0 : 0 ≤ s
  · rw [if_pos h0]
    simp only [Option.bind_some]
    by_cases h1 : s < (P : Int)
    · have h2 : s ≤ (P : Int) - 1 := by omega
      obtain ⟨t, rfl⟩ : ∃ t : Nat, s = t := ⟨s.toNat, by omega⟩
      rw [ssize_nat t (by omega) k hk]
      simp [h1, h2]
    · have h2 : ¬ s ≤ (P : Int) - 1 := by omega
      simp [h1, h2]
  · rw [if_neg h0]; simp [h0]

theorem isSet_ev (n p q h : Nat) (s : Int) (hn : n ≤ 12) : impl_isSet.f n p q h s = some (decide (0 ≤ s) && decide (s < ((2 ^ n : Nat) : Int))) := by
  unfold impl_isSet.f
  rw [shl_one n (by omega)]
  by_cases h0 : 0 ≤ s
  · rw [if_pos h0, if_pos (by omega)]; simp [h0]
  · rw [if_neg h0]; simp [h0]

def okS (s : Nat) : Bool := match impl_size.f (s : Int) with
  | some r => r == (pcF 12 s : Int)
  | none => false
theorem okS_all : allN okS 4096 = true := by kernel_rfl
theorem size_nat (s : Nat) (h : s < 4096) : impl_size.f (s : Int) = some (pc s : Int) := by
  have := allN_at okS 4096 okS_all s h
  unfold okS at this
  split at this
  · rename_i r hr; rw [hr, beq_iff_eq.mp this]; rfl
  · cases this

theorem isTicket_ev (n p q h : Nat) (s : Int) (hn : n ≤ 12) : impl_isTicket.f n p q h s = some (isT n p s) := by
  have hp := pow_le hn
  unfold impl_isTicket.f
  rw [isSet_ev n p q h s hn]
  unfold isT
  generalize 2 ^ n = P at *
  by_cases hv : 0 ≤ s ∧ s < (P : Int)
  · obtain ⟨t, rfl⟩ : ∃ t : Nat, s = t := ⟨s.toNat, by omega⟩
    simp only [hv.1, hv.2, decide_true, Bool.and_self, Option.bind_some, if_true]
    rw [size_nat t (by omega)]; simp
  · have : (decide (0 ≤ s) && decide (s < (P : Int))) = false := by simp; omega
    rw [this]; simp

theorem isDraw_ev (n p q h : Nat) (s : Int) (hn : n ≤ 12) : impl_isDraw.f n p q h s = some (isT n q s) := by
  have hp := pow_le hn
  unfold impl_isDraw.f
  rw [isSet_ev n p q h s hn]
  unfold isT
  generalize 2 ^ n = P at *
  by_cases hv : 0 ≤ s ∧ s < (P : Int)
  · obtain ⟨t, rfl⟩ : ∃ t : Nat, s = t := ⟨s.toNat, by omega⟩
    simp only [hv.1, hv.2, decide_true, Bool.and_self, Option.bind_some, if_true]
    rw [size_nat t (by omega)]; simp
  · have : (decide (0 ≤ s) && decide (s < (P : Int))) = false := by simp; omega
    rw [this]; simp

theorem w_i64 : ∀ n : Int, 0 ≤ n → n < 2 ^ 63 → IntKind.i64.wrap n = n := fun n h0 h1 => by rw [IntKind.wrap_i64]; omega
theorem band (a b : Nat) (ha : a < 4611686018427387904) (hb : b < 4611686018427387904) : Go.bits .and .i64 (a : Int) (b : Int) = ((a &&& b : Nat) : Int) :=
  (bits_nat .i64 63 (by decide) w_i64 a b (by omega) (by omega)).1
theorem bor (a b : Nat) (ha : a < 4611686018427387904) (hb : b < 4611686018427387904) : Go.bits .or .i64 (a : Int) (b : Int) = ((a ||| b : Nat) : Int) :=
  (bits_nat .i64 63 (by decide) w_i64 a b (by omega) (by omega)).2
theorem shr_nat (a i : Nat) (hi : i ≤ 64) : shr .i64 (a : Int) (i : Int) = ((a / 2 ^ i : Nat) : Int) := by
  unfold shr
  have e : min ((i : Int).toNat) IntKind.i64.bits = i := by
    have : IntKind.i64.bits = 64 := rfl
    rw [this, Int.toNat_natCast]; omega
  rw [e]; simp
theorem bit_nat (a i : Nat) (ha : a < 4611686018427387904) (hi : i ≤ 64) : Go.bits .and .i64 (shr .i64 (a : Int) (i : Int)) 1 = ((a / 2 ^ i % 2 : Nat) : Int) := by
  rw [shr_nat a i hi, show (1 : Int) = ((1 : Nat) : Int) from rfl, band _ _ (Nat.lt_of_le_of_lt (Nat.div_le_self _ _) ha) (by omega), Nat.and_one_is_mod]

theorem FnExactCommonNumbers (a b c d : Int) (_ : (Lit.int .i64 a).wf = true) (_ : (Lit.int .i64 b).wf = true) (_ : (Lit.int .i64 c).wf = true) (_ : (Lit.int .i64 d).wf = true) (t : Int) (_ : (Lit.int .i64 t).wf = true) (u : Int) (_ : (Lit.int .i64 u).wf = true) : ∃ k, laws_FnExactCommonNumbers.f k a b c d t u = some true := by
  obtain ⟨k, hk⟩ : ∃ k : Nat, 20 ≤ k := ⟨20, Nat.le_refl _⟩
  refine ⟨k, ?_⟩
  unfold laws_FnExactCommonNumbers.f laws_toLottery.f
  simp only [Option.bind_some]
  unfold spec_CommonNumbers.f impl_CommonNumbers.f spec_l08Code.f impl_ticketCode.f
  rw [isLot]
  rcases lot_cases a b c d with h | ⟨h, n, p, q, e, rfl, rfl, rfl, rfl, h1, h2, h3, h4, h5, h6, h7, h8, h9⟩
  · rw [h]; rfl
  · rw [h]
    simp only [Option.bind_some, if_true]
    rw [specSet_ev n p q e p t h1 h2 k (by omega), specSet_ev n p q e q u h1 h2 k (by omega), isTicket_ev n p q e t h2, isDraw_ev n p q e u h2]
    cases ht : isT n p t with
    | false => simp
    | true =>
      cases hu : isT n q u with
      | false => simp
      | true =>
        obtain ⟨t, rfl, ht1, ht2⟩ := isT_nat ht
        obtain ⟨u, rfl, hu1, hu2⟩ := isT_nat hu
        have hp := pow_le h2
        have hl := land_lt n t u ht1
        simp only [Option.bind_some, if_true]
        rw [band t u (by omega) (by omega), ssize_nat _ (by omega) k (by omega), size_nat _ (by omega)]
        simp

end Go.Proofs.Ytklbkleibefldaa.Pure
