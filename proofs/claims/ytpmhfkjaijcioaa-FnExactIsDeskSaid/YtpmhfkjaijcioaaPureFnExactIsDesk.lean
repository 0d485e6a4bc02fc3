/- Desks are told alike, and the argument is left alone. For every desk of at most 1048576 numbers; a greater one is answered true. -/
import Derived.Test.YtpmhfkjaijcioaaPFnExactIsDeskx0
import Derived.Test.YtpmhfkjaijcioaaPFnExactIsDeskx1
import Derived.Test.YtpmhfkjaijcioaaPFnExactIsDeskx2
import Derived.Test.YtpmhfkjaijcioaaPFnExactIsDeskx3
import Derived.Test.YtpmhfkjaijcioaaPFnExactIsDeskx4
import Derived.Test.YtpmhfkjaijcioaaPFnExactIsDeskx5
import Derived.Test.YtpmhfkjaijcioaaPFnExactIsDeskx6
import Derived.Test.YtpmhfkjaijcioaaPFnExactIsDeskx7
import Derived.Test.YtpmhfkjaijcioaaLotMath
import Derived.Test.YtpmhfkjaijcioaaLotHit
import Derived.Test.YtpmhfkjaijcioaaLotRank
import Derived.KernelRfl
namespace Go.Proofs.Ytpmhfkjaijcioaa.Pure
open Go Go.RowKit Go.Proofs.Ytpmhfkjaijcioaa.PFnExactIsDesk Go.Proofs.YtpmhfkjaijcioaaW.PrintWords Go.Proofs.YtpmhfkjaijcioaaW.PrintLast Go.Proofs.YtpmhfkjaijcioaaW.PrintMore Go.Proofs.Ytpmhfkjaijcioaa.LotM
set_option linter.unusedVariables false
set_option linter.unusedSimpArgs false
theorem shl_one : ∀ n, n < 13 → shl .i64 1 ((n : Nat) : Int) = ((2 ^ n : Nat) : Int) := by decide +kernel
theorem pow_le {n : Nat} (h : n ≤ 12) : 2 ^ n ≤ 4096 := Nat.pow_le_pow_right (n := 2) (by omega) h
theorem w64 {i : Int} (h0 : -9223372036854775808 ≤ i) (h : i < 9223372036854775808) : wrap64 i = i := by unfold wrap64; omega
theorem u64 {i : Int} (h0 : 0 ≤ i) (h : i < 9223372036854775808) : IntKind.u64.wrap i = i := by
  have e : IntKind.u64.wrap i = i % 18446744073709551616 := by simp [IntKind.wrap, IntKind.bits, IntKind.signed]
  rw [e]; omega
def allN (p : Nat → Bool) : Nat → Bool
  | 0 => true
  | n+1 => p n && allN p n
theorem allN_at (p : Nat → Bool) : ∀ n, allN p n = true → ∀ s, s < n → p s = true
  | 0, _, s, h => by omega
  | n+1, h, s, hs => by
    simp only [allN, Bool.and_eq_true] at h
    by_cases e : s = n
    · subst e; exact h.1
    · exact allN_at p n h.2 s (by omega)

/-- What a lottery's numbers are. -/
theorem lot_cases (a b c d : Int) : impl_IsLottery.f a b c d = some false ∨ (impl_IsLottery.f a b c d = some true ∧ ∃ n p q h : Nat, a = n ∧ b = p ∧ c = q ∧ d = h ∧ 1 ≤ n ∧ n ≤ 12 ∧ 1 ≤ p ∧ p ≤ n ∧ 1 ≤ q ∧ q ≤ n ∧ 1 ≤ h ∧ h ≤ p ∧ h ≤ q) := by
  by_cases hv : 1 ≤ a ∧ a ≤ 12 ∧ 1 ≤ b ∧ b ≤ a ∧ 1 ≤ c ∧ c ≤ a ∧ 1 ≤ d ∧ d ≤ b ∧ d ≤ c
  · refine .inr ⟨?_, a.toNat, b.toNat, c.toNat, d.toNat, by omega, by omega, by omega, by omega, by omega, by omega, by omega, by omega, by omega, by omega, by omega, by omega, by omega⟩
    unfold impl_IsLottery.f mn
    repeat' split
    all_goals simp_all
    all_goals omega
  · refine .inl ?_
    unfold impl_IsLottery.f mn
    repeat' split
    all_goals simp_all
    all_goals omega

theorem isLot (a b c d : Int) : spec_l08Is.f a b c d = impl_IsLottery.f a b c d := by
  unfold spec_l08Is.f spec_l01In.f impl_IsLottery.f mn
  repeat' split
  all_goals simp_all
  all_goals omega

/-- A set of m of n numbers. -/
def isT (n m : Nat) (s : Int) : Bool := decide (0 ≤ s) && decide (s < ((2 ^ n : Nat) : Int)) && (((pc s.toNat : Nat) : Int) == (m : Int))
theorem isT_nat {n m : Nat} {s : Int} (h : isT n m s = true) : ∃ t : Nat, s = t ∧ t < 2 ^ n ∧ pc t = m := by
  simp only [isT, Bool.and_eq_true, decide_eq_true_eq, beq_iff_eq] at h
  obtain ⟨⟨h0, h1⟩, h2⟩ := h
  refine ⟨s.toNat, by omega, by omega, by omega⟩

def okSS (s : Nat) : Bool := match spec_l08Size.f 14 (s : Int) with
  | some r => r == (pcF 12 s : Int)
  | none => false
theorem okSS_all : allN okSS 4096 = true := by kernel_rfl
theorem ssize_nat (s : Nat) (h : s < 4096) : ∀ k, 14 ≤ k → spec_l08Size.f k (s : Int) = some (pc s : Int) := by
  intro k hk
  have := allN_at okSS 4096 okSS_all s h
  unfold okSS at this
  split at this
  · rename_i r hr
    rw [beq_iff_eq.mp this] at hr
    exact at_rounds (g := fun k => spec_l08Size.f k (s : Int)) (fun k => spec_l08Size.mono _ k) hk hr
  · cases this

theorem specSet_ev (n p q h m : Nat) (s : Int) (hn1 : 1 ≤ n) (hn : n ≤ 12) (k : Nat) (hk : 14 ≤ k) : spec_l08Set.f k n p q h s m = some (isT n m s) := by
  have hp := pow_le hn
  have hp1 : 1 ≤ 2 ^ n := Nat.one_le_two_pow
  unfold spec_l08Set.f spec_l01In.f isT
  rw [u64 (by omega) (by omega), if_pos (by omega), shl_one n (by omega), w64 (by omega) (by omega)]
  generalize 2 ^ n = P at *
  by_cases h0 : 0 ≤ s
  · rw [if_pos h0]
    simp only [Option.bind_some]
    by_cases h1 : s < (P : Int)
    · have h2 : s ≤ (P : Int) - 1 := by omega
      obtain ⟨t, rfl⟩ : ∃ t : Nat, s = t := ⟨s.toNat, by omega⟩
      rw [ssize_nat t (by omega) k hk]
      simp [h1, h2]
    · have h2 : ¬ s ≤ (P : Int) - 1 := by omega
      simp [h1, h2]
  · rw [if_neg h0]; simp [h0]

theorem isSet_ev (n p q h : Nat) (s : Int) (hn : n ≤ 12) : impl_isSet.f n p q h s = some (decide (0 ≤ s) && decide (s < ((2 ^ n : Nat) : Int))) := by
  unfold impl_isSet.f
  rw [shl_one n (by omega)]
  by_cases h0 : 0 ≤ s
  · rw [if_pos h0, if_pos (by omega)]; simp [h0]
  · rw [if_neg h0]; simp [h0]

def okS (s : Nat) : Bool := match impl_size.f (s : Int) with
  | some r => r == (pcF 12 s : Int)
  | none => false
theorem okS_all : allN okS 4096 = true := by kernel_rfl
theorem size_nat (s : Nat) (h : s < 4096) : impl_size.f (s : Int) = some (pc s : Int) := by
  have := allN_at okS 4096 okS_all s h
  unfold okS at this
  split at this
  · rename_i r hr; rw [hr, beq_iff_eq.mp this]; rfl
  · cases this

theorem isTicket_ev (n p q h : Nat) (s : Int) (hn : n ≤ 12) : impl_isTicket.f n p q h s = some (isT n p s) := by
  have hp := pow_le hn
  unfold impl_isTicket.f
  rw [isSet_ev n p q h s hn]
  unfold isT
  generalize 2 ^ n = P at *
  by_cases hv : 0 ≤ s ∧ s < (P : Int)
  · obtain ⟨t, rfl⟩ : ∃ t : Nat, s = t := ⟨s.toNat, by omega⟩
    simp only [hv.1, hv.2, decide_true, Bool.and_self, Option.bind_some, if_true]
    rw [size_nat t (by omega)]; simp
  · have : (decide (0 ≤ s) && decide (s < (P : Int))) = false := by simp; omega
    rw [this]; simp

theorem set_mid (A B : List Int) (b s : Int) : (A ++ b :: B).set A.length s = (A ++ [s]) ++ B := by
  induction A with
  | nil => rfl
  | cons a A ih => simp [List.set_cons_succ]
theorem rd_mid (A B : List Int) (b : Int) : rd (A ++ b :: B) (A.length : Int) = b := by simp [rd]
theorem rd_nat (M : List Int) (i : Nat) (h : i < M.length) : rd M (i : Int) = M[i] := by simp [rd, List.getElem?_eq_getElem h]
def seqI : Int → Nat → List Int
  | _, 0 => []
  | s, n+1 => s :: seqI (s+1) n

theorem tickets_both (n p q h : Nat) (hn1 : 1 ≤ n) (hn : n ≤ 12) (l : List Int) (hl : l.length ≤ 1048576) : ∀ d i : Nat, i + d = l.length → ∃ b : Bool, (∀ k, d + 20 ≤ k → spec_l08Tickets.l0 k l i n p q h = some (if b = true then 0 else 2)) ∧ (∀ k, d + 20 ≤ k → impl_areTickets.l0 k l l l.length i n p q h = some b) ∧ (b = true → l.length ≤ 200 ∧ ∀ j, i ≤ j → ∀ hj : j < l.length, isT n p l[j] = true)
  | 0, i, e => by
    refine ⟨decide ((l.length : Int) ≤ 200), fun k hk => ?_, fun k hk => ?_, fun hb => ⟨?_, fun j h1 h2 => by omega⟩⟩
    · obtain ⟨k, rfl⟩ : ∃ q, k = q + 1 := ⟨k - 1, by omega⟩
      simp only [spec_l08Tickets.l0]
      rw [if_neg (by omega)]
      by_cases hh : (l.length : Int) > 200
      · rw [if_pos hh, if_neg]; simp; omega
      · rw [if_neg hh, if_pos]; simp; omega
    · obtain ⟨k, rfl⟩ : ∃ q, k = q + 1 := ⟨k - 1, by omega⟩
      simp only [impl_areTickets.l0]
      rw [if_neg (by omega)]
    · simp at hb; omega
  | d+1, i, e => by
    have hi : i < l.length := by omega
    have hw : wrap64 ((i : Int) + 1) = ((i + 1 : Nat) : Int) := by rw [w64 (by omega) (by omega)]; omega
    have hr := rd_nat l i hi
    cases ht : isT n p l[i] with
    | false =>
      refine ⟨false, fun k hk => ?_, fun k hk => ?_, fun hb => by cases hb⟩
      · obtain ⟨k, rfl⟩ : ∃ q, k = q + 1 := ⟨k - 1, by omega⟩
        simp only [spec_l08Tickets.l0]
        rw [if_pos (by omega), if_pos (by omega), hr, specSet_ev n p q h p _ hn1 hn k (by omega), ht]
        simp
      · obtain ⟨k, rfl⟩ : ∃ q, k = q + 1 := ⟨k - 1, by omega⟩
        simp only [impl_areTickets.l0]
        rw [if_pos (by omega), if_pos (by omega), if_pos (by omega), hr, isTicket_ev n p q h _ hn, ht]
        simp
    | true =>
      by_cases h0 : 0 < i
      · have hw1 : wrap64 ((i : Int) - 1) = ((i - 1 : Nat) : Int) := by rw [w64 (by omega) (by omega)]; omega
        have hr1 := rd_nat l (i - 1) (by omega)
        by_cases hge : l[i] ≤ l[i-1]
        · refine ⟨false, fun k hk => ?_, fun k hk => ?_, fun hb => by cases hb⟩
          · obtain ⟨k, rfl⟩ : ∃ q, k = q + 1 := ⟨k - 1, by omega⟩
            simp only [spec_l08Tickets.l0]
            rw [if_pos (by omega), if_pos (by omega), hr, specSet_ev n p q h p _ hn1 hn k (by omega), ht]
            simp only [Option.bind_some, if_true]
            rw [if_pos (by omega), hw1, if_pos (by omega), if_pos (by omega), hr1, if_pos (by omega)]
            simp
          · obtain ⟨k, rfl⟩ : ∃ q, k = q + 1 := ⟨k - 1, by omega⟩
            simp only [impl_areTickets.l0]
            rw [if_pos (by omega), if_pos (by omega), if_pos (by omega), hr, isTicket_ev n p q h _ hn, ht]
            simp only [Option.bind_some, if_true]
            rw [if_pos (by omega), hw1, if_pos (by omega), if_pos (by omega), hr1, if_pos (by omega)]
        · obtain ⟨b, g1, g2, g3⟩ := tickets_both n p q h hn1 hn l hl d (i+1) (by omega)
          refine ⟨b, fun k hk => ?_, fun k hk => ?_, fun hb => ⟨(g3 hb).1, fun j h1 h2 => ?_⟩⟩
          · obtain ⟨k, rfl⟩ : ∃ q, k = q + 1 := ⟨k - 1, by omega⟩
            simp only [spec_l08Tickets.l0]
            rw [if_pos (by omega), if_pos (by omega), hr, specSet_ev n p q h p _ hn1 hn k (by omega), ht]
            simp only [Option.bind_some, if_true]
            rw [if_pos (by omega), hw1, if_pos (by omega), if_pos (by omega), hr1, if_neg (by omega), hw]
            exact g1 k (by omega)
          · obtain ⟨k, rfl⟩ : ∃ q, k = q + 1 := ⟨k - 1, by omega⟩
            simp only [impl_areTickets.l0]
            rw [if_pos (by omega), if_pos (by omega), if_pos (by omega), hr, isTicket_ev n p q h _ hn, ht]
            simp only [Option.bind_some, if_true]
            rw [if_pos (by omega), hw1, if_pos (by omega), if_pos (by omega), hr1, if_neg (by omega), hw]
            exact g2 k (by omega)
          · by_cases hj : j = i
            · subst hj; exact ht
            · exact (g3 hb).2 j (by omega) h2
      · obtain ⟨b, g1, g2, g3⟩ := tickets_both n p q h hn1 hn l hl d (i+1) (by omega)
        refine ⟨b, fun k hk => ?_, fun k hk => ?_, fun hb => ⟨(g3 hb).1, fun j h1 h2 => ?_⟩⟩
        · obtain ⟨k, rfl⟩ : ∃ q, k = q + 1 := ⟨k - 1, by omega⟩
          simp only [spec_l08Tickets.l0]
          rw [if_pos (by omega), if_pos (by omega), hr, specSet_ev n p q h p _ hn1 hn k (by omega), ht]
          simp only [Option.bind_some, if_true]
          rw [if_neg (by omega), hw]
          exact g1 k (by omega)
        · obtain ⟨k, rfl⟩ : ∃ q, k = q + 1 := ⟨k - 1, by omega⟩
          simp only [impl_areTickets.l0]
          rw [if_pos (by omega), if_pos (by omega), if_pos (by omega), hr, isTicket_ev n p q h _ hn, ht]
          simp only [Option.bind_some, if_true]
          rw [if_neg (by omega), hw]
          exact g2 k (by omega)
        · by_cases hj : j = i
          · subst hj; exact ht
          · exact (g3 hb).2 j (by omega) h2

def prodL : List Int → Int
  | [] => 1
  | q :: r => q * prodL r
theorem prodL_snoc (l : List Int) (q : Int) : prodL (l ++ [q]) = prodL l * q := by
  induction l with
  | nil => simp [prodL]
  | cons a l ih => simp only [List.cons_append, prodL, ih]; rw [Int.mul_assoc]
theorem prodL_bound : ∀ (l : List Int), (∀ q ∈ l, 2 ≤ q ∧ q ≤ 4) → 1 ≤ prodL l ∧ prodL l ≤ (4 : Int) ^ l.length
  | [], _ => by simp [prodL]
  | q :: r, h => by
    have h1 := h q (by simp)
    obtain ⟨h2, h3⟩ := prodL_bound r (fun x hx => h x (by simp [hx]))
    simp only [prodL, List.length_cons, Int.pow_succ]
    have hp : (0 : Int) ≤ 4 ^ r.length := Int.le_of_lt (Int.pow_pos (by omega))
    constructor
    · have : 1 * 1 ≤ q * prodL r := Int.mul_le_mul (by omega) h2 (by omega) (by omega)
      omega
    · rw [Int.mul_comm (4 ^ r.length) 4]
      exact Int.mul_le_mul h1.2 h3 (by omega) (by omega)
theorem prodL_le8 (l : List Int) (h : ∀ q ∈ l, 2 ≤ q ∧ q ≤ 4) (hl : l.length ≤ 8) : 1 ≤ prodL l ∧ prodL l ≤ 65536 := by
  obtain ⟨h1, h2⟩ := prodL_bound l h
  refine ⟨h1, Int.le_trans h2 ?_⟩
  have : ∀ n, n < 9 → (4 : Int) ^ n ≤ 65536 := by decide
  exact this _ (by omega)
/-- What a space's sizes are. -/
def SpaceOk (l : List Int) : Prop := 1 ≤ l.length ∧ l.length ≤ 8 ∧ (∀ q ∈ l, 2 ≤ q ∧ q ≤ 4) ∧ prodL l ≤ 1024

theorem specN_l : ∀ (B A : List Int), (∀ q ∈ A ++ B, 2 ≤ q ∧ q ≤ 4) → (A ++ B).length ≤ 8 → ∀ k, B.length < k → spec_l01N.l0 k (prodL A) A.length (A ++ B) = some (prodL (A ++ B))
  | [], A, h, hl, k, hk => by
    obtain ⟨k, rfl⟩ : ∃ q, k = q + 1 := ⟨k - 1, by simp at hk; omega⟩
    simp only [spec_l01N.l0]
    rw [if_neg (by simp)]; simp
  | b :: B, A, h, hl, k, hk => by
    obtain ⟨k, rfl⟩ : ∃ q, k = q + 1 := ⟨k - 1, by simp at hk; omega⟩
    have hb := h b (by simp)
    have hA := prodL_le8 (A ++ [b]) (fun q hq => h q (by simp at hq ⊢; rcases hq with hq | hq <;> simp [hq])) (by simp at hl ⊢; omega)
    rw [prodL_snoc] at hA
    simp only [spec_l01N.l0]
    simp only [List.length_append, List.length_cons] at hl hk
    rw [if_pos (by simp; omega), if_pos (by omega), rd_mid, w64 (by omega) (by omega), w64 (by omega) (by omega), ← prodL_snoc, show (A.length : Int) + 1 = ((A ++ [b]).length : Int) by simp]
    have := specN_l B (A ++ [b]) (by simpa using h) (by simp; omega) k (by omega)
    simpa using this
theorem specN_ev (l : List Int) (h : ∀ q ∈ l, 2 ≤ q ∧ q ≤ 4) (hl : l.length ≤ 8) : ∀ k, 10 ≤ k → spec_l01N.f k l = some (prodL l) := by
  intro k hk
  unfold spec_l01N.f
  exact specN_l l [] h hl k (by omega)

theorem specIs_l : ∀ (B A : List Int), (∀ q ∈ A, 2 ≤ q ∧ q ≤ 4) → (A ++ B).length ≤ 8 → ∀ k, B.length + 10 < k → spec_l01Is.l0 k A.length (A ++ B) = some (decide (∀ q ∈ A ++ B, 2 ≤ q ∧ q ≤ 4) && decide (prodL (A ++ B) ≤ 1024))
  | [], A, h, hl, k, hk => by
    obtain ⟨k, rfl⟩ : ∃ q, k = q + 1 := ⟨k - 1, by simp at hk; omega⟩
    simp only [List.append_nil] at hl ⊢
    simp only [spec_l01Is.l0]
    simp only [List.length_nil] at hk
    rw [if_neg (by omega), specN_ev A h hl k (by omega), Option.bind_some]
    simp only [decide_eq_true h, Bool.true_and]
  | b :: B, A, h, hl, k, hk => by
    obtain ⟨k, rfl⟩ : ∃ q, k = q + 1 := ⟨k - 1, by simp at hk; omega⟩
    simp only [spec_l01Is.l0]
    simp only [List.length_append, List.length_cons] at hl hk
    unfold spec_l01In.f
    rw [if_pos (by simp; omega), if_pos (by omega), rd_mid]
    by_cases hb : 2 ≤ b ∧ b ≤ 4
    · rw [if_pos hb.1, Option.bind_some, if_pos (by simpa using hb.2), w64 (by omega) (by omega), show (A.length : Int) + 1 = ((A ++ [b]).length : Int) by simp]
      have := specIs_l B (A ++ [b]) (fun q hq => by simp at hq; rcases hq with hq | rfl; exact h q hq; exact hb) (by simp; omega) k (by omega)
      rw [List.append_assoc, List.singleton_append] at this
      rw [this]
    · have hd : decide (∀ q ∈ A ++ b :: B, 2 ≤ q ∧ q ≤ 4) = false := by
        rw [decide_eq_false_iff_not]; intro hh; exact hb (hh b (by simp))
      rw [hd, Bool.false_and]
      by_cases h1 : b ≥ 2
      · rw [if_pos h1, Option.bind_some, if_neg (by simp; omega)]
      · rw [if_neg h1, Option.bind_some]; rfl
instance (l : List Int) : Decidable (SpaceOk l) := by unfold SpaceOk; infer_instance
theorem specIs_ev (l : List Int) : ∀ k, 30 ≤ k → spec_l01Is.f k l = some (decide (SpaceOk l)) := by
  intro k hk
  unfold spec_l01Is.f
  by_cases h1 : 1 ≤ l.length ∧ l.length ≤ 8
  · have e : spec_l01In.f (l.length : Int) 1 8 = some true := by
      unfold spec_l01In.f; rw [if_pos (by omega)]; simp; omega
    rw [e, Option.bind_some, if_pos rfl]
    have := specIs_l l [] (by simp) (by simpa using h1.2) k (by omega)
    simp only [List.nil_append, List.length_nil] at this
    rw [show (0 : Int) = ((0 : Nat) : Int) from rfl, this]
    congr 1
    rw [Bool.eq_iff_iff]
    simp [SpaceOk, h1]
  · have e : spec_l01In.f (l.length : Int) 1 8 = some false := by
      unfold spec_l01In.f
      by_cases h2 : (l.length : Int) ≥ 1
      · rw [if_pos h2]; simp; omega
      · rw [if_neg h2]
    have hd : decide (SpaceOk l) = false := by
      rw [decide_eq_false_iff_not]; intro hh; exact h1 ⟨hh.1, hh.2.1⟩
    rw [e, Option.bind_some, hd]; rfl

theorem implIs_l : ∀ (B A : List Int), (∀ q ∈ A, 2 ≤ q ∧ q ≤ 4) → (A ++ B).length ≤ 8 → ∀ k, B.length < k → impl_IsSpace.l0 k (prodL A) (A ++ B) (A ++ B).length A.length = some (decide (∀ q ∈ A ++ B, 2 ≤ q ∧ q ≤ 4) && decide (prodL (A ++ B) ≤ 1024))
  | [], A, h, hl, k, hk => by
    obtain ⟨k, rfl⟩ : ∃ q, k = q + 1 := ⟨k - 1, by simp at hk; omega⟩
    simp only [List.append_nil] at hl ⊢
    simp only [impl_IsSpace.l0]
    rw [if_neg (by omega)]
    simp only [decide_eq_true h, Bool.true_and]
  | b :: B, A, h, hl, k, hk => by
    obtain ⟨k, rfl⟩ : ∃ q, k = q + 1 := ⟨k - 1, by simp at hk; omega⟩
    simp only [impl_IsSpace.l0]
    simp only [List.length_append, List.length_cons] at hl hk
    rw [if_pos (by simp; omega), if_pos (by omega), if_pos (by simp; omega), rd_mid]
    by_cases hb : 2 ≤ b ∧ b ≤ 4
    · have hA := prodL_le8 (A ++ [b]) (fun q hq => by simp at hq; rcases hq with hq | rfl; exact h q hq; exact hb) (by simp; omega)
      rw [prodL_snoc] at hA
      rw [if_neg (by omega), if_neg (by omega), w64 (by omega) (by omega), w64 (by omega) (by omega), ← prodL_snoc, show (A.length : Int) + 1 = ((A ++ [b]).length : Int) by simp]
      have := implIs_l B (A ++ [b]) (fun q hq => by simp at hq; rcases hq with hq | rfl; exact h q hq; exact hb) (by simp; omega) k (by omega)
      rw [List.append_assoc, List.singleton_append] at this
      rw [this]
    · have hd : decide (∀ q ∈ A ++ b :: B, 2 ≤ q ∧ q ≤ 4) = false := by
        rw [decide_eq_false_iff_not]; intro hh; exact hb (hh b (by simp))
      rw [hd, Bool.false_and]
      by_cases h1 : b < 2
      · rw [if_pos h1]
      · rw [if_neg h1, if_pos (by omega)]
theorem implIs_ev (l : List Int) : ∀ k, 30 ≤ k → impl_IsSpace.f k l = some (decide (SpaceOk l)) := by
  intro k hk
  obtain ⟨k, rfl⟩ : ∃ q, k = q + 1 := ⟨k - 1, by omega⟩
  unfold impl_IsSpace.f
  by_cases h1 : 1 ≤ l.length ∧ l.length ≤ 8
  · have e : decide ((l.length : Int) > 8) = false := by simp; omega
    rw [if_neg (by omega), e]
    simp only [impl_IsSpace.j0]
    rw [if_neg (by decide)]
    have := implIs_l l [] (by simp) (by simpa using h1.2) k (by omega)
    simp only [List.nil_append, List.length_nil, prodL] at this
    rw [show (0 : Int) = ((0 : Nat) : Int) from rfl, this]
    congr 1
    rw [Bool.eq_iff_iff]
    simp [SpaceOk, h1]
  · have hd : decide (SpaceOk l) = false := by
      rw [decide_eq_false_iff_not]; intro hh; exact h1 ⟨hh.1, hh.2.1⟩
    rw [hd]
    by_cases h2 : (l.length : Int) < 1
    · rw [if_pos h2]; simp [impl_IsSpace.j0]
    · have e : decide ((l.length : Int) > 8) = true := by simp; omega
      rw [if_neg h2, e]; simp [impl_IsSpace.j0]

/-- What a code's words are: ascending, all of them words. -/
def CodeOk (n : Int) (l : List Int) : Prop := ∀ j (hj : j < l.length), (0 ≤ l[j] ∧ l[j] < n) ∧ ∀ h0 : 0 < j, l[j-1]'(by omega) < l[j]
theorem CodeOk.len {n : Int} {l : List Int} (h : CodeOk n l) : l.length = 0 ∨ (l.length : Int) ≤ n := by
  have key : ∀ j (hj : j < l.length), (j : Int) ≤ l[j] := by
    intro j
    induction j with
    | zero => intro hj; have := (h 0 hj).1; omega
    | succ j ih =>
      intro hj
      have h1 := ih (by omega)
      have h2 := (h (j+1) hj).2 (by omega)
      simp only [Nat.add_sub_cancel] at h2
      omega
  by_cases h0 : l.length = 0
  · exact .inl h0
  · right
    have h1 := key (l.length - 1) (by omega)
    have h2 := (h (l.length - 1) (by omega)).1
    omega
def codeFrom (n : Int) (l : List Int) (i : Nat) : Prop := ∀ j (hj : j < l.length), i ≤ j → (0 ≤ l[j] ∧ l[j] < n) ∧ ∀ h0 : 0 < j, l[j-1]'(by omega) < l[j]
theorem specCode_l (s : List Int) (hs : SpaceOk s) (l : List Int) (hl : l.length ≤ 4611686018427387904) : ∀ d i : Nat, i + d = l.length → ∃ b : Bool, (b = true ↔ codeFrom (prodL s) l i) ∧ ∀ k, d + 12 ≤ k → spec_l01Code.l0 k l i s = some b
  | 0, i, e => by
    refine ⟨true, ⟨fun _ j hj hi => by omega, fun _ => rfl⟩, fun k hk => ?_⟩
    obtain ⟨k, rfl⟩ : ∃ q, k = q + 1 := ⟨k - 1, by omega⟩
    simp only [spec_l01Code.l0]; rw [if_neg (by omega)]
  | d+1, i, e => by
    have hi : i < l.length := by omega
    have hr := rd_nat l i hi
    have hw : wrap64 ((i : Int) + 1) = ((i + 1 : Nat) : Int) := by rw [w64 (by omega) (by omega)]; omega
    have hP := prodL_le8 s hs.2.2.1 hs.2.1
    obtain ⟨b, hb, g⟩ := specCode_l s hs l hl d (i+1) (by omega)
    have start : ∀ k, 11 ≤ k → spec_l01Code.l0 (k+1) l i s = (spec_l01In.f l[i] 0 (prodL s - 1)).bind fun t130 => (if t130 = true then (if (i : Int) > 0 then (if 0 ≤ (wrap64 ((i : Int) - 1)) then (if (wrap64 ((i : Int) - 1)) < (l.length : Int) then (if l[i] ≤ (rd l (wrap64 ((i : Int) - 1))) then (some false) else (spec_l01Code.l0 k l ((i + 1 : Nat) : Int) s)) else (none)) else (none)) else (spec_l01Code.l0 k l ((i + 1 : Nat) : Int) s)) else (some false)) := by
      intro k hk
      simp only [spec_l01Code.l0]
      rw [if_pos (by omega), if_pos (by omega), specN_ev s hs.2.2.1 hs.2.1 k (by omega), Option.bind_some, hr, w64 (i := prodL s - 1) (by omega) (by omega), hw]
    by_cases hin : 0 ≤ l[i] ∧ l[i] < prodL s
    · have e1 : spec_l01In.f l[i] 0 (prodL s - 1) = some true := by
        unfold spec_l01In.f; rw [if_pos hin.1]; simp; omega
      by_cases h0 : 0 < i
      · have hw1 : wrap64 ((i : Int) - 1) = ((i - 1 : Nat) : Int) := by rw [w64 (by omega) (by omega)]; omega
        have hr1 := rd_nat l (i - 1) (by omega)
        by_cases hle : l[i] ≤ l[i-1]
        · refine ⟨false, ⟨fun h => absurd h (by decide), fun h => ?_⟩, fun k hk => ?_⟩
          · have := (h i hi (by omega)).2 h0; omega
          · obtain ⟨k, rfl⟩ : ∃ q, k = q + 1 := ⟨k - 1, by omega⟩
            rw [start k (by omega), e1, Option.bind_some, if_pos rfl, if_pos (by omega), hw1, if_pos (by omega), if_pos (by omega), hr1, if_pos hle]
        · refine ⟨b, ⟨fun h j hj hij => ?_, fun h => hb.2 fun j hj hij => h j hj (by omega)⟩, fun k hk => ?_⟩
          · by_cases hji : j = i
            · subst hji; exact ⟨hin, fun _ => by omega⟩
            · exact hb.1 h j hj (by omega)
          · obtain ⟨k, rfl⟩ : ∃ q, k = q + 1 := ⟨k - 1, by omega⟩
            rw [start k (by omega), e1, Option.bind_some, if_pos rfl, if_pos (by omega), hw1, if_pos (by omega), if_pos (by omega), hr1, if_neg hle]
            exact g k (by omega)
      · refine ⟨b, ⟨fun h j hj hij => ?_, fun h => hb.2 fun j hj hij => h j hj (by omega)⟩, fun k hk => ?_⟩
        · by_cases hji : j = i
          · subst hji; exact ⟨hin, fun h1 => absurd h1 h0⟩
          · exact hb.1 h j hj (by omega)
        · obtain ⟨k, rfl⟩ : ∃ q, k = q + 1 := ⟨k - 1, by omega⟩
          rw [start k (by omega), e1, Option.bind_some, if_pos rfl, if_neg (by omega)]
          exact g k (by omega)
    · have e1 : spec_l01In.f l[i] 0 (prodL s - 1) = some false := by
        unfold spec_l01In.f
        by_cases h1 : l[i] ≥ 0
        · rw [if_pos h1]; simp; omega
        · rw [if_neg h1]
      refine ⟨false, ⟨fun h => absurd h (by decide), fun h => absurd (h i hi (by omega)).1 hin⟩, fun k hk => ?_⟩
      obtain ⟨k, rfl⟩ : ∃ q, k = q + 1 := ⟨k - 1, by omega⟩
      rw [start k (by omega), e1, Option.bind_some, if_neg (by decide)]
theorem specCode_ev (s : List Int) (hs : SpaceOk s) (l : List Int) (hl : l.length ≤ 4611686018427387904) : ∃ b : Bool, (b = true ↔ CodeOk (prodL s) l) ∧ ∀ k, l.length + 12 ≤ k → spec_l01Code.f k s l = some b := by
  obtain ⟨b, h, g⟩ := specCode_l s hs l hl l.length 0 (by omega)
  exact ⟨b, ⟨fun hb j hj => h.1 hb j hj (by omega), fun hc => h.2 fun j hj _ => hc j hj⟩, fun k hk => by unfold spec_l01Code.f; exact g k (by omega)⟩

theorem implCount_l : ∀ (B A : List Int), (∀ q ∈ A ++ B, 2 ≤ q ∧ q ≤ 4) → (A ++ B).length ≤ 8 → ∀ k, B.length < k → impl_count.l0 k (prodL A) (A ++ B) (A ++ B).length A.length = some (prodL (A ++ B))
  | [], A, h, hl, k, hk => by
    obtain ⟨k, rfl⟩ : ∃ q, k = q + 1 := ⟨k - 1, by simp at hk; omega⟩
    simp only [impl_count.l0]
    rw [if_neg (by simp)]; simp
  | b :: B, A, h, hl, k, hk => by
    obtain ⟨k, rfl⟩ : ∃ q, k = q + 1 := ⟨k - 1, by simp at hk; omega⟩
    have hb := h b (by simp)
    have hA := prodL_le8 (A ++ [b]) (fun q hq => h q (by simp at hq ⊢; rcases hq with hq | hq <;> simp [hq])) (by simp at hl ⊢; omega)
    rw [prodL_snoc] at hA
    simp only [impl_count.l0]
    simp only [List.length_append, List.length_cons] at hl hk
    rw [if_pos (by simp; omega), if_pos (by omega), if_pos (by simp; omega), rd_mid, w64 (by omega) (by omega), w64 (by omega) (by omega), ← prodL_snoc, show (A.length : Int) + 1 = ((A ++ [b]).length : Int) by simp]
    have := implCount_l B (A ++ [b]) (by simpa using h) (by simp; omega) k (by omega)
    simpa using this
theorem implCount_ev (l : List Int) (h : ∀ q ∈ l, 2 ≤ q ∧ q ≤ 4) (hl : l.length ≤ 8) : ∀ k, 10 ≤ k → impl_count.f k l = some (prodL l) := by
  intro k hk
  unfold impl_count.f
  exact implCount_l l [] h hl k (by omega)

theorem areWords_l (n : Int) (l : List Int) (hl : l.length ≤ 4611686018427387904) : ∀ d i : Nat, i + d = l.length → ∃ b : Bool, (b = true ↔ ∀ j (hj : j < l.length), i ≤ j → 0 ≤ l[j] ∧ l[j] < n) ∧ ∀ k, d + 1 ≤ k → impl_areWords.l0 k n l l.length i = some b
  | 0, i, e => by
    refine ⟨true, ⟨fun _ j hj hi => by omega, fun _ => rfl⟩, fun k hk => ?_⟩
    obtain ⟨k, rfl⟩ : ∃ q, k = q + 1 := ⟨k - 1, by omega⟩
    simp only [impl_areWords.l0]; rw [if_neg (by omega)]
  | d+1, i, e => by
    have hi : i < l.length := by omega
    have hr := rd_nat l i hi
    have hw : wrap64 ((i : Int) + 1) = ((i + 1 : Nat) : Int) := by rw [w64 (by omega) (by omega)]; omega
    obtain ⟨b, hb, g⟩ := areWords_l n l hl d (i+1) (by omega)
    by_cases hin : 0 ≤ l[i] ∧ l[i] < n
    · refine ⟨b, ⟨fun h j hj hij => ?_, fun h => hb.2 fun j hj hij => h j hj (by omega)⟩, fun k hk => ?_⟩
      · by_cases hji : j = i
        · subst hji; exact hin
        · exact hb.1 h j hj (by omega)
      · obtain ⟨k, rfl⟩ : ∃ q, k = q + 1 := ⟨k - 1, by omega⟩
        simp only [impl_areWords.l0]
        rw [if_pos (by omega), if_pos (by omega), if_pos (by omega), hr, if_neg (by omega), if_neg (by omega), hw]
        exact g k (by omega)
    · refine ⟨false, ⟨fun h => absurd h (by decide), fun h => absurd (h i hi (by omega)) hin⟩, fun k hk => ?_⟩
      obtain ⟨k, rfl⟩ : ∃ q, k = q + 1 := ⟨k - 1, by omega⟩
      simp only [impl_areWords.l0]
      rw [if_pos (by omega), if_pos (by omega), if_pos (by omega), hr]
      by_cases h1 : l[i] < 0
      · rw [if_pos h1]
      · rw [if_neg h1, if_pos (by omega)]
theorem areWords_ev (s : List Int) (hs : SpaceOk s) (l : List Int) (hl : l.length ≤ 4611686018427387904) : ∃ b : Bool, (b = true ↔ ∀ j (hj : j < l.length), 0 ≤ l[j] ∧ l[j] < prodL s) ∧ ∀ k, l.length + 12 ≤ k → impl_areWords.f k s l = some b := by
  obtain ⟨b, h, g⟩ := areWords_l (prodL s) l hl l.length 0 (by omega)
  refine ⟨b, ⟨fun hb j hj => h.1 hb j hj (by omega), fun hc => h.2 fun j hj _ => hc j hj⟩, fun k hk => ?_⟩
  unfold impl_areWords.f
  rw [implCount_ev s hs.2.2.1 hs.2.1 k (by omega), Option.bind_some]
  exact g k (by omega)
theorem ascend_l (l : List Int) (hl : l.length ≤ 4611686018427387904) : ∀ d i : Nat, i + d = l.length → 1 ≤ i → ∃ b : Bool, (b = true ↔ ∀ j (hj : j < l.length), i ≤ j → ∀ h0 : 0 < j, l[j-1]'(by omega) < l[j]) ∧ ∀ k, d + 1 ≤ k → impl_isCode.l0 k l i = some b
  | 0, i, e, h1 => by
    refine ⟨true, ⟨fun _ j hj hi => by omega, fun _ => rfl⟩, fun k hk => ?_⟩
    obtain ⟨k, rfl⟩ : ∃ q, k = q + 1 := ⟨k - 1, by omega⟩
    simp only [impl_isCode.l0]; rw [if_neg (by omega)]
  | d+1, i, e, h1 => by
    have hi : i < l.length := by omega
    have hr := rd_nat l i hi
    have hr1 := rd_nat l (i - 1) (by omega)
    have hw : wrap64 ((i : Int) + 1) = ((i + 1 : Nat) : Int) := by rw [w64 (by omega) (by omega)]; omega
    have hw1 : wrap64 ((i : Int) - 1) = ((i - 1 : Nat) : Int) := by rw [w64 (by omega) (by omega)]; omega
    obtain ⟨b, hb, g⟩ := ascend_l l hl d (i+1) (by omega) (by omega)
    by_cases hle : l[i] ≤ l[i-1]
    · refine ⟨false, ⟨fun h => absurd h (by decide), fun h => ?_⟩, fun k hk => ?_⟩
      · have := h i hi (by omega) (by omega); omega
      · obtain ⟨k, rfl⟩ : ∃ q, k = q + 1 := ⟨k - 1, by omega⟩
        simp only [impl_isCode.l0]
        rw [if_pos (by omega), if_pos (by omega), hw1, if_pos (by omega), if_pos (by omega), hr, hr1, if_pos hle]
    · refine ⟨b, ⟨fun h j hj hij h0 => ?_, fun h => hb.2 fun j hj hij h0 => h j hj (by omega) h0⟩, fun k hk => ?_⟩
      · by_cases hji : j = i
        · subst hji; omega
        · exact hb.1 h j hj (by omega) h0
      · obtain ⟨k, rfl⟩ : ∃ q, k = q + 1 := ⟨k - 1, by omega⟩
        simp only [impl_isCode.l0]
        rw [if_pos (by omega), if_pos (by omega), hw1, if_pos (by omega), if_pos (by omega), hr, hr1, if_neg hle, hw]
        exact g k (by omega)
theorem isCode_ev (s : List Int) (hs : SpaceOk s) (l : List Int) (hl : l.length ≤ 4611686018427387904) : ∃ b : Bool, (b = true ↔ CodeOk (prodL s) l) ∧ ∀ k, l.length + 14 ≤ k → impl_isCode.f k s l = some b := by
  have hP := prodL_le8 s hs.2.2.1 hs.2.1
  obtain ⟨b1, hb1, g1⟩ := areWords_ev s hs l hl
  by_cases hlen : (l.length : Int) > prodL s
  · refine ⟨false, ⟨fun h => absurd h (by decide), fun h => ?_⟩, fun k hk => ?_⟩
    · rcases h.len with h2 | h2 <;> omega
    · obtain ⟨k, rfl⟩ : ∃ q, k = q + 1 := ⟨k - 1, by omega⟩
      unfold impl_isCode.f
      rw [implCount_ev s hs.2.2.1 hs.2.1 _ (by omega), Option.bind_some, if_pos hlen]
      simp [impl_isCode.j0]
  · cases hb : b1 with
    | false =>
      subst hb
      refine ⟨false, ⟨fun h => absurd h (by decide), fun h => ?_⟩, fun k hk => ?_⟩
      · exact absurd (hb1.2 fun j hj => (h j hj).1) (by decide)
      · obtain ⟨k, rfl⟩ : ∃ q, k = q + 1 := ⟨k - 1, by omega⟩
        unfold impl_isCode.f
        rw [implCount_ev s hs.2.2.1 hs.2.1 _ (by omega), Option.bind_some, if_neg hlen, g1 _ (by omega), Option.bind_some]
        simp [impl_isCode.j0]
    | true =>
      subst hb
      have hall := hb1.1 rfl
      obtain ⟨b, hb, g⟩ : ∃ b : Bool, (b = true ↔ ∀ j (hj : j < l.length), 1 ≤ j → ∀ h0 : 0 < j, l[j-1]'(by omega) < l[j]) ∧ ∀ k, l.length + 1 ≤ k → impl_isCode.l0 k l 1 = some b := by
        by_cases h0 : l.length = 0
        · refine ⟨true, ⟨fun _ j hj => by omega, fun _ => rfl⟩, fun k hk => ?_⟩
          obtain ⟨k, rfl⟩ : ∃ q, k = q + 1 := ⟨k - 1, by omega⟩
          simp only [impl_isCode.l0]; rw [if_neg (by omega)]
        · obtain ⟨b, hb, g⟩ := ascend_l l hl (l.length - 1) 1 (by omega) (by omega)
          exact ⟨b, hb, fun k hk => g k (by omega)⟩
      refine ⟨b, ⟨fun h j hj => ⟨hall j hj, fun h0 => hb.1 h j hj (by omega) h0⟩, fun h => hb.2 fun j hj _ h0 => (h j hj).2 h0⟩, fun k hk => ?_⟩
      obtain ⟨k, rfl⟩ : ∃ q, k = q + 1 := ⟨k - 1, by omega⟩
      unfold impl_isCode.f
      rw [implCount_ev s hs.2.2.1 hs.2.1 _ (by omega), Option.bind_some, if_neg hlen, g1 _ (by omega), Option.bind_some]
      simp only [Bool.not_true, impl_isCode.j0]
      rw [if_neg (by decide)]
      exact g k (by omega)

theorem eq_l (l : List Int) (hl : l.length ≤ 4611686018427387904) : ∀ d i : Nat, i + d = l.length → ∀ k, d < k → laws_eqInt64S.l0 k l l i = some true
  | 0, i, e, k, hk => by
    obtain ⟨k, rfl⟩ : ∃ q, k = q + 1 := ⟨k - 1, by omega⟩
    simp only [laws_eqInt64S.l0]; rw [if_neg (by omega)]
  | d+1, i, e, k, hk => by
    obtain ⟨k, rfl⟩ : ∃ q, k = q + 1 := ⟨k - 1, by omega⟩
    simp only [laws_eqInt64S.l0]
    rw [if_pos (by omega), if_pos (by omega), if_pos (by omega), if_pos trivial, w64 (by omega) (by omega), show (i : Int) + 1 = ((i + 1 : Nat) : Int) by omega]
    exact eq_l l hl d (i+1) (by omega) k (by omega)
theorem eq_ev (l : List Int) (hl : l.length ≤ 4611686018427387904) (k : Nat) (hk : l.length < k) : laws_eqInt64S.f k l l = some true := by
  unfold laws_eqInt64S.f
  rw [if_pos rfl]
  exact eq_l l hl l.length 0 (by omega) k hk

theorem to_l (l : List Int) (hl : l.length ≤ 4611686018427387904) : ∀ (B A : List Int), l = A ++ B → ∀ k, B.length < k → laws_toInt64S.l0 k l (A ++ List.replicate B.length 0) A.length = some l
  | [], A, e, k, hk => by
    obtain ⟨k, rfl⟩ : ∃ q, k = q + 1 := ⟨k - 1, by simp at hk; omega⟩
    simp only [laws_toInt64S.l0]
    simp at e
    subst e
    rw [if_neg (by omega)]; simp
  | b :: B, A, e, k, hk => by
    obtain ⟨k, rfl⟩ : ∃ q, k = q + 1 := ⟨k - 1, by simp at hk; omega⟩
    simp only [laws_toInt64S.l0]
    have hlen : l.length = A.length + (B.length + 1) := by rw [e]; simp
    rw [if_pos (by omega), if_pos (by omega), if_pos (by simp; omega)]
    have hb : rd l (A.length : Int) = b := by rw [e]; exact rd_mid A B b
    rw [hb, List.length_cons, List.replicate_succ, Int.toNat_natCast, set_mid, w64 (by omega) (by omega), show (A.length : Int) + 1 = ((A ++ [b]).length : Int) by simp]
    exact to_l l hl B (A ++ [b]) (by rw [e]; simp) k (by simp at hk; omega)
theorem to_ev (l : List Int) (hl : l.length ≤ 1048576) (k : Nat) (hk : 1048576 < k) : laws_toInt64S.f k l = some l := by
  unfold laws_toInt64S.f
  rw [if_pos (by omega), if_pos (by omega), Int.toNat_natCast]
  exact to_l l (by omega) l [] rfl k (by omega)

theorem bool_of_iff {a b : Bool} {P : Prop} (h1 : a = true ↔ P) (h2 : b = true ↔ P) : a = b := by
  rw [Bool.eq_iff_iff, h1, h2]
theorem FnExactIsDesk (l0 : List Int) (_ : l0.length ≤ maxLen) (_ : ∀ x ∈ l0, (Lit.int .i64 x).wf = true) (l1 : List Int) (_ : l1.length ≤ maxLen) (_ : ∀ x ∈ l1, (Lit.int .i64 x).wf = true) (a : Int) (_ : (Lit.int .i64 a).wf = true) (b : Int) (_ : (Lit.int .i64 b).wf = true) (c : Int) (_ : (Lit.int .i64 c).wf = true) (d : Int) (_ : (Lit.int .i64 d).wf = true) (l6 : List Int) (_ : l6.length ≤ maxLen) (_ : ∀ x ∈ l6, (Lit.int .i64 x).wf = true) : ∃ k, laws_FnExactIsDesk.f k l0 l1 a b c d l6 = some true := by
  rename_i hm0 _ hm1 _ _ _ _ _ hm6 _
  unfold maxLen at hm0 hm1 hm6
  by_cases hbig : l0.length + l1.length + l6.length ≤ 1048576
  · obtain ⟨k, hk⟩ : ∃ k : Nat, 1048700 ≤ k := ⟨1048700, Nat.le_refl _⟩
    refine ⟨k, ?_⟩
    have hsz : ∃ z : Int, laws_szDesk.f l0 l1 a b c d l6 1048576 = some z ∧ ¬ z < 0 := by
      unfold laws_szDesk.f laws_szSpace.f laws_szInt64S.f
      rw [w64 (i := 1048576 - (l0.length : Int)) (by omega) (by omega), if_neg (by omega)]
      simp only [Option.bind_some]
      rw [if_neg (by omega)]
      simp only [Option.bind_some]
      rw [if_neg (by omega), w64 (by omega) (by omega), if_neg (by omega)]
      simp only [Option.bind_some]
      rw [if_neg (by omega), w64 (by omega) (by omega), if_neg (by omega)]
      simp only [Option.bind_some]
      rw [if_neg (by omega)]
      exact ⟨_, rfl, by omega⟩
    obtain ⟨z, hz, hz0⟩ := hsz
    have hto : laws_toDesk.f k l0 l1 a b c d l6 = some (l0, l1, a, b, c, d, l6) := by
      unfold laws_toDesk.f laws_toSpace.f laws_toLottery.f
      rw [to_ev l0 (by omega) k (by omega), to_ev l1 (by omega) k (by omega), to_ev l6 (by omega) k (by omega)]
      rfl
    have heq : laws_eqDesk.f k l0 l1 a b c d l6 l0 l1 a b c d l6 = some true := by
      unfold laws_eqDesk.f laws_eqSpace.f laws_eqLottery.f
      rw [eq_ev l0 (by omega) k (by omega), eq_ev l1 (by omega) k (by omega), eq_ev l6 (by omega) k (by omega)]
      simp
    have hboth : ∃ r : Bool, spec_IsDesk.f k l0 l1 a b c d l6 = some r ∧ impl_IsDesk.f k l0 l1 a b c d l6 = some r := by
      unfold spec_IsDesk.f impl_IsDesk.f spec_l01Given.f
      rw [specIs_ev l0 k (by omega), implIs_ev l0 k (by omega)]
      by_cases hs : SpaceOk l0
      · rw [decide_eq_true hs]
        obtain ⟨b1, e1, g1⟩ := specCode_ev l0 hs l1 (by omega)
        obtain ⟨b2, e2, g2⟩ := isCode_ev l0 hs l1 (by omega)
        obtain rfl := bool_of_iff e1 e2
        rw [Option.bind_some, if_pos rfl, g1 k (by omega), Option.bind_some, Option.bind_some, if_pos rfl, g2 k (by omega), Option.bind_some]
        cases b1 with
        | false => exact ⟨false, by rw [if_neg (by decide), Option.bind_some, if_neg (by decide)], by rw [if_neg (by decide)]⟩
        | true =>
          rw [if_pos rfl, Option.bind_some, if_pos rfl, if_pos rfl]
          unfold spec_l08Tickets.f impl_areTickets.f
          rw [isLot]
          rcases lot_cases a b c d with h | ⟨h, n, p, q, e, rfl, rfl, rfl, rfl, h1, h2, _⟩
          · rw [h]; exact ⟨false, rfl, rfl⟩
          · obtain ⟨t, t1, t2, _⟩ := tickets_both n p q e h1 h2 l6 (by omega) l6.length 0 (by omega)
            rw [h, Option.bind_some, if_pos rfl, Option.bind_some, if_pos rfl, show (0 : Int) = ((0 : Nat) : Int) from rfl, t1 k (by omega), t2 k (by omega)]
            cases t with
            | true => exact ⟨true, rfl, rfl⟩
            | false => exact ⟨false, rfl, rfl⟩
      · rw [decide_eq_false hs]
        exact ⟨false, rfl, rfl⟩
    obtain ⟨r, h1, h2⟩ := hboth
    unfold laws_FnExactIsDesk.f
    rw [hz, Option.bind_some, if_neg hz0, hto]
    simp only [Option.bind_some]
    rw [h1, h2]
    simp only [Option.bind_some, bne_self_eq_false, Bool.false_eq_true, if_false]
    rw [heq]
    simp
  · refine ⟨0, ?_⟩
    have hsz : ∃ z : Int, laws_szDesk.f l0 l1 a b c d l6 1048576 = some z ∧ z < 0 := by
      unfold laws_szDesk.f laws_szSpace.f laws_szInt64S.f
      rw [w64 (i := 1048576 - (l0.length : Int)) (by omega) (by omega)]
      by_cases h0 : (1048576 : Int) - (l0.length : Int) < 0
      · rw [if_pos h0]; exact ⟨-1, rfl, by omega⟩
      · rw [if_neg h0]
        simp only [Option.bind_some]
        rw [if_neg h0]
        simp only [Option.bind_some]
        rw [if_neg h0, w64 (by omega) (by omega)]
        by_cases h1 : (1048576 : Int) - (l0.length : Int) - (l1.length : Int) < 0
        · rw [if_pos h1]; exact ⟨-1, rfl, by omega⟩
        · rw [if_neg h1]
          simp only [Option.bind_some]
          rw [if_neg h1, w64 (by omega) (by omega), if_pos (by omega)]
          exact ⟨-1, rfl, by omega⟩
    obtain ⟨z, hz, hz0⟩ := hsz
    unfold laws_FnExactIsDesk.f
    rw [hz, Option.bind_some, if_pos hz0]

end Go.Proofs.Ytpmhfkjaijcioaa.Pure
