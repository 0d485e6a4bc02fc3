/- The first missed draw is told alike, and the argument is left alone. For every lottery and tickets. -/
import Derived.Test.YtklbkleibefldaaPFnExactFirstMissedx0
import Derived.Test.YtklbkleibefldaaPFnExactFirstMissedx1
import Derived.Test.YtklbkleibefldaaPFnExactFirstMissedx2
import Derived.Test.YtklbkleibefldaaPFnExactFirstMissedx3
import Derived.Test.YtklbkleibefldaaPFnExactFirstMissedx4
import Derived.Test.YtklbkleibefldaaPFnExactFirstMissedx5
import Derived.Test.YtklbkleibefldaaLotMath
import Derived.Test.YtklbkleibefldaaLotHit
import Derived.Test.YtklbkleibefldaaLotRank
import Derived.KernelRfl
namespace Go.Proofs.Ytklbkleibefldaa.Pure
open Go Go.RowKit Go.Proofs.Ytklbkleibefldaa.PFnExactFirstMissed Go.Proofs.YtklbkleibefldaaW.PrintWords Go.Proofs.YtklbkleibefldaaW.PrintLast Go.Proofs.YtklbkleibefldaaW.PrintMore Go.Proofs.Ytklbkleibefldaa.LotM
set_option linter.unusedVariables false
set_option linter.unusedSimpArgs false
theorem shl_one : ∀ n, n < 13 → shl .i64 1 ((n : Nat) : Int) = ((2 ^ n : Nat) : Int) := by decide +kernel
theorem pow_le {n : Nat} (h : n ≤ 12) : 2 ^ n ≤ 4096 := Nat.pow_le_pow_right (n := 2) (by omega) h
theorem w64 {i : Int} (h0 : -9223372036854775808 ≤ i) (h : i < 9223372036854775808) : wrap64 i = i := by unfold wrap64; omega
theorem u64 {i : Int} (h0 : 0 ≤ i) (h : i < 9223372036854775808) : IntKind.u64.wrap i = i := by
  have e : IntKind.u64.wrap i = i % 18446744073709551616 := by simp [IntKind.wrap, IntKind.bits, IntKind.signed]
  rw [e]; omega
def allN (p : Nat → Bool) : Nat → Bool
  | 0 => true
  | n+1 => p n && allN p n
theorem allN_at (p : Nat → Bool) : ∀ n, allN p n = true → ∀ s, s < n → p s = true
  | 0, _, s, h => by omega
  | n+1, h, s, hs => by
    simp only [allN, Bool.and_eq_true] at h
    by_cases e : s = n
    · subst e; exact h.1
    · exact allN_at p n h.2 s (by omega)

/-- What a lottery's numbers are. -/
theorem lot_cases (a b c d : Int) : impl_IsLottery.f a b c d = some false ∨ (impl_IsLottery.f a b c d = some true ∧ ∃ n p q h : Nat, a = n ∧ b = p ∧ c = q ∧ d = h ∧ 1 ≤ n ∧ n ≤ 12 ∧ 1 ≤ p ∧ p ≤ n ∧ 1 ≤ q ∧ q ≤ n ∧ 1 ≤ h ∧ h ≤ p ∧ h ≤ q) := by
  by_cases hv : 1 ≤ a ∧ a ≤ 12 ∧ 1 ≤ b ∧ b ≤ a ∧ 1 ≤ c ∧ c ≤ a ∧ 1 ≤ d ∧ d ≤ b ∧ d ≤ c
  · refine .inr ⟨?_, a.toNat, b.toNat, c.toNat, d.toNat, by omega, by omega, by omega, by omega, by omega, by omega, by omega, by omega, by omega, by omega, by omega, by omega, by omega⟩
    unfold impl_IsLottery.f mn
    repeat' split
    all_goals simp_all
    all_goals omega
  · refine .inl ?_
    unfold impl_IsLottery.f mn
    repeat' split
    all_goals simp_all
    all_goals omega

theorem isLot (a b c d : Int) : spec_l08Is.f a b c d = impl_IsLottery.f a b c d := by
  unfold spec_l08Is.f spec_l01In.f impl_IsLottery.f mn
  repeat' split
  all_goals simp_all
  all_goals omega

/-- A set of m of n numbers. -/
def isT (n m : Nat) (s : Int) : Bool := decide (0 ≤ s) && decide (s < ((2 ^ n : Nat) : Int)) && (((pc s.toNat : Nat) : Int) == (m : Int))
theorem isT_nat {n m : Nat} {s : Int} (h : isT n m s = true) : ∃ t : Nat, s = t ∧ t < 2 ^ n ∧ pc t = m := by
  simp only [isT, Bool.and_eq_true, decide_eq_true_eq, beq_iff_eq] at h
  obtain ⟨⟨h0, h1⟩, h2⟩ := h
  refine ⟨s.toNat, by omega, by omega, by omega⟩

def okSS (s : Nat) : Bool := match spec_l08Size.f 14 (s : Int) with
  | some r => r == (pcF 12 s : Int)
  | none => false
theorem okSS_all : allN okSS 4096 = true := by kernel_rfl
theorem ssize_nat (s : Nat) (h : s < 4096) : ∀ k, 14 ≤ k → spec_l08Size.f k (s : Int) = some (pc s : Int) := by
  intro k hk
  have := allN_at okSS 4096 okSS_all s h
  unfold okSS at this
  split at this
  · rename_i r hr
    rw [beq_iff_eq.mp this] at hr
    exact at_rounds (g := fun k => spec_l08Size.f k (s : Int)) (fun k => spec_l08Size.mono _ k) hk hr
  · cases this

theorem specSet_ev (n p q h m : Nat) (s : Int) (hn1 : 1 ≤ n) (hn : n ≤ 12) (k : Nat) (hk : 14 ≤ k) : spec_l08Set.f k n p q h s m = some (isT n m s) := by
  have hp := pow_le hn
  have hp1 : 1 ≤ 2 ^ n := Nat.one_le_two_pow
  unfold spec_l08Set.f spec_l01In.f isT
  rw [u64 (by omega) (by omega), if_pos (by omega), shl_one n (by omega), w64 (by omega) (by omega)]
  generalize 2 ^ n = P at *
  by_cases h0 : 0 ≤ s
  · rw [if_pos h0]
    simp only [Option.bind_some]
    by_cases h1 : s < (P : Int)
    · have h2 : s ≤ (P : Int) - 1 := by omega
      obtain ⟨t, rfl⟩ : ∃ t : Nat, s = t := ⟨s.toNat, by omega⟩
      rw [ssize_nat t (by omega) k hk]
      simp [h1, h2]
    · have h2 : ¬ s ≤ (P : Int) - 1 := by omega
      simp [h1, h2]
  · rw [if_neg h0]; simp [h0]

theorem isSet_ev (n p q h : Nat) (s : Int) (hn : n ≤ 12) : impl_isSet.f n p q h s = some (decide (0 ≤ s) && decide (s < ((2 ^ n : Nat) : Int))) := by
  unfold impl_isSet.f
  rw [shl_one n (by omega)]
  by_cases h0 : 0 ≤ s
  · rw [if_pos h0, if_pos (by omega)]; simp [h0]
  · rw [if_neg h0]; simp [h0]

def okS (s : Nat) : Bool := match impl_size.f (s : Int) with
  | some r => r == (pcF 12 s : Int)
  | none => false
theorem okS_all : allN okS 4096 = true := by kernel_rfl
theorem size_nat (s : Nat) (h : s < 4096) : impl_size.f (s : Int) = some (pc s : Int) := by
  have := allN_at okS 4096 okS_all s h
  unfold okS at this
  split at this
  · rename_i r hr; rw [hr, beq_iff_eq.mp this]; rfl
  · cases this

theorem isTicket_ev (n p q h : Nat) (s : Int) (hn : n ≤ 12) : impl_isTicket.f n p q h s = some (isT n p s) := by
  have hp := pow_le hn
  unfold impl_isTicket.f
  rw [isSet_ev n p q h s hn]
  unfold isT
  generalize 2 ^ n = P at *
  by_cases hv : 0 ≤ s ∧ s < (P : Int)
  · obtain ⟨t, rfl⟩ : ∃ t : Nat, s = t := ⟨s.toNat, by omega⟩
    simp only [hv.1, hv.2, decide_true, Bool.and_self, Option.bind_some, if_true]
    rw [size_nat t (by omega)]; simp
  · have : (decide (0 ≤ s) && decide (s < (P : Int))) = false := by simp; omega
    rw [this]; simp

theorem set_mid (A B : List Int) (b s : Int) : (A ++ b :: B).set A.length s = (A ++ [s]) ++ B := by
  induction A with
  | nil => rfl
  | cons a A ih => simp [List.set_cons_succ]
theorem rd_mid (A B : List Int) (b : Int) : rd (A ++ b :: B) (A.length : Int) = b := by simp [rd]
theorem rd_nat (M : List Int) (i : Nat) (h : i < M.length) : rd M (i : Int) = M[i] := by simp [rd, List.getElem?_eq_getElem h]
def seqI : Int → Nat → List Int
  | _, 0 => []
  | s, n+1 => s :: seqI (s+1) n

theorem tickets_both (n p q h : Nat) (hn1 : 1 ≤ n) (hn : n ≤ 12) (l : List Int) (hl : l.length ≤ 1048576) : ∀ d i : Nat, i + d = l.length → ∃ b : Bool, (∀ k, d + 20 ≤ k → spec_l08Tickets.l0 k l i n p q h = some (if b = true then 0 else 2)) ∧ (∀ k, d + 20 ≤ k → impl_areTickets.l0 k l l l.length i n p q h = some b) ∧ (b = true → l.length ≤ 200 ∧ ∀ j, i ≤ j → ∀ hj : j < l.length, isT n p l[j] = true)
  | 0, i, e => by
    refine ⟨decide ((l.length : Int) ≤ 200), fun k hk => ?_, fun k hk => ?_, fun hb => ⟨?_, fun j h1 h2 => by omega⟩⟩
    · obtain ⟨k, rfl⟩ : ∃ q, k = q + 1 := ⟨k - 1, by omega⟩
      simp only [spec_l08Tickets.l0]
      rw [if_neg (by omega)]
      by_cases hh : (l.length : Int) > 200
      · rw [if_pos hh, if_neg]; simp; omega
      · rw [if_neg hh, if_pos]; simp; omega
    · obtain ⟨k, rfl⟩ : ∃ q, k = q + 1 := ⟨k - 1, by omega⟩
      simp only [impl_areTickets.l0]
      rw [if_neg (by omega)]
    · simp at hb; omega
  | d+1, i, e => by
    have hi : i < l.length := by omega
    have hw : wrap64 ((i : Int) + 1) = ((i + 1 : Nat) : Int) := by rw [w64 (by omega) (by omega)]; omega
    have hr := rd_nat l i hi
    cases ht : isT n p l[i] with
    | false =>
      refine ⟨false, fun k hk => ?_, fun k hk => ?_, fun hb => by cases hb⟩
      · obtain ⟨k, rfl⟩ : ∃ q, k = q + 1 := ⟨k - 1, by omega⟩
        simp only [spec_l08Tickets.l0]
        rw [if_pos (by omega), if_pos (by omega), hr, specSet_ev n p q h p _ hn1 hn k (by omega), ht]
        simp
      · obtain ⟨k, rfl⟩ : ∃ q, k = q + 1 := ⟨k - 1, by omega⟩
        simp only [impl_areTickets.l0]
        rw [if_pos (by omega), if_pos (by omega), if_pos (by omega), hr, isTicket_ev n p q h _ hn, ht]
        simp
    | true =>
      by_cases h0 : 0 < i
      · have hw1 : wrap64 ((i : Int) - 1) = ((i - 1 : Nat) : Int) := by rw [w64 (by omega) (by omega)]; omega
        have hr1 := rd_nat l (i - 1) (by omega)
        by_cases hge : l[i] ≤ l[i-1]
        · refine ⟨false, fun k hk => ?_, fun k hk => ?_, fun hb => by cases hb⟩
          · obtain ⟨k, rfl⟩ : ∃ q, k = q + 1 := ⟨k - 1, by omega⟩
            simp only [spec_l08Tickets.l0]
            rw [if_pos (by omega), if_pos (by omega), hr, specSet_ev n p q h p _ hn1 hn k (by omega), ht]
            simp only [Option.bind_some, if_true]
            rw [if_pos (by omega), hw1, if_pos (by omega), if_pos (by omega), hr1, if_pos (by omega)]
            simp
          · obtain ⟨k, rfl⟩ : ∃ q, k = q + 1 := ⟨k - 1, by omega⟩
            simp only [impl_areTickets.l0]
            rw [if_pos (by omega), if_pos (by omega), if_pos (by omega), hr, isTicket_ev n p q h _ hn, ht]
            simp only [Option.bind_some, if_true]
            rw [if_pos (by omega), hw1, if_pos (by omega), if_pos (by omega), hr1, if_pos (by omega)]
        · obtain ⟨b, g1, g2, g3⟩ := tickets_both n p q h hn1 hn l hl d (i+1) (by omega)
          refine ⟨b, fun k hk => ?_, fun k hk => ?_, fun hb => ⟨(g3 hb).1, fun j h1 h2 => ?_⟩⟩
          · obtain ⟨k, rfl⟩ : ∃ q, k = q + 1 := ⟨k - 1, by omega⟩
            simp only [spec_l08Tickets.l0]
            rw [if_pos (by omega), if_pos (by omega), hr, specSet_ev n p q h p _ hn1 hn k (by omega), ht]
            simp only [Option.bind_some, if_true]
            rw [if_pos (by omega), hw1, if_pos (by omega), if_pos (by omega), hr1, if_neg (by omega), hw]
            exact g1 k (by omega)
          · obtain ⟨k, rfl⟩ : ∃ q, k = q + 1 := ⟨k - 1, by omega⟩
            simp only [impl_areTickets.l0]
            rw [if_pos (by omega), if_pos (by omega), if_pos (by omega), hr, isTicket_ev n p q h _ hn, ht]
            simp only [Option.bind_some, if_true]
            rw [if_pos (by omega), hw1, if_pos (by omega), if_pos (by omega), hr1, if_neg (by omega), hw]
            exact g2 k (by omega)
          · by_cases hj : j = i
            · subst hj; exact ht
            · exact (g3 hb).2 j (by omega) h2
      · obtain ⟨b, g1, g2, g3⟩ := tickets_both n p q h hn1 hn l hl d (i+1) (by omega)
        refine ⟨b, fun k hk => ?_, fun k hk => ?_, fun hb => ⟨(g3 hb).1, fun j h1 h2 => ?_⟩⟩
        · obtain ⟨k, rfl⟩ : ∃ q, k = q + 1 := ⟨k - 1, by omega⟩
          simp only [spec_l08Tickets.l0]
          rw [if_pos (by omega), if_pos (by omega), hr, specSet_ev n p q h p _ hn1 hn k (by omega), ht]
          simp only [Option.bind_some, if_true]
          rw [if_neg (by omega), hw]
          exact g1 k (by omega)
        · obtain ⟨k, rfl⟩ : ∃ q, k = q + 1 := ⟨k - 1, by omega⟩
          simp only [impl_areTickets.l0]
          rw [if_pos (by omega), if_pos (by omega), if_pos (by omega), hr, isTicket_ev n p q h _ hn, ht]
          simp only [Option.bind_some, if_true]
          rw [if_neg (by omega), hw]
          exact g2 k (by omega)
        · by_cases hj : j = i
          · subst hj; exact ht
          · exact (g3 hb).2 j (by omega) h2

/-- The error of a lottery and tickets, told alike; and what the tickets are where there is none. -/
theorem tickets_ev (a b c d : Int) (l : List Int) (hl : l.length ≤ 1048576) : ∃ e : Int, (∀ k, l.length + 20 ≤ k → spec_l08Tickets.f k a b c d l = some e) ∧ (∀ k, l.length + 20 ≤ k → impl_ticketsCode.f k a b c d l = some e) ∧
    (e = 0 ∨ e = 1 ∨ e = 2) ∧ (e = 0 → ∃ n p q h : Nat, a = n ∧ b = p ∧ c = q ∧ d = h ∧ 1 ≤ n ∧ n ≤ 12 ∧ 1 ≤ p ∧ p ≤ n ∧ 1 ≤ q ∧ q ≤ n ∧ 1 ≤ h ∧ h ≤ p ∧ h ≤ q ∧ l.length ≤ 200 ∧ ∃ M : List Nat, l = M.map Int.ofNat ∧ ∀ t ∈ M, t < 2 ^ n ∧ pc t = p) := by
  rcases lot_cases a b c d with h | ⟨h, n, p, q, e, rfl, rfl, rfl, rfl, h1, h2, h3, h4, h5, h6, h7, h8, h9⟩
  · refine ⟨1, fun k hk => ?_, fun k hk => ?_, by omega, fun h => by omega⟩
    · unfold spec_l08Tickets.f; rw [isLot, h]; rfl
    · unfold impl_ticketsCode.f; rw [h]; rfl
  · obtain ⟨t, g1, g2, g3⟩ := tickets_both n p q e h1 h2 l hl l.length 0 (by omega)
    refine ⟨if t = true then 0 else 2, fun k hk => ?_, fun k hk => ?_, by split <;> omega, fun h0 => ?_⟩
    · unfold spec_l08Tickets.f
      rw [isLot, h]
      simp only [Option.bind_some, if_true]
      exact g1 k (by omega)
    · unfold impl_ticketsCode.f impl_areTickets.f
      rw [h]
      simp only [Option.bind_some, if_true]
      have := g2 k (by omega)
      rw [show (0 : Int) = ((0 : Nat) : Int) from rfl, this]
      cases t <;> rfl
    · have ht : t = true := by
        cases t with
        | true => rfl
        | false => simp at h0
      obtain ⟨g4, g5⟩ := g3 ht
      refine ⟨n, p, q, e, rfl, rfl, rfl, rfl, h1, h2, h3, h4, h5, h6, h7, h8, h9, g4, l.map Int.toNat, ?_, ?_⟩
      · rw [List.map_map]
        apply List.ext_getElem (by simp)
        intro j hj1 hj2
        obtain ⟨u, hu, _⟩ := isT_nat (g5 j (by omega) hj1)
        simp [hu]
      · intro u hu
        rw [List.mem_map] at hu
        obtain ⟨x, hx, rfl⟩ := hu
        obtain ⟨j, hj, rfl⟩ := List.mem_iff_getElem.1 hx
        obtain ⟨u, hu, hu2⟩ := isT_nat (g5 j (by omega) hj)
        rw [hu]; simpa using hu2

theorem specSets_l (n p q h m : Nat) (hn1 : 1 ≤ n) (hn : n ≤ 12) : ∀ d i (acc : List Int), i + d = 2 ^ n → acc.length ≤ i → ∀ k, d + 20 ≤ k → spec_l08Sets.l0 k m acc i n p q h = some (acc ++ ((List.range' i d).filter (fun s => pc s == m)).map Int.ofNat)
  | 0, i, acc, e, ha, k, hk => by
    obtain ⟨k, rfl⟩ : ∃ q, k = q + 1 := ⟨k - 1, by omega⟩
    have hp := pow_le hn
    simp only [spec_l08Sets.l0]
    rw [u64 (by omega) (by omega), if_pos (by omega), shl_one n (by omega), if_neg (by omega)]; simp
  | d+1, i, acc, e, ha, k, hk => by
    obtain ⟨k, rfl⟩ : ∃ q, k = q + 1 := ⟨k - 1, by omega⟩
    have hp := pow_le hn
    simp only [spec_l08Sets.l0]
    rw [u64 (by omega) (by omega), if_pos (by omega), shl_one n (by omega), if_pos (by omega), ssize_nat i (by omega) k (by omega), Option.bind_some]
    rw [w64 (by omega) (by omega), show ((i : Int) + 1) = ((i + 1 : Nat) : Int) by omega]
    rw [List.range'_succ, List.filter_cons]
    by_cases e : pc i = m
    · rw [if_pos (by omega), if_pos (by omega)]
      rw [specSets_l n p q h m hn1 hn d (i+1) (acc ++ [(i : Int)]) (by omega) (by simp; omega) k (by omega)]
      simp [e]
    · rw [if_neg (by omega)]
      rw [specSets_l n p q h m hn1 hn d (i+1) acc (by omega) (by omega) k (by omega)]
      simp [e]
theorem specSets_ev (n p q h m : Nat) (hn1 : 1 ≤ n) (hn : n ≤ 12) : ∀ k, 5000 ≤ k → spec_l08Sets.f k n p q h m = some ((S n m).map Int.ofNat) := by
  intro k hk
  have hp := pow_le hn
  unfold spec_l08Sets.f
  rw [show (0 : Int) = ((0 : Nat) : Int) from rfl, specSets_l n p q h m hn1 hn (2^n) 0 [] (by omega) (by simp) k (by omega)]
  simp [S, List.range_eq_range']

theorem sets_l (m : Nat) (N : Nat) (hN : N ≤ 4096) : ∀ d i (acc : List Int), i + d = N → acc.length ≤ i → ∀ k, d < k → impl_sets.l0 k m acc N i = some (acc ++ ((List.range' i d).filter (fun s => pc s == m)).map Int.ofNat)
  | 0, i, acc, h, ha, k, hk => by
    obtain ⟨k, rfl⟩ : ∃ q, k = q + 1 := ⟨k - 1, by omega⟩
    simp only [impl_sets.l0]; rw [if_neg (by omega)]; simp
  | d+1, i, acc, h, ha, k, hk => by
    obtain ⟨k, rfl⟩ : ∃ q, k = q + 1 := ⟨k - 1, by omega⟩
    simp only [impl_sets.l0]
    rw [if_pos (by omega), size_nat i (by omega)]
    simp only [Option.bind_some]
    rw [w64 (by omega) (by omega), show ((i : Int) + 1) = ((i + 1 : Nat) : Int) by omega]
    rw [List.range'_succ, List.filter_cons]
    by_cases e : pc i = m
    · rw [if_pos (by omega), if_pos (by omega)]
      rw [sets_l m N hN d (i+1) (acc ++ [(i : Int)]) (by omega) (by simp; omega) k (by omega)]
      simp [e]
    · rw [if_neg (by omega)]
      rw [sets_l m N hN d (i+1) acc (by omega) (by omega) k (by omega)]
      simp [e]
theorem sets_ev (n m : Nat) (hn : n ≤ 12) : ∀ k, 4096 < k → impl_sets.f k n m = some ((S n m).map Int.ofNat) := by
  intro k hk
  have hp := pow_le hn
  unfold impl_sets.f
  rw [if_pos (by omega), shl_one n (by omega)]
  rw [show (0 : Int) = ((0 : Nat) : Int) from rfl, sets_l m (2^n) hp (2^n) 0 [] (by omega) (by simp) k (by omega)]
  simp [S, List.range_eq_range']

theorem S_lt {n m x : Nat} (hn : n ≤ 12) (h : x ∈ S n m) : x < 4096 := Nat.lt_of_lt_of_le (mem_S.1 h).1 (pow_le hn)
theorem S_len (n m : Nat) (hn : n ≤ 12) : (S n m).length ≤ 4096 := by
  have h : (S n m).length ≤ (List.range (2^n)).length := List.length_filter_le _ _
  rw [List.length_range] at h
  exact Nat.le_trans h (pow_le hn)

theorem w_i64 : ∀ n : Int, 0 ≤ n → n < 2 ^ 63 → IntKind.i64.wrap n = n := fun n h0 h1 => by rw [IntKind.wrap_i64]; omega
theorem band (a b : Nat) (ha : a < 4611686018427387904) (hb : b < 4611686018427387904) : Go.bits .and .i64 (a : Int) (b : Int) = ((a &&& b : Nat) : Int) :=
  (bits_nat .i64 63 (by decide) w_i64 a b (by omega) (by omega)).1
theorem bor (a b : Nat) (ha : a < 4611686018427387904) (hb : b < 4611686018427387904) : Go.bits .or .i64 (a : Int) (b : Int) = ((a ||| b : Nat) : Int) :=
  (bits_nat .i64 63 (by decide) w_i64 a b (by omega) (by omega)).2
theorem shr_nat (a i : Nat) (hi : i ≤ 64) : shr .i64 (a : Int) (i : Int) = ((a / 2 ^ i : Nat) : Int) := by
  unfold shr
  have e : min ((i : Int).toNat) IntKind.i64.bits = i := by
    have : IntKind.i64.bits = 64 := rfl
    rw [this, Int.toNat_natCast]; omega
  rw [e]; simp
theorem bit_nat (a i : Nat) (ha : a < 4611686018427387904) (hi : i ≤ 64) : Go.bits .and .i64 (shr .i64 (a : Int) (i : Int)) 1 = ((a / 2 ^ i % 2 : Nat) : Int) := by
  rw [shr_nat a i hi, show (1 : Int) = ((1 : Nat) : Int) from rfl, band _ _ (Nat.lt_of_le_of_lt (Nat.div_le_self _ _) ha) (by omega), Nat.and_one_is_mod]

theorem rd_map (M : List Nat) (i : Nat) (h : i < M.length) : rd (M.map Int.ofNat) (i : Int) = (M[i] : Int) := by
  simp [rd, List.getElem?_eq_getElem h]

theorem hitB_nat (n p q h t d : Nat) (ht : t < 4096) (hd : d < 4096) : hitB n p q h t d = decide (h ≤ pc (t &&& d)) := by
  have hl := land_lt 12 t d (by omega)
  unfold hitB impl_hits.f
  rw [band t d (by omega) (by omega), size_nat _ (by omega), Option.bind_some]
  simp
section
variable (n p q h : Nat) (M D : List Nat) (hM : ∀ t ∈ M, t < 4096) (hD : ∀ t ∈ D, t < 4096) (hl : M.length ≤ 200) (hl2 : D.length ≤ 4096)
include hM hD hl hl2
theorem missed_l1 (j : Nat) (hj : j < D.length) (acc : List Int) (ha : acc.length ≤ j) (r : List Int)
    (yes : Ev (fun k => spec_l08Missed.l0 k (M.map Int.ofNat) (D.map Int.ofNat) acc ((j + 1 : Nat) : Int) n p q h) r ∨ ¬ (M.any fun t => decide (h ≤ pc (t &&& D[j]))) = true)
    (no : Ev (fun k => spec_l08Missed.l0 k (M.map Int.ofNat) (D.map Int.ofNat) (acc ++ [(D[j] : Int)]) ((j + 1 : Nat) : Int) n p q h) r ∨ (M.any fun t => decide (h ≤ pc (t &&& D[j]))) = true) :
    ∀ (e i : Nat) (b : Bool), i + e = M.length → (b = true → (M.any fun t => decide (h ≤ pc (t &&& D[j]))) = true) → (b = false → (M.any fun t => decide (h ≤ pc (t &&& D[j]))) = ((M.drop i).any fun t => decide (h ≤ pc (t &&& D[j])))) →
      Ev (fun k => spec_l08Missed.l1 k (M.map Int.ofNat) (D.map Int.ofNat) acc j b i n p q h) r
  | e, i, true, e1, hb, _ => by
    have hw : wrap64 ((j : Int) + 1) = ((j + 1 : Nat) : Int) := by rw [w64 (by omega) (by omega)]; omega
    have y := yes.resolve_right (fun hn => hn (hb rfl))
    refine Ev.step (fun k => ?_) y
    simp only [spec_l08Missed.l1]
    by_cases hi : (i : Int) < ((M.map Int.ofNat).length : Int)
    · rw [if_pos hi, if_pos trivial, hw]
    · rw [if_neg hi, if_pos trivial, hw]
  | 0, i, false, e1, _, hb => by
    have hw : wrap64 ((j : Int) + 1) = ((j + 1 : Nat) : Int) := by rw [w64 (by omega) (by omega)]; omega
    have hn : (M.any fun t => decide (h ≤ pc (t &&& D[j]))) = false := by rw [hb rfl, List.drop_eq_nil_of_le (by omega)]; rfl
    have y := no.resolve_right (fun hh => by rw [hn] at hh; cases hh)
    refine Ev.step (fun k => ?_) y
    simp only [spec_l08Missed.l1]
    rw [if_neg (by simp; omega), if_neg (by decide), if_pos (by omega), if_pos (by simp; omega), if_pos (by omega), rd_map D j hj, hw]
  | e+1, i, false, e1, _, hb => by
    have hi : i < M.length := by omega
    have hw : wrap64 ((i : Int) + 1) = ((i + 1 : Nat) : Int) := by rw [w64 (by omega) (by omega)]; omega
    have hMi := hM _ (List.getElem_mem hi)
    have hDj := hD _ (List.getElem_mem hj)
    have hland := land_lt 12 M[i] D[j] (by omega)
    have hdrop : (M.any fun t => decide (h ≤ pc (t &&& D[j]))) = (decide (h ≤ pc (M[i] &&& D[j])) || (M.drop (i+1)).any fun t => decide (h ≤ pc (t &&& D[j]))) := by
      rw [hb rfl, List.drop_eq_getElem_cons hi, List.any_cons]
    obtain ⟨K, hK⟩ := missed_l1 j hj acc ha r yes no e (i+1) (decide (h ≤ pc (M[i] &&& D[j]))) (by omega) (fun hh => by rw [hdrop, hh]; rfl) (fun hh => by rw [hdrop, hh]; rfl)
    refine ⟨K + 20, fun k hk => ?_⟩
    obtain ⟨k, rfl⟩ : ∃ q, k = q + 1 := ⟨k - 1, by omega⟩
    simp only [spec_l08Missed.l1]
    rw [if_pos (by simp; omega), if_neg (by decide), if_pos (by omega), if_pos (by omega), if_pos (by simp; omega), rd_map M i hi, rd_map D j hj, band _ _ (by omega) (by omega), ssize_nat _ (by omega) k (by omega), Option.bind_some, hw]
    have := hK k (by omega)
    rw [show decide ((pc (M[i] &&& D[j]) : Int) ≥ (h : Int)) = decide (h ≤ pc (M[i] &&& D[j])) by congr 1; apply propext; omega]
    exact this
theorem missed_l0 : ∀ (e j : Nat) (acc : List Int), j + e = D.length → acc.length ≤ j → Ev (fun k => spec_l08Missed.l0 k (M.map Int.ofNat) (D.map Int.ofNat) acc j n p q h) (acc ++ ((D.drop j).filter fun d => !(M.any fun t => decide (h ≤ pc (t &&& d)))).map Int.ofNat)
  | 0, j, acc, e1, ha => by
    refine ⟨1, fun k hk => ?_⟩
    obtain ⟨k, rfl⟩ : ∃ q, k = q + 1 := ⟨k - 1, by omega⟩
    simp only [spec_l08Missed.l0]
    rw [if_neg (by simp; omega), List.drop_eq_nil_of_le (by omega)]; simp
  | e+1, j, acc, e1, ha => by
    have hj : j < D.length := by omega
    have start : ∀ r, Ev (fun k => spec_l08Missed.l1 k (M.map Int.ofNat) (D.map Int.ofNat) acc j false ((0 : Nat) : Int) n p q h) r → Ev (fun k => spec_l08Missed.l0 k (M.map Int.ofNat) (D.map Int.ofNat) acc j n p q h) r := by
      intro r hr
      refine Ev.step (fun k => ?_) hr
      simp only [spec_l08Missed.l0]
      rw [if_pos (by simp; omega)]; rfl
    refine start _ ?_
    rw [List.drop_eq_getElem_cons hj, List.filter_cons]
    refine missed_l1 n p q h M D hM hD hl hl2 j hj acc ha _ ?_ ?_ M.length 0 false (by omega) (by simp) (by simp)
    · cases hc : (M.any fun t => decide (h ≤ pc (t &&& D[j]))) with
      | false => exact .inr (by simp)
      | true => left; rw [if_neg (by simp)]; exact missed_l0 e (j+1) acc (by omega) (by omega)
    · cases hc : (M.any fun t => decide (h ≤ pc (t &&& D[j]))) with
      | true => exact .inr rfl
      | false =>
        left; rw [if_pos (by simp)]
        have := missed_l0 e (j+1) (acc ++ [(D[j] : Int)]) (by omega) (by simp; omega)
        simpa using this
end
theorem filt_any (D M : List Nat) (f : Int → Int → Bool) (g : Nat → Nat → Bool) (h : ∀ t ∈ M, ∀ d ∈ D, f (t : Int) (d : Int) = g t d) : (D.map Int.ofNat).filter (fun d => !((M.map Int.ofNat).any fun t => f t d)) = (D.filter fun d => !(M.any fun t => g t d)).map Int.ofNat := by
  rw [List.filter_map]
  congr 1
  apply List.filter_congr
  intro d hd
  simp only [Function.comp]
  congr 1
  rw [List.any_map]
  rw [Bool.eq_iff_iff, List.any_eq_true, List.any_eq_true]
  constructor
  · rintro ⟨t, ht, hh⟩
    exact ⟨t, ht, by rw [← h t ht d hd]; exact hh⟩
  · rintro ⟨t, ht, hh⟩
    exact ⟨t, ht, by show f (t : Int) (d : Int) = true; rw [h t ht d hd]; exact hh⟩
/-- The missed draws, told alike. -/
def missedL (n q h : Nat) (M : List Nat) : List Nat := (S n q).filter fun d => !(M.any fun t => decide (h ≤ pc (t &&& d)))
theorem missed_ev (n p q h : Nat) (hn1 : 1 ≤ n) (hn : n ≤ 12) (M : List Nat) (hM : ∀ t ∈ M, t < 4096) (hl : M.length ≤ 200) : Ev (fun k => spec_l08Missed.f k n p q h (M.map Int.ofNat)) ((missedL n q h M).map Int.ofNat) ∧ Ev (fun k => impl_missed.f k n p q h (M.map Int.ofNat)) ((missedL n q h M).map Int.ofNat) := by
  constructor
  · obtain ⟨K, hK⟩ := missed_l0 n p q h M (S n q) hM (fun t ht => S_lt hn ht) hl (S_len n q hn) (S n q).length 0 [] (by omega) (by simp)
    obtain ⟨N, hN⟩ : ∃ N : Nat, 5000 ≤ N := ⟨5000, Nat.le_refl _⟩
    refine ⟨N + K, fun k hk => ?_⟩
    show spec_l08Missed.f k _ _ _ _ _ = _
    unfold spec_l08Missed.f
    rw [specSets_ev n p q h q hn1 hn k (by omega), Option.bind_some]
    have h1 : spec_l08Missed.l0 k (M.map Int.ofNat) ((S n q).map Int.ofNat) ([] : List Int) ((0 : Nat) : Int) n p q h = some (([] : List Int) ++ (((S n q).drop 0).filter fun d => !(M.any fun t => decide (h ≤ pc (t &&& d)))).map Int.ofNat) := hK k (by omega)
    rw [List.nil_append, List.drop_zero] at h1
    exact h1
  · obtain ⟨N, hN⟩ : ∃ N : Nat, 5000 ≤ N := ⟨5000, Nat.le_refl _⟩
    refine ⟨N, fun k hk => ?_⟩
    show impl_missed.f k _ _ _ _ _ = _
    unfold impl_missed.f impl_allDraws.f
    rw [sets_ev n q hn k (by omega), Option.bind_some, Option.bind_some]
    rw [filt_any (S n q) M (fun t d => hitB n p q h t d) (fun t d => decide (h ≤ pc (t &&& d))) (fun t ht d hd => hitB_nat n p q h t d (hM t ht) (S_lt hn hd))]
    rfl

theorem eq_l (l : List Int) (hl : l.length ≤ 4611686018427387904) : ∀ d i : Nat, i + d = l.length → ∀ k, d < k → laws_eqInt64S.l0 k l l i = some true
  | 0, i, e, k, hk => by
    obtain ⟨k, rfl⟩ : ∃ q, k = q + 1 := ⟨k - 1, by omega⟩
    simp only [laws_eqInt64S.l0]; rw [if_neg (by omega)]
  | d+1, i, e, k, hk => by
    obtain ⟨k, rfl⟩ : ∃ q, k = q + 1 := ⟨k - 1, by omega⟩
    simp only [laws_eqInt64S.l0]
    rw [if_pos (by omega), if_pos (by omega), if_pos (by omega), if_pos trivial, w64 (by omega) (by omega), show (i : Int) + 1 = ((i + 1 : Nat) : Int) by omega]
    exact eq_l l hl d (i+1) (by omega) k (by omega)
theorem eq_ev (l : List Int) (hl : l.length ≤ 4611686018427387904) (k : Nat) (hk : l.length < k) : laws_eqInt64S.f k l l = some true := by
  unfold laws_eqInt64S.f
  rw [if_pos rfl]
  exact eq_l l hl l.length 0 (by omega) k hk

theorem to_l (l : List Int) (hl : l.length ≤ 4611686018427387904) : ∀ (B A : List Int), l = A ++ B → ∀ k, B.length < k → laws_toInt64S.l0 k l (A ++ List.replicate B.length 0) A.length = some l
  | [], A, e, k, hk => by
    obtain ⟨k, rfl⟩ : ∃ q, k = q + 1 := ⟨k - 1, by simp at hk; omega⟩
    simp only [laws_toInt64S.l0]
    simp at e
    subst e
    rw [if_neg (by omega)]; simp
  | b :: B, A, e, k, hk => by
    obtain ⟨k, rfl⟩ : ∃ q, k = q + 1 := ⟨k - 1, by simp at hk; omega⟩
    simp only [laws_toInt64S.l0]
    have hlen : l.length = A.length + (B.length + 1) := by rw [e]; simp
    rw [if_pos (by omega), if_pos (by omega), if_pos (by simp; omega)]
    have hb : rd l (A.length : Int) = b := by rw [e]; exact rd_mid A B b
    rw [hb, List.length_cons, List.replicate_succ, Int.toNat_natCast, set_mid, w64 (by omega) (by omega), show (A.length : Int) + 1 = ((A ++ [b]).length : Int) by simp]
    exact to_l l hl B (A ++ [b]) (by rw [e]; simp) k (by simp at hk; omega)
theorem to_ev (l : List Int) (hl : l.length ≤ 1048576) (k : Nat) (hk : 1048576 < k) : laws_toInt64S.f k l = some l := by
  unfold laws_toInt64S.f
  rw [if_pos (by omega), if_pos (by omega), Int.toNat_natCast]
  exact to_l l (by omega) l [] rfl k (by omega)

theorem first_pair (l : List Int) : (if (l.length : Int) = 0 then (some (0, 4)) else (if 0 < (l.length : Int) then (some (rd l 0, 0)) else (none))) = some (if (l.length : Int) = 0 then ((0, 4) : Int × Int) else (rd l 0, 0)) := by
  by_cases h : (l.length : Int) = 0
  · rw [if_pos h, if_pos h]
  · rw [if_neg h, if_neg h, if_pos (by omega)]
theorem both_ev (a b c d : Int) (l : List Int) (hl : l.length ≤ 1048576) : ∃ r : Int × Int, Ev (fun k => spec_FirstMissed.f k a b c d l) r ∧ Ev (fun k => impl_FirstMissed.f k a b c d l) r := by
  obtain ⟨e, s1, s2, s3, s4⟩ := tickets_ev a b c d l hl
  by_cases he : e = 0
  · subst he
    obtain ⟨n, p, q, h, rfl, rfl, rfl, rfl, h1, h2, h3, h4, h5, h6, h7, h8, h9, hl2, M, rfl, hM⟩ := s4 rfl
    have hpw := pow_le h2
    rw [List.length_map] at hl2 hl s1 s2
    obtain ⟨⟨K1, g1⟩, ⟨K2, g2⟩⟩ := missed_ev n p q h h1 h2 M (fun t ht => by have := (hM t ht).1; omega) hl2
    obtain ⟨N, hN⟩ : ∃ N : Nat, 5000 ≤ N := ⟨5000, Nat.le_refl _⟩
    refine ⟨(if (((missedL n q h M).map Int.ofNat).length : Int) = 0 then (0, 4) else (rd ((missedL n q h M).map Int.ofNat) 0, 0)), ⟨N + K1, fun k hk => ?_⟩, ⟨N + K2, fun k hk => ?_⟩⟩
    · show spec_FirstMissed.f k _ _ _ _ _ = _
      unfold spec_FirstMissed.f
      have this : spec_l08Missed.f k n p q h (M.map Int.ofNat) = _ := g1 k (by omega)
      rw [s1 k (by omega), Option.bind_some, if_pos rfl, this, Option.bind_some]
      exact first_pair _
    · show impl_FirstMissed.f k _ _ _ _ _ = _
      unfold impl_FirstMissed.f
      have this : impl_missed.f k n p q h (M.map Int.ofNat) = _ := g2 k (by omega)
      rw [s2 k (by omega), Option.bind_some, if_pos rfl, this, Option.bind_some]
      exact first_pair _
  · refine ⟨(0, e), ⟨l.length + 30, fun k hk => ?_⟩, ⟨l.length + 30, fun k hk => ?_⟩⟩
    · show spec_FirstMissed.f k _ _ _ _ _ = _
      unfold spec_FirstMissed.f
      rw [s1 k (by omega), Option.bind_some, if_neg he]
    · show impl_FirstMissed.f k _ _ _ _ _ = _
      unfold impl_FirstMissed.f
      rw [s2 k (by omega), Option.bind_some, if_neg he]
theorem FnExactFirstMissed (a b c d : Int) (_ : (Lit.int .i64 a).wf = true) (_ : (Lit.int .i64 b).wf = true) (_ : (Lit.int .i64 c).wf = true) (_ : (Lit.int .i64 d).wf = true) (l : List Int) (_ : l.length ≤ maxLen) (_ : l.length * 8 ≤ 140737488351232) (_ : ∀ x ∈ l, (Lit.int .i64 x).wf = true) : ∃ k, laws_FnExactFirstMissed.f k a b c d l = some true := by
  by_cases hl : (l.length : Int) > 1048576
  · refine ⟨0, ?_⟩
    unfold laws_FnExactFirstMissed.f
    rw [if_pos hl]
  · have hl' : l.length ≤ 1048576 := by omega
    obtain ⟨r, ⟨K1, g1⟩, ⟨K2, g2⟩⟩ := both_ev a b c d l hl'
    obtain ⟨k, hk⟩ : ∃ k : Nat, 1048700 + K1 + K2 ≤ k := ⟨1048700 + K1 + K2, Nat.le_refl _⟩
    have h1 : spec_FirstMissed.f (k+1) a b c d l = some r := g1 _ (by omega)
    have h2 : impl_FirstMissed.f (k+1) a b c d l = some r := g2 _ (by omega)
    refine ⟨k + 1, ?_⟩
    unfold laws_FnExactFirstMissed.f laws_toLottery.f
    rw [if_neg hl]
    simp only [Option.bind_some]
    rw [to_ev l hl' (k+1) (by omega)]
    simp only [Option.bind_some]
    rw [h1, h2]
    simp only [Option.bind_some, if_true, bne_self_eq_false, laws_FnExactFirstMissed.j0, Bool.false_eq_true, if_false]
    rw [to_ev l hl' k (by omega)]
    simp only [Option.bind_some]
    rw [eq_ev l (by omega) k (by omega)]
    simp

end Go.Proofs.Ytklbkleibefldaa.Pure
