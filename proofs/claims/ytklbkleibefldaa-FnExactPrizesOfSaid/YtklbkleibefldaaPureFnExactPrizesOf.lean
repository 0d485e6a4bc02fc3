/- Prizes are counted alike, the argument is left alone, and each call's list is new. For every lottery, tickets and draw. -/
import Derived.Test.YtklbkleibefldaaPFnExactPrizesOfx0
import Derived.Test.YtklbkleibefldaaPFnExactPrizesOfx1
import Derived.Test.YtklbkleibefldaaPFnExactPrizesOfx2
import Derived.Test.YtklbkleibefldaaPFnExactPrizesOfx3
import Derived.Test.YtklbkleibefldaaPFnExactPrizesOfx4
import Derived.Test.YtklbkleibefldaaPFnExactPrizesOfx5
import Derived.Test.YtklbkleibefldaaLotMath
import Derived.Test.YtklbkleibefldaaLotHit
import Derived.Test.YtklbkleibefldaaLotRank
import Derived.KernelRfl
namespace Go.Proofs.Ytklbkleibefldaa.Pure
open Go Go.RowKit Go.Proofs.Ytklbkleibefldaa.PFnExactPrizesOf Go.Proofs.YtklbkleibefldaaW.PrintWords Go.Proofs.YtklbkleibefldaaW.PrintLast Go.Proofs.YtklbkleibefldaaW.PrintMore Go.Proofs.Ytklbkleibefldaa.LotM
set_option linter.unusedVariables false
set_option linter.unusedSimpArgs false
theorem shl_one : ∀ n, n < 13 → shl .i64 1 ((n : Nat) : Int) = ((2 ^ n : Nat) : Int) := by decide +kernel
theorem pow_le {n : Nat} (h : n ≤ 12) : 2 ^ n ≤ 4096 := Nat.pow_le_pow_right (n := 2) (by omega) h
theorem w64 {i : Int} (h0 : -9223372036854775808 ≤ i) (h : i < 9223372036854775808) : wrap64 i = i := by unfold wrap64; omega
theorem u64 {i : Int} (h0 : 0 ≤ i) (h : i < 9223372036854775808) : IntKind.u64.wrap i = i := by
  have e : IntKind.u64.wrap i = i % 18446744073709551616 := by simp [IntKind.wrap, IntKind.bits, IntKind.signed]
  rw [e]; omega
def allN (p : Nat → Bool) : Nat → Bool
  | 0 => true
  | n+1 => p n && allN p n
theorem allN_at (p : Nat → Bool) : ∀ n, allN p n = true → ∀ s, s < n → p s = true
  | 0, _, s, h => by omega
  | n+1, h, s, hs => by
    simp only [allN, Bool.and_eq_true] at h
    by_cases e : s = n
    · subst e; exact h.1
    · exact allN_at p n h.2 s (by omega)

/-- What a lottery's numbers are. -/
theorem lot_cases (a b c d : Int) : impl_IsLottery.f a b c d = some false ∨ (impl_IsLottery.f a b c d = some true ∧ ∃ n p q h : Nat, a = n ∧ b = p ∧ c = q ∧ d = h ∧ 1 ≤ n ∧ n ≤ 12 ∧ 1 ≤ p ∧ p ≤ n ∧ 1 ≤ q ∧ q ≤ n ∧ 1 ≤ h ∧ h ≤ p ∧ h ≤ q) := by
  by_cases hv : 1 ≤ a ∧ a ≤ 12 ∧ 1 ≤ b ∧ b ≤ a ∧ 1 ≤ c ∧ c ≤ a ∧ 1 ≤ d ∧ d ≤ b ∧ d ≤ c
  · refine .inr ⟨?_, a.toNat, b.toNat, c.toNat, d.toNat, by omega, by omega, by omega, by omega, by omega, by omega, by omega, by omega, by omega, by omega, by omega, by omega, by omega⟩
    unfold impl_IsLottery.f mn
    repeat' split
    all_goals simp_all
    all_goals omega
  · refine .inl ?_
    unfold impl_IsLottery.f mn
    repeat' split
    all_goals simp_all
    all_goals omega

theorem isLot (a b c d : Int) : spec_l08Is.f a b c d = impl_IsLottery.f a b c d := by
  unfold spec_l08Is.f spec_l01In.f impl_IsLottery.f mn
  repeat' split
  all_goals simp_all
  all_goals omega

/-- A set of m of n numbers. -/
def isT (n m : Nat) (s : Int) : Bool := decide (0 ≤ s) && decide (s < ((2 ^ n : Nat) : Int)) && (((pc s.toNat : Nat) : Int) == (m : Int))
theorem isT_nat {n m : Nat} {s : Int} (h : isT n m s = true) : ∃ t : Nat, s = t ∧ t < 2 ^ n ∧ pc t = m := by
  simp only [isT, Bool.and_eq_true, decide_eq_true_eq, beq_iff_eq] at h
  obtain ⟨⟨h0, h1⟩, h2⟩ := h
  refine ⟨s.toNat, by omega, by omega, by omega⟩

def okSS (s : Nat) : Bool := match spec_l08Size.f 14 (s : Int) with
  | some r => r == (pcF 12 s : Int)
  | none => false
theorem okSS_all : allN okSS 4096 = true := by kernel_rfl
theorem ssize_nat (s : Nat) (h : s < 4096) : ∀ k, 14 ≤ k → spec_l08Size.f k (s : Int) = some (pc s : Int) := by
  intro k hk
  have := allN_at okSS 4096 okSS_all s h
  unfold okSS at this
  split at this
  · rename_i r hr
    rw [beq_iff_eq.mp this] at hr
    exact at_rounds (g := fun k => spec_l08Size.f k (s : Int)) (fun k => spec_l08Size.mono _ k) hk hr
  · cases this

theorem specSet_ev (n p q h m : Nat) (s : Int) (hn1 : 1 ≤ n) (hn : n ≤ 12) (k : Nat) (hk : 14 ≤ k) : spec_l08Set.f k n p q h s m = some (isT n m s) := by
  have hp := pow_le hn
  have hp1 : 1 ≤ 2 ^ n := Nat.one_le_two_pow
  unfold spec_l08Set.f spec_l01In.f isT
  rw [u64 (by omega) (by omega), if_pos (by omega), shl_one n (by omega), w64 (by omega) (by omega)]
  generalize 2 ^ n = P at *
  by_cases h0 : 0 ≤ s
  · rw [if_pos h0]
    simp only [Option.bind_some]
    by_cases h1 : s < (P : Int)
    · have h2 : s ≤ (P : Int) - 1 := by omega
      obtain ⟨t, rfl⟩ : ∃ t : Nat, s = t := ⟨s.toNat, by omega⟩
      rw [ssize_nat t (by omega) k hk]
      simp [h1, h2]
    · have h2 : ¬ s ≤ (P : Int) - 1 := by omega
      simp [h1, h2]
  · rw [if_neg h0]; simp [h0]

theorem isSet_ev (n p q h : Nat) (s : Int) (hn : n ≤ 12) : impl_isSet.f n p q h s = some (decide (0 ≤ s) && decide (s < ((2 ^ n : Nat) : Int))) := by
  unfold impl_isSet.f
  rw [shl_one n (by omega)]
  by_cases h0 : 0 ≤ s
  · rw [if_pos h0, if_pos (by omega)]; simp [h0]
  · rw [if_neg h0]; simp [h0]

def okS (s : Nat) : Bool := match impl_size.f (s : Int) with
  | some r => r == (pcF 12 s : Int)
  | none => false
theorem okS_all : allN okS 4096 = true := by kernel_rfl
theorem size_nat (s : Nat) (h : s < 4096) : impl_size.f (s : Int) = some (pc s : Int) := by
  have := allN_at okS 4096 okS_all s h
  unfold okS at this
  split at this
  · rename_i r hr; rw [hr, beq_iff_eq.mp this]; rfl
  · cases this

theorem isTicket_ev (n p q h : Nat) (s : Int) (hn : n ≤ 12) : impl_isTicket.f n p q h s = some (isT n p s) := by
  have hp := pow_le hn
  unfold impl_isTicket.f
  rw [isSet_ev n p q h s hn]
  unfold isT
  generalize 2 ^ n = P at *
  by_cases hv : 0 ≤ s ∧ s < (P : Int)
  · obtain ⟨t, rfl⟩ : ∃ t : Nat, s = t := ⟨s.toNat, by omega⟩
    simp only [hv.1, hv.2, decide_true, Bool.and_self, Option.bind_some, if_true]
    rw [size_nat t (by omega)]; simp
  · have : (decide (0 ≤ s) && decide (s < (P : Int))) = false := by simp; omega
    rw [this]; simp

theorem set_mid (A B : List Int) (b s : Int) : (A ++ b :: B).set A.length s = (A ++ [s]) ++ B := by
  induction A with
  | nil => rfl
  | cons a A ih => simp [List.set_cons_succ]
theorem rd_mid (A B : List Int) (b : Int) : rd (A ++ b :: B) (A.length : Int) = b := by simp [rd]
theorem rd_nat (M : List Int) (i : Nat) (h : i < M.length) : rd M (i : Int) = M[i] := by simp [rd, List.getElem?_eq_getElem h]
def seqI : Int → Nat → List Int
  | _, 0 => []
  | s, n+1 => s :: seqI (s+1) n

theorem tickets_both (n p q h : Nat) (hn1 : 1 ≤ n) (hn : n ≤ 12) (l : List Int) (hl : l.length ≤ 1048576) : ∀ d i : Nat, i + d = l.length → ∃ b : Bool, (∀ k, d + 20 ≤ k → spec_l08Tickets.l0 k l i n p q h = some (if b = true then 0 else 2)) ∧ (∀ k, d + 20 ≤ k → impl_areTickets.l0 k l l l.length i n p q h = some b) ∧ (b = true → l.length ≤ 200 ∧ ∀ j, i ≤ j → ∀ hj : j < l.length, isT n p l[j] = true)
  | 0, i, e => by
    refine ⟨decide ((l.length : Int) ≤ 200), fun k hk => ?_, fun k hk => ?_, fun hb => ⟨?_, fun j h1 h2 => by omega⟩⟩
    · obtain ⟨k, rfl⟩ : ∃ q, k = q + 1 := ⟨k - 1, by omega⟩
      simp only [spec_l08Tickets.l0]
      rw [if_neg (by omega)]
      by_cases hh : (l.length : Int) > 200
      · rw [if_pos hh, if_neg]; simp; omega
      · rw [if_neg hh, if_pos]; simp; omega
    · obtain ⟨k, rfl⟩ : ∃ q, k = q + 1 := ⟨k - 1, by omega⟩
      simp only [impl_areTickets.l0]
      rw [if_neg (by omega)]
    · simp at hb; omega
  | d+1, i, e => by
    have hi : i < l.length := by omega
    have hw : wrap64 ((i : Int) + 1) = ((i + 1 : Nat) : Int) := by rw [w64 (by omega) (by omega)]; omega
    have hr := rd_nat l i hi
    cases ht : isT n p l[i] with
    | false =>
      refine ⟨false, fun k hk => ?_, fun k hk => ?_, fun hb => by cases hb⟩
      · obtain ⟨k, rfl⟩ : ∃ q, k = q + 1 := ⟨k - 1, by omega⟩
        simp only [spec_l08Tickets.l0]
        rw [if_pos (by omega), if_pos (by omega), hr, specSet_ev n p q h p _ hn1 hn k (by omega), ht]
        simp
      · obtain ⟨k, rfl⟩ : ∃ q, k = q + 1 := ⟨k - 1, by omega⟩
        simp only [impl_areTickets.l0]
        rw [if_pos (by omega), if_pos (by omega), if_pos (by omega), hr, isTicket_ev n p q h _ hn, ht]
        simp
    | true =>
      by_cases h0 : 0 < i
      · have hw1 : wrap64 ((i : Int) - 1) = ((i - 1 : Nat) : Int) := by rw [w64 (by omega) (by omega)]; omega
        have hr1 := rd_nat l (i - 1) (by omega)
        by_cases hge : l[i] ≤ l[i-1]
        · refine ⟨false, fun k hk => ?_, fun k hk => ?_, fun hb => by cases hb⟩
          · obtain ⟨k, rfl⟩ : ∃ q, k = q + 1 := ⟨k - 1, by omega⟩
            simp only [spec_l08Tickets.l0]
            rw [if_pos (by omega), if_pos (by omega), hr, specSet_ev n p q h p _ hn1 hn k (by omega), ht]
            simp only [Option.bind_some, if_true]
            rw [if_pos (by omega), hw1, if_pos (by omega), if_pos (by omega), hr1, if_pos (by omega)]
            simp
          · obtain ⟨k, rfl⟩ : ∃ q, k = q + 1 := ⟨k - 1, by omega⟩
            simp only [impl_areTickets.l0]
            rw [if_pos (by omega), if_pos (by omega), if_pos (by omega), hr, isTicket_ev n p q h _ hn, ht]
            simp only [Option.bind_some, if_true]
            rw [if_pos (by omega), hw1, if_pos (by omega), if_pos (by omega), hr1, if_pos (by omega)]
        · obtain ⟨b, g1, g2, g3⟩ := tickets_both n p q h hn1 hn l hl d (i+1) (by omega)
          refine ⟨b, fun k hk => ?_, fun k hk => ?_, fun hb => ⟨(g3 hb).1, fun j h1 h2 => ?_⟩⟩
          · obtain ⟨k, rfl⟩ : ∃ q, k = q + 1 := ⟨k - 1, by omega⟩
            simp only [spec_l08Tickets.l0]
            rw [if_pos (by omega), if_pos (by omega), hr, specSet_ev n p q h p _ hn1 hn k (by omega), ht]
            simp only [Option.bind_some, if_true]
            rw [if_pos (by omega), hw1, if_pos (by omega), if_pos (by omega), hr1, if_neg (by omega), hw]
            exact g1 k (by omega)
          · obtain ⟨k, rfl⟩ : ∃ q, k = q + 1 := ⟨k - 1, by omega⟩
            simp only [impl_areTickets.l0]
            rw [if_pos (by omega), if_pos (by omega), if_pos (by omega), hr, isTicket_ev n p q h _ hn, ht]
            simp only [Option.bind_some, if_true]
            rw [if_pos (by omega), hw1, if_pos (by omega), if_pos (by omega), hr1, if_neg (by omega), hw]
            exact g2 k (by omega)
          · by_cases hj : j = i
            · subst hj; exact ht
            · exact (g3 hb).2 j (by omega) h2
      · obtain ⟨b, g1, g2, g3⟩ := tickets_both n p q h hn1 hn l hl d (i+1) (by omega)
        refine ⟨b, fun k hk => ?_, fun k hk => ?_, fun hb => ⟨(g3 hb).1, fun j h1 h2 => ?_⟩⟩
        · obtain ⟨k, rfl⟩ : ∃ q, k = q + 1 := ⟨k - 1, by omega⟩
          simp only [spec_l08Tickets.l0]
          rw [if_pos (by omega), if_pos (by omega), hr, specSet_ev n p q h p _ hn1 hn k (by omega), ht]
          simp only [Option.bind_some, if_true]
          rw [if_neg (by omega), hw]
          exact g1 k (by omega)
        · obtain ⟨k, rfl⟩ : ∃ q, k = q + 1 := ⟨k - 1, by omega⟩
          simp only [impl_areTickets.l0]
          rw [if_pos (by omega), if_pos (by omega), if_pos (by omega), hr, isTicket_ev n p q h _ hn, ht]
          simp only [Option.bind_some, if_true]
          rw [if_neg (by omega), hw]
          exact g2 k (by omega)
        · by_cases hj : j = i
          · subst hj; exact ht
          · exact (g3 hb).2 j (by omega) h2
/-- The error of a lottery and tickets, told alike; and what the tickets are where there is none. -/
theorem tickets_ev (a b c d : Int) (l : List Int) (hl : l.length ≤ 1048576) : ∃ e : Int, (∀ k, l.length + 20 ≤ k → spec_l08Tickets.f k a b c d l = some e) ∧ (∀ k, l.length + 20 ≤ k → impl_ticketsCode.f k a b c d l = some e) ∧
    (e = 0 ∨ e = 1 ∨ e = 2) ∧ (e = 0 → ∃ n p q h : Nat, a = n ∧ b = p ∧ c = q ∧ d = h ∧ 1 ≤ n ∧ n ≤ 12 ∧ 1 ≤ p ∧ p ≤ n ∧ 1 ≤ q ∧ q ≤ n ∧ 1 ≤ h ∧ h ≤ p ∧ h ≤ q ∧ l.length ≤ 200 ∧ ∃ M : List Nat, l = M.map Int.ofNat ∧ ∀ t ∈ M, t < 2 ^ n ∧ pc t = p) := by
  rcases lot_cases a b c d with h | ⟨h, n, p, q, e, rfl, rfl, rfl, rfl, h1, h2, h3, h4, h5, h6, h7, h8, h9⟩
  · refine ⟨1, fun k hk => ?_, fun k hk => ?_, by omega, fun h => by omega⟩
    · unfold spec_l08Tickets.f; rw [isLot, h]; rfl
    · unfold impl_ticketsCode.f; rw [h]; rfl
  · obtain ⟨t, g1, g2, g3⟩ := tickets_both n p q e h1 h2 l hl l.length 0 (by omega)
    refine ⟨if t = true then 0 else 2, fun k hk => ?_, fun k hk => ?_, by split <;> omega, fun h0 => ?_⟩
    · unfold spec_l08Tickets.f
      rw [isLot, h]
      simp only [Option.bind_some, if_true]
      exact g1 k (by omega)
    · unfold impl_ticketsCode.f impl_areTickets.f
      rw [h]
      simp only [Option.bind_some, if_true]
      have := g2 k (by omega)
      rw [show (0 : Int) = ((0 : Nat) : Int) from rfl, this]
      cases t <;> rfl
    · have ht : t = true := by
        cases t with
        | true => rfl
        | false => simp at h0
      obtain ⟨g4, g5⟩ := g3 ht
      refine ⟨n, p, q, e, rfl, rfl, rfl, rfl, h1, h2, h3, h4, h5, h6, h7, h8, h9, g4, l.map Int.toNat, ?_, ?_⟩
      · rw [List.map_map]
        apply List.ext_getElem (by simp)
        intro j hj1 hj2
        obtain ⟨u, hu, _⟩ := isT_nat (g5 j (by omega) hj1)
        simp [hu]
      · intro u hu
        rw [List.mem_map] at hu
        obtain ⟨x, hx, rfl⟩ := hu
        obtain ⟨j, hj, rfl⟩ := List.mem_iff_getElem.1 hx
        obtain ⟨u, hu, hu2⟩ := isT_nat (g5 j (by omega) hj)
        rw [hu]; simpa using hu2

theorem isDraw_ev (n p q h : Nat) (s : Int) (hn : n ≤ 12) : impl_isDraw.f n p q h s = some (isT n q s) := by
  have hp := pow_le hn
  unfold impl_isDraw.f
  rw [isSet_ev n p q h s hn]
  unfold isT
  generalize 2 ^ n = P at *
  by_cases hv : 0 ≤ s ∧ s < (P : Int)
  · obtain ⟨t, rfl⟩ : ∃ t : Nat, s = t := ⟨s.toNat, by omega⟩
    simp only [hv.1, hv.2, decide_true, Bool.and_self, Option.bind_some, if_true]
    rw [size_nat t (by omega)]; simp
  · have : (decide (0 ≤ s) && decide (s < (P : Int))) = false := by simp; omega
    rw [this]; simp

theorem w_i64 : ∀ n : Int, 0 ≤ n → n < 2 ^ 63 → IntKind.i64.wrap n = n := fun n h0 h1 => by rw [IntKind.wrap_i64]; omega
theorem band (a b : Nat) (ha : a < 4611686018427387904) (hb : b < 4611686018427387904) : Go.bits .and .i64 (a : Int) (b : Int) = ((a &&& b : Nat) : Int) :=
  (bits_nat .i64 63 (by decide) w_i64 a b (by omega) (by omega)).1
theorem bor (a b : Nat) (ha : a < 4611686018427387904) (hb : b < 4611686018427387904) : Go.bits .or .i64 (a : Int) (b : Int) = ((a ||| b : Nat) : Int) :=
  (bits_nat .i64 63 (by decide) w_i64 a b (by omega) (by omega)).2
theorem shr_nat (a i : Nat) (hi : i ≤ 64) : shr .i64 (a : Int) (i : Int) = ((a / 2 ^ i : Nat) : Int) := by
  unfold shr
  have e : min ((i : Int).toNat) IntKind.i64.bits = i := by
    have : IntKind.i64.bits = 64 := rfl
    rw [this, Int.toNat_natCast]; omega
  rw [e]; simp
theorem bit_nat (a i : Nat) (ha : a < 4611686018427387904) (hi : i ≤ 64) : Go.bits .and .i64 (shr .i64 (a : Int) (i : Int)) 1 = ((a / 2 ^ i % 2 : Nat) : Int) := by
  rw [shr_nat a i hi, show (1 : Int) = ((1 : Nat) : Int) from rfl, band _ _ (Nat.lt_of_le_of_lt (Nat.div_le_self _ _) ha) (by omega), Nat.and_one_is_mod]

theorem rd_map (M : List Nat) (i : Nat) (h : i < M.length) : rd (M.map Int.ofNat) (i : Int) = (M[i] : Int) := by
  simp [rd, List.getElem?_eq_getElem h]

theorem eq_l (l : List Int) (hl : l.length ≤ 4611686018427387904) : ∀ d i : Nat, i + d = l.length → ∀ k, d < k → laws_eqInt64S.l0 k l l i = some true
  | 0, i, e, k, hk => by
    obtain ⟨k, rfl⟩ : ∃ q, k = q + 1 := ⟨k - 1, by omega⟩
    simp only [laws_eqInt64S.l0]; rw [if_neg (by omega)]
  | d+1, i, e, k, hk => by
    obtain ⟨k, rfl⟩ : ∃ q, k = q + 1 := ⟨k - 1, by omega⟩
    simp only [laws_eqInt64S.l0]
    rw [if_pos (by omega), if_pos (by omega), if_pos (by omega), if_pos trivial, w64 (by omega) (by omega), show (i : Int) + 1 = ((i + 1 : Nat) : Int) by omega]
    exact eq_l l hl d (i+1) (by omega) k (by omega)
theorem eq_ev (l : List Int) (hl : l.length ≤ 4611686018427387904) (k : Nat) (hk : l.length < k) : laws_eqInt64S.f k l l = some true := by
  unfold laws_eqInt64S.f
  rw [if_pos rfl]
  exact eq_l l hl l.length 0 (by omega) k hk

theorem to_l (l : List Int) (hl : l.length ≤ 4611686018427387904) : ∀ (B A : List Int), l = A ++ B → ∀ k, B.length < k → laws_toInt64S.l0 k l (A ++ List.replicate B.length 0) A.length = some l
  | [], A, e, k, hk => by
    obtain ⟨k, rfl⟩ : ∃ q, k = q + 1 := ⟨k - 1, by simp at hk; omega⟩
    simp only [laws_toInt64S.l0]
    simp at e
    subst e
    rw [if_neg (by omega)]; simp
  | b :: B, A, e, k, hk => by
    obtain ⟨k, rfl⟩ : ∃ q, k = q + 1 := ⟨k - 1, by simp at hk; omega⟩
    simp only [laws_toInt64S.l0]
    have hlen : l.length = A.length + (B.length + 1) := by rw [e]; simp
    rw [if_pos (by omega), if_pos (by omega), if_pos (by simp; omega)]
    have hb : rd l (A.length : Int) = b := by rw [e]; exact rd_mid A B b
    rw [hb, List.length_cons, List.replicate_succ, Int.toNat_natCast, set_mid, w64 (by omega) (by omega), show (A.length : Int) + 1 = ((A ++ [b]).length : Int) by simp]
    exact to_l l hl B (A ++ [b]) (by rw [e]; simp) k (by simp at hk; omega)
theorem to_ev (l : List Int) (hl : l.length ≤ 1048576) (k : Nat) (hk : 1048576 < k) : laws_toInt64S.f k l = some l := by
  unfold laws_toInt64S.f
  rw [if_pos (by omega), if_pos (by omega), Int.toNat_natCast]
  exact to_l l (by omega) l [] rfl k (by omega)

theorem seqI_len (s : Int) (n : Nat) : (seqI s n).length = n := by
  induction n generalizing s with
  | zero => rfl
  | succ n ih => simp [seqI, ih]
theorem mark_l : ∀ (B A : List Int) (s : Int), 0 ≤ s → s + B.length ≤ 4611686018427387904 → A.length + B.length ≤ 4611686018427387904 → ∀ k, B.length < k → laws_markInt64S.l0 k (A ++ B) s A.length = some (s + B.length, A ++ seqI s B.length)
  | [], A, s, h0, h1, h2, k, hk => by
    obtain ⟨k, rfl⟩ : ∃ q, k = q + 1 := ⟨k - 1, by simp at hk; omega⟩
    simp only [laws_markInt64S.l0]
    rw [if_neg (by simp)]; simp [seqI]
  | b :: B, A, s, h0, h1, h2, k, hk => by
    obtain ⟨k, rfl⟩ : ∃ q, k = q + 1 := ⟨k - 1, by simp at hk; omega⟩
    simp only [laws_markInt64S.l0]
    simp only [List.length_cons] at h1 h2 hk
    rw [if_pos (by simp; omega), if_pos (by omega), Int.toNat_natCast, set_mid, w64 (by omega) (by omega), w64 (by omega) (by omega), show (A.length : Int) + 1 = ((A ++ [s]).length : Int) by simp]
    rw [mark_l B (A ++ [s]) (s+1) (by omega) (by omega) (by simp; omega) k (by omega)]
    simp only [List.length_cons, seqI, List.append_assoc, List.singleton_append]
    congr 2
    omega
theorem held_l : ∀ (n : Nat) (A : List Int) (s : Int), 0 ≤ s → s + n ≤ 4611686018427387904 → A.length + n ≤ 4611686018427387904 → ∀ k, n < k → laws_heldInt64S.l0 k (A ++ seqI s n) s A.length = some (s + n)
  | 0, A, s, h0, h1, h2, k, hk => by
    obtain ⟨k, rfl⟩ : ∃ q, k = q + 1 := ⟨k - 1, by omega⟩
    simp only [laws_heldInt64S.l0]
    rw [if_neg (by simp [seqI])]; simp
  | n+1, A, s, h0, h1, h2, k, hk => by
    obtain ⟨k, rfl⟩ : ∃ q, k = q + 1 := ⟨k - 1, by omega⟩
    show laws_heldInt64S.l0 (k+1) (A ++ s :: seqI (s+1) n) s A.length = _
    simp only [laws_heldInt64S.l0]
    rw [if_pos (by simp; omega), if_pos (by omega), rd_mid, if_pos rfl, w64 (by omega) (by omega), w64 (by omega) (by omega), show (A.length : Int) + 1 = ((A ++ [s]).length : Int) by simp]
    have := held_l n (A ++ [s]) (s+1) (by omega) (by omega) (by simp; omega) k (by omega)
    rw [List.append_assoc, List.singleton_append] at this
    rw [this]
    congr 1; omega
theorem mark_held (l : List Int) (hl : l.length ≤ 1048576) (k : Nat) (hk : 1048576 < k) : ∃ l', laws_markInt64S.f k l 1 = some (1 + (l.length : Int), l') ∧ ∀ k, 1048576 < k → laws_heldInt64S.f k l' 1 = some (1 + (l.length : Int)) := by
  refine ⟨seqI 1 l.length, ?_, fun k hk => ?_⟩
  · unfold laws_markInt64S.f
    exact mark_l l [] 1 (by omega) (by omega) (by simp; omega) k (by omega)
  · unfold laws_heldInt64S.f
    exact held_l l.length [] 1 (by omega) (by omega) (by simp; omega) k (by omega)

theorem prizes_both (p q h n : Nat) (hn : n ≤ 12) (hp : p ≤ n) (M : List Nat) (hM : ∀ t ∈ M, t < 2 ^ n ∧ pc t = p) (hl : M.length ≤ 200) (d : Nat) (hd : d < 4096) : ∀ (e i : Nat) (B : List Int), i + e = M.length → B.length = p + 1 → ∃ r : List Int, r.length = p + 1 ∧ (∀ k, e + 20 ≤ k → spec_PrizesOf.l0 k (M.map Int.ofNat) d B i = some (r, 0)) ∧ ∀ k, e + 20 ≤ k → impl_PrizesOf.l0 k d B (M.map Int.ofNat) M.length i = some (r, 0)
  | 0, i, B, e1, hB => by
    refine ⟨B, hB, fun k hk => ?_, fun k hk => ?_⟩
    · obtain ⟨k, rfl⟩ : ∃ q, k = q + 1 := ⟨k - 1, by omega⟩
      simp only [spec_PrizesOf.l0]; rw [if_neg (by simp; omega)]
    · obtain ⟨k, rfl⟩ : ∃ q, k = q + 1 := ⟨k - 1, by omega⟩
      simp only [impl_PrizesOf.l0]; rw [if_neg (by omega)]
  | e+1, i, B, e1, hB => by
    have hi : i < M.length := by omega
    have hw : wrap64 ((i : Int) + 1) = ((i + 1 : Nat) : Int) := by rw [w64 (by omega) (by omega)]; omega
    have hpw := pow_le hn
    obtain ⟨m1, m2⟩ := hM _ (List.getElem_mem hi)
    have hland : M[i] &&& d < 4096 := Nat.lt_of_le_of_lt Nat.and_le_left (by omega)
    have hpc : pc (M[i] &&& d) ≤ p := by
      rw [← m2]; exact pc_land_le _ _
    obtain ⟨r, g0, g1, g2⟩ := prizes_both p q h n hn hp M hM hl d hd e (i+1) (B.set (pc (M[i] &&& d)) (wrap64 (rd B (pc (M[i] &&& d) : Int) + 1))) (by omega) (by simpa using hB)
    refine ⟨r, g0, fun k hk => ?_, fun k hk => ?_⟩
    · obtain ⟨k, rfl⟩ : ∃ q, k = q + 1 := ⟨k - 1, by omega⟩
      simp only [spec_PrizesOf.l0]
      rw [if_pos (by simp; omega), if_pos (by omega), rd_map M i hi, band _ _ (by omega) (by omega), ssize_nat _ hland k (by omega)]
      simp only [Option.bind_some]
      rw [if_pos (by omega), if_pos (by omega), Int.toNat_natCast, hw]
      exact g1 k (by omega)
    · obtain ⟨k, rfl⟩ : ∃ q, k = q + 1 := ⟨k - 1, by omega⟩
      simp only [impl_PrizesOf.l0]
      rw [if_pos (by omega), if_pos (by omega), if_pos (by simp; omega), rd_map M i hi, band _ _ (by omega) (by omega), size_nat _ hland]
      simp only [Option.bind_some]
      rw [if_pos (by omega), if_pos (by omega), Int.toNat_natCast, hw]
      exact g2 k (by omega)
theorem prizes_ev (a b c d : Int) (l : List Int) (hl : l.length ≤ 1048576) (w : Int) : ∃ (r : List Int) (e : Int), r.length ≤ 20 ∧ (∀ k, l.length + 30 ≤ k → spec_PrizesOf.f k a b c d l w = some (r, e)) ∧ ∀ k, l.length + 30 ≤ k → impl_PrizesOf.f k a b c d l w = some (r, e) := by
  obtain ⟨e, s1, s2, s3, s4⟩ := tickets_ev a b c d l hl
  by_cases he : e = 0
  · subst he
    obtain ⟨n, p, q, h, rfl, rfl, rfl, rfl, h1, h2, h3, h4, h5, h6, h7, h8, h9, hl2, M, rfl, hM⟩ := s4 rfl
    cases hw : isT n q w with
    | false =>
      refine ⟨[], 2, by simp, fun k hk => ?_, fun k hk => ?_⟩
      · obtain ⟨k, rfl⟩ : ∃ q, k = q + 2 := ⟨k - 2, by omega⟩
        unfold spec_PrizesOf.f
        rw [s1 _ (by omega)]
        simp only [Option.bind_some, if_true]
        rw [specSet_ev n p q h q w h1 h2 _ (by omega), hw]
        simp only [Option.bind_some, Bool.not_false, spec_PrizesOf.j0, spec_PrizesOf.j1, if_true]
        rw [if_neg (by omega)]
      · unfold impl_PrizesOf.f
        rw [s2 _ (by omega)]
        simp only [Option.bind_some, if_true]
        rw [isDraw_ev n p q h w h2, hw]
        simp only [Option.bind_some, Bool.false_eq_true, if_false]
    | true =>
      obtain ⟨u, rfl, hu1, hu2⟩ := isT_nat hw
      have hpw := pow_le h2
      have hwp : wrap64 ((p : Int) + 1) = ((p + 1 : Nat) : Int) := by rw [w64 (by omega) (by omega)]; omega
      simp only [List.length_map] at hl2 hl
      obtain ⟨r, g0, g1, g2⟩ := prizes_both p q h n h2 h4 M hM hl2 u (by omega) M.length 0 (List.replicate (p+1) 0) (by omega) (by simp)
      refine ⟨r, 0, by omega, fun k hk => ?_, fun k hk => ?_⟩
      · rw [List.length_map] at hk
        obtain ⟨k, rfl⟩ : ∃ q, k = q + 2 := ⟨k - 2, by omega⟩
        unfold spec_PrizesOf.f
        rw [s1 _ (by simp; omega), Option.bind_some, if_pos rfl, specSet_ev n p q h q _ h1 h2 _ (by omega), hw, Option.bind_some, Bool.not_true, spec_PrizesOf.j0, if_neg (by decide), spec_PrizesOf.j1, if_pos rfl]
        rw [hwp, if_pos (by omega), if_pos (by omega), Int.toNat_natCast]
        exact g1 k (by omega)
      · rw [List.length_map] at hk
        unfold impl_PrizesOf.f
        rw [s2 _ (by simp; omega), Option.bind_some, if_pos rfl, isDraw_ev n p q h _ h2, hw, Option.bind_some, if_pos rfl, hwp, if_pos (by omega), if_pos (by omega), Int.toNat_natCast, List.length_map]
        exact g2 k (by omega)
  · refine ⟨[], e, by simp, fun k hk => ?_, fun k hk => ?_⟩
    · obtain ⟨k, rfl⟩ : ∃ q, k = q + 2 := ⟨k - 2, by omega⟩
      unfold spec_PrizesOf.f
      rw [s1 _ (by omega)]
      simp only [Option.bind_some]
      rw [if_neg he]
      simp only [spec_PrizesOf.j0, spec_PrizesOf.j1, Bool.false_eq_true, if_false]
      rw [if_neg he]
    · unfold impl_PrizesOf.f
      rw [s2 _ (by omega)]
      simp only [Option.bind_some]
      rw [if_neg he]
theorem FnExactPrizesOf (a b c d : Int) (_ : (Lit.int .i64 a).wf = true) (_ : (Lit.int .i64 b).wf = true) (_ : (Lit.int .i64 c).wf = true) (_ : (Lit.int .i64 d).wf = true) (l : List Int) (_ : l.length ≤ maxLen) (_ : l.length * 8 ≤ 140737488351232) (_ : ∀ x ∈ l, (Lit.int .i64 x).wf = true) (s : Int) (_ : (Lit.int .i64 s).wf = true) : ∃ k, laws_FnExactPrizesOf.f k a b c d l s = some true := by
  by_cases hl : (l.length : Int) > 1048576
  · refine ⟨0, ?_⟩
    unfold laws_FnExactPrizesOf.f
    rw [if_pos hl]
  · obtain ⟨k, hk⟩ : ∃ k : Nat, 1048700 ≤ k := ⟨1048700, Nat.le_refl _⟩
    have hl' : l.length ≤ 1048576 := by omega
    obtain ⟨r, e, hr, h1, h2⟩ := prizes_ev a b c d l hl' s
    obtain ⟨l1, hm1, _⟩ := mark_held l hl' (k+2) (by omega)
    obtain ⟨l', hm, hh⟩ := mark_held r (by omega) (k+1) (by omega)
    refine ⟨k + 3, ?_⟩
    unfold laws_FnExactPrizesOf.f laws_toLottery.f
    rw [if_neg hl]
    simp only [Option.bind_some]
    rw [to_ev l hl' (k+3) (by omega)]
    simp only [Option.bind_some]
    rw [h1 (k+3) (by omega), h2 (k+3) (by omega)]
    simp only [Option.bind_some]
    rw [eq_ev r (by omega) (k+3) (by omega)]
    simp only [Option.bind_some, if_true, bne_self_eq_false, laws_FnExactPrizesOf.j0, Bool.false_eq_true, if_false]
    rw [to_ev l hl' (k+2) (by omega)]
    simp only [Option.bind_some]
    rw [eq_ev l (by omega) (k+2) (by omega)]
    simp only [Option.bind_some, if_true]
    rw [hm1]
    simp only [Option.bind_some]
    have hneg1 : ¬ (1 + (l.length : Int) < 0) := by omega
    rw [if_neg hneg1, eq_ev r (by omega) (k+2) (by omega)]
    simp only [Option.bind_some, if_true, laws_FnExactPrizesOf.j1, Bool.false_eq_true, if_false, laws_toLottery.f]
    rw [hm]
    simp only [Option.bind_some]
    have hneg : ¬ (1 + (r.length : Int) < 0) := by omega
    rw [hh (k+1) (by omega), to_ev l hl' (k+1) (by omega)]
    simp only [Option.bind_some]
    rw [if_neg hneg, if_pos trivial, h2 (k+1) (by omega)]
    simp only [Option.bind_some]
    rw [eq_ev r (by omega) (k+1) (by omega)]
    simp only [Option.bind_some, if_true, bne_self_eq_false, laws_FnExactPrizesOf.j2, Bool.false_eq_true, if_false]
    rw [hh k (by omega)]
    simp [hneg]

end Go.Proofs.Ytklbkleibefldaa.Pure
