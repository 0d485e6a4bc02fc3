/- Greedy and least tickets guarantee, and least ones are at least as many as the bound. For every code. -/
import Derived.Test.YtchlbkcladfloaaPFnGuaranteesx0
import Derived.Test.YtchlbkcladfloaaPFnGuaranteesx1
import Derived.Test.YtchlbkcladfloaaPFnGuaranteesx2
import Derived.Test.YtchlbkcladfloaaPFnGuaranteesx3
import Derived.Test.YtchlbkcladfloaaPFnGuaranteesx4
import Derived.Test.YtchlbkcladfloaaPFnGuaranteesx5
import Derived.Test.YtchlbkcladfloaaPFnGuaranteesx6
import Derived.Test.YtchlbkcladfloaaPFnGuaranteesx7
import Derived.Test.YtchlbkcladfloaaPFnGuaranteesx8
import Derived.Test.YtchlbkcladfloaaPFnGuaranteesx9
import Derived.Test.YtchlbkcladfloaaPFnGuaranteesx10
import Derived.Test.YtchlbkcladfloaaPFnGuaranteesx11
import Derived.Test.YtchlbkcladfloaaPFnGuaranteesx12
import Derived.Test.YtchlbkcladfloaaPFnGuaranteesx13
import Derived.Test.YtchlbkcladfloaaPFnGuaranteesx14
import Derived.Test.YtchlbkcladfloaaPFnGuaranteesx15
import Derived.Test.YtchlbkcladfloaaPFnGuaranteesx16
import Derived.Test.YtchlbkcladfloaaPFnGuaranteesx17
import Derived.Test.YtchlbkcladfloaaPFnGuaranteesx18
import Derived.Test.YtchlbkcladfloaaGuLotMath
import Derived.Test.YtchlbkcladfloaaGuLotHit
import Derived.Test.YtchlbkcladfloaaGuLotRank
import Derived.KernelRfl
namespace Go.Proofs.Ytchlbkcladfloaa.Pure
open Go Go.RowKit Go.Proofs.Ytchlbkcladfloaa.PFnGuarantees Go.Proofs.YtchlbkcladfloaaW.PrintWords Go.Proofs.YtchlbkcladfloaaW.PrintLast Go.Proofs.YtchlbkcladfloaaW.PrintMore Go.Proofs.Ytchlbkcladfloaa.LotM Go.Proofs.Ytchlbkcladfloaa.DG
set_option linter.unusedVariables false
set_option linter.unusedSimpArgs false
theorem shl_one : ∀ n, n < 13 → shl .i64 1 ((n : Nat) : Int) = ((2 ^ n : Nat) : Int) := by decide +kernel
theorem pow_le {n : Nat} (h : n ≤ 12) : 2 ^ n ≤ 4096 := Nat.pow_le_pow_right (n := 2) (by omega) h
theorem w64 {i : Int} (h0 : -9223372036854775808 ≤ i) (h : i < 9223372036854775808) : wrap64 i = i := by unfold wrap64; omega
theorem u64 {i : Int} (h0 : 0 ≤ i) (h : i < 9223372036854775808) : IntKind.u64.wrap i = i := by
  have e : IntKind.u64.wrap i = i % 18446744073709551616 := by simp [IntKind.wrap, IntKind.bits, IntKind.signed]
  rw [e]; omega
def allN (p : Nat → Bool) : Nat → Bool
  | 0 => true
  | n+1 => p n && allN p n
theorem allN_at (p : Nat → Bool) : ∀ n, allN p n = true → ∀ s, s < n → p s = true
  | 0, _, s, h => by omega
  | n+1, h, s, hs => by
    simp only [allN, Bool.and_eq_true] at h
    by_cases e : s = n
    · subst e; exact h.1
    · exact allN_at p n h.2 s (by omega)

def okSS (s : Nat) : Bool := match spec_l08Size.f 14 (s : Int) with
  | some r => r == (pcF 12 s : Int)
  | none => false
theorem okSS_all : allN okSS 4096 = true := by kernel_rfl
theorem ssize_nat (s : Nat) (h : s < 4096) : ∀ k, 14 ≤ k → spec_l08Size.f k (s : Int) = some (pc s : Int) := by
  intro k hk
  have := allN_at okSS 4096 okSS_all s h
  unfold okSS at this
  split at this
  · rename_i r hr
    rw [beq_iff_eq.mp this] at hr
    exact at_rounds (g := fun k => spec_l08Size.f k (s : Int)) (fun k => spec_l08Size.mono _ k) hk hr
  · cases this

theorem specSets_l (n p q h m : Nat) (hn1 : 1 ≤ n) (hn : n ≤ 12) : ∀ d i (acc : List Int), i + d = 2 ^ n → acc.length ≤ i → ∀ k, d + 20 ≤ k → spec_l08Sets.l0 k m acc i n p q h = some (acc ++ ((List.range' i d).filter (fun s => pc s == m)).map Int.ofNat)
  | 0, i, acc, e, ha, k, hk => by
    obtain ⟨k, rfl⟩ : ∃ q, k = q + 1 := ⟨k - 1, by omega⟩
    have hp := pow_le hn
    simp only [spec_l08Sets.l0]
    rw [u64 (by omega) (by omega), if_pos (by omega), shl_one n (by omega), if_neg (by omega)]; simp
  | d+1, i, acc, e, ha, k, hk => by
    obtain ⟨k, rfl⟩ : ∃ q, k = q + 1 := ⟨k - 1, by omega⟩
    have hp := pow_le hn
    simp only [spec_l08Sets.l0]
    rw [u64 (by omega) (by omega), if_pos (by omega), shl_one n (by omega), if_pos (by omega), ssize_nat i (by omega) k (by omega), Option.bind_some]
    rw [w64 (by omega) (by omega), show ((i : Int) + 1) = ((i + 1 : Nat) : Int) by omega]
    rw [List.range'_succ, List.filter_cons]
    by_cases e : pc i = m
    · rw [if_pos (by omega), if_pos (by omega)]
      rw [specSets_l n p q h m hn1 hn d (i+1) (acc ++ [(i : Int)]) (by omega) (by simp; omega) k (by omega)]
      simp [e]
    · rw [if_neg (by omega)]
      rw [specSets_l n p q h m hn1 hn d (i+1) acc (by omega) (by omega) k (by omega)]
      simp [e]
theorem specSets_ev (n p q h m : Nat) (hn1 : 1 ≤ n) (hn : n ≤ 12) : ∀ k, 5000 ≤ k → spec_l08Sets.f k n p q h m = some ((S n m).map Int.ofNat) := by
  intro k hk
  have hp := pow_le hn
  unfold spec_l08Sets.f
  rw [show (0 : Int) = ((0 : Nat) : Int) from rfl, specSets_l n p q h m hn1 hn (2^n) 0 [] (by omega) (by simp) k (by omega)]
  simp [S, List.range_eq_range']

def okS (s : Nat) : Bool := match impl_size.f (s : Int) with
  | some r => r == (pcF 12 s : Int)
  | none => false
theorem okS_all : allN okS 4096 = true := by kernel_rfl
theorem size_nat (s : Nat) (h : s < 4096) : impl_size.f (s : Int) = some (pc s : Int) := by
  have := allN_at okS 4096 okS_all s h
  unfold okS at this
  split at this
  · rename_i r hr; rw [hr, beq_iff_eq.mp this]; rfl
  · cases this

theorem sets_l (m : Nat) (N : Nat) (hN : N ≤ 4096) : ∀ d i (acc : List Int), i + d = N → acc.length ≤ i → ∀ k, d < k → impl_sets.l0 k m acc N i = some (acc ++ ((List.range' i d).filter (fun s => pc s == m)).map Int.ofNat)
  | 0, i, acc, h, ha, k, hk => by
    obtain ⟨k, rfl⟩ : ∃ q, k = q + 1 := ⟨k - 1, by omega⟩
    simp only [impl_sets.l0]; rw [if_neg (by omega)]; simp
  | d+1, i, acc, h, ha, k, hk => by
    obtain ⟨k, rfl⟩ : ∃ q, k = q + 1 := ⟨k - 1, by omega⟩
    simp only [impl_sets.l0]
    rw [if_pos (by omega), size_nat i (by omega)]
    simp only [Option.bind_some]
    rw [w64 (by omega) (by omega), show ((i : Int) + 1) = ((i + 1 : Nat) : Int) by omega]
    rw [List.range'_succ, List.filter_cons]
    by_cases e : pc i = m
    · rw [if_pos (by omega), if_pos (by omega)]
      rw [sets_l m N hN d (i+1) (acc ++ [(i : Int)]) (by omega) (by simp; omega) k (by omega)]
      simp [e]
    · rw [if_neg (by omega)]
      rw [sets_l m N hN d (i+1) acc (by omega) (by omega) k (by omega)]
      simp [e]
theorem sets_ev (n m : Nat) (hn : n ≤ 12) : ∀ k, 4096 < k → impl_sets.f k n m = some ((S n m).map Int.ofNat) := by
  intro k hk
  have hp := pow_le hn
  unfold impl_sets.f
  rw [if_pos (by omega), shl_one n (by omega)]
  rw [show (0 : Int) = ((0 : Nat) : Int) from rfl, sets_l m (2^n) hp (2^n) 0 [] (by omega) (by simp) k (by omega)]
  simp [S, List.range_eq_range']

theorem S_lt {n m x : Nat} (hn : n ≤ 12) (h : x ∈ S n m) : x < 4096 := Nat.lt_of_lt_of_le (mem_S.1 h).1 (pow_le hn)
theorem S_len (n m : Nat) (hn : n ≤ 12) : (S n m).length ≤ 4096 := by
  have h : (S n m).length ≤ (List.range (2^n)).length := List.length_filter_le _ _
  rw [List.length_range] at h
  exact Nat.le_trans h (pow_le hn)

theorem w_i64 : ∀ n : Int, 0 ≤ n → n < 2 ^ 63 → IntKind.i64.wrap n = n := fun n h0 h1 => by rw [IntKind.wrap_i64]; omega
theorem band (a b : Nat) (ha : a < 4611686018427387904) (hb : b < 4611686018427387904) : Go.bits .and .i64 (a : Int) (b : Int) = ((a &&& b : Nat) : Int) :=
  (bits_nat .i64 63 (by decide) w_i64 a b (by omega) (by omega)).1
theorem bor (a b : Nat) (ha : a < 4611686018427387904) (hb : b < 4611686018427387904) : Go.bits .or .i64 (a : Int) (b : Int) = ((a ||| b : Nat) : Int) :=
  (bits_nat .i64 63 (by decide) w_i64 a b (by omega) (by omega)).2
theorem rd_map (M : List Nat) (i : Nat) (h : i < M.length) : rd (M.map Int.ofNat) (i : Int) = (M[i] : Int) := by
  simp [rd, List.getElem?_eq_getElem h]

section
variable (n p q h : Nat) (M D : List Nat) (hM : ∀ t ∈ M, t < 4096) (hD : ∀ t ∈ D, t < 4096) (hl : M.length ≤ 200) (hl2 : D.length ≤ 4096)
include hM hD hl hl2
theorem missed_l1 (j : Nat) (hj : j < D.length) (acc : List Int) (ha : acc.length ≤ j) (r : List Int)
    (yes : Ev (fun k => spec_l08Missed.l0 k (M.map Int.ofNat) (D.map Int.ofNat) acc ((j + 1 : Nat) : Int) n p q h) r ∨ ¬ (M.any fun t => decide (h ≤ pc (t &&& D[j]))) = true)
    (no : Ev (fun k => spec_l08Missed.l0 k (M.map Int.ofNat) (D.map Int.ofNat) (acc ++ [(D[j] : Int)]) ((j + 1 : Nat) : Int) n p q h) r ∨ (M.any fun t => decide (h ≤ pc (t &&& D[j]))) = true) :
    ∀ (e i : Nat) (b : Bool), i + e = M.length → (b = true → (M.any fun t => decide (h ≤ pc (t &&& D[j]))) = true) → (b = false → (M.any fun t => decide (h ≤ pc (t &&& D[j]))) = ((M.drop i).any fun t => decide (h ≤ pc (t &&& D[j])))) →
      Ev (fun k => spec_l08Missed.l1 k (M.map Int.ofNat) (D.map Int.ofNat) acc j b i n p q h) r
  | e, i, true, e1, hb, _ => by
    have hw : wrap64 ((j : Int) + 1) = ((j + 1 : Nat) : Int) := by rw [w64 (by omega) (by omega)]; omega
    have y := yes.resolve_right (fun hn => hn (hb rfl))
    refine Ev.step (fun k => ?_) y
    simp only [spec_l08Missed.l1]
    by_cases hi : (i : Int) < ((M.map Int.ofNat).length : Int)
    · rw [if_pos hi, if_pos trivial, hw]
    · rw [if_neg hi, if_pos trivial, hw]
  | 0, i, false, e1, _, hb => by
    have hw : wrap64 ((j : Int) + 1) = ((j + 1 : Nat) : Int) := by rw [w64 (by omega) (by omega)]; omega
    have hn : (M.any fun t => decide (h ≤ pc (t &&& D[j]))) = false := by rw [hb rfl, List.drop_eq_nil_of_le (by omega)]; rfl
    have y := no.resolve_right (fun hh => by rw [hn] at hh; cases hh)
    refine Ev.step (fun k => ?_) y
    simp only [spec_l08Missed.l1]
    rw [if_neg (by simp; omega), if_neg (by decide), if_pos (by omega), if_pos (by simp; omega), if_pos (by omega), rd_map D j hj, hw]
  | e+1, i, false, e1, _, hb => by
    have hi : i < M.length := by omega
    have hw : wrap64 ((i : Int) + 1) = ((i + 1 : Nat) : Int) := by rw [w64 (by omega) (by omega)]; omega
    have hMi := hM _ (List.getElem_mem hi)
    have hDj := hD _ (List.getElem_mem hj)
    have hland := land_lt 12 M[i] D[j] (by omega)
    have hdrop : (M.any fun t => decide (h ≤ pc (t &&& D[j]))) = (decide (h ≤ pc (M[i] &&& D[j])) || (M.drop (i+1)).any fun t => decide (h ≤ pc (t &&& D[j]))) := by
      rw [hb rfl, List.drop_eq_getElem_cons hi, List.any_cons]
    obtain ⟨K, hK⟩ := missed_l1 j hj acc ha r yes no e (i+1) (decide (h ≤ pc (M[i] &&& D[j]))) (by omega) (fun hh => by rw [hdrop, hh]; rfl) (fun hh => by rw [hdrop, hh]; rfl)
    refine ⟨K + 20, fun k hk => ?_⟩
    obtain ⟨k, rfl⟩ : ∃ q, k = q + 1 := ⟨k - 1, by omega⟩
    simp only [spec_l08Missed.l1]
    rw [if_pos (by simp; omega), if_neg (by decide), if_pos (by omega), if_pos (by omega), if_pos (by simp; omega), rd_map M i hi, rd_map D j hj, band _ _ (by omega) (by omega), ssize_nat _ (by omega) k (by omega), Option.bind_some, hw]
    have := hK k (by omega)
    rw [show decide ((pc (M[i] &&& D[j]) : Int) ≥ (h : Int)) = decide (h ≤ pc (M[i] &&& D[j])) by congr 1; apply propext; omega]
    exact this
theorem missed_l0 : ∀ (e j : Nat) (acc : List Int), j + e = D.length → acc.length ≤ j → Ev (fun k => spec_l08Missed.l0 k (M.map Int.ofNat) (D.map Int.ofNat) acc j n p q h) (acc ++ ((D.drop j).filter fun d => !(M.any fun t => decide (h ≤ pc (t &&& d)))).map Int.ofNat)
  | 0, j, acc, e1, ha => by
    refine ⟨1, fun k hk => ?_⟩
    obtain ⟨k, rfl⟩ : ∃ q, k = q + 1 := ⟨k - 1, by omega⟩
    simp only [spec_l08Missed.l0]
    rw [if_neg (by simp; omega), List.drop_eq_nil_of_le (by omega)]; simp
  | e+1, j, acc, e1, ha => by
    have hj : j < D.length := by omega
    have start : ∀ r, Ev (fun k => spec_l08Missed.l1 k (M.map Int.ofNat) (D.map Int.ofNat) acc j false ((0 : Nat) : Int) n p q h) r → Ev (fun k => spec_l08Missed.l0 k (M.map Int.ofNat) (D.map Int.ofNat) acc j n p q h) r := by
      intro r hr
      refine Ev.step (fun k => ?_) hr
      simp only [spec_l08Missed.l0]
      rw [if_pos (by simp; omega)]; rfl
    refine start _ ?_
    rw [List.drop_eq_getElem_cons hj, List.filter_cons]
    refine missed_l1 n p q h M D hM hD hl hl2 j hj acc ha _ ?_ ?_ M.length 0 false (by omega) (by simp) (by simp)
    · cases hc : (M.any fun t => decide (h ≤ pc (t &&& D[j]))) with
      | false => exact .inr (by simp)
      | true => left; rw [if_neg (by simp)]; exact missed_l0 e (j+1) acc (by omega) (by omega)
    · cases hc : (M.any fun t => decide (h ≤ pc (t &&& D[j]))) with
      | true => exact .inr rfl
      | false =>
        left; rw [if_pos (by simp)]
        have := missed_l0 e (j+1) (acc ++ [(D[j] : Int)]) (by omega) (by simp; omega)
        simpa using this
end
def missedL (n q h : Nat) (M : List Nat) : List Nat := (S n q).filter fun d => !(M.any fun t => decide (h ≤ pc (t &&& d)))
theorem missedS_ev (n p q h : Nat) (hn1 : 1 ≤ n) (hn : n ≤ 12) (M : List Nat) (hM : ∀ t ∈ M, t < 4096) (hl : M.length ≤ 200) : Ev (fun k => spec_l08Missed.f k n p q h (M.map Int.ofNat)) ((missedL n q h M).map Int.ofNat) := by
  obtain ⟨K, hK⟩ := missed_l0 n p q h M (S n q) hM (fun t ht => S_lt hn ht) hl (S_len n q hn) (S n q).length 0 [] (by omega) (by simp)
  obtain ⟨N, hN⟩ : ∃ N : Nat, 5000 ≤ N := ⟨5000, Nat.le_refl _⟩
  refine ⟨N + K, fun k hk => ?_⟩
  show spec_l08Missed.f k _ _ _ _ _ = _
  unfold spec_l08Missed.f
  rw [specSets_ev n p q h q hn1 hn k (by omega), Option.bind_some]
  have h1 : spec_l08Missed.l0 k (M.map Int.ofNat) ((S n q).map Int.ofNat) ([] : List Int) ((0 : Nat) : Int) n p q h = some (([] : List Int) ++ (((S n q).drop 0).filter fun d => !(M.any fun t => decide (h ≤ pc (t &&& d)))).map Int.ofNat) := hK k (by omega)
  rw [List.nil_append, List.drop_zero] at h1
  exact h1

theorem lot_cases (a b c d : Int) : impl_IsLottery.f a b c d = some false ∨ (impl_IsLottery.f a b c d = some true ∧ ∃ n p q h : Nat, a = n ∧ b = p ∧ c = q ∧ d = h ∧ 1 ≤ n ∧ n ≤ 12 ∧ 1 ≤ p ∧ p ≤ n ∧ 1 ≤ q ∧ q ≤ n ∧ 1 ≤ h ∧ h ≤ p ∧ h ≤ q) := by
  by_cases hv : 1 ≤ a ∧ a ≤ 12 ∧ 1 ≤ b ∧ b ≤ a ∧ 1 ≤ c ∧ c ≤ a ∧ 1 ≤ d ∧ d ≤ b ∧ d ≤ c
  · refine .inr ⟨?_, a.toNat, b.toNat, c.toNat, d.toNat, by omega, by omega, by omega, by omega, by omega, by omega, by omega, by omega, by omega, by omega, by omega, by omega, by omega⟩
    unfold impl_IsLottery.f mn
    repeat' split
    all_goals simp_all
    all_goals omega
  · refine .inl ?_
    unfold impl_IsLottery.f mn
    repeat' split
    all_goals simp_all
    all_goals omega

theorem isLot (a b c d : Int) : spec_l08Is.f a b c d = impl_IsLottery.f a b c d := by
  unfold spec_l08Is.f spec_l01In.f impl_IsLottery.f mn
  repeat' split
  all_goals simp_all
  all_goals omega

def isT (n m : Nat) (s : Int) : Bool := decide (0 ≤ s) && decide (s < ((2 ^ n : Nat) : Int)) && (((pc s.toNat : Nat) : Int) == (m : Int))
theorem isT_nat {n m : Nat} {s : Int} (h : isT n m s = true) : ∃ t : Nat, s = t ∧ t < 2 ^ n ∧ pc t = m := by
  simp only [isT, Bool.and_eq_true, decide_eq_true_eq, beq_iff_eq] at h
  obtain ⟨⟨h0, h1⟩, h2⟩ := h
  refine ⟨s.toNat, by omega, by omega, by omega⟩

theorem specSet_ev (n p q h m : Nat) (s : Int) (hn1 : 1 ≤ n) (hn : n ≤ 12) (k : Nat) (hk : 14 ≤ k) : spec_l08Set.f k n p q h s m = some (isT n m s) := by
  have hp := pow_le hn
  have hp1 : 1 ≤ 2 ^ n := Nat.one_le_two_pow
  unfold spec_l08Set.f spec_l01In.f isT
  rw [u64 (by omega) (by omega), if_pos (by omega), shl_one n (by omega), w64 (by omega) (by omega)]
  generalize 2 ^ n = P at *
  by_cases h0 : 0 ≤ s
  · rw [if_pos h0]
    simp only [Option.bind_some]
    by_cases h1 : s < (P : Int)
    · have h2 : s ≤ (P : Int) - 1 := by omega
      obtain ⟨t, rfl⟩ : ∃ t : Nat, s = t := ⟨s.toNat, by omega⟩
      rw [ssize_nat t (by omega) k hk]
      simp [h1, h2]
    · have h2 : ¬ s ≤ (P : Int) - 1 := by omega
      simp [h1, h2]
  · rw [if_neg h0]; simp [h0]

theorem isSet_ev (n p q h : Nat) (s : Int) (hn : n ≤ 12) : impl_isSet.f n p q h s = some (decide (0 ≤ s) && decide (s < ((2 ^ n : Nat) : Int))) := by
  unfold impl_isSet.f
  rw [shl_one n (by omega)]
  by_cases h0 : 0 ≤ s
  · rw [if_pos h0, if_pos (by omega)]; simp [h0]
  · rw [if_neg h0]; simp [h0]

theorem isTicket_ev (n p q h : Nat) (s : Int) (hn : n ≤ 12) : impl_isTicket.f n p q h s = some (isT n p s) := by
  have hp := pow_le hn
  unfold impl_isTicket.f
  rw [isSet_ev n p q h s hn]
  unfold isT
  generalize 2 ^ n = P at *
  by_cases hv : 0 ≤ s ∧ s < (P : Int)
  · obtain ⟨t, rfl⟩ : ∃ t : Nat, s = t := ⟨s.toNat, by omega⟩
    simp only [hv.1, hv.2, decide_true, Bool.and_self, Option.bind_some, if_true]
    rw [size_nat t (by omega)]; simp
  · have : (decide (0 ≤ s) && decide (s < (P : Int))) = false := by simp; omega
    rw [this]; simp

theorem rd_mid (A B : List Int) (b : Int) : rd (A ++ b :: B) (A.length : Int) = b := by simp [rd]
theorem rd_nat (M : List Int) (i : Nat) (h : i < M.length) : rd M (i : Int) = M[i] := by simp [rd, List.getElem?_eq_getElem h]
theorem tickets_both (n p q h : Nat) (hn1 : 1 ≤ n) (hn : n ≤ 12) (l : List Int) (hl : l.length ≤ 1048576) : ∀ d i : Nat, i + d = l.length → ∃ b : Bool, (∀ k, d + 20 ≤ k → spec_l08Tickets.l0 k l i n p q h = some (if b = true then 0 else 2)) ∧ (∀ k, d + 20 ≤ k → impl_areTickets.l0 k l l l.length i n p q h = some b) ∧ (b = true → l.length ≤ 200 ∧ ∀ j, i ≤ j → ∀ hj : j < l.length, isT n p l[j] = true)
  | 0, i, e => by
    refine ⟨decide ((l.length : Int) ≤ 200), fun k hk => ?_, fun k hk => ?_, fun hb => ⟨?_, fun j h1 h2 => by omega⟩⟩
    · obtain ⟨k, rfl⟩ : ∃ q, k = q + 1 := ⟨k - 1, by omega⟩
      simp only [spec_l08Tickets.l0]
      rw [if_neg (by omega)]
      by_cases hh : (l.length : Int) > 200
      · rw [if_pos hh, if_neg]; simp; omega
      · rw [if_neg hh, if_pos]; simp; omega
    · obtain ⟨k, rfl⟩ : ∃ q, k = q + 1 := ⟨k - 1, by omega⟩
      simp only [impl_areTickets.l0]
      rw [if_neg (by omega)]
    · simp at hb; omega
  | d+1, i, e => by
    have hi : i < l.length := by omega
    have hw : wrap64 ((i : Int) + 1) = ((i + 1 : Nat) : Int) := by rw [w64 (by omega) (by omega)]; omega
    have hr := rd_nat l i hi
    cases ht : isT n p l[i] with
    | false =>
      refine ⟨false, fun k hk => ?_, fun k hk => ?_, fun hb => by cases hb⟩
      · obtain ⟨k, rfl⟩ : ∃ q, k = q + 1 := ⟨k - 1, by omega⟩
        simp only [spec_l08Tickets.l0]
        rw [if_pos (by omega), if_pos (by omega), hr, specSet_ev n p q h p _ hn1 hn k (by omega), ht]
        simp
      · obtain ⟨k, rfl⟩ : ∃ q, k = q + 1 := ⟨k - 1, by omega⟩
        simp only [impl_areTickets.l0]
        rw [if_pos (by omega), if_pos (by omega), if_pos (by omega), hr, isTicket_ev n p q h _ hn, ht]
        simp
    | true =>
      by_cases h0 : 0 < i
      · have hw1 : wrap64 ((i : Int) - 1) = ((i - 1 : Nat) : Int) := by rw [w64 (by omega) (by omega)]; omega
        have hr1 := rd_nat l (i - 1) (by omega)
        by_cases hge : l[i] ≤ l[i-1]
        · refine ⟨false, fun k hk => ?_, fun k hk => ?_, fun hb => by cases hb⟩
          · obtain ⟨k, rfl⟩ : ∃ q, k = q + 1 := ⟨k - 1, by omega⟩
            simp only [spec_l08Tickets.l0]
            rw [if_pos (by omega), if_pos (by omega), hr, specSet_ev n p q h p _ hn1 hn k (by omega), ht]
            simp only [Option.bind_some, if_true]
            rw [if_pos (by omega), hw1, if_pos (by omega), if_pos (by omega), hr1, if_pos (by omega)]
            simp
          · obtain ⟨k, rfl⟩ : ∃ q, k = q + 1 := ⟨k - 1, by omega⟩
            simp only [impl_areTickets.l0]
            rw [if_pos (by omega), if_pos (by omega), if_pos (by omega), hr, isTicket_ev n p q h _ hn, ht]
            simp only [Option.bind_some, if_true]
            rw [if_pos (by omega), hw1, if_pos (by omega), if_pos (by omega), hr1, if_pos (by omega)]
        · obtain ⟨b, g1, g2, g3⟩ := tickets_both n p q h hn1 hn l hl d (i+1) (by omega)
          refine ⟨b, fun k hk => ?_, fun k hk => ?_, fun hb => ⟨(g3 hb).1, fun j h1 h2 => ?_⟩⟩
          · obtain ⟨k, rfl⟩ : ∃ q, k = q + 1 := ⟨k - 1, by omega⟩
            simp only [spec_l08Tickets.l0]
            rw [if_pos (by omega), if_pos (by omega), hr, specSet_ev n p q h p _ hn1 hn k (by omega), ht]
            simp only [Option.bind_some, if_true]
            rw [if_pos (by omega), hw1, if_pos (by omega), if_pos (by omega), hr1, if_neg (by omega), hw]
            exact g1 k (by omega)
          · obtain ⟨k, rfl⟩ : ∃ q, k = q + 1 := ⟨k - 1, by omega⟩
            simp only [impl_areTickets.l0]
            rw [if_pos (by omega), if_pos (by omega), if_pos (by omega), hr, isTicket_ev n p q h _ hn, ht]
            simp only [Option.bind_some, if_true]
            rw [if_pos (by omega), hw1, if_pos (by omega), if_pos (by omega), hr1, if_neg (by omega), hw]
            exact g2 k (by omega)
          · by_cases hj : j = i
            · subst hj; exact ht
            · exact (g3 hb).2 j (by omega) h2
      · obtain ⟨b, g1, g2, g3⟩ := tickets_both n p q h hn1 hn l hl d (i+1) (by omega)
        refine ⟨b, fun k hk => ?_, fun k hk => ?_, fun hb => ⟨(g3 hb).1, fun j h1 h2 => ?_⟩⟩
        · obtain ⟨k, rfl⟩ : ∃ q, k = q + 1 := ⟨k - 1, by omega⟩
          simp only [spec_l08Tickets.l0]
          rw [if_pos (by omega), if_pos (by omega), hr, specSet_ev n p q h p _ hn1 hn k (by omega), ht]
          simp only [Option.bind_some, if_true]
          rw [if_neg (by omega), hw]
          exact g1 k (by omega)
        · obtain ⟨k, rfl⟩ : ∃ q, k = q + 1 := ⟨k - 1, by omega⟩
          simp only [impl_areTickets.l0]
          rw [if_pos (by omega), if_pos (by omega), if_pos (by omega), hr, isTicket_ev n p q h _ hn, ht]
          simp only [Option.bind_some, if_true]
          rw [if_neg (by omega), hw]
          exact g2 k (by omega)
        · by_cases hj : j = i
          · subst hj; exact ht
          · exact (g3 hb).2 j (by omega) h2

theorem tickets_ev (a b c d : Int) (l : List Int) (hl : l.length ≤ 1048576) : ∃ e : Int, (∀ k, l.length + 20 ≤ k → spec_l08Tickets.f k a b c d l = some e) ∧ (∀ k, l.length + 20 ≤ k → impl_ticketsCode.f k a b c d l = some e) ∧
    (e = 0 ∨ e = 1 ∨ e = 2) ∧ (e = 0 → ∃ n p q h : Nat, a = n ∧ b = p ∧ c = q ∧ d = h ∧ 1 ≤ n ∧ n ≤ 12 ∧ 1 ≤ p ∧ p ≤ n ∧ 1 ≤ q ∧ q ≤ n ∧ 1 ≤ h ∧ h ≤ p ∧ h ≤ q ∧ l.length ≤ 200 ∧ ∃ M : List Nat, l = M.map Int.ofNat ∧ ∀ t ∈ M, t < 2 ^ n ∧ pc t = p) := by
  rcases lot_cases a b c d with h | ⟨h, n, p, q, e, rfl, rfl, rfl, rfl, h1, h2, h3, h4, h5, h6, h7, h8, h9⟩
  · refine ⟨1, fun k hk => ?_, fun k hk => ?_, by omega, fun h => by omega⟩
    · unfold spec_l08Tickets.f; rw [isLot, h]; rfl
    · unfold impl_ticketsCode.f; rw [h]; rfl
  · obtain ⟨t, g1, g2, g3⟩ := tickets_both n p q e h1 h2 l hl l.length 0 (by omega)
    refine ⟨if t = true then 0 else 2, fun k hk => ?_, fun k hk => ?_, by split <;> omega, fun h0 => ?_⟩
    · unfold spec_l08Tickets.f
      rw [isLot, h]
      simp only [Option.bind_some, if_true]
      exact g1 k (by omega)
    · unfold impl_ticketsCode.f impl_areTickets.f
      rw [h]
      simp only [Option.bind_some, if_true]
      have := g2 k (by omega)
      rw [show (0 : Int) = ((0 : Nat) : Int) from rfl, this]
      cases t <;> rfl
    · have ht : t = true := by
        cases t with
        | true => rfl
        | false => simp at h0
      obtain ⟨g4, g5⟩ := g3 ht
      refine ⟨n, p, q, e, rfl, rfl, rfl, rfl, h1, h2, h3, h4, h5, h6, h7, h8, h9, g4, l.map Int.toNat, ?_, ?_⟩
      · rw [List.map_map]
        apply List.ext_getElem (by simp)
        intro j hj1 hj2
        obtain ⟨u, hu, _⟩ := isT_nat (g5 j (by omega) hj1)
        simp [hu]
      · intro u hu
        rw [List.mem_map] at hu
        obtain ⟨x, hx, rfl⟩ := hu
        obtain ⟨j, hj, rfl⟩ := List.mem_iff_getElem.1 hx
        obtain ⟨u, hu, hu2⟩ := isT_nat (g5 j (by omega) hj)
        rw [hu]; simpa using hu2

theorem hits_ev (n p q h t u : Nat) (ht : t < 4096) (hu : u < 4096) : impl_hits.f n p q h t u = some (decide (h ≤ pc (t &&& u))) := by
  have hl := land_lt 12 t u (by omega)
  unfold impl_hits.f
  rw [band t u (by omega) (by omega), size_nat _ (by omega)]
  simp
theorem pc_ones : ∀ p, p < 13 → pc (2 ^ p - 1) = p := by decide +kernel

theorem hitB_nat (n p q h t d : Nat) (ht : t < 4096) (hd : d < 4096) : hitB n p q h t d = decide (h ≤ pc (t &&& d)) := by
  have hl := land_lt 12 t d (by omega)
  unfold hitB impl_hits.f
  rw [band t d (by omega) (by omega), size_nat _ (by omega), Option.bind_some]
  simp
theorem filt_any (D M : List Nat) (f : Int → Int → Bool) (g : Nat → Nat → Bool) (h : ∀ t ∈ M, ∀ d ∈ D, f (t : Int) (d : Int) = g t d) : (D.map Int.ofNat).filter (fun d => !((M.map Int.ofNat).any fun t => f t d)) = (D.filter fun d => !(M.any fun t => g t d)).map Int.ofNat := by
  rw [List.filter_map]
  congr 1
  apply List.filter_congr
  intro d hd
  simp only [Function.comp]
  congr 1
  rw [List.any_map]
  rw [Bool.eq_iff_iff, List.any_eq_true, List.any_eq_true]
  constructor
  · rintro ⟨t, ht, hh⟩
    exact ⟨t, ht, by rw [← h t ht d hd]; exact hh⟩
  · rintro ⟨t, ht, hh⟩
    exact ⟨t, ht, by show f (t : Int) (d : Int) = true; rw [h t ht d hd]; exact hh⟩

theorem missed_ev (n p q h : Nat) (hn1 : 1 ≤ n) (hn : n ≤ 12) (M : List Nat) (hM : ∀ t ∈ M, t < 4096) (hl : M.length ≤ 200) : Ev (fun k => spec_l08Missed.f k n p q h (M.map Int.ofNat)) ((missedL n q h M).map Int.ofNat) ∧ Ev (fun k => impl_missed.f k n p q h (M.map Int.ofNat)) ((missedL n q h M).map Int.ofNat) := by
  constructor
  · exact missedS_ev n p q h hn1 hn M hM hl
  · obtain ⟨N, hN⟩ : ∃ N : Nat, 5000 ≤ N := ⟨5000, Nat.le_refl _⟩
    refine ⟨N, fun k hk => ?_⟩
    show impl_missed.f k _ _ _ _ _ = _
    unfold impl_missed.f impl_allDraws.f
    rw [sets_ev n q hn k (by omega), Option.bind_some, Option.bind_some]
    rw [filt_any (S n q) M (fun t d => hitB n p q h t d) (fun t d => decide (h ≤ pc (t &&& d))) (fun t ht d hd => hitB_nat n p q h t d (hM t ht) (S_lt hn hd))]
    rfl

theorem ev_uniq {α : Type} {f : Nat → Option α} {a b : α} (h : Ev f a) (h2 : Ev f b) : a = b := by
  obtain ⟨K, hK⟩ := h
  obtain ⟨K2, hK2⟩ := h2
  have e1 := hK (K + K2) (by omega)
  have e2 := hK2 (K + K2) (by omega)
  rw [e1] at e2
  exact Option.some.inj e2

theorem four_both (a b c d : Int) (l : List Int) (hl : l.length ≤ 1048576) : ∃ (gd : Bool) (e fm e2 ct : Int), Ev (fun k => spec_l08Tickets.f k a b c d l) e ∧ Ev (fun k => impl_Guarantees.f k a b c d l) (gd, e) ∧ Ev (fun k => spec_Guarantees.f k a b c d l) (gd, e) ∧ Ev (fun k => impl_FirstMissed.f k a b c d l) (fm, e2) ∧ Ev (fun k => spec_FirstMissed.f k a b c d l) (fm, e2) ∧ Ev (fun k => impl_CountMissed.f k a b c d l) (ct, e) ∧ Ev (fun k => spec_CountMissed.f k a b c d l) (ct, e) ∧ (e ≠ 0 → gd = false) ∧ (e = 0 → (ct == 0) = gd ∧ (e2 == 4) = gd) := by
  obtain ⟨e, s1, s2, s3, s4⟩ := tickets_ev a b c d l hl
  by_cases he : e = 0
  · subst he
    obtain ⟨n, p, q, h, rfl, rfl, rfl, rfl, h1, h2, h3, h4, h5, h6, h7, h8, h9, hl2, M, rfl, hM⟩ := s4 rfl
    have hpw := pow_le h2
    rw [List.length_map] at hl2 hl s1 s2
    obtain ⟨⟨K1, g1⟩, ⟨K2, g2⟩⟩ := missed_ev n p q h h1 h2 M (fun t ht => by have := (hM t ht).1; omega) hl2
    obtain ⟨N, hN⟩ : ∃ N : Nat, 5000 ≤ N := ⟨5000, Nat.le_refl _⟩
    obtain ⟨X, hX⟩ : ∃ X, X = (missedL n q h M).map Int.ofNat := ⟨_, rfl⟩
    rw [← hX] at g1 g2
    have fp : (if (X.length : Int) = 0 then (some ((0 : Int), (4 : Int))) else (if 0 < (X.length : Int) then (some (rd X 0, 0)) else (none))) = some (if (X.length : Int) = 0 then 0 else rd X 0, if (X.length : Int) = 0 then 4 else 0) := by
      by_cases h : (X.length : Int) = 0
      · rw [if_pos h, if_pos h, if_pos h]
      · rw [if_neg h, if_neg h, if_neg h, if_pos (by omega)]
    refine ⟨((X.length : Int) == 0), 0, if (X.length : Int) = 0 then 0 else rd X 0, if (X.length : Int) = 0 then 4 else 0, X.length, ⟨M.length + 20, s1⟩, ⟨N + K2, fun k hk => ?_⟩, ⟨N + K1, fun k hk => ?_⟩, ⟨N + K2, fun k hk => ?_⟩, ⟨N + K1, fun k hk => ?_⟩, ⟨N + K2, fun k hk => ?_⟩, ⟨N + K1, fun k hk => ?_⟩, fun h => absurd rfl h, fun _ => ⟨rfl, ?_⟩⟩
    · show impl_Guarantees.f k _ _ _ _ _ = _
      unfold impl_Guarantees.f
      have this : impl_missed.f k n p q h (M.map Int.ofNat) = _ := g2 k (by omega)
      rw [s2 k (by omega), Option.bind_some, if_pos rfl, this, Option.bind_some]
    · show spec_Guarantees.f k _ _ _ _ _ = _
      unfold spec_Guarantees.f
      have this : spec_l08Missed.f k n p q h (M.map Int.ofNat) = _ := g1 k (by omega)
      rw [s1 k (by omega), Option.bind_some, if_pos rfl, this, Option.bind_some]
    · show impl_FirstMissed.f k _ _ _ _ _ = _
      unfold impl_FirstMissed.f
      have this : impl_missed.f k n p q h (M.map Int.ofNat) = _ := g2 k (by omega)
      rw [s2 k (by omega), Option.bind_some, if_pos rfl, this, Option.bind_some]
      exact fp
    · show spec_FirstMissed.f k _ _ _ _ _ = _
      unfold spec_FirstMissed.f
      have this : spec_l08Missed.f k n p q h (M.map Int.ofNat) = _ := g1 k (by omega)
      rw [s1 k (by omega), Option.bind_some, if_pos rfl, this, Option.bind_some]
      exact fp
    · show impl_CountMissed.f k _ _ _ _ _ = _
      unfold impl_CountMissed.f
      have this : impl_missed.f k n p q h (M.map Int.ofNat) = _ := g2 k (by omega)
      rw [s2 k (by omega), Option.bind_some, if_pos rfl, this, Option.bind_some]
    · show spec_CountMissed.f k _ _ _ _ _ = _
      unfold spec_CountMissed.f
      have this : spec_l08Missed.f k n p q h (M.map Int.ofNat) = _ := g1 k (by omega)
      rw [s1 k (by omega), Option.bind_some, if_pos rfl, this, Option.bind_some]
    · by_cases h : (X.length : Int) = 0
      · rw [if_pos h, beq_iff_eq.2 h]; rfl
      · rw [if_neg h, beq_eq_false_iff_ne.2 h]; rfl
  · refine ⟨false, e, 0, e, 0, ⟨l.length + 20, s1⟩, ⟨l.length + 30, fun k hk => ?_⟩, ⟨l.length + 30, fun k hk => ?_⟩, ⟨l.length + 30, fun k hk => ?_⟩, ⟨l.length + 30, fun k hk => ?_⟩, ⟨l.length + 30, fun k hk => ?_⟩, ⟨l.length + 30, fun k hk => ?_⟩, fun _ => rfl, fun h => absurd h he⟩
    · show impl_Guarantees.f k _ _ _ _ _ = _
      unfold impl_Guarantees.f
      rw [s2 k (by omega), Option.bind_some, if_neg he]
    · show spec_Guarantees.f k _ _ _ _ _ = _
      unfold spec_Guarantees.f
      rw [s1 k (by omega), Option.bind_some, if_neg he]
    · show impl_FirstMissed.f k _ _ _ _ _ = _
      unfold impl_FirstMissed.f
      rw [s2 k (by omega), Option.bind_some, if_neg he]
    · show spec_FirstMissed.f k _ _ _ _ _ = _
      unfold spec_FirstMissed.f
      rw [s1 k (by omega), Option.bind_some, if_neg he]
    · show impl_CountMissed.f k _ _ _ _ _ = _
      unfold impl_CountMissed.f
      rw [s2 k (by omega), Option.bind_some, if_neg he]
    · show spec_CountMissed.f k _ _ _ _ _ = _
      unfold spec_CountMissed.f
      rw [s1 k (by omega), Option.bind_some, if_neg he]

def NdOk (M : List Nat) (r : List Int) : Prop := r.length ≤ 200 ∧ ∀ x ∈ r, x ∈ M.map Int.ofNat
section
variable (n p q h : Nat) (M D : List Nat) (hM : ∀ t ∈ M, t < 4096) (hD : ∀ t ∈ D, t < 4096) (hl : M.length ≤ 200) (hl2 : D.length ≤ 4096)
include hM hD hl hl2
omit hM hD hl2 in
theorem needed_l2 (B : List Bool) (hB : B.length = M.length) : ∀ (e i : Nat) (acc : List Int), i + e = M.length → acc.length ≤ i → (∀ x ∈ acc, x ∈ M.map Int.ofNat) → ∃ r : List Int, NdOk M r ∧ Ev (fun k => spec_NeededTickets.l2 k (M.map Int.ofNat) B acc i) (r, 0) ∧ Ev (fun k => impl_NeededTickets.l2 k B acc (M.map Int.ofNat) M.length i) (r, 0)
  | 0, i, acc, e1, ha, hx => by
    refine ⟨acc, ⟨by omega, hx⟩, ⟨1, fun k hk => ?_⟩, ⟨1, fun k hk => ?_⟩⟩
    · obtain ⟨k, rfl⟩ : ∃ q, k = q + 1 := ⟨k - 1, by omega⟩
      simp only [spec_NeededTickets.l2]; rw [if_neg (by simp; omega)]
    · obtain ⟨k, rfl⟩ : ∃ q, k = q + 1 := ⟨k - 1, by omega⟩
      simp only [impl_NeededTickets.l2]; rw [if_neg (by omega)]
  | e+1, i, acc, e1, ha, hx => by
    have hi : i < M.length := by omega
    have hw : wrap64 ((i : Int) + 1) = ((i + 1 : Nat) : Int) := by rw [w64 (by omega) (by omega)]; omega
    by_cases hb : rdOf false B (i : Int) = true
    · obtain ⟨r, g0, g1, g2⟩ := needed_l2 B hB e (i+1) (acc ++ [(M[i] : Int)]) (by omega) (by simp; omega) (fun x h => by
        rcases List.mem_append.1 h with h | h
        · exact hx x h
        · rw [List.mem_singleton.1 h]; exact List.mem_map.2 ⟨_, List.getElem_mem hi, rfl⟩)
      refine ⟨r, g0, Ev.step (fun k => ?_) g1, Ev.step (fun k => ?_) g2⟩
      · simp only [spec_NeededTickets.l2]
        rw [if_pos (by simp; omega), if_pos (by omega), if_pos (by omega), if_pos hb, if_pos (by omega), rd_map M i hi, hw]
      · simp only [impl_NeededTickets.l2]
        rw [if_pos (by omega), if_pos (by omega), if_pos (by simp; omega), if_pos (by omega), if_pos hb, if_pos (by omega), rd_map M i hi, hw]
    · obtain ⟨r, g0, g1, g2⟩ := needed_l2 B hB e (i+1) acc (by omega) (by omega) hx
      refine ⟨r, g0, Ev.step (fun k => ?_) g1, Ev.step (fun k => ?_) g2⟩
      · simp only [spec_NeededTickets.l2]
        rw [if_pos (by simp; omega), if_pos (by omega), if_pos (by omega), if_neg hb, hw]
      · simp only [impl_NeededTickets.l2]
        rw [if_pos (by omega), if_pos (by omega), if_pos (by simp; omega), if_pos (by omega), if_neg hb, hw]
omit hM hD hl hl2 in
theorem needed_two (B : List Bool) (j : Nat) (r : List Int × Int) (last i : Nat) (H : Ev (fun k => spec_NeededTickets.l0 k (M.map Int.ofNat) (D.map Int.ofNat) B (wrap64 ((j : Int) + 1)) n p q h) r) :
    Ev (fun k => spec_NeededTickets.l1 k (M.map Int.ofNat) (D.map Int.ofNat) B j 2 last i n p q h) r := by
  have H2 : Ev (fun k => spec_NeededTickets.j2 k (M.map Int.ofNat) (D.map Int.ofNat) B j 2 last i false n p q h) r := by
    refine Ev.step (fun k => ?_) H
    simp only [spec_NeededTickets.j2]
    rw [if_neg (by decide), if_neg (by decide)]
  refine Ev.step (fun k => ?_) H2
  simp only [spec_NeededTickets.l1]
  by_cases hi : (i : Int) < ((M.map Int.ofNat).length : Int)
  · rw [if_pos hi]; rfl
  · rw [if_neg hi]
omit hl2 in
theorem needed_many (B : List Bool) (j : Nat) (hj : j < D.length) (r : List Int × Int) (H : Ev (fun k => impl_NeededTickets.l0 k (M.map Int.ofNat) B (D.map Int.ofNat) D.length (wrap64 ((j : Int) + 1)) n p q h) r) :
    ∀ (e i m last : Nat), i + e = M.length → 2 ≤ m → m ≤ i → Ev (fun k => impl_NeededTickets.l1 k (M.map Int.ofNat) B (D[j] : Int) m last (D.map Int.ofNat) D.length j (M.map Int.ofNat) M.length i n p q h) r
  | 0, i, m, last, e1, hm, hm2 => by
    refine Ev.step (fun k => ?_) H
    simp only [impl_NeededTickets.l1]
    rw [if_neg (by omega), if_neg (by omega)]
  | e+1, i, m, last, e1, hm, hm2 => by
    have hi : i < M.length := by omega
    have hw : wrap64 ((i : Int) + 1) = ((i + 1 : Nat) : Int) := by rw [w64 (by omega) (by omega)]; omega
    have hwm : wrap64 ((m : Int) + 1) = ((m + 1 : Nat) : Int) := by rw [w64 (by omega) (by omega)]; omega
    by_cases hh : h ≤ pc (M[i] &&& D[j])
    · refine Ev.step (fun k => ?_) (needed_many B j hj r H e (i+1) (m+1) i (by omega) (by omega) (by omega))
      simp only [impl_NeededTickets.l1]
      rw [if_pos (by omega), if_pos (by omega), if_pos (by simp; omega), rd_map M i hi, hits_ev n p q h _ _ (hM _ (List.getElem_mem hi)) (hD _ (List.getElem_mem hj)), Option.bind_some, if_pos (by simpa using hh), hw, hwm]
    · refine Ev.step (fun k => ?_) (needed_many B j hj r H e (i+1) m last (by omega) (by omega) (by omega))
      simp only [impl_NeededTickets.l1]
      rw [if_pos (by omega), if_pos (by omega), if_pos (by simp; omega), rd_map M i hi, hits_ev n p q h _ _ (hM _ (List.getElem_mem hi)) (hD _ (List.getElem_mem hj)), Option.bind_some, if_neg (by simpa using hh), hw]
omit hl2 in
theorem needed_round (B : List Bool) (hB : B.length = M.length) (j : Nat) (hj : j < D.length)
    (next : ∀ B' : List Bool, B'.length = M.length → ∃ r : List Int, NdOk M r ∧ Ev (fun k => spec_NeededTickets.l0 k (M.map Int.ofNat) (D.map Int.ofNat) B' (wrap64 ((j : Int) + 1)) n p q h) (r, 0) ∧ Ev (fun k => impl_NeededTickets.l0 k (M.map Int.ofNat) B' (D.map Int.ofNat) D.length (wrap64 ((j : Int) + 1)) n p q h) (r, 0)) :
    ∀ (e i m last : Nat), i + e = M.length → m ≤ 1 → m ≤ i → (m = 1 → last < M.length) → ∃ r : List Int, NdOk M r ∧ Ev (fun k => spec_NeededTickets.l1 k (M.map Int.ofNat) (D.map Int.ofNat) B j m last i n p q h) (r, 0) ∧ Ev (fun k => impl_NeededTickets.l1 k (M.map Int.ofNat) B (D[j] : Int) m last (D.map Int.ofNat) D.length j (M.map Int.ofNat) M.length i n p q h) (r, 0)
  | 0, i, m, last, e1, hm, hm2, hlast => by
    by_cases h1 : m = 1
    · obtain ⟨r, g0, g1, g2⟩ := next (B.set last true) (by simpa using hB)
      have hlt := hlast h1
      refine ⟨r, g0, Ev.step (fun k => ?_) (Ev.step (g := fun k => spec_NeededTickets.j2 k (M.map Int.ofNat) (D.map Int.ofNat) B j m last i false n p q h) (fun k => ?_) g1), Ev.step (fun k => ?_) g2⟩
      · simp only [spec_NeededTickets.l1]; rw [if_neg (by simp; omega)]
      · simp only [spec_NeededTickets.j2]
        rw [if_neg (by decide), if_pos (by omega), if_pos (by omega), if_pos (by omega), Int.toNat_natCast]
      · simp only [impl_NeededTickets.l1]
        rw [if_neg (by omega), if_pos (by omega), if_pos (by omega), if_pos (by omega), Int.toNat_natCast]
    · obtain ⟨r, g0, g1, g2⟩ := next B hB
      refine ⟨r, g0, Ev.step (fun k => ?_) (Ev.step (g := fun k => spec_NeededTickets.j2 k (M.map Int.ofNat) (D.map Int.ofNat) B j m last i false n p q h) (fun k => ?_) g1), Ev.step (fun k => ?_) g2⟩
      · simp only [spec_NeededTickets.l1]; rw [if_neg (by simp; omega)]
      · simp only [spec_NeededTickets.j2]
        rw [if_neg (by decide), if_neg (by omega)]
      · simp only [impl_NeededTickets.l1]
        rw [if_neg (by omega), if_neg (by omega)]
  | e+1, i, m, last, e1, hm, hm2, hlast => by
    have hi : i < M.length := by omega
    have hw : wrap64 ((i : Int) + 1) = ((i + 1 : Nat) : Int) := by rw [w64 (by omega) (by omega)]; omega
    have hwm : wrap64 ((m : Int) + 1) = ((m + 1 : Nat) : Int) := by rw [w64 (by omega) (by omega)]; omega
    have hMi := hM _ (List.getElem_mem hi)
    have hDj := hD _ (List.getElem_mem hj)
    have hland := land_lt 12 M[i] D[j] (by omega)
    have hdec : decide ((m : Int) < 2) = true := by simp; omega
    -- one step of the two
    have stepS : ∀ k, spec_NeededTickets.l1 (k+1) (M.map Int.ofNat) (D.map Int.ofNat) B j m last i n p q h = spec_NeededTickets.j2 k (M.map Int.ofNat) (D.map Int.ofNat) B j m last i true n p q h := by
      intro k
      simp only [spec_NeededTickets.l1]
      rw [if_pos (by simp; omega), hdec]
    have stepI : ∀ k, impl_NeededTickets.l1 (k+1) (M.map Int.ofNat) B (D[j] : Int) m last (D.map Int.ofNat) D.length j (M.map Int.ofNat) M.length i n p q h = if decide (h ≤ pc (M[i] &&& D[j])) = true then impl_NeededTickets.l1 k (M.map Int.ofNat) B (D[j] : Int) ((m + 1 : Nat) : Int) i (D.map Int.ofNat) D.length j (M.map Int.ofNat) M.length ((i + 1 : Nat) : Int) n p q h else impl_NeededTickets.l1 k (M.map Int.ofNat) B (D[j] : Int) m last (D.map Int.ofNat) D.length j (M.map Int.ofNat) M.length ((i + 1 : Nat) : Int) n p q h := by
      intro k
      simp only [impl_NeededTickets.l1]
      rw [if_pos (by omega), if_pos (by omega), if_pos (by simp; omega), rd_map M i hi, hits_ev n p q h _ _ hMi hDj, Option.bind_some, hw, hwm]
    have hsz : ∃ K, ∀ k, K ≤ k → spec_l08Size.f k (Go.bits .and .i64 (rd (M.map Int.ofNat) (i : Int)) (rd (D.map Int.ofNat) (j : Int))) = some (pc (M[i] &&& D[j]) : Int) := by
      refine ⟨14, fun k hk => ?_⟩
      rw [rd_map M i hi, rd_map D j hj, band _ _ (by omega) (by omega), ssize_nat _ (by omega) k hk]
    obtain ⟨K, hsz⟩ := hsz
    have stepJ : ∀ (r : List Int × Int), Ev (fun k => if (pc (M[i] &&& D[j]) : Int) ≥ (h : Int) then spec_NeededTickets.l1 k (M.map Int.ofNat) (D.map Int.ofNat) B j ((m + 1 : Nat) : Int) i ((i + 1 : Nat) : Int) n p q h else spec_NeededTickets.l1 k (M.map Int.ofNat) (D.map Int.ofNat) B j m last ((i + 1 : Nat) : Int) n p q h) r → Ev (fun k => spec_NeededTickets.j2 k (M.map Int.ofNat) (D.map Int.ofNat) B j m last i true n p q h) r := by
      rintro r ⟨K2, hK2⟩
      refine ⟨K + K2 + 1, fun k hk => ?_⟩
      obtain ⟨k, rfl⟩ : ∃ q, k = q + 1 := ⟨k - 1, by omega⟩
      simp only [spec_NeededTickets.j2]
      rw [if_pos trivial, if_pos (by omega), if_pos (by simp; omega), if_pos (by omega), if_pos (by simp; omega), hsz k (by omega), Option.bind_some, hw, hwm]
      exact hK2 k (by omega)
    by_cases hh : h ≤ pc (M[i] &&& D[j])
    · have hd : decide (h ≤ pc (M[i] &&& D[j])) = true := by simpa using hh
      by_cases h1 : m = 1
      · obtain ⟨r, g0, g1, g2⟩ := next B hB
        refine ⟨r, g0, Ev.step stepS (stepJ _ ?_), Ev.step stepI ?_⟩
        · refine Ev.congr (fun k => if_pos (by omega)) ?_
          subst h1
          exact needed_two n p q h M D B j (r, 0) i (i+1) g1
        · refine Ev.congr (fun k => if_pos hd) ?_
          exact needed_many n p q h M D hM hD hl B j hj (r, 0) g2 e (i+1) (m+1) i (by omega) (by omega) (by omega)
      · obtain ⟨r, g0, g1, g2⟩ := needed_round B hB j hj next e (i+1) (m+1) i (by omega) (by omega) (by omega) (fun _ => hi)
        refine ⟨r, g0, Ev.step stepS (stepJ _ ?_), Ev.step stepI ?_⟩
        · exact Ev.congr (fun k => if_pos (by omega)) g1
        · exact Ev.congr (fun k => if_pos hd) g2
    · have hd : ¬ decide (h ≤ pc (M[i] &&& D[j])) = true := by simpa using hh
      obtain ⟨r, g0, g1, g2⟩ := needed_round B hB j hj next e (i+1) m last (by omega) hm (by omega) hlast
      refine ⟨r, g0, Ev.step stepS (stepJ _ ?_), Ev.step stepI ?_⟩
      · exact Ev.congr (fun k => if_neg (by omega)) g1
      · exact Ev.congr (fun k => if_neg hd) g2
theorem needed_l0 : ∀ (e j : Nat) (B : List Bool), B.length = M.length → j + e = D.length → ∃ r : List Int, NdOk M r ∧ Ev (fun k => spec_NeededTickets.l0 k (M.map Int.ofNat) (D.map Int.ofNat) B j n p q h) (r, 0) ∧ Ev (fun k => impl_NeededTickets.l0 k (M.map Int.ofNat) B (D.map Int.ofNat) D.length j n p q h) (r, 0)
  | 0, j, B, hB, e1 => by
    obtain ⟨r, g0, g1, g2⟩ := needed_l2 M hl B hB M.length 0 [] (by omega) (by simp) (by simp)
    refine ⟨r, g0, Ev.step (fun k => ?_) g1, Ev.step (fun k => ?_) g2⟩
    · simp only [spec_NeededTickets.l0]; rw [if_neg (by simp; omega)]; rfl
    · simp only [impl_NeededTickets.l0]; rw [if_neg (by omega), List.length_map]; rfl
  | e+1, j, B, hB, e1 => by
    have hj : j < D.length := by omega
    have hw : wrap64 ((j : Int) + 1) = ((j + 1 : Nat) : Int) := by rw [w64 (by omega) (by omega)]; omega
    obtain ⟨r, g0, g1, g2⟩ := needed_round n p q h M D hM hD hl B hB j hj (fun B' hB' => by rw [hw]; exact needed_l0 e (j+1) B' hB' (by omega)) M.length 0 0 0 (by omega) (by omega) (by omega) (by omega)
    refine ⟨r, g0, Ev.step (fun k => ?_) g1, Ev.step (fun k => ?_) g2⟩
    · simp only [spec_NeededTickets.l0]; rw [if_pos (by simp; omega)]; rfl
    · simp only [impl_NeededTickets.l0]; rw [if_pos (by omega), if_pos (by omega), if_pos (by simp; omega), rd_map D j hj, List.length_map]; rfl
end
theorem needed_ev (a b c d : Int) (l : List Int) (hl : l.length ≤ 1048576) : ∃ (r : List Int) (e : Int), r.length ≤ 200 ∧ (∀ x ∈ r, x ∈ l) ∧ Ev (fun k => spec_l08Tickets.f k a b c d l) e ∧ Ev (fun k => spec_NeededTickets.f k a b c d l) (r, e) ∧ Ev (fun k => impl_NeededTickets.f k a b c d l) (r, e) := by
  obtain ⟨e, s1, s2, s3, s4⟩ := tickets_ev a b c d l hl
  by_cases he : e = 0
  · subst he
    obtain ⟨n, p, q, h, rfl, rfl, rfl, rfl, h1, h2, h3, h4, h5, h6, h7, h8, h9, hl2, M, rfl, hM⟩ := s4 rfl
    have hpw := pow_le h2
    rw [List.length_map] at hl2 hl s1 s2
    have hSl := S_len n q h2
    obtain ⟨r, g0, ⟨K1, g1⟩, ⟨K2, g2⟩⟩ := needed_l0 n p q h M (S n q) (fun t ht => by have := (hM t ht).1; omega) (fun t ht => S_lt h2 ht) hl2 hSl (S n q).length 0 (List.replicate M.length false) (by simp) (by omega)
    refine ⟨r, 0, g0.1, g0.2, ⟨M.length + 20, fun k hk => s1 k hk⟩, ⟨5000 + K1, fun k hk => ?_⟩, ⟨5000 + K2, fun k hk => ?_⟩⟩
    · show spec_NeededTickets.f k _ _ _ _ _ = _
      unfold spec_NeededTickets.f
      rw [s1 k (by omega), Option.bind_some, if_pos rfl, specSets_ev n p q h q h1 h2 k (by omega), Option.bind_some, if_pos (by omega), if_pos (by simp; omega), Int.toNat_natCast, List.length_map]
      exact g1 k (by omega)
    · show impl_NeededTickets.f k _ _ _ _ _ = _
      unfold impl_NeededTickets.f impl_allDraws.f
      rw [s2 k (by omega), Option.bind_some, if_pos rfl, if_pos (by omega), if_pos (by simp; omega), sets_ev n q h2 k (by omega), Option.bind_some, Option.bind_some, Int.toNat_natCast, List.length_map, List.length_map]
      exact g2 k (by omega)
  · refine ⟨[], e, by simp, by simp, ⟨l.length + 20, fun k hk => s1 k hk⟩, ⟨l.length + 30, fun k hk => ?_⟩, ⟨l.length + 30, fun k hk => ?_⟩⟩
    · show spec_NeededTickets.f k _ _ _ _ _ = _
      unfold spec_NeededTickets.f
      rw [s1 k (by omega), Option.bind_some, if_neg he]
    · show impl_NeededTickets.f k _ _ _ _ _ = _
      unfold impl_NeededTickets.f
      rw [s2 k (by omega), Option.bind_some, if_neg he]

theorem isT_of {n m t : Nat} (h1 : t < 2 ^ n) (h2 : pc t = m) : isT n m (t : Int) = true := by
  unfold isT
  rw [Int.toNat_natCast, h2, decide_eq_true (by omega), decide_eq_true (by omega)]
  simp
theorem are_all (n p q h : Nat) (h2 : n ≤ 12) (L : List Nat) (hL : ∀ t ∈ L, t < 2 ^ n ∧ pc t = p) (hs : L.Pairwise (· < ·)) (hl : L.length ≤ 200) : ∀ e i : Nat, i + e = L.length → ∀ k, e + 2 ≤ k → impl_areTickets.l0 k (L.map Int.ofNat) (L.map Int.ofNat) (L.length : Int) (i : Int) n p q h = some true
  | 0, i, e1, k, hk => by
    obtain ⟨k, rfl⟩ : ∃ q, k = q + 1 := ⟨k - 1, by omega⟩
    simp only [impl_areTickets.l0]
    rw [if_neg (by omega), List.length_map, decide_eq_true (by omega)]
  | e + 1, i, e1, k, hk => by
    obtain ⟨k, rfl⟩ : ∃ q, k = q + 1 := ⟨k - 1, by omega⟩
    have hi : i < L.length := by omega
    obtain ⟨t1, t2⟩ := hL _ (List.getElem_mem hi)
    have hw : wrap64 ((i : Int) + 1) = ((i + 1 : Nat) : Int) := by rw [w64 (by omega) (by omega)]; omega
    have ht : impl_isTicket.f n p q h (L[i] : Int) = some true := by
      rw [isTicket_ev n p q h _ h2, isT_of t1 t2]
    have ih := are_all n p q h h2 L hL hs hl e (i + 1) (by omega) k (by omega)
    simp only [impl_areTickets.l0]
    rw [if_pos (by omega), if_pos (by omega), if_pos (by rw [List.length_map]; omega), rd_map L i hi, ht, Option.bind_some, if_pos rfl]
    by_cases h0 : (i : Int) > 0
    · have hw2 : wrap64 ((i : Int) - 1) = ((i - 1 : Nat) : Int) := by rw [w64 (by omega) (by omega)]; omega
      have hlt : L[i - 1]'(by omega) < L[i] := List.pairwise_iff_getElem.1 hs (i - 1) i (by omega) hi (by omega)
      rw [if_pos h0, hw2, if_pos (by omega), if_pos (by rw [List.length_map]; omega), rd_map L (i - 1) (by omega), if_neg (by omega), hw]
      exact ih
    · rw [if_neg h0, hw]
      exact ih
theorem guar_val (n p q h : Nat) (hok : impl_IsLottery.f n p q h = some true) (h1 : 1 ≤ n) (h2 : n ≤ 12) (L : List Nat) (hL : ∀ t ∈ L, t < 2 ^ n ∧ pc t = p) (hs : L.Pairwise (· < ·)) (hl : L.length ≤ 200) (hc : (missedL n q h L).isEmpty = true) : Ev (fun k => impl_Guarantees.f k n p q h (L.map Int.ofNat)) (true, 0) := by
  have hpw := pow_le h2
  obtain ⟨_, ⟨K2, g2⟩⟩ := missed_ev n p q h h1 h2 L (fun t ht => by have := (hL t ht).1; omega) hl
  refine ⟨300 + K2, fun k hk => ?_⟩
  show impl_Guarantees.f k _ _ _ _ _ = _
  have this : impl_missed.f k n p q h (L.map Int.ofNat) = _ := g2 k (by omega)
  have ha := are_all n p q h h2 L hL hs hl L.length 0 (by omega) k (by omega)
  rw [List.isEmpty_iff] at hc
  unfold impl_Guarantees.f impl_ticketsCode.f impl_areTickets.f
  rw [hok, Option.bind_some, if_pos rfl, List.length_map, show (0 : Int) = ((0 : Nat) : Int) from rfl, ha, Option.bind_some, if_pos rfl, Option.bind_some, if_pos rfl, this, Option.bind_some, hc]
  rfl

def sr (C : List Nat → Bool) : List Nat → Nat → List Nat → Option (List Nat)
  | [], 0, M => if C M = true then some [] else none
  | [], _ + 1, _ => none
  | _ :: _, 0, M => if C M = true then some [] else none
  | t :: r, m + 1, M => match sr C r m (M ++ [t]) with
    | some l => some (t :: l)
    | none => sr C r (m + 1) M
theorem sr_zero (C : List Nat → Bool) (r : List Nat) (M : List Nat) : sr C r 0 M = if C M = true then some [] else none := by cases r <;> rfl
theorem srch_zero (all : Int) (r : List (Int × Int)) (cov : Int) : srch all r 0 cov = if cov = all then some [] else none := by cases r <;> rfl
def cv (n q h : Nat) (M : List Nat) : Bool := (missedL n q h M).isEmpty
theorem filt_le (a b : Nat → Bool) : ∀ D : List Nat, (D.filter fun d => !a d).length ≤ (D.filter fun d => !(a d || b d)).length + (D.filter b).length
  | [] => Nat.le_refl _
  | x :: D => by
    have := filt_le a b D
    cases ha : a x <;> cases hb : b x <;> simp only [List.filter_cons, ha, hb, Bool.or_true, Bool.or_false, Bool.not_true, Bool.not_false, if_true, if_false, Bool.false_eq_true, List.length_cons, Bool.or_self] <;> omega
theorem missed_more (n q h : Nat) (M : List Nat) (t : Nat) (ht : t < 2 ^ n) (hn : n ≤ 12) : (missedL n q h M).length ≤ (missedL n q h (M ++ [t])).length + hitF (pc t) (n - pc t) q h := by
  have h2 := (hitL_length n t q h hn ht).1
  rw [← h2]
  unfold missedL hitL
  have e : (fun d => !((M ++ [t]).any fun t => decide (h ≤ pc (t &&& d)))) = fun d => !((M.any fun t => decide (h ≤ pc (t &&& d))) || decide (h ≤ pc (t &&& d))) := by
    funext d
    rw [List.any_append, List.any_cons, List.any_nil, Bool.or_false]
  rw [e]
  exact filt_le (fun d => M.any fun t => decide (h ≤ pc (t &&& d))) (fun d => decide (h ≤ pc (t &&& d))) (S n q)
theorem sr_bound (n p q h : Nat) (hn : n ≤ 12) : ∀ (r : List Nat), (∀ t ∈ r, t < 2 ^ n ∧ pc t = p) → ∀ (m : Nat) (M l : List Nat), sr (cv n q h) r m M = some l → (missedL n q h M).length ≤ m * hitF p (n - p) q h := by
  intro r
  induction r with
  | nil =>
    intro _ m M l e
    cases m with
    | zero =>
      rw [sr_zero] at e
      split at e
      · rename_i hc; unfold cv at hc; rw [List.isEmpty_iff] at hc; simp [hc]
      · cases e
    | succ m => simp [sr] at e
  | cons t r ih =>
    intro hr m M l e
    cases m with
    | zero =>
      rw [sr_zero] at e
      split at e
      · rename_i hc; unfold cv at hc; rw [List.isEmpty_iff] at hc; simp [hc]
      · cases e
    | succ m =>
      simp only [sr] at e
      have ht := hr t (by simp)
      have hr' : ∀ t ∈ r, t < 2 ^ n ∧ pc t = p := fun x hx => hr x (by simp [hx])
      cases hs : sr (cv n q h) r m (M ++ [t]) with
      | some l' =>
        have h1 := ih hr' m (M ++ [t]) l' hs
        have h2 := missed_more n q h M t ht.1 hn
        rw [ht.2] at h2
        rw [Nat.succ_mul]; omega
      | none =>
        rw [hs] at e
        exact ih hr' (m + 1) M l e

theorem orU (a b : Nat) (ha : a < 2 ^ 63) (hb : b < 2 ^ 63) : Go.bits .or .u64 (a : Int) (b : Int) = ((a ||| b : Nat) : Int) :=
  (bits_nat .u64 63 (by decide) (fun n h0 h1 => u64 h0 (by omega)) a b ha hb).2
theorem shlU (i : Nat) (hi : i < 63) : IntKind.u64.wrap (2 ^ i) = ((2 ^ i : Nat) : Int) := by
  have h1 : (2 : Nat) ^ i ≤ 2 ^ 62 := Nat.pow_le_pow_right (by omega) (by omega)
  have e2 : ((2 : Int) ^ i) = ((2 ^ i : Nat) : Int) := by simp
  rw [e2]
  obtain ⟨N, hN⟩ : ∃ N : Nat, N = 2 ^ i := ⟨_, rfl⟩
  rw [← hN] at h1 ⊢
  exact u64 (by omega) (by omega)
theorem near_bits (f : Int → Bool) (g : Nat → Bool) : ∀ (D : List Nat) (i : Nat) (A : Nat), (∀ d ∈ D, f (d : Int) = g d) → i + D.length ≤ 62 → A < 2 ^ i → ∃ N : Nat, nearF f (D.map Int.ofNat) i (A : Int) = (N : Int) ∧ N < 2 ^ (i + D.length) ∧ (∀ j, j < i → N.testBit j = A.testBit j) ∧ ∀ j (hj : j < D.length), N.testBit (i + j) = g D[j]
  | [], i, A, _, _, hA => ⟨A, rfl, by simpa using hA, fun _ _ => rfl, fun j hj => absurd hj (Nat.not_lt_zero _)⟩
  | d :: D, i, A, hf, hl, hA => by
    simp only [List.length_cons] at hl
    have hp62 : (2 : Nat) ^ i ≤ 2 ^ 62 := Nat.pow_le_pow_right (by omega) (by omega)
    have hA63 : A < 2 ^ 63 := by omega
    have hB63 : 2 ^ i < 2 ^ 63 := by omega
    have hpi : (2 : Nat) ^ (i + 1) = 2 ^ i + 2 ^ i := by rw [Nat.pow_succ]; omega
    have hd := hf d (by simp)
    obtain ⟨N, h1, h2, h3, h4⟩ := near_bits f g D (i + 1) (if g d = true then A ||| 2 ^ i else A) (fun x hx => hf x (by simp [hx])) (by omega) (by
      split
      · exact Nat.or_lt_two_pow (by omega) (by omega)
      · omega)
    refine ⟨N, ?_, by rw [List.length_cons, show i + (D.length + 1) = i + 1 + D.length by omega]; exact h2, fun j hj => ?_, fun j hj => ?_⟩
    · rw [← h1]
      show nearF f (D.map Int.ofNat) (i + 1) (if f (d : Int) = true then Go.bits .or .u64 (A : Int) (IntKind.u64.wrap (2 ^ i)) else (A : Int)) = _
      rw [hd]
      cases g d with
      | true => simp only [if_true]; rw [shlU i (by omega), orU A (2 ^ i) hA63 hB63]
      | false => rfl
    · rw [h3 j (by omega)]
      cases g d with
      | true =>
        simp only [if_true, Nat.testBit_or, Nat.testBit_two_pow]
        simp; omega
      | false => rfl
    · cases j with
      | zero =>
        rw [Nat.add_zero, h3 i (by omega)]
        have hz : A.testBit i = false := Nat.testBit_lt_two_pow hA
        simp only [List.getElem_cons_zero]
        cases g d with
        | true => simp [hz]
        | false => simp [hz]
      | succ j =>
        have := h4 j (by simpa using hj)
        rw [show i + (j + 1) = i + 1 + j by omega, this]
        simp
def Rep (h : Nat) (D : List Nat) (M : List Nat) (cov : Int) : Prop := ∃ N : Nat, cov = (N : Int) ∧ N < 2 ^ D.length ∧ ∀ j (hj : j < D.length), N.testBit j = M.any fun t => decide (h ≤ pc (t &&& D[j]))
theorem Rep.all {h n q : Nat} {M : List Nat} {cov : Int} (r : Rep h (S n q) M cov) : (cov = ((2 ^ (S n q).length - 1 : Nat) : Int)) ↔ cv n q h M = true := by
  obtain ⟨N, rfl, h1, h2⟩ := r
  have key : N = 2 ^ (S n q).length - 1 ↔ ∀ j (hj : j < (S n q).length), N.testBit j = true := by
    constructor
    · intro e j hj; rw [e, Nat.testBit_two_pow_sub_one]; simpa using hj
    · intro e
      apply Nat.eq_of_testBit_eq
      intro j
      rw [Nat.testBit_two_pow_sub_one]
      by_cases hj : j < (S n q).length
      · rw [e j hj]; simp [hj]
      · rw [Nat.testBit_lt_two_pow (Nat.lt_of_lt_of_le h1 (Nat.pow_le_pow_right (by omega) (by omega)))]; simp [hj]
  rw [Int.natCast_inj, key]
  unfold cv missedL
  rw [List.isEmpty_iff, List.filter_eq_nil_iff]
  constructor
  · intro e d hd
    obtain ⟨j, hj, rfl⟩ := List.mem_iff_getElem.1 hd
    rw [← h2 j hj, e j hj]; simp
  · intro e j hj
    have := e _ (List.getElem_mem hj)
    rw [h2 j hj]
    simpa using this
theorem srch_sr (n q h : Nat) (hL : (S n q).length ≤ 62) (near : Nat → Int) :
    ∀ (r : List Nat), (∀ t ∈ r, ∃ N : Nat, near t = (N : Int) ∧ N < 2 ^ (S n q).length ∧ ∀ j (hj : j < (S n q).length), N.testBit j = decide (h ≤ pc (t &&& (S n q)[j]))) → ∀ (m : Nat) (M : List Nat) (cov : Int), Rep h (S n q) M cov → srch ((2 ^ (S n q).length - 1 : Nat) : Int) (r.map fun t : Nat => ((t : Int), near t)) m cov = (sr (cv n q h) r m M).map (List.map Int.ofNat) := by
  have zero : ∀ (r : List Nat) (M : List Nat) (cov : Int), Rep h (S n q) M cov → srch ((2 ^ (S n q).length - 1 : Nat) : Int) (r.map fun t : Nat => ((t : Int), near t)) 0 cov = (sr (cv n q h) r 0 M).map (List.map Int.ofNat) := by
    intro r M cov hr
    rw [sr_zero, srch_zero]
    by_cases hc : cv n q h M = true
    · rw [if_pos hc, if_pos (hr.all.2 hc)]; rfl
    · rw [if_neg hc, if_neg (fun e => hc (hr.all.1 e))]; rfl
  intro r
  induction r with
  | nil =>
    intro hnear m M cov hr
    cases m with
    | zero => exact zero [] M cov hr
    | succ m => rfl
  | cons t r ih =>
    intro hnear m M cov hr
    cases m with
    | zero => exact zero (t :: r) M cov hr
    | succ m =>
      obtain ⟨N, rfl, h1, h2⟩ := hr
      obtain ⟨N', e', h1', h2'⟩ := hnear t (by simp)
      have ih := ih (fun x hx => hnear x (by simp [hx]))
      have hp62 : (2 : Nat) ^ (S n q).length ≤ 2 ^ 62 := Nat.pow_le_pow_right (by omega) hL
      have hr2 : Rep h (S n q) (M ++ [t]) (Go.bits .or .u64 (N : Int) (near t)) := by
        rw [e', orU N N' (by omega) (by omega)]
        refine ⟨N ||| N', rfl, Nat.or_lt_two_pow h1 h1', fun j hj => ?_⟩
        rw [Nat.testBit_or, h2 j hj, h2' j hj]; simp
      have i1 := ih m (M ++ [t]) _ hr2
      have i2 := ih (m + 1) M (N : Int) ⟨N, rfl, h1, h2⟩
      simp only [List.map_cons, srch, sr]
      rw [i1, i2]
      cases sr (cv n q h) r m (M ++ [t]) with
      | none => rfl
      | some l => rfl

def okC (x : Nat) : Bool := match spec_l08Choose.f 14 ((x / 16 : Nat) : Int) ((x % 16 : Nat) : Int) with
  | some r => r == (binom (x / 16) (x % 16) : Int)
  | none => false
theorem okC_all : allN okC 208 = true := by kernel_rfl
theorem choose_nat (n j : Nat) (hn : n ≤ 12) (hj : j ≤ 15) : ∀ k, 14 ≤ k → spec_l08Choose.f k n j = some (binom n j : Int) := by
  intro k hk
  have := allN_at okC 208 okC_all (16 * n + j) (by omega)
  unfold okC at this
  rw [show (16 * n + j) / 16 = n by omega, show (16 * n + j) % 16 = j by omega] at this
  split at this
  · rename_i r hr
    rw [beq_iff_eq.mp this] at hr
    exact at_rounds (g := fun k => spec_l08Choose.f k n j) (fun k => spec_l08Choose.mono _ _ k) hk hr
  · cases this

theorem choose_neg (n : Int) (j : Int) (hj : j < 0) (k : Nat) (hk : 1 ≤ k) : spec_l08Choose.f k n j = some 0 := by
  obtain ⟨k, rfl⟩ : ∃ q, k = q + 1 := ⟨k - 1, by omega⟩
  unfold spec_l08Choose.f
  rw [if_pos hj]
  simp [spec_l08Choose.j0]
theorem binom_le (n : Nat) : ∀ k, binom n k ≤ 2 ^ n := by
  induction n with
  | zero => intro k; cases k <;> simp [binom]
  | succ n ih =>
    intro k
    have hp : 2 ^ (n+1) = 2 ^ n + 2 ^ n := by rw [Nat.pow_succ]; omega
    cases k with
    | zero => simp only [binom]; exact Nat.one_le_two_pow
    | succ k => simp only [binom]; have := ih k; have := ih (k+1); omega
theorem binom_pos0 (n : Nat) : ∀ k, k ≤ n → 0 < binom n k := by
  induction n with
  | zero => intro k h; have : k = 0 := by omega
            subst this; decide
  | succ n ih =>
    intro k h
    cases k with
    | zero => simp [binom]
    | succ k => simp only [binom]; have := ih k (by omega); omega
theorem term_le (p q dr h j : Nat) (hp : p ≤ 12) (hq : q ≤ 12) : term p q dr h j ≤ 16777216 := by
  unfold term
  split
  · have h1 := binom_le p j
    have h2 := binom_le q (dr - j)
    have h3 := pow_le hp
    have h4 := pow_le hq
    show binom p j * binom q (dr - j) ≤ 4096 * 4096
    exact Nat.mul_le_mul (by omega) (by omega)
  · omega
theorem sumTo_le (f : Nat → Nat) (B : Nat) (hf : ∀ j, f j ≤ B) : ∀ n, sumTo f n ≤ n * B
  | 0 => by simp [sumTo]
  | n+1 => by
    have := sumTo_le f B hf n
    have := hf n
    simp only [sumTo]; rw [Nat.succ_mul]; omega
theorem sumTo_zero (f : Nat → Nat) : ∀ n, (∀ j, j < n → f j = 0) → sumTo f n = 0
  | 0, _ => rfl
  | n+1, h => by simp only [sumTo]; rw [sumTo_zero f n (fun j hj => h j (by omega)), h n (by omega)]
theorem sumTo_pos0 (f : Nat → Nat) : ∀ n j, j < n → 0 < f j → 0 < sumTo f n
  | 0, j, h, _ => by omega
  | n+1, j, h, hf => by
    simp only [sumTo]
    by_cases e : j = n
    · subst e; omega
    · have := sumTo_pos0 f n j (by omega) hf; omega
theorem hitF_pos0 (n p q h : Nat) (hp : p ≤ n) (hq : q ≤ n) (h1 : h ≤ p) (h2 : h ≤ q) : 0 < hitF p (n - p) q h := by
  unfold hitF
  refine sumTo_pos0 _ _ (min p q) (by omega) ?_
  unfold term
  rw [if_pos (by omega)]
  exact Nat.mul_pos (binom_pos0 _ _ (by omega)) (binom_pos0 _ _ (by omega))

theorem specHit_l (n p q h : Nat) (hn : n ≤ 12) (hp : p ≤ n) (hq : q ≤ n) : ∀ d j : Nat, j + d = p + 1 → h ≤ j → ∀ k, d + 15 ≤ k → spec_l08Hit.l0 k (sumTo (term p (n - p) q h) j : Int) j n p q h = some (hitF p (n - p) q h : Int)
  | 0, j, e, hj, k, hk => by
    obtain ⟨k, rfl⟩ : ∃ q, k = q + 1 := ⟨k - 1, by omega⟩
    simp only [spec_l08Hit.l0]; rw [if_neg (by omega)]
    have : j = p + 1 := by omega
    subst this; rfl
  | d+1, j, e, hj, k, hk => by
    obtain ⟨k, rfl⟩ : ∃ q, k = q + 1 := ⟨k - 1, by omega⟩
    simp only [spec_l08Hit.l0]
    have hs := sumTo_le (term p (n - p) q h) 16777216 (fun j => term_le p (n - p) q h j (by omega) (by omega)) j
    have hs2 : sumTo (term p (n - p) q h) j ≤ 218103808 := by omega
    have ht := term_le p (n - p) q h j (by omega) (by omega)
    rw [if_pos (by omega), choose_nat p j (by omega) (by omega) k (by omega), w64 (i := (n : Int) - p) (by omega) (by omega), w64 (i := (q : Int) - j) (by omega) (by omega), show (n : Int) - p = ((n - p : Nat) : Int) by omega]
    simp only [Option.bind_some]
    have key : (spec_l08Choose.f k ((n - p : Nat) : Int) ((q : Int) - j)).bind (fun t111 => spec_l08Hit.l0 k (wrap64 ((sumTo (term p (n - p) q h) j : Int) + wrap64 ((binom p j : Int) * t111))) (wrap64 ((j : Int) + 1)) n p q h) = spec_l08Hit.l0 k (sumTo (term p (n - p) q h) (j + 1) : Int) ((j + 1 : Nat) : Int) n p q h := by
      by_cases hjq : j ≤ q
      · rw [show (q : Int) - j = ((q - j : Nat) : Int) by omega, choose_nat (n - p) (q - j) (by omega) (by omega) k (by omega)]
        simp only [Option.bind_some]
        have hterm : term p (n - p) q h j = binom p j * binom (n - p) (q - j) := by unfold term; rw [if_pos (by omega)]
        rw [show ((binom p j : Int) * (binom (n - p) (q - j) : Int)) = ((term p (n - p) q h j : Nat) : Int) by rw [hterm]; simp]
        rw [w64 (i := ((term p (n - p) q h j : Nat) : Int)) (by omega) (by omega), w64 (by omega) (by omega), w64 (by omega) (by omega)]
        rw [show ((sumTo (term p (n - p) q h) j : Int) + (term p (n - p) q h j : Int)) = ((sumTo (term p (n - p) q h) (j + 1) : Nat) : Int) by simp [sumTo]]
        rfl
      · rw [choose_neg _ _ (by omega) k (by omega)]
        simp only [Option.bind_some, Int.mul_zero]
        have hterm : term p (n - p) q h j = 0 := by unfold term; rw [if_neg (by omega)]
        rw [w64 (i := 0) (by omega) (by omega), w64 (by omega) (by omega), w64 (by omega) (by omega)]
        rw [show ((sumTo (term p (n - p) q h) j : Int) + 0) = ((sumTo (term p (n - p) q h) (j + 1) : Nat) : Int) by simp [sumTo, hterm]]
        rfl
    rw [key]
    exact specHit_l n p q h hn hp hq d (j+1) (by omega) (by omega) k (by omega)
theorem specHit_ev (n p q h : Nat) (hn : n ≤ 12) (hp : p ≤ n) (hq : q ≤ n) (hh : h ≤ p) (k : Nat) (hk : 40 ≤ k) : spec_l08Hit.f k n p q h = some (hitF p (n - p) q h : Int) := by
  unfold spec_l08Hit.f
  have hz : sumTo (term p (n - p) q h) h = 0 := sumTo_zero _ _ (fun j hj => by unfold term; rw [if_neg (by omega)])
  have := specHit_l n p q h hn hp hq (p + 1 - h) h (by omega) (by omega) k (by omega)
  rw [hz] at this
  exact this

section
variable (n p q h : Nat) (T : List Nat) (hn1 : 1 ≤ n) (hn : n ≤ 12) (hp : p ≤ n) (hq : q ≤ n) (hh : h ≤ p) (hT : ∀ t ∈ T, t < 2 ^ n ∧ pc t = p) (hTl : T.length ≤ 36)
include hn1 hn hp hq hh hT hTl
def sAns (M : List Nat) : Option (List Nat) → List Int × Bool
  | some l => ((M ++ l).map Int.ofNat, true)
  | none => ([], false)
set_option maxHeartbeats 2000000 in
theorem search_ev : ∀ (m : Nat) (M : List Nat) (i : Nat), M.length + m ≤ 4 → (∀ t ∈ M, t < 4096) → i ≤ T.length → Ev (fun k => spec_l08Search.f k n p q h (T.map Int.ofNat) (M.map Int.ofNat) i m) (sAns M (sr (cv n q h) (T.drop i) m M)) := by
  have hpw := pow_le hn
  have hhit : hitF p (n - p) q h ≤ 4096 := by
    by_cases e : ∃ t ∈ T, True
    · obtain ⟨t, ht, _⟩ := e
      have h1 := (hitL_length n t q h hn (hT t ht).1).1
      rw [(hT t ht).2] at h1
      rw [← h1]
      exact Nat.le_trans (List.length_filter_le _ _) (S_len n q hn)
    · have h1 := (hitL_length n (2 ^ p - 1) q h hn (by have := Nat.pow_le_pow_right (n := 2) (by omega) hp; have : 1 ≤ 2 ^ p := Nat.one_le_two_pow; omega)).1
      rw [pc_ones p (by omega)] at h1
      rw [← h1]
      exact Nat.le_trans (List.length_filter_le _ _) (S_len n q hn)
  -- one call, over what its loop answers
  have call : ∀ (m : Nat) (M : List Nat) (i : Nat), M.length + m ≤ 4 → (∀ t ∈ M, t < 4096) → (m ≠ 0 → Ev (fun k => spec_l08Search.l0 k (T.map Int.ofNat) (M.map Int.ofNat) m i n p q h) (sAns M (sr (cv n q h) (T.drop i) m M))) → Ev (fun k => spec_l08Search.f k n p q h (T.map Int.ofNat) (M.map Int.ofNat) i m) (sAns M (sr (cv n q h) (T.drop i) m M)) := by
    intro m M i hm hM hl
    obtain ⟨K1, g1⟩ := missedS_ev n p q h hn1 hn M hM (by omega)
    have hb := fun l => sr_bound n p q h hn (T.drop i) (fun t ht => hT t (List.mem_of_mem_drop ht)) m M l
    have hmul : m * hitF p (n - p) q h ≤ 4 * 4096 := Nat.mul_le_mul (by omega) hhit
    obtain ⟨K2, g2⟩ : ∃ K2 : Nat, m ≠ 0 → ∀ k, K2 ≤ k → spec_l08Search.l0 k (T.map Int.ofNat) (M.map Int.ofNat) m i n p q h = some (sAns M (sr (cv n q h) (T.drop i) m M)) := by
      by_cases e : m = 0
      · exact ⟨0, fun h => absurd e h⟩
      · obtain ⟨K2, g⟩ := hl e; exact ⟨K2, fun _ => g⟩
    refine ⟨50 + K1 + K2, fun k hk => ?_⟩
    obtain ⟨k, rfl⟩ : ∃ q, k = q + 1 := ⟨k - 1, by omega⟩
    have g1' : spec_l08Missed.f k n p q h (M.map Int.ofNat) = some ((missedL n q h M).map Int.ofNat) := g1 k (by omega)
    simp only [spec_l08Search.f]
    rw [g1', Option.bind_some, specHit_ev n p q h hn hp hq hh k (by omega), Option.bind_some, show ((m : Int) * (hitF p (n - p) q h : Int)) = ((m * hitF p (n - p) q h : Nat) : Int) by simp, w64 (by omega) (by omega), List.length_map]
    by_cases hc : ((missedL n q h M).length : Int) > ((m * hitF p (n - p) q h : Nat) : Int)
    · rw [if_pos hc]
      cases hs : sr (cv n q h) (T.drop i) m M with
      | none => rfl
      | some l => have := hb l hs; omega
    · rw [if_neg hc]
      by_cases e : m = 0
      · subst e
        rw [if_pos (show ((0 : Nat) : Int) = 0 from rfl), sr_zero]
        have : cv n q h M = true := by
          unfold cv
          rw [List.isEmpty_iff]
          exact List.eq_nil_of_length_eq_zero (by omega)
        rw [if_pos this]
        simp [sAns]
      · rw [if_neg (by omega)]
        exact g2 e k (by omega)
  intro m
  induction m with
  | zero => exact fun M i hm hM _ => call 0 M i hm hM (fun e => absurd rfl e)
  | succ m ih =>
    intro M i hm hM hi
    refine call (m + 1) M i hm hM (fun _ => ?_)
    have loop : ∀ (e i : Nat), i + e = T.length → Ev (fun k => spec_l08Search.l0 k (T.map Int.ofNat) (M.map Int.ofNat) ((m + 1 : Nat) : Int) i n p q h) (sAns M (sr (cv n q h) (T.drop i) (m + 1) M)) := by
      intro e
      induction e with
      | zero =>
        intro i e1
        refine ⟨1, fun k hk => ?_⟩
        obtain ⟨k, rfl⟩ : ∃ q, k = q + 1 := ⟨k - 1, by omega⟩
        simp only [spec_l08Search.l0]
        rw [if_neg (by simp; omega), List.drop_eq_nil_of_le (by omega)]
        rfl
      | succ e ihe =>
        intro i e1
        have hi : i < T.length := by omega
        have hti := hT _ (List.getElem_mem hi)
        obtain ⟨K1, g1⟩ := ih (M ++ [T[i]]) (i + 1) (by simp; omega) (fun t ht => by
          rcases List.mem_append.1 ht with h1 | h1
          · exact hM t h1
          · rw [List.mem_singleton] at h1; subst h1; omega) (by omega)
        obtain ⟨K2, g2⟩ := ihe (i + 1) (by omega)
        refine ⟨K1 + K2 + 1, fun k hk => ?_⟩
        obtain ⟨k, rfl⟩ : ∃ q, k = q + 1 := ⟨k - 1, by omega⟩
        have g1' : spec_l08Search.f k n p q h (T.map Int.ofNat) ((M ++ [T[i]]).map Int.ofNat) ((i + 1 : Nat) : Int) m = some (sAns (M ++ [T[i]]) (sr (cv n q h) (T.drop (i + 1)) m (M ++ [T[i]]))) := g1 k (by omega)
        have g2' : spec_l08Search.l0 k (T.map Int.ofNat) (M.map Int.ofNat) ((m + 1 : Nat) : Int) ((i + 1 : Nat) : Int) n p q h = some (sAns M (sr (cv n q h) (T.drop (i + 1)) (m + 1) M)) := g2 k (by omega)
        have hown : spec_l01Own.f (M.map Int.ofNat) = some (M.map Int.ofNat) := by
          unfold spec_l01Own.f
          have f4 : ([] : List Int).length + (M.map Int.ofNat).length < 17592186044416 := by
            rw [List.length_map, List.length_nil]
            exact Nat.lt_of_le_of_lt (show 0 + M.length ≤ 10 by omega) (by decide)
          rw [Option.bind_some, if_pos f4, List.nil_append]
        have hwi : wrap64 ((i : Int) + 1) = ((i + 1 : Nat) : Int) := by rw [w64 (by omega) (by omega)]; omega
        have hwm : wrap64 (((m + 1 : Nat) : Int) - 1) = (m : Int) := by rw [w64 (by omega) (by omega)]; omega
        have happ : (M.map Int.ofNat) ++ [(T[i] : Int)] = (M ++ [T[i]]).map Int.ofNat := by simp
        simp only [spec_l08Search.l0]
        have f1 : (i : Int) < ((T.map Int.ofNat).length : Int) := by rw [List.length_map]; omega
        have f2 : (0 : Int) ≤ (i : Int) := Int.natCast_nonneg i
        have f3 : (M.map Int.ofNat).length + [rd (T.map Int.ofNat) (i : Int)].length < 17592186044416 := by
          rw [List.length_map, List.length_singleton]
          exact Nat.lt_of_le_of_lt (show M.length + 1 ≤ 10 by omega) (by decide)
        rw [if_pos f1, hown, Option.bind_some, if_pos f2, Option.bind_some, if_pos f3, rd_map T i hi, hwi, hwm, happ, g1', Option.bind_some, List.drop_eq_getElem_cons hi]
        simp only [sr]
        cases hs : sr (cv n q h) (T.drop (i + 1)) m (M ++ [T[i]]) with
        | some l => simp [sAns]
        | none =>
          simp only [sAns, Bool.false_eq_true, if_false]
          exact g2'
    exact loop (T.length - i) i (by omega)
end

def fst4 (f : Nat → Option (List Nat)) : Nat → Nat → List Int × Int
  | 0, _ => ([], 3)
  | d + 1, j => match f j with
    | some l => (l.map Int.ofNat, 0)
    | none => fst4 f d (j + 1)
theorem fst4_skip (f : Nat → Option (List Nat)) : ∀ (e d j : Nat), (∀ x, j ≤ x → x < j + e → f x = none) → fst4 f (e + d) j = fst4 f d (j + e)
  | 0, d, j, _ => by simp
  | e + 1, d, j, hf => by
    rw [show e + 1 + d = (e + d) + 1 by omega]
    simp only [fst4]
    rw [hf j (Nat.le_refl _) (by omega)]
    simp only []
    rw [fst4_skip f e d (j + 1) (fun x h1 h2 => hf x (by omega) (by omega)), show j + 1 + e = j + (e + 1) by omega]
theorem specLeast_l (n p q h : Nat) (T : List Nat) (f : Nat → Option (List Nat)) (hs : ∀ m : Nat, m ≤ 4 → Ev (fun k => spec_l08Search.f k n p q h (T.map Int.ofNat) [] ((0 : Nat) : Int) m) (sAns [] (f m))) : ∀ (d j : Nat), j + d = 5 → Ev (fun k => spec_LeastTickets.l0 k (T.map Int.ofNat) j n p q h) (fst4 f d j)
  | 0, j, e => by
    refine ⟨1, fun k hk => ?_⟩
    obtain ⟨k, rfl⟩ : ∃ q, k = q + 1 := ⟨k - 1, by omega⟩
    simp only [spec_LeastTickets.l0]
    rw [if_neg (by omega)]; rfl
  | d + 1, j, e => by
    obtain ⟨K1, g1⟩ := hs j (by omega)
    obtain ⟨K2, g2⟩ := specLeast_l n p q h T f hs d (j + 1) (by omega)
    refine ⟨K1 + K2 + 1, fun k hk => ?_⟩
    obtain ⟨k, rfl⟩ : ∃ q, k = q + 1 := ⟨k - 1, by omega⟩
    have g1' : spec_l08Search.f k n p q h (T.map Int.ofNat) [] 0 j = some (sAns [] (f j)) := g1 k (by omega)
    have g2' : spec_LeastTickets.l0 k (T.map Int.ofNat) ((j + 1 : Nat) : Int) n p q h = some (fst4 f d (j + 1)) := g2 k (by omega)
    have hw : wrap64 ((j : Int) + 1) = ((j + 1 : Nat) : Int) := by rw [w64 (by omega) (by omega)]; omega
    simp only [spec_LeastTickets.l0]
    rw [if_pos (by omega), g1', Option.bind_some, hw, g2']
    simp only [fst4]
    cases f j with
    | some l => simp [sAns]
    | none => simp [sAns]
theorem binom_le12 (n q : Nat) (hn : n ≤ 12) : binom n q ≤ 4096 := by
  rw [← S_length n q hn]; exact S_len n q hn
theorem sr_len (C : List Nat → Bool) : ∀ (r : List Nat) (m : Nat) (M l : List Nat), sr C r m M = some l → l.length = m := by
  intro r
  induction r with
  | nil =>
    intro m M l h
    cases m with
    | zero => rw [sr_zero] at h; split at h <;> simp at h; subst h; rfl
    | succ m => simp [sr] at h
  | cons t r ih =>
    intro m M l h
    cases m with
    | zero => rw [sr_zero] at h; split at h <;> simp at h; subst h; rfl
    | succ m =>
      simp only [sr] at h
      cases hs : sr C r m (M ++ [t]) with
      | some l' =>
        rw [hs] at h
        simp only [Option.some.injEq] at h
        subst h
        rw [List.length_cons, ih m _ _ hs]
      | none =>
        rw [hs] at h
        exact ih (m + 1) M l h
theorem fst4_len (f : Nat → Option (List Nat)) (hf : ∀ m l, f m = some l → l.length = m) : ∀ d j : Nat, j + d ≤ 5 → (fst4 f d j).1.length ≤ 4
  | 0, j, _ => by simp [fst4]
  | d + 1, j, h => by
    simp only [fst4]
    cases e : f j with
    | some l => have := hf j l e; simp only [List.length_map]; omega
    | none => exact fst4_len f hf d (j + 1) (by omega)
theorem fst4_I (f : Nat → Option (List Nat)) (g : Nat → Option (List Int)) (h : ∀ m, g m = (f m).map (List.map Int.ofNat)) : ∀ d j : Nat, fstI g d j = fst4 f d j
  | 0, _ => rfl
  | d + 1, j => by
    simp only [fstI, fst4]
    rw [h j]
    cases f j with
    | some l => rfl
    | none => exact fst4_I f g h d (j + 1)
theorem zip_self (f : Int → Int) : ∀ T : List Nat, (T.map Int.ofNat).zip ((T.map Int.ofNat).map f) = T.map fun t : Nat => ((t : Int), f (t : Int))
  | [] => rfl
  | t :: T => by
    have := zip_self f T
    simp only [List.map_cons, List.zip_cons_cons]
    rw [this]
    rfl
theorem allU_nat (i : Nat) (hi : i < 63) : allU i = ((2 ^ i - 1 : Nat) : Int) := by
  unfold allU
  have h1 : (2 : Nat) ^ i ≤ 2 ^ 62 := Nat.pow_le_pow_right (by omega) (by omega)
  have h2 : 1 ≤ (2 : Nat) ^ i := Nat.one_le_two_pow
  rw [shlU i hi, u64 (by omega) (by omega)]
  omega
theorem bound_nat (n p q h : Nat) (hn : n ≤ 12) (hp : p ≤ n) (hq : q ≤ n) (h1 : h ≤ p) (h2 : h ≤ q) (k : Nat) (hk : 40 ≤ k) : spec_l08Bound.f k n p q h = some (((binom n q + hitF p (n - p) q h - 1) / hitF p (n - p) q h : Nat) : Int) := by
  have hpos := hitF_pos0 n p q h hp hq h1 h2
  have hb := binom_le12 n q hn
  have hpw := pow_le hn
  have hhit : hitF p (n - p) q h ≤ 4096 := by
    have h3 := (hitL_length n (2 ^ p - 1) q h hn (by have := Nat.pow_le_pow_right (n := 2) (by omega) hp; have : 1 ≤ 2 ^ p := Nat.one_le_two_pow; omega)).1
    rw [pc_ones p (by omega)] at h3
    rw [← h3]
    exact Nat.le_trans (List.length_filter_le _ _) (S_len n q hn)
  unfold spec_l08Bound.f
  rw [specHit_ev n p q h hn hp hq h1 k (by omega), choose_nat n q hn (by omega) k (by omega), Option.bind_some, Option.bind_some, if_neg (by omega)]
  generalize hitF p (n - p) q h = H at *
  generalize binom n q = B at *
  rw [w64 (i := (B : Int) + H) (by omega) (by omega), w64 (i := (B : Int) + H - 1) (by omega) (by omega), show (B : Int) + H - 1 = ((B + H - 1 : Nat) : Int) by omega, Int.tdiv_eq_ediv_of_nonneg (by omega)]
  have : (B + H - 1) / H ≤ B + H - 1 := Nat.div_le_self _ _
  rw [show (((B + H - 1 : Nat) : Int) / (H : Int)) = (((B + H - 1) / H : Nat) : Int) by simp]
  generalize (B + H - 1) / H = Z at *
  rw [w64 (by omega) (by omega)]
theorem least_ev (a b c d : Int) : ∃ (r : List Int) (e : Int), r.length ≤ 4 ∧ (e = 0 → ∃ n p q h : Nat, a = n ∧ b = p ∧ c = q ∧ d = h ∧ impl_IsLottery.f n p q h = some true ∧ 1 ≤ n ∧ n ≤ 12 ∧ 1 ≤ p ∧ p ≤ n ∧ 1 ≤ q ∧ q ≤ n ∧ 1 ≤ h ∧ h ≤ p ∧ h ≤ q ∧ binom n q ≤ 36 ∧ (r, e) = fst4 (fun m => sr (cv n q h) (S n p) m []) 4 1 ∧ ∀ m, m < (binom n q + hitF p (n - p) q h - 1) / hitF p (n - p) q h → sr (cv n q h) (S n p) m [] = none) ∧ Ev (fun k => spec_LeastTickets.f k a b c d) (r, e) ∧ Ev (fun k => impl_LeastTickets.f k a b c d) (r, e) := by
  rcases lot_cases a b c d with h | ⟨h, n, p, q, e, rfl, rfl, rfl, rfl, h1, h2, h3, h4, h5, h6, h7, h8, h9⟩
  · refine ⟨[], 1, by simp, fun h => absurd h (by decide), ⟨0, fun k hk => ?_⟩, ⟨0, fun k hk => ?_⟩⟩
    · show spec_LeastTickets.f k _ _ _ _ = _
      unfold spec_LeastTickets.f; rw [isLot, h]; rfl
    · show impl_LeastTickets.f k _ _ _ _ = _
      unfold impl_LeastTickets.f; rw [h]; rfl
  · obtain ⟨N, hN⟩ : ∃ N : Nat, 5000 ≤ N := ⟨5000, Nat.le_refl _⟩
    have hT : (S n p).length = binom n p := S_length n p h2
    have hD : (S n q).length = binom n q := S_length n q h2
    by_cases hq36 : binom n q > 36
    · refine ⟨[], 3, by simp, fun h => absurd h (by decide), ⟨N, fun k hk => ?_⟩, ⟨N, fun k hk => ?_⟩⟩
      · show spec_LeastTickets.f k _ _ _ _ = _
        unfold spec_LeastTickets.f
        rw [isLot, h, Option.bind_some, if_pos rfl, choose_nat n q h2 (by omega) k (by omega), Option.bind_some, if_pos (by omega)]
      · show impl_LeastTickets.f k _ _ _ _ = _
        unfold impl_LeastTickets.f impl_allTickets.f impl_allDraws.f
        rw [h, Option.bind_some, if_pos rfl, sets_ev n p h2 k (by omega), sets_ev n q h2 k (by omega)]
        simp only [Option.bind_some, List.length_map, hT, hD]
        rw [if_pos (show ((binom n q : Nat) : Int) > 36 by omega)]
        split <;> rfl
    · by_cases hp36 : binom n p > 36
      · refine ⟨[], 3, by simp, fun h => absurd h (by decide), ⟨N, fun k hk => ?_⟩, ⟨N, fun k hk => ?_⟩⟩
        · show spec_LeastTickets.f k _ _ _ _ = _
          unfold spec_LeastTickets.f
          rw [isLot, h, Option.bind_some, if_pos rfl, choose_nat n q h2 (by omega) k (by omega), Option.bind_some, if_neg (by omega), choose_nat n p h2 (by omega) k (by omega), Option.bind_some, if_pos (by omega)]
        · show impl_LeastTickets.f k _ _ _ _ = _
          unfold impl_LeastTickets.f impl_allTickets.f impl_allDraws.f
          rw [h, Option.bind_some, if_pos rfl, sets_ev n p h2 k (by omega), sets_ev n q h2 k (by omega)]
          simp only [Option.bind_some, List.length_map, hT, hD]
          rw [if_pos (show ((binom n p : Nat) : Int) > 36 by omega)]
      · have hTm : ∀ t ∈ S n p, t < 2 ^ n ∧ pc t = p := fun t ht => mem_S.1 ht
        have hs : ∀ m : Nat, m ≤ 4 → Ev (fun k => spec_l08Search.f k n p q e ((S n p).map Int.ofNat) [] ((0 : Nat) : Int) m) (sAns [] (sr (cv n q e) (S n p) m [])) := by
          intro m hm
          have := search_ev n p q e (S n p) h1 h2 h4 h6 h8 hTm (by omega) m [] 0 (by simpa using hm) (by simp) (by omega)
          simpa using this
        have hpos := hitF_pos0 n p q e h4 h6 h8 h9
        have hbn := bound_nat n p q e h2 h4 h6 h8 h9
        have hbp := binom_pos0 n q h6
        obtain ⟨B, hB⟩ : ∃ B, B = (binom n q + hitF p (n - p) q e - 1) / hitF p (n - p) q e := ⟨_, rfl⟩
        rw [← hB] at hbn
        have hB1 : 1 ≤ B := by rw [hB]; exact (Nat.le_div_iff_mul_le hpos).2 (by omega)
        have hnone : ∀ m, m < B → sr (cv n q e) (S n p) m [] = none := by
          intro m hm
          cases hc : sr (cv n q e) (S n p) m [] with
          | none => rfl
          | some l =>
            have g := sr_bound n p q e h2 (S n p) hTm m [] l hc
            have g2 : (missedL n q e []).length = binom n q := by
              unfold missedL
              rw [List.filter_eq_self.2 (fun d _ => by simp)]
              exact hD
            rw [g2] at g
            rw [hB] at hm
            have hh := (Nat.div_lt_iff_lt_mul (k := hitF p (n - p) q e) (x := binom n q + hitF p (n - p) q e - 1) (y := m + 1) hpos).2 (by rw [Nat.succ_mul]; omega)
            omega
        have key : ∃ r : List Int × Int, r = fst4 (fun m => sr (cv n q e) (S n p) m []) 4 1 ∧ Ev (fun k => spec_LeastTickets.l0 k ((S n p).map Int.ofNat) B n p q e) r := by
          refine ⟨_, rfl, ?_⟩
          by_cases hB5 : B ≤ 5
          · have g := specLeast_l n p q e (S n p) (fun m => sr (cv n q e) (S n p) m []) hs (5 - B) B (by omega)
            have g2 := fst4_skip (fun m => sr (cv n q e) (S n p) m []) (B - 1) (5 - B) 1 (fun x _ h2 => hnone x (by omega))
            rw [show B - 1 + (5 - B) = 4 by omega, show 1 + (B - 1) = B by omega] at g2
            rw [g2]; exact g
          · have g2 := fst4_skip (fun m => sr (cv n q e) (S n p) m []) 4 0 1 (fun x _ h2 => hnone x (by omega))
            rw [show 4 + 0 = 4 from rfl] at g2
            rw [g2]
            refine ⟨1, fun k hk => ?_⟩
            obtain ⟨k, rfl⟩ : ∃ q, k = q + 1 := ⟨k - 1, by omega⟩
            simp only [spec_LeastTickets.l0]
            rw [if_neg (by omega)]; rfl
        obtain ⟨r, hr, ⟨K, hK⟩⟩ := key
        have near : ∀ t ∈ S n p, ∃ M : Nat, setOf n p q e ((S n q).map Int.ofNat) (t : Int) = (M : Int) ∧ M < 2 ^ (S n q).length ∧ ∀ j (hj : j < (S n q).length), M.testBit j = decide (e ≤ pc (t &&& (S n q)[j])) := by
          intro t htm
          have ht : t < 4096 := S_lt h2 htm
          obtain ⟨M, g1, g2, _, g3⟩ := near_bits (fun x => hitB n p q e (t : Int) x) (fun d => decide (e ≤ pc (t &&& d))) (S n q) 0 0 (fun d hd => hitB_nat n p q e t d ht (S_lt h2 hd)) (by omega) (by decide)
          exact ⟨M, g1, by simpa using g2, fun j hj => by simpa using g3 j hj⟩
        refine ⟨r.1, r.2, ?_, fun _ => ⟨n, p, q, e, rfl, rfl, rfl, rfl, h, h1, h2, h3, h4, h5, h6, h7, h8, h9, by omega, hr, fun m hm => hnone m (by rw [hB]; exact hm)⟩, ⟨N + K, fun k hk => ?_⟩, ⟨N, fun k hk => ?_⟩⟩
        · rw [hr]; exact fst4_len _ (fun m l hm => sr_len _ _ _ _ _ hm) 4 1 (by omega)
        · have hK' := hK k (by omega)
          show spec_LeastTickets.f k _ _ _ _ = _
          unfold spec_LeastTickets.f
          rw [isLot, h, Option.bind_some, if_pos rfl, choose_nat n q h2 (by omega) k (by omega), Option.bind_some, if_neg (by omega), choose_nat n p h2 (by omega) k (by omega), Option.bind_some, if_neg (by omega), specSets_ev n p q e p h1 h2 k (by omega), Option.bind_some, hbn k (by omega), Option.bind_some]
          exact hK'
        · show impl_LeastTickets.f k _ _ _ _ = _
          unfold impl_LeastTickets.f impl_allTickets.f impl_allDraws.f
          rw [h, Option.bind_some, if_pos rfl, sets_ev n p h2 k (by omega), sets_ev n q h2 k (by omega)]
          simp only [Option.bind_some, List.length_map, hT, hD]
          rw [if_neg (show ¬ ((binom n p : Nat) : Int) > 36 by omega), if_neg (show ¬ ((binom n q : Nat) : Int) > 36 by omega)]
          have hall : (((S n p).map Int.ofNat).all fun t => ((S n q).map Int.ofNat).all fun x => (impl_hits.f n p q e t x).isSome) = true := by
            rw [List.all_eq_true]
            intro t ht
            rw [List.all_eq_true]
            intro x hx
            obtain ⟨t', ht', rfl⟩ := List.mem_map.1 ht
            obtain ⟨x', hx', rfl⟩ := List.mem_map.1 hx
            have := hits_ev n p q e t' x' (S_lt h2 ht') (S_lt h2 hx')
            show (impl_hits.f n p q e (t' : Int) (x' : Int)).isSome = true
            rw [this]; rfl
          rw [if_pos hall, zip_self, allU_nat _ (by omega)]
          rw [fst4_I (fun m => sr (cv n q e) (S n p) m []) _ (fun m => by
            have g := srch_sr n q e (by omega) (fun t => setOf n p q e ((S n q).map Int.ofNat) (t : Int)) (S n p) near m [] 0 ⟨0, rfl, Nat.two_pow_pos _, fun j hj => by simp⟩
            rw [hD] at g
            exact g)]
          rw [hr]

theorem sr_some (C : List Nat → Bool) : ∀ (r : List Nat) (m : Nat) (M L : List Nat), sr C r m M = some L → L.Sublist r ∧ C (M ++ L) = true := by
  intro r
  induction r with
  | nil =>
    intro m M L e
    cases m with
    | zero =>
      rw [sr_zero] at e
      split at e
      · rename_i hc
        obtain rfl := Option.some.inj e
        exact ⟨List.Sublist.refl _, by rw [List.append_nil]; exact hc⟩
      · cases e
    | succ m => simp [sr] at e
  | cons t r ih =>
    intro m M L e
    cases m with
    | zero =>
      rw [sr_zero] at e
      split at e
      · rename_i hc
        obtain rfl := Option.some.inj e
        exact ⟨List.nil_sublist _, by rw [List.append_nil]; exact hc⟩
      · cases e
    | succ m =>
      simp only [sr] at e
      cases hs : sr C r m (M ++ [t]) with
      | some l' =>
        rw [hs] at e
        obtain rfl := Option.some.inj e
        obtain ⟨h1, h2⟩ := ih m (M ++ [t]) l' hs
        exact ⟨h1.cons_cons t, by rw [List.append_assoc] at h2; exact h2⟩
      | none =>
        rw [hs] at e
        obtain ⟨h1, h2⟩ := ih (m + 1) M L e
        exact ⟨h1.cons t, h2⟩
theorem sr_all (C : List Nat → Bool) {L r : List Nat} (h : L.Sublist r) : ∀ M : List Nat, C (M ++ L) = true → sr C r L.length M ≠ none := by
  induction h with
  | slnil =>
    intro M hc
    rw [List.append_nil] at hc
    rw [List.length_nil, sr_zero, if_pos hc]
    simp
  | @cons l1 l2 t h ih =>
    intro M hc
    cases hl : l1.length with
    | zero =>
      rw [List.length_eq_zero_iff.1 hl, List.append_nil] at hc
      rw [sr_zero, if_pos hc]
      simp
    | succ m =>
      have := ih M hc
      rw [hl] at this
      simp only [sr]
      cases sr C l2 m (M ++ [t]) with
      | some l' => simp
      | none => exact this
  | @cons_cons l1 l2 t h ih =>
    intro M hc
    have := ih (M ++ [t]) (by rw [List.append_assoc]; exact hc)
    rw [List.length_cons]
    simp only [sr]
    cases hs : sr C l2 l1.length (M ++ [t]) with
    | some l' => simp
    | none => exact absurd hs this
theorem fst4_get (f : Nat → Option (List Nat)) : ∀ (d j : Nat) (r : List Int), (r, (0 : Int)) = fst4 f d j → ∃ (m : Nat) (L : List Nat), j ≤ m ∧ m < j + d ∧ f m = some L ∧ r = L.map Int.ofNat ∧ ∀ x, j ≤ x → x < m → f x = none
  | 0, j, r, e => by simp [fst4] at e
  | d + 1, j, r, e => by
    simp only [fst4] at e
    cases h : f j with
    | some L =>
      rw [h] at e
      simp only [Prod.mk.injEq, and_true] at e
      exact ⟨j, L, Nat.le_refl _, by omega, h, e, fun x h1 h2 => by omega⟩
    | none =>
      rw [h] at e
      obtain ⟨m, L, h1, h2, h3, h4, h5⟩ := fst4_get f d (j + 1) r e
      refine ⟨m, L, by omega, by omega, h3, h4, fun x hx1 hx2 => ?_⟩
      by_cases hxj : x = j
      · rw [hxj]; exact h
      · exact h5 x (by omega) hx2
theorem sub_sorted : ∀ {T L : List Nat}, T.Pairwise (· < ·) → L.Pairwise (· < ·) → (∀ x ∈ L, x ∈ T) → L.Sublist T
  | [], [], _, _, _ => List.Sublist.slnil
  | [], x :: L, _, _, h => by have := h x (by simp); simp at this
  | t :: T, [], _, _, _ => List.nil_sublist _
  | t :: T, x :: L, hT, hL, h => by
    rw [List.pairwise_cons] at hT hL
    rcases List.mem_cons.1 (h x (by simp)) with rfl | hx
    · refine (sub_sorted hT.2 hL.2 fun y hy => ?_).cons_cons x
      rcases List.mem_cons.1 (h y (by simp [hy])) with rfl | hy2
      · exact absurd (hL.1 y hy) (Nat.lt_irrefl _)
      · exact hy2
    · refine (sub_sorted hT.2 (List.pairwise_cons.2 hL) fun y hy => ?_).cons t
      rcases List.mem_cons.1 hy with rfl | hy
      · exact hx
      · rcases List.mem_cons.1 (h y (by simp [hy])) with rfl | hy2
        · exact absurd (Nat.lt_trans (hT.1 x hx) (hL.1 y hy)) (Nat.lt_irrefl _)
        · exact hy2

theorem binom_pos : ∀ (n k : Nat), k ≤ n → 0 < binom n k
  | n, 0, _ => by cases n <;> simp [binom]
  | 0, k + 1, h => by omega
  | n + 1, k + 1, h => by
    have := binom_pos n k (by omega)
    simp only [binom]; omega
theorem sumTo_pos (f : Nat → Nat) : ∀ (N j : Nat), j < N → 0 < f j → 0 < sumTo f N
  | 0, j, h, _ => by omega
  | N + 1, j, h, hf => by
    simp only [sumTo]
    by_cases e : j = N
    · subst e; omega
    · have := sumTo_pos f N j (by omega) hf
      omega
theorem hitF_pos (q m p h : Nat) (h1 : h ≤ q) (h2 : h ≤ p) (h3 : p ≤ q + m) : 0 < hitF q m p h := by
  unfold hitF
  refine sumTo_pos _ _ (max h (p - m)) (by omega) ?_
  unfold term
  rw [if_pos (by omega)]
  exact Nat.mul_pos (binom_pos _ _ (by omega)) (binom_pos _ _ (by omega))
def hitN (h t d : Nat) : Bool := decide (h ≤ pc (t &&& d))
theorem some_hit (n p q h d : Nat) (hn : n ≤ 12) (hp : p ≤ n) (hq : q ≤ n) (h1 : h ≤ p) (h2 : h ≤ q) (hd : d ∈ S n q) : ∃ t ∈ S n p, hitN h t d = true := by
  obtain ⟨hd1, hd2⟩ := mem_S.1 hd
  have hl := (hitL_length n d p h hn hd1).1
  rw [hd2] at hl
  have hpos := hitF_pos q (n - q) p h h2 h1 (by omega)
  obtain ⟨t, ht⟩ := List.exists_mem_of_length_pos (show 0 < (hitL n d p h).length by omega)
  obtain ⟨ht1, ht2⟩ := List.mem_filter.1 ht
  refine ⟨t, ht1, ?_⟩
  unfold hitN
  rw [Nat.and_comm]
  exact ht2
def cntN (h : Nat) (D : List Nat) (t : Nat) : Nat := (D.filter fun d => hitN h t d).length
theorem filt_split {α : Type} (p r : α → Bool) : ∀ l : List α, (l.filter fun x => p x && r x).length + ((l.filter fun x => !p x).filter r).length = (l.filter r).length
  | [] => rfl
  | x :: l => by
    have := filt_split p r l
    cases hp : p x <;> cases hr : r x <;> simp only [List.filter_cons, hp, hr, Bool.and_true, Bool.and_false, Bool.true_and, Bool.false_and, Bool.not_true, Bool.not_false, if_true, if_false, Bool.false_eq_true, List.length_cons, Bool.and_self] <;> omega

theorem put_l (L : List Int) (hl : L.length ≤ 1000000) (x : Int) (hx : x ∉ L) (hs : L.Pairwise (· < ·)) : ∀ a : Nat, a ≤ L.length → (∀ j (hj : j < L.length), a ≤ j → x < L[j]) → ∃ R : List Int, R.Perm (L ++ [x]) ∧ R.Pairwise (· < ·) ∧ ∀ k, a < k → spec_l01Put.l0 k L x (a : Int) = some R
  | 0, ha, hgt => by
    refine ⟨x :: L, by simpa using (List.perm_append_comm (l₁ := [x]) (l₂ := L)), List.pairwise_cons.2 ⟨fun y hy => ?_, hs⟩, fun k hk => ?_⟩
    · obtain ⟨j, hj, rfl⟩ := List.mem_iff_getElem.1 hy
      exact hgt j hj (by omega)
    · obtain ⟨k, rfl⟩ : ∃ q, k = q + 1 := ⟨k - 1, by omega⟩
      simp only [spec_l01Put.l0]
      rw [if_neg (by omega), if_pos (by omega), if_pos (by omega)]
      unfold spec_l01Own.f
      simp only [Int.toNat_natCast, List.take_zero, List.drop_zero, Option.bind_some, List.append_nil, List.nil_append, List.length_nil, List.length_singleton]
      rw [if_pos (by omega)]
      simp only [Option.bind_some, List.length_nil]
      rw [if_pos (by omega), if_pos (by simp; omega)]
      rfl
  | a + 1, ha, hgt => by
    have hal : a < L.length := by omega
    have hw : wrap64 (((a + 1 : Nat) : Int) - 1) = (a : Int) := by rw [w64 (by omega) (by omega)]; omega
    have hne : ¬ L[a] = x := fun e => hx (by rw [← e]; exact List.getElem_mem hal)
    by_cases hg : L[a] > x
    · obtain ⟨R, r1, r2, r3⟩ := put_l L hl x hx hs a (by omega) (fun j hj hja => by
        by_cases e : j = a
        · subst e; exact hg
        · exact hgt j hj (by omega))
      refine ⟨R, r1, r2, fun k hk => ?_⟩
      obtain ⟨k, rfl⟩ : ∃ q, k = q + 1 := ⟨k - 1, by omega⟩
      simp only [spec_l01Put.l0]
      rw [if_pos (by omega), hw, if_pos (by omega), if_pos (by omega), rd_nat L a hal, if_pos hg]
      exact r3 k (by omega)
    · have hlt : L[a] < x := by omega
      refine ⟨L.take (a + 1) ++ x :: L.drop (a + 1), ?_, ?_, fun k hk => ?_⟩
      · have h1 := List.perm_middle (a := x) (l₁ := L.take (a + 1)) (l₂ := L.drop (a + 1))
        rw [List.take_append_drop] at h1
        exact h1.trans (by simpa using (List.perm_append_comm (l₁ := [x]) (l₂ := L)))
      · have hp := List.pairwise_iff_getElem.1 hs
        refine List.pairwise_append.2 ⟨hs.sublist (List.take_sublist _ _), List.pairwise_cons.2 ⟨fun y hy => ?_, hs.sublist (List.drop_sublist _ _)⟩, fun y hy z hz => ?_⟩
        · obtain ⟨j, hj, rfl⟩ := List.mem_iff_getElem.1 hy
          rw [List.getElem_drop]
          exact hgt _ (by rw [List.length_drop] at hj; omega) (by omega)
        · obtain ⟨j, hj, rfl⟩ := List.mem_iff_getElem.1 hy
          rw [List.length_take] at hj
          rw [List.getElem_take]
          have hjx : L[j] < x := by
            by_cases e : j = a
            · subst e; exact hlt
            · have := hp j a (by omega) hal (by omega)
              omega
          rcases List.mem_cons.1 hz with rfl | hz
          · exact hjx
          · obtain ⟨i, hi, rfl⟩ := List.mem_iff_getElem.1 hz
            rw [List.getElem_drop]
            have := hgt (a + 1 + i) (by rw [List.length_drop] at hi; omega) (by omega)
            omega
      · obtain ⟨k, rfl⟩ : ∃ q, k = q + 1 := ⟨k - 1, by omega⟩
        simp only [spec_l01Put.l0]
        rw [if_pos (by omega), hw, if_pos (by omega), if_pos (by omega), rd_nat L a hal, if_neg hg, if_neg hne, if_pos (by omega), if_pos (by omega), Int.toNat_natCast]
        unfold spec_l01Own.f
        simp only [Option.bind_some, List.nil_append]
        rw [if_pos (by rw [List.length_take]; simp; omega)]
        simp only [Option.bind_some]
        rw [if_pos (by rw [List.length_take]; omega), if_pos (by simp; omega)]
        simp
theorem put_ev (L : List Int) (hl : L.length ≤ 1000000) (x : Int) (hx : x ∉ L) (hs : L.Pairwise (· < ·)) : ∃ R : List Int, R.Perm (L ++ [x]) ∧ R.Pairwise (· < ·) ∧ ∀ k, L.length < k → spec_l01Put.f k L x = some R := by
  obtain ⟨R, r1, r2, r3⟩ := put_l L hl x hx hs L.length (Nat.le_refl _) (fun j hj h => by omega)
  exact ⟨R, r1, r2, r3⟩
theorem sort_is (O Q : List Int) (hq : Q.Pairwise (· < ·)) (hp : Q.Perm O) : (O.mergeSort fun x y => decide (x ≤ y)) = Q := by
  have h1 : (O.mergeSort fun x y => decide (x ≤ y)).Pairwise (fun a b => a ≤ b) := by
    have := List.pairwise_mergeSort (le := fun x y : Int => decide (x ≤ y)) (fun a b c h1 h2 => decide_eq_true (Int.le_trans (of_decide_eq_true h1) (of_decide_eq_true h2))) (fun a b => by have := Int.le_total a b; simpa using this) O
    exact this.imp (fun h => by simpa using h)
  have h2 : Q.Pairwise (fun a b => a ≤ b) := hq.imp (fun h => Int.le_of_lt h)
  exact List.Perm.eq_of_pairwise (le := fun a b : Int => a ≤ b) (fun a b _ _ h1 h2 => Int.le_antisymm h1 h2) h1 h2 ((List.mergeSort_perm O _).trans hp.symm)

def bestC : List Int → Int → Int → Int → Int × Int
  | [], _, b, m => (b, m)
  | c :: cs, w, b, m => if c > m then bestC cs (w + 1) w c else bestC cs (w + 1) b m
theorem bestC_in : ∀ (cs : List Int) (w b m : Int), 0 ≤ b → b ≤ w → (b < w ∨ 0 < cs.length) → 0 ≤ m → 0 ≤ (bestC cs w b m).1 ∧ ((bestC cs w b m).1 = b ∧ (bestC cs w b m).2 = m ∧ (∀ c ∈ cs, c ≤ m) ∨ w ≤ (bestC cs w b m).1 ∧ (bestC cs w b m).1 < w + cs.length ∧ (bestC cs w b m).2 = rd cs ((bestC cs w b m).1 - w))
  | [], w, b, m, h0, h1, h2, h3 => ⟨h0, .inl ⟨rfl, rfl, fun c hc => by simp at hc⟩⟩
  | c :: cs, w, b, m, h0, h1, h2, h3 => by
    simp only [bestC]
    have key : ∀ j : Int, w + 1 ≤ j → rd (c :: cs) (j - w) = rd cs (j - (w + 1)) := fun j hj => by
      unfold rd
      rw [show (j - w).toNat = (j - (w + 1)).toNat + 1 by omega, List.getD_cons_succ]
    by_cases hc : c > m
    · rw [if_pos hc]
      obtain ⟨i1, i2⟩ := bestC_in cs (w + 1) w c (by omega) (by omega) (.inl (by omega)) (by omega)
      refine ⟨i1, .inr ?_⟩
      rcases i2 with ⟨j1, j2, j3⟩ | ⟨j1, j2, j3⟩
      · rw [j1, j2]
        refine ⟨by omega, by simp only [List.length_cons]; omega, ?_⟩
        rw [Int.sub_self]; rfl
      · refine ⟨by omega, by simp only [List.length_cons]; omega, ?_⟩
        rw [j3, key _ j1]
    · rw [if_neg hc]
      obtain ⟨i1, i2⟩ := bestC_in cs (w + 1) b m h0 (by omega) (.inl (by omega)) h3
      refine ⟨i1, ?_⟩
      rcases i2 with ⟨j1, j2, j3⟩ | ⟨j1, j2, j3⟩
      · refine .inl ⟨j1, j2, fun x hx => ?_⟩
        rcases List.mem_cons.1 hx with rfl | hx
        · omega
        · exact j3 x hx
      · refine .inr ⟨by omega, by simp only [List.length_cons]; omega, ?_⟩
        rw [j3, key _ j1]
theorem bestC_all (cs : List Int) (h0 : 0 < cs.length) (hc : ∀ c ∈ cs, 0 ≤ c) : 0 ≤ (bestC cs 0 0 0).1 ∧ (bestC cs 0 0 0).1 < (cs.length : Int) ∧ (bestC cs 0 0 0).2 = rd cs (bestC cs 0 0 0).1 := by
  obtain ⟨i1, i2⟩ := bestC_in cs 0 0 0 (by omega) (by omega) (.inr h0) (by omega)
  rcases i2 with ⟨j1, j2, j3⟩ | ⟨j1, j2, j3⟩
  · refine ⟨i1, by omega, ?_⟩
    rw [j1, j2]
    have h1 := List.getElem_mem h0
    have h2 := j3 _ h1
    have h3 := hc _ h1
    have h4 := rd_nat cs 0 h0
    rw [show (0 : Int) = ((0 : Nat) : Int) from rfl, h4]
    omega
  · rw [Int.sub_zero] at j3
    exact ⟨i1, by omega, j3⟩

set_option linter.unusedSectionVars false
theorem map_set_at (T : List Nat) (c c' : Nat → Int) (i : Nat) (hi : i < T.length) (x : Int) (hx : x = c' T[i]) : ((T.take i).map c' ++ (T.drop i).map c).set i x = (T.take (i + 1)).map c' ++ (T.drop (i + 1)).map c := by
  rw [List.drop_eq_getElem_cons hi, List.map_cons, List.set_append_right _ _ (by simp; omega), List.take_succ_eq_append_getElem hi, List.map_append, hx]
  have : i - ((T.take i).map c').length = 0 := by simp; omega
  rw [this]
  simp
theorem map_same_at (T : List Nat) (c c' : Nat → Int) (i : Nat) (hi : i < T.length) (hx : c' T[i] = c T[i]) : (T.take i).map c' ++ (T.drop i).map c = (T.take (i + 1)).map c' ++ (T.drop (i + 1)).map c := by
  rw [List.drop_eq_getElem_cons hi, List.map_cons, List.take_succ_eq_append_getElem hi, List.map_append, List.append_assoc, List.map_singleton, hx]
  rfl
theorem rd_at (T : List Nat) (c c' : Nat → Int) (i : Nat) (hi : i < T.length) : rd ((T.take i).map c' ++ (T.drop i).map c) (i : Int) = c T[i] := by
  have hl : ((T.take i).map c').length = i := by simp; omega
  rw [List.drop_eq_getElem_cons hi, List.map_cons]
  have h := rd_mid ((T.take i).map c') ((T.drop (i + 1)).map c) (c T[i])
  rw [hl] at h
  exact h
section
variable (n p q h : Nat) (T : List Nat) (hT : ∀ t ∈ T, t < 4096) (hTl : T.length ≤ 4096)
include hT hTl
theorem gs2_step (D : List Nat) (hD : ∀ d ∈ D, d < 4096) (hDl : D.length ≤ 4096) (out : List Int) (v m : Int) (w : Nat) (hw : w < T.length) (r : List Int × Int) (i : Nat) (hi : i < D.length) (c c' : Nat) (hc : c ≤ i) (hc' : c' = if hitN h T[w] D[i] = true then c + 1 else c) : Ev (fun k => spec_GreedyTickets.l2 k (T.map Int.ofNat) (D.map Int.ofNat) out v m (w : Int) (c' : Int) ((i + 1 : Nat) : Int) n p q h) r → Ev (fun k => spec_GreedyTickets.l2 k (T.map Int.ofNat) (D.map Int.ofNat) out v m (w : Int) (c : Int) (i : Int) n p q h) r := by
  have hc6 : (hitN h T[w] D[i] = true ∧ (pc (T[w] &&& D[i]) : Int) ≥ (h : Int) ∧ c' = c + 1) ∨ (¬ (pc (T[w] &&& D[i]) : Int) ≥ (h : Int) ∧ c' = c) := by
    by_cases hb : hitN h T[w] D[i] = true
    · rw [if_pos hb] at hc'
      have hb2 : h ≤ pc (T[w] &&& D[i]) := of_decide_eq_true hb
      exact .inl ⟨hb, by omega, hc'⟩
    · rw [if_neg hb] at hc'
      have hb2 : ¬ h ≤ pc (T[w] &&& D[i]) := fun h0 => hb (decide_eq_true h0)
      exact .inr ⟨by omega, hc'⟩
  clear hc'
  have hd := hD _ (List.getElem_mem hi)
  have ht := hT _ (List.getElem_mem hw)
  have hl := land_lt 12 T[w] D[i] ht
  have hl2 : (T[w] &&& D[i]) < 4096 := hl
  clear hl
  have hw1 : wrap64 ((i : Int) + 1) = ((i + 1 : Nat) : Int) := by rw [w64 (by omega) (by omega)]; omega
  have hw2 : wrap64 ((c : Int) + 1) = ((c + 1 : Nat) : Int) := by rw [w64 (by omega) (by omega)]; omega
  rintro ⟨K, hK⟩
  refine ⟨K + 20, fun k hk => ?_⟩
  obtain ⟨k, rfl⟩ : ∃ q, k = q + 1 := ⟨k - 1, by omega⟩
  simp only [spec_GreedyTickets.l2]
  rw [if_pos (by simp; omega), if_pos (by omega), if_pos (by simp; omega), if_pos (by omega), rd_map T w hw, rd_map D i hi, band _ _ (by omega) (by omega), ssize_nat _ hl2 k (by omega), Option.bind_some, hw1, hw2]
  have h9 := hK k (by omega)
  rcases hc6 with ⟨_, h1, rfl⟩ | ⟨h1, rfl⟩
  · rw [if_pos h1]; exact h9
  · rw [if_neg h1]; exact h9
theorem gs2 (D : List Nat) (hD : ∀ d ∈ D, d < 4096) (hDl : D.length ≤ 4096) (out : List Int) (v m : Int) (w : Nat) (hw : w < T.length) (r : List Int × Int) : ∀ e i : Nat, i + e = D.length → ∀ c : Nat, c ≤ i →
    Ev (fun k => spec_GreedyTickets.l2 k (T.map Int.ofNat) (D.map Int.ofNat) out v m (w : Int) ((c + ((D.drop i).filter fun d => hitN h T[w] d).length : Nat) : Int) (D.length : Int) n p q h) r →
    Ev (fun k => spec_GreedyTickets.l2 k (T.map Int.ofNat) (D.map Int.ofNat) out v m (w : Int) (c : Int) (i : Int) n p q h) r
  | 0, i, e, c, hc, hh => by
    obtain rfl : i = D.length := by omega
    rw [List.drop_of_length_le (Nat.le_refl _)] at hh
    exact hh
  | e + 1, i, e1, c, hc, hh => by
    have hi : i < D.length := by omega
    rw [List.drop_eq_getElem_cons hi, List.filter_cons] at hh
    by_cases hb : hitN h T[w] D[i] = true
    · rw [if_pos hb, List.length_cons, show ∀ x, c + (x + 1) = c + 1 + x from fun x => by omega] at hh
      exact gs2_step n p q h T hT hTl D hD hDl out v m w hw r i hi c (c + 1) hc (by rw [if_pos hb]) (gs2 D hD hDl out v m w hw r e (i + 1) (by omega) (c + 1) (by omega) hh)
    · rw [if_neg hb] at hh
      exact gs2_step n p q h T hT hTl D hD hDl out v m w hw r i hi c c hc (by rw [if_neg hb]) (gs2 D hD hDl out v m w hw r e (i + 1) (by omega) c (by omega) hh)
theorem gs2_end (D : List Nat) (out : List Int) (v m : Int) (w : Nat) (hw : w < T.length) (r : List Int × Int) (c : Nat) (h1 : (c : Int) > m → Ev (fun k => spec_GreedyTickets.l1 k (T.map Int.ofNat) (D.map Int.ofNat) out (T[w] : Int) (c : Int) ((w + 1 : Nat) : Int) n p q h) r) (h2 : ¬ (c : Int) > m → Ev (fun k => spec_GreedyTickets.l1 k (T.map Int.ofNat) (D.map Int.ofNat) out v m ((w + 1 : Nat) : Int) n p q h) r) : Ev (fun k => spec_GreedyTickets.l2 k (T.map Int.ofNat) (D.map Int.ofNat) out v m (w : Int) (c : Int) (D.length : Int) n p q h) r := by
  have hw1 : wrap64 ((w : Int) + 1) = ((w + 1 : Nat) : Int) := by rw [w64 (by omega) (by omega)]; omega
  by_cases hcm : (c : Int) > m
  · refine Ev.step (fun k => ?_) (h1 hcm)
    simp only [spec_GreedyTickets.l2]
    rw [if_neg (by simp), if_pos hcm, if_pos (by omega), if_pos (by simp; omega), rd_map T w hw, hw1]
  · refine Ev.step (fun k => ?_) (h2 hcm)
    simp only [spec_GreedyTickets.l2]
    rw [if_neg (by simp), if_neg hcm, hw1]
def valT (T : List Nat) (bm : Int × Int) : Int := if bm.2 = 0 then 0 else rd (T.map Int.ofNat) bm.1
theorem gs1 (D : List Nat) (hD : ∀ d ∈ D, d < 4096) (hDl : D.length ≤ 4096) (out : List Int) (r : List Int × Int) : ∀ e w : Nat, w + e = T.length → ∀ b m : Int, 0 ≤ m →
    Ev (fun k => (spec_l01Put.f k out (valT T (bestC ((T.drop w).map fun t => (cntN h D t : Int)) (w : Int) b m))).bind fun t => spec_GreedyTickets.l3 k (T.map Int.ofNat) (D.map Int.ofNat) t (valT T (bestC ((T.drop w).map fun t => (cntN h D t : Int)) (w : Int) b m)) [] 0 n p q h) r →
    Ev (fun k => spec_GreedyTickets.l1 k (T.map Int.ofNat) (D.map Int.ofNat) out (valT T (b, m)) m (w : Int) n p q h) r
  | 0, w, e, b, m, hm, hh => by
    refine Ev.step (fun k => ?_) hh
    rw [List.drop_of_length_le (by omega)]
    simp only [spec_GreedyTickets.l1, List.map_nil, bestC]
    rw [if_neg (by simp; omega)]
  | e + 1, w, e1, b, m, hm, hh => by
    have hw : w < T.length := by omega
    rw [List.drop_eq_getElem_cons hw, List.map_cons] at hh
    simp only [bestC] at hh
    have h2 := gs2 n p q h T hT hTl D hD hDl out (valT T (b, m)) m w hw r D.length 0 (by omega) 0 (by omega) (by
      rw [List.drop_zero, Nat.zero_add]
      refine gs2_end n p q h T hT hTl D out (valT T (b, m)) m w hw r (cntN h D T[w]) (fun hc => ?_) (fun hc => ?_)
      · rw [if_pos hc] at hh
        have h1 := gs1 D hD hDl out r e (w + 1) (by omega) (w : Int) (cntN h D T[w] : Int) (by omega) (by
          rw [show ((w + 1 : Nat) : Int) = (w : Int) + 1 by omega]; exact hh)
        have e2 : valT T ((w : Int), (cntN h D T[w] : Int)) = (T[w] : Int) := by
          unfold valT
          rw [if_neg (by show ¬ (cntN h D T[w] : Int) = 0; omega)]
          exact rd_map T w hw
        rw [e2] at h1
        exact h1
      · rw [if_neg hc] at hh
        exact gs1 D hD hDl out r e (w + 1) (by omega) b m hm (by
          rw [show ((w + 1 : Nat) : Int) = (w : Int) + 1 by omega]; exact hh))
    refine Ev.step (fun k => ?_) h2
    simp only [spec_GreedyTickets.l1]
    rw [if_pos (by simp; omega)]
    rfl
theorem gs3 (D : List Nat) (hD : ∀ d ∈ D, d < 4096) (hDl : D.length ≤ 4096) (out : List Int) (v : Nat) (hv : v < 4096) (r : List Int × Int) : ∀ e i : Nat, i + e = D.length → ∀ acc : List Nat, acc.length ≤ i →
    Ev (fun k => spec_GreedyTickets.l0 k (T.map Int.ofNat) ((acc ++ (D.drop i).filter fun d => !hitN h v d).map Int.ofNat) out n p q h) r →
    Ev (fun k => spec_GreedyTickets.l3 k (T.map Int.ofNat) (D.map Int.ofNat) out (v : Int) (acc.map Int.ofNat) (i : Int) n p q h) r
  | 0, i, e, acc, ha, hh => by
    refine Ev.step (fun k => ?_) hh
    simp only [spec_GreedyTickets.l3]
    rw [if_neg (by simp; omega), List.drop_of_length_le (by omega)]
    simp
  | e + 1, i, e1, acc, ha, hh => by
    have hi : i < D.length := by omega
    have hd := hD _ (List.getElem_mem hi)
    have hl := land_lt 12 v D[i] (by omega)
    have hw1 : wrap64 ((i : Int) + 1) = ((i + 1 : Nat) : Int) := by rw [w64 (by omega) (by omega)]; omega
    rw [List.drop_eq_getElem_cons hi, List.filter_cons] at hh
    by_cases hb : hitN h v D[i] = true
    · have hb2 : h ≤ pc (v &&& D[i]) := of_decide_eq_true hb
      rw [if_neg (by rw [hb]; decide)] at hh
      obtain ⟨K, hK⟩ := gs3 D hD hDl out v hv r e (i + 1) (by omega) acc (by omega) hh
      refine ⟨K + 20, fun k hk => ?_⟩
      obtain ⟨k, rfl⟩ : ∃ q, k = q + 1 := ⟨k - 1, by omega⟩
      simp only [spec_GreedyTickets.l3]
      rw [if_pos (by simp; omega), if_pos (by omega), rd_map D i hi, band _ _ (by omega) (by omega), ssize_nat _ (by omega) k (by omega), Option.bind_some, if_neg (by omega), hw1]
      exact hK k (by omega)
    · have hb2 : ¬ h ≤ pc (v &&& D[i]) := fun h0 => hb (decide_eq_true h0)
      rw [if_pos (by simpa using hb)] at hh
      obtain ⟨K, hK⟩ := gs3 D hD hDl out v hv r e (i + 1) (by omega) (acc ++ [D[i]]) (by simp; omega) (by rw [List.append_assoc]; exact hh)
      refine ⟨K + 20, fun k hk => ?_⟩
      obtain ⟨k, rfl⟩ : ∃ q, k = q + 1 := ⟨k - 1, by omega⟩
      simp only [spec_GreedyTickets.l3]
      rw [if_pos (by simp; omega), if_pos (by omega), rd_map D i hi, band _ _ (by omega) (by omega), ssize_nat _ (by omega) k (by omega), Option.bind_some, if_pos (by omega), if_pos (by simp; omega), hw1]
      have h9 := hK k (by omega)
      rw [List.map_append] at h9
      exact h9
end
theorem bestC_ge : ∀ (cs : List Int) (w b m : Int), m ≤ (bestC cs w b m).2 ∧ ∀ c ∈ cs, c ≤ (bestC cs w b m).2
  | [], w, b, m => ⟨Int.le_refl _, fun c hc => by simp at hc⟩
  | c :: cs, w, b, m => by
    simp only [bestC]
    by_cases h : c > m
    · rw [if_pos h]
      obtain ⟨h1, h2⟩ := bestC_ge cs (w + 1) w c
      refine ⟨by omega, fun x hx => ?_⟩
      rcases List.mem_cons.1 hx with rfl | hx
      · exact h1
      · exact h2 x hx
    · rw [if_neg h]
      obtain ⟨h1, h2⟩ := bestC_ge cs (w + 1) b m
      refine ⟨h1, fun x hx => ?_⟩
      rcases List.mem_cons.1 hx with rfl | hx
      · omega
      · exact h2 x hx
theorem bestC_first (cs : List Int) (h0 : 0 < cs.length) (hc : ∀ c ∈ cs, 0 ≤ c) : bestC cs 0 0 (rd cs 0) = bestC cs 0 0 0 := by
  cases cs with
  | nil => simp at h0
  | cons c cs =>
    have := hc c (by simp)
    have e : rd (c :: cs) 0 = c := rfl
    rw [e]
    simp only [bestC]
    rw [if_neg (by omega)]
    by_cases h : c > 0
    · rw [if_pos h]
    · have : c = 0 := by omega
      rw [if_neg h, this]


section
variable (n p q h : Nat) (T : List Nat) (hT : ∀ t ∈ T, t < 4096) (hTl : T.length ≤ 4096)
include hT hTl
theorem gi3 (out : List Int) (b : Nat) (rest DL : List Int) (DLn : Int) (j : Nat) (hj : j ≤ 4096) (d : Nat) (hd : d < 4096) (c : Nat → Int) (hc : ∀ t ∈ T, -1000000 ≤ c t ∧ c t ≤ 1000000) (r : List Int × Int)
    (hr : Ev (fun k => impl_GreedyTickets.l2 k (T.map Int.ofNat) out (T.map fun t => c t - if hitN h t d = true then 1 else 0) (b : Int) rest DL DLn ((j + 1 : Nat) : Int) n p q h) r) :
    ∀ e i : Nat, i + e = T.length → Ev (fun k => impl_GreedyTickets.l3 k (T.map Int.ofNat) out ((T.take i).map (fun t => c t - if hitN h t d = true then 1 else 0) ++ (T.drop i).map c) (b : Int) rest (d : Int) DL DLn (j : Int) (T.map Int.ofNat) (T.length : Int) (i : Int) n p q h) r
  | 0, i, e => by
    refine Ev.step (fun k => ?_) hr
    simp only [impl_GreedyTickets.l3]
    rw [if_neg (by omega), w64 (by omega) (by omega), show (j : Int) + 1 = ((j + 1 : Nat) : Int) by omega, List.take_of_length_le (by omega), List.drop_of_length_le (by omega), List.map_nil, List.append_nil]
  | e + 1, i, e1 => by
    have hi : i < T.length := by omega
    have ht := hT _ (List.getElem_mem hi)
    have hct := hc _ (List.getElem_mem hi)
    have ih := gi3 out b rest DL DLn j hj d hd c hc r hr e (i + 1) (by omega)
    refine Ev.step (fun k => ?_) ih
    simp only [impl_GreedyTickets.l3]
    rw [if_pos (by omega), if_pos (by omega), if_pos (by simp; omega), rd_map T i hi, hits_ev n p q h _ _ ht hd, Option.bind_some, rd_at T c _ i hi]
    by_cases hh : hitN h T[i] d = true
    · have hh2 : decide (h ≤ pc (T[i] &&& d)) = true := hh
      rw [hh2, if_pos rfl, if_pos (by simp; omega), Int.toNat_natCast, w64 (by omega) (by omega), w64 (by omega) (by omega), map_set_at T c _ i hi _ (by rw [if_pos hh]), show (i : Int) + 1 = ((i + 1 : Nat) : Int) by omega]
    · have hh2 : ¬ decide (h ≤ pc (T[i] &&& d)) = true := hh
      rw [if_neg hh2, w64 (by omega) (by omega), map_same_at T c (fun t => c t - if hitN h t d = true then 1 else 0) i hi (by rw [if_neg hh]; omega), show (i : Int) + 1 = ((i + 1 : Nat) : Int) by omega]
theorem gi2 (out : List Int) (b : Nat) (hb : b < T.length) (D : List Nat) (hD : ∀ d ∈ D, d < 4096) (hDl : D.length ≤ 4096) (r : List Int × Int) : ∀ e j : Nat, j + e = D.length → ∀ (rest : List Nat) (c : Nat → Int), rest.length ≤ j → (∀ t ∈ T, -(j : Int) ≤ c t ∧ c t ≤ 5000) →
    Ev (fun k => impl_GreedyTickets.l0 k (T.map Int.ofNat) ((rest ++ (D.drop j).filter fun d => !hitN h T[b] d).map Int.ofNat) out (T.map fun t => c t - (((D.drop j).filter fun d => hitN h T[b] d && hitN h t d).length : Int)) n p q h) r →
    Ev (fun k => impl_GreedyTickets.l2 k (T.map Int.ofNat) out (T.map c) (b : Int) (rest.map Int.ofNat) (D.map Int.ofNat) (D.length : Int) (j : Int) n p q h) r
  | 0, j, e, rest, c, hr, hc, hh => by
    refine Ev.step (fun k => ?_) hh
    simp only [impl_GreedyTickets.l2]
    rw [if_neg (by omega), List.drop_of_length_le (by omega)]
    simp
  | e + 1, j, e1, rest, c, hr, hc, hh => by
    have hj : j < D.length := by omega
    have hd := hD _ (List.getElem_mem hj)
    have ht := hT _ (List.getElem_mem hb)
    rw [List.drop_eq_getElem_cons hj] at hh
    by_cases hb1 : hitN h T[b] D[j] = true
    · have hb2 : decide (h ≤ pc (T[b] &&& D[j])) = true := hb1
      have ih := gi2 out b hb D hD hDl r e (j + 1) (by omega) rest (fun t => c t - if hitN h t D[j] = true then 1 else 0) (by omega) (fun t htm => by
        have := hc t htm
        split <;> omega) (by
        have e1 : (rest ++ (D[j] :: D.drop (j + 1)).filter fun d => !hitN h T[b] d) = rest ++ (D.drop (j + 1)).filter fun d => !hitN h T[b] d := by
          rw [List.filter_cons, if_neg (by rw [hb1]; decide)]
        have e2 : (T.map fun t => c t - (((D[j] :: D.drop (j + 1)).filter fun d => hitN h T[b] d && hitN h t d).length : Int)) = T.map fun t => (c t - if hitN h t D[j] = true then 1 else 0) - (((D.drop (j + 1)).filter fun d => hitN h T[b] d && hitN h t d).length : Int) := by
          refine List.map_congr_left fun t _ => ?_
          rw [List.filter_cons, hb1, Bool.true_and]
          by_cases hh3 : hitN h t D[j] = true
          · rw [if_pos hh3, if_pos hh3, List.length_cons]; omega
          · rw [if_neg hh3, if_neg hh3]; omega
        rw [e1, e2] at hh
        exact hh)
      have h3 := gi3 n p q h T hT hTl out b (rest.map Int.ofNat) (D.map Int.ofNat) (D.length : Int) j (by omega) D[j] hd c (fun t htm => by
        have := hc t htm
        omega) r ih T.length 0 (by omega)
      rw [List.take_zero, List.drop_zero, List.map_nil, List.nil_append] at h3
      refine Ev.step (fun k => ?_) h3
      simp only [impl_GreedyTickets.l2]
      rw [if_pos (by omega), if_pos (by omega), if_pos (by simp; omega), if_pos (by omega), if_pos (by simp; omega), rd_map T b hb, rd_map D j hj, hits_ev n p q h _ _ ht hd, hb2, Option.bind_some, if_pos rfl, List.length_map]
      rfl
    · have hb2 : ¬ decide (h ≤ pc (T[b] &&& D[j])) = true := hb1
      have ih := gi2 out b hb D hD hDl r e (j + 1) (by omega) (rest ++ [D[j]]) c (by simp; omega) (fun t htm => by
        have := hc t htm
        omega) (by
        have e1 : (rest ++ (D[j] :: D.drop (j + 1)).filter fun d => !hitN h T[b] d) = (rest ++ [D[j]]) ++ (D.drop (j + 1)).filter fun d => !hitN h T[b] d := by
          rw [List.filter_cons, if_pos (by simpa using hb1)]; simp
        have e2 : (T.map fun t => c t - (((D[j] :: D.drop (j + 1)).filter fun d => hitN h T[b] d && hitN h t d).length : Int)) = T.map fun t => c t - (((D.drop (j + 1)).filter fun d => hitN h T[b] d && hitN h t d).length : Int) := by
          refine List.map_congr_left fun t _ => ?_
          have : hitN h T[b] D[j] = false := by simpa using hb1
          rw [List.filter_cons, this, Bool.false_and, if_neg (by decide)]
        rw [e1, e2] at hh
        exact hh)
      refine Ev.step (fun k => ?_) ih
      simp only [impl_GreedyTickets.l2]
      rw [if_pos (by omega), if_pos (by omega), if_pos (by simp; omega), if_pos (by omega), if_pos (by simp; omega), rd_map T b hb, rd_map D j hj, hits_ev n p q h _ _ ht hd, Option.bind_some, if_neg hb2, if_pos (by simp; omega), w64 (by omega) (by omega), show (j : Int) + 1 = ((j + 1 : Nat) : Int) by omega, List.map_append]
      rfl
theorem gi1 (D : List Int) (out : List Int) (hol : out.length ≤ 200) (G : List Int) (hG : G.length = T.length) (r : List Int × Int) (hr : out.length = 200 → r = ([], 3)) : ∀ e i : Nat, i + e = G.length → ∀ b : Nat, b < G.length → (out.length ≠ 200 → ∀ b' : Nat, (b' : Int) = (bestC (G.drop i) (i : Int) (b : Int) (rd G (b : Int))).1 → ∀ hb : b' < T.length, Ev (fun k => impl_GreedyTickets.l2 k (T.map Int.ofNat) (out ++ [(T[b'] : Int)]) G (b' : Int) [] D (D.length : Int) 0 n p q h) r) →
    Ev (fun k => impl_GreedyTickets.l1 k (T.map Int.ofNat) D out G (b : Int) G (G.length : Int) (i : Int) n p q h) r
  | 0, i, e, b, hb, hh => by
    by_cases h2 : out.length = 200
    · refine ⟨1, fun k hk => ?_⟩
      obtain ⟨k, rfl⟩ : ∃ q, k = q + 1 := ⟨k - 1, by omega⟩
      simp only [impl_GreedyTickets.l1]
      rw [if_neg (by omega), if_pos (by omega), hr h2]
    · have hbT : b < T.length := by omega
      have h3 := hh h2 b (by rw [List.drop_of_length_le (by omega)]; rfl) hbT
      refine Ev.step (fun k => ?_) h3
      simp only [impl_GreedyTickets.l1]
      rw [if_neg (by omega), if_neg (by omega), if_pos (by omega), if_pos (by simp; omega), if_pos (by omega), rd_map T b hbT]
  | e + 1, i, e1, b, hb, hh => by
    have hi : i < G.length := by omega
    have hw : wrap64 ((i : Int) + 1) = ((i + 1 : Nat) : Int) := by rw [w64 (by omega) (by omega)]; omega
    rw [List.drop_eq_getElem_cons hi] at hh
    simp only [bestC] at hh
    have hri := rd_nat G i hi
    by_cases hc : rd G (i : Int) > rd G (b : Int)
    · have ih := gi1 D out hol G hG r hr e (i + 1) (by omega) i hi (fun h2 b' hb' => hh h2 b' (by
        rw [← hri, if_pos hc]
        rw [show ((i + 1 : Nat) : Int) = (i : Int) + 1 by omega] at hb'
        exact hb'))
      refine Ev.step (fun k => ?_) ih
      simp only [impl_GreedyTickets.l1]
      rw [if_pos (by omega), if_pos (by omega), if_pos (by omega), if_pos (by omega), if_pos (by omega), if_pos hc, hw]
    · have ih := gi1 D out hol G hG r hr e (i + 1) (by omega) b hb (fun h2 b' hb' => hh h2 b' (by
        rw [← hri, if_neg hc]
        rw [show ((i + 1 : Nat) : Int) = (i : Int) + 1 by omega] at hb'
        exact hb'))
      refine Ev.step (fun k => ?_) ih
      simp only [impl_GreedyTickets.l1]
      rw [if_pos (by omega), if_pos (by omega), if_pos (by omega), if_pos (by omega), if_pos (by omega), if_neg hc, hw]
end
theorem filt_both {α : Type} (p : α → Bool) : ∀ l : List α, (l.filter p).length + (l.filter fun x => !p x).length = l.length
  | [] => rfl
  | x :: l => by
    have := filt_both p l
    cases h : p x <;> simp only [List.filter_cons, h, Bool.not_true, Bool.not_false, if_true, if_false, Bool.false_eq_true, List.length_cons] <;> omega
def GrOk (n p q h : Nat) (R : List Int) : Prop := R.Pairwise (· < ·) ∧ (∀ x ∈ R, ∃ t ∈ S n p, x = ((t : Nat) : Int)) ∧ ∀ d ∈ S n q, ∃ t : Nat, (t : Int) ∈ R ∧ hitN h t d = true
theorem greedy_l (n p q h : Nat) (hn : n ≤ 12) (hp : p ≤ n) (hq : q ≤ n) (hhp : h ≤ p) (hhq : h ≤ q) : ∀ (N : Nat) (O Q : List Int) (D : List Nat), O.length + N = 200 → Q.Pairwise (· < ·) → Q.Perm O → D.Sublist (S n q) → (∀ t : Nat, (t : Int) ∈ O → cntN h D t = 0) → (∀ x ∈ O, ∃ t ∈ S n p, x = ((t : Nat) : Int)) → (∀ d ∈ S n q, d ∈ D ∨ ∃ t : Nat, (t : Int) ∈ O ∧ hitN h t d = true) → ∃ r : List Int × Int, (r.1.length ≤ 200 ∧ (r.2 = 0 → GrOk n p q h r.1) ∧ (D.length ≤ N → r.2 = 0)) ∧ Ev (fun k => spec_GreedyTickets.l0 k ((S n p).map Int.ofNat) (D.map Int.ofNat) Q n p q h) r ∧ Ev (fun k => impl_GreedyTickets.l0 k ((S n p).map Int.ofNat) (D.map Int.ofNat) O ((S n p).map fun t => (cntN h D t : Int)) n p q h) r := by
  intro N O Q D hN hQ hP hD hO hOS hcov
  have hql : Q.length = O.length := hP.length_eq
  cases D with
  | nil =>
    refine ⟨(Q, 0), ⟨by show Q.length ≤ 200; omega, fun _ => ⟨hQ, fun x hx => hOS x (hP.mem_iff.1 hx), fun d hd => by
      rcases hcov d hd with h | ⟨t, ht, hh⟩
      · simp at h
      · exact ⟨t, hP.mem_iff.2 ht, hh⟩⟩, fun _ => rfl⟩, ⟨1, fun k hk => ?_⟩, ⟨1, fun k hk => ?_⟩⟩
    · obtain ⟨k, rfl⟩ : ∃ q, k = q + 1 := ⟨k - 1, by omega⟩
      simp only [spec_GreedyTickets.l0]
      rw [if_neg (by simp)]
    · obtain ⟨k, rfl⟩ : ∃ q, k = q + 1 := ⟨k - 1, by omega⟩
      simp only [impl_GreedyTickets.l0]
      rw [if_neg (by simp)]
      unfold slices_Sort_int64_int64.f
      rw [if_pos (by omega), sort_is O Q hQ hP]
      rfl
  | cons d0 D0 =>
    have hTl := S_len n p hn
    have hT : ∀ t ∈ S n p, t < 4096 := fun t ht => S_lt hn ht
    have hsub := hD
    generalize hDe : d0 :: D0 = D at *
    have hD0 : d0 ∈ D := by rw [← hDe]; exact List.mem_cons_self
    have hDp : 0 < D.length := List.length_pos_of_mem hD0
    have hDl : D.length ≤ 4096 := Nat.le_trans hD.length_le (S_len n q hn)
    have hD1 : ∀ d ∈ D, d < 4096 := fun d hd => S_lt hn (hD.subset hd)
    obtain ⟨t0, ht0, hht0⟩ := some_hit n p q h d0 hn hp hq hhp hhq (hD.subset hD0)
    have hTp : 0 < (S n p).length := List.length_pos_of_mem ht0
    have hcn : ∀ t, (cntN h D t : Int) ≤ 4096 := fun t => by
      have : cntN h D t ≤ D.length := List.length_filter_le _ _
      omega
    cases N with
    | zero =>
      refine ⟨([], 3), ⟨by simp, fun h => absurd h (by decide), fun h => by omega⟩, ⟨1, fun k hk => ?_⟩, ?_⟩
      · obtain ⟨k, rfl⟩ : ∃ q, k = q + 1 := ⟨k - 1, by omega⟩
        simp only [spec_GreedyTickets.l0]
        rw [if_pos (by simp; omega), if_pos (by omega)]
      · have h1 := gi1 n p q h (S n p) hT hTl (D.map Int.ofNat) O (by omega) ((S n p).map fun t => (cntN h D t : Int)) (by simp) ([], 3) (fun _ => rfl) _ 0 (by rw [Nat.zero_add]) 0 (by simp; omega) (fun h2 => absurd (by omega) h2)
        refine Ev.step (fun k => ?_) h1
        simp only [impl_GreedyTickets.l0]
        rw [if_pos (by simp; omega)]
        rfl
    | succ N =>
      generalize hG : ((S n p).map fun t => (cntN h D t : Int)) = G
      have hGl : G.length = (S n p).length := by rw [← hG]; simp
      have hG0 : ∀ c ∈ G, 0 ≤ c := fun c hc => by
        rw [← hG] at hc
        obtain ⟨t, _, rfl⟩ := List.mem_map.1 hc
        omega
      obtain ⟨b0, b1, b2⟩ := bestC_all G (by omega) hG0
      obtain ⟨b, hb⟩ : ∃ b : Nat, (bestC G 0 0 0).1 = (b : Int) := ⟨(bestC G 0 0 0).1.toNat, by omega⟩
      have hbT : b < (S n p).length := by omega
      have hcnt0 : 0 < cntN h D t0 := List.length_pos_of_mem (List.mem_filter.2 ⟨hD0, hht0⟩)
      have hm1 : (cntN h D t0 : Int) ≤ (bestC G 0 0 0).2 := (bestC_ge G 0 0 0).2 _ (by rw [← hG]; exact List.mem_map.2 ⟨t0, ht0, rfl⟩)
      have hmw : (bestC G 0 0 0).2 = (cntN h D (S n p)[b] : Int) := by
        rw [b2, hb, rd_nat G b (by omega)]
        simp only [← hG, List.getElem_map]
      have hval : valT (S n p) (bestC G 0 0 0) = ((S n p)[b] : Int) := by
        unfold valT
        rw [if_neg (by omega), hb]
        exact rd_map _ b hbT
      have hwO : (((S n p)[b] : Nat) : Int) ∉ O := fun hm => by
        have := hO _ hm
        omega
      have hwQ : (((S n p)[b] : Nat) : Int) ∉ Q := fun hm => hwO (hP.mem_iff.1 hm)
      obtain ⟨R, r1, r2, r3⟩ := put_ev Q (by omega) _ hwQ hQ
      have hRO : R.Perm (O ++ [(((S n p)[b] : Nat) : Int)]) := r1.trans (hP.append_right _)
      have hbcnt : 0 < cntN h D (S n p)[b] := by rw [hmw] at hm1; omega
      have hft : (D.filter fun d => !hitN h (S n p)[b] d).length + cntN h D (S n p)[b] = D.length := by
        have := filt_both (fun d => hitN h (S n p)[b] d) D
        unfold cntN
        omega
      obtain ⟨r, ⟨hr1, hrv, hrN⟩, hr2, hr3⟩ := greedy_l n p q h hn hp hq hhp hhq N (O ++ [(((S n p)[b] : Nat) : Int)]) R (D.filter fun d => !hitN h (S n p)[b] d) (by simp; omega) r2 hRO (List.filter_sublist.trans hD) (fun t ht => by
        rcases List.mem_append.1 ht with ht | ht
        · have h0 := hO t ht
          have hs : cntN h (D.filter fun d => !hitN h (S n p)[b] d) t ≤ cntN h D t := (List.filter_sublist.filter _).length_le
          omega
        · have e : t = (S n p)[b] := by simp at ht; omega
          subst e
          unfold cntN
          rw [List.filter_filter, List.filter_eq_nil_iff.2 (fun d hd => by simp), List.length_nil]) (fun x hx => by
        rcases List.mem_append.1 hx with hx | hx
        · exact hOS x hx
        · exact ⟨_, List.getElem_mem hbT, by simpa using hx⟩) (fun d hd => by
        rcases hcov d hd with h1 | ⟨t, ht, hh⟩
        · cases hb2 : hitN h (S n p)[b] d with
          | true => exact .inr ⟨(S n p)[b], by simp, hb2⟩
          | false => exact .inl (List.mem_filter.2 ⟨h1, by rw [hb2]; rfl⟩)
        · exact .inr ⟨t, List.mem_append_left _ ht, hh⟩)
      refine ⟨r, ⟨hr1, hrv, fun hDN => hrN (by omega)⟩, ?_, ?_⟩
      · have h3 := gs3 n p q h (S n p) hT hTl D hD1 hDl R (S n p)[b] (hT _ (List.getElem_mem hbT)) r D.length 0 (by omega) [] (by simp) (by
          rw [List.drop_zero, List.nil_append]; exact hr2)
        have h4 : Ev (fun k => spec_l01Put.f k Q (((S n p)[b] : Nat) : Int)) R := ⟨Q.length + 1, fun k hk => r3 k (by omega)⟩
        have h5 := gs1 n p q h (S n p) hT hTl D hD1 hDl Q r (S n p).length 0 (by omega) 0 0 (by omega) (by
          rw [List.drop_zero, hG, Int.ofNat_zero, hval]
          exact Ev.bind h4 h3)
        refine Ev.step (fun k => ?_) h5
        simp only [spec_GreedyTickets.l0]
        rw [if_pos (by simp; omega), if_neg (by omega)]
        rfl
      · have h2 := gi2 n p q h (S n p) hT hTl (O ++ [(((S n p)[b] : Nat) : Int)]) b hbT D hD1 hDl r D.length 0 (by omega) [] (fun t => (cntN h D t : Int)) (by simp) (fun t ht => by
          have := hcn t
          omega) (by
          rw [List.drop_zero, List.nil_append]
          have e : ((S n p).map fun t => (cntN h D t : Int) - ((D.filter fun d => hitN h (S n p)[b] d && hitN h t d).length : Int)) = (S n p).map fun t => (cntN h (D.filter fun d => !hitN h (S n p)[b] d) t : Int) := by
            refine List.map_congr_left fun t _ => ?_
            have := filt_split (fun d => hitN h (S n p)[b] d) (fun d => hitN h t d) D
            unfold cntN
            omega
          rw [e]; exact hr3)
        have h1 := gi1 n p q h (S n p) hT hTl (D.map Int.ofNat) O (by omega) G hGl r (fun h2 => by omega) G.length 0 (by omega) 0 (by omega) (fun _ b' hb' hbT' => by
          have e : b' = b := by
            rw [List.drop_zero] at hb'
            have h6 := bestC_first G (by omega) hG0
            have : ((0 : Nat) : Int) = 0 := rfl
            rw [this, h6, hb] at hb'
            omega
          subst e
          rw [← hG, List.length_map]
          exact h2)
        refine Ev.step (fun k => ?_) h1
        simp only [impl_GreedyTickets.l0]
        rw [if_pos (by simp; omega)]
        rfl
termination_by N => N

theorem drawsHit_l (n p q h : Nat) (hp : p ≤ 12) (M : List Nat) (hM : ∀ x ∈ M, x < 4096) (hl : M.length ≤ 4096) : ∀ d i cnt : Nat, i + d = M.length → cnt ≤ i → ∀ k, d < k → impl_drawsHit.l0 k cnt (M.map Int.ofNat) M.length i n p q h = some ((cnt + ((M.drop i).filter (fun x => decide (h ≤ pc ((2 ^ p - 1) &&& x)))).length : Nat) : Int)
  | 0, i, cnt, e, hc, k, hk => by
    obtain ⟨k, rfl⟩ : ∃ q, k = q + 1 := ⟨k - 1, by omega⟩
    simp only [impl_drawsHit.l0]; rw [if_neg (by omega), List.drop_eq_nil_of_le (by omega)]; simp
  | d+1, i, cnt, e, hc, k, hk => by
    obtain ⟨k, rfl⟩ : ∃ q, k = q + 1 := ⟨k - 1, by omega⟩
    have hi : i < M.length := by omega
    have hpp := pow_le hp
    have hp1 : 1 ≤ 2 ^ p := Nat.one_le_two_pow
    simp only [impl_drawsHit.l0]
    rw [if_pos (by omega), if_pos (by omega), if_pos (by simp; omega), if_pos (by omega), rd_map M i hi, shl_one p (by omega), w64 (by omega) (by omega), show ((2 ^ p : Nat) : Int) - 1 = ((2 ^ p - 1 : Nat) : Int) by omega, hits_ev n p q h _ _ (by omega) (hM _ (List.getElem_mem hi))]
    simp only [Option.bind_some]
    rw [w64 (by omega) (by omega), w64 (by omega) (by omega), show ((i : Int) + 1) = ((i + 1 : Nat) : Int) by omega, show ((cnt : Int) + 1) = ((cnt + 1 : Nat) : Int) by omega, List.drop_eq_getElem_cons hi, List.filter_cons]
    by_cases hh : h ≤ pc ((2 ^ p - 1) &&& M[i])
    · rw [if_pos (by simpa using hh), if_pos (by simpa using hh), drawsHit_l n p q h hp M hM hl d (i+1) (cnt+1) (by omega) (by omega) k (by omega)]
      simp only [List.length_cons]; congr 1; omega
    · rw [if_neg (by simpa using hh), if_neg (by simpa using hh), drawsHit_l n p q h hp M hM hl d (i+1) cnt (by omega) (by omega) k (by omega)]
theorem drawsHit_ev (n p q h : Nat) (hn : n ≤ 12) (hp : p ≤ n) (k : Nat) (hk : 5000 ≤ k) : impl_drawsHit.f k n p q h = some (hitF p (n - p) q h : Int) := by
  unfold impl_drawsHit.f impl_allDraws.f
  rw [sets_ev n q hn k (by omega)]
  simp only [Option.bind_some, List.length_map]
  have hl := S_len n q hn
  have := drawsHit_l n p q h (by omega) (S n q) (fun x hx => S_lt hn hx) hl (S n q).length 0 0 (by omega) (by omega) k (by omega)
  have h1 : (2 ^ p - 1) < 2 ^ n := by
    have := Nat.pow_le_pow_right (n := 2) (by omega) hp
    have : 1 ≤ 2 ^ p := Nat.one_le_two_pow
    omega
  have h2 := (hitL_length n (2 ^ p - 1) q h hn h1).1
  rw [pc_ones p (by omega)] at h2
  unfold hitL at h2
  rw [List.drop_zero, h2] at this
  simpa using this

theorem greedy_both (a b c d : Int) : ∃ r : List Int × Int, (r.1.length ≤ 200 ∧ ∀ n p q h : Nat, a = n → b = p → c = q → d = h → impl_IsLottery.f n p q h = some true → (r.2 = 0 → GrOk n p q h r.1) ∧ (binom n q ≤ 200 → r.2 = 0)) ∧ Ev (fun k => spec_GreedyTickets.f k a b c d) r ∧ Ev (fun k => impl_GreedyTickets.f k a b c d) r := by
  unfold spec_GreedyTickets.f impl_GreedyTickets.f
  rw [isLot]
  rcases lot_cases a b c d with h | ⟨h, n, p, q, e, rfl, rfl, rfl, rfl, h1, h2, h3, h4, h5, h6, h7, h8, h9⟩
  · rw [h]
    refine ⟨([], 1), ⟨by simp, fun n p q e ha hb hc hd h2 => by
      subst ha hb hc hd
      rw [h] at h2
      cases h2⟩, ⟨0, fun k _ => rfl⟩, ⟨0, fun k _ => rfl⟩⟩
  · rw [h]
    simp only [Option.bind_some, if_true]
    obtain ⟨r, ⟨r1, r2, r3⟩, ⟨K1, hK1⟩, ⟨K2, hK2⟩⟩ := greedy_l n p q e h2 h4 h6 h8 h9 200 [] [] (S n q) (by simp) List.Pairwise.nil (List.Perm.refl _) (List.Sublist.refl _) (fun t ht => by simp at ht) (fun x hx => by simp at hx) (fun d hd => .inl hd)
    refine ⟨r, ⟨r1, fun n' p' q' e' ha hb hc hd _ => by
      obtain rfl : n = n' := by omega
      obtain rfl : p = p' := by omega
      obtain rfl : q = q' := by omega
      obtain rfl : e = e' := by omega
      exact ⟨r2, fun hb => r3 (by rw [S_length n q h2]; exact hb)⟩⟩, ⟨5000 + K1, fun k hk => ?_⟩, ⟨5000 + K2, fun k hk => ?_⟩⟩
    · dsimp only
      rw [specSets_ev n p q e p h1 h2 k (by omega), specSets_ev n p q e q h1 h2 k (by omega)]
      simp only [Option.bind_some]
      exact hK1 k (by omega)
    · dsimp only
      unfold impl_allTickets.f impl_allDraws.f
      rw [sets_ev n p h2 k (by omega), sets_ev n q h2 k (by omega), drawsHit_ev n p q e h2 h4 k (by omega)]
      simp only [Option.bind_some]
      unfold slices_Repeat_int64_int64.f
      have hl := S_len n p h2
      rw [if_pos (by rfl), if_pos (by omega), if_pos (by simp; omega), Option.bind_some]
      have e1 : List.replicate (((S n p).map Int.ofNat).length : Int).toNat (rd [(hitF p (n - p) q e : Int)] 0) = (S n p).map fun t => (cntN e (S n q) t : Int) := by
        rw [Int.toNat_natCast, List.length_map]
        refine (List.eq_replicate_iff.2 ⟨by simp, fun x hx => ?_⟩).symm
        obtain ⟨t, ht, rfl⟩ := List.mem_map.1 hx
        obtain ⟨g1, g2⟩ := mem_S.1 ht
        have g3 := (hitL_length n t q e h2 g1).1
        rw [g2] at g3
        show ((cntN e (S n q) t : Nat) : Int) = (hitF p (n - p) q e : Int)
        rw [← g3]
        rfl
      rw [e1]
      exact hK2 k (by omega)

theorem gr_list {n p q h : Nat} {R : List Int} (g : GrOk n p q h R) : ∃ L : List Nat, R = L.map Int.ofNat ∧ L.Pairwise (· < ·) ∧ (∀ t ∈ L, t ∈ S n p) ∧ (missedL n q h L).isEmpty = true := by
  obtain ⟨g1, g2, g3⟩ := g
  have e : R = (R.map Int.toNat).map Int.ofNat := by
    rw [List.map_map]
    apply List.ext_getElem (by simp)
    intro j hj1 hj2
    obtain ⟨t, _, ht⟩ := g2 R[j] (List.getElem_mem hj1)
    simp [ht]
  refine ⟨R.map Int.toNat, e, ?_, fun t ht => ?_, ?_⟩
  · rw [List.pairwise_map]
    refine List.Pairwise.imp_of_mem (fun {a b} ha hb hab => ?_) g1
    obtain ⟨x, _, hx⟩ := g2 a ha
    obtain ⟨y, _, hy⟩ := g2 b hb
    rw [hx, hy] at hab ⊢
    simp only [Int.toNat_natCast]
    omega
  · obtain ⟨x, hx, rfl⟩ := List.mem_map.1 ht
    obtain ⟨y, hy, rfl⟩ := g2 x hx
    simpa using hy
  · rw [List.isEmpty_iff]
    unfold missedL
    rw [List.filter_eq_nil_iff]
    intro d hd hn
    obtain ⟨t, ht, hh⟩ := g3 d hd
    have : (R.map Int.toNat).any (fun t => decide (h ≤ pc (t &&& d))) = true := List.any_eq_true.2 ⟨t, List.mem_map.2 ⟨(t : Int), ht, by simp⟩, hh⟩
    rw [this] at hn
    simp at hn
theorem greedy_guar (a b c d : Int) : ∃ (R : List Int) (e : Int), R.length ≤ 200 ∧ Ev (fun k => impl_GreedyTickets.f k a b c d) (R, e) ∧ Ev (fun k => spec_GreedyTickets.f k a b c d) (R, e) ∧ (e = 0 → Ev (fun k => impl_Guarantees.f k a b c d R) (true, 0)) := by
  obtain ⟨⟨R, e⟩, ⟨hl, hv⟩, g1, g2⟩ := greedy_both a b c d
  refine ⟨R, e, hl, g2, g1, fun he => ?_⟩
  subst he
  rcases lot_cases a b c d with h | ⟨h, n, p, q, e, rfl, rfl, rfl, rfl, h1, h2, h3, h4, h5, h6, h7, h8, h9⟩
  · exfalso
    have : Ev (fun k => impl_GreedyTickets.f k a b c d) ([], 1) := ⟨0, fun k _ => by
      show impl_GreedyTickets.f k a b c d = _
      unfold impl_GreedyTickets.f; rw [h]; rfl⟩
    have := ev_uniq g2 this
    simp at this
  · obtain ⟨L, rfl, l1, l2, l3⟩ := gr_list ((hv n p q e rfl rfl rfl rfl h).1 rfl)
    rw [List.length_map] at hl
    exact guar_val n p q e h h1 h2 L (fun t ht => mem_S.1 (l2 t ht)) l1 hl l3
theorem least_guar (a b c d : Int) : ∃ (r : List Int) (e : Int), r.length ≤ 4 ∧ Ev (fun k => impl_LeastTickets.f k a b c d) (r, e) ∧ Ev (fun k => spec_LeastTickets.f k a b c d) (r, e) ∧
    (e = 0 → ∃ (bd : Int) (MR : List Int), Ev (fun k => impl_Guarantees.f k a b c d r) (true, 0) ∧ Ev (fun k => impl_TicketBound.f k a b c d) (bd, 0) ∧ bd ≤ (r.length : Int) ∧ Ev (fun k => impl_GreedyTickets.f k a b c d) (MR, 0) ∧ r.length ≤ MR.length) := by
  obtain ⟨r, e, hr, hv, g1, g2⟩ := least_ev a b c d
  refine ⟨r, e, hr, g2, g1, fun he => ?_⟩
  subst he
  obtain ⟨n, p, q, h, rfl, rfl, rfl, rfl, hok, h1, h2, h3, h4, h5, h6, h7, h8, h9, h36, hf, hn⟩ := hv rfl
  obtain ⟨m, L, m1, m2, hm, rfl, hmin⟩ := fst4_get _ 4 1 r hf
  obtain ⟨hsub, hc⟩ := sr_some _ _ _ _ _ hm
  have hLl := sr_len _ _ _ _ _ hm
  rw [List.nil_append] at hc
  have hLT : ∀ t ∈ L, t < 2 ^ n ∧ pc t = p := fun t ht => mem_S.1 (hsub.subset ht)
  have hLs : L.Pairwise (· < ·) := (S_sorted n p).sublist hsub
  have hpos := hitF_pos0 n p q h h4 h6 h8 h9
  have hbp := binom_pos0 n q h6
  -- the bound
  have hbd : ¬ m < (binom n q + hitF p (n - p) q h - 1) / hitF p (n - p) q h := fun hlt => by
    have := hn m hlt
    rw [hm] at this
    cases this
  obtain ⟨⟨R, e⟩, ⟨hRl, hgv⟩, q1, q2⟩ := greedy_both (n : Int) p q h
  obtain ⟨gv1, gv2⟩ := hgv n p q h rfl rfl rfl rfl hok
  have he0 : e = 0 := gv2 (by omega)
  subst he0
  obtain ⟨L2, rfl, l1, l2, l3⟩ := gr_list (gv1 rfl)
  have hsub2 : L2.Sublist (S n p) := sub_sorted (S_sorted n p) l1 l2
  have hall := sr_all (cv n q h) hsub2 [] l3
  have hL2pos : 1 ≤ L2.length := by
    refine Classical.byContradiction fun hz => ?_
    rw [List.length_eq_zero_iff.1 (by omega : L2.length = 0)] at l3
    rw [List.isEmpty_iff] at l3
    unfold missedL at l3
    rw [List.filter_eq_self.2 (fun d _ => by simp)] at l3
    have := S_length n q h2
    rw [l3] at this
    simp at this
    omega
  have hmm : m ≤ L2.length := by
    refine Classical.byContradiction fun hlt => ?_
    exact hall (hmin L2.length hL2pos (by omega))
  have hDl : (S n q).length = binom n q := S_length n q h2
  have hHit : hitF p (n - p) q h ≤ 4096 := by
    have h1' : (2 ^ p - 1) < 2 ^ n := by
      have := Nat.pow_le_pow_right (n := 2) (by omega) h4
      have : 1 ≤ 2 ^ p := Nat.one_le_two_pow
      omega
    have h2' := (hitL_length n (2 ^ p - 1) q h h2 h1').1
    rw [pc_ones p (by omega)] at h2'
    rw [← h2']
    exact Nat.le_trans (List.length_filter_le _ _) (S_len n q h2)
  refine ⟨(((binom n q + hitF p (n - p) q h - 1) / hitF p (n - p) q h : Nat) : Int), L2.map Int.ofNat, guar_val n p q h hok h1 h2 L hLT hLs (by omega) hc, ⟨5000, fun k hk => ?_⟩, by rw [List.length_map]; omega, q2, by rw [List.length_map, List.length_map]; omega⟩
  show impl_TicketBound.f k n p q h = _
  unfold impl_TicketBound.f impl_allDraws.f
  rw [hok, Option.bind_some, if_pos rfl, sets_ev n q h2 k (by omega), drawsHit_ev n p q h h2 h4 k (by omega)]
  simp only [Option.bind_some, List.length_map, hDl]
  unfold impl_upward.f
  rw [if_neg (by omega)]
  generalize binom n q = B at *
  generalize hitF p (n - p) q h = H at *
  rw [w64 (i := (B : Int) + H) (by omega) (by omega), w64 (i := (B : Int) + H - 1) (by omega) (by omega), Int.tdiv_eq_ediv_of_nonneg (by omega), show (B : Int) + H - 1 = ((B + H - 1 : Nat) : Int) by omega, ← Int.natCast_ediv]
  have hd2 : (B + H - 1) / H ≤ B + H - 1 := Nat.div_le_self _ _
  generalize (B + H - 1) / H = Q at *
  rw [w64 (by omega) (by omega), Option.bind_some]

theorem isDraw_ev (n p q h : Nat) (s : Int) (hn : n ≤ 12) : impl_isDraw.f n p q h s = some (isT n q s) := by
  have hp := pow_le hn
  unfold impl_isDraw.f
  rw [isSet_ev n p q h s hn]
  unfold isT
  generalize 2 ^ n = P at *
  by_cases hv : 0 ≤ s ∧ s < (P : Int)
  · obtain ⟨t, rfl⟩ : ∃ t : Nat, s = t := ⟨s.toNat, by omega⟩
    simp only [hv.1, hv.2, decide_true, Bool.and_self, Option.bind_some, if_true]
    rw [size_nat t (by omega)]; simp
  · have : (decide (0 ≤ s) && decide (s < (P : Int))) = false := by simp; omega
    rw [this]; simp

def lsum : List Int → Int
  | [] => 0
  | x :: l => x + lsum l
theorem lsum_set : ∀ (B : List Int) (j : Nat), j < B.length → ∀ v : Int, lsum (B.set j v) = lsum B - rd B (j : Int) + v
  | [], j, h, _ => by simp at h
  | x :: B, 0, _, v => by simp [lsum, rd]; omega
  | x :: B, j + 1, h, v => by
    have := lsum_set B j (by simpa using h) v
    have e : rd (x :: B) ((j + 1 : Nat) : Int) = rd B (j : Int) := by simp [rd]
    rw [e]
    show x + lsum (B.set j v) = x + lsum B - _ + v
    omega
theorem lsum_rep (n : Nat) : lsum (List.replicate n 0) = 0 := by
  induction n with
  | zero => rfl
  | succ n ih => rw [List.replicate_succ]; show 0 + lsum _ = 0; omega
theorem rd_of (B : List Int) (j : Nat) (h : j < B.length) : rd B (j : Int) ∈ B := by simp [rd, List.getElem?_eq_getElem h]
theorem prizes_both (p q h n : Nat) (hn : n ≤ 12) (hp : p ≤ n) (M : List Nat) (hM : ∀ t ∈ M, t < 2 ^ n ∧ pc t = p) (hl : M.length ≤ 200) (d : Nat) (hd : d < 4096) : ∀ (e i : Nat) (B : List Int), i + e = M.length → B.length = p + 1 → (∀ x ∈ B, 0 ≤ x ∧ x ≤ (i : Int)) → ∃ r : List Int, (r.length = p + 1 ∧ lsum r = lsum B + e ∧ ∀ x ∈ r, 0 ≤ x ∧ x ≤ 200) ∧ (∀ k, e + 20 ≤ k → spec_PrizesOf.l0 k (M.map Int.ofNat) d B i = some (r, 0)) ∧ ∀ k, e + 20 ≤ k → impl_PrizesOf.l0 k d B (M.map Int.ofNat) M.length i = some (r, 0)
  | 0, i, B, e1, hB, hx => by
    refine ⟨B, ⟨hB, by omega, fun x h => by have := hx x h; omega⟩, fun k hk => ?_, fun k hk => ?_⟩
    · obtain ⟨k, rfl⟩ : ∃ q, k = q + 1 := ⟨k - 1, by omega⟩
      simp only [spec_PrizesOf.l0]; rw [if_neg (by simp; omega)]
    · obtain ⟨k, rfl⟩ : ∃ q, k = q + 1 := ⟨k - 1, by omega⟩
      simp only [impl_PrizesOf.l0]; rw [if_neg (by omega)]
  | e+1, i, B, e1, hB, hx => by
    have hi : i < M.length := by omega
    have hw : wrap64 ((i : Int) + 1) = ((i + 1 : Nat) : Int) := by rw [w64 (by omega) (by omega)]; omega
    have hpw := pow_le hn
    obtain ⟨m1, m2⟩ := hM _ (List.getElem_mem hi)
    have hland : M[i] &&& d < 4096 := Nat.lt_of_le_of_lt Nat.and_le_left (by omega)
    have hpc : pc (M[i] &&& d) ≤ p := by
      rw [← m2]; exact pc_land_le _ _
    have hrd := hx _ (rd_of B (pc (M[i] &&& d)) (by omega))
    have hwr : wrap64 (rd B (pc (M[i] &&& d) : Int) + 1) = rd B (pc (M[i] &&& d) : Int) + 1 := w64 (by omega) (by omega)
    obtain ⟨r, ⟨g0, gs, gx⟩, g1, g2⟩ := prizes_both p q h n hn hp M hM hl d hd e (i+1) (B.set (pc (M[i] &&& d)) (wrap64 (rd B (pc (M[i] &&& d) : Int) + 1))) (by omega) (by simpa using hB) (fun x hm => by
      rcases List.mem_or_eq_of_mem_set hm with h | h
      · have := hx x h; omega
      · rw [h, hwr]; omega)
    rw [lsum_set B _ (by omega), hwr] at gs
    refine ⟨r, ⟨g0, by omega, gx⟩, fun k hk => ?_, fun k hk => ?_⟩
    · obtain ⟨k, rfl⟩ : ∃ q, k = q + 1 := ⟨k - 1, by omega⟩
      simp only [spec_PrizesOf.l0]
      rw [if_pos (by simp; omega), if_pos (by omega), rd_map M i hi, band _ _ (by omega) (by omega), ssize_nat _ hland k (by omega)]
      simp only [Option.bind_some]
      rw [if_pos (by omega), if_pos (by omega), Int.toNat_natCast, hw]
      exact g1 k (by omega)
    · obtain ⟨k, rfl⟩ : ∃ q, k = q + 1 := ⟨k - 1, by omega⟩
      simp only [impl_PrizesOf.l0]
      rw [if_pos (by omega), if_pos (by omega), if_pos (by simp; omega), rd_map M i hi, band _ _ (by omega) (by omega), size_nat _ hland]
      simp only [Option.bind_some]
      rw [if_pos (by omega), if_pos (by omega), Int.toNat_natCast, hw]
      exact g2 k (by omega)
theorem prizes_ev (a b c d : Int) (l : List Int) (hl : l.length ≤ 1048576) (w : Int) : ∃ (r : List Int) (e : Int), r.length ≤ 20 ∧ (e = 0 → lsum r = (l.length : Int) ∧ ∀ x ∈ r, 0 ≤ x ∧ x ≤ 200) ∧ (∀ k, l.length + 30 ≤ k → spec_PrizesOf.f k a b c d l w = some (r, e)) ∧ ∀ k, l.length + 30 ≤ k → impl_PrizesOf.f k a b c d l w = some (r, e) := by
  obtain ⟨e, s1, s2, s3, s4⟩ := tickets_ev a b c d l hl
  by_cases he : e = 0
  · subst he
    obtain ⟨n, p, q, h, rfl, rfl, rfl, rfl, h1, h2, h3, h4, h5, h6, h7, h8, h9, hl2, M, rfl, hM⟩ := s4 rfl
    cases hw : isT n q w with
    | false =>
      refine ⟨[], 2, by simp, fun h => absurd h (by decide), fun k hk => ?_, fun k hk => ?_⟩
      · obtain ⟨k, rfl⟩ : ∃ q, k = q + 2 := ⟨k - 2, by omega⟩
        unfold spec_PrizesOf.f
        rw [s1 _ (by omega)]
        simp only [Option.bind_some, if_true]
        rw [specSet_ev n p q h q w h1 h2 _ (by omega), hw]
        simp only [Option.bind_some, Bool.not_false, spec_PrizesOf.j0, spec_PrizesOf.j1, if_true]
        rw [if_neg (by omega)]
      · unfold impl_PrizesOf.f
        rw [s2 _ (by omega)]
        simp only [Option.bind_some, if_true]
        rw [isDraw_ev n p q h w h2, hw]
        simp only [Option.bind_some, Bool.false_eq_true, if_false]
    | true =>
      obtain ⟨u, rfl, hu1, hu2⟩ := isT_nat hw
      have hpw := pow_le h2
      have hwp : wrap64 ((p : Int) + 1) = ((p + 1 : Nat) : Int) := by rw [w64 (by omega) (by omega)]; omega
      simp only [List.length_map] at hl2 hl
      obtain ⟨r, g0, g1, g2⟩ := prizes_both p q h n h2 h4 M hM hl2 u (by omega) M.length 0 (List.replicate (p+1) 0) (by omega) (by simp) (fun x hx => by rw [(List.mem_replicate.1 hx).2]; omega)
      rw [lsum_rep] at g0
      refine ⟨r, 0, by omega, fun _ => ⟨by rw [List.length_map]; omega, g0.2.2⟩, fun k hk => ?_, fun k hk => ?_⟩
      · rw [List.length_map] at hk
        obtain ⟨k, rfl⟩ : ∃ q, k = q + 2 := ⟨k - 2, by omega⟩
        unfold spec_PrizesOf.f
        rw [s1 _ (by simp; omega), Option.bind_some, if_pos rfl, specSet_ev n p q h q _ h1 h2 _ (by omega), hw, Option.bind_some, Bool.not_true, spec_PrizesOf.j0, if_neg (by decide), spec_PrizesOf.j1, if_pos rfl]
        rw [hwp, if_pos (by omega), if_pos (by omega), Int.toNat_natCast]
        exact g1 k (by omega)
      · rw [List.length_map] at hk
        unfold impl_PrizesOf.f
        rw [s2 _ (by simp; omega), Option.bind_some, if_pos rfl, isDraw_ev n p q h _ h2, hw, Option.bind_some, if_pos rfl, hwp, if_pos (by omega), if_pos (by omega), Int.toNat_natCast, List.length_map]
        exact g2 k (by omega)
  · refine ⟨[], e, by simp, fun h => absurd h he, fun k hk => ?_, fun k hk => ?_⟩
    · obtain ⟨k, rfl⟩ : ∃ q, k = q + 2 := ⟨k - 2, by omega⟩
      unfold spec_PrizesOf.f
      rw [s1 _ (by omega)]
      simp only [Option.bind_some]
      rw [if_neg he]
      simp only [spec_PrizesOf.j0, spec_PrizesOf.j1, Bool.false_eq_true, if_false]
      rw [if_neg he]
    · unfold impl_PrizesOf.f
      rw [s2 _ (by omega)]
      simp only [Option.bind_some]
      rw [if_neg he]

theorem sum_l (L : List Int) (hL : ∀ x ∈ L, 0 ≤ x ∧ x ≤ 200) (hl : L.length ≤ 1000) : ∀ e i : Nat, i + e = L.length → ∀ a : Int, 0 ≤ a → a ≤ 200 * (i : Int) → ∀ k, e < k → laws_sum.l0 k L a (i : Int) = some (a + lsum (L.drop i))
  | 0, i, e1, a, h0, h1, k, hk => by
    obtain ⟨k, rfl⟩ : ∃ q, k = q + 1 := ⟨k - 1, by omega⟩
    simp only [laws_sum.l0]
    rw [if_neg (by omega), List.drop_of_length_le (by omega)]
    simp [lsum]
  | e + 1, i, e1, a, h0, h1, k, hk => by
    obtain ⟨k, rfl⟩ : ∃ q, k = q + 1 := ⟨k - 1, by omega⟩
    have hi : i < L.length := by omega
    have hx := hL _ (List.getElem_mem hi)
    have e2 : rd L (i : Int) = L[i] := rd_nat L i hi
    simp only [laws_sum.l0]
    rw [if_pos (by omega), if_pos (by omega), e2, w64 (by omega) (by omega), w64 (by omega) (by omega), show (i : Int) + 1 = ((i + 1 : Nat) : Int) by omega, sum_l L hL hl e (i + 1) (by omega) _ (by omega) (by omega) k (by omega), List.drop_eq_getElem_cons hi]
    simp only [lsum]
    congr 1
    omega
theorem has_l (L : List Int) (x : Int) (hl : L.length ≤ 1048576) : ∀ e i : Nat, i + e = L.length → x ∈ L.drop i → ∀ k, e < k → laws_hasInt.l0 k L x (i : Int) = some true
  | 0, i, e1, hx, k, hk => by
    rw [List.drop_of_length_le (by omega)] at hx
    simp at hx
  | e + 1, i, e1, hx, k, hk => by
    obtain ⟨k, rfl⟩ : ∃ q, k = q + 1 := ⟨k - 1, by omega⟩
    have hi : i < L.length := by omega
    rw [List.drop_eq_getElem_cons hi] at hx
    simp only [laws_hasInt.l0]
    rw [if_pos (by omega), if_pos (by omega), rd_nat L i hi, w64 (by omega) (by omega), show (i : Int) + 1 = ((i + 1 : Nat) : Int) by omega]
    by_cases he : L[i] = x
    · rw [if_pos he]
    · rw [if_neg he]
      rcases List.mem_cons.1 hx with h | h
      · exact absurd h.symm he
      · exact has_l L x hl e (i + 1) (by omega) h k (by omega)

theorem greedyS_ev (a b c d : Int) : ∃ r : List Int × Int, r.1.length ≤ 200 ∧ Ev (fun k => spec_GreedyTickets.f k a b c d) r := by
  obtain ⟨r, hr, h, _⟩ := greedy_both a b c d
  exact ⟨r, hr.1, h⟩

theorem uw (i : Int) : 0 ≤ IntKind.u64.wrap i ∧ IntKind.u64.wrap i < 18446744073709551616 := by
  have e : IntKind.u64.wrap i = i % 18446744073709551616 := by simp [IntKind.wrap, IntKind.bits, IntKind.signed]
  rw [e]; omega
theorem bandu (Y : Int) (h0 : 0 ≤ Y) (h1 : Y < 4611686018427387904) : ∃ a : Nat, Go.bits .and .u64 Y 16777215 = (a : Int) ∧ a ≤ 16777215 := by
  obtain ⟨y, rfl⟩ : ∃ y : Nat, Y = y := ⟨Y.toNat, by omega⟩
  refine ⟨y &&& 16777215, ?_, Nat.and_le_right⟩
  exact (bits_nat .u64 63 (by decide) (fun n h0 h1 => u64 h0 h1) y 16777215 (by omega) (by omega)).1
theorem rd_in (s : List Int) (p : Int) (h0 : 0 ≤ p) (h1 : p < (s.length : Int)) : rd s p ∈ s := by
  obtain ⟨i, rfl⟩ : ∃ i : Nat, p = i := ⟨p.toNat, by omega⟩
  have hi : i < s.length := by omega
  simp [rd, List.getElem?_eq_getElem hi]
def Src (s : List Int) : Prop := (∀ x ∈ s, 0 ≤ x ∧ x < 256) ∧ s.length ≤ 4096
theorem next_ev {s : List Int} (hs : Src s) (p h n : Int) (hp : 0 ≤ p) (hn : 1 ≤ n) : ∃ v p' h', spec_l01Next.f s p h n = some (v, p', h') ∧ 0 ≤ v ∧ v < n ∧ 0 ≤ p' := by
  unfold spec_l01Next.f
  rw [if_neg (by omega)]
  generalize hX : IntKind.u64.wrap (IntKind.u64.wrap (h * 6364136223846793005) + 1442695040888963407) = X
  have hX0 : 0 ≤ X ∧ X < 18446744073709551616 := by rw [← hX]; exact uw _
  obtain ⟨a, ha, hal⟩ := bandu (X / 8589934592) (by omega) (by omega)
  have hw : wrap64 (a : Int) = a := w64 (by omega) (by omega)
  rw [ha, hw]
  have hl := hs.2
  by_cases hpl : p < (s.length : Int)
  · have hb := hs.1 _ (rd_in s p hp hpl)
    have hb2 : wrap64 (rd s p) = rd s p := w64 (by omega) (by omega)
    have hb3 : wrap64 ((a : Int) + rd s p) = (a : Int) + rd s p := w64 (by omega) (by omega)
    have hb4 : wrap64 (p + 1) = p + 1 := w64 (by omega) (by omega)
    rw [if_pos hpl, if_pos hp, if_neg (by omega), hb2, hb3, hb4]
    exact ⟨_, _, _, rfl, Int.tmod_nonneg _ (by omega), Int.tmod_lt_of_pos _ (by omega), by omega⟩
  · rw [if_neg hpl, if_neg (by omega)]
    exact ⟨_, _, _, rfl, Int.tmod_nonneg _ (by omega), Int.tmod_lt_of_pos _ (by omega), hp⟩
theorem pick_ev {s : List Int} (hs : Src s) (p h : Int) (L : List Int) (hp : 0 ≤ p) (hn : 1 ≤ L.length) : ∃ v p' h', spec_l01Pick.f s p h L = some (v, p', h') ∧ v ∈ L ∧ 0 ≤ p' := by
  obtain ⟨v, p', h', e, h0, h1, h2⟩ := next_ev hs p h (L.length : Int) hp (by omega)
  unfold spec_l01Pick.f
  rw [e, Option.bind_some, if_pos h0, if_pos h1]
  exact ⟨_, _, _, rfl, rd_in L v h0 h1, h2⟩
theorem from_l (l : List Int) (hl : l.length ≤ 4096) : ∀ (d i : Nat) (h : Int), i + d = l.length → ∃ h', ∀ k, d < k → spec_l01From.l0 k l i l 0 h = some (l, 0, h')
  | 0, i, h, e => ⟨h, fun k hk => by
    obtain ⟨k, rfl⟩ : ∃ q, k = q + 1 := ⟨k - 1, by omega⟩
    simp only [spec_l01From.l0]; rw [if_neg (by omega)]⟩
  | d+1, i, h, e => by
    have hw : wrap64 ((i : Int) + 1) = ((i + 1 : Nat) : Int) := by rw [w64 (by omega) (by omega)]; omega
    obtain ⟨h', g⟩ := from_l l hl d (i + 1) (IntKind.u64.wrap ((IntKind.u64.wrap ((IntKind.u64.wrap (h * 1099511628211)) + (IntKind.u64.wrap (rd l i)))) + 251)) (by omega)
    refine ⟨h', fun k hk => ?_⟩
    obtain ⟨k, rfl⟩ : ∃ q, k = q + 1 := ⟨k - 1, by omega⟩
    simp only [spec_l01From.l0]; rw [if_pos (by omega), if_pos (by omega), if_pos (by omega), hw]
    exact g k (by omega)
theorem from_ev {l : List Int} (hs : Src l) : ∃ h, Ev (fun k => spec_l01From.f k l) (l, 0, h) := by
  obtain ⟨h', g⟩ := from_l l hs.2 l.length 0 (IntKind.u64.wrap (14111 + (IntKind.u64.wrap ((l.length : Int))))) (by omega)
  exact ⟨h', l.length + 1, fun k hk => g k (by omega)⟩

theorem order_l {s : List Int} (hs : Src s) (n : Nat) (hn : n ≤ 12) : ∀ (d i : Nat) (out : List Int) (p h : Int), i + d = n → out.length = i → (∀ x ∈ out, 0 ≤ x ∧ x < (n : Int)) → 0 ≤ p → ∃ out' p' h', (∀ k, d < k → spec_l01DrawOrder.l0 k s n out i p h = some (out', p', h')) ∧ out'.length = n ∧ (∀ x ∈ out', 0 ≤ x ∧ x < (n : Int)) ∧ 0 ≤ p'
  | 0, i, out, p, h, e, hl, ho, hp => ⟨out, p, h, fun k hk => by
    obtain ⟨k, rfl⟩ : ∃ q, k = q + 1 := ⟨k - 1, by omega⟩
    simp only [spec_l01DrawOrder.l0]; rw [if_neg (by omega)], by omega, ho, hp⟩
  | d+1, i, out, p, h, e, hl, ho, hp => by
    have hw : wrap64 ((i : Int) + 1) = ((i + 1 : Nat) : Int) := by rw [w64 (by omega) (by omega)]; omega
    obtain ⟨v, p1, h1, g, hv0, hv1, hp1⟩ := next_ev hs p h ((i + 1 : Nat) : Int) hp (by omega)
    obtain ⟨out', p', h', g2, r1, r2, r3⟩ := order_l hs n hn d (i + 1) (out.take v.toNat ++ [(i : Int)] ++ out.drop v.toNat) p1 h1 (by omega) (by rw [List.length_append, List.length_append, List.length_take, List.length_drop, List.length_singleton]; omega) (fun x hx => by
      rw [List.mem_append, List.mem_append, List.mem_singleton] at hx
      rcases hx with (hx | hx) | hx
      · exact ho x (List.mem_of_mem_take hx)
      · omega
      · exact ho x (List.mem_of_mem_drop hx)) hp1
    refine ⟨out', p', h', fun k hk => ?_, r1, r2, r3⟩
    obtain ⟨k, rfl⟩ : ∃ q, k = q + 1 := ⟨k - 1, by omega⟩
    simp only [spec_l01DrawOrder.l0]
    rw [if_pos (by omega), hw, g, Option.bind_some, if_pos hv0, if_pos (by omega), if_pos (by omega)]
    exact g2 k (by omega)
theorem order_ev {s : List Int} (hs : Src s) (n : Nat) (hn : n ≤ 12) (p h : Int) (hp : 0 ≤ p) : ∃ out p' h', Ev (fun k => spec_l01DrawOrder.f k s p h n) (out, p', h') ∧ out.length = n ∧ (∀ x ∈ out, 0 ≤ x ∧ x < (n : Int)) ∧ 0 ≤ p' := by
  obtain ⟨out, p', h', g, r1, r2, r3⟩ := order_l hs n hn n 0 [] p h (by omega) rfl (fun x hx => by cases hx) hp
  exact ⟨out, p', h', ⟨n + 1, fun k hk => g k (by omega)⟩, r1, r2, r3⟩
theorem drawSet_l (s : List Int) (p h : Int) (n : Nat) (hn : n ≤ 12) (out : List Int) (ho : ∀ x ∈ out, 0 ≤ x ∧ x < (n : Int)) (hol : out.length ≤ 12) (m : Nat) (hm : m ≤ out.length) : ∀ (d i x : Nat), i + d = m → x < 2 ^ n → ∃ y, y < 2 ^ n ∧ x ≤ y ∧ (1 ≤ d → 1 ≤ y) ∧ ∀ k, d < k → spec_l08DrawSet.l0 k m x out i s p h = some ((y : Int), p, h)
  | 0, i, x, e, hx => ⟨x, hx, Nat.le_refl _, fun h => by omega, fun k hk => by
    obtain ⟨k, rfl⟩ : ∃ q, k = q + 1 := ⟨k - 1, by omega⟩
    simp only [spec_l08DrawSet.l0]; rw [if_neg (by omega)]⟩
  | d+1, i, x, e, hx => by
    have hpn := pow_le hn
    have hi : i < out.length := by omega
    have hw : wrap64 ((i : Int) + 1) = ((i + 1 : Nat) : Int) := by rw [w64 (by omega) (by omega)]; omega
    have hr := rd_nat out i hi
    have hb := ho out[i] (List.getElem_mem hi)
    obtain ⟨y, hy⟩ : ∃ y : Nat, out[i] = y := ⟨out[i].toNat, by omega⟩
    rw [hy] at hr hb
    have hyp : 2 ^ y < 2 ^ n := Nat.pow_lt_pow_right (by omega) (by omega)
    have hor : x ||| 2 ^ y < 2 ^ n := Nat.or_lt_two_pow hx hyp
    have h1 : 1 ≤ x ||| 2 ^ y := Nat.le_trans Nat.one_le_two_pow Nat.right_le_or
    obtain ⟨z, a1, a2, a3, a4⟩ := drawSet_l s p h n hn out ho hol m hm d (i + 1) (x ||| 2 ^ y) (by omega) hor
    refine ⟨z, a1, Nat.le_trans Nat.left_le_or a2, fun _ => by omega, fun k hk => ?_⟩
    obtain ⟨k, rfl⟩ : ∃ q, k = q + 1 := ⟨k - 1, by omega⟩
    simp only [spec_l08DrawSet.l0]
    rw [if_pos (by omega), if_pos (by omega), if_pos (by omega), hr, u64 (by omega) (by omega), if_pos (by omega), shl_one y (by omega), bor x (2 ^ y) (by omega) (by omega), hw]
    exact a4 k (by omega)
theorem drawSet_ev {s : List Int} (hs : Src s) (n m : Nat) (hn : n ≤ 12) (hm : m ≤ n) (h1 : 1 ≤ m) (p h : Int) (hp : 0 ≤ p) : ∃ (y : Nat) (p' h' : Int), Ev (fun k => spec_l08DrawSet.f k s p h n m) ((y : Int), p', h') ∧ y < 2 ^ n ∧ 1 ≤ y ∧ 0 ≤ p' := by
  obtain ⟨out, p', h', g, r1, r2, r3⟩ := order_ev hs n hn p h hp
  obtain ⟨y, a1, _, a3, a4⟩ := drawSet_l s p' h' n hn out r2 (by omega) m (by omega) m 0 0 (by omega) (Nat.two_pow_pos n)
  exact ⟨y, p', h', Ev.bind g ⟨m + 1, fun k hk => a4 k (by omega)⟩, a1, a3 h1, r3⟩

theorem drawOf_ev {s : List Int} (hs : Src s) (most p h : Int) (h1 : 1 ≤ most) (h2 : most ≤ 12) (hp : 0 ≤ p) : ∃ (n pk q e : Nat) (p' h' : Int), spec_l08DrawOf.f s p h most = some ((n : Int), (pk : Int), (q : Int), (e : Int), p', h') ∧ 0 ≤ p' ∧ 1 ≤ n ∧ (n : Int) ≤ most ∧ 1 ≤ pk ∧ pk ≤ n ∧ 1 ≤ q ∧ q ≤ n ∧ 1 ≤ e ∧ e ≤ pk ∧ e ≤ q := by
  obtain ⟨v1, p1, s1, g1, a1, b1, c1⟩ := next_ev hs p h most hp h1
  have w1 : wrap64 (1 + v1) = 1 + v1 := w64 (by omega) (by omega)
  obtain ⟨v2, p2, s2, g2, a2, b2, c2⟩ := next_ev hs p1 s1 (1 + v1) c1 (by omega)
  have w2 : wrap64 (1 + v2) = 1 + v2 := w64 (by omega) (by omega)
  obtain ⟨v3, p3, s3, g3, a3, b3, c3⟩ := next_ev hs p2 s2 (1 + v1) c2 (by omega)
  have w3 : wrap64 (1 + v3) = 1 + v3 := w64 (by omega) (by omega)
  have hmn : 1 ≤ mn (1 + v2) (1 + v3) ∧ mn (1 + v2) (1 + v3) ≤ 1 + v2 ∧ mn (1 + v2) (1 + v3) ≤ 1 + v3 := by unfold mn; split <;> omega
  obtain ⟨v4, p4, s4, g4, a4, b4, c4⟩ := next_ev hs p3 s3 (mn (1 + v2) (1 + v3)) c3 hmn.1
  have w4 : wrap64 (1 + v4) = 1 + v4 := w64 (by omega) (by omega)
  refine ⟨(1 + v1).toNat, (1 + v2).toNat, (1 + v3).toNat, (1 + v4).toNat, p4, s4, ?_, c4, by omega, by omega, by omega, by omega, by omega, by omega, by omega, by omega, by omega⟩
  unfold spec_l08DrawOf.f
  rw [g1, Option.bind_some, w1, g2, Option.bind_some, g3, Option.bind_some, w2, w3, g4, Option.bind_some, w4]
  rw [Int.toNat_of_nonneg (by omega), Int.toNat_of_nonneg (by omega), Int.toNat_of_nonneg (by omega), Int.toNat_of_nonneg (by omega)]
theorem bad_ev {s : List Int} (hs : Src s) (p h : Int) (hp : 0 ≤ p) (a b c d : Int) : ∃ x y z u p' h', spec_l08Bad.f s p h a b c d = some (x, y, z, u, p', h') ∧ 0 ≤ p' := by
  obtain ⟨v, p1, s1, g, _, _, c1⟩ := next_ev hs p h 40 hp (by omega)
  unfold spec_l08Bad.f
  rw [g, Option.bind_some]
  by_cases h0 : v = 0
  · obtain ⟨v2, p2, s2, g2, _, c2⟩ := pick_ev hs p1 s1 [0, 13, (-1)] c1 (by decide)
    rw [if_pos h0, g2]; exact ⟨_, _, _, _, _, _, rfl, c2⟩
  rw [if_neg h0]
  by_cases h1 : v = 1
  · obtain ⟨v2, p2, s2, g2, _, c2⟩ := pick_ev hs p1 s1 [0, 13, wrap64 (a + 1)] c1 (by simp)
    rw [if_pos h1, g2]; exact ⟨_, _, _, _, _, _, rfl, c2⟩
  rw [if_neg h1]
  obtain ⟨v2, p2, s2, g2, _, c2⟩ := pick_ev hs p1 s1 [0, 13] c1 (by decide)
  by_cases h2 : v = 2
  · rw [if_pos h2, g2]; exact ⟨_, _, _, _, _, _, rfl, c2⟩
  rw [if_neg h2]
  by_cases h3 : v = 3
  · rw [if_pos h3, g2]; exact ⟨_, _, _, _, _, _, rfl, c2⟩
  rw [if_neg h3]
  exact ⟨_, _, _, _, _, _, rfl, c1⟩
theorem draw_ev {l : List Int} (hs : Src l) : ∃ a b c d, Ev (fun k => spec_l08Draw.f k l) (a, b, c, d) := by
  obtain ⟨h, hf⟩ := from_ev hs
  obtain ⟨v, p1, s1, g1, hv, c1⟩ := pick_ev hs 0 h [5, 8, 12] (by omega) (by decide)
  have hv2 : 1 ≤ v ∧ v ≤ 12 := by simp only [List.mem_cons, List.not_mem_nil, or_false] at hv; omega
  obtain ⟨n, pk, q, e, p2, s2, g2, c2, _⟩ := drawOf_ev hs v p1 s1 hv2.1 hv2.2 c1
  obtain ⟨x, y, z, u, p3, s3, g3, _⟩ := bad_ev hs p2 s2 c2 n pk q e
  refine ⟨x, y, z, u, Ev.bind hf ⟨0, fun k _ => ?_⟩⟩
  show (spec_l01Pick.f l 0 h [5, 8, 12]).bind _ = _
  rw [g1, Option.bind_some]
  show (spec_l08DrawOf.f l p1 s1 v).bind _ = _
  rw [g2, Option.bind_some]
  show (spec_l08Bad.f l p2 s2 n pk q e).bind _ = _
  rw [g3, Option.bind_some]

theorem put_any (L : List Int) (hl : L.length ≤ 1000000) (x : Int) : ∀ a : Nat, a ≤ L.length → ∃ R : List Int, R.length ≤ L.length + 1 ∧ ∀ k, a < k → spec_l01Put.l0 k L x (a : Int) = some R := by
  have fin : ∀ a : Nat, a ≤ L.length → (spec_l01Own.f (L.take (a : Int).toNat)).bind (fun t473 => (if t473.length < 17592186044416 then ((some (t473 ++ [x] : List Int)).bind fun y476 => ((some (L.drop (a : Int).toNat : List Int)).bind fun y479 => (if y476.length + y479.length < 17592186044416 then (some (y476 ++ y479)) else (none)))) else (none))) = some (L.take a ++ [x] ++ L.drop a) := by
    intro a ha
    have h1 : (L.take a).length = a := by rw [List.length_take]; omega
    have h2 : (L.drop a).length = L.length - a := List.length_drop
    unfold spec_l01Own.f
    rw [Int.toNat_natCast, Option.bind_some, if_pos (by rw [List.length_nil, h1]; omega), Option.bind_some, List.nil_append, if_pos (by omega), Option.bind_some, Option.bind_some, if_pos (by rw [List.length_append, h1, h2, List.length_singleton]; omega)]
  have hlen : ∀ a : Nat, a ≤ L.length → (L.take a ++ [x] ++ L.drop a).length ≤ L.length + 1 := fun a ha => by
    rw [List.length_append, List.length_append, List.length_take, List.length_drop, List.length_singleton]; omega
  intro a
  induction a with
  | zero =>
    intro ha
    refine ⟨_, hlen 0 ha, fun k hk => ?_⟩
    obtain ⟨k, rfl⟩ : ∃ q, k = q + 1 := ⟨k - 1, by omega⟩
    simp only [spec_l01Put.l0]
    rw [if_neg (by omega), if_pos (by omega), if_pos (by omega)]
    exact fin 0 ha
  | succ a ih =>
    intro ha
    have hw : wrap64 (((a + 1 : Nat) : Int) - 1) = (a : Int) := by rw [w64 (by omega) (by omega)]; omega
    by_cases h1 : rd L (a : Int) > x
    · obtain ⟨R, r1, r2⟩ := ih (by omega)
      refine ⟨R, r1, fun k hk => ?_⟩
      obtain ⟨k, rfl⟩ : ∃ q, k = q + 1 := ⟨k - 1, by omega⟩
      simp only [spec_l01Put.l0]
      rw [if_pos (by omega), hw, if_pos (by omega), if_pos (by omega), if_pos h1]
      exact r2 k (by omega)
    by_cases h2 : rd L (a : Int) = x
    · refine ⟨L, by omega, fun k hk => ?_⟩
      obtain ⟨k, rfl⟩ : ∃ q, k = q + 1 := ⟨k - 1, by omega⟩
      simp only [spec_l01Put.l0]
      rw [if_pos (by omega), hw, if_pos (by omega), if_pos (by omega), if_neg h1, if_pos h2]
    · refine ⟨_, hlen (a + 1) ha, fun k hk => ?_⟩
      obtain ⟨k, rfl⟩ : ∃ q, k = q + 1 := ⟨k - 1, by omega⟩
      simp only [spec_l01Put.l0]
      rw [if_pos (by omega), hw, if_pos (by omega), if_pos (by omega), if_neg h1, if_neg h2, if_pos (by omega), if_pos (by omega)]
      exact fin (a + 1) ha
theorem putany_ev (L : List Int) (hl : L.length ≤ 1000000) (x : Int) : ∃ R : List Int, R.length ≤ L.length + 1 ∧ Ev (fun k => spec_l01Put.f k L x) R := by
  obtain ⟨R, r1, r2⟩ := put_any L hl x L.length (Nat.le_refl _)
  exact ⟨R, r1, L.length + 1, fun k hk => r2 k (by omega)⟩

theorem with_j {s : List Int} (hs : Src s) (n pk q e : Nat) (hn : n ≤ 12) (hq : q ≤ n) (hq1 : 1 ≤ q) (L : List Int) (hL : L.length ≤ 300) (p h : Int) (hp : 0 ≤ p) : ∃ (a b c d : Int) (L' : List Int) (dw : Int), L'.length ≤ 301 ∧ Ev (fun k => spec_l08With.j1 k L s p h n pk q e) (a, b, c, d, L', dw) := by
  obtain ⟨y, p1, s1, g1, _, _, c1⟩ := drawSet_ev hs n q hn hq hq1 p h hp
  obtain ⟨v, p2, s2, g2, _, _, c2⟩ := next_ev hs p1 s1 24 c1 (by omega)
  obtain ⟨u, p3, s3, g3, _, c3⟩ := pick_ev hs p2 s2 [0, (-1), 4096] c2 (by decide)
  by_cases h0 : v = 0
  · obtain ⟨x0, x1, x2, x3, p4, s4, g4, _⟩ := bad_ev hs p3 s3 c3 n pk q e
    refine ⟨x0, x1, x2, x3, L ++ [u], y, by rw [List.length_append, List.length_singleton]; omega, Ev.step (fun k => rfl) (Ev.bind g1 ⟨0, fun k _ => ?_⟩)⟩
    dsimp only
    rw [g2, Option.bind_some, if_pos h0, g3, Option.bind_some, if_pos (by omega), g4, Option.bind_some]
  by_cases h1 : v = 1
  · obtain ⟨x0, x1, x2, x3, p4, s4, g4, _⟩ := bad_ev hs p3 s3 c3 n pk q e
    refine ⟨x0, x1, x2, x3, L, u, by omega, Ev.step (fun k => rfl) (Ev.bind g1 ⟨0, fun k _ => ?_⟩)⟩
    dsimp only
    rw [g2, Option.bind_some, if_neg h0, if_pos h1, g3, Option.bind_some, g4, Option.bind_some]
  · obtain ⟨x0, x1, x2, x3, p4, s4, g4, _⟩ := bad_ev hs p2 s2 c2 n pk q e
    refine ⟨x0, x1, x2, x3, L, y, by omega, Ev.step (fun k => rfl) (Ev.bind g1 ⟨0, fun k _ => ?_⟩)⟩
    dsimp only
    rw [g2, Option.bind_some, if_neg h0, if_neg h1, g4, Option.bind_some]
theorem with_l {s : List Int} (hs : Src s) (n pk q e : Nat) (hn : n ≤ 12) (hpk : pk ≤ n) (hp1 : 1 ≤ pk) (hq : q ≤ n) (hq1 : 1 ≤ q) : ∀ (m : Nat) (L : List Int), m + L.length ≤ 100 → ∀ (p h : Int), 0 ≤ p → ∃ (a b c d : Int) (L' : List Int) (dw : Int), L'.length ≤ 301 ∧ Ev (fun k => spec_l08With.l0 k L m s p h n pk q e) (a, b, c, d, L', dw)
  | 0, L, hL, p, h, hp => by
    obtain ⟨v, p1, s1, g1, _, _, c1⟩ := next_ev hs p h 4 hp (by omega)
    by_cases h0 : v = 0
    · obtain ⟨r, r1, r2⟩ := greedyS_ev n pk q e
      obtain ⟨a, b, c, d, L', dw, h1, h2⟩ := with_j hs n pk q e hn hq hq1 r.1 (by omega) p1 s1 c1
      refine ⟨a, b, c, d, L', dw, h1, Ev.step (f := fun k => (spec_GreedyTickets.f k n pk q e).bind fun t => spec_l08With.j1 k t.1 s p1 s1 n pk q e) (fun k => ?_) (Ev.bind r2 h2)⟩
      simp only [spec_l08With.l0]
      rw [if_neg (by omega), g1, Option.bind_some, if_pos h0]
    · obtain ⟨a, b, c, d, L', dw, h1, h2⟩ := with_j hs n pk q e hn hq hq1 L (by omega) p1 s1 c1
      refine ⟨a, b, c, d, L', dw, h1, Ev.step (fun k => ?_) h2⟩
      simp only [spec_l08With.l0]
      rw [if_neg (by omega), g1, Option.bind_some, if_neg h0]
  | m + 1, L, hL, p, h, hp => by
    have hw : wrap64 (((m + 1 : Nat) : Int) - 1) = (m : Int) := by rw [w64 (by omega) (by omega)]; omega
    obtain ⟨y, p1, s1, g1, _, _, c1⟩ := drawSet_ev hs n pk hn hpk hp1 p h hp
    obtain ⟨R, r1, r2⟩ := putany_ev L (by omega) y
    obtain ⟨a, b, c, d, L', dw, h1, h2⟩ := with_l hs n pk q e hn hpk hp1 hq hq1 m R (by omega) p1 s1 c1
    refine ⟨a, b, c, d, L', dw, h1, Ev.step (f := fun k => (spec_l08DrawSet.f k s p h n pk).bind fun t => (spec_l01Put.f k L t.1).bind fun u => spec_l08With.l0 k u m s t.2.1 t.2.2 n pk q e) (fun k => ?_) (Ev.bind g1 (Ev.bind r2 h2))⟩
    simp only [spec_l08With.l0]
    rw [if_pos (by omega), hw]

theorem with_ev {l : List Int} (hs : Src l) : ∃ (a b c d : Int) (L' : List Int) (dw : Int), L'.length ≤ 301 ∧ Ev (fun k => spec_l08With.f k l) (a, b, c, d, L', dw) := by
  obtain ⟨h, hf⟩ := from_ev hs
  obtain ⟨v, p1, s1, g1, hv, c1⟩ := pick_ev hs 0 h [5, 7, 8] (by omega) (by decide)
  have hv2 : 1 ≤ v ∧ v ≤ 12 := by simp only [List.mem_cons, List.not_mem_nil, or_false] at hv; omega
  obtain ⟨n, pk, q, e, p2, s2, g2, c2, b1, b2, b3, b4, b5, b6, _⟩ := drawOf_ev hs v p1 s1 hv2.1 hv2.2 c1
  obtain ⟨w, p3, s3, g3, w0, w1, c3⟩ := next_ev hs p2 s2 6 c2 (by omega)
  obtain ⟨m, rfl⟩ : ∃ m : Nat, w = m := ⟨w.toNat, by omega⟩
  obtain ⟨a, b, c, d, L', dw, h1, K, h2⟩ := with_l hs n pk q e (by omega) b4 b3 b6 b5 m [] (by rw [List.length_nil]; omega) p3 s3 c3
  refine ⟨a, b, c, d, L', dw, h1, Ev.bind hf ⟨K, fun k hk => ?_⟩⟩
  dsimp only
  rw [g1, Option.bind_some]
  dsimp only
  rw [g2, Option.bind_some]
  dsimp only
  rw [g3, Option.bind_some]
  exact h2 k hk

theorem drawG_ev {l : List Int} (hs : Src l) : ∃ (a b c d : Int) (L : List Int) (dw : Int), L.length ≤ 301 ∧ Ev (fun k => spec_DrawGuarantees.f k l) (a, b, c, d, L) ∧ Ev (fun k => spec_DrawPrizesOf.f k l) (a, b, c, d, L, dw) := by
  obtain ⟨a, b, c, d, L, dw, hL, K, hK⟩ := with_ev hs
  refine ⟨a, b, c, d, L, dw, hL, ⟨K, fun k hk => ?_⟩, ⟨K, fun k hk => ?_⟩⟩
  · show spec_DrawGuarantees.f k l = _
    unfold spec_DrawGuarantees.f
    have e : spec_l08With.f k l = _ := hK k hk
    rw [e, Option.bind_some]
  · show spec_DrawPrizesOf.f k l = _
    unfold spec_DrawPrizesOf.f
    have e : spec_l08With.f k l = _ := hK k hk
    rw [e, Option.bind_some]
theorem drawGr_ev {l : List Int} (hs : Src l) : ∃ a b c d : Int, Ev (fun k => spec_DrawGreedyTickets.f k l) (a, b, c, d) := by
  obtain ⟨h0, K, g0⟩ := from_ev hs
  obtain ⟨n, pk, q, e, p1, h1, g1, gp, _⟩ := drawOf_ev hs 8 0 h0 (by omega) (by omega) (by omega)
  obtain ⟨x, y, z, u, p2, h2, g2, _⟩ := bad_ev hs p1 h1 gp n pk q e
  refine ⟨x, y, z, u, K, fun k hk => ?_⟩
  show spec_DrawGreedyTickets.f k l = _
  unfold spec_DrawGreedyTickets.f
  have e0 : spec_l01From.f k l = _ := g0 k hk
  rw [e0, Option.bind_some, g1, Option.bind_some, g2, Option.bind_some]
theorem drawL_ev {l : List Int} (hs : Src l) : ∃ a b c d : Int, Ev (fun k => spec_DrawLeastTickets.f k l) (a, b, c, d) := by
  obtain ⟨h0, K, g0⟩ := from_ev hs
  obtain ⟨v, p1, h1, g1, _, _, gp⟩ := next_ev hs 0 h0 6 (by omega) (by omega)
  by_cases hv : v = 0
  · obtain ⟨a, b, c, d, K2, g2⟩ := draw_ev hs
    refine ⟨a, b, c, d, K + K2, fun k hk => ?_⟩
    show spec_DrawLeastTickets.f k l = _
    unfold spec_DrawLeastTickets.f
    have e0 : spec_l01From.f k l = _ := g0 k (by omega)
    have e2 : spec_l08Draw.f k l = _ := g2 k (by omega)
    rw [e0, Option.bind_some, g1, Option.bind_some, if_pos hv, e2, Option.bind_some]
  · obtain ⟨mo, p2, h2, g2, gm, gp2⟩ := pick_ev hs p1 h1 [4, 5, 6, 7] gp (by simp)
    have hmo : 1 ≤ mo ∧ mo ≤ 12 := by
      simp only [List.mem_cons, List.not_mem_nil, or_false] at gm
      rcases gm with rfl | rfl | rfl | rfl <;> decide
    obtain ⟨n, pk, q, e, p3, h3, g3, gp3, _⟩ := drawOf_ev hs mo p2 h2 hmo.1 hmo.2 gp2
    obtain ⟨x, y, z, u, p4, h4, g4, _⟩ := bad_ev hs p3 h3 gp3 n pk q e
    refine ⟨x, y, z, u, K, fun k hk => ?_⟩
    show spec_DrawLeastTickets.f k l = _
    unfold spec_DrawLeastTickets.f
    have e0 : spec_l01From.f k l = _ := g0 k (by omega)
    rw [e0, Option.bind_some, g1, Option.bind_some, if_neg hv, g2, Option.bind_some, g3, Option.bind_some, g4, Option.bind_some]

theorem like_l (L : List Int) (hl : L.length ≤ 1048576) : ∀ d i : Nat, i + d = L.length → ∀ k, d < k → laws_likeInts.l0 k L L i = some true
  | 0, i, e, k, hk => by
    obtain ⟨k, rfl⟩ : ∃ q, k = q + 1 := ⟨k - 1, by omega⟩
    simp only [laws_likeInts.l0]; rw [if_neg (by omega)]
  | d+1, i, e, k, hk => by
    obtain ⟨k, rfl⟩ : ∃ q, k = q + 1 := ⟨k - 1, by omega⟩
    have hw : wrap64 ((i : Int) + 1) = ((i + 1 : Nat) : Int) := by rw [w64 (by omega) (by omega)]; omega
    simp only [laws_likeInts.l0]; rw [if_pos (by omega), if_pos (by omega), if_pos (by omega), if_pos trivial, hw]
    exact like_l L hl d (i + 1) (by omega) k (by omega)
theorem like_ev (L : List Int) (hl : L.length ≤ 1048576) (k : Nat) (hk : L.length < k) : laws_likeInts.f k L L = some true := by
  unfold laws_likeInts.f
  rw [if_pos rfl]
  exact like_l L hl L.length 0 (by omega) k (by omega)
theorem src_of {l : List Int} (hw : ∀ x ∈ l, (Lit.int .u8 x).wf = true) (hl : l.length ≤ 4096) : ∀ x ∈ l, 0 ≤ x ∧ x < 256 := by
  intro x hx
  have h := hw x hx
  have e : (Lit.int .u8 x).wf = (decide ((0 : Int) ≤ x) && decide (x ≤ 255)) := rfl
  rw [e, Bool.and_eq_true] at h
  have h1 := of_decide_eq_true h.1
  have h2 := of_decide_eq_true h.2
  omega

theorem FnGuarantees (l : List Int) (_ : l.length ≤ maxLen) (hw : ∀ x ∈ l, (Lit.int .u8 x).wf = true) : ∃ k, TGood k l := by
  by_cases hbig : l.length ≤ 4096
  rotate_left
  · exact ⟨0, .inl (by unfold laws_big.f; rw [decide_eq_true (by omega)])⟩
  have hs : Src l := ⟨src_of hw hbig, hbig⟩
  obtain ⟨b0, b1, b2, b3, T, dr, hT, ⟨K1, g1⟩, ⟨K2, g2⟩⟩ := drawG_ev hs
  obtain ⟨gd, e1, fm, e2, ct, t0, ⟨K3, f1⟩, ⟨K4, f2⟩, ⟨K5, f3⟩, ⟨K6, f4⟩, ⟨K7, f5⟩, ⟨K8, f6⟩, f7, f8⟩ := four_both b0 b1 b2 b3 T (by omega)
  obtain ⟨ND, e4, hND, hsub, t1, ⟨K9, n1⟩, ⟨K10, n2⟩⟩ := needed_ev b0 b1 b2 b3 T (by omega)
  obtain rfl : e4 = e1 := ev_uniq t1 t0
  obtain ⟨PZ, e5, hPZ, hz, p1, p2⟩ := prizes_ev b0 b1 b2 b3 T (by omega) dr
  obtain ⟨y0, y1, y2, y3, K11, g3⟩ := drawL_ev hs
  obtain ⟨LT, e6, hLT, ⟨K12, l1⟩, ⟨K13, l2⟩, l3⟩ := least_guar y0 y1 y2 y3
  obtain ⟨z0, z1, z2, z3, K14, g4⟩ := drawGr_ev hs
  obtain ⟨GT, e7, hGT, ⟨K15, r1⟩, ⟨K16, r2⟩, r3⟩ := greedy_guar z0 z1 z2 z3
  obtain ⟨K17, r4⟩ : ∃ K, ∀ k, K ≤ k → e7 = 0 → impl_Guarantees.f k z0 z1 z2 z3 GT = some (true, 0) := by
    by_cases h : e7 = 0
    · obtain ⟨K, hK⟩ := r3 h
      exact ⟨K, fun k hk _ => hK k hk⟩
    · exact ⟨0, fun k _ h1 => absurd h1 h⟩
  obtain ⟨bd, MR, K18, l4⟩ : ∃ (bd : Int) (MR : List Int) (K : Nat), ∀ k, K ≤ k → e6 = 0 → impl_Guarantees.f k y0 y1 y2 y3 LT = some (true, 0) ∧ impl_TicketBound.f k y0 y1 y2 y3 = some (bd, 0) ∧ bd ≤ (LT.length : Int) ∧ impl_GreedyTickets.f k y0 y1 y2 y3 = some (MR, 0) ∧ LT.length ≤ MR.length := by
    by_cases h : e6 = 0
    · obtain ⟨bd, MR, ⟨Ka, ha⟩, ⟨Kb, hb⟩, hc, ⟨Kd, hd⟩, he⟩ := l3 h
      exact ⟨bd, MR, Ka + Kb + Kd, fun k hk _ => ⟨ha k (by omega), hb k (by omega), hc, hd k (by omega), he⟩⟩
    · exact ⟨0, [], 0, fun k _ h1 => absurd h1 h⟩
  obtain ⟨k, hk⟩ : ∃ k : Nat, 5000 + K1 + K2 + K3 + K4 + K5 + K6 + K7 + K8 + K9 + K10 + K11 + K12 + K13 + K14 + K15 + K16 + K17 + K18 ≤ k := ⟨_, Nat.le_refl _⟩
  refine ⟨k, .inr ⟨T, ND, T, PZ, LT, GT, MR, b0, b1, b2, b3, e4, fm, e2, ct, e4, e4, b0, b1, b2, b3, dr, e5, y0, y1, y2, y3, e6, z0, z1, z2, z3, e7, bd, gd, by unfold laws_big.f; rw [decide_eq_false (by omega)], g1 k (by omega), f1 k (by omega), f2 k (by omega), f3 k (by omega), f4 k (by omega), f5 k (by omega), f6 k (by omega), n2 k (by omega), n1 k (by omega), like_ev ND (by omega) k (by omega), g2 k (by omega), p2 k (by omega), p1 k (by omega), like_ev PZ (by omega) k (by omega), g3 k (by omega), l1 k (by omega), l2 k (by omega), like_ev LT (by omega) k (by omega), g4 k (by omega), r1 k (by omega), r2 k (by omega), like_ev GT (by omega) k (by omega), r4 k (by omega), l4 k (by omega), fun h5 => ?_, fun h1 => ⟨f7 h1, rfl, rfl⟩, fun h1 => ⟨hND, fun x hx => ?_, h1, f8 h1⟩⟩⟩
  · obtain ⟨s1, s2⟩ := hz h5
    have := sum_l PZ s2 (by omega) PZ.length 0 (by omega) 0 (by omega) (by omega) k (by omega)
    rw [List.drop_zero, Int.zero_add, s1] at this
    exact this
  · exact has_l T x (by omega) T.length 0 (by omega) (by rw [List.drop_zero]; exact hsub x hx) k (by omega)

end Go.Proofs.Ytchlbkcladfloaa.Pure
