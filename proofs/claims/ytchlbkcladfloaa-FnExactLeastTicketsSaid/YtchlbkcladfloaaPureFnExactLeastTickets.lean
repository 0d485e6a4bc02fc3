/- The fewest tickets are told alike, and each call's list is new. For every four numbers of 64 bits. -/
import Derived.Test.YtchlbkcladfloaaPFnExactLeastTicketsx0
import Derived.Test.YtchlbkcladfloaaPFnExactLeastTicketsx1
import Derived.Test.YtchlbkcladfloaaPFnExactLeastTicketsx2
import Derived.Test.YtchlbkcladfloaaPFnExactLeastTicketsx3
import Derived.Test.YtchlbkcladfloaaPFnExactLeastTicketsx4
import Derived.Test.YtchlbkcladfloaaPFnExactLeastTicketsx5
import Derived.Test.YtchlbkcladfloaaLotMath
import Derived.Test.YtchlbkcladfloaaLotHit
import Derived.Test.YtchlbkcladfloaaLotRank
import Derived.KernelRfl
namespace Go.Proofs.Ytchlbkcladfloaa.Pure
open Go Go.RowKit Go.Proofs.Ytchlbkcladfloaa.PFnExactLeastTickets Go.Proofs.YtchlbkcladfloaaW.PrintWords Go.Proofs.YtchlbkcladfloaaW.PrintLast Go.Proofs.YtchlbkcladfloaaW.PrintMore Go.Proofs.Ytchlbkcladfloaa.LotM Go.Proofs.Ytchlbkcladfloaa.DG
set_option linter.unusedVariables false
set_option linter.unusedSimpArgs false
theorem shl_one : ∀ n, n < 13 → shl .i64 1 ((n : Nat) : Int) = ((2 ^ n : Nat) : Int) := by decide +kernel
theorem pow_le {n : Nat} (h : n ≤ 12) : 2 ^ n ≤ 4096 := Nat.pow_le_pow_right (n := 2) (by omega) h
theorem w64 {i : Int} (h0 : -9223372036854775808 ≤ i) (h : i < 9223372036854775808) : wrap64 i = i := by unfold wrap64; omega
theorem u64 {i : Int} (h0 : 0 ≤ i) (h : i < 9223372036854775808) : IntKind.u64.wrap i = i := by
  have e : IntKind.u64.wrap i = i % 18446744073709551616 := by simp [IntKind.wrap, IntKind.bits, IntKind.signed]
  rw [e]; omega
def allN (p : Nat → Bool) : Nat → Bool
  | 0 => true
  | n+1 => p n && allN p n
theorem allN_at (p : Nat → Bool) : ∀ n, allN p n = true → ∀ s, s < n → p s = true
  | 0, _, s, h => by omega
  | n+1, h, s, hs => by
    simp only [allN, Bool.and_eq_true] at h
    by_cases e : s = n
    · subst e; exact h.1
    · exact allN_at p n h.2 s (by omega)

def okSS (s : Nat) : Bool := match spec_l08Size.f 14 (s : Int) with
  | some r => r == (pcF 12 s : Int)
  | none => false
theorem okSS_all : allN okSS 4096 = true := by kernel_rfl
theorem ssize_nat (s : Nat) (h : s < 4096) : ∀ k, 14 ≤ k → spec_l08Size.f k (s : Int) = some (pc s : Int) := by
  intro k hk
  have := allN_at okSS 4096 okSS_all s h
  unfold okSS at this
  split at this
  · rename_i r hr
    rw [beq_iff_eq.mp this] at hr
    exact at_rounds (g := fun k => spec_l08Size.f k (s : Int)) (fun k => spec_l08Size.mono _ k) hk hr
  · cases this

theorem specSets_l (n p q h m : Nat) (hn1 : 1 ≤ n) (hn : n ≤ 12) : ∀ d i (acc : List Int), i + d = 2 ^ n → acc.length ≤ i → ∀ k, d + 20 ≤ k → spec_l08Sets.l0 k m acc i n p q h = some (acc ++ ((List.range' i d).filter (fun s => pc s == m)).map Int.ofNat)
  | 0, i, acc, e, ha, k, hk => by
    obtain ⟨k, rfl⟩ : ∃ q, k = q + 1 := ⟨k - 1, by omega⟩
    have hp := pow_le hn
    simp only [spec_l08Sets.l0]
    rw [u64 (by omega) (by omega), if_pos (by omega), shl_one n (by omega), if_neg (by omega)]; simp
  | d+1, i, acc, e, ha, k, hk => by
    obtain ⟨k, rfl⟩ : ∃ q, k = q + 1 := ⟨k - 1, by omega⟩
    have hp := pow_le hn
    simp only [spec_l08Sets.l0]
    rw [u64 (by omega) (by omega), if_pos (by omega), shl_one n (by omega), if_pos (by omega), ssize_nat i (by omega) k (by omega), Option.bind_some]
    rw [w64 (by omega) (by omega), show ((i : Int) + 1) = ((i + 1 : Nat) : Int) by omega]
    rw [List.range'_succ, List.filter_cons]
    by_cases e : pc i = m
    · rw [if_pos (by omega), if_pos (by omega)]
      rw [specSets_l n p q h m hn1 hn d (i+1) (acc ++ [(i : Int)]) (by omega) (by simp; omega) k (by omega)]
      simp [e]
    · rw [if_neg (by omega)]
      rw [specSets_l n p q h m hn1 hn d (i+1) acc (by omega) (by omega) k (by omega)]
      simp [e]
theorem specSets_ev (n p q h m : Nat) (hn1 : 1 ≤ n) (hn : n ≤ 12) : ∀ k, 5000 ≤ k → spec_l08Sets.f k n p q h m = some ((S n m).map Int.ofNat) := by
  intro k hk
  have hp := pow_le hn
  unfold spec_l08Sets.f
  rw [show (0 : Int) = ((0 : Nat) : Int) from rfl, specSets_l n p q h m hn1 hn (2^n) 0 [] (by omega) (by simp) k (by omega)]
  simp [S, List.range_eq_range']

def okS (s : Nat) : Bool := match impl_size.f (s : Int) with
  | some r => r == (pcF 12 s : Int)
  | none => false
theorem okS_all : allN okS 4096 = true := by kernel_rfl
theorem size_nat (s : Nat) (h : s < 4096) : impl_size.f (s : Int) = some (pc s : Int) := by
  have := allN_at okS 4096 okS_all s h
  unfold okS at this
  split at this
  · rename_i r hr; rw [hr, beq_iff_eq.mp this]; rfl
  · cases this

theorem sets_l (m : Nat) (N : Nat) (hN : N ≤ 4096) : ∀ d i (acc : List Int), i + d = N → acc.length ≤ i → ∀ k, d < k → impl_sets.l0 k m acc N i = some (acc ++ ((List.range' i d).filter (fun s => pc s == m)).map Int.ofNat)
  | 0, i, acc, h, ha, k, hk => by
    obtain ⟨k, rfl⟩ : ∃ q, k = q + 1 := ⟨k - 1, by omega⟩
    simp only [impl_sets.l0]; rw [if_neg (by omega)]; simp
  | d+1, i, acc, h, ha, k, hk => by
    obtain ⟨k, rfl⟩ : ∃ q, k = q + 1 := ⟨k - 1, by omega⟩
    simp only [impl_sets.l0]
    rw [if_pos (by omega), size_nat i (by omega)]
    simp only [Option.bind_some]
    rw [w64 (by omega) (by omega), show ((i : Int) + 1) = ((i + 1 : Nat) : Int) by omega]
    rw [List.range'_succ, List.filter_cons]
    by_cases e : pc i = m
    · rw [if_pos (by omega), if_pos (by omega)]
      rw [sets_l m N hN d (i+1) (acc ++ [(i : Int)]) (by omega) (by simp; omega) k (by omega)]
      simp [e]
    · rw [if_neg (by omega)]
      rw [sets_l m N hN d (i+1) acc (by omega) (by omega) k (by omega)]
      simp [e]
theorem sets_ev (n m : Nat) (hn : n ≤ 12) : ∀ k, 4096 < k → impl_sets.f k n m = some ((S n m).map Int.ofNat) := by
  intro k hk
  have hp := pow_le hn
  unfold impl_sets.f
  rw [if_pos (by omega), shl_one n (by omega)]
  rw [show (0 : Int) = ((0 : Nat) : Int) from rfl, sets_l m (2^n) hp (2^n) 0 [] (by omega) (by simp) k (by omega)]
  simp [S, List.range_eq_range']

theorem S_lt {n m x : Nat} (hn : n ≤ 12) (h : x ∈ S n m) : x < 4096 := Nat.lt_of_lt_of_le (mem_S.1 h).1 (pow_le hn)
theorem S_len (n m : Nat) (hn : n ≤ 12) : (S n m).length ≤ 4096 := by
  have h : (S n m).length ≤ (List.range (2^n)).length := List.length_filter_le _ _
  rw [List.length_range] at h
  exact Nat.le_trans h (pow_le hn)

theorem w_i64 : ∀ n : Int, 0 ≤ n → n < 2 ^ 63 → IntKind.i64.wrap n = n := fun n h0 h1 => by rw [IntKind.wrap_i64]; omega
theorem band (a b : Nat) (ha : a < 4611686018427387904) (hb : b < 4611686018427387904) : Go.bits .and .i64 (a : Int) (b : Int) = ((a &&& b : Nat) : Int) :=
  (bits_nat .i64 63 (by decide) w_i64 a b (by omega) (by omega)).1
theorem bor (a b : Nat) (ha : a < 4611686018427387904) (hb : b < 4611686018427387904) : Go.bits .or .i64 (a : Int) (b : Int) = ((a ||| b : Nat) : Int) :=
  (bits_nat .i64 63 (by decide) w_i64 a b (by omega) (by omega)).2
theorem shr_nat (a i : Nat) (hi : i ≤ 64) : shr .i64 (a : Int) (i : Int) = ((a / 2 ^ i : Nat) : Int) := by
  unfold shr
  have e : min ((i : Int).toNat) IntKind.i64.bits = i := by
    have : IntKind.i64.bits = 64 := rfl
    rw [this, Int.toNat_natCast]; omega
  rw [e]; simp
theorem bit_nat (a i : Nat) (ha : a < 4611686018427387904) (hi : i ≤ 64) : Go.bits .and .i64 (shr .i64 (a : Int) (i : Int)) 1 = ((a / 2 ^ i % 2 : Nat) : Int) := by
  rw [shr_nat a i hi, show (1 : Int) = ((1 : Nat) : Int) from rfl, band _ _ (Nat.lt_of_le_of_lt (Nat.div_le_self _ _) ha) (by omega), Nat.and_one_is_mod]

theorem rd_map (M : List Nat) (i : Nat) (h : i < M.length) : rd (M.map Int.ofNat) (i : Int) = (M[i] : Int) := by
  simp [rd, List.getElem?_eq_getElem h]

section
variable (n p q h : Nat) (M D : List Nat) (hM : ∀ t ∈ M, t < 4096) (hD : ∀ t ∈ D, t < 4096) (hl : M.length ≤ 200) (hl2 : D.length ≤ 4096)
include hM hD hl hl2
theorem missed_l1 (j : Nat) (hj : j < D.length) (acc : List Int) (ha : acc.length ≤ j) (r : List Int)
    (yes : Ev (fun k => spec_l08Missed.l0 k (M.map Int.ofNat) (D.map Int.ofNat) acc ((j + 1 : Nat) : Int) n p q h) r ∨ ¬ (M.any fun t => decide (h ≤ pc (t &&& D[j]))) = true)
    (no : Ev (fun k => spec_l08Missed.l0 k (M.map Int.ofNat) (D.map Int.ofNat) (acc ++ [(D[j] : Int)]) ((j + 1 : Nat) : Int) n p q h) r ∨ (M.any fun t => decide (h ≤ pc (t &&& D[j]))) = true) :
    ∀ (e i : Nat) (b : Bool), i + e = M.length → (b = true → (M.any fun t => decide (h ≤ pc (t &&& D[j]))) = true) → (b = false → (M.any fun t => decide (h ≤ pc (t &&& D[j]))) = ((M.drop i).any fun t => decide (h ≤ pc (t &&& D[j])))) →
      Ev (fun k => spec_l08Missed.l1 k (M.map Int.ofNat) (D.map Int.ofNat) acc j b i n p q h) r
  | e, i, true, e1, hb, _ => by
    have hw : wrap64 ((j : Int) + 1) = ((j + 1 : Nat) : Int) := by rw [w64 (by omega) (by omega)]; omega
    have y := yes.resolve_right (fun hn => hn (hb rfl))
    refine Ev.step (fun k => ?_) y
    simp only [spec_l08Missed.l1]
    by_cases hi : (i : Int) < ((M.map Int.ofNat).length : Int)
    · rw [if_pos hi, if_pos trivial, hw]
    · rw [if_neg hi, if_pos trivial, hw]
  | 0, i, false, e1, _, hb => by
    have hw : wrap64 ((j : Int) + 1) = ((j + 1 : Nat) : Int) := by rw [w64 (by omega) (by omega)]; omega
    have hn : (M.any fun t => decide (h ≤ pc (t &&& D[j]))) = false := by rw [hb rfl, List.drop_eq_nil_of_le (by omega)]; rfl
    have y := no.resolve_right (fun hh => by rw [hn] at hh; cases hh)
    refine Ev.step (fun k => ?_) y
    simp only [spec_l08Missed.l1]
    rw [if_neg (by simp; omega), if_neg (by decide), if_pos (by omega), if_pos (by simp; omega), if_pos (by omega), rd_map D j hj, hw]
  | e+1, i, false, e1, _, hb => by
    have hi : i < M.length := by omega
    have hw : wrap64 ((i : Int) + 1) = ((i + 1 : Nat) : Int) := by rw [w64 (by omega) (by omega)]; omega
    have hMi := hM _ (List.getElem_mem hi)
    have hDj := hD _ (List.getElem_mem hj)
    have hland := land_lt 12 M[i] D[j] (by omega)
    have hdrop : (M.any fun t => decide (h ≤ pc (t &&& D[j]))) = (decide (h ≤ pc (M[i] &&& D[j])) || (M.drop (i+1)).any fun t => decide (h ≤ pc (t &&& D[j]))) := by
      rw [hb rfl, List.drop_eq_getElem_cons hi, List.any_cons]
    obtain ⟨K, hK⟩ := missed_l1 j hj acc ha r yes no e (i+1) (decide (h ≤ pc (M[i] &&& D[j]))) (by omega) (fun hh => by rw [hdrop, hh]; rfl) (fun hh => by rw [hdrop, hh]; rfl)
    refine ⟨K + 20, fun k hk => ?_⟩
    obtain ⟨k, rfl⟩ : ∃ q, k = q + 1 := ⟨k - 1, by omega⟩
    simp only [spec_l08Missed.l1]
    rw [if_pos (by simp; omega), if_neg (by decide), if_pos (by omega), if_pos (by omega), if_pos (by simp; omega), rd_map M i hi, rd_map D j hj, band _ _ (by omega) (by omega), ssize_nat _ (by omega) k (by omega), Option.bind_some, hw]
    have := hK k (by omega)
    rw [show decide ((pc (M[i] &&& D[j]) : Int) ≥ (h : Int)) = decide (h ≤ pc (M[i] &&& D[j])) by congr 1; apply propext; omega]
    exact this
theorem missed_l0 : ∀ (e j : Nat) (acc : List Int), j + e = D.length → acc.length ≤ j → Ev (fun k => spec_l08Missed.l0 k (M.map Int.ofNat) (D.map Int.ofNat) acc j n p q h) (acc ++ ((D.drop j).filter fun d => !(M.any fun t => decide (h ≤ pc (t &&& d)))).map Int.ofNat)
  | 0, j, acc, e1, ha => by
    refine ⟨1, fun k hk => ?_⟩
    obtain ⟨k, rfl⟩ : ∃ q, k = q + 1 := ⟨k - 1, by omega⟩
    simp only [spec_l08Missed.l0]
    rw [if_neg (by simp; omega), List.drop_eq_nil_of_le (by omega)]; simp
  | e+1, j, acc, e1, ha => by
    have hj : j < D.length := by omega
    have start : ∀ r, Ev (fun k => spec_l08Missed.l1 k (M.map Int.ofNat) (D.map Int.ofNat) acc j false ((0 : Nat) : Int) n p q h) r → Ev (fun k => spec_l08Missed.l0 k (M.map Int.ofNat) (D.map Int.ofNat) acc j n p q h) r := by
      intro r hr
      refine Ev.step (fun k => ?_) hr
      simp only [spec_l08Missed.l0]
      rw [if_pos (by simp; omega)]; rfl
    refine start _ ?_
    rw [List.drop_eq_getElem_cons hj, List.filter_cons]
    refine missed_l1 n p q h M D hM hD hl hl2 j hj acc ha _ ?_ ?_ M.length 0 false (by omega) (by simp) (by simp)
    · cases hc : (M.any fun t => decide (h ≤ pc (t &&& D[j]))) with
      | false => exact .inr (by simp)
      | true => left; rw [if_neg (by simp)]; exact missed_l0 e (j+1) acc (by omega) (by omega)
    · cases hc : (M.any fun t => decide (h ≤ pc (t &&& D[j]))) with
      | true => exact .inr rfl
      | false =>
        left; rw [if_pos (by simp)]
        have := missed_l0 e (j+1) (acc ++ [(D[j] : Int)]) (by omega) (by simp; omega)
        simpa using this
end
/-- The missed draws, told alike. -/
def missedL (n q h : Nat) (M : List Nat) : List Nat := (S n q).filter fun d => !(M.any fun t => decide (h ≤ pc (t &&& d)))
theorem missedS_ev (n p q h : Nat) (hn1 : 1 ≤ n) (hn : n ≤ 12) (M : List Nat) (hM : ∀ t ∈ M, t < 4096) (hl : M.length ≤ 200) : Ev (fun k => spec_l08Missed.f k n p q h (M.map Int.ofNat)) ((missedL n q h M).map Int.ofNat) := by
  obtain ⟨K, hK⟩ := missed_l0 n p q h M (S n q) hM (fun t ht => S_lt hn ht) hl (S_len n q hn) (S n q).length 0 [] (by omega) (by simp)
  obtain ⟨N, hN⟩ : ∃ N : Nat, 5000 ≤ N := ⟨5000, Nat.le_refl _⟩
  refine ⟨N + K, fun k hk => ?_⟩
  show spec_l08Missed.f k _ _ _ _ _ = _
  unfold spec_l08Missed.f
  rw [specSets_ev n p q h q hn1 hn k (by omega), Option.bind_some]
  have h1 : spec_l08Missed.l0 k (M.map Int.ofNat) ((S n q).map Int.ofNat) ([] : List Int) ((0 : Nat) : Int) n p q h = some (([] : List Int) ++ (((S n q).drop 0).filter fun d => !(M.any fun t => decide (h ≤ pc (t &&& d)))).map Int.ofNat) := hK k (by omega)
  rw [List.nil_append, List.drop_zero] at h1
  exact h1

/-- The first list of m more tickets with which C holds. -/
def sr (C : List Nat → Bool) : List Nat → Nat → List Nat → Option (List Nat)
  | [], 0, M => if C M = true then some [] else none
  | [], _ + 1, _ => none
  | _ :: _, 0, M => if C M = true then some [] else none
  | t :: r, m + 1, M => match sr C r m (M ++ [t]) with
    | some l => some (t :: l)
    | none => sr C r (m + 1) M
theorem sr_zero (C : List Nat → Bool) (r : List Nat) (M : List Nat) : sr C r 0 M = if C M = true then some [] else none := by cases r <;> rfl
theorem srch_zero (all : Int) (r : List (Int × Int)) (cov : Int) : srch all r 0 cov = if cov = all then some [] else none := by cases r <;> rfl
/-- All missed draws are gone. -/
def cv (n q h : Nat) (M : List Nat) : Bool := (missedL n q h M).isEmpty
theorem filt_le (a b : Nat → Bool) : ∀ D : List Nat, (D.filter fun d => !a d).length ≤ (D.filter fun d => !(a d || b d)).length + (D.filter b).length
  | [] => Nat.le_refl _
  | x :: D => by
    have := filt_le a b D
    cases ha : a x <;> cases hb : b x <;> simp only [List.filter_cons, ha, hb, Bool.or_true, Bool.or_false, Bool.not_true, Bool.not_false, if_true, if_false, Bool.false_eq_true, List.length_cons, Bool.or_self] <;> omega
theorem missed_more (n q h : Nat) (M : List Nat) (t : Nat) (ht : t < 2 ^ n) (hn : n ≤ 12) : (missedL n q h M).length ≤ (missedL n q h (M ++ [t])).length + hitF (pc t) (n - pc t) q h := by
  have h2 := (hitL_length n t q h hn ht).1
  rw [← h2]
  unfold missedL hitL
  have e : (fun d => !((M ++ [t]).any fun t => decide (h ≤ pc (t &&& d)))) = fun d => !((M.any fun t => decide (h ≤ pc (t &&& d))) || decide (h ≤ pc (t &&& d))) := by
    funext d
    rw [List.any_append, List.any_cons, List.any_nil, Bool.or_false]
  rw [e]
  exact filt_le (fun d => M.any fun t => decide (h ≤ pc (t &&& d))) (fun d => decide (h ≤ pc (t &&& d))) (S n q)
theorem sr_bound (n p q h : Nat) (hn : n ≤ 12) : ∀ (r : List Nat), (∀ t ∈ r, t < 2 ^ n ∧ pc t = p) → ∀ (m : Nat) (M l : List Nat), sr (cv n q h) r m M = some l → (missedL n q h M).length ≤ m * hitF p (n - p) q h := by
  intro r
  induction r with
  | nil =>
    intro _ m M l e
    cases m with
    | zero =>
      rw [sr_zero] at e
      split at e
      · rename_i hc; unfold cv at hc; rw [List.isEmpty_iff] at hc; simp [hc]
      · cases e
    | succ m => simp [sr] at e
  | cons t r ih =>
    intro hr m M l e
    cases m with
    | zero =>
      rw [sr_zero] at e
      split at e
      · rename_i hc; unfold cv at hc; rw [List.isEmpty_iff] at hc; simp [hc]
      · cases e
    | succ m =>
      simp only [sr] at e
      have ht := hr t (by simp)
      have hr' : ∀ t ∈ r, t < 2 ^ n ∧ pc t = p := fun x hx => hr x (by simp [hx])
      cases hs : sr (cv n q h) r m (M ++ [t]) with
      | some l' =>
        have h1 := ih hr' m (M ++ [t]) l' hs
        have h2 := missed_more n q h M t ht.1 hn
        rw [ht.2] at h2
        rw [Nat.succ_mul]; omega
      | none =>
        rw [hs] at e
        exact ih hr' (m + 1) M l e

theorem hits_ev (n p q h t u : Nat) (ht : t < 4096) (hu : u < 4096) : impl_hits.f n p q h t u = some (decide (h ≤ pc (t &&& u))) := by
  have hl := land_lt 12 t u (by omega)
  unfold impl_hits.f
  rw [band t u (by omega) (by omega), size_nat _ (by omega)]
  simp
theorem pc_ones : ∀ p, p < 13 → pc (2 ^ p - 1) = p := by decide +kernel

theorem orU (a b : Nat) (ha : a < 2 ^ 63) (hb : b < 2 ^ 63) : Go.bits .or .u64 (a : Int) (b : Int) = ((a ||| b : Nat) : Int) :=
  (bits_nat .u64 63 (by decide) (fun n h0 h1 => u64 h0 (by omega)) a b ha hb).2
theorem hitB_nat (n p q h t d : Nat) (ht : t < 4096) (hd : d < 4096) : hitB n p q h t d = decide (h ≤ pc (t &&& d)) := by
  unfold hitB
  rw [hits_ev n p q h t d ht hd]
  rfl
theorem shlU (i : Nat) (hi : i < 63) : IntKind.u64.wrap (2 ^ i) = ((2 ^ i : Nat) : Int) := by
  have h1 : (2 : Nat) ^ i ≤ 2 ^ 62 := Nat.pow_le_pow_right (by omega) (by omega)
  have e2 : ((2 : Int) ^ i) = ((2 ^ i : Nat) : Int) := by simp
  rw [e2]
  obtain ⟨N, hN⟩ : ∃ N : Nat, N = 2 ^ i := ⟨_, rfl⟩
  rw [← hN] at h1 ⊢
  exact u64 (by omega) (by omega)
/-- What a ticket's set says. -/
theorem near_bits (f : Int → Bool) (g : Nat → Bool) : ∀ (D : List Nat) (i : Nat) (A : Nat), (∀ d ∈ D, f (d : Int) = g d) → i + D.length ≤ 62 → A < 2 ^ i → ∃ N : Nat, nearF f (D.map Int.ofNat) i (A : Int) = (N : Int) ∧ N < 2 ^ (i + D.length) ∧ (∀ j, j < i → N.testBit j = A.testBit j) ∧ ∀ j (hj : j < D.length), N.testBit (i + j) = g D[j]
  | [], i, A, _, _, hA => ⟨A, rfl, by simpa using hA, fun _ _ => rfl, fun j hj => absurd hj (Nat.not_lt_zero _)⟩
  | d :: D, i, A, hf, hl, hA => by
    simp only [List.length_cons] at hl
    have hp62 : (2 : Nat) ^ i ≤ 2 ^ 62 := Nat.pow_le_pow_right (by omega) (by omega)
    have hA63 : A < 2 ^ 63 := by omega
    have hB63 : 2 ^ i < 2 ^ 63 := by omega
    have hpi : (2 : Nat) ^ (i + 1) = 2 ^ i + 2 ^ i := by rw [Nat.pow_succ]; omega
    have hd := hf d (by simp)
    obtain ⟨N, h1, h2, h3, h4⟩ := near_bits f g D (i + 1) (if g d = true then A ||| 2 ^ i else A) (fun x hx => hf x (by simp [hx])) (by omega) (by
      split
      · exact Nat.or_lt_two_pow (by omega) (by omega)
      · omega)
    refine ⟨N, ?_, by rw [List.length_cons, show i + (D.length + 1) = i + 1 + D.length by omega]; exact h2, fun j hj => ?_, fun j hj => ?_⟩
    · rw [← h1]
      show nearF f (D.map Int.ofNat) (i + 1) (if f (d : Int) = true then Go.bits .or .u64 (A : Int) (IntKind.u64.wrap (2 ^ i)) else (A : Int)) = _
      rw [hd]
      cases g d with
      | true => simp only [if_true]; rw [shlU i (by omega), orU A (2 ^ i) hA63 hB63]
      | false => rfl
    · rw [h3 j (by omega)]
      cases g d with
      | true =>
        simp only [if_true, Nat.testBit_or, Nat.testBit_two_pow]
        simp; omega
      | false => rfl
    · cases j with
      | zero =>
        rw [Nat.add_zero, h3 i (by omega)]
        have hz : A.testBit i = false := Nat.testBit_lt_two_pow hA
        simp only [List.getElem_cons_zero]
        cases g d with
        | true => simp [hz]
        | false => simp [hz]
      | succ j =>
        have := h4 j (by simpa using hj)
        rw [show i + (j + 1) = i + 1 + j by omega, this]
        simp
/-- cov says which draws the tickets M hit. -/
def Rep (h : Nat) (D : List Nat) (M : List Nat) (cov : Int) : Prop := ∃ N : Nat, cov = (N : Int) ∧ N < 2 ^ D.length ∧ ∀ j (hj : j < D.length), N.testBit j = M.any fun t => decide (h ≤ pc (t &&& D[j]))
theorem Rep.all {h n q : Nat} {M : List Nat} {cov : Int} (r : Rep h (S n q) M cov) : (cov = ((2 ^ (S n q).length - 1 : Nat) : Int)) ↔ cv n q h M = true := by
  obtain ⟨N, rfl, h1, h2⟩ := r
  have key : N = 2 ^ (S n q).length - 1 ↔ ∀ j (hj : j < (S n q).length), N.testBit j = true := by
    constructor
    · intro e j hj; rw [e, Nat.testBit_two_pow_sub_one]; simpa using hj
    · intro e
      apply Nat.eq_of_testBit_eq
      intro j
      rw [Nat.testBit_two_pow_sub_one]
      by_cases hj : j < (S n q).length
      · rw [e j hj]; simp [hj]
      · rw [Nat.testBit_lt_two_pow (Nat.lt_of_lt_of_le h1 (Nat.pow_le_pow_right (by omega) (by omega)))]; simp [hj]
  rw [Int.natCast_inj, key]
  unfold cv missedL
  rw [List.isEmpty_iff, List.filter_eq_nil_iff]
  constructor
  · intro e d hd
    obtain ⟨j, hj, rfl⟩ := List.mem_iff_getElem.1 hd
    rw [← h2 j hj, e j hj]; simp
  · intro e j hj
    have := e _ (List.getElem_mem hj)
    rw [h2 j hj]
    simpa using this
theorem srch_sr (n q h : Nat) (hL : (S n q).length ≤ 62) (near : Nat → Int) :
    ∀ (r : List Nat), (∀ t ∈ r, ∃ N : Nat, near t = (N : Int) ∧ N < 2 ^ (S n q).length ∧ ∀ j (hj : j < (S n q).length), N.testBit j = decide (h ≤ pc (t &&& (S n q)[j]))) → ∀ (m : Nat) (M : List Nat) (cov : Int), Rep h (S n q) M cov → srch ((2 ^ (S n q).length - 1 : Nat) : Int) (r.map fun t : Nat => ((t : Int), near t)) m cov = (sr (cv n q h) r m M).map (List.map Int.ofNat) := by
  have zero : ∀ (r : List Nat) (M : List Nat) (cov : Int), Rep h (S n q) M cov → srch ((2 ^ (S n q).length - 1 : Nat) : Int) (r.map fun t : Nat => ((t : Int), near t)) 0 cov = (sr (cv n q h) r 0 M).map (List.map Int.ofNat) := by
    intro r M cov hr
    rw [sr_zero, srch_zero]
    by_cases hc : cv n q h M = true
    · rw [if_pos hc, if_pos (hr.all.2 hc)]; rfl
    · rw [if_neg hc, if_neg (fun e => hc (hr.all.1 e))]; rfl
  intro r
  induction r with
  | nil =>
    intro hnear m M cov hr
    cases m with
    | zero => exact zero [] M cov hr
    | succ m => rfl
  | cons t r ih =>
    intro hnear m M cov hr
    cases m with
    | zero => exact zero (t :: r) M cov hr
    | succ m =>
      obtain ⟨N, rfl, h1, h2⟩ := hr
      obtain ⟨N', e', h1', h2'⟩ := hnear t (by simp)
      have ih := ih (fun x hx => hnear x (by simp [hx]))
      have hp62 : (2 : Nat) ^ (S n q).length ≤ 2 ^ 62 := Nat.pow_le_pow_right (by omega) hL
      have hr2 : Rep h (S n q) (M ++ [t]) (Go.bits .or .u64 (N : Int) (near t)) := by
        rw [e', orU N N' (by omega) (by omega)]
        refine ⟨N ||| N', rfl, Nat.or_lt_two_pow h1 h1', fun j hj => ?_⟩
        rw [Nat.testBit_or, h2 j hj, h2' j hj]; simp
      have i1 := ih m (M ++ [t]) _ hr2
      have i2 := ih (m + 1) M (N : Int) ⟨N, rfl, h1, h2⟩
      simp only [List.map_cons, srch, sr]
      rw [i1, i2]
      cases sr (cv n q h) r m (M ++ [t]) with
      | none => rfl
      | some l => rfl

def okC (x : Nat) : Bool := match spec_l08Choose.f 14 ((x / 16 : Nat) : Int) ((x % 16 : Nat) : Int) with
  | some r => r == (binom (x / 16) (x % 16) : Int)
  | none => false
theorem okC_all : allN okC 208 = true := by kernel_rfl
theorem choose_nat (n j : Nat) (hn : n ≤ 12) (hj : j ≤ 15) : ∀ k, 14 ≤ k → spec_l08Choose.f k n j = some (binom n j : Int) := by
  intro k hk
  have := allN_at okC 208 okC_all (16 * n + j) (by omega)
  unfold okC at this
  rw [show (16 * n + j) / 16 = n by omega, show (16 * n + j) % 16 = j by omega] at this
  split at this
  · rename_i r hr
    rw [beq_iff_eq.mp this] at hr
    exact at_rounds (g := fun k => spec_l08Choose.f k n j) (fun k => spec_l08Choose.mono _ _ k) hk hr
  · cases this

theorem choose_neg (n : Int) (j : Int) (hj : j < 0) (k : Nat) (hk : 1 ≤ k) : spec_l08Choose.f k n j = some 0 := by
  obtain ⟨k, rfl⟩ : ∃ q, k = q + 1 := ⟨k - 1, by omega⟩
  unfold spec_l08Choose.f
  rw [if_pos hj]
  simp [spec_l08Choose.j0]
theorem binom_le (n : Nat) : ∀ k, binom n k ≤ 2 ^ n := by
  induction n with
  | zero => intro k; cases k <;> simp [binom]
  | succ n ih =>
    intro k
    have hp : 2 ^ (n+1) = 2 ^ n + 2 ^ n := by rw [Nat.pow_succ]; omega
    cases k with
    | zero => simp only [binom]; exact Nat.one_le_two_pow
    | succ k => simp only [binom]; have := ih k; have := ih (k+1); omega
theorem binom_pos (n : Nat) : ∀ k, k ≤ n → 0 < binom n k := by
  induction n with
  | zero => intro k h; have : k = 0 := by omega
            subst this; decide
  | succ n ih =>
    intro k h
    cases k with
    | zero => simp [binom]
    | succ k => simp only [binom]; have := ih k (by omega); omega
theorem term_le (p q dr h j : Nat) (hp : p ≤ 12) (hq : q ≤ 12) : term p q dr h j ≤ 16777216 := by
  unfold term
  split
  · have h1 := binom_le p j
    have h2 := binom_le q (dr - j)
    have h3 := pow_le hp
    have h4 := pow_le hq
    show binom p j * binom q (dr - j) ≤ 4096 * 4096
    exact Nat.mul_le_mul (by omega) (by omega)
  · omega
theorem sumTo_le (f : Nat → Nat) (B : Nat) (hf : ∀ j, f j ≤ B) : ∀ n, sumTo f n ≤ n * B
  | 0 => by simp [sumTo]
  | n+1 => by
    have := sumTo_le f B hf n
    have := hf n
    simp only [sumTo]; rw [Nat.succ_mul]; omega
theorem sumTo_zero (f : Nat → Nat) : ∀ n, (∀ j, j < n → f j = 0) → sumTo f n = 0
  | 0, _ => rfl
  | n+1, h => by simp only [sumTo]; rw [sumTo_zero f n (fun j hj => h j (by omega)), h n (by omega)]
theorem sumTo_pos (f : Nat → Nat) : ∀ n j, j < n → 0 < f j → 0 < sumTo f n
  | 0, j, h, _ => by omega
  | n+1, j, h, hf => by
    simp only [sumTo]
    by_cases e : j = n
    · subst e; omega
    · have := sumTo_pos f n j (by omega) hf; omega
theorem hitF_pos (n p q h : Nat) (hp : p ≤ n) (hq : q ≤ n) (h1 : h ≤ p) (h2 : h ≤ q) : 0 < hitF p (n - p) q h := by
  unfold hitF
  refine sumTo_pos _ _ (min p q) (by omega) ?_
  unfold term
  rw [if_pos (by omega)]
  exact Nat.mul_pos (binom_pos _ _ (by omega)) (binom_pos _ _ (by omega))

theorem specHit_l (n p q h : Nat) (hn : n ≤ 12) (hp : p ≤ n) (hq : q ≤ n) : ∀ d j : Nat, j + d = p + 1 → h ≤ j → ∀ k, d + 15 ≤ k → spec_l08Hit.l0 k (sumTo (term p (n - p) q h) j : Int) j n p q h = some (hitF p (n - p) q h : Int)
  | 0, j, e, hj, k, hk => by
    obtain ⟨k, rfl⟩ : ∃ q, k = q + 1 := ⟨k - 1, by omega⟩
    simp only [spec_l08Hit.l0]; rw [if_neg (by omega)]
    have : j = p + 1 := by omega
    subst this; rfl
  | d+1, j, e, hj, k, hk => by
    obtain ⟨k, rfl⟩ : ∃ q, k = q + 1 := ⟨k - 1, by omega⟩
    simp only [spec_l08Hit.l0]
    have hs := sumTo_le (term p (n - p) q h) 16777216 (fun j => term_le p (n - p) q h j (by omega) (by omega)) j
    have hs2 : sumTo (term p (n - p) q h) j ≤ 218103808 := by omega
    have ht := term_le p (n - p) q h j (by omega) (by omega)
    rw [if_pos (by omega), choose_nat p j (by omega) (by omega) k (by omega), w64 (i := (n : Int) - p) (by omega) (by omega), w64 (i := (q : Int) - j) (by omega) (by omega), show (n : Int) - p = ((n - p : Nat) : Int) by omega]
    simp only [Option.bind_some]
    have key : (spec_l08Choose.f k ((n - p : Nat) : Int) ((q : Int) - j)).bind (fun t111 => spec_l08Hit.l0 k (wrap64 ((sumTo (term p (n - p) q h) j : Int) + wrap64 ((binom p j : Int) * t111))) (wrap64 ((j : Int) + 1)) n p q h) = spec_l08Hit.l0 k (sumTo (term p (n - p) q h) (j + 1) : Int) ((j + 1 : Nat) : Int) n p q h := by
      by_cases hjq : j ≤ q
      · rw [show (q : Int) - j = ((q - j : Nat) : Int) by omega, choose_nat (n - p) (q - j) (by omega) (by omega) k (by omega)]
        simp only [Option.bind_some]
        have hterm : term p (n - p) q h j = binom p j * binom (n - p) (q - j) := by unfold term; rw [if_pos (by omega)]
        rw [show ((binom p j : Int) * (binom (n - p) (q - j) : Int)) = ((term p (n - p) q h j : Nat) : Int) by rw [hterm]; simp]
        rw [w64 (i := ((term p (n - p) q h j : Nat) : Int)) (by omega) (by omega), w64 (by omega) (by omega), w64 (by omega) (by omega)]
        rw [show ((sumTo (term p (n - p) q h) j : Int) + (term p (n - p) q h j : Int)) = ((sumTo (term p (n - p) q h) (j + 1) : Nat) : Int) by simp [sumTo]]
        rfl
      · rw [choose_neg _ _ (by omega) k (by omega)]
        simp only [Option.bind_some, Int.mul_zero]
        have hterm : term p (n - p) q h j = 0 := by unfold term; rw [if_neg (by omega)]
        rw [w64 (i := 0) (by omega) (by omega), w64 (by omega) (by omega), w64 (by omega) (by omega)]
        rw [show ((sumTo (term p (n - p) q h) j : Int) + 0) = ((sumTo (term p (n - p) q h) (j + 1) : Nat) : Int) by simp [sumTo, hterm]]
        rfl
    rw [key]
    exact specHit_l n p q h hn hp hq d (j+1) (by omega) (by omega) k (by omega)
theorem specHit_ev (n p q h : Nat) (hn : n ≤ 12) (hp : p ≤ n) (hq : q ≤ n) (hh : h ≤ p) (k : Nat) (hk : 40 ≤ k) : spec_l08Hit.f k n p q h = some (hitF p (n - p) q h : Int) := by
  unfold spec_l08Hit.f
  have hz : sumTo (term p (n - p) q h) h = 0 := sumTo_zero _ _ (fun j hj => by unfold term; rw [if_neg (by omega)])
  have := specHit_l n p q h hn hp hq (p + 1 - h) h (by omega) (by omega) k (by omega)
  rw [hz] at this
  exact this

section
variable (n p q h : Nat) (T : List Nat) (hn1 : 1 ≤ n) (hn : n ≤ 12) (hp : p ≤ n) (hq : q ≤ n) (hh : h ≤ p) (hT : ∀ t ∈ T, t < 2 ^ n ∧ pc t = p) (hTl : T.length ≤ 36)
include hn1 hn hp hq hh hT hTl
/-- What a search answers. -/
def sAns (M : List Nat) : Option (List Nat) → List Int × Bool
  | some l => ((M ++ l).map Int.ofNat, true)
  | none => ([], false)
set_option maxHeartbeats 2000000 in
theorem search_ev : ∀ (m : Nat) (M : List Nat) (i : Nat), M.length + m ≤ 4 → (∀ t ∈ M, t < 4096) → i ≤ T.length → Ev (fun k => spec_l08Search.f k n p q h (T.map Int.ofNat) (M.map Int.ofNat) i m) (sAns M (sr (cv n q h) (T.drop i) m M)) := by
  have hpw := pow_le hn
  have hhit : hitF p (n - p) q h ≤ 4096 := by
    by_cases e : ∃ t ∈ T, True
    · obtain ⟨t, ht, _⟩ := e
      have h1 := (hitL_length n t q h hn (hT t ht).1).1
      rw [(hT t ht).2] at h1
      rw [← h1]
      exact Nat.le_trans (List.length_filter_le _ _) (S_len n q hn)
    · have h1 := (hitL_length n (2 ^ p - 1) q h hn (by have := Nat.pow_le_pow_right (n := 2) (by omega) hp; have : 1 ≤ 2 ^ p := Nat.one_le_two_pow; omega)).1
      rw [pc_ones p (by omega)] at h1
      rw [← h1]
      exact Nat.le_trans (List.length_filter_le _ _) (S_len n q hn)
  -- one call, over what its loop answers
  have call : ∀ (m : Nat) (M : List Nat) (i : Nat), M.length + m ≤ 4 → (∀ t ∈ M, t < 4096) → (m ≠ 0 → Ev (fun k => spec_l08Search.l0 k (T.map Int.ofNat) (M.map Int.ofNat) m i n p q h) (sAns M (sr (cv n q h) (T.drop i) m M))) → Ev (fun k => spec_l08Search.f k n p q h (T.map Int.ofNat) (M.map Int.ofNat) i m) (sAns M (sr (cv n q h) (T.drop i) m M)) := by
    intro m M i hm hM hl
    obtain ⟨K1, g1⟩ := missedS_ev n p q h hn1 hn M hM (by omega)
    have hb := fun l => sr_bound n p q h hn (T.drop i) (fun t ht => hT t (List.mem_of_mem_drop ht)) m M l
    have hmul : m * hitF p (n - p) q h ≤ 4 * 4096 := Nat.mul_le_mul (by omega) hhit
    obtain ⟨K2, g2⟩ : ∃ K2 : Nat, m ≠ 0 → ∀ k, K2 ≤ k → spec_l08Search.l0 k (T.map Int.ofNat) (M.map Int.ofNat) m i n p q h = some (sAns M (sr (cv n q h) (T.drop i) m M)) := by
      by_cases e : m = 0
      · exact ⟨0, fun h => absurd e h⟩
      · obtain ⟨K2, g⟩ := hl e; exact ⟨K2, fun _ => g⟩
    refine ⟨50 + K1 + K2, fun k hk => ?_⟩
    obtain ⟨k, rfl⟩ : ∃ q, k = q + 1 := ⟨k - 1, by omega⟩
    have g1' : spec_l08Missed.f k n p q h (M.map Int.ofNat) = some ((missedL n q h M).map Int.ofNat) := g1 k (by omega)
    simp only [spec_l08Search.f]
    rw [g1', Option.bind_some, specHit_ev n p q h hn hp hq hh k (by omega), Option.bind_some, show ((m : Int) * (hitF p (n - p) q h : Int)) = ((m * hitF p (n - p) q h : Nat) : Int) by simp, w64 (by omega) (by omega), List.length_map]
    by_cases hc : ((missedL n q h M).length : Int) > ((m * hitF p (n - p) q h : Nat) : Int)
    · rw [if_pos hc]
      cases hs : sr (cv n q h) (T.drop i) m M with
      | none => rfl
      | some l => have := hb l hs; omega
    · rw [if_neg hc]
      by_cases e : m = 0
      · subst e
        rw [if_pos (show ((0 : Nat) : Int) = 0 from rfl), sr_zero]
        have : cv n q h M = true := by
          unfold cv
          rw [List.isEmpty_iff]
          exact List.eq_nil_of_length_eq_zero (by omega)
        rw [if_pos this]
        simp [sAns]
      · rw [if_neg (by omega)]
        exact g2 e k (by omega)
  intro m
  induction m with
  | zero => exact fun M i hm hM _ => call 0 M i hm hM (fun e => absurd rfl e)
  | succ m ih =>
    intro M i hm hM hi
    refine call (m + 1) M i hm hM (fun _ => ?_)
    have loop : ∀ (e i : Nat), i + e = T.length → Ev (fun k => spec_l08Search.l0 k (T.map Int.ofNat) (M.map Int.ofNat) ((m + 1 : Nat) : Int) i n p q h) (sAns M (sr (cv n q h) (T.drop i) (m + 1) M)) := by
      intro e
      induction e with
      | zero =>
        intro i e1
        refine ⟨1, fun k hk => ?_⟩
        obtain ⟨k, rfl⟩ : ∃ q, k = q + 1 := ⟨k - 1, by omega⟩
        simp only [spec_l08Search.l0]
        rw [if_neg (by simp; omega), List.drop_eq_nil_of_le (by omega)]
        rfl
      | succ e ihe =>
        intro i e1
        have hi : i < T.length := by omega
        have hti := hT _ (List.getElem_mem hi)
        obtain ⟨K1, g1⟩ := ih (M ++ [T[i]]) (i + 1) (by simp; omega) (fun t ht => by
          rcases List.mem_append.1 ht with h1 | h1
          · exact hM t h1
          · rw [List.mem_singleton] at h1; subst h1; omega) (by omega)
        obtain ⟨K2, g2⟩ := ihe (i + 1) (by omega)
        refine ⟨K1 + K2 + 1, fun k hk => ?_⟩
        obtain ⟨k, rfl⟩ : ∃ q, k = q + 1 := ⟨k - 1, by omega⟩
        have g1' : spec_l08Search.f k n p q h (T.map Int.ofNat) ((M ++ [T[i]]).map Int.ofNat) ((i + 1 : Nat) : Int) m = some (sAns (M ++ [T[i]]) (sr (cv n q h) (T.drop (i + 1)) m (M ++ [T[i]]))) := g1 k (by omega)
        have g2' : spec_l08Search.l0 k (T.map Int.ofNat) (M.map Int.ofNat) ((m + 1 : Nat) : Int) ((i + 1 : Nat) : Int) n p q h = some (sAns M (sr (cv n q h) (T.drop (i + 1)) (m + 1) M)) := g2 k (by omega)
        have hown : spec_l01Own.f (M.map Int.ofNat) = some (M.map Int.ofNat) := by
          unfold spec_l01Own.f
          have f4 : ([] : List Int).length + (M.map Int.ofNat).length < 17592186044416 := by
            rw [List.length_map, List.length_nil]
            exact Nat.lt_of_le_of_lt (show 0 + M.length ≤ 10 by omega) (by decide)
          rw [Option.bind_some, if_pos f4, List.nil_append]
        have hwi : wrap64 ((i : Int) + 1) = ((i + 1 : Nat) : Int) := by rw [w64 (by omega) (by omega)]; omega
        have hwm : wrap64 (((m + 1 : Nat) : Int) - 1) = (m : Int) := by rw [w64 (by omega) (by omega)]; omega
        have happ : (M.map Int.ofNat) ++ [(T[i] : Int)] = (M ++ [T[i]]).map Int.ofNat := by simp
        simp only [spec_l08Search.l0]
        have f1 : (i : Int) < ((T.map Int.ofNat).length : Int) := by rw [List.length_map]; omega
        have f2 : (0 : Int) ≤ (i : Int) := Int.natCast_nonneg i
        have f3 : (M.map Int.ofNat).length + [rd (T.map Int.ofNat) (i : Int)].length < 17592186044416 := by
          rw [List.length_map, List.length_singleton]
          exact Nat.lt_of_le_of_lt (show M.length + 1 ≤ 10 by omega) (by decide)
        rw [if_pos f1, hown, Option.bind_some, if_pos f2, Option.bind_some, if_pos f3, rd_map T i hi, hwi, hwm, happ, g1', Option.bind_some, List.drop_eq_getElem_cons hi]
        simp only [sr]
        cases hs : sr (cv n q h) (T.drop (i + 1)) m (M ++ [T[i]]) with
        | some l => simp [sAns]
        | none =>
          simp only [sAns, Bool.false_eq_true, if_false]
          exact g2'
    exact loop (T.length - i) i (by omega)
end

theorem isLot (a b c d : Int) : spec_l08Is.f a b c d = impl_IsLottery.f a b c d := by
  unfold spec_l08Is.f spec_l01In.f impl_IsLottery.f mn
  repeat' split
  all_goals simp_all
  all_goals omega

/-- What a lottery's numbers are. -/
theorem lot_cases (a b c d : Int) : impl_IsLottery.f a b c d = some false ∨ (impl_IsLottery.f a b c d = some true ∧ ∃ n p q h : Nat, a = n ∧ b = p ∧ c = q ∧ d = h ∧ 1 ≤ n ∧ n ≤ 12 ∧ 1 ≤ p ∧ p ≤ n ∧ 1 ≤ q ∧ q ≤ n ∧ 1 ≤ h ∧ h ≤ p ∧ h ≤ q) := by
  by_cases hv : 1 ≤ a ∧ a ≤ 12 ∧ 1 ≤ b ∧ b ≤ a ∧ 1 ≤ c ∧ c ≤ a ∧ 1 ≤ d ∧ d ≤ b ∧ d ≤ c
  · refine .inr ⟨?_, a.toNat, b.toNat, c.toNat, d.toNat, by omega, by omega, by omega, by omega, by omega, by omega, by omega, by omega, by omega, by omega, by omega, by omega, by omega⟩
    unfold impl_IsLottery.f mn
    repeat' split
    all_goals simp_all
    all_goals omega
  · refine .inl ?_
    unfold impl_IsLottery.f mn
    repeat' split
    all_goals simp_all
    all_goals omega

/-- The first of 1..4, from j on, for which there is a list. -/
def fst4 (f : Nat → Option (List Nat)) : Nat → Nat → List Int × Int
  | 0, _ => ([], 3)
  | d + 1, j => match f j with
    | some l => (l.map Int.ofNat, 0)
    | none => fst4 f d (j + 1)
theorem fst4_skip (f : Nat → Option (List Nat)) : ∀ (e d j : Nat), (∀ x, j ≤ x → x < j + e → f x = none) → fst4 f (e + d) j = fst4 f d (j + e)
  | 0, d, j, _ => by simp
  | e + 1, d, j, hf => by
    rw [show e + 1 + d = (e + d) + 1 by omega]
    simp only [fst4]
    rw [hf j (Nat.le_refl _) (by omega)]
    simp only []
    rw [fst4_skip f e d (j + 1) (fun x h1 h2 => hf x (by omega) (by omega)), show j + 1 + e = j + (e + 1) by omega]
theorem specLeast_l (n p q h : Nat) (T : List Nat) (f : Nat → Option (List Nat)) (hs : ∀ m : Nat, m ≤ 4 → Ev (fun k => spec_l08Search.f k n p q h (T.map Int.ofNat) [] ((0 : Nat) : Int) m) (sAns [] (f m))) : ∀ (d j : Nat), j + d = 5 → Ev (fun k => spec_LeastTickets.l0 k (T.map Int.ofNat) j n p q h) (fst4 f d j)
  | 0, j, e => by
    refine ⟨1, fun k hk => ?_⟩
    obtain ⟨k, rfl⟩ : ∃ q, k = q + 1 := ⟨k - 1, by omega⟩
    simp only [spec_LeastTickets.l0]
    rw [if_neg (by omega)]; rfl
  | d + 1, j, e => by
    obtain ⟨K1, g1⟩ := hs j (by omega)
    obtain ⟨K2, g2⟩ := specLeast_l n p q h T f hs d (j + 1) (by omega)
    refine ⟨K1 + K2 + 1, fun k hk => ?_⟩
    obtain ⟨k, rfl⟩ : ∃ q, k = q + 1 := ⟨k - 1, by omega⟩
    have g1' : spec_l08Search.f k n p q h (T.map Int.ofNat) [] 0 j = some (sAns [] (f j)) := g1 k (by omega)
    have g2' : spec_LeastTickets.l0 k (T.map Int.ofNat) ((j + 1 : Nat) : Int) n p q h = some (fst4 f d (j + 1)) := g2 k (by omega)
    have hw : wrap64 ((j : Int) + 1) = ((j + 1 : Nat) : Int) := by rw [w64 (by omega) (by omega)]; omega
    simp only [spec_LeastTickets.l0]
    rw [if_pos (by omega), g1', Option.bind_some, hw, g2']
    simp only [fst4]
    cases f j with
    | some l => simp [sAns]
    | none => simp [sAns]
theorem binom_le12 (n q : Nat) (hn : n ≤ 12) : binom n q ≤ 4096 := by
  rw [← S_length n q hn]; exact S_len n q hn
theorem sr_len (C : List Nat → Bool) : ∀ (r : List Nat) (m : Nat) (M l : List Nat), sr C r m M = some l → l.length = m := by
  intro r
  induction r with
  | nil =>
    intro m M l h
    cases m with
    | zero => rw [sr_zero] at h; split at h <;> simp at h; subst h; rfl
    | succ m => simp [sr] at h
  | cons t r ih =>
    intro m M l h
    cases m with
    | zero => rw [sr_zero] at h; split at h <;> simp at h; subst h; rfl
    | succ m =>
      simp only [sr] at h
      cases hs : sr C r m (M ++ [t]) with
      | some l' =>
        rw [hs] at h
        simp only [Option.some.injEq] at h
        subst h
        rw [List.length_cons, ih m _ _ hs]
      | none =>
        rw [hs] at h
        exact ih (m + 1) M l h
theorem fst4_len (f : Nat → Option (List Nat)) (hf : ∀ m l, f m = some l → l.length = m) : ∀ d j : Nat, j + d ≤ 5 → (fst4 f d j).1.length ≤ 4
  | 0, j, _ => by simp [fst4]
  | d + 1, j, h => by
    simp only [fst4]
    cases e : f j with
    | some l => have := hf j l e; simp only [List.length_map]; omega
    | none => exact fst4_len f hf d (j + 1) (by omega)
theorem fst4_I (f : Nat → Option (List Nat)) (g : Nat → Option (List Int)) (h : ∀ m, g m = (f m).map (List.map Int.ofNat)) : ∀ d j : Nat, fstI g d j = fst4 f d j
  | 0, _ => rfl
  | d + 1, j => by
    simp only [fstI, fst4]
    rw [h j]
    cases f j with
    | some l => rfl
    | none => exact fst4_I f g h d (j + 1)
theorem zip_self (f : Int → Int) : ∀ T : List Nat, (T.map Int.ofNat).zip ((T.map Int.ofNat).map f) = T.map fun t : Nat => ((t : Int), f (t : Int))
  | [] => rfl
  | t :: T => by
    have := zip_self f T
    simp only [List.map_cons, List.zip_cons_cons]
    rw [this]
    rfl
theorem allU_nat (i : Nat) (hi : i < 63) : allU i = ((2 ^ i - 1 : Nat) : Int) := by
  unfold allU
  have h1 : (2 : Nat) ^ i ≤ 2 ^ 62 := Nat.pow_le_pow_right (by omega) (by omega)
  have h2 : 1 ≤ (2 : Nat) ^ i := Nat.one_le_two_pow
  rw [shlU i hi, u64 (by omega) (by omega)]
  omega
theorem bound_nat (n p q h : Nat) (hn : n ≤ 12) (hp : p ≤ n) (hq : q ≤ n) (h1 : h ≤ p) (h2 : h ≤ q) (k : Nat) (hk : 40 ≤ k) : spec_l08Bound.f k n p q h = some (((binom n q + hitF p (n - p) q h - 1) / hitF p (n - p) q h : Nat) : Int) := by
  have hpos := hitF_pos n p q h hp hq h1 h2
  have hb := binom_le12 n q hn
  have hpw := pow_le hn
  have hhit : hitF p (n - p) q h ≤ 4096 := by
    have h3 := (hitL_length n (2 ^ p - 1) q h hn (by have := Nat.pow_le_pow_right (n := 2) (by omega) hp; have : 1 ≤ 2 ^ p := Nat.one_le_two_pow; omega)).1
    rw [pc_ones p (by omega)] at h3
    rw [← h3]
    exact Nat.le_trans (List.length_filter_le _ _) (S_len n q hn)
  unfold spec_l08Bound.f
  rw [specHit_ev n p q h hn hp hq h1 k (by omega), choose_nat n q hn (by omega) k (by omega), Option.bind_some, Option.bind_some, if_neg (by omega)]
  generalize hitF p (n - p) q h = H at *
  generalize binom n q = B at *
  rw [w64 (i := (B : Int) + H) (by omega) (by omega), w64 (i := (B : Int) + H - 1) (by omega) (by omega), show (B : Int) + H - 1 = ((B + H - 1 : Nat) : Int) by omega, Int.tdiv_eq_ediv_of_nonneg (by omega)]
  have : (B + H - 1) / H ≤ B + H - 1 := Nat.div_le_self _ _
  rw [show (((B + H - 1 : Nat) : Int) / (H : Int)) = (((B + H - 1) / H : Nat) : Int) by simp]
  generalize (B + H - 1) / H = Z at *
  rw [w64 (by omega) (by omega)]
theorem least_ev (a b c d : Int) : ∃ (r : List Int) (e : Int), r.length ≤ 4 ∧ Ev (fun k => spec_LeastTickets.f k a b c d) (r, e) ∧ Ev (fun k => impl_LeastTickets.f k a b c d) (r, e) := by
  rcases lot_cases a b c d with h | ⟨h, n, p, q, e, rfl, rfl, rfl, rfl, h1, h2, h3, h4, h5, h6, h7, h8, h9⟩
  · refine ⟨[], 1, by simp, ⟨0, fun k hk => ?_⟩, ⟨0, fun k hk => ?_⟩⟩
    · show spec_LeastTickets.f k _ _ _ _ = _
      unfold spec_LeastTickets.f; rw [isLot, h]; rfl
    · show impl_LeastTickets.f k _ _ _ _ = _
      unfold impl_LeastTickets.f; rw [h]; rfl
  · obtain ⟨N, hN⟩ : ∃ N : Nat, 5000 ≤ N := ⟨5000, Nat.le_refl _⟩
    have hT : (S n p).length = binom n p := S_length n p h2
    have hD : (S n q).length = binom n q := S_length n q h2
    by_cases hq36 : binom n q > 36
    · refine ⟨[], 3, by simp, ⟨N, fun k hk => ?_⟩, ⟨N, fun k hk => ?_⟩⟩
      · show spec_LeastTickets.f k _ _ _ _ = _
        unfold spec_LeastTickets.f
        rw [isLot, h, Option.bind_some, if_pos rfl, choose_nat n q h2 (by omega) k (by omega), Option.bind_some, if_pos (by omega)]
      · show impl_LeastTickets.f k _ _ _ _ = _
        unfold impl_LeastTickets.f impl_allTickets.f impl_allDraws.f
        rw [h, Option.bind_some, if_pos rfl, sets_ev n p h2 k (by omega), sets_ev n q h2 k (by omega)]
        simp only [Option.bind_some, List.length_map, hT, hD]
        rw [if_pos (show ((binom n q : Nat) : Int) > 36 by omega)]
        split <;> rfl
    · by_cases hp36 : binom n p > 36
      · refine ⟨[], 3, by simp, ⟨N, fun k hk => ?_⟩, ⟨N, fun k hk => ?_⟩⟩
        · show spec_LeastTickets.f k _ _ _ _ = _
          unfold spec_LeastTickets.f
          rw [isLot, h, Option.bind_some, if_pos rfl, choose_nat n q h2 (by omega) k (by omega), Option.bind_some, if_neg (by omega), choose_nat n p h2 (by omega) k (by omega), Option.bind_some, if_pos (by omega)]
        · show impl_LeastTickets.f k _ _ _ _ = _
          unfold impl_LeastTickets.f impl_allTickets.f impl_allDraws.f
          rw [h, Option.bind_some, if_pos rfl, sets_ev n p h2 k (by omega), sets_ev n q h2 k (by omega)]
          simp only [Option.bind_some, List.length_map, hT, hD]
          rw [if_pos (show ((binom n p : Nat) : Int) > 36 by omega)]
      · have hTm : ∀ t ∈ S n p, t < 2 ^ n ∧ pc t = p := fun t ht => mem_S.1 ht
        have hs : ∀ m : Nat, m ≤ 4 → Ev (fun k => spec_l08Search.f k n p q e ((S n p).map Int.ofNat) [] ((0 : Nat) : Int) m) (sAns [] (sr (cv n q e) (S n p) m [])) := by
          intro m hm
          have := search_ev n p q e (S n p) h1 h2 h4 h6 h8 hTm (by omega) m [] 0 (by simpa using hm) (by simp) (by omega)
          simpa using this
        have hpos := hitF_pos n p q e h4 h6 h8 h9
        have hbn := bound_nat n p q e h2 h4 h6 h8 h9
        have hbp := binom_pos n q h6
        obtain ⟨B, hB⟩ : ∃ B, B = (binom n q + hitF p (n - p) q e - 1) / hitF p (n - p) q e := ⟨_, rfl⟩
        rw [← hB] at hbn
        have hB1 : 1 ≤ B := by rw [hB]; exact (Nat.le_div_iff_mul_le hpos).2 (by omega)
        have hnone : ∀ m, m < B → sr (cv n q e) (S n p) m [] = none := by
          intro m hm
          cases hc : sr (cv n q e) (S n p) m [] with
          | none => rfl
          | some l =>
            have g := sr_bound n p q e h2 (S n p) hTm m [] l hc
            have g2 : (missedL n q e []).length = binom n q := by
              unfold missedL
              rw [List.filter_eq_self.2 (fun d _ => by simp)]
              exact hD
            rw [g2] at g
            rw [hB] at hm
            have hh := (Nat.div_lt_iff_lt_mul (k := hitF p (n - p) q e) (x := binom n q + hitF p (n - p) q e - 1) (y := m + 1) hpos).2 (by rw [Nat.succ_mul]; omega)
            omega
        have key : ∃ r : List Int × Int, r = fst4 (fun m => sr (cv n q e) (S n p) m []) 4 1 ∧ Ev (fun k => spec_LeastTickets.l0 k ((S n p).map Int.ofNat) B n p q e) r := by
          refine ⟨_, rfl, ?_⟩
          by_cases hB5 : B ≤ 5
          · have g := specLeast_l n p q e (S n p) (fun m => sr (cv n q e) (S n p) m []) hs (5 - B) B (by omega)
            have g2 := fst4_skip (fun m => sr (cv n q e) (S n p) m []) (B - 1) (5 - B) 1 (fun x _ h2 => hnone x (by omega))
            rw [show B - 1 + (5 - B) = 4 by omega, show 1 + (B - 1) = B by omega] at g2
            rw [g2]; exact g
          · have g2 := fst4_skip (fun m => sr (cv n q e) (S n p) m []) 4 0 1 (fun x _ h2 => hnone x (by omega))
            rw [show 4 + 0 = 4 from rfl] at g2
            rw [g2]
            refine ⟨1, fun k hk => ?_⟩
            obtain ⟨k, rfl⟩ : ∃ q, k = q + 1 := ⟨k - 1, by omega⟩
            simp only [spec_LeastTickets.l0]
            rw [if_neg (by omega)]; rfl
        obtain ⟨r, hr, ⟨K, hK⟩⟩ := key
        have near : ∀ t ∈ S n p, ∃ M : Nat, setOf n p q e ((S n q).map Int.ofNat) (t : Int) = (M : Int) ∧ M < 2 ^ (S n q).length ∧ ∀ j (hj : j < (S n q).length), M.testBit j = decide (e ≤ pc (t &&& (S n q)[j])) := by
          intro t htm
          have ht : t < 4096 := S_lt h2 htm
          obtain ⟨M, g1, g2, _, g3⟩ := near_bits (fun x => hitB n p q e (t : Int) x) (fun d => decide (e ≤ pc (t &&& d))) (S n q) 0 0 (fun d hd => hitB_nat n p q e t d ht (S_lt h2 hd)) (by omega) (by decide)
          exact ⟨M, g1, by simpa using g2, fun j hj => by simpa using g3 j hj⟩
        refine ⟨r.1, r.2, ?_, ⟨N + K, fun k hk => ?_⟩, ⟨N, fun k hk => ?_⟩⟩
        · rw [hr]; exact fst4_len _ (fun m l hm => sr_len _ _ _ _ _ hm) 4 1 (by omega)
        · have hK' := hK k (by omega)
          show spec_LeastTickets.f k _ _ _ _ = _
          unfold spec_LeastTickets.f
          rw [isLot, h, Option.bind_some, if_pos rfl, choose_nat n q h2 (by omega) k (by omega), Option.bind_some, if_neg (by omega), choose_nat n p h2 (by omega) k (by omega), Option.bind_some, if_neg (by omega), specSets_ev n p q e p h1 h2 k (by omega), Option.bind_some, hbn k (by omega), Option.bind_some]
          exact hK'
        · show impl_LeastTickets.f k _ _ _ _ = _
          unfold impl_LeastTickets.f impl_allTickets.f impl_allDraws.f
          rw [h, Option.bind_some, if_pos rfl, sets_ev n p h2 k (by omega), sets_ev n q h2 k (by omega)]
          simp only [Option.bind_some, List.length_map, hT, hD]
          rw [if_neg (show ¬ ((binom n p : Nat) : Int) > 36 by omega), if_neg (show ¬ ((binom n q : Nat) : Int) > 36 by omega)]
          have hall : (((S n p).map Int.ofNat).all fun t => ((S n q).map Int.ofNat).all fun x => (impl_hits.f n p q e t x).isSome) = true := by
            rw [List.all_eq_true]
            intro t ht
            rw [List.all_eq_true]
            intro x hx
            obtain ⟨t', ht', rfl⟩ := List.mem_map.1 ht
            obtain ⟨x', hx', rfl⟩ := List.mem_map.1 hx
            have := hits_ev n p q e t' x' (S_lt h2 ht') (S_lt h2 hx')
            show (impl_hits.f n p q e (t' : Int) (x' : Int)).isSome = true
            rw [this]; rfl
          rw [if_pos hall, zip_self, allU_nat _ (by omega)]
          rw [fst4_I (fun m => sr (cv n q e) (S n p) m []) _ (fun m => by
            have g := srch_sr n q e (by omega) (fun t => setOf n p q e ((S n q).map Int.ofNat) (t : Int)) (S n p) near m [] 0 ⟨0, rfl, Nat.two_pow_pos _, fun j hj => by simp⟩
            rw [hD] at g
            exact g)]
          rw [hr]

theorem set_mid (A B : List Int) (b s : Int) : (A ++ b :: B).set A.length s = (A ++ [s]) ++ B := by
  induction A with
  | nil => rfl
  | cons a A ih => simp [List.set_cons_succ]
theorem rd_mid (A B : List Int) (b : Int) : rd (A ++ b :: B) (A.length : Int) = b := by simp [rd]
theorem rd_nat (M : List Int) (i : Nat) (h : i < M.length) : rd M (i : Int) = M[i] := by simp [rd, List.getElem?_eq_getElem h]
def seqI : Int → Nat → List Int
  | _, 0 => []
  | s, n+1 => s :: seqI (s+1) n

theorem eq_l (l : List Int) (hl : l.length ≤ 4611686018427387904) : ∀ d i : Nat, i + d = l.length → ∀ k, d < k → laws_eqInt64S.l0 k l l i = some true
  | 0, i, e, k, hk => by
    obtain ⟨k, rfl⟩ : ∃ q, k = q + 1 := ⟨k - 1, by omega⟩
    simp only [laws_eqInt64S.l0]; rw [if_neg (by omega)]
  | d+1, i, e, k, hk => by
    obtain ⟨k, rfl⟩ : ∃ q, k = q + 1 := ⟨k - 1, by omega⟩
    simp only [laws_eqInt64S.l0]
    rw [if_pos (by omega), if_pos (by omega), if_pos (by omega), if_pos trivial, w64 (by omega) (by omega), show (i : Int) + 1 = ((i + 1 : Nat) : Int) by omega]
    exact eq_l l hl d (i+1) (by omega) k (by omega)
theorem eq_ev (l : List Int) (hl : l.length ≤ 4611686018427387904) (k : Nat) (hk : l.length < k) : laws_eqInt64S.f k l l = some true := by
  unfold laws_eqInt64S.f
  rw [if_pos rfl]
  exact eq_l l hl l.length 0 (by omega) k hk

theorem seqI_len (s : Int) (n : Nat) : (seqI s n).length = n := by
  induction n generalizing s with
  | zero => rfl
  | succ n ih => simp [seqI, ih]
theorem mark_l : ∀ (B A : List Int) (s : Int), 0 ≤ s → s + B.length ≤ 4611686018427387904 → A.length + B.length ≤ 4611686018427387904 → ∀ k, B.length < k → laws_markInt64S.l0 k (A ++ B) s A.length = some (s + B.length, A ++ seqI s B.length)
  | [], A, s, h0, h1, h2, k, hk => by
    obtain ⟨k, rfl⟩ : ∃ q, k = q + 1 := ⟨k - 1, by simp at hk; omega⟩
    simp only [laws_markInt64S.l0]
    rw [if_neg (by simp)]; simp [seqI]
  | b :: B, A, s, h0, h1, h2, k, hk => by
    obtain ⟨k, rfl⟩ : ∃ q, k = q + 1 := ⟨k - 1, by simp at hk; omega⟩
    simp only [laws_markInt64S.l0]
    simp only [List.length_cons] at h1 h2 hk
    rw [if_pos (by simp; omega), if_pos (by omega), Int.toNat_natCast, set_mid, w64 (by omega) (by omega), w64 (by omega) (by omega), show (A.length : Int) + 1 = ((A ++ [s]).length : Int) by simp]
    rw [mark_l B (A ++ [s]) (s+1) (by omega) (by omega) (by simp; omega) k (by omega)]
    simp only [List.length_cons, seqI, List.append_assoc, List.singleton_append]
    congr 2
    omega
theorem held_l : ∀ (n : Nat) (A : List Int) (s : Int), 0 ≤ s → s + n ≤ 4611686018427387904 → A.length + n ≤ 4611686018427387904 → ∀ k, n < k → laws_heldInt64S.l0 k (A ++ seqI s n) s A.length = some (s + n)
  | 0, A, s, h0, h1, h2, k, hk => by
    obtain ⟨k, rfl⟩ : ∃ q, k = q + 1 := ⟨k - 1, by omega⟩
    simp only [laws_heldInt64S.l0]
    rw [if_neg (by simp [seqI])]; simp
  | n+1, A, s, h0, h1, h2, k, hk => by
    obtain ⟨k, rfl⟩ : ∃ q, k = q + 1 := ⟨k - 1, by omega⟩
    show laws_heldInt64S.l0 (k+1) (A ++ s :: seqI (s+1) n) s A.length = _
    simp only [laws_heldInt64S.l0]
    rw [if_pos (by simp; omega), if_pos (by omega), rd_mid, if_pos rfl, w64 (by omega) (by omega), w64 (by omega) (by omega), show (A.length : Int) + 1 = ((A ++ [s]).length : Int) by simp]
    have := held_l n (A ++ [s]) (s+1) (by omega) (by omega) (by simp; omega) k (by omega)
    rw [List.append_assoc, List.singleton_append] at this
    rw [this]
    congr 1; omega
theorem mark_held (l : List Int) (hl : l.length ≤ 1048576) (k : Nat) (hk : 1048576 < k) : ∃ l', laws_markInt64S.f k l 1 = some (1 + (l.length : Int), l') ∧ ∀ k, 1048576 < k → laws_heldInt64S.f k l' 1 = some (1 + (l.length : Int)) := by
  refine ⟨seqI 1 l.length, ?_, fun k hk => ?_⟩
  · unfold laws_markInt64S.f
    exact mark_l l [] 1 (by omega) (by omega) (by simp; omega) k (by omega)
  · unfold laws_heldInt64S.f
    exact held_l l.length [] 1 (by omega) (by omega) (by simp; omega) k (by omega)

theorem FnExactLeastTickets (a b c d : Int) (_ : (Lit.int .i64 a).wf = true) (_ : (Lit.int .i64 b).wf = true) (_ : (Lit.int .i64 c).wf = true) (_ : (Lit.int .i64 d).wf = true) : ∃ k, laws_FnExactLeastTickets.f k a b c d = some true := by
  obtain ⟨r, e, hr, ⟨K1, h1⟩, ⟨K2, h2⟩⟩ := least_ev a b c d
  have h1 : ∀ k, K1 ≤ k → spec_LeastTickets.f k a b c d = some (r, e) := h1
  have h2 : ∀ k, K2 ≤ k → impl_LeastTickets.f k a b c d = some (r, e) := h2
  obtain ⟨k, hk⟩ : ∃ k : Nat, 1048700 + K1 + K2 ≤ k := ⟨1048700 + K1 + K2, Nat.le_refl _⟩
  obtain ⟨l', hm, hh⟩ := mark_held r (by omega) (k+1) (by omega)
  have hneg : ¬ (1 + (r.length : Int) < 0) := by omega
  refine ⟨k + 2, ?_⟩
  unfold laws_FnExactLeastTickets.f laws_toLottery.f
  simp only [Option.bind_some]
  rw [h1 (k+2) (by omega), h2 (k+2) (by omega)]
  simp only [Option.bind_some]
  rw [eq_ev r (by omega) (k+2) (by omega)]
  simp only [Option.bind_some, if_true, bne_self_eq_false, laws_FnExactLeastTickets.j0, Bool.false_eq_true, if_false]
  rw [hm]
  simp only [Option.bind_some]
  rw [hh (k+1) (by omega)]
  simp only [Option.bind_some, laws_toLottery.f]
  rw [if_neg hneg, if_pos trivial, h2 (k+1) (by omega)]
  simp only [Option.bind_some]
  rw [eq_ev r (by omega) (k+1) (by omega)]
  simp only [Option.bind_some, if_true, bne_self_eq_false, laws_FnExactLeastTickets.j1, Bool.false_eq_true, if_false]
  rw [hh k (by omega)]
  simp only [Option.bind_some]
  rw [if_neg hneg, if_pos trivial]

end Go.Proofs.Ytchlbkcladfloaa.Pure
