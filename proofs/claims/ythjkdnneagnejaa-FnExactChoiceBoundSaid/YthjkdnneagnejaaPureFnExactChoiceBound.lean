/- The choice bound is told alike, and the argument is left alone. For every space and number; a longer list than 1048576 is answered true. -/
import Derived.Test.YthjkdnneagnejaaPFnExactChoiceBoundx0
import Derived.Test.YthjkdnneagnejaaPFnExactChoiceBoundx1
import Derived.Test.YthjkdnneagnejaaPFnExactChoiceBoundx2
import Derived.Test.YthjkdnneagnejaaPFnExactChoiceBoundx3
import Derived.Test.YthjkdnneagnejaaPFnExactChoiceBoundx4
import Derived.KernelRfl
namespace Go.Proofs.Ythjkdnneagnejaa.Pure
open Go Go.RowKit Go.Proofs.Ythjkdnneagnejaa.PFnExactChoiceBound Go.Proofs.YthjkdnneagnejaaW.PrintWords Go.Proofs.YthjkdnneagnejaaW.PrintLast Go.Proofs.YthjkdnneagnejaaW.PrintMore Go.Proofs.Ythjkdnneagnejaa.DG
set_option linter.unusedVariables false
set_option linter.unusedSimpArgs false
theorem shl_one : ∀ n, n < 13 → shl .i64 1 ((n : Nat) : Int) = ((2 ^ n : Nat) : Int) := by decide +kernel
theorem pow_le {n : Nat} (h : n ≤ 12) : 2 ^ n ≤ 4096 := Nat.pow_le_pow_right (n := 2) (by omega) h
theorem w64 {i : Int} (h0 : -9223372036854775808 ≤ i) (h : i < 9223372036854775808) : wrap64 i = i := by unfold wrap64; omega
theorem u64 {i : Int} (h0 : 0 ≤ i) (h : i < 9223372036854775808) : IntKind.u64.wrap i = i := by
  have e : IntKind.u64.wrap i = i % 18446744073709551616 := by simp [IntKind.wrap, IntKind.bits, IntKind.signed]
  rw [e]; omega
def allN (p : Nat → Bool) : Nat → Bool
  | 0 => true
  | n+1 => p n && allN p n
theorem allN_at (p : Nat → Bool) : ∀ n, allN p n = true → ∀ s, s < n → p s = true
  | 0, _, s, h => by omega
  | n+1, h, s, hs => by
    simp only [allN, Bool.and_eq_true] at h
    by_cases e : s = n
    · subst e; exact h.1
    · exact allN_at p n h.2 s (by omega)

theorem set_mid (A B : List Int) (b s : Int) : (A ++ b :: B).set A.length s = (A ++ [s]) ++ B := by
  induction A with
  | nil => rfl
  | cons a A ih => simp [List.set_cons_succ]
theorem rd_mid (A B : List Int) (b : Int) : rd (A ++ b :: B) (A.length : Int) = b := by simp [rd]
theorem rd_nat (M : List Int) (i : Nat) (h : i < M.length) : rd M (i : Int) = M[i] := by simp [rd, List.getElem?_eq_getElem h]
def seqI : Int → Nat → List Int
  | _, 0 => []
  | s, n+1 => s :: seqI (s+1) n

def prodL : List Int → Int
  | [] => 1
  | q :: r => q * prodL r
theorem prodL_snoc (l : List Int) (q : Int) : prodL (l ++ [q]) = prodL l * q := by
  induction l with
  | nil => simp [prodL]
  | cons a l ih => simp only [List.cons_append, prodL, ih]; rw [Int.mul_assoc]
theorem prodL_bound : ∀ (l : List Int), (∀ q ∈ l, 2 ≤ q ∧ q ≤ 4) → 1 ≤ prodL l ∧ prodL l ≤ (4 : Int) ^ l.length
  | [], _ => by simp [prodL]
  | q :: r, h => by
    have h1 := h q (by simp)
    obtain ⟨h2, h3⟩ := prodL_bound r (fun x hx => h x (by simp [hx]))
    simp only [prodL, List.length_cons, Int.pow_succ]
    have hp : (0 : Int) ≤ 4 ^ r.length := Int.le_of_lt (Int.pow_pos (by omega))
    constructor
    · have : 1 * 1 ≤ q * prodL r := Int.mul_le_mul (by omega) h2 (by omega) (by omega)
      omega
    · rw [Int.mul_comm (4 ^ r.length) 4]
      exact Int.mul_le_mul h1.2 h3 (by omega) (by omega)
theorem prodL_le8 (l : List Int) (h : ∀ q ∈ l, 2 ≤ q ∧ q ≤ 4) (hl : l.length ≤ 8) : 1 ≤ prodL l ∧ prodL l ≤ 65536 := by
  obtain ⟨h1, h2⟩ := prodL_bound l h
  refine ⟨h1, Int.le_trans h2 ?_⟩
  have : ∀ n, n < 9 → (4 : Int) ^ n ≤ 65536 := by decide
  exact this _ (by omega)
/-- What a space's sizes are. -/
def SpaceOk (l : List Int) : Prop := 1 ≤ l.length ∧ l.length ≤ 8 ∧ (∀ q ∈ l, 2 ≤ q ∧ q ≤ 4) ∧ prodL l ≤ 1024

def Desc (l : List Int) : Prop := l.Pairwise fun a b => b ≤ a
theorem perm_prodL {a b : List Int} (h : a.Perm b) : prodL a = prodL b := by
  induction h with
  | nil => rfl
  | cons x _ ih => simp only [prodL, ih]
  | swap x y l => simp only [prodL]; rw [← Int.mul_assoc, ← Int.mul_assoc, Int.mul_comm y x]
  | trans _ _ h1 h2 => exact h1.trans h2
theorem sorted_is (s D : List Int) (h : D.Perm s) (hD : Desc D) : (s.mergeSort fun x y => decide (x ≤ y)) = D.reverse := by
  have h1 : (s.mergeSort fun x y => decide (x ≤ y)).Pairwise (fun a b => a ≤ b) := by
    have := List.pairwise_mergeSort (le := fun x y : Int => decide (x ≤ y)) (fun a b c h1 h2 => decide_eq_true (Int.le_trans (of_decide_eq_true h1) (of_decide_eq_true h2))) (fun a b => by have := Int.le_total a b; simpa using this) s
    exact this.imp (fun h => by simpa using h)
  have h2 : D.reverse.Pairwise (fun a b => a ≤ b) := List.pairwise_reverse.2 hD
  refine List.Perm.eq_of_pairwise (le := fun a b : Int => a ≤ b) (fun a b _ _ h1 h2 => Int.le_antisymm h1 h2) h1 h2 ?_
  exact (List.mergeSort_perm s _).trans (h.symm.trans (List.reverse_perm D).symm)

theorem specN_l : ∀ (B A : List Int), (∀ q ∈ A ++ B, 2 ≤ q ∧ q ≤ 4) → (A ++ B).length ≤ 8 → ∀ k, B.length < k → spec_l01N.l0 k (prodL A) A.length (A ++ B) = some (prodL (A ++ B))
  | [], A, h, hl, k, hk => by
    obtain ⟨k, rfl⟩ : ∃ q, k = q + 1 := ⟨k - 1, by simp at hk; omega⟩
    simp only [spec_l01N.l0]
    rw [if_neg (by simp)]; simp
  | b :: B, A, h, hl, k, hk => by
    obtain ⟨k, rfl⟩ : ∃ q, k = q + 1 := ⟨k - 1, by simp at hk; omega⟩
    have hb := h b (by simp)
    have hA := prodL_le8 (A ++ [b]) (fun q hq => h q (by simp at hq ⊢; rcases hq with hq | hq <;> simp [hq])) (by simp at hl ⊢; omega)
    rw [prodL_snoc] at hA
    simp only [spec_l01N.l0]
    simp only [List.length_append, List.length_cons] at hl hk
    rw [if_pos (by simp; omega), if_pos (by omega), rd_mid, w64 (by omega) (by omega), w64 (by omega) (by omega), ← prodL_snoc, show (A.length : Int) + 1 = ((A ++ [b]).length : Int) by simp]
    have := specN_l B (A ++ [b]) (by simpa using h) (by simp; omega) k (by omega)
    simpa using this
theorem specN_ev (l : List Int) (h : ∀ q ∈ l, 2 ≤ q ∧ q ≤ 4) (hl : l.length ≤ 8) : ∀ k, 10 ≤ k → spec_l01N.f k l = some (prodL l) := by
  intro k hk
  unfold spec_l01N.f
  exact specN_l l [] h hl k (by omega)

theorem specIs_l : ∀ (B A : List Int), (∀ q ∈ A, 2 ≤ q ∧ q ≤ 4) → (A ++ B).length ≤ 8 → ∀ k, B.length + 10 < k → spec_l01Is.l0 k A.length (A ++ B) = some (decide (∀ q ∈ A ++ B, 2 ≤ q ∧ q ≤ 4) && decide (prodL (A ++ B) ≤ 1024))
  | [], A, h, hl, k, hk => by
    obtain ⟨k, rfl⟩ : ∃ q, k = q + 1 := ⟨k - 1, by simp at hk; omega⟩
    simp only [List.append_nil] at hl ⊢
    simp only [spec_l01Is.l0]
    simp only [List.length_nil] at hk
    rw [if_neg (by omega), specN_ev A h hl k (by omega), Option.bind_some]
    simp only [decide_eq_true h, Bool.true_and]
  | b :: B, A, h, hl, k, hk => by
    obtain ⟨k, rfl⟩ : ∃ q, k = q + 1 := ⟨k - 1, by simp at hk; omega⟩
    simp only [spec_l01Is.l0]
    simp only [List.length_append, List.length_cons] at hl hk
    unfold spec_l01In.f
    rw [if_pos (by simp; omega), if_pos (by omega), rd_mid]
    by_cases hb : 2 ≤ b ∧ b ≤ 4
    · rw [if_pos hb.1, Option.bind_some, if_pos (by simpa using hb.2), w64 (by omega) (by omega), show (A.length : Int) + 1 = ((A ++ [b]).length : Int) by simp]
      have := specIs_l B (A ++ [b]) (fun q hq => by simp at hq; rcases hq with hq | rfl; exact h q hq; exact hb) (by simp; omega) k (by omega)
      rw [List.append_assoc, List.singleton_append] at this
      rw [this]
    · have hd : decide (∀ q ∈ A ++ b :: B, 2 ≤ q ∧ q ≤ 4) = false := by
        rw [decide_eq_false_iff_not]; intro hh; exact hb (hh b (by simp))
      rw [hd, Bool.false_and]
      by_cases h1 : b ≥ 2
      · rw [if_pos h1, Option.bind_some, if_neg (by simp; omega)]
      · rw [if_neg h1, Option.bind_some]; rfl
instance (l : List Int) : Decidable (SpaceOk l) := by unfold SpaceOk; infer_instance
theorem specIs_ev (l : List Int) : ∀ k, 30 ≤ k → spec_l01Is.f k l = some (decide (SpaceOk l)) := by
  intro k hk
  unfold spec_l01Is.f
  by_cases h1 : 1 ≤ l.length ∧ l.length ≤ 8
  · have e : spec_l01In.f (l.length : Int) 1 8 = some true := by
      unfold spec_l01In.f; rw [if_pos (by omega)]; simp; omega
    rw [e, Option.bind_some, if_pos rfl]
    have := specIs_l l [] (by simp) (by simpa using h1.2) k (by omega)
    simp only [List.nil_append, List.length_nil] at this
    rw [show (0 : Int) = ((0 : Nat) : Int) from rfl, this]
    congr 1
    rw [Bool.eq_iff_iff]
    simp [SpaceOk, h1]
  · have e : spec_l01In.f (l.length : Int) 1 8 = some false := by
      unfold spec_l01In.f
      by_cases h2 : (l.length : Int) ≥ 1
      · rw [if_pos h2]; simp; omega
      · rw [if_neg h2]
    have hd : decide (SpaceOk l) = false := by
      rw [decide_eq_false_iff_not]; intro hh; exact h1 ⟨hh.1, hh.2.1⟩
    rw [e, Option.bind_some, hd]; rfl

theorem over1 (x1 x6 : Int) (s : List Int) (i : Nat) (hi : i < s.length) (h8 : s.length ≤ 8) (D : List Int) (hDl : D.length ≤ 8) (hD : Desc D) : ∀ a : Nat, a ≤ D.length → (∀ z ∈ D.drop a, z < s[i]) → ∀ y, ∃ D' : List Int, D'.Perm (s[i] :: D) ∧ Desc D' ∧ ∀ (r : Option Int) (K : Nat), (∀ k, K ≤ k → spec_l04Over.l0 k x1 D' x6 ((i + 1 : Nat) : Int) s = r) → ∀ k, K + a + 1 ≤ k → spec_l04Over.l1 k x1 (D.take a ++ y :: D.drop a) x6 i a s = r
  | 0, _, hz, y => by
    refine ⟨s[i] :: D, List.Perm.refl _, List.pairwise_cons.2 ⟨fun z hzm => by have := hz z (by simpa using hzm); omega, hD⟩, fun r K hr k hk => ?_⟩
    obtain ⟨k, rfl⟩ : ∃ q, k = q + 1 := ⟨k - 1, by omega⟩
    simp only [spec_l04Over.l1]
    rw [if_neg (by omega), if_pos (by omega), if_pos (by omega), if_pos (by omega), if_pos (by simp only [List.take_zero, List.nil_append, List.length_cons, List.drop_zero]; omega), rd_nat s i hi, w64 (by omega) (by omega), show (i : Int) + 1 = ((i + 1 : Nat) : Int) by omega]
    exact hr k (by omega)
  | a + 1, ha, hz, y => by
    have hal : a < D.length := by omega
    have hlen : (D.take (a + 1) ++ y :: D.drop (a + 1)).length = D.length + 1 := by simp; omega
    have e1 : rd (D.take (a + 1) ++ y :: D.drop (a + 1)) (a : Int) = D[a] := by
      simp only [rd, Int.toNat_natCast]
      rw [List.getD_eq_getElem?_getD, List.getElem?_append_left (by rw [List.length_take]; omega), List.getElem?_take_of_lt (by omega), List.getElem?_eq_getElem hal]; rfl
    have hset : ∀ v : Int, (D.take (a + 1) ++ y :: D.drop (a + 1)).set (a + 1) v = D.take (a + 1) ++ v :: D.drop (a + 1) := fun v => by
      rw [List.set_append, if_neg (by rw [List.length_take]; omega), List.length_take, show a + 1 - min (a + 1) D.length = 0 by omega]; rfl
    by_cases hlt : D[a] < s[i]
    · obtain ⟨D', p1, p2, p3⟩ := over1 x1 x6 s i hi h8 D hDl hD a (by omega) (fun z hzm => by
        rw [List.drop_eq_getElem_cons hal] at hzm
        rcases List.mem_cons.1 hzm with rfl | hzm
        · exact hlt
        · exact hz z hzm) D[a]
      refine ⟨D', p1, p2, fun r K hr k hk => ?_⟩
      obtain ⟨k, rfl⟩ : ∃ q, k = q + 1 := ⟨k - 1, by omega⟩
      have p4 := p3 r K hr k (by omega)
      simp only [spec_l04Over.l1]
      rw [if_pos (by omega), w64 (i := ((a + 1 : Nat) : Int) - 1) (by omega) (by omega), show ((a + 1 : Nat) : Int) - 1 = (a : Int) by omega, if_pos (by omega), if_pos (by omega), if_pos (by omega), if_pos (by omega), e1, rd_nat s i hi, if_pos hlt, if_pos (by omega), if_pos (by omega), Int.toNat_natCast, hset]
      have e2 : D.take (a + 1) ++ D[a] :: D.drop (a + 1) = D.take a ++ D[a] :: D.drop a := by
        rw [List.drop_eq_getElem_cons hal, List.take_succ_eq_append_getElem hal, List.append_assoc]; rfl
      rw [e2]
      exact p4
    · refine ⟨D.take (a + 1) ++ s[i] :: D.drop (a + 1), ?_, ?_, fun r K hr k hk => ?_⟩
      · have := List.perm_middle (a := s[i]) (l₁ := D.take (a + 1)) (l₂ := D.drop (a + 1))
        rwa [List.take_append_drop] at this
      · refine List.pairwise_append.2 ⟨hD.sublist (List.take_sublist _ _), List.pairwise_cons.2 ⟨fun z hzm => by have := hz z hzm; omega, hD.sublist (List.drop_sublist _ _)⟩, fun z hzm w hw => ?_⟩
        have hza : D[a] ≤ z := by
          obtain ⟨j, hj, rfl⟩ := List.mem_iff_getElem.1 hzm
          rw [List.length_take] at hj
          rw [List.getElem_take]
          by_cases hja : j = a
          · subst hja; exact Int.le_refl _
          · exact List.pairwise_iff_getElem.1 hD j a (by omega) hal (by omega)
        rcases List.mem_cons.1 hw with rfl | hw
        · omega
        · have := hz w hw; omega
      · obtain ⟨k, rfl⟩ : ∃ q, k = q + 1 := ⟨k - 1, by omega⟩
        simp only [spec_l04Over.l1]
        rw [if_pos (by omega), w64 (i := ((a + 1 : Nat) : Int) - 1) (by omega) (by omega), show ((a + 1 : Nat) : Int) - 1 = (a : Int) by omega, if_pos (by omega), if_pos (by omega), if_pos (by omega), if_pos (by omega), e1, rd_nat s i hi, if_neg hlt, if_pos (by omega), if_pos (by omega), Int.toNat_natCast, hset, w64 (by omega) (by omega), show (i : Int) + 1 = ((i + 1 : Nat) : Int) by omega]
        exact hr k (by omega)
theorem over0 (x1 x6 : Int) (s : List Int) (h8 : s.length ≤ 8) : ∀ d i : Nat, i + d = s.length → ∀ D : List Int, D.Perm (s.take i) → Desc D → ∃ D' : List Int, D'.Perm s ∧ Desc D' ∧ ∀ (r : Option Int) (K : Nat), (∀ k, K ≤ k → spec_l04Over.l2 k x1 D' x6 0 = r) → ∀ k, K + 20 * d + 1 ≤ k → spec_l04Over.l0 k x1 D x6 i s = r
  | 0, i, e, D, hp, hD => by
    refine ⟨D, by rwa [List.take_of_length_le (by omega)] at hp, hD, fun r K hr k hk => ?_⟩
    obtain ⟨k, rfl⟩ : ∃ q, k = q + 1 := ⟨k - 1, by omega⟩
    simp only [spec_l04Over.l0]
    rw [if_neg (by omega)]
    exact hr k (by omega)
  | d + 1, i, e, D, hp, hD => by
    have hi : i < s.length := by omega
    have hDl : D.length = i := by rw [hp.length_eq, List.length_take]; omega
    obtain ⟨D1, p1, p2, p3⟩ := over1 x1 x6 s i hi h8 D (by omega) hD D.length (Nat.le_refl _) (by simp) (rd s (i : Int))
    obtain ⟨D', q1, q2, q3⟩ := over0 x1 x6 s h8 d (i + 1) (by omega) D1 (by
      refine p1.trans ?_
      rw [List.take_succ_eq_append_getElem hi]
      exact (List.Perm.cons _ hp).trans (List.perm_append_singleton _ _).symm) p2
    refine ⟨D', q1, q2, fun r K hr k hk => ?_⟩
    obtain ⟨k, rfl⟩ : ∃ q, k = q + 1 := ⟨k - 1, by omega⟩
    simp only [spec_l04Over.l0]
    rw [if_pos (by omega), if_pos (by omega), if_pos (by omega)]
    have := p3 r (K + 20 * d + 1) (fun k hk => q3 r K hr k hk) k (by omega)
    rw [List.take_length, List.drop_length] at this
    exact this
theorem over2 (D : List Int) (h8 : D.length ≤ 8) (hq : ∀ q ∈ D, 2 ≤ q ∧ q ≤ 4) (b : Nat) (hb : b ≤ D.length) : ∀ d j : Nat, j + d = b → ∀ k, d + 1 ≤ k → spec_l04Over.l2 k b D (prodL (D.drop j)) j = some (prodL (D.drop b))
  | 0, j, e, k, hk => by
    obtain ⟨k, rfl⟩ : ∃ q, k = q + 1 := ⟨k - 1, by omega⟩
    obtain rfl : j = b := by omega
    simp only [spec_l04Over.l2]
    rw [if_neg (by omega)]
  | d + 1, j, e, k, hk => by
    obtain ⟨k, rfl⟩ : ∃ q, k = q + 1 := ⟨k - 1, by omega⟩
    have hj : j < D.length := by omega
    have hqj := hq _ (List.getElem_mem hj)
    have hB := prodL_le8 (D.drop (j + 1)) (fun q h => hq q (List.mem_of_mem_drop h)) (by rw [List.length_drop]; omega)
    have hA := prodL_le8 (D.drop j) (fun q h => hq q (List.mem_of_mem_drop h)) (by rw [List.length_drop]; omega)
    have e1 : Int.tdiv (prodL (D.drop j)) D[j] = prodL (D.drop (j + 1)) := by
      rw [List.drop_eq_getElem_cons hj]
      simp only [prodL]
      rw [Int.mul_comm]
      exact Int.mul_tdiv_cancel _ (by omega)
    simp only [spec_l04Over.l2]
    rw [if_pos (by omega), if_pos (by omega), if_pos (by omega), rd_nat D j hj, if_neg (by omega), e1, w64 (by omega) (by omega), w64 (by omega) (by omega), show (j : Int) + 1 = ((j + 1 : Nat) : Int) by omega]
    exact over2 D h8 hq b hb d (j + 1) (by omega) k (by omega)
theorem prodTake (l : List Int) (h8 : l.length ≤ 8) (hq : ∀ q ∈ l, 2 ≤ q ∧ q ≤ 4) : ∀ (B A : List Int), A ++ B = l → ∀ k, B.length < k → impl_dividedBy.l0 k (prodL A) l l.length A.length = some (prodL l)
  | [], A, e, k, hk => by
    obtain ⟨k, rfl⟩ : ∃ q, k = q + 1 := ⟨k - 1, by simp at hk; omega⟩
    rw [List.append_nil] at e
    subst e
    simp only [impl_dividedBy.l0]
    rw [if_neg (by omega)]
  | b :: B, A, e, k, hk => by
    obtain ⟨k, rfl⟩ : ∃ q, k = q + 1 := ⟨k - 1, by simp at hk; omega⟩
    have hb := hq b (by rw [← e]; simp)
    have hl : A.length + (B.length + 1) = l.length := by rw [← e]; simp
    have hA := prodL_le8 (A ++ [b]) (fun q h => hq q (by rw [← e]; simp at h ⊢; rcases h with h | h <;> simp [h])) (by simp; omega)
    rw [prodL_snoc] at hA
    have e1 : rd l (A.length : Int) = b := by rw [← e, rd_mid]
    simp only [impl_dividedBy.l0]
    simp only [List.length_cons] at hk
    rw [if_pos (by omega), if_pos (by omega), if_pos (by omega), e1, w64 (by omega) (by omega), w64 (by omega) (by omega), ← prodL_snoc, show (A.length : Int) + 1 = ((A ++ [b]).length : Int) by simp]
    exact prodTake l h8 hq B (A ++ [b]) (by rw [← e]; simp) k (by omega)
theorem over_both (s : List Int) (hs : SpaceOk s) (b : Nat) (h1 : 1 ≤ b) (hb : b ≤ s.length) : ∃ p : Int, 1 ≤ p ∧ p ≤ 65536 ∧ ∀ k, 300 ≤ k → spec_l04Over.f k s b = some p ∧ impl_dividedBy.f k s b = some p := by
  have h8 := hs.2.1
  obtain ⟨D, p1, p2, p3⟩ := over0 b (prodL s) s h8 s.length 0 (by omega) [] (by simp) List.Pairwise.nil
  have hDl : D.length = s.length := p1.length_eq
  have hqD : ∀ q ∈ D, 2 ≤ q ∧ q ≤ 4 := fun q hq => hs.2.2.1 q (p1.mem_iff.1 hq)
  have hpD := prodL_le8 (D.drop b) (fun q h => hqD q (List.mem_of_mem_drop h)) (by rw [List.length_drop]; omega)
  refine ⟨prodL (D.drop b), hpD.1, hpD.2, fun k hk => ⟨?_, ?_⟩⟩
  · unfold spec_l04Over.f
    rw [specN_ev s hs.2.2.1 h8 k (by omega), Option.bind_some]
    refine p3 _ 30 (fun k hk => ?_) k (by omega)
    have := over2 D (by omega) hqD b (by omega) b 0 (by omega) k (by omega)
    rw [List.drop_zero, perm_prodL p1] at this
    exact this
  · have hsrt := sorted_is s D p1 p2
    unfold impl_dividedBy.f slices_Clone_int64_int64.f slices_Sort_int64_int64.f impl_places.f
    rw [if_pos (by omega), Option.bind_some, if_pos (by omega), Option.bind_some, Option.bind_some, hsrt, w64 (by omega) (by omega)]
    have hm : mx ((s.length : Int) - (b : Int)) 0 = ((s.length - b : Nat) : Int) := by unfold mx; split <;> omega
    rw [hm, if_pos (by omega), if_pos (by omega), Option.bind_some, Int.toNat_natCast, List.take_reverse, hDl, show s.length - (s.length - b) = b by omega]
    have := prodTake (D.drop b).reverse (by simp; omega) (fun q h => hqD q (List.mem_of_mem_drop (List.mem_reverse.1 h))) (D.drop b).reverse [] rfl k (by simp; omega)
    rw [perm_prodL (List.reverse_perm (D.drop b))] at this
    exact this

theorem implIs_l : ∀ (B A : List Int), (∀ q ∈ A, 2 ≤ q ∧ q ≤ 4) → (A ++ B).length ≤ 8 → ∀ k, B.length < k → impl_IsSpace.l0 k (prodL A) (A ++ B) (A ++ B).length A.length = some (decide (∀ q ∈ A ++ B, 2 ≤ q ∧ q ≤ 4) && decide (prodL (A ++ B) ≤ 1024))
  | [], A, h, hl, k, hk => by
    obtain ⟨k, rfl⟩ : ∃ q, k = q + 1 := ⟨k - 1, by simp at hk; omega⟩
    simp only [List.append_nil] at hl ⊢
    simp only [impl_IsSpace.l0]
    rw [if_neg (by omega)]
    simp only [decide_eq_true h, Bool.true_and]
  | b :: B, A, h, hl, k, hk => by
    obtain ⟨k, rfl⟩ : ∃ q, k = q + 1 := ⟨k - 1, by simp at hk; omega⟩
    simp only [impl_IsSpace.l0]
    simp only [List.length_append, List.length_cons] at hl hk
    rw [if_pos (by simp; omega), if_pos (by omega), if_pos (by simp; omega), rd_mid]
    by_cases hb : 2 ≤ b ∧ b ≤ 4
    · have hA := prodL_le8 (A ++ [b]) (fun q hq => by simp at hq; rcases hq with hq | rfl; exact h q hq; exact hb) (by simp; omega)
      rw [prodL_snoc] at hA
      rw [if_neg (by omega), if_neg (by omega), w64 (by omega) (by omega), w64 (by omega) (by omega), ← prodL_snoc, show (A.length : Int) + 1 = ((A ++ [b]).length : Int) by simp]
      have := implIs_l B (A ++ [b]) (fun q hq => by simp at hq; rcases hq with hq | rfl; exact h q hq; exact hb) (by simp; omega) k (by omega)
      rw [List.append_assoc, List.singleton_append] at this
      rw [this]
    · have hd : decide (∀ q ∈ A ++ b :: B, 2 ≤ q ∧ q ≤ 4) = false := by
        rw [decide_eq_false_iff_not]; intro hh; exact hb (hh b (by simp))
      rw [hd, Bool.false_and]
      by_cases h1 : b < 2
      · rw [if_pos h1]
      · rw [if_neg h1, if_pos (by omega)]
theorem implIs_ev (l : List Int) : ∀ k, 30 ≤ k → impl_IsSpace.f k l = some (decide (SpaceOk l)) := by
  intro k hk
  obtain ⟨k, rfl⟩ : ∃ q, k = q + 1 := ⟨k - 1, by omega⟩
  unfold impl_IsSpace.f
  by_cases h1 : 1 ≤ l.length ∧ l.length ≤ 8
  · have e : decide ((l.length : Int) > 8) = false := by simp; omega
    rw [if_neg (by omega), e]
    simp only [impl_IsSpace.j0]
    rw [if_neg (by decide)]
    have := implIs_l l [] (by simp) (by simpa using h1.2) k (by omega)
    simp only [List.nil_append, List.length_nil, prodL] at this
    rw [show (0 : Int) = ((0 : Nat) : Int) from rfl, this]
    congr 1
    rw [Bool.eq_iff_iff]
    simp [SpaceOk, h1]
  · have hd : decide (SpaceOk l) = false := by
      rw [decide_eq_false_iff_not]; intro hh; exact h1 ⟨hh.1, hh.2.1⟩
    rw [hd]
    by_cases h2 : (l.length : Int) < 1
    · rw [if_pos h2]; simp [impl_IsSpace.j0]
    · have e : decide ((l.length : Int) > 8) = true := by simp; omega
      rw [if_neg h2, e]; simp [impl_IsSpace.j0]

/-- What a code's words are: ascending, all of them words. -/
def CodeOk (n : Int) (l : List Int) : Prop := ∀ j (hj : j < l.length), (0 ≤ l[j] ∧ l[j] < n) ∧ ∀ h0 : 0 < j, l[j-1]'(by omega) < l[j]
theorem CodeOk.len {n : Int} {l : List Int} (h : CodeOk n l) : l.length = 0 ∨ (l.length : Int) ≤ n := by
  have key : ∀ j (hj : j < l.length), (j : Int) ≤ l[j] := by
    intro j
    induction j with
    | zero => intro hj; have := (h 0 hj).1; omega
    | succ j ih =>
      intro hj
      have h1 := ih (by omega)
      have h2 := (h (j+1) hj).2 (by omega)
      simp only [Nat.add_sub_cancel] at h2
      omega
  by_cases h0 : l.length = 0
  · exact .inl h0
  · right
    have h1 := key (l.length - 1) (by omega)
    have h2 := (h (l.length - 1) (by omega)).1
    omega

theorem implCount_l : ∀ (B A : List Int), (∀ q ∈ A ++ B, 2 ≤ q ∧ q ≤ 4) → (A ++ B).length ≤ 8 → ∀ k, B.length < k → impl_count.l0 k (prodL A) (A ++ B) (A ++ B).length A.length = some (prodL (A ++ B))
  | [], A, h, hl, k, hk => by
    obtain ⟨k, rfl⟩ : ∃ q, k = q + 1 := ⟨k - 1, by simp at hk; omega⟩
    simp only [impl_count.l0]
    rw [if_neg (by simp)]; simp
  | b :: B, A, h, hl, k, hk => by
    obtain ⟨k, rfl⟩ : ∃ q, k = q + 1 := ⟨k - 1, by simp at hk; omega⟩
    have hb := h b (by simp)
    have hA := prodL_le8 (A ++ [b]) (fun q hq => h q (by simp at hq ⊢; rcases hq with hq | hq <;> simp [hq])) (by simp at hl ⊢; omega)
    rw [prodL_snoc] at hA
    simp only [impl_count.l0]
    simp only [List.length_append, List.length_cons] at hl hk
    rw [if_pos (by simp; omega), if_pos (by omega), if_pos (by simp; omega), rd_mid, w64 (by omega) (by omega), w64 (by omega) (by omega), ← prodL_snoc, show (A.length : Int) + 1 = ((A ++ [b]).length : Int) by simp]
    have := implCount_l B (A ++ [b]) (by simpa using h) (by simp; omega) k (by omega)
    simpa using this
theorem implCount_ev (l : List Int) (h : ∀ q ∈ l, 2 ≤ q ∧ q ≤ 4) (hl : l.length ≤ 8) : ∀ k, 10 ≤ k → impl_count.f k l = some (prodL l) := by
  intro k hk
  unfold impl_count.f
  exact implCount_l l [] h hl k (by omega)

theorem areWords_l (n : Int) (l : List Int) (hl : l.length ≤ 4611686018427387904) : ∀ d i : Nat, i + d = l.length → ∃ b : Bool, (b = true ↔ ∀ j (hj : j < l.length), i ≤ j → 0 ≤ l[j] ∧ l[j] < n) ∧ ∀ k, d + 1 ≤ k → impl_areWords.l0 k n l l.length i = some b
  | 0, i, e => by
    refine ⟨true, ⟨fun _ j hj hi => by omega, fun _ => rfl⟩, fun k hk => ?_⟩
    obtain ⟨k, rfl⟩ : ∃ q, k = q + 1 := ⟨k - 1, by omega⟩
    simp only [impl_areWords.l0]; rw [if_neg (by omega)]
  | d+1, i, e => by
    have hi : i < l.length := by omega
    have hr := rd_nat l i hi
    have hw : wrap64 ((i : Int) + 1) = ((i + 1 : Nat) : Int) := by rw [w64 (by omega) (by omega)]; omega
    obtain ⟨b, hb, g⟩ := areWords_l n l hl d (i+1) (by omega)
    by_cases hin : 0 ≤ l[i] ∧ l[i] < n
    · refine ⟨b, ⟨fun h j hj hij => ?_, fun h => hb.2 fun j hj hij => h j hj (by omega)⟩, fun k hk => ?_⟩
      · by_cases hji : j = i
        · subst hji; exact hin
        · exact hb.1 h j hj (by omega)
      · obtain ⟨k, rfl⟩ : ∃ q, k = q + 1 := ⟨k - 1, by omega⟩
        simp only [impl_areWords.l0]
        rw [if_pos (by omega), if_pos (by omega), if_pos (by omega), hr, if_neg (by omega), if_neg (by omega), hw]
        exact g k (by omega)
    · refine ⟨false, ⟨fun h => absurd h (by decide), fun h => absurd (h i hi (by omega)) hin⟩, fun k hk => ?_⟩
      obtain ⟨k, rfl⟩ : ∃ q, k = q + 1 := ⟨k - 1, by omega⟩
      simp only [impl_areWords.l0]
      rw [if_pos (by omega), if_pos (by omega), if_pos (by omega), hr]
      by_cases h1 : l[i] < 0
      · rw [if_pos h1]
      · rw [if_neg h1, if_pos (by omega)]
theorem areWords_ev (s : List Int) (hs : SpaceOk s) (l : List Int) (hl : l.length ≤ 4611686018427387904) : ∃ b : Bool, (b = true ↔ ∀ j (hj : j < l.length), 0 ≤ l[j] ∧ l[j] < prodL s) ∧ ∀ k, l.length + 12 ≤ k → impl_areWords.f k s l = some b := by
  obtain ⟨b, h, g⟩ := areWords_l (prodL s) l hl l.length 0 (by omega)
  refine ⟨b, ⟨fun hb j hj => h.1 hb j hj (by omega), fun hc => h.2 fun j hj _ => hc j hj⟩, fun k hk => ?_⟩
  unfold impl_areWords.f
  rw [implCount_ev s hs.2.2.1 hs.2.1 k (by omega), Option.bind_some]
  exact g k (by omega)

theorem rowsNil (s : List Int) (b : Int) (k : Nat) (hk : 60 ≤ k) : impl_rowsCode.f k s [] b = some (if SpaceOk s then (if 1 ≤ b ∧ b ≤ mn 3 (s.length : Int) then 0 else 2) else 1) := by
  unfold impl_rowsCode.f
  rw [implIs_ev s k (by omega)]
  by_cases hs : SpaceOk s
  · obtain ⟨c, hc, g⟩ := areWords_ev s hs [] (by simp)
    have : c = true := hc.2 (fun j hj => by simp at hj)
    subst this
    rw [decide_eq_true hs, Option.bind_some, if_pos rfl, if_neg (by simp), g k (by simp; omega), Option.bind_some, if_pos rfl, if_pos hs]
    have e : impl_isStrength.f s b = some (decide (1 ≤ b ∧ b ≤ mn 3 (s.length : Int))) := by
      unfold impl_isStrength.f impl_places.f
      by_cases h1 : b ≥ 1
      · rw [if_pos h1, Option.bind_some]; congr 1; rw [Bool.eq_iff_iff]; simp; omega
      · rw [if_neg h1]; congr 1; rw [Bool.eq_iff_iff]; simp; omega
    rw [e, Option.bind_some]
    by_cases hb : 1 ≤ b ∧ b ≤ mn 3 (s.length : Int)
    · rw [decide_eq_true hb, if_pos rfl, if_pos hb]
    · rw [decide_eq_false hb, if_neg (by decide), if_neg hb]
  · rw [decide_eq_false hs, Option.bind_some, if_neg (by decide), if_neg hs]
theorem codeNil (s : List Int) (b : Int) (k : Nat) (hk : 60 ≤ k) : spec_l10Code.f k s b = some (if SpaceOk s then (if 1 ≤ b ∧ b ≤ mn 3 (s.length : Int) then 0 else 2) else 1) := by
  unfold spec_l10Code.f
  rw [specIs_ev s k (by omega)]
  by_cases hs : SpaceOk s
  · rw [decide_eq_true hs, Option.bind_some, if_pos rfl, if_pos hs]
    have e : spec_l01In.f b 1 (mn 3 (s.length : Int)) = some (decide (1 ≤ b ∧ b ≤ mn 3 (s.length : Int))) := by
      unfold spec_l01In.f
      by_cases h1 : b ≥ 1
      · rw [if_pos h1]; congr 1; rw [Bool.eq_iff_iff]; simp; omega
      · rw [if_neg h1]; congr 1; rw [Bool.eq_iff_iff]; simp; omega
    rw [e, Option.bind_some]
    by_cases hb : 1 ≤ b ∧ b ≤ mn 3 (s.length : Int)
    · rw [decide_eq_true hb, if_pos rfl, if_pos hb]
    · rw [decide_eq_false hb, if_neg (by decide), if_neg hb]
  · rw [decide_eq_false hs, Option.bind_some, if_neg (by decide), if_neg hs]

theorem eq_l (l : List Int) (hl : l.length ≤ 4611686018427387904) : ∀ d i : Nat, i + d = l.length → ∀ k, d < k → laws_eqInt64S.l0 k l l i = some true
  | 0, i, e, k, hk => by
    obtain ⟨k, rfl⟩ : ∃ q, k = q + 1 := ⟨k - 1, by omega⟩
    simp only [laws_eqInt64S.l0]; rw [if_neg (by omega)]
  | d+1, i, e, k, hk => by
    obtain ⟨k, rfl⟩ : ∃ q, k = q + 1 := ⟨k - 1, by omega⟩
    simp only [laws_eqInt64S.l0]
    rw [if_pos (by omega), if_pos (by omega), if_pos (by omega), if_pos trivial, w64 (by omega) (by omega), show (i : Int) + 1 = ((i + 1 : Nat) : Int) by omega]
    exact eq_l l hl d (i+1) (by omega) k (by omega)
theorem eq_ev (l : List Int) (hl : l.length ≤ 4611686018427387904) (k : Nat) (hk : l.length < k) : laws_eqInt64S.f k l l = some true := by
  unfold laws_eqInt64S.f
  rw [if_pos rfl]
  exact eq_l l hl l.length 0 (by omega) k hk

theorem to_l (l : List Int) (hl : l.length ≤ 4611686018427387904) : ∀ (B A : List Int), l = A ++ B → ∀ k, B.length < k → laws_toInt64S.l0 k l (A ++ List.replicate B.length 0) A.length = some l
  | [], A, e, k, hk => by
    obtain ⟨k, rfl⟩ : ∃ q, k = q + 1 := ⟨k - 1, by simp at hk; omega⟩
    simp only [laws_toInt64S.l0]
    simp at e
    subst e
    rw [if_neg (by omega)]; simp
  | b :: B, A, e, k, hk => by
    obtain ⟨k, rfl⟩ : ∃ q, k = q + 1 := ⟨k - 1, by simp at hk; omega⟩
    simp only [laws_toInt64S.l0]
    have hlen : l.length = A.length + (B.length + 1) := by rw [e]; simp
    rw [if_pos (by omega), if_pos (by omega), if_pos (by simp; omega)]
    have hb : rd l (A.length : Int) = b := by rw [e]; exact rd_mid A B b
    rw [hb, List.length_cons, List.replicate_succ, Int.toNat_natCast, set_mid, w64 (by omega) (by omega), show (A.length : Int) + 1 = ((A ++ [b]).length : Int) by simp]
    exact to_l l hl B (A ++ [b]) (by rw [e]; simp) k (by simp at hk; omega)
theorem to_ev (l : List Int) (hl : l.length ≤ 1048576) (k : Nat) (hk : 1048576 < k) : laws_toInt64S.f k l = some l := by
  unfold laws_toInt64S.f
  rw [if_pos (by omega), if_pos (by omega), Int.toNat_natCast]
  exact to_l l (by omega) l [] rfl k (by omega)

theorem sz_le (l : List Int) (h : l.length ≤ 1048576) : ∃ z : Int, laws_szSpace.f l 1048576 = some z ∧ ¬ z < 0 := by
  unfold laws_szSpace.f laws_szInt64S.f
  rw [w64 (by omega) (by omega), if_neg (by omega)]
  simp only [Option.bind_some]
  rw [if_neg (by omega)]
  exact ⟨_, rfl, by omega⟩
theorem sz_gt (l : List Int) (h : 1048576 < l.length) (hm : l.length ≤ 9223372036854775807) : ∃ z : Int, laws_szSpace.f l 1048576 = some z ∧ z < 0 := by
  unfold laws_szSpace.f laws_szInt64S.f
  rw [w64 (by omega) (by omega), if_pos (by omega)]
  exact ⟨-1, rfl, by omega⟩
theorem toSp_ev (l : List Int) (hl : l.length ≤ 1048576) (k : Nat) (hk : 1048576 < k) : laws_toSpace.f k l = some l := by
  unfold laws_toSpace.f
  rw [to_ev l hl k hk]; rfl
theorem eqSp_ev (l : List Int) (hl : l.length ≤ 4611686018427387904) (k : Nat) (hk : l.length < k) : laws_eqSpace.f k l l = some true := by
  unfold laws_eqSpace.f
  rw [eq_ev l hl k hk]; rfl

theorem choiceBound_both (s : List Int) (b : Int) : ∃ z e : Int, ∀ k, 400 ≤ k → spec_ChoiceBound.f k s b = some (z, e) ∧ impl_ChoiceBound.f k s b = some (z, e) := by
  obtain ⟨c, hc⟩ : ∃ c : Int, c = (if SpaceOk s then (if 1 ≤ b ∧ b ≤ mn 3 (s.length : Int) then 0 else 2) else 1) := ⟨_, rfl⟩
  by_cases h0 : c = 0
  · have hs : SpaceOk s := Classical.byContradiction fun h => by rw [if_neg h] at hc; omega
    rw [if_pos hs] at hc
    have hb : 1 ≤ b ∧ b ≤ mn 3 (s.length : Int) := Classical.byContradiction fun h => by rw [if_neg h] at hc; omega
    have hbs : b ≤ (s.length : Int) := by have := hb.2; unfold mn at this; split at this <;> omega
    obtain ⟨m, rfl⟩ : ∃ m : Nat, b = m := ⟨b.toNat, by omega⟩
    obtain ⟨p, p1, p2, hp⟩ := over_both s hs m (by omega) (by omega)
    refine ⟨wrap64 (Int.tdiv (prodL s) p), 0, fun k hk => ⟨?_, ?_⟩⟩
    · unfold spec_ChoiceBound.f
      rw [codeNil s m k (by omega), if_pos hs, if_pos hb, Option.bind_some, if_pos rfl, specN_ev s hs.2.2.1 hs.2.1 k (by omega), Option.bind_some, (hp k (by omega)).1, Option.bind_some, if_neg (by omega)]
    · unfold impl_ChoiceBound.f
      rw [rowsNil s m k (by omega), if_pos hs, if_pos hb, Option.bind_some, if_pos rfl, implCount_ev s hs.2.2.1 hs.2.1 k (by omega), Option.bind_some, (hp k (by omega)).2, Option.bind_some, if_neg (by omega)]
  · refine ⟨0, c, fun k hk => ⟨?_, ?_⟩⟩
    · unfold spec_ChoiceBound.f
      rw [codeNil s b k (by omega), ← hc, Option.bind_some, if_neg h0]
    · unfold impl_ChoiceBound.f
      rw [rowsNil s b k (by omega), ← hc, Option.bind_some, if_neg h0]
theorem FnExactChoiceBound (l0 : List Int) (_ : l0.length ≤ maxLen) (_ : ∀ x ∈ l0, (Lit.int .i64 x).wf = true) (a : Int) (_ : (Lit.int .i64 a).wf = true) : ∃ k, laws_FnExactChoiceBound.f k l0 a = some true := by
  rename_i hm0 _ _
  unfold maxLen at hm0
  by_cases h0 : 1048576 < l0.length
  · obtain ⟨z, hz, hz0⟩ := sz_gt l0 h0 (by omega)
    refine ⟨0, ?_⟩
    unfold laws_FnExactChoiceBound.f
    rw [hz, Option.bind_some, if_pos hz0]
  have hl0 : l0.length ≤ 1048576 := by omega
  obtain ⟨z, hz, hz0⟩ := sz_le l0 hl0
  obtain ⟨v, e, hb⟩ := choiceBound_both l0 a
  obtain ⟨k, hk⟩ : ∃ k : Nat, 1100000 ≤ k := ⟨1100000, Nat.le_refl _⟩
  refine ⟨k + 1, ?_⟩
  unfold laws_FnExactChoiceBound.f
  rw [hz, Option.bind_some, if_neg hz0, toSp_ev l0 hl0 (k+1) (by omega), Option.bind_some, (hb (k+1) (by omega)).1]
  simp only [Option.bind_some]
  rw [(hb (k+1) (by omega)).2]
  simp only [Option.bind_some, bne_self_eq_false, laws_FnExactChoiceBound.j0, if_true, Bool.false_eq_true, if_false]
  rw [toSp_ev l0 hl0 k (by omega), Option.bind_some, eqSp_ev l0 (by omega) k (by omega)]
  rfl

end Go.Proofs.Ythjkdnneagnejaa.Pure
