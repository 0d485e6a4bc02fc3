/- Whether a list of codes is a chain is told alike, and the arguments are left alone. For every space and list of lists; longer ones than 1048576 in all are answered true. -/
import Derived.Test.YthbfaefneoeadaaPFnExactIsChainx0
import Derived.Test.YthbfaefneoeadaaPFnExactIsChainx1
import Derived.Test.YthbfaefneoeadaaPFnExactIsChainx2
import Derived.Test.YthbfaefneoeadaaPFnExactIsChainx3
import Derived.Test.YthbfaefneoeadaaPFnExactIsChainx4
import Derived.Test.YthbfaefneoeadaaPFnExactIsChainx5
import Derived.Test.YthbfaefneoeadaaPFnExactIsChainx6
import Derived.KernelRfl
namespace Go.Proofs.Ythbfaefneoeadaa.Pure
open Go Go.RowKit Go.Proofs.Ythbfaefneoeadaa.PFnExactIsChain Go.Proofs.YthbfaefneoeadaaW.PrintWords Go.Proofs.YthbfaefneoeadaaW.PrintLast Go.Proofs.YthbfaefneoeadaaW.PrintMore Go.Proofs.Ythbfaefneoeadaa.DG
set_option linter.unusedVariables false
set_option linter.unusedSimpArgs false
theorem shl_one : ∀ n, n < 13 → shl .i64 1 ((n : Nat) : Int) = ((2 ^ n : Nat) : Int) := by decide +kernel
theorem pow_le {n : Nat} (h : n ≤ 12) : 2 ^ n ≤ 4096 := Nat.pow_le_pow_right (n := 2) (by omega) h
theorem w64 {i : Int} (h0 : -9223372036854775808 ≤ i) (h : i < 9223372036854775808) : wrap64 i = i := by unfold wrap64; omega
theorem u64 {i : Int} (h0 : 0 ≤ i) (h : i < 9223372036854775808) : IntKind.u64.wrap i = i := by
  have e : IntKind.u64.wrap i = i % 18446744073709551616 := by simp [IntKind.wrap, IntKind.bits, IntKind.signed]
  rw [e]; omega
def allN (p : Nat → Bool) : Nat → Bool
  | 0 => true
  | n+1 => p n && allN p n
theorem allN_at (p : Nat → Bool) : ∀ n, allN p n = true → ∀ s, s < n → p s = true
  | 0, _, s, h => by omega
  | n+1, h, s, hs => by
    simp only [allN, Bool.and_eq_true] at h
    by_cases e : s = n
    · subst e; exact h.1
    · exact allN_at p n h.2 s (by omega)

theorem set_mid (A B : List Int) (b s : Int) : (A ++ b :: B).set A.length s = (A ++ [s]) ++ B := by
  induction A with
  | nil => rfl
  | cons a A ih => simp [List.set_cons_succ]
theorem rd_mid (A B : List Int) (b : Int) : rd (A ++ b :: B) (A.length : Int) = b := by simp [rd]
theorem rd_nat (M : List Int) (i : Nat) (h : i < M.length) : rd M (i : Int) = M[i] := by simp [rd, List.getElem?_eq_getElem h]
def seqI : Int → Nat → List Int
  | _, 0 => []
  | s, n+1 => s :: seqI (s+1) n

def prodL : List Int → Int
  | [] => 1
  | q :: r => q * prodL r
theorem prodL_snoc (l : List Int) (q : Int) : prodL (l ++ [q]) = prodL l * q := by
  induction l with
  | nil => simp [prodL]
  | cons a l ih => simp only [List.cons_append, prodL, ih]; rw [Int.mul_assoc]
theorem prodL_bound : ∀ (l : List Int), (∀ q ∈ l, 2 ≤ q ∧ q ≤ 4) → 1 ≤ prodL l ∧ prodL l ≤ (4 : Int) ^ l.length
  | [], _ => by simp [prodL]
  | q :: r, h => by
    have h1 := h q (by simp)
    obtain ⟨h2, h3⟩ := prodL_bound r (fun x hx => h x (by simp [hx]))
    simp only [prodL, List.length_cons, Int.pow_succ]
    have hp : (0 : Int) ≤ 4 ^ r.length := Int.le_of_lt (Int.pow_pos (by omega))
    constructor
    · have : 1 * 1 ≤ q * prodL r := Int.mul_le_mul (by omega) h2 (by omega) (by omega)
      omega
    · rw [Int.mul_comm (4 ^ r.length) 4]
      exact Int.mul_le_mul h1.2 h3 (by omega) (by omega)
theorem prodL_le8 (l : List Int) (h : ∀ q ∈ l, 2 ≤ q ∧ q ≤ 4) (hl : l.length ≤ 8) : 1 ≤ prodL l ∧ prodL l ≤ 65536 := by
  obtain ⟨h1, h2⟩ := prodL_bound l h
  refine ⟨h1, Int.le_trans h2 ?_⟩
  have : ∀ n, n < 9 → (4 : Int) ^ n ≤ 65536 := by decide
  exact this _ (by omega)
/-- What a space's sizes are. -/
def SpaceOk (l : List Int) : Prop := 1 ≤ l.length ∧ l.length ≤ 8 ∧ (∀ q ∈ l, 2 ≤ q ∧ q ≤ 4) ∧ prodL l ≤ 1024

theorem specN_l : ∀ (B A : List Int), (∀ q ∈ A ++ B, 2 ≤ q ∧ q ≤ 4) → (A ++ B).length ≤ 8 → ∀ k, B.length < k → spec_l01N.l0 k (prodL A) A.length (A ++ B) = some (prodL (A ++ B))
  | [], A, h, hl, k, hk => by
    obtain ⟨k, rfl⟩ : ∃ q, k = q + 1 := ⟨k - 1, by simp at hk; omega⟩
    simp only [spec_l01N.l0]
    rw [if_neg (by simp)]; simp
  | b :: B, A, h, hl, k, hk => by
    obtain ⟨k, rfl⟩ : ∃ q, k = q + 1 := ⟨k - 1, by simp at hk; omega⟩
    have hb := h b (by simp)
    have hA := prodL_le8 (A ++ [b]) (fun q hq => h q (by simp at hq ⊢; rcases hq with hq | hq <;> simp [hq])) (by simp at hl ⊢; omega)
    rw [prodL_snoc] at hA
    simp only [spec_l01N.l0]
    simp only [List.length_append, List.length_cons] at hl hk
    rw [if_pos (by simp; omega), if_pos (by omega), rd_mid, w64 (by omega) (by omega), w64 (by omega) (by omega), ← prodL_snoc, show (A.length : Int) + 1 = ((A ++ [b]).length : Int) by simp]
    have := specN_l B (A ++ [b]) (by simpa using h) (by simp; omega) k (by omega)
    simpa using this
theorem specN_ev (l : List Int) (h : ∀ q ∈ l, 2 ≤ q ∧ q ≤ 4) (hl : l.length ≤ 8) : ∀ k, 10 ≤ k → spec_l01N.f k l = some (prodL l) := by
  intro k hk
  unfold spec_l01N.f
  exact specN_l l [] h hl k (by omega)

theorem specIs_l : ∀ (B A : List Int), (∀ q ∈ A, 2 ≤ q ∧ q ≤ 4) → (A ++ B).length ≤ 8 → ∀ k, B.length + 10 < k → spec_l01Is.l0 k A.length (A ++ B) = some (decide (∀ q ∈ A ++ B, 2 ≤ q ∧ q ≤ 4) && decide (prodL (A ++ B) ≤ 1024))
  | [], A, h, hl, k, hk => by
    obtain ⟨k, rfl⟩ : ∃ q, k = q + 1 := ⟨k - 1, by simp at hk; omega⟩
    simp only [List.append_nil] at hl ⊢
    simp only [spec_l01Is.l0]
    simp only [List.length_nil] at hk
    rw [if_neg (by omega), specN_ev A h hl k (by omega), Option.bind_some]
    simp only [decide_eq_true h, Bool.true_and]
  | b :: B, A, h, hl, k, hk => by
    obtain ⟨k, rfl⟩ : ∃ q, k = q + 1 := ⟨k - 1, by simp at hk; omega⟩
    simp only [spec_l01Is.l0]
    simp only [List.length_append, List.length_cons] at hl hk
    unfold spec_l01In.f
    rw [if_pos (by simp; omega), if_pos (by omega), rd_mid]
    by_cases hb : 2 ≤ b ∧ b ≤ 4
    · rw [if_pos hb.1, Option.bind_some, if_pos (by simpa using hb.2), w64 (by omega) (by omega), show (A.length : Int) + 1 = ((A ++ [b]).length : Int) by simp]
      have := specIs_l B (A ++ [b]) (fun q hq => by simp at hq; rcases hq with hq | rfl; exact h q hq; exact hb) (by simp; omega) k (by omega)
      rw [List.append_assoc, List.singleton_append] at this
      rw [this]
    · have hd : decide (∀ q ∈ A ++ b :: B, 2 ≤ q ∧ q ≤ 4) = false := by
        rw [decide_eq_false_iff_not]; intro hh; exact hb (hh b (by simp))
      rw [hd, Bool.false_and]
      by_cases h1 : b ≥ 2
      · rw [if_pos h1, Option.bind_some, if_neg (by simp; omega)]
      · rw [if_neg h1, Option.bind_some]; rfl
instance (l : List Int) : Decidable (SpaceOk l) := by unfold SpaceOk; infer_instance
theorem specIs_ev (l : List Int) : ∀ k, 30 ≤ k → spec_l01Is.f k l = some (decide (SpaceOk l)) := by
  intro k hk
  unfold spec_l01Is.f
  by_cases h1 : 1 ≤ l.length ∧ l.length ≤ 8
  · have e : spec_l01In.f (l.length : Int) 1 8 = some true := by
      unfold spec_l01In.f; rw [if_pos (by omega)]; simp; omega
    rw [e, Option.bind_some, if_pos rfl]
    have := specIs_l l [] (by simp) (by simpa using h1.2) k (by omega)
    simp only [List.nil_append, List.length_nil] at this
    rw [show (0 : Int) = ((0 : Nat) : Int) from rfl, this]
    congr 1
    rw [Bool.eq_iff_iff]
    simp [SpaceOk, h1]
  · have e : spec_l01In.f (l.length : Int) 1 8 = some false := by
      unfold spec_l01In.f
      by_cases h2 : (l.length : Int) ≥ 1
      · rw [if_pos h2]; simp; omega
      · rw [if_neg h2]
    have hd : decide (SpaceOk l) = false := by
      rw [decide_eq_false_iff_not]; intro hh; exact h1 ⟨hh.1, hh.2.1⟩
    rw [e, Option.bind_some, hd]; rfl

theorem implIs_l : ∀ (B A : List Int), (∀ q ∈ A, 2 ≤ q ∧ q ≤ 4) → (A ++ B).length ≤ 8 → ∀ k, B.length < k → impl_IsSpace.l0 k (prodL A) (A ++ B) (A ++ B).length A.length = some (decide (∀ q ∈ A ++ B, 2 ≤ q ∧ q ≤ 4) && decide (prodL (A ++ B) ≤ 1024))
  | [], A, h, hl, k, hk => by
    obtain ⟨k, rfl⟩ : ∃ q, k = q + 1 := ⟨k - 1, by simp at hk; omega⟩
    simp only [List.append_nil] at hl ⊢
    simp only [impl_IsSpace.l0]
    rw [if_neg (by omega)]
    simp only [decide_eq_true h, Bool.true_and]
  | b :: B, A, h, hl, k, hk => by
    obtain ⟨k, rfl⟩ : ∃ q, k = q + 1 := ⟨k - 1, by simp at hk; omega⟩
    simp only [impl_IsSpace.l0]
    simp only [List.length_append, List.length_cons] at hl hk
    rw [if_pos (by simp; omega), if_pos (by omega), if_pos (by simp; omega), rd_mid]
    by_cases hb : 2 ≤ b ∧ b ≤ 4
    · have hA := prodL_le8 (A ++ [b]) (fun q hq => by simp at hq; rcases hq with hq | rfl; exact h q hq; exact hb) (by simp; omega)
      rw [prodL_snoc] at hA
      rw [if_neg (by omega), if_neg (by omega), w64 (by omega) (by omega), w64 (by omega) (by omega), ← prodL_snoc, show (A.length : Int) + 1 = ((A ++ [b]).length : Int) by simp]
      have := implIs_l B (A ++ [b]) (fun q hq => by simp at hq; rcases hq with hq | rfl; exact h q hq; exact hb) (by simp; omega) k (by omega)
      rw [List.append_assoc, List.singleton_append] at this
      rw [this]
    · have hd : decide (∀ q ∈ A ++ b :: B, 2 ≤ q ∧ q ≤ 4) = false := by
        rw [decide_eq_false_iff_not]; intro hh; exact hb (hh b (by simp))
      rw [hd, Bool.false_and]
      by_cases h1 : b < 2
      · rw [if_pos h1]
      · rw [if_neg h1, if_pos (by omega)]
theorem implIs_ev (l : List Int) : ∀ k, 30 ≤ k → impl_IsSpace.f k l = some (decide (SpaceOk l)) := by
  intro k hk
  obtain ⟨k, rfl⟩ : ∃ q, k = q + 1 := ⟨k - 1, by omega⟩
  unfold impl_IsSpace.f
  by_cases h1 : 1 ≤ l.length ∧ l.length ≤ 8
  · have e : decide ((l.length : Int) > 8) = false := by simp; omega
    rw [if_neg (by omega), e]
    simp only [impl_IsSpace.j0]
    rw [if_neg (by decide)]
    have := implIs_l l [] (by simp) (by simpa using h1.2) k (by omega)
    simp only [List.nil_append, List.length_nil, prodL] at this
    rw [show (0 : Int) = ((0 : Nat) : Int) from rfl, this]
    congr 1
    rw [Bool.eq_iff_iff]
    simp [SpaceOk, h1]
  · have hd : decide (SpaceOk l) = false := by
      rw [decide_eq_false_iff_not]; intro hh; exact h1 ⟨hh.1, hh.2.1⟩
    rw [hd]
    by_cases h2 : (l.length : Int) < 1
    · rw [if_pos h2]; simp [impl_IsSpace.j0]
    · have e : decide ((l.length : Int) > 8) = true := by simp; omega
      rw [if_neg h2, e]; simp [impl_IsSpace.j0]

/-- What a code's words are: ascending, all of them words. -/
def CodeOk (n : Int) (l : List Int) : Prop := ∀ j (hj : j < l.length), (0 ≤ l[j] ∧ l[j] < n) ∧ ∀ h0 : 0 < j, l[j-1]'(by omega) < l[j]
theorem CodeOk.len {n : Int} {l : List Int} (h : CodeOk n l) : l.length = 0 ∨ (l.length : Int) ≤ n := by
  have key : ∀ j (hj : j < l.length), (j : Int) ≤ l[j] := by
    intro j
    induction j with
    | zero => intro hj; have := (h 0 hj).1; omega
    | succ j ih =>
      intro hj
      have h1 := ih (by omega)
      have h2 := (h (j+1) hj).2 (by omega)
      simp only [Nat.add_sub_cancel] at h2
      omega
  by_cases h0 : l.length = 0
  · exact .inl h0
  · right
    have h1 := key (l.length - 1) (by omega)
    have h2 := (h (l.length - 1) (by omega)).1
    omega

def codeFrom (n : Int) (l : List Int) (i : Nat) : Prop := ∀ j (hj : j < l.length), i ≤ j → (0 ≤ l[j] ∧ l[j] < n) ∧ ∀ h0 : 0 < j, l[j-1]'(by omega) < l[j]
theorem specCode_l (s : List Int) (hs : SpaceOk s) (l : List Int) (hl : l.length ≤ 4611686018427387904) : ∀ d i : Nat, i + d = l.length → ∃ b : Bool, (b = true ↔ codeFrom (prodL s) l i) ∧ ∀ k, d + 12 ≤ k → spec_l01Code.l0 k l i s = some b
  | 0, i, e => by
    refine ⟨true, ⟨fun _ j hj hi => by omega, fun _ => rfl⟩, fun k hk => ?_⟩
    obtain ⟨k, rfl⟩ : ∃ q, k = q + 1 := ⟨k - 1, by omega⟩
    simp only [spec_l01Code.l0]; rw [if_neg (by omega)]
  | d+1, i, e => by
    have hi : i < l.length := by omega
    have hr := rd_nat l i hi
    have hw : wrap64 ((i : Int) + 1) = ((i + 1 : Nat) : Int) := by rw [w64 (by omega) (by omega)]; omega
    have hP := prodL_le8 s hs.2.2.1 hs.2.1
    obtain ⟨b, hb, g⟩ := specCode_l s hs l hl d (i+1) (by omega)
    have start : ∀ k, 11 ≤ k → spec_l01Code.l0 (k+1) l i s = (spec_l01In.f l[i] 0 (prodL s - 1)).bind fun t130 => (if t130 = true then (if (i : Int) > 0 then (if 0 ≤ (wrap64 ((i : Int) - 1)) then (if (wrap64 ((i : Int) - 1)) < (l.length : Int) then (if l[i] ≤ (rd l (wrap64 ((i : Int) - 1))) then (some false) else (spec_l01Code.l0 k l ((i + 1 : Nat) : Int) s)) else (none)) else (none)) else (spec_l01Code.l0 k l ((i + 1 : Nat) : Int) s)) else (some false)) := by
      intro k hk
      simp only [spec_l01Code.l0]
      rw [if_pos (by omega), if_pos (by omega), specN_ev s hs.2.2.1 hs.2.1 k (by omega), Option.bind_some, hr, w64 (i := prodL s - 1) (by omega) (by omega), hw]
    by_cases hin : 0 ≤ l[i] ∧ l[i] < prodL s
    · have e1 : spec_l01In.f l[i] 0 (prodL s - 1) = some true := by
        unfold spec_l01In.f; rw [if_pos hin.1]; simp; omega
      by_cases h0 : 0 < i
      · have hw1 : wrap64 ((i : Int) - 1) = ((i - 1 : Nat) : Int) := by rw [w64 (by omega) (by omega)]; omega
        have hr1 := rd_nat l (i - 1) (by omega)
        by_cases hle : l[i] ≤ l[i-1]
        · refine ⟨false, ⟨fun h => absurd h (by decide), fun h => ?_⟩, fun k hk => ?_⟩
          · have := (h i hi (by omega)).2 h0; omega
          · obtain ⟨k, rfl⟩ : ∃ q, k = q + 1 := ⟨k - 1, by omega⟩
            rw [start k (by omega), e1, Option.bind_some, if_pos rfl, if_pos (by omega), hw1, if_pos (by omega), if_pos (by omega), hr1, if_pos hle]
        · refine ⟨b, ⟨fun h j hj hij => ?_, fun h => hb.2 fun j hj hij => h j hj (by omega)⟩, fun k hk => ?_⟩
          · by_cases hji : j = i
            · subst hji; exact ⟨hin, fun _ => by omega⟩
            · exact hb.1 h j hj (by omega)
          · obtain ⟨k, rfl⟩ : ∃ q, k = q + 1 := ⟨k - 1, by omega⟩
            rw [start k (by omega), e1, Option.bind_some, if_pos rfl, if_pos (by omega), hw1, if_pos (by omega), if_pos (by omega), hr1, if_neg hle]
            exact g k (by omega)
      · refine ⟨b, ⟨fun h j hj hij => ?_, fun h => hb.2 fun j hj hij => h j hj (by omega)⟩, fun k hk => ?_⟩
        · by_cases hji : j = i
          · subst hji; exact ⟨hin, fun h1 => absurd h1 h0⟩
          · exact hb.1 h j hj (by omega)
        · obtain ⟨k, rfl⟩ : ∃ q, k = q + 1 := ⟨k - 1, by omega⟩
          rw [start k (by omega), e1, Option.bind_some, if_pos rfl, if_neg (by omega)]
          exact g k (by omega)
    · have e1 : spec_l01In.f l[i] 0 (prodL s - 1) = some false := by
        unfold spec_l01In.f
        by_cases h1 : l[i] ≥ 0
        · rw [if_pos h1]; simp; omega
        · rw [if_neg h1]
      refine ⟨false, ⟨fun h => absurd h (by decide), fun h => absurd (h i hi (by omega)).1 hin⟩, fun k hk => ?_⟩
      obtain ⟨k, rfl⟩ : ∃ q, k = q + 1 := ⟨k - 1, by omega⟩
      rw [start k (by omega), e1, Option.bind_some, if_neg (by decide)]
theorem specCode_ev (s : List Int) (hs : SpaceOk s) (l : List Int) (hl : l.length ≤ 4611686018427387904) : ∃ b : Bool, (b = true ↔ CodeOk (prodL s) l) ∧ ∀ k, l.length + 12 ≤ k → spec_l01Code.f k s l = some b := by
  obtain ⟨b, h, g⟩ := specCode_l s hs l hl l.length 0 (by omega)
  exact ⟨b, ⟨fun hb j hj => h.1 hb j hj (by omega), fun hc => h.2 fun j hj _ => hc j hj⟩, fun k hk => by unfold spec_l01Code.f; exact g k (by omega)⟩

theorem implCount_l : ∀ (B A : List Int), (∀ q ∈ A ++ B, 2 ≤ q ∧ q ≤ 4) → (A ++ B).length ≤ 8 → ∀ k, B.length < k → impl_count.l0 k (prodL A) (A ++ B) (A ++ B).length A.length = some (prodL (A ++ B))
  | [], A, h, hl, k, hk => by
    obtain ⟨k, rfl⟩ : ∃ q, k = q + 1 := ⟨k - 1, by simp at hk; omega⟩
    simp only [impl_count.l0]
    rw [if_neg (by simp)]; simp
  | b :: B, A, h, hl, k, hk => by
    obtain ⟨k, rfl⟩ : ∃ q, k = q + 1 := ⟨k - 1, by simp at hk; omega⟩
    have hb := h b (by simp)
    have hA := prodL_le8 (A ++ [b]) (fun q hq => h q (by simp at hq ⊢; rcases hq with hq | hq <;> simp [hq])) (by simp at hl ⊢; omega)
    rw [prodL_snoc] at hA
    simp only [impl_count.l0]
    simp only [List.length_append, List.length_cons] at hl hk
    rw [if_pos (by simp; omega), if_pos (by omega), if_pos (by simp; omega), rd_mid, w64 (by omega) (by omega), w64 (by omega) (by omega), ← prodL_snoc, show (A.length : Int) + 1 = ((A ++ [b]).length : Int) by simp]
    have := implCount_l B (A ++ [b]) (by simpa using h) (by simp; omega) k (by omega)
    simpa using this
theorem implCount_ev (l : List Int) (h : ∀ q ∈ l, 2 ≤ q ∧ q ≤ 4) (hl : l.length ≤ 8) : ∀ k, 10 ≤ k → impl_count.f k l = some (prodL l) := by
  intro k hk
  unfold impl_count.f
  exact implCount_l l [] h hl k (by omega)

theorem areWords_l (n : Int) (l : List Int) (hl : l.length ≤ 4611686018427387904) : ∀ d i : Nat, i + d = l.length → ∃ b : Bool, (b = true ↔ ∀ j (hj : j < l.length), i ≤ j → 0 ≤ l[j] ∧ l[j] < n) ∧ ∀ k, d + 1 ≤ k → impl_areWords.l0 k n l l.length i = some b
  | 0, i, e => by
    refine ⟨true, ⟨fun _ j hj hi => by omega, fun _ => rfl⟩, fun k hk => ?_⟩
    obtain ⟨k, rfl⟩ : ∃ q, k = q + 1 := ⟨k - 1, by omega⟩
    simp only [impl_areWords.l0]; rw [if_neg (by omega)]
  | d+1, i, e => by
    have hi : i < l.length := by omega
    have hr := rd_nat l i hi
    have hw : wrap64 ((i : Int) + 1) = ((i + 1 : Nat) : Int) := by rw [w64 (by omega) (by omega)]; omega
    obtain ⟨b, hb, g⟩ := areWords_l n l hl d (i+1) (by omega)
    by_cases hin : 0 ≤ l[i] ∧ l[i] < n
    · refine ⟨b, ⟨fun h j hj hij => ?_, fun h => hb.2 fun j hj hij => h j hj (by omega)⟩, fun k hk => ?_⟩
      · by_cases hji : j = i
        · subst hji; exact hin
        · exact hb.1 h j hj (by omega)
      · obtain ⟨k, rfl⟩ : ∃ q, k = q + 1 := ⟨k - 1, by omega⟩
        simp only [impl_areWords.l0]
        rw [if_pos (by omega), if_pos (by omega), if_pos (by omega), hr, if_neg (by omega), if_neg (by omega), hw]
        exact g k (by omega)
    · refine ⟨false, ⟨fun h => absurd h (by decide), fun h => absurd (h i hi (by omega)) hin⟩, fun k hk => ?_⟩
      obtain ⟨k, rfl⟩ : ∃ q, k = q + 1 := ⟨k - 1, by omega⟩
      simp only [impl_areWords.l0]
      rw [if_pos (by omega), if_pos (by omega), if_pos (by omega), hr]
      by_cases h1 : l[i] < 0
      · rw [if_pos h1]
      · rw [if_neg h1, if_pos (by omega)]
theorem areWords_ev (s : List Int) (hs : SpaceOk s) (l : List Int) (hl : l.length ≤ 4611686018427387904) : ∃ b : Bool, (b = true ↔ ∀ j (hj : j < l.length), 0 ≤ l[j] ∧ l[j] < prodL s) ∧ ∀ k, l.length + 12 ≤ k → impl_areWords.f k s l = some b := by
  obtain ⟨b, h, g⟩ := areWords_l (prodL s) l hl l.length 0 (by omega)
  refine ⟨b, ⟨fun hb j hj => h.1 hb j hj (by omega), fun hc => h.2 fun j hj _ => hc j hj⟩, fun k hk => ?_⟩
  unfold impl_areWords.f
  rw [implCount_ev s hs.2.2.1 hs.2.1 k (by omega), Option.bind_some]
  exact g k (by omega)

theorem ascend_l (l : List Int) (hl : l.length ≤ 4611686018427387904) : ∀ d i : Nat, i + d = l.length → 1 ≤ i → ∃ b : Bool, (b = true ↔ ∀ j (hj : j < l.length), i ≤ j → ∀ h0 : 0 < j, l[j-1]'(by omega) < l[j]) ∧ ∀ k, d + 1 ≤ k → impl_isCode.l0 k l i = some b
  | 0, i, e, h1 => by
    refine ⟨true, ⟨fun _ j hj hi => by omega, fun _ => rfl⟩, fun k hk => ?_⟩
    obtain ⟨k, rfl⟩ : ∃ q, k = q + 1 := ⟨k - 1, by omega⟩
    simp only [impl_isCode.l0]; rw [if_neg (by omega)]
  | d+1, i, e, h1 => by
    have hi : i < l.length := by omega
    have hr := rd_nat l i hi
    have hr1 := rd_nat l (i - 1) (by omega)
    have hw : wrap64 ((i : Int) + 1) = ((i + 1 : Nat) : Int) := by rw [w64 (by omega) (by omega)]; omega
    have hw1 : wrap64 ((i : Int) - 1) = ((i - 1 : Nat) : Int) := by rw [w64 (by omega) (by omega)]; omega
    obtain ⟨b, hb, g⟩ := ascend_l l hl d (i+1) (by omega) (by omega)
    by_cases hle : l[i] ≤ l[i-1]
    · refine ⟨false, ⟨fun h => absurd h (by decide), fun h => ?_⟩, fun k hk => ?_⟩
      · have := h i hi (by omega) (by omega); omega
      · obtain ⟨k, rfl⟩ : ∃ q, k = q + 1 := ⟨k - 1, by omega⟩
        simp only [impl_isCode.l0]
        rw [if_pos (by omega), if_pos (by omega), hw1, if_pos (by omega), if_pos (by omega), hr, hr1, if_pos hle]
    · refine ⟨b, ⟨fun h j hj hij h0 => ?_, fun h => hb.2 fun j hj hij h0 => h j hj (by omega) h0⟩, fun k hk => ?_⟩
      · by_cases hji : j = i
        · subst hji; omega
        · exact hb.1 h j hj (by omega) h0
      · obtain ⟨k, rfl⟩ : ∃ q, k = q + 1 := ⟨k - 1, by omega⟩
        simp only [impl_isCode.l0]
        rw [if_pos (by omega), if_pos (by omega), hw1, if_pos (by omega), if_pos (by omega), hr, hr1, if_neg hle, hw]
        exact g k (by omega)
theorem isCode_ev (s : List Int) (hs : SpaceOk s) (l : List Int) (hl : l.length ≤ 4611686018427387904) : ∃ b : Bool, (b = true ↔ CodeOk (prodL s) l) ∧ ∀ k, l.length + 14 ≤ k → impl_isCode.f k s l = some b := by
  have hP := prodL_le8 s hs.2.2.1 hs.2.1
  obtain ⟨b1, hb1, g1⟩ := areWords_ev s hs l hl
  by_cases hlen : (l.length : Int) > prodL s
  · refine ⟨false, ⟨fun h => absurd h (by decide), fun h => ?_⟩, fun k hk => ?_⟩
    · rcases h.len with h2 | h2 <;> omega
    · obtain ⟨k, rfl⟩ : ∃ q, k = q + 1 := ⟨k - 1, by omega⟩
      unfold impl_isCode.f
      rw [implCount_ev s hs.2.2.1 hs.2.1 _ (by omega), Option.bind_some, if_pos hlen]
      simp [impl_isCode.j0]
  · cases hb : b1 with
    | false =>
      subst hb
      refine ⟨false, ⟨fun h => absurd h (by decide), fun h => ?_⟩, fun k hk => ?_⟩
      · exact absurd (hb1.2 fun j hj => (h j hj).1) (by decide)
      · obtain ⟨k, rfl⟩ : ∃ q, k = q + 1 := ⟨k - 1, by omega⟩
        unfold impl_isCode.f
        rw [implCount_ev s hs.2.2.1 hs.2.1 _ (by omega), Option.bind_some, if_neg hlen, g1 _ (by omega), Option.bind_some]
        simp [impl_isCode.j0]
    | true =>
      subst hb
      have hall := hb1.1 rfl
      obtain ⟨b, hb, g⟩ : ∃ b : Bool, (b = true ↔ ∀ j (hj : j < l.length), 1 ≤ j → ∀ h0 : 0 < j, l[j-1]'(by omega) < l[j]) ∧ ∀ k, l.length + 1 ≤ k → impl_isCode.l0 k l 1 = some b := by
        by_cases h0 : l.length = 0
        · refine ⟨true, ⟨fun _ j hj => by omega, fun _ => rfl⟩, fun k hk => ?_⟩
          obtain ⟨k, rfl⟩ : ∃ q, k = q + 1 := ⟨k - 1, by omega⟩
          simp only [impl_isCode.l0]; rw [if_neg (by omega)]
        · obtain ⟨b, hb, g⟩ := ascend_l l hl (l.length - 1) 1 (by omega) (by omega)
          exact ⟨b, hb, fun k hk => g k (by omega)⟩
      refine ⟨b, ⟨fun h j hj => ⟨hall j hj, fun h0 => hb.1 h j hj (by omega) h0⟩, fun h => hb.2 fun j hj _ h0 => (h j hj).2 h0⟩, fun k hk => ?_⟩
      obtain ⟨k, rfl⟩ : ∃ q, k = q + 1 := ⟨k - 1, by omega⟩
      unfold impl_isCode.f
      rw [implCount_ev s hs.2.2.1 hs.2.1 _ (by omega), Option.bind_some, if_neg hlen, g1 _ (by omega), Option.bind_some]
      simp only [Bool.not_true, impl_isCode.j0]
      rw [if_neg (by decide)]
      exact g k (by omega)

/-- Marks set, one by one. -/
def setsB (h : List Bool) (l : List Int) : List Bool := l.foldl (fun h n => h.set n.toNat true) h
theorem setsB_len : ∀ (l : List Int) (h : List Bool), (setsB h l).length = h.length
  | [], h => rfl
  | n :: l, h => by
    show (setsB (h.set n.toNat true) l).length = _
    rw [setsB_len l, List.length_set]
theorem setsB_get : ∀ (l : List Int) (h : List Bool) (i : Nat), i < h.length → (∀ n ∈ l, 0 ≤ n) → ((setsB h l).getD i false = true ↔ h.getD i false = true ∨ (i : Int) ∈ l)
  | [], h, i, _, _ => by simp [setsB]
  | n :: l, h, i, hi, hl => by
    show (setsB (h.set n.toNat true) l).getD i false = true ↔ _
    rw [setsB_get l _ i (by rw [List.length_set]; exact hi) (fun x hx => hl x (by simp [hx]))]
    have h0 := hl n (by simp)
    have hg : (h.set n.toNat true).getD i false = true ↔ h.getD i false = true ∨ (i : Int) = n := by
      rw [List.getD_eq_getElem?_getD, List.getElem?_set]
      by_cases he : n.toNat = i
      · rw [if_pos he, if_pos (by omega)]
        simp; right; omega
      · rw [if_neg he, ← List.getD_eq_getElem?_getD]
        constructor
        · exact .inl
        · rintro (h1 | h1)
          · exact h1
          · omega
    rw [hg, List.mem_cons, or_assoc]
theorem marks_l (l : List Int) (hl : l.length ≤ 1048576) (P : Int) (hw : ∀ n ∈ l, 0 ≤ n ∧ n < P) : ∀ d i : Nat, i + d = l.length → ∀ h : List Bool, (h.length : Int) = P → ∀ k, d < k → impl_marks.l0 k h l (l.length : Int) (i : Int) = some (setsB h (l.drop i))
  | 0, i, e, h, hh, k, hk => by
    obtain ⟨k, rfl⟩ : ∃ q, k = q + 1 := ⟨k - 1, by omega⟩
    simp only [impl_marks.l0]
    rw [if_neg (by omega), List.drop_of_length_le (by omega)]; rfl
  | d + 1, i, e, h, hh, k, hk => by
    obtain ⟨k, rfl⟩ : ∃ q, k = q + 1 := ⟨k - 1, by omega⟩
    have hi : i < l.length := by omega
    have h1 := hw _ (List.getElem_mem hi)
    simp only [impl_marks.l0]
    rw [if_pos (by omega), if_pos (by omega), if_pos (by omega), rd_nat l i hi, if_pos h1.1, if_pos (by omega), w64 (by omega) (by omega), show (i : Int) + 1 = ((i + 1 : Nat) : Int) by omega, marks_l l hl P hw d (i + 1) (by omega) _ (by rw [List.length_set]; exact hh) k (by omega), List.drop_eq_getElem_cons hi]
    rfl
theorem marks_ev (s : List Int) (hs : SpaceOk s) (l : List Int) (hl : l.length ≤ 1048576) (hw : ∀ n ∈ l, 0 ≤ n ∧ n < prodL s) (k : Nat) (hk : l.length + 20 ≤ k) : impl_marks.f k s l = some (setsB (List.replicate (prodL s).toNat false) l) := by
  have hP := prodL_le8 s hs.2.2.1 hs.2.1
  unfold impl_marks.f
  rw [implCount_ev s hs.2.2.1 hs.2.1 k (by omega), Option.bind_some, if_pos (by omega), if_pos (by omega)]
  have h := marks_l l hl (prodL s) hw l.length 0 (by omega) (List.replicate (prodL s).toNat false) (by rw [List.length_replicate]; omega) k (by omega)
  rw [List.drop_zero] at h
  exact h

theorem has_l (b : List Int) (hb : b.length ≤ 1048576) (x : Int) : ∀ d i : Nat, i + d = b.length → ∀ k, d < k → spec_l01Has.l0 k b x (i : Int) = some (decide (x ∈ b.drop i))
  | 0, i, e, k, hk => by
    obtain ⟨k, rfl⟩ : ∃ q, k = q + 1 := ⟨k - 1, by omega⟩
    simp only [spec_l01Has.l0]
    rw [if_neg (by omega), List.drop_of_length_le (by omega)]; simp
  | d + 1, i, e, k, hk => by
    obtain ⟨k, rfl⟩ : ∃ q, k = q + 1 := ⟨k - 1, by omega⟩
    have hi : i < b.length := by omega
    simp only [spec_l01Has.l0]
    rw [if_pos (by omega), if_pos (by omega), rd_nat b i hi, List.drop_eq_getElem_cons hi]
    by_cases he : b[i] = x
    · rw [if_pos he]; simp [he]
    · rw [if_neg he, w64 (by omega) (by omega), show (i : Int) + 1 = ((i + 1 : Nat) : Int) by omega, has_l b hb x d (i + 1) (by omega) k (by omega)]
      congr 1
      rw [decide_eq_decide, List.mem_cons]
      constructor
      · exact .inr
      · rintro (h | h)
        · exact absurd h.symm he
        · exact h
theorem hasL_ev (b : List Int) (hb : b.length ≤ 1048576) (x : Int) (k : Nat) (hk : b.length < k) : spec_l01Has.f k b x = some (decide (x ∈ b)) := by
  have h := has_l b hb x b.length 0 (by omega) k (by omega)
  rw [List.drop_zero] at h
  exact h

theorem rdL1_nat (x : List (List Int)) (j : Nat) (h : j < x.length) : rd_L1 x (j : Int) = x[j] := by simp [rd_L1, List.getElem?_eq_getElem h]

theorem eq_l (l : List Int) (hl : l.length ≤ 4611686018427387904) : ∀ d i : Nat, i + d = l.length → ∀ k, d < k → laws_eqInt64S.l0 k l l i = some true
  | 0, i, e, k, hk => by
    obtain ⟨k, rfl⟩ : ∃ q, k = q + 1 := ⟨k - 1, by omega⟩
    simp only [laws_eqInt64S.l0]; rw [if_neg (by omega)]
  | d+1, i, e, k, hk => by
    obtain ⟨k, rfl⟩ : ∃ q, k = q + 1 := ⟨k - 1, by omega⟩
    simp only [laws_eqInt64S.l0]
    rw [if_pos (by omega), if_pos (by omega), if_pos (by omega), if_pos trivial, w64 (by omega) (by omega), show (i : Int) + 1 = ((i + 1 : Nat) : Int) by omega]
    exact eq_l l hl d (i+1) (by omega) k (by omega)
theorem eq_ev (l : List Int) (hl : l.length ≤ 4611686018427387904) (k : Nat) (hk : l.length < k) : laws_eqInt64S.f k l l = some true := by
  unfold laws_eqInt64S.f
  rw [if_pos rfl]
  exact eq_l l hl l.length 0 (by omega) k hk

theorem to_l (l : List Int) (hl : l.length ≤ 4611686018427387904) : ∀ (B A : List Int), l = A ++ B → ∀ k, B.length < k → laws_toInt64S.l0 k l (A ++ List.replicate B.length 0) A.length = some l
  | [], A, e, k, hk => by
    obtain ⟨k, rfl⟩ : ∃ q, k = q + 1 := ⟨k - 1, by simp at hk; omega⟩
    simp only [laws_toInt64S.l0]
    simp at e
    subst e
    rw [if_neg (by omega)]; simp
  | b :: B, A, e, k, hk => by
    obtain ⟨k, rfl⟩ : ∃ q, k = q + 1 := ⟨k - 1, by simp at hk; omega⟩
    simp only [laws_toInt64S.l0]
    have hlen : l.length = A.length + (B.length + 1) := by rw [e]; simp
    rw [if_pos (by omega), if_pos (by omega), if_pos (by simp; omega)]
    have hb : rd l (A.length : Int) = b := by rw [e]; exact rd_mid A B b
    rw [hb, List.length_cons, List.replicate_succ, Int.toNat_natCast, set_mid, w64 (by omega) (by omega), show (A.length : Int) + 1 = ((A ++ [b]).length : Int) by simp]
    exact to_l l hl B (A ++ [b]) (by rw [e]; simp) k (by simp at hk; omega)
theorem to_ev (l : List Int) (hl : l.length ≤ 1048576) (k : Nat) (hk : 1048576 < k) : laws_toInt64S.f k l = some l := by
  unfold laws_toInt64S.f
  rw [if_pos (by omega), if_pos (by omega), Int.toNat_natCast]
  exact to_l l (by omega) l [] rfl k (by omega)

theorem sz_le (l : List Int) (h : l.length ≤ 1048576) : ∃ z : Int, laws_szSpace.f l 1048576 = some z ∧ ¬ z < 0 := by
  unfold laws_szSpace.f laws_szInt64S.f
  rw [w64 (by omega) (by omega), if_neg (by omega)]
  simp only [Option.bind_some]
  rw [if_neg (by omega)]
  exact ⟨_, rfl, by omega⟩
theorem sz_gt (l : List Int) (h : 1048576 < l.length) (hm : l.length ≤ 9223372036854775807) : ∃ z : Int, laws_szSpace.f l 1048576 = some z ∧ z < 0 := by
  unfold laws_szSpace.f laws_szInt64S.f
  rw [w64 (by omega) (by omega), if_pos (by omega)]
  exact ⟨-1, rfl, by omega⟩
theorem toSp_ev (l : List Int) (hl : l.length ≤ 1048576) (k : Nat) (hk : 1048576 < k) : laws_toSpace.f k l = some l := by
  unfold laws_toSpace.f
  rw [to_ev l hl k hk]; rfl
theorem eqSp_ev (l : List Int) (hl : l.length ≤ 4611686018427387904) (k : Nat) (hk : l.length < k) : laws_eqSpace.f k l l = some true := by
  unfold laws_eqSpace.f
  rw [eq_ev l hl k hk]; rfl

theorem code_words2 {n : Int} {l : List Int} (h : CodeOk n l) (hn0 : 0 ≤ n) (hn : n ≤ 1024) : (∀ c ∈ l, 0 ≤ c ∧ c < n) ∧ l.length ≤ 1024 := by
  refine ⟨fun c hc => ?_, ?_⟩
  · obtain ⟨j, hj, rfl⟩ := List.getElem_of_mem hc
    exact (h j hj).1
  · rcases h.len with h | h <;> omega
theorem sz_le2 (l : List Int) (h : l.length ≤ 1048576) : ∃ z : Int, laws_szSpace.f l 1048576 = some z ∧ 0 ≤ z ∧ z ≤ 1048576 := by
  unfold laws_szSpace.f laws_szInt64S.f
  rw [w64 (by omega) (by omega), if_neg (by omega)]
  simp only [Option.bind_some]
  rw [if_neg (by omega)]
  exact ⟨_, rfl, by omega, by omega⟩
theorem scH_ev (b : List Int) (hb : b.length ≤ 1048576) (k : Nat) (hk : b.length < k) : ∀ l : List Int, scH k b l = some (l.all fun x => decide (x ∈ b))
  | [] => rfl
  | x :: l => by
    simp only [scH]
    rw [hasL_ev b hb x k hk, Option.bind_some, List.all_cons]
    by_cases h : x ∈ b
    · rw [decide_eq_true h, if_pos rfl, Bool.true_and]; exact scH_ev b hb k hk l
    · rw [decide_eq_false h, if_neg (by decide), Bool.false_and]
theorem any_all (s b : List Int) (hb : ∀ n ∈ b, 0 ≤ n ∧ n < prodL s) : ∀ a : List Int, (∀ n ∈ a, 0 ≤ n ∧ n < prodL s) → (a.any fun x => !rdb (setsB (List.replicate (prodL s).toNat false) b) x) = !(a.all fun x => decide (x ∈ b))
  | [], _ => rfl
  | x :: a, ha => by
    have h0 := ha x (by simp)
    have hg := setsB_get b (List.replicate (prodL s).toNat false) x.toNat (by rw [List.length_replicate]; omega) (fun n hn => (hb n hn).1)
    have hr : (List.replicate (prodL s).toNat false).getD x.toNat false = false := by
      rw [List.getD_eq_getElem?_getD, List.getElem?_replicate]
      split <;> rfl
    have e : rdb (setsB (List.replicate (prodL s).toNat false) b) x = decide (x ∈ b) := by
      rw [Bool.eq_iff_iff, decide_eq_true_iff]
      unfold rdb
      rw [hg, hr, show ((x.toNat : Nat) : Int) = x by omega]
      simp
    rw [List.any_cons, List.all_cons, any_all s b hb a (fun n hn => ha n (by simp [hn])), e]
    cases decide (x ∈ b) <;> simp
theorem chain_I (s : List Int) (hs : SpaceOk s) : ∀ ll : List (List Int), (∀ l ∈ ll, (∀ n ∈ l, 0 ≤ n ∧ n < prodL s) ∧ l.length ≤ 1024) → ∃ d, ∀ k, 2000 ≤ k → icI k s ll = some d ∧ scI k ll = some d
  | [], _ => ⟨true, fun k _ => ⟨rfl, rfl⟩⟩
  | [a], _ => ⟨true, fun k _ => ⟨rfl, rfl⟩⟩
  | a :: b :: ll, h => by
    obtain ⟨d, hd⟩ := chain_I s hs (b :: ll) (fun l hl => h l (List.mem_cons_of_mem a hl))
    obtain ⟨ha, hal⟩ := h a (by simp)
    obtain ⟨hb, hbl⟩ := h b (by simp)
    have hP := prodL_le8 s hs.2.2.1 hs.2.1
    have hlen : (setsB (List.replicate (prodL s).toNat false) b).length = (prodL s).toNat := by rw [setsB_len, List.length_replicate]
    have hc : a.length ≤ 1000000 ∧ ∀ x ∈ a, 0 ≤ x ∧ x < ((setsB (List.replicate (prodL s).toNat false) b).length : Int) := ⟨by omega, fun x hx => by
      have := ha x hx
      rw [hlen]; omega⟩
    have haa := any_all s b hb a ha
    cases hv : (a.all fun x => decide (x ∈ b)) with
    | true =>
      refine ⟨d, fun k hk => ⟨?_, ?_⟩⟩
      · simp only [icI]
        rw [marks_ev s hs b (by omega) hb k (by omega), Option.bind_some, if_pos hc, haa, hv, if_neg (by decide)]
        exact (hd k hk).1
      · simp only [scI]
        rw [if_pos (by omega), scH_ev b (by omega) k (by omega), hv, Option.bind_some, if_pos rfl]
        exact (hd k hk).2
    | false =>
      refine ⟨false, fun k hk => ⟨?_, ?_⟩⟩
      · simp only [icI]
        rw [marks_ev s hs b (by omega) hb k (by omega), Option.bind_some, if_pos hc, haa, hv, if_pos (by decide)]
      · simp only [scI]
        rw [if_pos (by omega), scH_ev b (by omega) k (by omega), hv, Option.bind_some, if_neg (by decide)]
theorem chain_C (s : List Int) (hs : SpaceOk s) : ∀ ll : List (List Int), (∀ l ∈ ll, l.length ≤ 1048576) → ∃ c : Bool, (c = true → ∀ l ∈ ll, CodeOk (prodL s) l) ∧ ∀ k, 1048700 ≤ k → icC k s ll = some c ∧ scC k s ll = some c
  | [], _ => ⟨true, fun _ l hl => by simp at hl, fun k _ => ⟨rfl, rfl⟩⟩
  | l :: ll, h => by
    obtain ⟨c, hc, hk⟩ := chain_C s hs ll (fun x hx => h x (List.mem_cons_of_mem l hx))
    have hl := h l (by simp)
    obtain ⟨b1, e1, g1⟩ := specCode_ev s hs l (by omega)
    obtain ⟨b2, e2, g2⟩ := isCode_ev s hs l (by omega)
    obtain rfl : b1 = b2 := by rw [Bool.eq_iff_iff, e1, e2]
    cases b1 with
    | true =>
      refine ⟨c, fun hct x hx => ?_, fun k hk' => ⟨?_, ?_⟩⟩
      · rcases List.mem_cons.1 hx with rfl | hx
        · exact e1.1 rfl
        · exact hc hct x hx
      · simp only [icC]
        rw [g2 k (by omega), Option.bind_some, if_pos rfl]; exact (hk k hk').1
      · simp only [scC]
        rw [g1 k (by omega), Option.bind_some, if_pos rfl]; exact (hk k hk').2
    | false =>
      refine ⟨false, fun h => absurd h (by decide), fun k hk' => ⟨?_, ?_⟩⟩
      · simp only [icC]
        rw [g2 k (by omega), Option.bind_some, if_neg (by decide)]
      · simp only [scC]
        rw [g1 k (by omega), Option.bind_some, if_neg (by decide)]
theorem chain_both (s : List Int) (ll : List (List Int)) (hl : ∀ l ∈ ll, l.length ≤ 1048576) : ∃ (b : Bool) (e : Int), ∀ k, 1048800 ≤ k → spec_IsChain.f k s ll = some (b, e) ∧ impl_IsChain.f k s ll = some (b, e) := by
  by_cases hs : SpaceOk s
  · have hP := hs.2.2.2
    have hP0 := (prodL_le8 s hs.2.2.1 hs.2.1).1
    by_cases h10 : 10 < ll.length
    · refine ⟨false, 2, fun k hk => ⟨?_, ?_⟩⟩
      · unfold spec_IsChain.f
        rw [specIs_ev s k (by omega), decide_eq_true hs, Option.bind_some, if_pos rfl, if_pos h10]
      · unfold impl_IsChain.f
        rw [implIs_ev s k (by omega), decide_eq_true hs, Option.bind_some, if_pos rfl, if_pos h10]
    · obtain ⟨c, hc, hk⟩ := chain_C s hs ll hl
      cases c with
      | true =>
        obtain ⟨d, hd⟩ := chain_I s hs ll (fun l hl => code_words2 (hc rfl l hl) (by omega) hP)
        refine ⟨d, 0, fun k hk' => ⟨?_, ?_⟩⟩
        · unfold spec_IsChain.f
          rw [specIs_ev s k (by omega), decide_eq_true hs, Option.bind_some, if_pos rfl, if_neg h10, (hk k (by omega)).2, Option.bind_some, if_pos rfl, (hd k (by omega)).2, Option.bind_some]
        · unfold impl_IsChain.f
          rw [implIs_ev s k (by omega), decide_eq_true hs, Option.bind_some, if_pos rfl, if_neg h10, (hk k (by omega)).1, Option.bind_some, if_pos rfl, (hd k (by omega)).1, Option.bind_some]
      | false =>
        refine ⟨false, 2, fun k hk' => ⟨?_, ?_⟩⟩
        · unfold spec_IsChain.f
          rw [specIs_ev s k (by omega), decide_eq_true hs, Option.bind_some, if_pos rfl, if_neg h10, (hk k (by omega)).2, Option.bind_some, if_neg (by decide)]
        · unfold impl_IsChain.f
          rw [implIs_ev s k (by omega), decide_eq_true hs, Option.bind_some, if_pos rfl, if_neg h10, (hk k (by omega)).1, Option.bind_some, if_neg (by decide)]
  · refine ⟨false, 1, fun k hk => ⟨?_, ?_⟩⟩
    · unfold spec_IsChain.f
      rw [specIs_ev s k (by omega), decide_eq_false hs, Option.bind_some, if_neg (by decide)]
    · unfold impl_IsChain.f
      rw [implIs_ev s k (by omega), decide_eq_false hs, Option.bind_some, if_neg (by decide)]
theorem szSS_l (ll : List (List Int)) (hm : ll.length ≤ 1048576) (hl : ∀ l ∈ ll, l.length ≤ maxLen) : ∀ d i : Nat, i + d = ll.length → ∀ z : Int, 0 ≤ z → z ≤ 1048576 → ∃ z' : Int, (0 ≤ z' → ∀ l ∈ ll.drop i, l.length ≤ 1048576) ∧ ∀ k, d < k → laws_szInt64SS.l0 k ll z (i : Int) = some z'
  | 0, i, e, z, h0, h1 => by
    refine ⟨z, fun _ l hl => ?_, fun k hk => ?_⟩
    · rw [List.drop_of_length_le (by omega)] at hl; simp at hl
    · obtain ⟨k, rfl⟩ : ∃ q, k = q + 1 := ⟨k - 1, by omega⟩
      simp only [laws_szInt64SS.l0]
      rw [if_neg (by omega)]
  | d + 1, i, e, z, h0, h1 => by
    have hi : i < ll.length := by omega
    have hli := hl _ (List.getElem_mem hi)
    unfold maxLen at hli
    have hw : wrap64 (z - (ll[i].length : Int)) = z - (ll[i].length : Int) := w64 (by omega) (by omega)
    by_cases hn : z - (ll[i].length : Int) < 0
    · refine ⟨-1, fun h => by omega, fun k hk => ?_⟩
      obtain ⟨k, rfl⟩ : ∃ q, k = q + 1 := ⟨k - 1, by omega⟩
      simp only [laws_szInt64SS.l0]
      rw [if_pos (by omega), if_pos (by omega), rdL1_nat ll i hi]
      unfold laws_szInt64S.f
      rw [hw, if_pos hn, Option.bind_some, if_pos (by omega)]
    · obtain ⟨z', hz, hk⟩ := szSS_l ll hm hl d (i + 1) (by omega) (z - (ll[i].length : Int)) (by omega) (by omega)
      refine ⟨z', fun h l hlm => ?_, fun k hk' => ?_⟩
      · rw [List.drop_eq_getElem_cons hi] at hlm
        rcases List.mem_cons.1 hlm with rfl | hlm
        · omega
        · exact hz h l hlm
      · obtain ⟨k, rfl⟩ : ∃ q, k = q + 1 := ⟨k - 1, by omega⟩
        simp only [laws_szInt64SS.l0]
        rw [if_pos (by omega), if_pos (by omega), rdL1_nat ll i hi]
        unfold laws_szInt64S.f
        rw [hw, if_neg hn, Option.bind_some, if_neg hn, w64 (by omega) (by omega), show (i : Int) + 1 = ((i + 1 : Nat) : Int) by omega]
        exact hk k (by omega)
theorem szSS_ev (ll : List (List Int)) (hm : ll.length ≤ maxLen) (hl : ∀ l ∈ ll, l.length ≤ maxLen) (z : Int) (h0 : 0 ≤ z) (h1 : z ≤ 1048576) : ∃ z' : Int, (0 ≤ z' → ll.length ≤ 1048576 ∧ ∀ l ∈ ll, l.length ≤ 1048576) ∧ ∀ k, 1048577 ≤ k → laws_szInt64SS.f k ll z = some z' := by
  unfold maxLen at hm
  have hw : wrap64 (z - (ll.length : Int)) = z - (ll.length : Int) := w64 (by omega) (by omega)
  by_cases hn : z - (ll.length : Int) < 0
  · refine ⟨-1, fun h => by omega, fun k hk => ?_⟩
    unfold laws_szInt64SS.f
    rw [hw, if_pos hn]
  · obtain ⟨z', hz, hk⟩ := szSS_l ll (by omega) hl ll.length 0 (by omega) (z - (ll.length : Int)) (by omega) (by omega)
    refine ⟨z', fun h => ⟨by omega, by have := hz h; rwa [List.drop_zero] at this⟩, fun k hk' => ?_⟩
    unfold laws_szInt64SS.f
    rw [hw, if_neg hn]
    exact hk k (by omega)
theorem toss_ev (k : Nat) (hk : 1048576 < k) : ∀ ll : List (List Int), (∀ l ∈ ll, l.length ≤ 1048576) → tossG k ll = some ll
  | [], _ => rfl
  | l :: ll, h => by
    simp only [tossG]
    rw [to_ev l (h l (by simp)) k hk, Option.bind_some, toss_ev k hk ll (fun x hx => h x (by simp [hx])), Option.bind_some]
theorem toSS_ev (ll : List (List Int)) (hm : ll.length ≤ 1048576) (h : ∀ l ∈ ll, l.length ≤ 1048576) (k : Nat) (hk : 1048576 < k) : laws_toInt64SS.f k ll = some ll := by
  unfold laws_toInt64SS.f
  rw [if_pos (by omega), toss_ev k hk ll h]
theorem eqS2_l (X : List (List Int)) (hX : X.length ≤ 1048576) (hl : ∀ l ∈ X, l.length ≤ 1048576) : ∀ d i : Nat, i + d = X.length → ∀ k, d + 1048577 < k → laws_eqInt64SS.l0 k X X (i : Int) = some true
  | 0, i, e, k, hk => by
    obtain ⟨k, rfl⟩ : ∃ q, k = q + 1 := ⟨k - 1, by omega⟩
    simp only [laws_eqInt64SS.l0]
    rw [if_neg (by omega)]
  | d + 1, i, e, k, hk => by
    obtain ⟨k, rfl⟩ : ∃ q, k = q + 1 := ⟨k - 1, by omega⟩
    have hi : i < X.length := by omega
    have h3 := hl _ (List.getElem_mem hi)
    simp only [laws_eqInt64SS.l0]
    rw [if_pos (by omega), if_pos (by omega), if_pos (by omega), rdL1_nat X i hi, eq_ev X[i] (by omega) k (by omega), Option.bind_some, if_pos rfl, w64 (by omega) (by omega), show (i : Int) + 1 = ((i + 1 : Nat) : Int) by omega]
    exact eqS2_l X hX hl d (i + 1) (by omega) k (by omega)
theorem eqS2_ev (X : List (List Int)) (hX : X.length ≤ 1048576) (hl : ∀ l ∈ X, l.length ≤ 1048576) (k : Nat) (hk : 2097200 < k) : laws_eqInt64SS.f k X X = some true := by
  unfold laws_eqInt64SS.f
  rw [if_pos rfl]
  exact eqS2_l X hX hl X.length 0 (by omega) k (by omega)
theorem FnExactIsChain (l0 : List Int) (_ : l0.length ≤ maxLen) (_ : ∀ x ∈ l0, (Lit.int .i64 x).wf = true) (l1 : List (List Int)) (_ : l1.length ≤ maxLen) (_ : ∀ r ∈ l1, r.length ≤ maxLen ∧ ∀ x ∈ r, (Lit.int .i64 x).wf = true) : ∃ k, laws_FnExactIsChain.f k l0 l1 = some true := by
  rename_i hm0 _ hm1 hw1
  unfold maxLen at hm0
  by_cases h0 : 1048576 < l0.length
  · obtain ⟨z, hz, hz0⟩ := sz_gt l0 h0 (by omega)
    refine ⟨0, ?_⟩
    unfold laws_FnExactIsChain.f
    rw [hz, Option.bind_some, if_pos hz0]
  have hl0 : l0.length ≤ 1048576 := by omega
  obtain ⟨z, hz, hz0, hz1⟩ := sz_le2 l0 hl0
  obtain ⟨z', hz', hk'⟩ := szSS_ev l1 hm1 (fun l hl => (hw1 l hl).1) z hz0 hz1
  obtain ⟨k, hk⟩ : ∃ k : Nat, 2100000 ≤ k := ⟨_, Nat.le_refl _⟩
  refine ⟨k + 1, ?_⟩
  unfold laws_FnExactIsChain.f
  rw [hz, Option.bind_some, if_neg (by omega), hk' (k + 1) (by omega), Option.bind_some]
  by_cases hn : z' < 0
  · rw [if_pos hn]
  obtain ⟨hll, hl⟩ := hz' (by omega)
  obtain ⟨b, e, hb⟩ := chain_both l0 l1 hl
  rw [if_neg hn, toSp_ev l0 hl0 (k+1) (by omega), Option.bind_some, toSS_ev l1 hll hl (k+1) (by omega), Option.bind_some, (hb (k+1) (by omega)).1]
  simp only [Option.bind_some]
  rw [(hb (k+1) (by omega)).2]
  simp only [Option.bind_some, bne_self_eq_false, Bool.false_eq_true, if_false, laws_FnExactIsChain.j0]
  rw [toSp_ev l0 hl0 k (by omega), Option.bind_some, eqSp_ev l0 (by omega) k (by omega), Option.bind_some, if_pos rfl, toSS_ev l1 hll hl k (by omega), Option.bind_some, eqS2_ev l1 hll hl k (by omega)]
  rfl

end Go.Proofs.Ythbfaefneoeadaa.Pure
