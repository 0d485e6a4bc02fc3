/- The missing choices are told alike, the arguments are left alone, and each call's lists are new. For every space, rows and number; a longer list than 1048576 is answered true. -/
import Derived.Test.YthbfaefneoeadaaPFnExactMissingChoicesx0
import Derived.Test.YthbfaefneoeadaaPFnExactMissingChoicesx1
import Derived.Test.YthbfaefneoeadaaPFnExactMissingChoicesx2
import Derived.Test.YthbfaefneoeadaaPFnExactMissingChoicesx3
import Derived.Test.YthbfaefneoeadaaPFnExactMissingChoicesx4
import Derived.Test.YthbfaefneoeadaaPFnExactMissingChoicesx5
import Derived.Test.YthbfaefneoeadaaPFnExactMissingChoicesx6
import Derived.Test.YthbfaefneoeadaaPFnExactMissingChoicesx7
import Derived.KernelRfl
namespace Go.Proofs.Ythbfaefneoeadaa.Pure
open Go Go.RowKit Go.Proofs.Ythbfaefneoeadaa.PFnExactMissingChoices Go.Proofs.YthbfaefneoeadaaW.PrintWords Go.Proofs.YthbfaefneoeadaaW.PrintLast Go.Proofs.YthbfaefneoeadaaW.PrintMore Go.Proofs.Ythbfaefneoeadaa.DG
set_option linter.unusedVariables false
set_option linter.unusedSimpArgs false
theorem shl_one : ∀ n, n < 13 → shl .i64 1 ((n : Nat) : Int) = ((2 ^ n : Nat) : Int) := by decide +kernel
theorem pow_le {n : Nat} (h : n ≤ 12) : 2 ^ n ≤ 4096 := Nat.pow_le_pow_right (n := 2) (by omega) h
theorem w64 {i : Int} (h0 : -9223372036854775808 ≤ i) (h : i < 9223372036854775808) : wrap64 i = i := by unfold wrap64; omega
theorem u64 {i : Int} (h0 : 0 ≤ i) (h : i < 9223372036854775808) : IntKind.u64.wrap i = i := by
  have e : IntKind.u64.wrap i = i % 18446744073709551616 := by simp [IntKind.wrap, IntKind.bits, IntKind.signed]
  rw [e]; omega
def allN (p : Nat → Bool) : Nat → Bool
  | 0 => true
  | n+1 => p n && allN p n
theorem allN_at (p : Nat → Bool) : ∀ n, allN p n = true → ∀ s, s < n → p s = true
  | 0, _, s, h => by omega
  | n+1, h, s, hs => by
    simp only [allN, Bool.and_eq_true] at h
    by_cases e : s = n
    · subst e; exact h.1
    · exact allN_at p n h.2 s (by omega)

theorem set_mid (A B : List Int) (b s : Int) : (A ++ b :: B).set A.length s = (A ++ [s]) ++ B := by
  induction A with
  | nil => rfl
  | cons a A ih => simp [List.set_cons_succ]
theorem rd_mid (A B : List Int) (b : Int) : rd (A ++ b :: B) (A.length : Int) = b := by simp [rd]
theorem rd_nat (M : List Int) (i : Nat) (h : i < M.length) : rd M (i : Int) = M[i] := by simp [rd, List.getElem?_eq_getElem h]
def seqI : Int → Nat → List Int
  | _, 0 => []
  | s, n+1 => s :: seqI (s+1) n

def prodL : List Int → Int
  | [] => 1
  | q :: r => q * prodL r
theorem prodL_snoc (l : List Int) (q : Int) : prodL (l ++ [q]) = prodL l * q := by
  induction l with
  | nil => simp [prodL]
  | cons a l ih => simp only [List.cons_append, prodL, ih]; rw [Int.mul_assoc]
theorem prodL_bound : ∀ (l : List Int), (∀ q ∈ l, 2 ≤ q ∧ q ≤ 4) → 1 ≤ prodL l ∧ prodL l ≤ (4 : Int) ^ l.length
  | [], _ => by simp [prodL]
  | q :: r, h => by
    have h1 := h q (by simp)
    obtain ⟨h2, h3⟩ := prodL_bound r (fun x hx => h x (by simp [hx]))
    simp only [prodL, List.length_cons, Int.pow_succ]
    have hp : (0 : Int) ≤ 4 ^ r.length := Int.le_of_lt (Int.pow_pos (by omega))
    constructor
    · have : 1 * 1 ≤ q * prodL r := Int.mul_le_mul (by omega) h2 (by omega) (by omega)
      omega
    · rw [Int.mul_comm (4 ^ r.length) 4]
      exact Int.mul_le_mul h1.2 h3 (by omega) (by omega)
theorem prodL_le8 (l : List Int) (h : ∀ q ∈ l, 2 ≤ q ∧ q ≤ 4) (hl : l.length ≤ 8) : 1 ≤ prodL l ∧ prodL l ≤ 65536 := by
  obtain ⟨h1, h2⟩ := prodL_bound l h
  refine ⟨h1, Int.le_trans h2 ?_⟩
  have : ∀ n, n < 9 → (4 : Int) ^ n ≤ 65536 := by decide
  exact this _ (by omega)
/-- What a space's sizes are. -/
def SpaceOk (l : List Int) : Prop := 1 ≤ l.length ∧ l.length ≤ 8 ∧ (∀ q ∈ l, 2 ≤ q ∧ q ≤ 4) ∧ prodL l ≤ 1024

theorem specN_l : ∀ (B A : List Int), (∀ q ∈ A ++ B, 2 ≤ q ∧ q ≤ 4) → (A ++ B).length ≤ 8 → ∀ k, B.length < k → spec_l01N.l0 k (prodL A) A.length (A ++ B) = some (prodL (A ++ B))
  | [], A, h, hl, k, hk => by
    obtain ⟨k, rfl⟩ : ∃ q, k = q + 1 := ⟨k - 1, by simp at hk; omega⟩
    simp only [spec_l01N.l0]
    rw [if_neg (by simp)]; simp
  | b :: B, A, h, hl, k, hk => by
    obtain ⟨k, rfl⟩ : ∃ q, k = q + 1 := ⟨k - 1, by simp at hk; omega⟩
    have hb := h b (by simp)
    have hA := prodL_le8 (A ++ [b]) (fun q hq => h q (by simp at hq ⊢; rcases hq with hq | hq <;> simp [hq])) (by simp at hl ⊢; omega)
    rw [prodL_snoc] at hA
    simp only [spec_l01N.l0]
    simp only [List.length_append, List.length_cons] at hl hk
    rw [if_pos (by simp; omega), if_pos (by omega), rd_mid, w64 (by omega) (by omega), w64 (by omega) (by omega), ← prodL_snoc, show (A.length : Int) + 1 = ((A ++ [b]).length : Int) by simp]
    have := specN_l B (A ++ [b]) (by simpa using h) (by simp; omega) k (by omega)
    simpa using this
theorem specN_ev (l : List Int) (h : ∀ q ∈ l, 2 ≤ q ∧ q ≤ 4) (hl : l.length ≤ 8) : ∀ k, 10 ≤ k → spec_l01N.f k l = some (prodL l) := by
  intro k hk
  unfold spec_l01N.f
  exact specN_l l [] h hl k (by omega)

theorem specIs_l : ∀ (B A : List Int), (∀ q ∈ A, 2 ≤ q ∧ q ≤ 4) → (A ++ B).length ≤ 8 → ∀ k, B.length + 10 < k → spec_l01Is.l0 k A.length (A ++ B) = some (decide (∀ q ∈ A ++ B, 2 ≤ q ∧ q ≤ 4) && decide (prodL (A ++ B) ≤ 1024))
  | [], A, h, hl, k, hk => by
    obtain ⟨k, rfl⟩ : ∃ q, k = q + 1 := ⟨k - 1, by simp at hk; omega⟩
    simp only [List.append_nil] at hl ⊢
    simp only [spec_l01Is.l0]
    simp only [List.length_nil] at hk
    rw [if_neg (by omega), specN_ev A h hl k (by omega), Option.bind_some]
    simp only [decide_eq_true h, Bool.true_and]
  | b :: B, A, h, hl, k, hk => by
    obtain ⟨k, rfl⟩ : ∃ q, k = q + 1 := ⟨k - 1, by simp at hk; omega⟩
    simp only [spec_l01Is.l0]
    simp only [List.length_append, List.length_cons] at hl hk
    unfold spec_l01In.f
    rw [if_pos (by simp; omega), if_pos (by omega), rd_mid]
    by_cases hb : 2 ≤ b ∧ b ≤ 4
    · rw [if_pos hb.1, Option.bind_some, if_pos (by simpa using hb.2), w64 (by omega) (by omega), show (A.length : Int) + 1 = ((A ++ [b]).length : Int) by simp]
      have := specIs_l B (A ++ [b]) (fun q hq => by simp at hq; rcases hq with hq | rfl; exact h q hq; exact hb) (by simp; omega) k (by omega)
      rw [List.append_assoc, List.singleton_append] at this
      rw [this]
    · have hd : decide (∀ q ∈ A ++ b :: B, 2 ≤ q ∧ q ≤ 4) = false := by
        rw [decide_eq_false_iff_not]; intro hh; exact hb (hh b (by simp))
      rw [hd, Bool.false_and]
      by_cases h1 : b ≥ 2
      · rw [if_pos h1, Option.bind_some, if_neg (by simp; omega)]
      · rw [if_neg h1, Option.bind_some]; rfl
instance (l : List Int) : Decidable (SpaceOk l) := by unfold SpaceOk; infer_instance
theorem specIs_ev (l : List Int) : ∀ k, 30 ≤ k → spec_l01Is.f k l = some (decide (SpaceOk l)) := by
  intro k hk
  unfold spec_l01Is.f
  by_cases h1 : 1 ≤ l.length ∧ l.length ≤ 8
  · have e : spec_l01In.f (l.length : Int) 1 8 = some true := by
      unfold spec_l01In.f; rw [if_pos (by omega)]; simp; omega
    rw [e, Option.bind_some, if_pos rfl]
    have := specIs_l l [] (by simp) (by simpa using h1.2) k (by omega)
    simp only [List.nil_append, List.length_nil] at this
    rw [show (0 : Int) = ((0 : Nat) : Int) from rfl, this]
    congr 1
    rw [Bool.eq_iff_iff]
    simp [SpaceOk, h1]
  · have e : spec_l01In.f (l.length : Int) 1 8 = some false := by
      unfold spec_l01In.f
      by_cases h2 : (l.length : Int) ≥ 1
      · rw [if_pos h2]; simp; omega
      · rw [if_neg h2]
    have hd : decide (SpaceOk l) = false := by
      rw [decide_eq_false_iff_not]; intro hh; exact h1 ⟨hh.1, hh.2.1⟩
    rw [e, Option.bind_some, hd]; rfl

theorem implIs_l : ∀ (B A : List Int), (∀ q ∈ A, 2 ≤ q ∧ q ≤ 4) → (A ++ B).length ≤ 8 → ∀ k, B.length < k → impl_IsSpace.l0 k (prodL A) (A ++ B) (A ++ B).length A.length = some (decide (∀ q ∈ A ++ B, 2 ≤ q ∧ q ≤ 4) && decide (prodL (A ++ B) ≤ 1024))
  | [], A, h, hl, k, hk => by
    obtain ⟨k, rfl⟩ : ∃ q, k = q + 1 := ⟨k - 1, by simp at hk; omega⟩
    simp only [List.append_nil] at hl ⊢
    simp only [impl_IsSpace.l0]
    rw [if_neg (by omega)]
    simp only [decide_eq_true h, Bool.true_and]
  | b :: B, A, h, hl, k, hk => by
    obtain ⟨k, rfl⟩ : ∃ q, k = q + 1 := ⟨k - 1, by simp at hk; omega⟩
    simp only [impl_IsSpace.l0]
    simp only [List.length_append, List.length_cons] at hl hk
    rw [if_pos (by simp; omega), if_pos (by omega), if_pos (by simp; omega), rd_mid]
    by_cases hb : 2 ≤ b ∧ b ≤ 4
    · have hA := prodL_le8 (A ++ [b]) (fun q hq => by simp at hq; rcases hq with hq | rfl; exact h q hq; exact hb) (by simp; omega)
      rw [prodL_snoc] at hA
      rw [if_neg (by omega), if_neg (by omega), w64 (by omega) (by omega), w64 (by omega) (by omega), ← prodL_snoc, show (A.length : Int) + 1 = ((A ++ [b]).length : Int) by simp]
      have := implIs_l B (A ++ [b]) (fun q hq => by simp at hq; rcases hq with hq | rfl; exact h q hq; exact hb) (by simp; omega) k (by omega)
      rw [List.append_assoc, List.singleton_append] at this
      rw [this]
    · have hd : decide (∀ q ∈ A ++ b :: B, 2 ≤ q ∧ q ≤ 4) = false := by
        rw [decide_eq_false_iff_not]; intro hh; exact hb (hh b (by simp))
      rw [hd, Bool.false_and]
      by_cases h1 : b < 2
      · rw [if_pos h1]
      · rw [if_neg h1, if_pos (by omega)]
theorem implIs_ev (l : List Int) : ∀ k, 30 ≤ k → impl_IsSpace.f k l = some (decide (SpaceOk l)) := by
  intro k hk
  obtain ⟨k, rfl⟩ : ∃ q, k = q + 1 := ⟨k - 1, by omega⟩
  unfold impl_IsSpace.f
  by_cases h1 : 1 ≤ l.length ∧ l.length ≤ 8
  · have e : decide ((l.length : Int) > 8) = false := by simp; omega
    rw [if_neg (by omega), e]
    simp only [impl_IsSpace.j0]
    rw [if_neg (by decide)]
    have := implIs_l l [] (by simp) (by simpa using h1.2) k (by omega)
    simp only [List.nil_append, List.length_nil, prodL] at this
    rw [show (0 : Int) = ((0 : Nat) : Int) from rfl, this]
    congr 1
    rw [Bool.eq_iff_iff]
    simp [SpaceOk, h1]
  · have hd : decide (SpaceOk l) = false := by
      rw [decide_eq_false_iff_not]; intro hh; exact h1 ⟨hh.1, hh.2.1⟩
    rw [hd]
    by_cases h2 : (l.length : Int) < 1
    · rw [if_pos h2]; simp [impl_IsSpace.j0]
    · have e : decide ((l.length : Int) > 8) = true := by simp; omega
      rw [if_neg h2, e]; simp [impl_IsSpace.j0]

/-- What a code's words are: ascending, all of them words. -/
def CodeOk (n : Int) (l : List Int) : Prop := ∀ j (hj : j < l.length), (0 ≤ l[j] ∧ l[j] < n) ∧ ∀ h0 : 0 < j, l[j-1]'(by omega) < l[j]
theorem CodeOk.len {n : Int} {l : List Int} (h : CodeOk n l) : l.length = 0 ∨ (l.length : Int) ≤ n := by
  have key : ∀ j (hj : j < l.length), (j : Int) ≤ l[j] := by
    intro j
    induction j with
    | zero => intro hj; have := (h 0 hj).1; omega
    | succ j ih =>
      intro hj
      have h1 := ih (by omega)
      have h2 := (h (j+1) hj).2 (by omega)
      simp only [Nat.add_sub_cancel] at h2
      omega
  by_cases h0 : l.length = 0
  · exact .inl h0
  · right
    have h1 := key (l.length - 1) (by omega)
    have h2 := (h (l.length - 1) (by omega)).1
    omega

theorem implCount_l : ∀ (B A : List Int), (∀ q ∈ A ++ B, 2 ≤ q ∧ q ≤ 4) → (A ++ B).length ≤ 8 → ∀ k, B.length < k → impl_count.l0 k (prodL A) (A ++ B) (A ++ B).length A.length = some (prodL (A ++ B))
  | [], A, h, hl, k, hk => by
    obtain ⟨k, rfl⟩ : ∃ q, k = q + 1 := ⟨k - 1, by simp at hk; omega⟩
    simp only [impl_count.l0]
    rw [if_neg (by simp)]; simp
  | b :: B, A, h, hl, k, hk => by
    obtain ⟨k, rfl⟩ : ∃ q, k = q + 1 := ⟨k - 1, by simp at hk; omega⟩
    have hb := h b (by simp)
    have hA := prodL_le8 (A ++ [b]) (fun q hq => h q (by simp at hq ⊢; rcases hq with hq | hq <;> simp [hq])) (by simp at hl ⊢; omega)
    rw [prodL_snoc] at hA
    simp only [impl_count.l0]
    simp only [List.length_append, List.length_cons] at hl hk
    rw [if_pos (by simp; omega), if_pos (by omega), if_pos (by simp; omega), rd_mid, w64 (by omega) (by omega), w64 (by omega) (by omega), ← prodL_snoc, show (A.length : Int) + 1 = ((A ++ [b]).length : Int) by simp]
    have := implCount_l B (A ++ [b]) (by simpa using h) (by simp; omega) k (by omega)
    simpa using this
theorem implCount_ev (l : List Int) (h : ∀ q ∈ l, 2 ≤ q ∧ q ≤ 4) (hl : l.length ≤ 8) : ∀ k, 10 ≤ k → impl_count.f k l = some (prodL l) := by
  intro k hk
  unfold impl_count.f
  exact implCount_l l [] h hl k (by omega)

theorem areWords_l (n : Int) (l : List Int) (hl : l.length ≤ 4611686018427387904) : ∀ d i : Nat, i + d = l.length → ∃ b : Bool, (b = true ↔ ∀ j (hj : j < l.length), i ≤ j → 0 ≤ l[j] ∧ l[j] < n) ∧ ∀ k, d + 1 ≤ k → impl_areWords.l0 k n l l.length i = some b
  | 0, i, e => by
    refine ⟨true, ⟨fun _ j hj hi => by omega, fun _ => rfl⟩, fun k hk => ?_⟩
    obtain ⟨k, rfl⟩ : ∃ q, k = q + 1 := ⟨k - 1, by omega⟩
    simp only [impl_areWords.l0]; rw [if_neg (by omega)]
  | d+1, i, e => by
    have hi : i < l.length := by omega
    have hr := rd_nat l i hi
    have hw : wrap64 ((i : Int) + 1) = ((i + 1 : Nat) : Int) := by rw [w64 (by omega) (by omega)]; omega
    obtain ⟨b, hb, g⟩ := areWords_l n l hl d (i+1) (by omega)
    by_cases hin : 0 ≤ l[i] ∧ l[i] < n
    · refine ⟨b, ⟨fun h j hj hij => ?_, fun h => hb.2 fun j hj hij => h j hj (by omega)⟩, fun k hk => ?_⟩
      · by_cases hji : j = i
        · subst hji; exact hin
        · exact hb.1 h j hj (by omega)
      · obtain ⟨k, rfl⟩ : ∃ q, k = q + 1 := ⟨k - 1, by omega⟩
        simp only [impl_areWords.l0]
        rw [if_pos (by omega), if_pos (by omega), if_pos (by omega), hr, if_neg (by omega), if_neg (by omega), hw]
        exact g k (by omega)
    · refine ⟨false, ⟨fun h => absurd h (by decide), fun h => absurd (h i hi (by omega)) hin⟩, fun k hk => ?_⟩
      obtain ⟨k, rfl⟩ : ∃ q, k = q + 1 := ⟨k - 1, by omega⟩
      simp only [impl_areWords.l0]
      rw [if_pos (by omega), if_pos (by omega), if_pos (by omega), hr]
      by_cases h1 : l[i] < 0
      · rw [if_pos h1]
      · rw [if_neg h1, if_pos (by omega)]
theorem areWords_ev (s : List Int) (hs : SpaceOk s) (l : List Int) (hl : l.length ≤ 4611686018427387904) : ∃ b : Bool, (b = true ↔ ∀ j (hj : j < l.length), 0 ≤ l[j] ∧ l[j] < prodL s) ∧ ∀ k, l.length + 12 ≤ k → impl_areWords.f k s l = some b := by
  obtain ⟨b, h, g⟩ := areWords_l (prodL s) l hl l.length 0 (by omega)
  refine ⟨b, ⟨fun hb j hj => h.1 hb j hj (by omega), fun hc => h.2 fun j hj _ => hc j hj⟩, fun k hk => ?_⟩
  unfold impl_areWords.f
  rw [implCount_ev s hs.2.2.1 hs.2.1 k (by omega), Option.bind_some]
  exact g k (by omega)

theorem rowsNil (s : List Int) (b : Int) (k : Nat) (hk : 60 ≤ k) : impl_rowsCode.f k s [] b = some (if SpaceOk s then (if 1 ≤ b ∧ b ≤ mn 3 (s.length : Int) then 0 else 2) else 1) := by
  unfold impl_rowsCode.f
  rw [implIs_ev s k (by omega)]
  by_cases hs : SpaceOk s
  · obtain ⟨c, hc, g⟩ := areWords_ev s hs [] (by simp)
    have : c = true := hc.2 (fun j hj => by simp at hj)
    subst this
    rw [decide_eq_true hs, Option.bind_some, if_pos rfl, if_neg (by simp), g k (by simp; omega), Option.bind_some, if_pos rfl, if_pos hs]
    have e : impl_isStrength.f s b = some (decide (1 ≤ b ∧ b ≤ mn 3 (s.length : Int))) := by
      unfold impl_isStrength.f impl_places.f
      by_cases h1 : b ≥ 1
      · rw [if_pos h1, Option.bind_some]; congr 1; rw [Bool.eq_iff_iff]; simp; omega
      · rw [if_neg h1]; congr 1; rw [Bool.eq_iff_iff]; simp; omega
    rw [e, Option.bind_some]
    by_cases hb : 1 ≤ b ∧ b ≤ mn 3 (s.length : Int)
    · rw [decide_eq_true hb, if_pos rfl, if_pos hb]
    · rw [decide_eq_false hb, if_neg (by decide), if_neg hb]
  · rw [decide_eq_false hs, Option.bind_some, if_neg (by decide), if_neg hs]
theorem codeNil (s : List Int) (b : Int) (k : Nat) (hk : 60 ≤ k) : spec_l10Code.f k s b = some (if SpaceOk s then (if 1 ≤ b ∧ b ≤ mn 3 (s.length : Int) then 0 else 2) else 1) := by
  unfold spec_l10Code.f
  rw [specIs_ev s k (by omega)]
  by_cases hs : SpaceOk s
  · rw [decide_eq_true hs, Option.bind_some, if_pos rfl, if_pos hs]
    have e : spec_l01In.f b 1 (mn 3 (s.length : Int)) = some (decide (1 ≤ b ∧ b ≤ mn 3 (s.length : Int))) := by
      unfold spec_l01In.f
      by_cases h1 : b ≥ 1
      · rw [if_pos h1]; congr 1; rw [Bool.eq_iff_iff]; simp; omega
      · rw [if_neg h1]; congr 1; rw [Bool.eq_iff_iff]; simp; omega
    rw [e, Option.bind_some]
    by_cases hb : 1 ≤ b ∧ b ≤ mn 3 (s.length : Int)
    · rw [decide_eq_true hb, if_pos rfl, if_pos hb]
    · rw [decide_eq_false hb, if_neg (by decide), if_neg hb]
  · rw [decide_eq_false hs, Option.bind_some, if_neg (by decide), if_neg hs]

def Ev {α : Type} (f : Nat → Option α) (r : α) : Prop := ∃ K, ∀ k, K ≤ k → f k = some r
theorem Ev.step {α : Type} {f g : Nat → Option α} {r : α} (h : Ev g r) (e : ∀ k, f (k + 1) = g k) : Ev f r := by
  obtain ⟨K, hK⟩ := h
  refine ⟨K + 1, fun k hk => ?_⟩
  obtain ⟨k, rfl⟩ : ∃ q, k = q + 1 := ⟨k - 1, by omega⟩
  rw [e]; exact hK k (by omega)
theorem Ev.same {α : Type} {f g : Nat → Option α} {r : α} (h : Ev g r) (e : ∀ k, f k = g k) : Ev f r := by
  obtain ⟨K, hK⟩ := h
  exact ⟨K, fun k hk => by rw [e]; exact hK k hk⟩
theorem Ev.bind {α β : Type} {f : Nat → Option α} {v : α} {g : Nat → α → Option β} {r : β} (hf : Ev f v) (hg : Ev (fun k => g k v) r) : Ev (fun k => (f k).bind (g k)) r := by
  obtain ⟨K, hK⟩ := hf
  obtain ⟨M, hM⟩ := hg
  refine ⟨K + M, fun k hk => ?_⟩
  show (f k).bind (g k) = _
  rw [hK k (by omega), Option.bind_some]; exact hM k (by omega)
theorem Ev.of {α : Type} (v : α) : Ev (fun _ => some v) v := ⟨0, fun _ _ => rfl⟩
theorem flat_len {α β : Type} (f : α → List β) (M : Nat) : ∀ (l : List α), (∀ x ∈ l, (f x).length ≤ M) → (l.flatMap f).length ≤ l.length * M
  | [], _ => by simp
  | x :: l, h => by
    have h1 := flat_len f M l fun y hy => h y (by simp [hy])
    have h2 := h x (by simp)
    rw [List.flatMap_cons, List.length_append, List.length_cons, Nat.succ_mul]; omega
theorem rdL1_nat (x : List (List Int)) (j : Nat) (h : j < x.length) : rd_L1 x (j : Int) = x[j] := by simp [rd_L1, List.getElem?_eq_getElem h]
theorem ownl (l : List Int) (h : l.length ≤ 1000000) : spec_l01Own.f l = some l := by
  unfold spec_l01Own.f
  rw [Option.bind_some, if_pos (by simp; omega), List.nil_append]

def rowsCd (s l : List Int) (b : Int) : Int := if SpaceOk s then (if l.length ≤ 200 ∧ (∀ r ∈ l, 0 ≤ r ∧ r < prodL s) ∧ 1 ≤ b ∧ b ≤ mn 3 (s.length : Int) then 0 else 2) else 1
theorem rowsCd_zero {s l : List Int} {b : Int} (h : rowsCd s l b = 0) : SpaceOk s ∧ l.length ≤ 200 ∧ (∀ r ∈ l, 0 ≤ r ∧ r < prodL s) ∧ 1 ≤ b ∧ b ≤ mn 3 (s.length : Int) := by
  unfold rowsCd at h
  by_cases hs : SpaceOk s
  · rw [if_pos hs] at h
    by_cases h2 : l.length ≤ 200 ∧ (∀ r ∈ l, 0 ≤ r ∧ r < prodL s) ∧ 1 ≤ b ∧ b ≤ mn 3 (s.length : Int)
    · exact ⟨hs, h2⟩
    · rw [if_neg h2] at h; omega
  · rw [if_neg hs] at h; omega
theorem strong_ev (s : List Int) (b : Int) : impl_isStrength.f s b = some (decide (1 ≤ b ∧ b ≤ mn 3 (s.length : Int))) := by
  unfold impl_isStrength.f impl_places.f
  by_cases h1 : b ≥ 1
  · rw [if_pos h1, Option.bind_some]; congr 1; rw [Bool.eq_iff_iff]; simp; omega
  · rw [if_neg h1]; congr 1; rw [Bool.eq_iff_iff]; simp; omega
theorem mem_iff_get (l : List Int) (Q : Int → Prop) : (∀ j (hj : j < l.length), Q l[j]) ↔ ∀ r ∈ l, Q r :=
  ⟨fun h r hr => by obtain ⟨j, hj, rfl⟩ := List.mem_iff_getElem.1 hr; exact h j hj, fun h j hj => h _ (List.getElem_mem hj)⟩
theorem rowsI_ev (s l : List Int) (b : Int) (hl : l.length ≤ 1048576) (k : Nat) (hk : l.length + 60 ≤ k) : impl_rowsCode.f k s l b = some (rowsCd s l b) := by
  unfold impl_rowsCode.f rowsCd
  rw [implIs_ev s k (by omega)]
  by_cases hs : SpaceOk s
  · obtain ⟨c, hc, g⟩ := areWords_ev s hs l (by omega)
    rw [mem_iff_get l fun x => 0 ≤ x ∧ x < prodL s] at hc
    rw [decide_eq_true hs, Option.bind_some, if_pos rfl, if_pos hs]
    by_cases h2 : l.length ≤ 200
    · rw [if_neg (by omega), g k (by omega), Option.bind_some]
      by_cases hcc : c = true
      · rw [if_pos hcc, strong_ev, Option.bind_some]
        by_cases hb : 1 ≤ b ∧ b ≤ mn 3 (s.length : Int)
        · rw [decide_eq_true hb, if_pos rfl, if_pos ⟨h2, hc.1 hcc, hb⟩]
        · rw [decide_eq_false hb, if_neg (by decide), if_neg fun h => hb h.2.2]
      · rw [if_neg hcc, if_neg fun h => hcc (hc.2 h.2.1)]
    · rw [if_pos (by omega), if_neg fun h => h2 h.1]
  · rw [decide_eq_false hs, Option.bind_some, if_neg (by decide), if_neg hs]
theorem rowsS_l (s l : List Int) (hs : SpaceOk s) (hl : l.length ≤ 1048576) (c : Int) : ∀ d i : Nat, i + d = l.length → ∀ k, d + 40 ≤ k → spec_l10Rows.l0 k l c i s = some (if (∀ r ∈ l.drop i, 0 ≤ r ∧ r < prodL s) ∧ l.length ≤ 200 then c else 2)
  | 0, i, e, k, hk => by
    obtain ⟨k, rfl⟩ : ∃ q, k = q + 1 := ⟨k - 1, by omega⟩
    simp only [spec_l10Rows.l0]
    rw [if_neg (by omega), List.drop_of_length_le (by omega)]
    by_cases h2 : l.length ≤ 200
    · rw [if_neg (by omega), if_pos ⟨fun r hr => by simp at hr, h2⟩]
    · rw [if_pos (by omega), if_neg fun h => h2 h.2]
  | d + 1, i, e, k, hk => by
    obtain ⟨k, rfl⟩ : ∃ q, k = q + 1 := ⟨k - 1, by omega⟩
    have hi : i < l.length := by omega
    have hP := prodL_le8 s hs.2.2.1 hs.2.1
    have hin : spec_l01In.f l[i] 0 (prodL s - 1) = some (decide (0 ≤ l[i] ∧ l[i] < prodL s)) := by
      unfold spec_l01In.f
      by_cases h1 : l[i] ≥ 0
      · rw [if_pos h1]; congr 1; rw [Bool.eq_iff_iff]; simp; omega
      · rw [if_neg h1]; congr 1; rw [Bool.eq_iff_iff]; simp; omega
    simp only [spec_l10Rows.l0]
    rw [if_pos (by omega), if_pos (by omega), specN_ev s hs.2.2.1 hs.2.1 k (by omega), Option.bind_some, rd_nat l i hi, w64 (i := prodL s - 1) (by omega) (by omega), hin, Option.bind_some, w64 (by omega) (by omega), show (i : Int) + 1 = ((i + 1 : Nat) : Int) by omega]
    rw [List.drop_eq_getElem_cons hi]
    by_cases hq : 0 ≤ l[i] ∧ l[i] < prodL s
    · rw [decide_eq_true hq, if_pos rfl, rowsS_l s l hs hl c d (i + 1) (by omega) k (by omega)]
      congr 1
      by_cases h3 : (∀ r ∈ l.drop (i + 1), 0 ≤ r ∧ r < prodL s) ∧ l.length ≤ 200
      · rw [if_pos h3, if_pos ⟨fun r hr => (List.mem_cons.1 hr).elim (fun e => e ▸ hq) (h3.1 r), h3.2⟩]
      · rw [if_neg h3, if_neg fun h => h3 ⟨fun r hr => h.1 r (List.mem_cons_of_mem _ hr), h.2⟩]
    · rw [decide_eq_false hq, if_neg (by decide), if_neg fun h => hq (h.1 _ List.mem_cons_self)]
theorem rowsS_ev (s l : List Int) (b : Int) (hl : l.length ≤ 1048576) (k : Nat) (hk : l.length + 80 ≤ k) : spec_l10Rows.f k s l b = some (rowsCd s l b) := by
  unfold spec_l10Rows.f rowsCd
  rw [codeNil s b k (by omega), Option.bind_some]
  by_cases hs : SpaceOk s
  · rw [if_pos hs, if_pos hs]
    rw [if_neg (by split <;> omega)]
    have hz := rowsS_l s l hs hl (if 1 ≤ b ∧ b ≤ mn 3 (s.length : Int) then 0 else 2) l.length 0 (by omega) k (by omega)
    rw [List.drop_zero] at hz
    refine hz.trans ?_
    congr 1
    by_cases h1 : 1 ≤ b ∧ b ≤ mn 3 (s.length : Int)
    · rw [if_pos h1]
      by_cases h2 : (∀ r ∈ l, 0 ≤ r ∧ r < prodL s) ∧ l.length ≤ 200
      · rw [if_pos h2, if_pos ⟨h2.2, h2.1, h1⟩]
      · rw [if_neg h2, if_neg fun h => h2 ⟨h.2.1, h.1⟩]
    · rw [if_neg h1, if_neg (fun h : l.length ≤ 200 ∧ (∀ r ∈ l, 0 ≤ r ∧ r < prodL s) ∧ 1 ≤ b ∧ b ≤ mn 3 (s.length : Int) => h1 h.2.2)]
      split <;> rfl
  · rw [if_neg hs, if_pos rfl, if_neg hs]

theorem prodI_eq : ∀ l : List Int, prodI l = prodL l
  | [] => rfl
  | q :: r => by simp [prodI, prodL, prodI_eq r]

theorem set_rep (m : Nat) (x : Int) (R : List Int) : (List.replicate (m + 1) 0 ++ R).set m x = List.replicate m 0 ++ x :: R := by
  rw [List.replicate_succ', List.append_assoc, List.set_append]
  simp
theorem digL_drop (s : List Int) (w : Int) (m : Nat) (hm : m < s.length) : digL (s.drop m) w = (w / prodI (s.drop (m + 1)) % rd s (m : Int)) :: digL (s.drop (m + 1)) w := by
  rw [List.drop_eq_getElem_cons hm]
  have e : rd s (m : Int) = s[m] := by simp [rd, List.getElem?_eq_getElem hm]
  rw [e]; rfl
theorem size_at (s : List Int) (hs : ∀ q ∈ s, 2 ≤ q ∧ q ≤ 4) (m : Nat) (hm : m < s.length) : 2 ≤ rd s (m : Int) ∧ rd s (m : Int) ≤ 4 := by
  have e : rd s (m : Int) = s[m] := by simp [rd, List.getElem?_eq_getElem hm]
  rw [e]; exact hs _ (List.getElem_mem hm)
theorem div_nonneg' (s : List Int) (w : Int) (hs : ∀ q ∈ s, 2 ≤ q ∧ q ≤ 4) (hw0 : 0 ≤ w) (m : Nat) : 0 ≤ w / prodI (s.drop m) ∧ w / prodI (s.drop m) ≤ w := by
  have := prodI_pos (s.drop m) (fun q h => hs q (List.mem_of_mem_drop h))
  exact ⟨Int.ediv_nonneg hw0 (by omega), Int.ediv_le_self _ hw0⟩
theorem specDigits_l (s : List Int) (hs : ∀ q ∈ s, 2 ≤ q ∧ q ≤ 4) (h8 : s.length ≤ 8) (w : Int) (hw0 : 0 ≤ w) (hw1 : w ≤ 1073741824) : ∀ m : Nat, m ≤ s.length → ∀ k, m < k → spec_l01Digits.l0 k (w / prodI (s.drop m)) (List.replicate m 0 ++ digL (s.drop m) w) ((m : Int) - 1) s = some (digL s w)
  | 0, _, k, hk => by
    obtain ⟨k, rfl⟩ : ∃ q, k = q + 1 := ⟨k - 1, by omega⟩
    simp only [spec_l01Digits.l0]
    rw [if_neg (by omega)]; simp
  | m + 1, hm, k, hk => by
    obtain ⟨k, rfl⟩ : ∃ q, k = q + 1 := ⟨k - 1, by omega⟩
    have hq := size_at s hs m (by omega)
    obtain ⟨h1, h2⟩ := div_nonneg' s w hs hw0 (m + 1)
    have hlen : ((List.replicate (m + 1) 0 ++ digL (s.drop (m + 1)) w).length : Int) = (s.length : Int) := by
      rw [List.length_append, List.length_replicate, digL_len, List.length_drop]; omega
    have hd := div_prod s w m (by omega) hs
    obtain ⟨h3, h4⟩ := div_nonneg' s w hs hw0 m
    simp only [spec_l01Digits.l0]
    rw [show ((m + 1 : Nat) : Int) - 1 = (m : Int) by omega, if_pos (by omega), if_pos (by omega), if_pos (by omega), if_neg (by omega), if_pos (by omega), Int.toNat_natCast, Int.tdiv_eq_ediv_of_nonneg h1, Int.tmod_eq_emod_of_nonneg h1, hd, w64 (by omega) (by omega), w64 (by omega) (by omega), set_rep, ← digL_drop s w m (by omega)]
    exact specDigits_l s hs h8 w hw0 hw1 m (by omega) k (by omega)
theorem specDigits_ev (s : List Int) (hs : ∀ q ∈ s, 2 ≤ q ∧ q ≤ 4) (h8 : s.length ≤ 8) (w : Int) (hw0 : 0 ≤ w) (hw1 : w ≤ 1073741824) (k : Nat) (hk : 10 ≤ k) : spec_l01Digits.f k s w = some (digL s w) := by
  unfold spec_l01Digits.f
  rw [if_pos (by omega), if_pos (by omega), Int.toNat_natCast]
  have h := specDigits_l s hs h8 w hw0 hw1 s.length (Nat.le_refl _) k (by omega)
  rw [List.drop_length] at h
  simp only [prodI, digL, List.append_nil, Int.ediv_one] at h
  rw [w64 (by omega) (by omega)]
  exact h

/-- A list of t places and t digits. -/
def ChG (n t : Nat) (c : List Int) : Prop := c.length = 2 * t ∧ ∀ i, i < t → 0 ≤ rd c (i : Int) ∧ rd c (i : Int) < (n : Int)
theorem chAll_g (s : List Int) (t : Nat) : ∀ c ∈ chAll s (plc s.length t 0), ChG s.length t c := by
  intro c hc
  unfold chAll at hc
  obtain ⟨p, hp, hc⟩ := List.mem_flatMap.1 hc
  obtain ⟨v, _, rfl⟩ := List.mem_map.1 hc
  obtain ⟨h1, h2⟩ := plc_ok s.length t 0 p hp
  refine ⟨by rw [List.length_append, digL_len]; simp [szs]; omega, fun i hi => ?_⟩
  have e : rd (p ++ digL (szs s p) (v : Int)) (i : Int) = p[i]'(by omega) := by
    rw [rd_nat _ i (by rw [List.length_append]; omega), List.getElem_append_left (by omega)]
  rw [e]
  exact h2 _ (List.getElem_mem _)
theorem hs10 (d l : List Int) (t n : Nat) (hd : d.length = n) (hg : ChG n t l) (ht : t ≤ 8) : ∀ m j : Nat, j + m = t → ∀ k, m + 1 ≤ k → spec_l10Has.l0 k d l t j = some ((List.range' j m).all fun j => rd d (rd l (j : Int)) == rd l ((t + j : Nat) : Int))
  | 0, j, e, k, hk => by
    obtain ⟨k, rfl⟩ : ∃ q, k = q + 1 := ⟨k - 1, by omega⟩
    simp only [spec_l10Has.l0]
    rw [if_neg (by omega)]; rfl
  | m + 1, j, e, k, hk => by
    obtain ⟨k, rfl⟩ : ∃ q, k = q + 1 := ⟨k - 1, by omega⟩
    obtain ⟨p1, p2⟩ := hg.2 j (by omega)
    have hl := hg.1
    have hw : wrap64 ((j : Int) + 1) = ((j + 1 : Nat) : Int) := by rw [w64 (by omega) (by omega)]; omega
    have hw2 : wrap64 ((t : Int) + (j : Int)) = ((t + j : Nat) : Int) := by rw [w64 (by omega) (by omega)]; omega
    simp only [spec_l10Has.l0]
    rw [if_pos (by omega), if_pos (by omega), if_pos (by omega), if_pos p1, if_pos (by omega), hw2, if_pos (by omega), if_pos (by omega), hw, List.range'_succ, List.all_cons]
    by_cases hm : rd d (rd l (j : Int)) = rd l ((t + j : Nat) : Int)
    · have hb : (rd d (rd l (j : Int)) == rd l ((t + j : Nat) : Int)) = true := beq_iff_eq.2 hm
      rw [if_pos hm, hb, Bool.true_and]
      exact hs10 d l t n hd hg ht m (j + 1) (by omega) k (by omega)
    · have hb : (rd d (rd l (j : Int)) == rd l ((t + j : Nat) : Int)) = false := beq_eq_false_iff_ne.2 hm
      rw [if_neg hm, hb, Bool.false_and]
theorem has_ev (d l : List Int) (t n : Nat) (hd : d.length = n) (hg : ChG n t l) (ht : t ≤ 8) (k : Nat) (hk : 10 ≤ k) : spec_l10Has.f k d l = some (hasB d l t) := by
  have hl := hg.1
  unfold spec_l10Has.f
  have h := hs10 d l t n hd hg ht t 0 (by omega) k (by omega)
  rw [w64 (by omega) (by omega), show ((l.length : Nat) : Int) / 2 = (t : Int) by omega]
  rw [show (0 : Int) = ((0 : Nat) : Int) from rfl, h, hasB, List.range_eq_range']
theorem ms1 (s : List Int) (rows : List Int) (j : Nat) (hj : j < rows.length) (hjl : rows.length ≤ 1000000) (d : List Int) (hd : d.length = s.length) (t : Nat) (ht : t ≤ 8) (X : List (List Int)) (hX : ∀ c ∈ X, ChG s.length t c) (hXl : X.length ≤ 1000000) (r : List (List Int)) : ∀ n i : Nat, i + n = X.length → ∀ acc : List (List Int), acc.length + n ≤ 1000000 → Ev (fun k => spec_l10Missing.l0 k rows (acc ++ (X.drop i).filter fun c => !hasB d c t) ((j : Int) + 1) s) r → Ev (fun k => spec_l10Missing.l1 k rows X (j : Int) d acc (i : Int) s) r
  | 0, i, e, acc, ha, h => by
    refine h.step fun k => ?_
    simp only [spec_l10Missing.l1]
    rw [if_neg (by omega), w64 (by omega) (by omega), List.drop_of_length_le (by omega)]
    simp
  | n + 1, i, e, acc, ha, h => by
    have hi : i < X.length := by omega
    have hg := hX _ (List.getElem_mem hi)
    rw [List.drop_eq_getElem_cons hi, List.filter_cons] at h
    by_cases hb : hasB d X[i] t = true
    · rw [if_neg (by rw [hb]; decide)] at h
      obtain ⟨K, hK⟩ := ms1 s rows j hj hjl d hd t ht X hX hXl r n (i + 1) (by omega) acc (by omega) h
      refine ⟨K + 11, fun k hk => ?_⟩
      obtain ⟨k, rfl⟩ : ∃ q, k = q + 1 := ⟨k - 1, by omega⟩
      simp only [spec_l10Missing.l1]
      rw [if_pos (by omega), if_pos (by omega), rdL1_nat X i hi, has_ev d X[i] t s.length hd hg ht k (by omega), Option.bind_some, if_pos hb, w64 (by omega) (by omega), show (i : Int) + 1 = ((i + 1 : Nat) : Int) by omega]
      exact hK k (by omega)
    · have hb : hasB d X[i] t = false := by simpa using hb
      rw [if_pos (by rw [hb]; rfl)] at h
      obtain ⟨K, hK⟩ := ms1 s rows j hj hjl d hd t ht X hX hXl r n (i + 1) (by omega) (acc ++ [X[i]]) (by simp; omega) (by rw [List.append_assoc]; exact h)
      refine ⟨K + 11, fun k hk => ?_⟩
      obtain ⟨k, rfl⟩ : ∃ q, k = q + 1 := ⟨k - 1, by omega⟩
      simp only [spec_l10Missing.l1]
      rw [if_pos (by omega), if_pos (by omega), rdL1_nat X i hi, has_ev d X[i] t s.length hd hg ht k (by omega), Option.bind_some, if_neg (by rw [hb]; decide), if_pos (by omega), w64 (by omega) (by omega), show (i : Int) + 1 = ((i + 1 : Nat) : Int) by omega]
      exact hK k (by omega)
/-- The choices, of some, that no row has. -/
def leftOf (s : List Int) (t : Nat) (X : List (List Int)) (rows : List Int) : List (List Int) := X.filter fun c => rows.all fun r => !hasB (digL s r) c t
theorem leftOf_cons (s : List Int) (t : Nat) (X : List (List Int)) (r : Int) (rows : List Int) : leftOf s t X (r :: rows) = leftOf s t (X.filter fun c => !hasB (digL s r) c t) rows := by
  unfold leftOf
  rw [List.filter_filter]
  congr 1
  funext c
  rw [List.all_cons, Bool.and_comm]
theorem ms0 (s : List Int) (hs : SpaceOk s) (rows : List Int) (hr : ∀ r ∈ rows, 0 ≤ r ∧ r ≤ 1073741824) (hjl : rows.length ≤ 1000000) (t : Nat) (ht : t ≤ 8) : ∀ n j : Nat, j + n = rows.length → ∀ X : List (List Int), (∀ c ∈ X, ChG s.length t c) → X.length ≤ 1000000 → Ev (fun k => spec_l10Missing.l0 k rows X (j : Int) s) (leftOf s t X (rows.drop j))
  | 0, j, e, X, hX, hXl => by
    refine (Ev.of _).step fun k => ?_
    simp only [spec_l10Missing.l0]
    rw [if_neg (by omega), List.drop_of_length_le (by omega)]
    unfold leftOf
    exact congrArg some (List.filter_eq_self.2 (fun c _ => rfl)).symm
  | n + 1, j, e, X, hX, hXl => by
    have hj : j < rows.length := by omega
    have hrj := hr _ (List.getElem_mem hj)
    have hX2 : ∀ c ∈ X.filter fun c => !hasB (digL s rows[j]) c t, ChG s.length t c := fun c hc => hX c (List.mem_filter.1 hc).1
    have hl2 : (X.filter fun c => !hasB (digL s rows[j]) c t).length ≤ X.length := List.length_filter_le _ _
    have ih := ms0 s hs rows hr hjl t ht n (j + 1) (by omega) _ hX2 (by omega)
    obtain ⟨K, hK⟩ := ms1 s rows j hj hjl (digL s rows[j]) (digL_len s _) t ht X hX hXl _ X.length 0 (by omega) [] (by simpa using hXl) (by
      rw [List.drop_zero, List.nil_append]; exact ih)
    refine ⟨K + 30, fun k hk => ?_⟩
    obtain ⟨k, rfl⟩ : ∃ q, k = q + 1 := ⟨k - 1, by omega⟩
    simp only [spec_l10Missing.l0]
    rw [if_pos (by omega), if_pos (by omega), rd_nat rows j hj, specDigits_ev s hs.2.2.1 hs.2.1 _ hrj.1 hrj.2 k (by omega), Option.bind_some, List.drop_eq_getElem_cons hj, leftOf_cons]
    exact hK k (by omega)
theorem missing_ev (s : List Int) (hs : SpaceOk s) (rows : List Int) (hr : ∀ r ∈ rows, 0 ≤ r ∧ r ≤ 1073741824) (hjl : rows.length ≤ 1000000) (t : Nat) (ht : t ≤ 8) (X : List (List Int)) (hX : ∀ c ∈ X, ChG s.length t c) (hXl : X.length ≤ 1000000) : Ev (fun k => spec_l10Missing.f k s X rows) (leftOf s t X rows) := by
  have h := ms0 s hs rows hr hjl t ht rows.length 0 (by omega) X hX hXl
  rw [List.drop_zero] at h
  exact h
theorem chAll_short (s : List Int) (hs : SpaceOk s) (t : Nat) (ht : t ≤ 3) : (chAll s (plc s.length t 0)).length ≤ 3584 := by
  have h1 := chAll_len s hs.2.2.1 (plc s.length t 0) fun p hp => (plc_ok _ _ _ p hp).2
  have h2 := plc_many s hs.2.1 hs.2.2.1 t ht
  omega

/-- How often a number comes in lists. -/
def cnts (n : Int) : List (List Int) → Int
  | [] => 0
  | l :: ls => (l.count n : Nat) + cnts n ls
theorem oft_rd : ∀ (ofs : List (List Int)), (∀ l ∈ ofs, ∀ n ∈ l, 0 ≤ n) → ∀ (o : List Int) (j : Nat), j < o.length → rd (ofs.foldl (fun o l => l.foldl tick o) o) (j : Int) = rd o (j : Int) + cnts (j : Int) ofs
  | [], _, o, j, hj => by simp [cnts]
  | l :: ls, h, o, j, hj => by
    rw [List.foldl_cons, oft_rd ls (fun x hx => h x (by simp [hx])) _ j (by rw [ticks_len]; exact hj), ticks_rd l (h l (by simp)) o j hj]
    simp only [cnts]; omega
theorem cnts_zero (n : Int) : ∀ (ls : List (List Int)), 0 ≤ cnts n ls ∧ (cnts n ls = 0 ↔ ∀ l ∈ ls, n ∉ l)
  | [] => by simp [cnts]
  | l :: ls => by
    obtain ⟨h1, h2⟩ := cnts_zero n ls
    simp only [cnts]
    refine ⟨by omega, ?_⟩
    rw [List.forall_mem_cons, ← h2]
    have hc : l.count n = 0 ↔ n ∉ l := List.count_eq_zero
    rw [← hc]
    omega
theorem oftT_rd (s : List Int) (hs : SpaceOk s) (t : Nat) (rows : List Int) (n : Nat) (hn : n < (chAll s (plc s.length t 0)).length) : rd (oftT s t rows) (n : Int) = cnts (n : Int) (rows.map (ofT s t)) := by
  have h1 := chAll_len s hs.2.2.1 (plc s.length t 0) fun p hp => (plc_ok _ _ _ p hp).2
  unfold oftT oftZ
  rw [oft_rd _ (fun l hl m hm => by
    obtain ⟨r, _, rfl⟩ := List.mem_map.1 hl
    exact (ofT_in s hs.2.2.1 t r m hm).1) _ n (by rw [List.length_replicate]; omega)]
  have : rd (List.replicate (manyC s (plc s.length t 0)).toNat 0) (n : Int) = 0 := by
    rw [rd_nat _ n (by rw [List.length_replicate]; omega), List.getElem_replicate]
  omega
theorem has_num2 (s : List Int) (hs : SpaceOk s) (t : Nat) (r : Int) (n : Nat) (hn : n < (chAll s (plc s.length t 0)).length) : hasB (digL s r) (chAll s (plc s.length t 0))[n] t = true ↔ (n : Int) ∈ ofT s t r := by
  have h := has_num s (digL s r) hs.2.2.1 (within_dig s hs.2.2.1 r) t (plc s.length t 0) 0 (fun p hp => plc_ok s.length t 0 p hp) n hn
  rw [h, Int.zero_add]; rfl
theorem zero_num (s : List Int) (hs : SpaceOk s) (t : Nat) (rows : List Int) (n : Nat) (hn : n < (chAll s (plc s.length t 0)).length) : rd (oftT s t rows) (n : Int) = 0 ↔ (rows.all fun r => !hasB (digL s r) (chAll s (plc s.length t 0))[n] t) = true := by
  rw [oftT_rd s hs t rows n hn, (cnts_zero _ _).2, List.all_eq_true]
  constructor
  · intro h r hr
    have := h _ (List.mem_map_of_mem (f := ofT s t) hr)
    rw [← has_num2 s hs t r n hn] at this
    simpa using this
  · intro h l hl
    obtain ⟨r, hr, rfl⟩ := List.mem_map.1 hl
    rw [← has_num2 s hs t r n hn]
    have := h r hr
    simpa using this
theorem zero_mem (s : List Int) (hs : SpaceOk s) (t : Nat) (rows : List Int) : (0 : Int) ∈ oftT s t rows ↔ leftOf s t (chAll s (plc s.length t 0)) rows ≠ [] := by
  have h1 := chAll_len s hs.2.2.1 (plc s.length t 0) fun p hp => (plc_ok _ _ _ p hp).2
  have hlen : (oftT s t rows).length = (chAll s (plc s.length t 0)).length := by rw [oftT_len]; omega
  constructor
  · intro h h2
    obtain ⟨n, hn, e⟩ := List.mem_iff_getElem.1 h
    rw [← rd_nat _ n hn] at e
    rw [zero_num s hs t rows n (by omega)] at e
    have : (chAll s (plc s.length t 0))[n]'(by omega) ∈ leftOf s t (chAll s (plc s.length t 0)) rows := List.mem_filter.2 ⟨List.getElem_mem _, e⟩
    rw [h2] at this
    simp at this
  · intro h
    obtain ⟨c, hc⟩ := List.exists_mem_of_ne_nil _ h
    obtain ⟨hc1, hc2⟩ := List.mem_filter.1 hc
    obtain ⟨n, hn, rfl⟩ := List.mem_iff_getElem.1 hc1
    have := (zero_num s hs t rows n hn).2 hc2
    rw [rd_nat _ n (by omega)] at this
    rw [← this]
    exact List.getElem_mem _

theorem missT_eq (s : List Int) (hs : SpaceOk s) (t : Nat) (rows : List Int) : missT s rows t = leftOf s t (chAll s (plc s.length t 0)) rows := by
  have hcl := chAll_len s hs.2.2.1 (plc s.length t 0) fun p hp => (plc_ok _ _ _ p hp).2
  have hol : (oftT s t rows).length = (chAll s (plc s.length t 0)).length := by rw [oftT_len]; omega
  have key : ∀ d j : Nat, j + d = (chAll s (plc s.length t 0)).length → missL (toldZ s (plc s.length t 0) (firsts s 0 (plc s.length t 0))) (j : Int) ((oftT s t rows).drop j) = ((chAll s (plc s.length t 0)).drop j).filter fun c => rows.all fun r => !hasB (digL s r) c t := by
    intro d
    induction d with
    | zero =>
      intro j e
      rw [List.drop_of_length_le (by omega), List.drop_of_length_le (by omega)]
      rfl
    | succ d ih =>
      intro j e
      have hj : j < (chAll s (plc s.length t 0)).length := by omega
      have ht := told_eq s hs.2.2.1 (plc s.length t 0) 0 (fun p hp => (plc_ok _ _ _ p hp).2) j hj
      rw [Int.zero_add] at ht
      have hz := zero_num s hs t rows j hj
      have ih2 := ih (j + 1) (by omega)
      rw [miss_next _ _ j (by omega), List.drop_eq_getElem_cons hj, List.filter_cons, ht, show (j : Int) + 1 = ((j + 1 : Nat) : Int) by omega, ih2]
      by_cases h0 : rd (oftT s t rows) (j : Int) = 0
      · rw [if_pos h0, if_pos (hz.1 h0)]
      · rw [if_neg h0, if_neg fun h => h0 (hz.2 h)]
  have h := key (chAll s (plc s.length t 0)).length 0 (by omega)
  rw [List.drop_zero, List.drop_zero] at h
  exact h

theorem plc_len (n : Nat) (hn : n ≤ 8) : ∀ t a, (plc n t a).length ≤ 8 ^ t
  | 0, a => by simp [plc]
  | t + 1, a => by
    have := flat_len (fun i : Nat => (plc n t (i + 1)).map fun p => (i : Int) :: p) (8 ^ t) (List.range' a (n - a)) fun i _ => by rw [List.length_map]; exact plc_len n hn t (i + 1)
    rw [List.length_range'] at this
    have h2 : (n - a) * 8 ^ t ≤ 8 * 8 ^ t := Nat.mul_le_mul_right _ (by omega)
    simp only [plc]
    rw [Nat.pow_succ]; omega
theorem pl1 (s : List Int) (h8 : s.length ≤ 8) (t i : Nat) (hi : i < s.length) (Q : List (List Int)) (hQl : Q.length ≤ 100000) (hQ : ∀ q ∈ Q, q.length ≤ 8) (r : List (List Int)) : ∀ d j : Nat, j + d = Q.length → ∀ x7 : List (List Int), x7.length + d ≤ 1000000 → Ev (fun k => spec_l10Places.l0 k ((t : Nat) : Int) (x7 ++ (Q.drop j).map fun p => (i : Int) :: p) ((i + 1 : Nat) : Int) s) r → Ev (fun k => spec_l10Places.l1 k ((t : Nat) : Int) x7 (i : Int) Q (j : Int) s) r
  | 0, j, e, x7, hx, h => by
    refine h.step fun k => ?_
    simp only [spec_l10Places.l1]
    rw [if_neg (by omega), w64 (by omega) (by omega), List.drop_of_length_le (by omega)]
    simp
  | d + 1, j, e, x7, hx, h => by
    have hj : j < Q.length := by omega
    have hqj := hQ _ (List.getElem_mem hj)
    refine (pl1 s h8 t i hi Q hQl hQ r d (j + 1) (by omega) (x7 ++ [(i : Int) :: Q[j]]) (by simp; omega) ?_).step fun k => ?_
    · rw [List.append_assoc]
      rw [List.drop_eq_getElem_cons hj] at h
      exact h
    · simp only [spec_l10Places.l1]
      rw [if_pos (by omega), Option.bind_some, if_pos (by omega), rdL1_nat Q j hj, if_pos (by simp only [List.length_singleton]; omega), if_pos (by omega), w64 (by omega) (by omega)]
      rfl
theorem pl0 (s : List Int) (h8 : s.length ≤ 8) (t : Nat) (ht : t < 4) (ih : ∀ a, a ≤ s.length → Ev (fun k => spec_l10Places.f k s (a : Int) (t : Int)) (plc s.length t a)) : ∀ d i : Nat, i + d = s.length → ∀ x7 : List (List Int), x7.length + d * 8 ^ t ≤ 1000000 → Ev (fun k => spec_l10Places.l0 k ((t + 1 : Nat) : Int) x7 (i : Int) s) (x7 ++ (List.range' i d).flatMap fun i => (plc s.length t (i + 1)).map fun p => (i : Int) :: p)
  | 0, i, e, x7, hx => by
    refine (Ev.of _).step fun k => ?_
    simp only [spec_l10Places.l0]
    rw [if_neg (by omega)]; simp
  | d + 1, i, e, x7, hx => by
    have hl := plc_len s.length h8 t (i + 1)
    have hp5 : 8 ^ t ≤ 512 := Nat.le_trans (Nat.pow_le_pow_right (by omega) (show t ≤ 3 by omega)) (by decide)
    rw [Nat.succ_mul] at hx
    have h1 := pl0 s h8 t ht ih d (i + 1) (by omega) (x7 ++ (plc s.length t (i + 1)).map fun p => (i : Int) :: p) (by rw [List.length_append, List.length_map]; omega)
    have h2 := pl1 s h8 (t + 1) i (by omega) (plc s.length t (i + 1)) (by omega) (fun q hq => by have := (plc_ok s.length t (i + 1) q hq).1; omega) _ (plc s.length t (i + 1)).length 0 (by omega) x7 (by omega) (by rw [List.drop_zero]; exact h1)
    refine ((ih (i + 1) (by omega)).bind (g := fun k v => spec_l10Places.l1 k ((t + 1 : Nat) : Int) x7 (i : Int) v 0 s) (r := _) (by
      rw [List.range'_succ, List.flatMap_cons, ← List.append_assoc]; exact h2)).step fun k => ?_
    simp only [spec_l10Places.l0]
    rw [if_pos (by omega), w64 (by omega) (by omega), w64 (by omega) (by omega), show ((t + 1 : Nat) : Int) - 1 = (t : Int) by omega, show (i : Int) + 1 = ((i + 1 : Nat) : Int) by omega]
theorem places_ev (s : List Int) (h8 : s.length ≤ 8) : ∀ t : Nat, t ≤ 4 → ∀ a, a ≤ s.length → Ev (fun k => spec_l10Places.f k s (a : Int) (t : Int)) (plc s.length t a)
  | 0, _, a, _ => by
    refine (Ev.of _).step fun k => ?_
    simp [spec_l10Places.f, plc]
  | t + 1, ht, a, ha => by
    have hp : 8 ^ t ≤ 512 := Nat.le_trans (Nat.pow_le_pow_right (by omega) (show t ≤ 3 by omega)) (by decide)
    have hm : (s.length - a) * 8 ^ t ≤ 8 * 512 := Nat.mul_le_mul (by omega) hp
    refine (pl0 s h8 t (by omega) (places_ev s h8 t (by omega)) (s.length - a) a (by omega) [] (by simp only [List.length_nil]; omega)).step fun k => ?_
    simp only [spec_l10Places.f]
    rw [if_neg (by omega)]

def dgs (z : List Int) : List (List Int) := (List.range (prodI z).toNat).map fun (v : Nat) => digL z (v : Int)
theorem range_mul {β : Type} (q : Nat) (g : Nat → β) : ∀ a : Nat, (List.range (a * q)).map g = (List.range a).flatMap fun u => (List.range q).map fun x => g (u * q + x)
  | 0 => by simp
  | a + 1 => by
    rw [Nat.succ_mul, List.range_add, List.map_append, range_mul q g a, List.range_succ, List.flatMap_append]
    simp
theorem prodI_snoc (q : Int) : ∀ z : List Int, prodI (z ++ [q]) = prodI z * q
  | [] => by simp [prodI]
  | x :: z => by simp only [List.cons_append, prodI]; rw [prodI_snoc q z, Int.mul_assoc]
theorem digL_snoc (q : Int) (hq : 0 < q) : ∀ (z : List Int), (∀ x ∈ z, 2 ≤ x ∧ x ≤ 4) → ∀ (u x : Int), 0 ≤ x → x < q → digL (z ++ [q]) (u * q + x) = digL z u ++ [x]
  | [], _, u, x, h0, h1 => by
    simp only [List.nil_append, digL, prodI, Int.ediv_one]
    rw [Int.add_comm, Int.add_mul_emod_self_right, Int.emod_eq_of_lt h0 h1]
  | y :: z, hz, u, x, h0, h1 => by
    have hp := prodI_pos z fun a ha => hz a (by simp [ha])
    simp only [List.cons_append, digL]
    rw [digL_snoc q hq z (fun a ha => hz a (by simp [ha])) u x h0 h1, prodI_snoc, Int.mul_comm (prodI z) q, ← Int.ediv_ediv_of_nonneg (by omega)]
    have : (u * q + x) / q = u := by
      rw [Int.add_comm, Int.add_mul_ediv_right _ _ (by omega), Int.ediv_eq_zero_of_lt h0 h1, Int.zero_add]
    rw [this]
theorem dgs_snoc (q : Int) (hq : 0 < q) (z : List Int) (hz : ∀ x ∈ z, 2 ≤ x ∧ x ≤ 4) : dgs (z ++ [q]) = (dgs z).flatMap fun y => (List.range q.toNat).map fun (x : Nat) => y ++ [(x : Int)] := by
  have hp := prodI_pos z hz
  unfold dgs
  have e : (prodI (z ++ [q])).toNat = (prodI z).toNat * q.toNat := by
    rw [prodI_snoc, Int.toNat_mul (by omega) (by omega)]
  rw [e, range_mul, List.flatMap_map]
  congr 1
  funext u
  refine List.map_congr_left fun x hx => ?_
  have := List.mem_range.1 hx
  have e2 : ((u * q.toNat + x : Nat) : Int) = (u : Int) * q + (x : Int) := by
    rw [Int.natCast_add, Int.natCast_mul, Int.toNat_of_nonneg (by omega)]
  rw [e2, digL_snoc q hq z hz _ _ (by omega) (by omega)]
theorem dg2 (s p : List Int) (m : Nat) (hm : m < p.length) (hp8 : p.length ≤ 8) (hp0 : 0 ≤ p[m]) (hp1 : p[m] < (s.length : Int)) (q : Int) (hq : rd s p[m] = q) (hq0 : 0 ≤ q) (hq4 : q ≤ 4) (Y : List (List Int)) (c : Nat) (hc : c < Y.length) (hY : Y.length ≤ 1000000) (hy : Y[c].length ≤ 8) (r : List (List Int)) : ∀ d x : Nat, (x : Int) + d = q → ∀ x7 : List (List Int), x7.length + d ≤ 1000000 → Ev (fun k => spec_l10Digits.l1 k p Y (m : Int) (x7 ++ (List.range' x d).map fun (x : Nat) => Y[c] ++ [(x : Int)]) ((c : Int) + 1) s) r → Ev (fun k => spec_l10Digits.l2 k p Y (m : Int) x7 (c : Int) (x : Int) s) r
  | 0, x, e, x7, hx, h => by
    refine h.step fun k => ?_
    simp only [spec_l10Digits.l2]
    rw [if_pos (by omega), if_pos (by omega), rd_nat p m hm, if_pos hp0, if_pos hp1, hq, if_neg (by omega), w64 (by omega) (by omega)]
    simp
  | d + 1, x, e, x7, hx, h => by
    refine (dg2 s p m hm hp8 hp0 hp1 q hq hq0 hq4 Y c hc hY hy r d (x + 1) (by omega) (x7 ++ [Y[c] ++ [(x : Int)]]) (by simp; omega) ?_).step fun k => ?_
    · rw [List.append_assoc]
      rw [List.range'_succ] at h
      exact h
    · simp only [spec_l10Digits.l2]
      rw [if_pos (by omega), if_pos (by omega), rd_nat p m hm, if_pos hp0, if_pos hp1, hq, if_pos (by omega), if_pos (by omega), if_pos (by omega), rdL1_nat Y c hc, ownl _ (by omega), Option.bind_some, if_pos (by omega), if_pos (by omega), w64 (by omega) (by omega)]
      rfl
theorem dg1 (s p : List Int) (m : Nat) (hm : m < p.length) (hp8 : p.length ≤ 8) (hp0 : 0 ≤ p[m]) (hp1 : p[m] < (s.length : Int)) (q : Int) (hq : rd s p[m] = q) (hq0 : 0 ≤ q) (hq4 : q ≤ 4) (Y : List (List Int)) (hY : Y.length ≤ 100000) (hy : ∀ y ∈ Y, y.length ≤ 8) (r : List (List Int)) : ∀ d c : Nat, c + d = Y.length → ∀ x7 : List (List Int), x7.length + d * 4 ≤ 1000000 → Ev (fun k => spec_l10Digits.l0 k p (x7 ++ (Y.drop c).flatMap fun y => (List.range q.toNat).map fun (x : Nat) => y ++ [(x : Int)]) ((m : Int) + 1) s) r → Ev (fun k => spec_l10Digits.l1 k p Y (m : Int) x7 (c : Int) s) r
  | 0, c, e, x7, hx, h => by
    refine h.step fun k => ?_
    simp only [spec_l10Digits.l1]
    rw [if_neg (by omega), w64 (by omega) (by omega), List.drop_of_length_le (by omega)]
    simp
  | d + 1, c, e, x7, hx, h => by
    have hc : c < Y.length := by omega
    refine (dg2 s p m hm hp8 hp0 hp1 q hq hq0 hq4 Y c hc (by omega) (hy _ (List.getElem_mem hc)) r q.toNat 0 (by omega) x7 (by omega) ?_).step fun k => ?_
    · refine dg1 s p m hm hp8 hp0 hp1 q hq hq0 hq4 Y hY hy r d (c + 1) (by omega) _ (by simp; omega) ?_
      rw [List.drop_eq_getElem_cons hc, List.flatMap_cons, ← List.append_assoc] at h
      rw [← List.range_eq_range']
      exact h
    · simp only [spec_l10Digits.l1]
      rw [if_pos (by omega)]
      rfl
theorem dgs_len (z : List Int) (hz : ∀ x ∈ z, 2 ≤ x ∧ x ≤ 4) : (dgs z).length ≤ 4 ^ z.length := by
  have key : ∀ z : List Int, (∀ x ∈ z, 2 ≤ x ∧ x ≤ 4) → (prodI z).toNat ≤ 4 ^ z.length := by
    intro z
    induction z with
    | nil => intro _; simp [prodI]
    | cons q z ih =>
      intro h
      have h1 := ih fun x hx => h x (by simp [hx])
      have h2 := h q (by simp)
      have h3 := prodI_pos z fun x hx => h x (by simp [hx])
      simp only [prodI, List.length_cons]
      rw [Int.toNat_mul (by omega) (by omega), Nat.pow_succ, Nat.mul_comm]
      exact Nat.mul_le_mul h1 (by omega)
  unfold dgs
  rw [List.length_map, List.length_range]; exact key z hz
theorem dgs_each (z : List Int) : ∀ y ∈ dgs z, y.length = z.length := by
  intro y hy
  obtain ⟨v, _, rfl⟩ := List.mem_map.1 hy
  exact digL_len z _
theorem dg0 (s : List Int) (hs : ∀ q ∈ s, 2 ≤ q ∧ q ≤ 4) (p : List Int) (h4 : p.length ≤ 4) (hk : PlOk s.length p) : ∀ d m : Nat, m + d = p.length → Ev (fun k => spec_l10Digits.l0 k p (dgs (szs s (p.take m))) (m : Int) s) (dgs (szs s p))
  | 0, m, e => by
    refine (Ev.of _).step fun k => ?_
    simp only [spec_l10Digits.l0]
    rw [if_neg (by omega), List.take_of_length_le (by omega)]
  | d + 1, m, e => by
    have hm : m < p.length := by omega
    obtain ⟨h0, h1⟩ := hk _ (List.getElem_mem hm)
    have hko : PlOk s.length (p.take m) := fun i hi => hk i (List.mem_of_mem_take hi)
    have hz := szs_ok s hs _ hko
    have hl := dgs_len _ hz
    have hzl : (szs s (p.take m)).length = m := by simp [szs]; omega
    have hp4 : 4 ^ m ≤ 256 := Nat.le_trans (Nat.pow_le_pow_right (by omega) (show m ≤ 4 by omega)) (by decide)
    rw [hzl] at hl
    have hq := szs_ok s hs p hk (rd s p[m]) (List.mem_map.2 ⟨_, List.getElem_mem hm, rfl⟩)
    have ih := dg0 s hs p h4 hk d (m + 1) (by omega)
    have e1 : szs s (p.take (m + 1)) = szs s (p.take m) ++ [rd s p[m]] := by
      unfold szs
      rw [List.take_succ_eq_append_getElem hm, List.map_append]; rfl
    rw [e1, dgs_snoc _ (by omega) _ hz] at ih
    refine (dg1 s p m hm (by omega) h0 h1 (rd s p[m]) rfl (by omega) (by omega) (dgs (szs s (p.take m))) (by omega) (fun y hy => by rw [dgs_each _ y hy]; omega) _ (dgs (szs s (p.take m))).length 0 (by omega) [] (by simp only [List.length_nil]; omega) ?_).step fun k => ?_
    · rw [List.drop_zero, List.nil_append]
      exact ih
    · simp only [spec_l10Digits.l0]
      rw [if_pos (by omega)]
      rfl
theorem digits_ev (s : List Int) (hs : ∀ q ∈ s, 2 ≤ q ∧ q ≤ 4) (p : List Int) (h4 : p.length ≤ 4) (hk : PlOk s.length p) : Ev (fun k => spec_l10Digits.f k s p) (dgs (szs s p)) := by
  have h := dg0 s hs p h4 hk p.length 0 (by omega)
  have e : dgs (szs s (p.take 0)) = [[]] := by simp [szs, dgs, prodI, digL]
  rw [e] at h
  exact h

theorem al1 (s : List Int) (X : List (List Int)) (i : Nat) (hi : i < X.length) (hX : X.length ≤ 100000) (hxl : X[i].length ≤ 8) (D : List (List Int)) (hDl : D.length ≤ 100000) (hD : ∀ y ∈ D, y.length ≤ 8) (r : List (List Int)) : ∀ d j : Nat, j + d = D.length → ∀ x6 : List (List Int), x6.length + d ≤ 1000000 → Ev (fun k => spec_l10All.l0 k X (x6 ++ (D.drop j).map fun y => X[i] ++ y) ((i : Int) + 1) s) r → Ev (fun k => spec_l10All.l1 k X x6 (i : Int) D (j : Int) s) r
  | 0, j, e, x6, hx, h => by
    refine h.step fun k => ?_
    simp only [spec_l10All.l1]
    rw [if_neg (by omega), w64 (by omega) (by omega), List.drop_of_length_le (by omega)]
    simp
  | d + 1, j, e, x6, hx, h => by
    have hj : j < D.length := by omega
    have hdj := hD _ (List.getElem_mem hj)
    refine (al1 s X i hi hX hxl D hDl hD r d (j + 1) (by omega) (x6 ++ [X[i] ++ D[j]]) (by simp; omega) ?_).step fun k => ?_
    · rw [List.append_assoc]
      rw [List.drop_eq_getElem_cons hj] at h
      exact h
    · simp only [spec_l10All.l1]
      rw [if_pos (by omega), if_pos (by omega), if_pos (by omega), rdL1_nat X i hi, ownl _ (by omega), Option.bind_some, if_pos (by omega), rdL1_nat D j hj, if_pos (by omega), if_pos (by omega), w64 (by omega) (by omega)]
      rfl
theorem chOf_dgs (s p : List Int) : chOf s p = (dgs (szs s p)).map fun y => p ++ y := by
  unfold chOf dgs; rw [List.map_map]; rfl
theorem al0 (s : List Int) (hs : ∀ q ∈ s, 2 ≤ q ∧ q ≤ 4) (X : List (List Int)) (hX : X.length ≤ 10000) (hX4 : ∀ p ∈ X, p.length ≤ 3 ∧ PlOk s.length p) : ∀ d i : Nat, i + d = X.length → ∀ x6 : List (List Int), x6.length + d * 64 ≤ 1000000 → Ev (fun k => spec_l10All.l0 k X x6 (i : Int) s) (x6 ++ chAll s (X.drop i))
  | 0, i, e, x6, hx => by
    refine (Ev.of _).step fun k => ?_
    simp only [spec_l10All.l0]
    rw [if_neg (by omega), List.drop_of_length_le (by omega)]; simp [chAll]
  | d + 1, i, e, x6, hx => by
    have hi : i < X.length := by omega
    obtain ⟨h3, hk⟩ := hX4 _ (List.getElem_mem hi)
    have hz := szs_ok s hs _ hk
    have hl := dgs_len _ hz
    have hzl : (szs s X[i]).length = X[i].length := by simp [szs]
    have hp4 : 4 ^ X[i].length ≤ 64 := Nat.le_trans (Nat.pow_le_pow_right (by omega) h3) (by decide)
    rw [hzl] at hl
    have h1 := al0 s hs X hX hX4 d (i + 1) (by omega) (x6 ++ chOf s X[i]) (by rw [List.length_append, chOf_dgs, List.length_map]; omega)
    have h2 := al1 s X i hi (by omega) (by omega) (dgs (szs s X[i])) (by omega) (fun y hy => by rw [dgs_each _ y hy]; omega) _ (dgs (szs s X[i])).length 0 (by omega) x6 (by omega) (by rw [List.drop_zero, ← chOf_dgs]; exact h1)
    refine ((digits_ev s hs X[i] (by omega) hk).bind (g := fun k v => spec_l10All.l1 k X x6 (i : Int) v 0 s) (r := _) (by
      rw [List.drop_eq_getElem_cons hi]
      unfold chAll at h2 ⊢
      rw [List.flatMap_cons, ← List.append_assoc]; exact h2)).step fun k => ?_
    simp only [spec_l10All.l0]
    rw [if_pos (by omega), if_pos (by omega), rdL1_nat X i hi]
theorem all_ev (s : List Int) (h8 : s.length ≤ 8) (hs : ∀ q ∈ s, 2 ≤ q ∧ q ≤ 4) (t : Nat) (ht : t ≤ 3) : Ev (fun k => spec_l10All.f k s (t : Int)) (chAll s (plc s.length t 0)) := by
  have hl := plc_len s.length h8 t 0
  have hp : 8 ^ t ≤ 512 := Nat.le_trans (Nat.pow_le_pow_right (by omega) ht) (by decide)
  have h := al0 s hs (plc s.length t 0) (by omega) (fun p hp => by have := plc_ok s.length t 0 p hp; exact ⟨by omega, this.2⟩) (plc s.length t 0).length 0 (by omega) [] (by simp only [List.length_nil]; omega)
  exact (places_ev s h8 t (by omega) 0 (by omega)).bind (g := fun k v => spec_l10All.l0 k v [] 0 s) h

theorem eq_l (l : List Int) (hl : l.length ≤ 4611686018427387904) : ∀ d i : Nat, i + d = l.length → ∀ k, d < k → laws_eqInt64S.l0 k l l i = some true
  | 0, i, e, k, hk => by
    obtain ⟨k, rfl⟩ : ∃ q, k = q + 1 := ⟨k - 1, by omega⟩
    simp only [laws_eqInt64S.l0]; rw [if_neg (by omega)]
  | d+1, i, e, k, hk => by
    obtain ⟨k, rfl⟩ : ∃ q, k = q + 1 := ⟨k - 1, by omega⟩
    simp only [laws_eqInt64S.l0]
    rw [if_pos (by omega), if_pos (by omega), if_pos (by omega), if_pos trivial, w64 (by omega) (by omega), show (i : Int) + 1 = ((i + 1 : Nat) : Int) by omega]
    exact eq_l l hl d (i+1) (by omega) k (by omega)
theorem eq_ev (l : List Int) (hl : l.length ≤ 4611686018427387904) (k : Nat) (hk : l.length < k) : laws_eqInt64S.f k l l = some true := by
  unfold laws_eqInt64S.f
  rw [if_pos rfl]
  exact eq_l l hl l.length 0 (by omega) k hk

theorem to_l (l : List Int) (hl : l.length ≤ 4611686018427387904) : ∀ (B A : List Int), l = A ++ B → ∀ k, B.length < k → laws_toInt64S.l0 k l (A ++ List.replicate B.length 0) A.length = some l
  | [], A, e, k, hk => by
    obtain ⟨k, rfl⟩ : ∃ q, k = q + 1 := ⟨k - 1, by simp at hk; omega⟩
    simp only [laws_toInt64S.l0]
    simp at e
    subst e
    rw [if_neg (by omega)]; simp
  | b :: B, A, e, k, hk => by
    obtain ⟨k, rfl⟩ : ∃ q, k = q + 1 := ⟨k - 1, by simp at hk; omega⟩
    simp only [laws_toInt64S.l0]
    have hlen : l.length = A.length + (B.length + 1) := by rw [e]; simp
    rw [if_pos (by omega), if_pos (by omega), if_pos (by simp; omega)]
    have hb : rd l (A.length : Int) = b := by rw [e]; exact rd_mid A B b
    rw [hb, List.length_cons, List.replicate_succ, Int.toNat_natCast, set_mid, w64 (by omega) (by omega), show (A.length : Int) + 1 = ((A ++ [b]).length : Int) by simp]
    exact to_l l hl B (A ++ [b]) (by rw [e]; simp) k (by simp at hk; omega)
theorem to_ev (l : List Int) (hl : l.length ≤ 1048576) (k : Nat) (hk : 1048576 < k) : laws_toInt64S.f k l = some l := by
  unfold laws_toInt64S.f
  rw [if_pos (by omega), if_pos (by omega), Int.toNat_natCast]
  exact to_l l (by omega) l [] rfl k (by omega)

theorem sz_le (l : List Int) (h : l.length ≤ 1048576) : ∃ z : Int, laws_szSpace.f l 1048576 = some z ∧ ¬ z < 0 := by
  unfold laws_szSpace.f laws_szInt64S.f
  rw [w64 (by omega) (by omega), if_neg (by omega)]
  simp only [Option.bind_some]
  rw [if_neg (by omega)]
  exact ⟨_, rfl, by omega⟩
theorem sz_gt (l : List Int) (h : 1048576 < l.length) (hm : l.length ≤ 9223372036854775807) : ∃ z : Int, laws_szSpace.f l 1048576 = some z ∧ z < 0 := by
  unfold laws_szSpace.f laws_szInt64S.f
  rw [w64 (by omega) (by omega), if_pos (by omega)]
  exact ⟨-1, rfl, by omega⟩
theorem toSp_ev (l : List Int) (hl : l.length ≤ 1048576) (k : Nat) (hk : 1048576 < k) : laws_toSpace.f k l = some l := by
  unfold laws_toSpace.f
  rw [to_ev l hl k hk]; rfl
theorem eqSp_ev (l : List Int) (hl : l.length ≤ 4611686018427387904) (k : Nat) (hk : l.length < k) : laws_eqSpace.f k l l = some true := by
  unfold laws_eqSpace.f
  rw [eq_ev l hl k hk]; rfl

theorem seqI_len (s : Int) (n : Nat) : (seqI s n).length = n := by
  induction n generalizing s with
  | zero => rfl
  | succ n ih => simp [seqI, ih]
theorem mark_l : ∀ (B A : List Int) (s : Int), 0 ≤ s → s + B.length ≤ 4611686018427387904 → A.length + B.length ≤ 4611686018427387904 → ∀ k, B.length < k → laws_markInt64S.l0 k (A ++ B) s A.length = some (s + B.length, A ++ seqI s B.length)
  | [], A, s, h0, h1, h2, k, hk => by
    obtain ⟨k, rfl⟩ : ∃ q, k = q + 1 := ⟨k - 1, by simp at hk; omega⟩
    simp only [laws_markInt64S.l0]
    rw [if_neg (by simp)]; simp [seqI]
  | b :: B, A, s, h0, h1, h2, k, hk => by
    obtain ⟨k, rfl⟩ : ∃ q, k = q + 1 := ⟨k - 1, by simp at hk; omega⟩
    simp only [laws_markInt64S.l0]
    simp only [List.length_cons] at h1 h2 hk
    rw [if_pos (by simp; omega), if_pos (by omega), Int.toNat_natCast, set_mid, w64 (by omega) (by omega), w64 (by omega) (by omega), show (A.length : Int) + 1 = ((A ++ [s]).length : Int) by simp]
    rw [mark_l B (A ++ [s]) (s+1) (by omega) (by omega) (by simp; omega) k (by omega)]
    simp only [List.length_cons, seqI, List.append_assoc, List.singleton_append]
    congr 2
    omega
theorem held_l : ∀ (n : Nat) (A : List Int) (s : Int), 0 ≤ s → s + n ≤ 4611686018427387904 → A.length + n ≤ 4611686018427387904 → ∀ k, n < k → laws_heldInt64S.l0 k (A ++ seqI s n) s A.length = some (s + n)
  | 0, A, s, h0, h1, h2, k, hk => by
    obtain ⟨k, rfl⟩ : ∃ q, k = q + 1 := ⟨k - 1, by omega⟩
    simp only [laws_heldInt64S.l0]
    rw [if_neg (by simp [seqI])]; simp
  | n+1, A, s, h0, h1, h2, k, hk => by
    obtain ⟨k, rfl⟩ : ∃ q, k = q + 1 := ⟨k - 1, by omega⟩
    show laws_heldInt64S.l0 (k+1) (A ++ s :: seqI (s+1) n) s A.length = _
    simp only [laws_heldInt64S.l0]
    rw [if_pos (by simp; omega), if_pos (by omega), rd_mid, if_pos rfl, w64 (by omega) (by omega), w64 (by omega) (by omega), show (A.length : Int) + 1 = ((A ++ [s]).length : Int) by simp]
    have := held_l n (A ++ [s]) (s+1) (by omega) (by omega) (by simp; omega) k (by omega)
    rw [List.append_assoc, List.singleton_append] at this
    rw [this]
    congr 1; omega
theorem mark_held (l : List Int) (hl : l.length ≤ 1048576) (k : Nat) (hk : 1048576 < k) : ∃ l', laws_markInt64S.f k l 1 = some (1 + (l.length : Int), l') ∧ ∀ k, 1048576 < k → laws_heldInt64S.f k l' 1 = some (1 + (l.length : Int)) := by
  refine ⟨seqI 1 l.length, ?_, fun k hk => ?_⟩
  · unfold laws_markInt64S.f
    exact mark_l l [] 1 (by omega) (by omega) (by simp; omega) k (by omega)
  · unfold laws_heldInt64S.f
    exact held_l l.length [] 1 (by omega) (by omega) (by simp; omega) k (by omega)

theorem mark_from (l : List Int) (hl : l.length ≤ 1048576) (s : Int) (h0 : 0 ≤ s) (h1 : s ≤ 1048577) (k : Nat) (hk : 1048576 < k) : ∃ l', laws_markInt64S.f k l s = some (s + (l.length : Int), l') := by
  refine ⟨seqI s l.length, ?_⟩
  unfold laws_markInt64S.f
  exact mark_l l [] s h0 (by omega) (by simp; omega) k (by omega)
theorem markSp_ev (l : List Int) (hl : l.length ≤ 1048576) (k : Nat) (hk : 1048576 < k) : ∃ l', laws_markSpace.f k l 1 = some (1 + (l.length : Int), l') := by
  obtain ⟨l', h⟩ := mark_from l hl 1 (by omega) (by omega) k hk
  refine ⟨l', ?_⟩
  unfold laws_markSpace.f
  rw [h]; rfl

def seqs : Int → List (List Int) → List (List Int)
  | _, [] => []
  | a, l :: xs => seqI a l.length :: seqs (a + (l.length : Int)) xs
def totL : List (List Int) → Nat
  | [] => 0
  | l :: xs => l.length + totL xs
theorem totL_le (M : Nat) : ∀ xs : List (List Int), (∀ l ∈ xs, l.length ≤ M) → totL xs ≤ xs.length * M
  | [], _ => by simp [totL]
  | l :: xs, h => by
    have h1 := totL_le M xs fun y hy => h y (by simp [hy])
    have h2 := h l (by simp)
    rw [List.length_cons, Nat.succ_mul]
    simp only [totL]; omega
theorem mss_ev (k : Nat) (hk : 1000 < k) : ∀ (xs : List (List Int)) (a : Int), 0 ≤ a → a + totL xs ≤ 1000000000 → (∀ l ∈ xs, l.length ≤ 100) → mssF k xs a = some (a + (totL xs : Int), seqs a xs)
  | [], a, _, _, _ => by simp [mssF, totL, seqs]
  | l :: xs, a, h0, h1, hl => by
    simp only [totL] at h1
    have h2 := hl l (by simp)
    have ih := mss_ev k hk xs (a + (l.length : Int)) (by omega) (by omega) fun y hy => hl y (by simp [hy])
    have hm := mark_l l [] a h0 (by omega) (by simp; omega) k (by omega)
    simp only [mssF, totL, seqs]
    have hm2 : laws_markInt64S.f k l a = some (a + (l.length : Int), seqI a l.length) := hm
    rw [hm2, Option.bind_some, ih, Option.bind_some]
    congr 2
    omega
theorem heldSS_l : ∀ (xs : List (List Int)) (A : List (List Int)) (a : Int), 0 ≤ a → a + totL xs ≤ 1000000000 → A.length + xs.length ≤ 1000000 → (∀ l ∈ xs, l.length ≤ 100) → ∀ k, xs.length + 1000 < k → laws_heldInt64SS.l0 k (A ++ seqs a xs) a (A.length : Int) = some (a + (totL xs : Int))
  | [], A, a, _, _, _, _, k, hk => by
    obtain ⟨k, rfl⟩ : ∃ q, k = q + 1 := ⟨k - 1, by omega⟩
    show laws_heldInt64SS.l0 (k + 1) (A ++ []) a (A.length : Int) = some (a + ((0 : Nat) : Int))
    simp only [laws_heldInt64SS.l0]
    rw [if_neg (by simp)]; simp
  | l :: xs, A, a, h0, h1, h2, hl, k, hk => by
    obtain ⟨k, rfl⟩ : ∃ q, k = q + 1 := ⟨k - 1, by omega⟩
    simp only [totL, List.length_cons] at h1 h2 hk
    have h3 := hl l (by simp)
    have ih := heldSS_l xs (A ++ [seqI a l.length]) (a + (l.length : Int)) (by omega) (by omega) (by simp; omega) (fun y hy => hl y (by simp [hy])) k (by omega)
    have hh : laws_heldInt64S.f k (seqI a l.length) a = some (a + (l.length : Int)) := held_l l.length [] a h0 (by omega) (by simp; omega) k (by omega)
    show laws_heldInt64SS.l0 (k + 1) (A ++ seqI a l.length :: seqs (a + (l.length : Int)) xs) a (A.length : Int) = some (a + ((l.length + totL xs : Nat) : Int))
    simp only [laws_heldInt64SS.l0]
    have hlen : (A ++ seqI a l.length :: seqs (a + (l.length : Int)) xs).length = A.length + 1 + (seqs (a + (l.length : Int)) xs).length := by simp; omega
    rw [if_pos (by omega), if_pos (by omega), rdL1_nat _ A.length (by omega), List.getElem_append_right (Nat.le_refl _)]
    simp only [Nat.sub_self, List.getElem_cons_zero]
    rw [hh, Option.bind_some, if_neg (by omega), w64 (by omega) (by omega)]
    rw [List.append_assoc, List.singleton_append, List.length_append, List.length_singleton] at ih
    rw [show (A.length : Int) + 1 = ((A.length + 1 : Nat) : Int) by omega, ih]
    congr 1; omega
theorem heldSS_ev (xs : List (List Int)) (h1 : totL xs ≤ 100000000) (h2 : xs.length ≤ 1000000) (hl : ∀ l ∈ xs, l.length ≤ 100) (k : Nat) (hk : xs.length + 1000 < k) : laws_heldInt64SS.f k (seqs 1 xs) 1 = some (1 + (totL xs : Int)) :=
  heldSS_l xs [] 1 (by omega) (by omega) (by simpa using h2) hl k hk
theorem eqSS_l (X : List (List Int)) (hX : X.length ≤ 1000000) (hl : ∀ l ∈ X, l.length ≤ 100) : ∀ d i : Nat, i + d = X.length → ∀ k, d + 1000 < k → laws_eqInt64SS.l0 k X X (i : Int) = some true
  | 0, i, e, k, hk => by
    obtain ⟨k, rfl⟩ : ∃ q, k = q + 1 := ⟨k - 1, by omega⟩
    simp only [laws_eqInt64SS.l0]
    rw [if_neg (by omega)]
  | d + 1, i, e, k, hk => by
    obtain ⟨k, rfl⟩ : ∃ q, k = q + 1 := ⟨k - 1, by omega⟩
    have hi : i < X.length := by omega
    have h3 := hl _ (List.getElem_mem hi)
    simp only [laws_eqInt64SS.l0]
    rw [if_pos (by omega), if_pos (by omega), if_pos (by omega), rdL1_nat X i hi, eq_ev X[i] (by omega) k (by omega), Option.bind_some, if_pos rfl, w64 (by omega) (by omega), show (i : Int) + 1 = ((i + 1 : Nat) : Int) by omega]
    exact eqSS_l X hX hl d (i + 1) (by omega) k (by omega)
theorem eqSS_ev (X : List (List Int)) (hX : X.length ≤ 1000000) (hl : ∀ l ∈ X, l.length ≤ 100) (k : Nat) (hk : X.length + 1000 < k) : laws_eqInt64SS.f k X X = some true := by
  unfold laws_eqInt64SS.f
  rw [if_pos rfl]
  exact eqSS_l X hX hl X.length 0 (by omega) k hk

theorem missing_both (s rows : List Int) (hl : rows.length ≤ 1048576) (a : Int) : ∃ (v : List (List Int)) (e : Int), v.length ≤ 3584 ∧ (∀ l ∈ v, l.length ≤ 100) ∧ ∃ K, ∀ k, K ≤ k → spec_MissingChoices.f k s rows a = some (v, e) ∧ impl_MissingChoices.f k s rows a = some (v, e) := by
  by_cases h0 : rowsCd s rows a = 0
  · obtain ⟨hs, h200, hw, h1, h2⟩ := rowsCd_zero h0
    have hP := prodL_le8 s hs.2.2.1 hs.2.1
    have hr : ∀ r ∈ rows, 0 ≤ r ∧ r ≤ 1073741824 := fun r hr => by have := hw r hr; omega
    have ha3 : a ≤ 3 := by unfold mn at h2; split at h2 <;> omega
    obtain ⟨t, rfl⟩ : ∃ t : Nat, a = t := ⟨a.toNat, by omega⟩
    have hsh := chAll_short s hs t (by omega)
    obtain ⟨K1, g1⟩ := all_ev s hs.2.1 hs.2.2.1 t (by omega)
    obtain ⟨K2, g2⟩ := missing_ev s hs rows hr (by omega) t (by omega) (chAll s (plc s.length t 0)) (chAll_g s t) (by omega)
    have hfl : (leftOf s t (chAll s (plc s.length t 0)) rows).length ≤ (chAll s (plc s.length t 0)).length := List.length_filter_le _ _
    refine ⟨leftOf s t (chAll s (plc s.length t 0)) rows, 0, by omega, fun l hl => ?_, K1 + K2 + rows.length + 100, fun k hk => ⟨?_, ?_⟩⟩
    · have := (chAll_g s t l (List.mem_filter.1 hl).1).1
      omega
    · have g1' : spec_l10All.f k s (t : Int) = _ := g1 k (by omega)
      have g2' : spec_l10Missing.f k s _ rows = _ := g2 k (by omega)
      unfold spec_MissingChoices.f
      rw [rowsS_ev s rows t hl k (by omega), h0, Option.bind_some, if_pos rfl, g1', Option.bind_some, g2', Option.bind_some]
    · unfold impl_MissingChoices.f
      rw [rowsI_ev s rows t hl k (by omega), h0, Option.bind_some, if_pos rfl, if_pos ((okS_iff s).2 ⟨hs.2.1, hs.2.2.1⟩), if_pos ((okRows_iff rows).2 ⟨by omega, hr⟩), if_pos (by omega), if_pos (by omega), Int.toNat_natCast, missT_eq s hs t rows]
  · refine ⟨[], rowsCd s rows a, by simp, fun l hl => by simp at hl, rows.length + 100, fun k hk => ⟨?_, ?_⟩⟩
    · unfold spec_MissingChoices.f
      rw [rowsS_ev s rows a hl k (by omega), Option.bind_some, if_neg h0]
    · unfold impl_MissingChoices.f
      rw [rowsI_ev s rows a hl k (by omega), Option.bind_some, if_neg h0]
theorem FnExactMissingChoices (l0 : List Int) (_ : l0.length ≤ maxLen) (_ : ∀ x ∈ l0, (Lit.int .i64 x).wf = true) (l1 : List Int) (_ : l1.length ≤ maxLen) (_ : l1.length * 8 ≤ 140737488351232) (_ : ∀ x ∈ l1, (Lit.int .i64 x).wf = true) (a : Int) (_ : (Lit.int .i64 a).wf = true) : ∃ k, laws_FnExactMissingChoices.f k l0 l1 a = some true := by
  rename_i hm0 _ hm1 _ _ _
  unfold maxLen at hm0 hm1
  by_cases h1 : (l1.length : Int) > 1048576
  · refine ⟨0, ?_⟩
    unfold laws_FnExactMissingChoices.f
    rw [if_pos h1]
  have hl1 : l1.length ≤ 1048576 := by omega
  by_cases h0 : 1048576 < l0.length
  · obtain ⟨z, hz, hz0⟩ := sz_gt l0 h0 (by omega)
    refine ⟨0, ?_⟩
    unfold laws_FnExactMissingChoices.f
    rw [if_neg h1, hz, Option.bind_some, if_pos hz0]
  have hl0 : l0.length ≤ 1048576 := by omega
  obtain ⟨z, hz, hz0⟩ := sz_le l0 hl0
  obtain ⟨v, e, hv, hvl, K, hb⟩ := missing_both l0 l1 hl1 a
  obtain ⟨k, hk⟩ : ∃ k : Nat, 1100000 + K ≤ k := ⟨_, Nat.le_refl _⟩
  obtain ⟨x0, hx0⟩ := markSp_ev l0 hl0 k (by omega)
  obtain ⟨x1, hx1⟩ := mark_from l1 hl1 (1 + (l0.length : Int)) (by omega) (by omega) k (by omega)
  have ht := totL_le 100 v hvl
  refine ⟨k, ?_⟩
  unfold laws_FnExactMissingChoices.f
  rw [if_neg h1, hz, Option.bind_some, if_neg hz0, toSp_ev l0 hl0 k (by omega), Option.bind_some, to_ev l1 hl1 k (by omega), Option.bind_some, (hb k (by omega)).1, Option.bind_some, (hb k (by omega)).2, Option.bind_some, eqSS_ev v (by omega) hvl k (by omega), Option.bind_some, eqSp_ev l0 (by omega) k (by omega), Option.bind_some, eq_ev l1 (by omega) k (by omega), Option.bind_some, hx0, Option.bind_some, hx1, Option.bind_some, mss_ev k (by omega) v 1 (by omega) (by omega) hvl, Option.bind_some, heldSS_ev v (by omega) (by omega) hvl k (by omega), Option.bind_some]
  rw [if_pos ⟨rfl, rfl, rfl, rfl, by simp only; omega, rfl, by simp only; omega, by simp only; omega⟩]

end Go.Proofs.Ythbfaefneoeadaa.Pure
