/- Led columns are told alike, and the argument is left alone. For every space and columns; more columns than 1048576 are answered true. -/
import Derived.Test.YthjkdnneagnejaaPFnExactAreLedx0
import Derived.Test.YthjkdnneagnejaaPFnExactAreLedx1
import Derived.Test.YthjkdnneagnejaaPFnExactAreLedx2
import Derived.Test.YthjkdnneagnejaaPFnExactAreLedx3
import Derived.Test.YthjkdnneagnejaaPFnExactAreLedx4
import Derived.Test.YthjkdnneagnejaaPFnExactAreLedx5
import Derived.KernelRfl
namespace Go.Proofs.Ythjkdnneagnejaa.Pure
open Go Go.RowKit Go.Proofs.Ythjkdnneagnejaa.PFnExactAreLed Go.Proofs.YthjkdnneagnejaaW.PrintWords Go.Proofs.YthjkdnneagnejaaW.PrintLast Go.Proofs.YthjkdnneagnejaaW.PrintMore Go.Proofs.Ythjkdnneagnejaa.DG
set_option linter.unusedVariables false
set_option linter.unusedSimpArgs false
theorem shl_one : ∀ n, n < 13 → shl .i64 1 ((n : Nat) : Int) = ((2 ^ n : Nat) : Int) := by decide +kernel
theorem pow_le {n : Nat} (h : n ≤ 12) : 2 ^ n ≤ 4096 := Nat.pow_le_pow_right (n := 2) (by omega) h
theorem w64 {i : Int} (h0 : -9223372036854775808 ≤ i) (h : i < 9223372036854775808) : wrap64 i = i := by unfold wrap64; omega
theorem u64 {i : Int} (h0 : 0 ≤ i) (h : i < 9223372036854775808) : IntKind.u64.wrap i = i := by
  have e : IntKind.u64.wrap i = i % 18446744073709551616 := by simp [IntKind.wrap, IntKind.bits, IntKind.signed]
  rw [e]; omega
def allN (p : Nat → Bool) : Nat → Bool
  | 0 => true
  | n+1 => p n && allN p n
theorem allN_at (p : Nat → Bool) : ∀ n, allN p n = true → ∀ s, s < n → p s = true
  | 0, _, s, h => by omega
  | n+1, h, s, hs => by
    simp only [allN, Bool.and_eq_true] at h
    by_cases e : s = n
    · subst e; exact h.1
    · exact allN_at p n h.2 s (by omega)

theorem set_mid (A B : List Int) (b s : Int) : (A ++ b :: B).set A.length s = (A ++ [s]) ++ B := by
  induction A with
  | nil => rfl
  | cons a A ih => simp [List.set_cons_succ]
theorem rd_mid (A B : List Int) (b : Int) : rd (A ++ b :: B) (A.length : Int) = b := by simp [rd]
theorem rd_nat (M : List Int) (i : Nat) (h : i < M.length) : rd M (i : Int) = M[i] := by simp [rd, List.getElem?_eq_getElem h]
def seqI : Int → Nat → List Int
  | _, 0 => []
  | s, n+1 => s :: seqI (s+1) n

def prodL : List Int → Int
  | [] => 1
  | q :: r => q * prodL r
theorem prodL_snoc (l : List Int) (q : Int) : prodL (l ++ [q]) = prodL l * q := by
  induction l with
  | nil => simp [prodL]
  | cons a l ih => simp only [List.cons_append, prodL, ih]; rw [Int.mul_assoc]
theorem prodL_bound : ∀ (l : List Int), (∀ q ∈ l, 2 ≤ q ∧ q ≤ 4) → 1 ≤ prodL l ∧ prodL l ≤ (4 : Int) ^ l.length
  | [], _ => by simp [prodL]
  | q :: r, h => by
    have h1 := h q (by simp)
    obtain ⟨h2, h3⟩ := prodL_bound r (fun x hx => h x (by simp [hx]))
    simp only [prodL, List.length_cons, Int.pow_succ]
    have hp : (0 : Int) ≤ 4 ^ r.length := Int.le_of_lt (Int.pow_pos (by omega))
    constructor
    · have : 1 * 1 ≤ q * prodL r := Int.mul_le_mul (by omega) h2 (by omega) (by omega)
      omega
    · rw [Int.mul_comm (4 ^ r.length) 4]
      exact Int.mul_le_mul h1.2 h3 (by omega) (by omega)
theorem prodL_le8 (l : List Int) (h : ∀ q ∈ l, 2 ≤ q ∧ q ≤ 4) (hl : l.length ≤ 8) : 1 ≤ prodL l ∧ prodL l ≤ 65536 := by
  obtain ⟨h1, h2⟩ := prodL_bound l h
  refine ⟨h1, Int.le_trans h2 ?_⟩
  have : ∀ n, n < 9 → (4 : Int) ^ n ≤ 65536 := by decide
  exact this _ (by omega)
/-- What a space's sizes are. -/
def SpaceOk (l : List Int) : Prop := 1 ≤ l.length ∧ l.length ≤ 8 ∧ (∀ q ∈ l, 2 ≤ q ∧ q ≤ 4) ∧ prodL l ≤ 1024

theorem specN_l : ∀ (B A : List Int), (∀ q ∈ A ++ B, 2 ≤ q ∧ q ≤ 4) → (A ++ B).length ≤ 8 → ∀ k, B.length < k → spec_l01N.l0 k (prodL A) A.length (A ++ B) = some (prodL (A ++ B))
  | [], A, h, hl, k, hk => by
    obtain ⟨k, rfl⟩ : ∃ q, k = q + 1 := ⟨k - 1, by simp at hk; omega⟩
    simp only [spec_l01N.l0]
    rw [if_neg (by simp)]; simp
  | b :: B, A, h, hl, k, hk => by
    obtain ⟨k, rfl⟩ : ∃ q, k = q + 1 := ⟨k - 1, by simp at hk; omega⟩
    have hb := h b (by simp)
    have hA := prodL_le8 (A ++ [b]) (fun q hq => h q (by simp at hq ⊢; rcases hq with hq | hq <;> simp [hq])) (by simp at hl ⊢; omega)
    rw [prodL_snoc] at hA
    simp only [spec_l01N.l0]
    simp only [List.length_append, List.length_cons] at hl hk
    rw [if_pos (by simp; omega), if_pos (by omega), rd_mid, w64 (by omega) (by omega), w64 (by omega) (by omega), ← prodL_snoc, show (A.length : Int) + 1 = ((A ++ [b]).length : Int) by simp]
    have := specN_l B (A ++ [b]) (by simpa using h) (by simp; omega) k (by omega)
    simpa using this
theorem specN_ev (l : List Int) (h : ∀ q ∈ l, 2 ≤ q ∧ q ≤ 4) (hl : l.length ≤ 8) : ∀ k, 10 ≤ k → spec_l01N.f k l = some (prodL l) := by
  intro k hk
  unfold spec_l01N.f
  exact specN_l l [] h hl k (by omega)

theorem specIs_l : ∀ (B A : List Int), (∀ q ∈ A, 2 ≤ q ∧ q ≤ 4) → (A ++ B).length ≤ 8 → ∀ k, B.length + 10 < k → spec_l01Is.l0 k A.length (A ++ B) = some (decide (∀ q ∈ A ++ B, 2 ≤ q ∧ q ≤ 4) && decide (prodL (A ++ B) ≤ 1024))
  | [], A, h, hl, k, hk => by
    obtain ⟨k, rfl⟩ : ∃ q, k = q + 1 := ⟨k - 1, by simp at hk; omega⟩
    simp only [List.append_nil] at hl ⊢
    simp only [spec_l01Is.l0]
    simp only [List.length_nil] at hk
    rw [if_neg (by omega), specN_ev A h hl k (by omega), Option.bind_some]
    simp only [decide_eq_true h, Bool.true_and]
  | b :: B, A, h, hl, k, hk => by
    obtain ⟨k, rfl⟩ : ∃ q, k = q + 1 := ⟨k - 1, by simp at hk; omega⟩
    simp only [spec_l01Is.l0]
    simp only [List.length_append, List.length_cons] at hl hk
    unfold spec_l01In.f
    rw [if_pos (by simp; omega), if_pos (by omega), rd_mid]
    by_cases hb : 2 ≤ b ∧ b ≤ 4
    · rw [if_pos hb.1, Option.bind_some, if_pos (by simpa using hb.2), w64 (by omega) (by omega), show (A.length : Int) + 1 = ((A ++ [b]).length : Int) by simp]
      have := specIs_l B (A ++ [b]) (fun q hq => by simp at hq; rcases hq with hq | rfl; exact h q hq; exact hb) (by simp; omega) k (by omega)
      rw [List.append_assoc, List.singleton_append] at this
      rw [this]
    · have hd : decide (∀ q ∈ A ++ b :: B, 2 ≤ q ∧ q ≤ 4) = false := by
        rw [decide_eq_false_iff_not]; intro hh; exact hb (hh b (by simp))
      rw [hd, Bool.false_and]
      by_cases h1 : b ≥ 2
      · rw [if_pos h1, Option.bind_some, if_neg (by simp; omega)]
      · rw [if_neg h1, Option.bind_some]; rfl
instance (l : List Int) : Decidable (SpaceOk l) := by unfold SpaceOk; infer_instance
theorem specIs_ev (l : List Int) : ∀ k, 30 ≤ k → spec_l01Is.f k l = some (decide (SpaceOk l)) := by
  intro k hk
  unfold spec_l01Is.f
  by_cases h1 : 1 ≤ l.length ∧ l.length ≤ 8
  · have e : spec_l01In.f (l.length : Int) 1 8 = some true := by
      unfold spec_l01In.f; rw [if_pos (by omega)]; simp; omega
    rw [e, Option.bind_some, if_pos rfl]
    have := specIs_l l [] (by simp) (by simpa using h1.2) k (by omega)
    simp only [List.nil_append, List.length_nil] at this
    rw [show (0 : Int) = ((0 : Nat) : Int) from rfl, this]
    congr 1
    rw [Bool.eq_iff_iff]
    simp [SpaceOk, h1]
  · have e : spec_l01In.f (l.length : Int) 1 8 = some false := by
      unfold spec_l01In.f
      by_cases h2 : (l.length : Int) ≥ 1
      · rw [if_pos h2]; simp; omega
      · rw [if_neg h2]
    have hd : decide (SpaceOk l) = false := by
      rw [decide_eq_false_iff_not]; intro hh; exact h1 ⟨hh.1, hh.2.1⟩
    rw [e, Option.bind_some, hd]; rfl

theorem specWords_l (s : List Int) (hs : SpaceOk s) (l : List Int) (hl : l.length ≤ 1048576) : ∀ d i : Nat, i + d = l.length → ∃ b : Bool, (b = true ↔ ∀ j (hj : j < l.length), i ≤ j → 0 ≤ l[j] ∧ l[j] < prodL s) ∧ ∀ k, d + 12 ≤ k → spec_l01Words.l0 k l i s = some (if b = true then 0 else 2)
  | 0, i, e => by
    refine ⟨true, ⟨fun _ j hj hi => by omega, fun _ => rfl⟩, fun k hk => ?_⟩
    obtain ⟨k, rfl⟩ : ∃ q, k = q + 1 := ⟨k - 1, by omega⟩
    simp only [spec_l01Words.l0]; rw [if_neg (by omega)]; rfl
  | d+1, i, e => by
    have hi : i < l.length := by omega
    have hr := rd_nat l i hi
    have hw : wrap64 ((i : Int) + 1) = ((i + 1 : Nat) : Int) := by rw [w64 (by omega) (by omega)]; omega
    have hP := prodL_le8 s hs.2.2.1 hs.2.1
    obtain ⟨b, hb, g⟩ := specWords_l s hs l hl d (i+1) (by omega)
    by_cases hin : 0 ≤ l[i] ∧ l[i] < prodL s
    · have e1 : spec_l01In.f l[i] 0 (prodL s - 1) = some true := by
        unfold spec_l01In.f; rw [if_pos hin.1]; simp; omega
      refine ⟨b, ⟨fun h j hj hij => ?_, fun h => hb.2 fun j hj hij => h j hj (by omega)⟩, fun k hk => ?_⟩
      · by_cases hji : j = i
        · subst hji; exact hin
        · exact hb.1 h j hj (by omega)
      · obtain ⟨k, rfl⟩ : ∃ q, k = q + 1 := ⟨k - 1, by omega⟩
        simp only [spec_l01Words.l0]
        rw [if_pos (by omega), if_pos (by omega), specN_ev s hs.2.2.1 hs.2.1 k (by omega), Option.bind_some, hr, w64 (i := prodL s - 1) (by omega) (by omega), e1, Option.bind_some, if_pos rfl, hw]
        exact g k (by omega)
    · have e1 : spec_l01In.f l[i] 0 (prodL s - 1) = some false := by
        unfold spec_l01In.f
        by_cases h1 : l[i] ≥ 0
        · rw [if_pos h1]; simp; omega
        · rw [if_neg h1]
      refine ⟨false, ⟨fun h => absurd h (by decide), fun h => absurd (h i hi (by omega)) hin⟩, fun k hk => ?_⟩
      obtain ⟨k, rfl⟩ : ∃ q, k = q + 1 := ⟨k - 1, by omega⟩
      simp only [spec_l01Words.l0]
      rw [if_pos (by omega), if_pos (by omega), specN_ev s hs.2.2.1 hs.2.1 k (by omega), Option.bind_some, hr, w64 (i := prodL s - 1) (by omega) (by omega), e1, Option.bind_some, if_neg (by decide)]
      rfl
theorem specWords_ev (s : List Int) (hs : SpaceOk s) (l : List Int) (hl : l.length ≤ 1048576) : ∃ b : Bool, (b = true ↔ ∀ j (hj : j < l.length), 0 ≤ l[j] ∧ l[j] < prodL s) ∧ ∀ k, l.length + 30 ≤ k → spec_l01Words.f k s l = some (if b = true then 0 else 2) := by
  obtain ⟨b, h, g⟩ := specWords_l s hs l hl l.length 0 (by omega)
  refine ⟨b, ⟨fun hb j hj => h.1 hb j hj (by omega), fun hc => h.2 fun j hj _ => hc j hj⟩, fun k hk => ?_⟩
  unfold spec_l01Words.f
  rw [specIs_ev s k (by omega), decide_eq_true hs, Option.bind_some, if_pos rfl]
  exact g k (by omega)

theorem specPlain_l (s : List Int) (h0 : 1 ≤ s.length) (h8 : s.length ≤ 8) : ∀ d i : Nat, i + d = s.length → ∃ b : Bool, (b = true ↔ ∀ j (hj : j < s.length), i ≤ j → s[j] = rd s 0 ∧ s[j] ≤ 3) ∧ ∀ k, d + 1 ≤ k → spec_l05Plain.l0 k s.length i s = some b
  | 0, i, e => by
    refine ⟨true, ⟨fun _ j hj hi => by omega, fun _ => rfl⟩, fun k hk => ?_⟩
    obtain ⟨k, rfl⟩ : ∃ q, k = q + 1 := ⟨k - 1, by omega⟩
    simp only [spec_l05Plain.l0]; rw [if_neg (by omega)]
  | d+1, i, e => by
    have hi : i < s.length := by omega
    have hr := rd_nat s i hi
    have hw : wrap64 ((i : Int) + 1) = ((i + 1 : Nat) : Int) := by rw [w64 (by omega) (by omega)]; omega
    obtain ⟨b, hb, g⟩ := specPlain_l s h0 h8 d (i+1) (by omega)
    have start : ∀ k, spec_l05Plain.l0 (k+1) s.length i s = if s[i] = rd s 0 then (if s[i] > 3 then some false else spec_l05Plain.l0 k s.length ((i + 1 : Nat) : Int) s) else some false := by
      intro k
      simp only [spec_l05Plain.l0]
      rw [if_pos (by omega), if_pos (by omega), if_pos (by omega), if_pos (by omega), hr, hw]
    by_cases h1 : s[i] = rd s 0
    · by_cases h2 : s[i] > 3
      · refine ⟨false, ⟨fun h => absurd h (by decide), fun h => ?_⟩, fun k hk => ?_⟩
        · have := (h i hi (by omega)).2; omega
        · obtain ⟨k, rfl⟩ : ∃ q, k = q + 1 := ⟨k - 1, by omega⟩
          rw [start, if_pos h1, if_pos h2]
      · refine ⟨b, ⟨fun h j hj hij => ?_, fun h => hb.2 fun j hj hij => h j hj (by omega)⟩, fun k hk => ?_⟩
        · by_cases hji : j = i
          · subst hji; exact ⟨h1, by omega⟩
          · exact hb.1 h j hj (by omega)
        · obtain ⟨k, rfl⟩ : ∃ q, k = q + 1 := ⟨k - 1, by omega⟩
          rw [start, if_pos h1, if_neg h2]
          exact g k (by omega)
    · refine ⟨false, ⟨fun h => absurd h (by decide), fun h => absurd (h i hi (by omega)).1 h1⟩, fun k hk => ?_⟩
      obtain ⟨k, rfl⟩ : ∃ q, k = q + 1 := ⟨k - 1, by omega⟩
      rw [start, if_neg h1]
theorem plain_both (s : List Int) (h0 : 1 ≤ s.length) (h8 : s.length ≤ 8) : ∃ b : Bool, ∀ k, 20 ≤ k → spec_l05Plain.f k s = some b ∧ impl_isPlain.f k s = some b := by
  obtain ⟨b, hb, g⟩ := specPlain_l s h0 h8 s.length 0 (by omega)
  refine ⟨b, fun k hk => ⟨?_, ?_⟩⟩
  · unfold spec_l05Plain.f
    exact g k (by omega)
  · unfold impl_isPlain.f
    rw [if_pos h0]
    congr 1
    rw [Bool.eq_iff_iff, hb]
    have e0 : rd s 0 = s[0] := rd_nat s 0 (by omega)
    simp only [Bool.and_eq_true, decide_eq_true_eq, Bool.not_eq_true', List.any_eq_false, bne_iff_ne, ne_eq, Decidable.not_not]
    constructor
    · rintro ⟨h1, h2⟩ j hj _
      have := h2 _ (List.getElem_mem hj)
      exact ⟨this, by omega⟩
    · intro h
      refine ⟨by have := (h 0 (by omega) (by omega)).2; omega, fun x hx => ?_⟩
      obtain ⟨j, hj, rfl⟩ := List.mem_iff_getElem.1 hx
      exact (h j hj (by omega)).1

/-- What a code's words are: ascending, all of them words. -/
def CodeOk (n : Int) (l : List Int) : Prop := ∀ j (hj : j < l.length), (0 ≤ l[j] ∧ l[j] < n) ∧ ∀ h0 : 0 < j, l[j-1]'(by omega) < l[j]
theorem CodeOk.len {n : Int} {l : List Int} (h : CodeOk n l) : l.length = 0 ∨ (l.length : Int) ≤ n := by
  have key : ∀ j (hj : j < l.length), (j : Int) ≤ l[j] := by
    intro j
    induction j with
    | zero => intro hj; have := (h 0 hj).1; omega
    | succ j ih =>
      intro hj
      have h1 := ih (by omega)
      have h2 := (h (j+1) hj).2 (by omega)
      simp only [Nat.add_sub_cancel] at h2
      omega
  by_cases h0 : l.length = 0
  · exact .inl h0
  · right
    have h1 := key (l.length - 1) (by omega)
    have h2 := (h (l.length - 1) (by omega)).1
    omega

theorem implCount_l : ∀ (B A : List Int), (∀ q ∈ A ++ B, 2 ≤ q ∧ q ≤ 4) → (A ++ B).length ≤ 8 → ∀ k, B.length < k → impl_count.l0 k (prodL A) (A ++ B) (A ++ B).length A.length = some (prodL (A ++ B))
  | [], A, h, hl, k, hk => by
    obtain ⟨k, rfl⟩ : ∃ q, k = q + 1 := ⟨k - 1, by simp at hk; omega⟩
    simp only [impl_count.l0]
    rw [if_neg (by simp)]; simp
  | b :: B, A, h, hl, k, hk => by
    obtain ⟨k, rfl⟩ : ∃ q, k = q + 1 := ⟨k - 1, by simp at hk; omega⟩
    have hb := h b (by simp)
    have hA := prodL_le8 (A ++ [b]) (fun q hq => h q (by simp at hq ⊢; rcases hq with hq | hq <;> simp [hq])) (by simp at hl ⊢; omega)
    rw [prodL_snoc] at hA
    simp only [impl_count.l0]
    simp only [List.length_append, List.length_cons] at hl hk
    rw [if_pos (by simp; omega), if_pos (by omega), if_pos (by simp; omega), rd_mid, w64 (by omega) (by omega), w64 (by omega) (by omega), ← prodL_snoc, show (A.length : Int) + 1 = ((A ++ [b]).length : Int) by simp]
    have := implCount_l B (A ++ [b]) (by simpa using h) (by simp; omega) k (by omega)
    simpa using this
theorem implCount_ev (l : List Int) (h : ∀ q ∈ l, 2 ≤ q ∧ q ≤ 4) (hl : l.length ≤ 8) : ∀ k, 10 ≤ k → impl_count.f k l = some (prodL l) := by
  intro k hk
  unfold impl_count.f
  exact implCount_l l [] h hl k (by omega)

theorem areWords_l (n : Int) (l : List Int) (hl : l.length ≤ 4611686018427387904) : ∀ d i : Nat, i + d = l.length → ∃ b : Bool, (b = true ↔ ∀ j (hj : j < l.length), i ≤ j → 0 ≤ l[j] ∧ l[j] < n) ∧ ∀ k, d + 1 ≤ k → impl_areWords.l0 k n l l.length i = some b
  | 0, i, e => by
    refine ⟨true, ⟨fun _ j hj hi => by omega, fun _ => rfl⟩, fun k hk => ?_⟩
    obtain ⟨k, rfl⟩ : ∃ q, k = q + 1 := ⟨k - 1, by omega⟩
    simp only [impl_areWords.l0]; rw [if_neg (by omega)]
  | d+1, i, e => by
    have hi : i < l.length := by omega
    have hr := rd_nat l i hi
    have hw : wrap64 ((i : Int) + 1) = ((i + 1 : Nat) : Int) := by rw [w64 (by omega) (by omega)]; omega
    obtain ⟨b, hb, g⟩ := areWords_l n l hl d (i+1) (by omega)
    by_cases hin : 0 ≤ l[i] ∧ l[i] < n
    · refine ⟨b, ⟨fun h j hj hij => ?_, fun h => hb.2 fun j hj hij => h j hj (by omega)⟩, fun k hk => ?_⟩
      · by_cases hji : j = i
        · subst hji; exact hin
        · exact hb.1 h j hj (by omega)
      · obtain ⟨k, rfl⟩ : ∃ q, k = q + 1 := ⟨k - 1, by omega⟩
        simp only [impl_areWords.l0]
        rw [if_pos (by omega), if_pos (by omega), if_pos (by omega), hr, if_neg (by omega), if_neg (by omega), hw]
        exact g k (by omega)
    · refine ⟨false, ⟨fun h => absurd h (by decide), fun h => absurd (h i hi (by omega)) hin⟩, fun k hk => ?_⟩
      obtain ⟨k, rfl⟩ : ∃ q, k = q + 1 := ⟨k - 1, by omega⟩
      simp only [impl_areWords.l0]
      rw [if_pos (by omega), if_pos (by omega), if_pos (by omega), hr]
      by_cases h1 : l[i] < 0
      · rw [if_pos h1]
      · rw [if_neg h1, if_pos (by omega)]
theorem areWords_ev (s : List Int) (hs : SpaceOk s) (l : List Int) (hl : l.length ≤ 4611686018427387904) : ∃ b : Bool, (b = true ↔ ∀ j (hj : j < l.length), 0 ≤ l[j] ∧ l[j] < prodL s) ∧ ∀ k, l.length + 12 ≤ k → impl_areWords.f k s l = some b := by
  obtain ⟨b, h, g⟩ := areWords_l (prodL s) l hl l.length 0 (by omega)
  refine ⟨b, ⟨fun hb j hj => h.1 hb j hj (by omega), fun hc => h.2 fun j hj _ => hc j hj⟩, fun k hk => ?_⟩
  unfold impl_areWords.f
  rw [implCount_ev s hs.2.2.1 hs.2.1 k (by omega), Option.bind_some]
  exact g k (by omega)
theorem ascend_l (l : List Int) (hl : l.length ≤ 4611686018427387904) : ∀ d i : Nat, i + d = l.length → 1 ≤ i → ∃ b : Bool, (b = true ↔ ∀ j (hj : j < l.length), i ≤ j → ∀ h0 : 0 < j, l[j-1]'(by omega) < l[j]) ∧ ∀ k, d + 1 ≤ k → impl_isCode.l0 k l i = some b
  | 0, i, e, h1 => by
    refine ⟨true, ⟨fun _ j hj hi => by omega, fun _ => rfl⟩, fun k hk => ?_⟩
    obtain ⟨k, rfl⟩ : ∃ q, k = q + 1 := ⟨k - 1, by omega⟩
    simp only [impl_isCode.l0]; rw [if_neg (by omega)]
  | d+1, i, e, h1 => by
    have hi : i < l.length := by omega
    have hr := rd_nat l i hi
    have hr1 := rd_nat l (i - 1) (by omega)
    have hw : wrap64 ((i : Int) + 1) = ((i + 1 : Nat) : Int) := by rw [w64 (by omega) (by omega)]; omega
    have hw1 : wrap64 ((i : Int) - 1) = ((i - 1 : Nat) : Int) := by rw [w64 (by omega) (by omega)]; omega
    obtain ⟨b, hb, g⟩ := ascend_l l hl d (i+1) (by omega) (by omega)
    by_cases hle : l[i] ≤ l[i-1]
    · refine ⟨false, ⟨fun h => absurd h (by decide), fun h => ?_⟩, fun k hk => ?_⟩
      · have := h i hi (by omega) (by omega); omega
      · obtain ⟨k, rfl⟩ : ∃ q, k = q + 1 := ⟨k - 1, by omega⟩
        simp only [impl_isCode.l0]
        rw [if_pos (by omega), if_pos (by omega), hw1, if_pos (by omega), if_pos (by omega), hr, hr1, if_pos hle]
    · refine ⟨b, ⟨fun h j hj hij h0 => ?_, fun h => hb.2 fun j hj hij h0 => h j hj (by omega) h0⟩, fun k hk => ?_⟩
      · by_cases hji : j = i
        · subst hji; omega
        · exact hb.1 h j hj (by omega) h0
      · obtain ⟨k, rfl⟩ : ∃ q, k = q + 1 := ⟨k - 1, by omega⟩
        simp only [impl_isCode.l0]
        rw [if_pos (by omega), if_pos (by omega), hw1, if_pos (by omega), if_pos (by omega), hr, hr1, if_neg hle, hw]
        exact g k (by omega)
theorem isCode_ev (s : List Int) (hs : SpaceOk s) (l : List Int) (hl : l.length ≤ 4611686018427387904) : ∃ b : Bool, (b = true ↔ CodeOk (prodL s) l) ∧ ∀ k, l.length + 14 ≤ k → impl_isCode.f k s l = some b := by
  have hP := prodL_le8 s hs.2.2.1 hs.2.1
  obtain ⟨b1, hb1, g1⟩ := areWords_ev s hs l hl
  by_cases hlen : (l.length : Int) > prodL s
  · refine ⟨false, ⟨fun h => absurd h (by decide), fun h => ?_⟩, fun k hk => ?_⟩
    · rcases h.len with h2 | h2 <;> omega
    · obtain ⟨k, rfl⟩ : ∃ q, k = q + 1 := ⟨k - 1, by omega⟩
      unfold impl_isCode.f
      rw [implCount_ev s hs.2.2.1 hs.2.1 _ (by omega), Option.bind_some, if_pos hlen]
      simp [impl_isCode.j0]
  · cases hb : b1 with
    | false =>
      subst hb
      refine ⟨false, ⟨fun h => absurd h (by decide), fun h => ?_⟩, fun k hk => ?_⟩
      · exact absurd (hb1.2 fun j hj => (h j hj).1) (by decide)
      · obtain ⟨k, rfl⟩ : ∃ q, k = q + 1 := ⟨k - 1, by omega⟩
        unfold impl_isCode.f
        rw [implCount_ev s hs.2.2.1 hs.2.1 _ (by omega), Option.bind_some, if_neg hlen, g1 _ (by omega), Option.bind_some]
        simp [impl_isCode.j0]
    | true =>
      subst hb
      have hall := hb1.1 rfl
      obtain ⟨b, hb, g⟩ : ∃ b : Bool, (b = true ↔ ∀ j (hj : j < l.length), 1 ≤ j → ∀ h0 : 0 < j, l[j-1]'(by omega) < l[j]) ∧ ∀ k, l.length + 1 ≤ k → impl_isCode.l0 k l 1 = some b := by
        by_cases h0 : l.length = 0
        · refine ⟨true, ⟨fun _ j hj => by omega, fun _ => rfl⟩, fun k hk => ?_⟩
          obtain ⟨k, rfl⟩ : ∃ q, k = q + 1 := ⟨k - 1, by omega⟩
          simp only [impl_isCode.l0]; rw [if_neg (by omega)]
        · obtain ⟨b, hb, g⟩ := ascend_l l hl (l.length - 1) 1 (by omega) (by omega)
          exact ⟨b, hb, fun k hk => g k (by omega)⟩
      refine ⟨b, ⟨fun h j hj => ⟨hall j hj, fun h0 => hb.1 h j hj (by omega) h0⟩, fun h => hb.2 fun j hj _ h0 => (h j hj).2 h0⟩, fun k hk => ?_⟩
      obtain ⟨k, rfl⟩ : ∃ q, k = q + 1 := ⟨k - 1, by omega⟩
      unfold impl_isCode.f
      rw [implCount_ev s hs.2.2.1 hs.2.1 _ (by omega), Option.bind_some, if_neg hlen, g1 _ (by omega), Option.bind_some]
      simp only [Bool.not_true, impl_isCode.j0]
      rw [if_neg (by decide)]
      exact g k (by omega)

theorem implIs_l : ∀ (B A : List Int), (∀ q ∈ A, 2 ≤ q ∧ q ≤ 4) → (A ++ B).length ≤ 8 → ∀ k, B.length < k → impl_IsSpace.l0 k (prodL A) (A ++ B) (A ++ B).length A.length = some (decide (∀ q ∈ A ++ B, 2 ≤ q ∧ q ≤ 4) && decide (prodL (A ++ B) ≤ 1024))
  | [], A, h, hl, k, hk => by
    obtain ⟨k, rfl⟩ : ∃ q, k = q + 1 := ⟨k - 1, by simp at hk; omega⟩
    simp only [List.append_nil] at hl ⊢
    simp only [impl_IsSpace.l0]
    rw [if_neg (by omega)]
    simp only [decide_eq_true h, Bool.true_and]
  | b :: B, A, h, hl, k, hk => by
    obtain ⟨k, rfl⟩ : ∃ q, k = q + 1 := ⟨k - 1, by simp at hk; omega⟩
    simp only [impl_IsSpace.l0]
    simp only [List.length_append, List.length_cons] at hl hk
    rw [if_pos (by simp; omega), if_pos (by omega), if_pos (by simp; omega), rd_mid]
    by_cases hb : 2 ≤ b ∧ b ≤ 4
    · have hA := prodL_le8 (A ++ [b]) (fun q hq => by simp at hq; rcases hq with hq | rfl; exact h q hq; exact hb) (by simp; omega)
      rw [prodL_snoc] at hA
      rw [if_neg (by omega), if_neg (by omega), w64 (by omega) (by omega), w64 (by omega) (by omega), ← prodL_snoc, show (A.length : Int) + 1 = ((A ++ [b]).length : Int) by simp]
      have := implIs_l B (A ++ [b]) (fun q hq => by simp at hq; rcases hq with hq | rfl; exact h q hq; exact hb) (by simp; omega) k (by omega)
      rw [List.append_assoc, List.singleton_append] at this
      rw [this]
    · have hd : decide (∀ q ∈ A ++ b :: B, 2 ≤ q ∧ q ≤ 4) = false := by
        rw [decide_eq_false_iff_not]; intro hh; exact hb (hh b (by simp))
      rw [hd, Bool.false_and]
      by_cases h1 : b < 2
      · rw [if_pos h1]
      · rw [if_neg h1, if_pos (by omega)]
theorem implIs_ev (l : List Int) : ∀ k, 30 ≤ k → impl_IsSpace.f k l = some (decide (SpaceOk l)) := by
  intro k hk
  obtain ⟨k, rfl⟩ : ∃ q, k = q + 1 := ⟨k - 1, by omega⟩
  unfold impl_IsSpace.f
  by_cases h1 : 1 ≤ l.length ∧ l.length ≤ 8
  · have e : decide ((l.length : Int) > 8) = false := by simp; omega
    rw [if_neg (by omega), e]
    simp only [impl_IsSpace.j0]
    rw [if_neg (by decide)]
    have := implIs_l l [] (by simp) (by simpa using h1.2) k (by omega)
    simp only [List.nil_append, List.length_nil, prodL] at this
    rw [show (0 : Int) = ((0 : Nat) : Int) from rfl, this]
    congr 1
    rw [Bool.eq_iff_iff]
    simp [SpaceOk, h1]
  · have hd : decide (SpaceOk l) = false := by
      rw [decide_eq_false_iff_not]; intro hh; exact h1 ⟨hh.1, hh.2.1⟩
    rw [hd]
    by_cases h2 : (l.length : Int) < 1
    · rw [if_pos h2]; simp [impl_IsSpace.j0]
    · have e : decide ((l.length : Int) > 8) = true := by simp; omega
      rw [if_neg h2, e]; simp [impl_IsSpace.j0]

theorem areWords_iff (s : List Int) (hs : SpaceOk s) (l : List Int) (hl : l.length ≤ 1048576) : ∃ b : Bool, (b = true ↔ ∀ j (hj : j < l.length), 0 ≤ l[j] ∧ l[j] < prodL s) ∧ (∀ k, l.length + 30 ≤ k → spec_l01Words.f k s l = some (if b = true then 0 else 2)) ∧ ∀ k, l.length + 30 ≤ k → impl_areWords.f k s l = some b := by
  obtain ⟨b, h, g⟩ := specWords_ev s hs l hl
  obtain ⟨c, h2, g2⟩ := areWords_ev s hs l (by omega)
  obtain rfl : b = c := by rw [Bool.eq_iff_iff, h, h2]
  exact ⟨b, h, g, fun k hk => g2 k (by omega)⟩

theorem prodI_eq : ∀ l : List Int, prodI l = prodL l
  | [] => rfl
  | q :: r => by simp [prodI, prodL, prodI_eq r]

theorem word_zeros : ∀ (s : List Int) (acc : Int) (z : Nat), s.length ≤ z → wordI acc s (List.replicate z 0) = acc * prodI s
  | [], acc, z, _ => by simp [wordI, prodI]
  | q :: s, acc, z, h => by
    obtain ⟨z, rfl⟩ : ∃ y, z = y + 1 := ⟨z - 1, by simp at h; omega⟩
    rw [List.replicate_succ]
    simp only [wordI, Int.add_zero, prodI]
    rw [word_zeros s (acc * q) z (by simpa using h), Int.mul_assoc]
theorem word_unit : ∀ (i : Nat) (s : List Int) (z : Nat), i < s.length → s.length ≤ i + 1 + z → wordI 0 s (List.replicate i 0 ++ 1 :: List.replicate z 0) = prodI (s.drop (i + 1))
  | _, [], _, h, _ => by simp at h
  | 0, q :: s, z, h, hz => by
    simp only [List.replicate_zero, List.nil_append, wordI]
    rw [word_zeros s _ z (by simp at hz; omega)]; simp
  | i + 1, q :: s, z, h, hz => by
    rw [List.replicate_succ, List.cons_append]
    simp only [wordI, Int.zero_mul, Int.add_zero]
    rw [word_unit i s z (by simpa using h) (by simp at hz; omega)]
    rfl
theorem unit_rep (i : Nat) (h : i < 8) : unitL i = List.replicate i 0 ++ 1 :: List.replicate (7 - i) 0 := by
  match i, h with
  | 0, _ => rfl
  | 1, _ => rfl
  | 2, _ => rfl
  | 3, _ => rfl
  | 4, _ => rfl
  | 5, _ => rfl
  | 6, _ => rfl
  | 7, _ => rfl
theorem led_l (s : List Int) (hs : ∀ q ∈ s, 2 ≤ q ∧ q ≤ 4) (h8 : s.length ≤ 8) (l : List Int) (hl : s.length ≤ l.length) : ∀ d i : Nat, i + d = s.length → ∃ b : Bool, (b = true ↔ ∀ j, i ≤ j → j < s.length → rd l (j : Int) = wordI 0 s (unitL j)) ∧ ∀ k, d + 1 ≤ k → spec_l09Led.l0 k l (prodL (s.drop i)) s.length i s = some b
  | 0, i, e => by
    refine ⟨true, ⟨fun _ j hj hi => by omega, fun _ => rfl⟩, fun k hk => ?_⟩
    obtain ⟨k, rfl⟩ : ∃ q, k = q + 1 := ⟨k - 1, by omega⟩
    simp only [spec_l09Led.l0]; rw [if_neg (by omega)]
  | d+1, i, e => by
    have hi : i < s.length := by omega
    have hr := rd_nat s i hi
    have hw : wrap64 ((i : Int) + 1) = ((i + 1 : Nat) : Int) := by rw [w64 (by omega) (by omega)]; omega
    obtain ⟨b, hb, g⟩ := led_l s hs h8 l hl d (i+1) (by omega)
    have hq := hs _ (List.getElem_mem hi)
    have hdrop : s.drop i = s[i] :: s.drop (i + 1) := List.drop_eq_getElem_cons hi
    obtain ⟨p1, p2⟩ := prodL_le8 (s.drop (i + 1)) (fun q h => hs q (List.mem_of_mem_drop h)) (by rw [List.length_drop]; omega)
    have hdiv : wrap64 (Int.tdiv (prodL (s.drop i)) s[i]) = prodL (s.drop (i + 1)) := by
      rw [hdrop]
      simp only [prodL]
      rw [Int.mul_tdiv_cancel_left _ (by omega), w64 (by omega) (by omega)]
    have hun : wordI 0 s (unitL i) = prodL (s.drop (i + 1)) := by
      rw [unit_rep i (by omega), word_unit i s (7 - i) hi (by omega), prodI_eq]
    have start : ∀ k, spec_l09Led.l0 (k+1) l (prodL (s.drop i)) s.length i s = if rd l (i : Int) = prodL (s.drop (i + 1)) then spec_l09Led.l0 k l (prodL (s.drop (i + 1))) s.length ((i + 1 : Nat) : Int) s else some false := by
      intro k
      simp only [spec_l09Led.l0]
      rw [if_pos (by omega), if_pos (by omega), if_pos (by omega), hr, if_neg (by omega), if_pos (by omega), hdiv, hw]
    by_cases h1 : rd l (i : Int) = prodL (s.drop (i + 1))
    · refine ⟨b, ⟨fun h j hij hj => ?_, fun h => hb.2 fun j hij hj => h j (by omega) hj⟩, fun k hk => ?_⟩
      · by_cases hji : j = i
        · subst hji; rw [h1, hun]
        · exact hb.1 h j (by omega) hj
      · obtain ⟨k, rfl⟩ : ∃ q, k = q + 1 := ⟨k - 1, by omega⟩
        rw [start, if_pos h1]
        exact g k (by omega)
    · refine ⟨false, ⟨fun h => absurd h (by decide), fun h => absurd (h i (by omega) hi) (by rw [hun]; exact h1)⟩, fun k hk => ?_⟩
      obtain ⟨k, rfl⟩ : ∃ q, k = q + 1 := ⟨k - 1, by omega⟩
      rw [start, if_neg h1]
theorem led_both (s : List Int) (hs : SpaceOk s) (l : List Int) : ∃ b : Bool, ∀ k, 30 ≤ k → spec_l09Led.f k s l = some b ∧ impl_areLed.f k s l = some b := by
  have h8 := hs.2.1
  have hok : okS s = true := (okS_iff s).2 ⟨h8, hs.2.2.1⟩
  by_cases hlen : l.length < s.length
  · refine ⟨false, fun k hk => ⟨?_, ?_⟩⟩
    · unfold spec_l09Led.f; rw [if_pos (by omega)]
    · unfold impl_areLed.f ledB
      have : decide (s.length ≤ l.length) = false := by simp; omega
      rw [if_pos hok, this]; rfl
  · obtain ⟨b, hb, g⟩ := led_l s hs.2.2.1 h8 l (by omega) s.length 0 (by omega)
    refine ⟨b, fun k hk => ⟨?_, ?_⟩⟩
    · unfold spec_l09Led.f
      rw [if_neg (by omega), specN_ev s hs.2.2.1 h8 k (by omega), Option.bind_some]
      exact g k (by omega)
    · unfold impl_areLed.f ledB
      rw [if_pos hok, decide_eq_true (by omega), Bool.true_and]
      congr 1
      rw [Bool.eq_iff_iff, hb, List.all_eq_true]
      simp only [List.mem_range, beq_iff_eq]
      exact ⟨fun h j _ hj => h j hj, fun h j hj => h j (by omega) hj⟩

theorem eq_l (l : List Int) (hl : l.length ≤ 4611686018427387904) : ∀ d i : Nat, i + d = l.length → ∀ k, d < k → laws_eqInt64S.l0 k l l i = some true
  | 0, i, e, k, hk => by
    obtain ⟨k, rfl⟩ : ∃ q, k = q + 1 := ⟨k - 1, by omega⟩
    simp only [laws_eqInt64S.l0]; rw [if_neg (by omega)]
  | d+1, i, e, k, hk => by
    obtain ⟨k, rfl⟩ : ∃ q, k = q + 1 := ⟨k - 1, by omega⟩
    simp only [laws_eqInt64S.l0]
    rw [if_pos (by omega), if_pos (by omega), if_pos (by omega), if_pos trivial, w64 (by omega) (by omega), show (i : Int) + 1 = ((i + 1 : Nat) : Int) by omega]
    exact eq_l l hl d (i+1) (by omega) k (by omega)
theorem eq_ev (l : List Int) (hl : l.length ≤ 4611686018427387904) (k : Nat) (hk : l.length < k) : laws_eqInt64S.f k l l = some true := by
  unfold laws_eqInt64S.f
  rw [if_pos rfl]
  exact eq_l l hl l.length 0 (by omega) k hk

theorem to_l (l : List Int) (hl : l.length ≤ 4611686018427387904) : ∀ (B A : List Int), l = A ++ B → ∀ k, B.length < k → laws_toInt64S.l0 k l (A ++ List.replicate B.length 0) A.length = some l
  | [], A, e, k, hk => by
    obtain ⟨k, rfl⟩ : ∃ q, k = q + 1 := ⟨k - 1, by simp at hk; omega⟩
    simp only [laws_toInt64S.l0]
    simp at e
    subst e
    rw [if_neg (by omega)]; simp
  | b :: B, A, e, k, hk => by
    obtain ⟨k, rfl⟩ : ∃ q, k = q + 1 := ⟨k - 1, by simp at hk; omega⟩
    simp only [laws_toInt64S.l0]
    have hlen : l.length = A.length + (B.length + 1) := by rw [e]; simp
    rw [if_pos (by omega), if_pos (by omega), if_pos (by simp; omega)]
    have hb : rd l (A.length : Int) = b := by rw [e]; exact rd_mid A B b
    rw [hb, List.length_cons, List.replicate_succ, Int.toNat_natCast, set_mid, w64 (by omega) (by omega), show (A.length : Int) + 1 = ((A ++ [b]).length : Int) by simp]
    exact to_l l hl B (A ++ [b]) (by rw [e]; simp) k (by simp at hk; omega)
theorem to_ev (l : List Int) (hl : l.length ≤ 1048576) (k : Nat) (hk : 1048576 < k) : laws_toInt64S.f k l = some l := by
  unfold laws_toInt64S.f
  rw [if_pos (by omega), if_pos (by omega), Int.toNat_natCast]
  exact to_l l (by omega) l [] rfl k (by omega)

theorem sz_le (l : List Int) (h : l.length ≤ 1048576) : ∃ z : Int, laws_szSpace.f l 1048576 = some z ∧ ¬ z < 0 := by
  unfold laws_szSpace.f laws_szInt64S.f
  rw [w64 (by omega) (by omega), if_neg (by omega)]
  simp only [Option.bind_some]
  rw [if_neg (by omega)]
  exact ⟨_, rfl, by omega⟩
theorem sz_gt (l : List Int) (h : 1048576 < l.length) (hm : l.length ≤ 9223372036854775807) : ∃ z : Int, laws_szSpace.f l 1048576 = some z ∧ z < 0 := by
  unfold laws_szSpace.f laws_szInt64S.f
  rw [w64 (by omega) (by omega), if_pos (by omega)]
  exact ⟨-1, rfl, by omega⟩
theorem toSp_ev (l : List Int) (hl : l.length ≤ 1048576) (k : Nat) (hk : 1048576 < k) : laws_toSpace.f k l = some l := by
  unfold laws_toSpace.f
  rw [to_ev l hl k hk]; rfl
theorem eqSp_ev (l : List Int) (hl : l.length ≤ 4611686018427387904) (k : Nat) (hk : l.length < k) : laws_eqSpace.f k l l = some true := by
  unfold laws_eqSpace.f
  rw [eq_ev l hl k hk]; rfl

theorem colCode_both (s l : List Int) (hl : l.length ≤ 1048576) : (∃ c : Int, c ≠ 0 ∧ ∀ k, 1048700 ≤ k → spec_l09Columns.f k s l = some c ∧ impl_columnCode.f k s l [] 0 = some c) ∨ (SpaceOk s ∧ ∀ k, 1048700 ≤ k → spec_l09Columns.f k s l = some 0 ∧ impl_columnCode.f k s l [] 0 = some 0) := by
  by_cases hs : SpaceOk s
  · obtain ⟨b, _, g1, g2⟩ := areWords_iff s hs l hl
    obtain ⟨c, hc, g3⟩ := isCode_ev s hs [] (by simp)
    have : c = true := hc.2 (fun j hj => by simp at hj)
    subst this
    obtain ⟨p, g4⟩ := plain_both s hs.1 hs.2.1
    have h9 : ∀ k, 1048700 ≤ k → impl_columnCode.f k s l [] 0 = some (if l.length ≤ 8 ∧ b = true then (if p = true then 0 else 5) else 2) := fun k hk => by
      obtain ⟨k, rfl⟩ : ∃ q, k = q + 1 := ⟨k - 1, by omega⟩
      unfold impl_columnCode.f
      rw [implIs_ev s _ (by omega), decide_eq_true hs, Option.bind_some, if_pos rfl]
      by_cases h8 : (l.length : Int) > 8
      · rw [if_pos h8, if_neg (by omega)]
        simp [impl_columnCode.j0]
      · rw [if_neg h8, g2 _ (by omega), Option.bind_some]
        cases b with
        | false => rw [if_neg (by decide), if_neg (by simp)]; simp [impl_columnCode.j0]
        | true =>
          rw [if_pos rfl, g3 _ (by simp; omega), Option.bind_some, if_pos rfl, if_neg (by decide), if_pos (show l.length ≤ 8 ∧ true = true from ⟨by omega, rfl⟩)]
          simp only [impl_columnCode.j0]
          rw [if_neg (by decide), (g4 k (by omega)).2, Option.bind_some]
          cases p <;> rfl
    have h10 : ∀ k, 1048700 ≤ k → spec_l09Columns.f k s l = some (if l.length ≤ 8 ∧ b = true then (if p = true then 0 else 5) else 2) := fun k hk => by
      unfold spec_l09Columns.f
      rw [g1 k (by omega), Option.bind_some]
      cases b with
      | false => rw [if_neg (by decide), if_neg (by decide), if_neg (by simp)]
      | true =>
        rw [if_pos rfl, if_pos rfl]
        by_cases h8 : (l.length : Int) > 8
        · rw [if_pos h8, if_neg (by omega)]
        · have hc8 : l.length ≤ 8 ∧ true = true := ⟨by omega, rfl⟩
          rw [if_neg h8, (g4 k (by omega)).1, Option.bind_some, if_pos hc8]
          cases p <;> rfl
    by_cases hok : l.length ≤ 8 ∧ b = true
    · rw [if_pos hok] at h9 h10
      cases p with
      | true => exact .inr ⟨hs, fun k hk => ⟨h10 k hk, h9 k hk⟩⟩
      | false => exact .inl ⟨5, by decide, fun k hk => ⟨h10 k hk, h9 k hk⟩⟩
    · rw [if_neg hok] at h9 h10
      exact .inl ⟨2, by decide, fun k hk => ⟨h10 k hk, h9 k hk⟩⟩
  · refine .inl ⟨1, by decide, fun k hk => ⟨?_, ?_⟩⟩
    · unfold spec_l09Columns.f spec_l01Words.f
      rw [specIs_ev s k (by omega), decide_eq_false hs]; rfl
    · unfold impl_columnCode.f
      rw [implIs_ev s k (by omega), decide_eq_false hs]; rfl
theorem areLed_both (s l : List Int) (hl : l.length ≤ 1048576) : ∃ (z : Bool) (e : Int), ∀ k, 1048700 ≤ k → spec_AreLed.f k s l = some (z, e) ∧ impl_AreLed.f k s l = some (z, e) := by
  rcases colCode_both s l hl with ⟨c, hc, g⟩ | ⟨hs, g⟩
  · refine ⟨false, c, fun k hk => ⟨?_, ?_⟩⟩
    · unfold spec_AreLed.f; rw [(g k hk).1, Option.bind_some, if_neg hc]
    · unfold impl_AreLed.f; rw [(g k hk).2, Option.bind_some, if_neg hc]
  · obtain ⟨z, hz⟩ := led_both s hs l
    refine ⟨z, 0, fun k hk => ⟨?_, ?_⟩⟩
    · unfold spec_AreLed.f; rw [(g k hk).1, Option.bind_some, if_pos rfl, (hz k (by omega)).1]; rfl
    · unfold impl_AreLed.f; rw [(g k hk).2, Option.bind_some, if_pos rfl, (hz k (by omega)).2]; rfl
theorem FnExactAreLed (l0 : List Int) (_ : l0.length ≤ maxLen) (_ : ∀ x ∈ l0, (Lit.int .i64 x).wf = true) (l1 : List Int) (_ : l1.length ≤ maxLen) (_ : l1.length * 8 ≤ 140737488351232) (_ : ∀ x ∈ l1, (Lit.int .i64 x).wf = true) : ∃ k, laws_FnExactAreLed.f k l0 l1 = some true := by
  rename_i hm0 _ hm1 _ _
  unfold maxLen at hm0 hm1
  by_cases hl : (l1.length : Int) > 1048576
  · refine ⟨0, ?_⟩
    unfold laws_FnExactAreLed.f
    rw [if_pos hl]
  have hl1 : l1.length ≤ 1048576 := by omega
  by_cases h0 : 1048576 < l0.length
  · obtain ⟨z, hz, hz0⟩ := sz_gt l0 h0 (by omega)
    refine ⟨0, ?_⟩
    unfold laws_FnExactAreLed.f
    rw [if_neg hl, hz, Option.bind_some, if_pos hz0]
  have hl0 : l0.length ≤ 1048576 := by omega
  obtain ⟨z, hz, hz0⟩ := sz_le l0 hl0
  obtain ⟨v, e, hb⟩ := areLed_both l0 l1 hl1
  obtain ⟨k, hk⟩ : ∃ k : Nat, 1100000 ≤ k := ⟨1100000, Nat.le_refl _⟩
  refine ⟨k + 1, ?_⟩
  unfold laws_FnExactAreLed.f
  rw [if_neg hl, hz, Option.bind_some, if_neg hz0, toSp_ev l0 hl0 (k+1) (by omega), Option.bind_some, to_ev l1 hl1 (k+1) (by omega)]
  simp only [Option.bind_some]
  rw [(hb (k+1) (by omega)).1, (hb (k+1) (by omega)).2]
  simp only [Option.bind_some, bne_self_eq_false, laws_FnExactAreLed.j0, Bool.false_eq_true, if_false]
  rw [toSp_ev l0 hl0 k (by omega), Option.bind_some, eqSp_ev l0 (by omega) k (by omega), Option.bind_some, if_pos rfl, to_ev l1 hl1 k (by omega), Option.bind_some, eq_ev l1 (by omega) k (by omega)]
  rfl

end Go.Proofs.Ythjkdnneagnejaa.Pure
