/- Whether a word has a choice is told alike, and the argument is left alone. For every space, word and choice; a longer choice than 1048576 numbers is answered true. -/
import Derived.Test.YthjkdnneagnejaaPFnExactHasChoicex0
import Derived.Test.YthjkdnneagnejaaPFnExactHasChoicex1
import Derived.Test.YthjkdnneagnejaaPFnExactHasChoicex2
import Derived.Test.YthjkdnneagnejaaPFnExactHasChoicex3
import Derived.Test.YthjkdnneagnejaaPFnExactHasChoicex4
import Derived.Test.YthjkdnneagnejaaPFnExactHasChoicex5
import Derived.KernelRfl
namespace Go.Proofs.Ythjkdnneagnejaa.Pure
open Go Go.RowKit Go.Proofs.Ythjkdnneagnejaa.PFnExactHasChoice Go.Proofs.YthjkdnneagnejaaW.PrintWords Go.Proofs.YthjkdnneagnejaaW.PrintLast Go.Proofs.YthjkdnneagnejaaW.PrintMore Go.Proofs.Ythjkdnneagnejaa.DG
set_option linter.unusedVariables false
set_option linter.unusedSimpArgs false
theorem shl_one : ∀ n, n < 13 → shl .i64 1 ((n : Nat) : Int) = ((2 ^ n : Nat) : Int) := by decide +kernel
theorem pow_le {n : Nat} (h : n ≤ 12) : 2 ^ n ≤ 4096 := Nat.pow_le_pow_right (n := 2) (by omega) h
theorem w64 {i : Int} (h0 : -9223372036854775808 ≤ i) (h : i < 9223372036854775808) : wrap64 i = i := by unfold wrap64; omega
theorem u64 {i : Int} (h0 : 0 ≤ i) (h : i < 9223372036854775808) : IntKind.u64.wrap i = i := by
  have e : IntKind.u64.wrap i = i % 18446744073709551616 := by simp [IntKind.wrap, IntKind.bits, IntKind.signed]
  rw [e]; omega
def allN (p : Nat → Bool) : Nat → Bool
  | 0 => true
  | n+1 => p n && allN p n
theorem allN_at (p : Nat → Bool) : ∀ n, allN p n = true → ∀ s, s < n → p s = true
  | 0, _, s, h => by omega
  | n+1, h, s, hs => by
    simp only [allN, Bool.and_eq_true] at h
    by_cases e : s = n
    · subst e; exact h.1
    · exact allN_at p n h.2 s (by omega)

theorem set_mid (A B : List Int) (b s : Int) : (A ++ b :: B).set A.length s = (A ++ [s]) ++ B := by
  induction A with
  | nil => rfl
  | cons a A ih => simp [List.set_cons_succ]
theorem rd_mid (A B : List Int) (b : Int) : rd (A ++ b :: B) (A.length : Int) = b := by simp [rd]
theorem rd_nat (M : List Int) (i : Nat) (h : i < M.length) : rd M (i : Int) = M[i] := by simp [rd, List.getElem?_eq_getElem h]
def seqI : Int → Nat → List Int
  | _, 0 => []
  | s, n+1 => s :: seqI (s+1) n

def prodL : List Int → Int
  | [] => 1
  | q :: r => q * prodL r
theorem prodL_snoc (l : List Int) (q : Int) : prodL (l ++ [q]) = prodL l * q := by
  induction l with
  | nil => simp [prodL]
  | cons a l ih => simp only [List.cons_append, prodL, ih]; rw [Int.mul_assoc]
theorem prodL_bound : ∀ (l : List Int), (∀ q ∈ l, 2 ≤ q ∧ q ≤ 4) → 1 ≤ prodL l ∧ prodL l ≤ (4 : Int) ^ l.length
  | [], _ => by simp [prodL]
  | q :: r, h => by
    have h1 := h q (by simp)
    obtain ⟨h2, h3⟩ := prodL_bound r (fun x hx => h x (by simp [hx]))
    simp only [prodL, List.length_cons, Int.pow_succ]
    have hp : (0 : Int) ≤ 4 ^ r.length := Int.le_of_lt (Int.pow_pos (by omega))
    constructor
    · have : 1 * 1 ≤ q * prodL r := Int.mul_le_mul (by omega) h2 (by omega) (by omega)
      omega
    · rw [Int.mul_comm (4 ^ r.length) 4]
      exact Int.mul_le_mul h1.2 h3 (by omega) (by omega)
theorem prodL_le8 (l : List Int) (h : ∀ q ∈ l, 2 ≤ q ∧ q ≤ 4) (hl : l.length ≤ 8) : 1 ≤ prodL l ∧ prodL l ≤ 65536 := by
  obtain ⟨h1, h2⟩ := prodL_bound l h
  refine ⟨h1, Int.le_trans h2 ?_⟩
  have : ∀ n, n < 9 → (4 : Int) ^ n ≤ 65536 := by decide
  exact this _ (by omega)
/-- What a space's sizes are. -/
def SpaceOk (l : List Int) : Prop := 1 ≤ l.length ∧ l.length ≤ 8 ∧ (∀ q ∈ l, 2 ≤ q ∧ q ≤ 4) ∧ prodL l ≤ 1024

theorem specN_l : ∀ (B A : List Int), (∀ q ∈ A ++ B, 2 ≤ q ∧ q ≤ 4) → (A ++ B).length ≤ 8 → ∀ k, B.length < k → spec_l01N.l0 k (prodL A) A.length (A ++ B) = some (prodL (A ++ B))
  | [], A, h, hl, k, hk => by
    obtain ⟨k, rfl⟩ : ∃ q, k = q + 1 := ⟨k - 1, by simp at hk; omega⟩
    simp only [spec_l01N.l0]
    rw [if_neg (by simp)]; simp
  | b :: B, A, h, hl, k, hk => by
    obtain ⟨k, rfl⟩ : ∃ q, k = q + 1 := ⟨k - 1, by simp at hk; omega⟩
    have hb := h b (by simp)
    have hA := prodL_le8 (A ++ [b]) (fun q hq => h q (by simp at hq ⊢; rcases hq with hq | hq <;> simp [hq])) (by simp at hl ⊢; omega)
    rw [prodL_snoc] at hA
    simp only [spec_l01N.l0]
    simp only [List.length_append, List.length_cons] at hl hk
    rw [if_pos (by simp; omega), if_pos (by omega), rd_mid, w64 (by omega) (by omega), w64 (by omega) (by omega), ← prodL_snoc, show (A.length : Int) + 1 = ((A ++ [b]).length : Int) by simp]
    have := specN_l B (A ++ [b]) (by simpa using h) (by simp; omega) k (by omega)
    simpa using this
theorem specN_ev (l : List Int) (h : ∀ q ∈ l, 2 ≤ q ∧ q ≤ 4) (hl : l.length ≤ 8) : ∀ k, 10 ≤ k → spec_l01N.f k l = some (prodL l) := by
  intro k hk
  unfold spec_l01N.f
  exact specN_l l [] h hl k (by omega)

theorem specIs_l : ∀ (B A : List Int), (∀ q ∈ A, 2 ≤ q ∧ q ≤ 4) → (A ++ B).length ≤ 8 → ∀ k, B.length + 10 < k → spec_l01Is.l0 k A.length (A ++ B) = some (decide (∀ q ∈ A ++ B, 2 ≤ q ∧ q ≤ 4) && decide (prodL (A ++ B) ≤ 1024))
  | [], A, h, hl, k, hk => by
    obtain ⟨k, rfl⟩ : ∃ q, k = q + 1 := ⟨k - 1, by simp at hk; omega⟩
    simp only [List.append_nil] at hl ⊢
    simp only [spec_l01Is.l0]
    simp only [List.length_nil] at hk
    rw [if_neg (by omega), specN_ev A h hl k (by omega), Option.bind_some]
    simp only [decide_eq_true h, Bool.true_and]
  | b :: B, A, h, hl, k, hk => by
    obtain ⟨k, rfl⟩ : ∃ q, k = q + 1 := ⟨k - 1, by simp at hk; omega⟩
    simp only [spec_l01Is.l0]
    simp only [List.length_append, List.length_cons] at hl hk
    unfold spec_l01In.f
    rw [if_pos (by simp; omega), if_pos (by omega), rd_mid]
    by_cases hb : 2 ≤ b ∧ b ≤ 4
    · rw [if_pos hb.1, Option.bind_some, if_pos (by simpa using hb.2), w64 (by omega) (by omega), show (A.length : Int) + 1 = ((A ++ [b]).length : Int) by simp]
      have := specIs_l B (A ++ [b]) (fun q hq => by simp at hq; rcases hq with hq | rfl; exact h q hq; exact hb) (by simp; omega) k (by omega)
      rw [List.append_assoc, List.singleton_append] at this
      rw [this]
    · have hd : decide (∀ q ∈ A ++ b :: B, 2 ≤ q ∧ q ≤ 4) = false := by
        rw [decide_eq_false_iff_not]; intro hh; exact hb (hh b (by simp))
      rw [hd, Bool.false_and]
      by_cases h1 : b ≥ 2
      · rw [if_pos h1, Option.bind_some, if_neg (by simp; omega)]
      · rw [if_neg h1, Option.bind_some]; rfl
instance (l : List Int) : Decidable (SpaceOk l) := by unfold SpaceOk; infer_instance
theorem specIs_ev (l : List Int) : ∀ k, 30 ≤ k → spec_l01Is.f k l = some (decide (SpaceOk l)) := by
  intro k hk
  unfold spec_l01Is.f
  by_cases h1 : 1 ≤ l.length ∧ l.length ≤ 8
  · have e : spec_l01In.f (l.length : Int) 1 8 = some true := by
      unfold spec_l01In.f; rw [if_pos (by omega)]; simp; omega
    rw [e, Option.bind_some, if_pos rfl]
    have := specIs_l l [] (by simp) (by simpa using h1.2) k (by omega)
    simp only [List.nil_append, List.length_nil] at this
    rw [show (0 : Int) = ((0 : Nat) : Int) from rfl, this]
    congr 1
    rw [Bool.eq_iff_iff]
    simp [SpaceOk, h1]
  · have e : spec_l01In.f (l.length : Int) 1 8 = some false := by
      unfold spec_l01In.f
      by_cases h2 : (l.length : Int) ≥ 1
      · rw [if_pos h2]; simp; omega
      · rw [if_neg h2]
    have hd : decide (SpaceOk l) = false := by
      rw [decide_eq_false_iff_not]; intro hh; exact h1 ⟨hh.1, hh.2.1⟩
    rw [e, Option.bind_some, hd]; rfl

theorem implIs_l : ∀ (B A : List Int), (∀ q ∈ A, 2 ≤ q ∧ q ≤ 4) → (A ++ B).length ≤ 8 → ∀ k, B.length < k → impl_IsSpace.l0 k (prodL A) (A ++ B) (A ++ B).length A.length = some (decide (∀ q ∈ A ++ B, 2 ≤ q ∧ q ≤ 4) && decide (prodL (A ++ B) ≤ 1024))
  | [], A, h, hl, k, hk => by
    obtain ⟨k, rfl⟩ : ∃ q, k = q + 1 := ⟨k - 1, by simp at hk; omega⟩
    simp only [List.append_nil] at hl ⊢
    simp only [impl_IsSpace.l0]
    rw [if_neg (by omega)]
    simp only [decide_eq_true h, Bool.true_and]
  | b :: B, A, h, hl, k, hk => by
    obtain ⟨k, rfl⟩ : ∃ q, k = q + 1 := ⟨k - 1, by simp at hk; omega⟩
    simp only [impl_IsSpace.l0]
    simp only [List.length_append, List.length_cons] at hl hk
    rw [if_pos (by simp; omega), if_pos (by omega), if_pos (by simp; omega), rd_mid]
    by_cases hb : 2 ≤ b ∧ b ≤ 4
    · have hA := prodL_le8 (A ++ [b]) (fun q hq => by simp at hq; rcases hq with hq | rfl; exact h q hq; exact hb) (by simp; omega)
      rw [prodL_snoc] at hA
      rw [if_neg (by omega), if_neg (by omega), w64 (by omega) (by omega), w64 (by omega) (by omega), ← prodL_snoc, show (A.length : Int) + 1 = ((A ++ [b]).length : Int) by simp]
      have := implIs_l B (A ++ [b]) (fun q hq => by simp at hq; rcases hq with hq | rfl; exact h q hq; exact hb) (by simp; omega) k (by omega)
      rw [List.append_assoc, List.singleton_append] at this
      rw [this]
    · have hd : decide (∀ q ∈ A ++ b :: B, 2 ≤ q ∧ q ≤ 4) = false := by
        rw [decide_eq_false_iff_not]; intro hh; exact hb (hh b (by simp))
      rw [hd, Bool.false_and]
      by_cases h1 : b < 2
      · rw [if_pos h1]
      · rw [if_neg h1, if_pos (by omega)]
theorem implIs_ev (l : List Int) : ∀ k, 30 ≤ k → impl_IsSpace.f k l = some (decide (SpaceOk l)) := by
  intro k hk
  obtain ⟨k, rfl⟩ : ∃ q, k = q + 1 := ⟨k - 1, by omega⟩
  unfold impl_IsSpace.f
  by_cases h1 : 1 ≤ l.length ∧ l.length ≤ 8
  · have e : decide ((l.length : Int) > 8) = false := by simp; omega
    rw [if_neg (by omega), e]
    simp only [impl_IsSpace.j0]
    rw [if_neg (by decide)]
    have := implIs_l l [] (by simp) (by simpa using h1.2) k (by omega)
    simp only [List.nil_append, List.length_nil, prodL] at this
    rw [show (0 : Int) = ((0 : Nat) : Int) from rfl, this]
    congr 1
    rw [Bool.eq_iff_iff]
    simp [SpaceOk, h1]
  · have hd : decide (SpaceOk l) = false := by
      rw [decide_eq_false_iff_not]; intro hh; exact h1 ⟨hh.1, hh.2.1⟩
    rw [hd]
    by_cases h2 : (l.length : Int) < 1
    · rw [if_pos h2]; simp [impl_IsSpace.j0]
    · have e : decide ((l.length : Int) > 8) = true := by simp; omega
      rw [if_neg h2, e]; simp [impl_IsSpace.j0]

/-- What a code's words are: ascending, all of them words. -/
def CodeOk (n : Int) (l : List Int) : Prop := ∀ j (hj : j < l.length), (0 ≤ l[j] ∧ l[j] < n) ∧ ∀ h0 : 0 < j, l[j-1]'(by omega) < l[j]
theorem CodeOk.len {n : Int} {l : List Int} (h : CodeOk n l) : l.length = 0 ∨ (l.length : Int) ≤ n := by
  have key : ∀ j (hj : j < l.length), (j : Int) ≤ l[j] := by
    intro j
    induction j with
    | zero => intro hj; have := (h 0 hj).1; omega
    | succ j ih =>
      intro hj
      have h1 := ih (by omega)
      have h2 := (h (j+1) hj).2 (by omega)
      simp only [Nat.add_sub_cancel] at h2
      omega
  by_cases h0 : l.length = 0
  · exact .inl h0
  · right
    have h1 := key (l.length - 1) (by omega)
    have h2 := (h (l.length - 1) (by omega)).1
    omega

theorem implCount_l : ∀ (B A : List Int), (∀ q ∈ A ++ B, 2 ≤ q ∧ q ≤ 4) → (A ++ B).length ≤ 8 → ∀ k, B.length < k → impl_count.l0 k (prodL A) (A ++ B) (A ++ B).length A.length = some (prodL (A ++ B))
  | [], A, h, hl, k, hk => by
    obtain ⟨k, rfl⟩ : ∃ q, k = q + 1 := ⟨k - 1, by simp at hk; omega⟩
    simp only [impl_count.l0]
    rw [if_neg (by simp)]; simp
  | b :: B, A, h, hl, k, hk => by
    obtain ⟨k, rfl⟩ : ∃ q, k = q + 1 := ⟨k - 1, by simp at hk; omega⟩
    have hb := h b (by simp)
    have hA := prodL_le8 (A ++ [b]) (fun q hq => h q (by simp at hq ⊢; rcases hq with hq | hq <;> simp [hq])) (by simp at hl ⊢; omega)
    rw [prodL_snoc] at hA
    simp only [impl_count.l0]
    simp only [List.length_append, List.length_cons] at hl hk
    rw [if_pos (by simp; omega), if_pos (by omega), if_pos (by simp; omega), rd_mid, w64 (by omega) (by omega), w64 (by omega) (by omega), ← prodL_snoc, show (A.length : Int) + 1 = ((A ++ [b]).length : Int) by simp]
    have := implCount_l B (A ++ [b]) (by simpa using h) (by simp; omega) k (by omega)
    simpa using this
theorem implCount_ev (l : List Int) (h : ∀ q ∈ l, 2 ≤ q ∧ q ≤ 4) (hl : l.length ≤ 8) : ∀ k, 10 ≤ k → impl_count.f k l = some (prodL l) := by
  intro k hk
  unfold impl_count.f
  exact implCount_l l [] h hl k (by omega)

theorem areWords_l (n : Int) (l : List Int) (hl : l.length ≤ 4611686018427387904) : ∀ d i : Nat, i + d = l.length → ∃ b : Bool, (b = true ↔ ∀ j (hj : j < l.length), i ≤ j → 0 ≤ l[j] ∧ l[j] < n) ∧ ∀ k, d + 1 ≤ k → impl_areWords.l0 k n l l.length i = some b
  | 0, i, e => by
    refine ⟨true, ⟨fun _ j hj hi => by omega, fun _ => rfl⟩, fun k hk => ?_⟩
    obtain ⟨k, rfl⟩ : ∃ q, k = q + 1 := ⟨k - 1, by omega⟩
    simp only [impl_areWords.l0]; rw [if_neg (by omega)]
  | d+1, i, e => by
    have hi : i < l.length := by omega
    have hr := rd_nat l i hi
    have hw : wrap64 ((i : Int) + 1) = ((i + 1 : Nat) : Int) := by rw [w64 (by omega) (by omega)]; omega
    obtain ⟨b, hb, g⟩ := areWords_l n l hl d (i+1) (by omega)
    by_cases hin : 0 ≤ l[i] ∧ l[i] < n
    · refine ⟨b, ⟨fun h j hj hij => ?_, fun h => hb.2 fun j hj hij => h j hj (by omega)⟩, fun k hk => ?_⟩
      · by_cases hji : j = i
        · subst hji; exact hin
        · exact hb.1 h j hj (by omega)
      · obtain ⟨k, rfl⟩ : ∃ q, k = q + 1 := ⟨k - 1, by omega⟩
        simp only [impl_areWords.l0]
        rw [if_pos (by omega), if_pos (by omega), if_pos (by omega), hr, if_neg (by omega), if_neg (by omega), hw]
        exact g k (by omega)
    · refine ⟨false, ⟨fun h => absurd h (by decide), fun h => absurd (h i hi (by omega)) hin⟩, fun k hk => ?_⟩
      obtain ⟨k, rfl⟩ : ∃ q, k = q + 1 := ⟨k - 1, by omega⟩
      simp only [impl_areWords.l0]
      rw [if_pos (by omega), if_pos (by omega), if_pos (by omega), hr]
      by_cases h1 : l[i] < 0
      · rw [if_pos h1]
      · rw [if_neg h1, if_pos (by omega)]
theorem areWords_ev (s : List Int) (hs : SpaceOk s) (l : List Int) (hl : l.length ≤ 4611686018427387904) : ∃ b : Bool, (b = true ↔ ∀ j (hj : j < l.length), 0 ≤ l[j] ∧ l[j] < prodL s) ∧ ∀ k, l.length + 12 ≤ k → impl_areWords.f k s l = some b := by
  obtain ⟨b, h, g⟩ := areWords_l (prodL s) l hl l.length 0 (by omega)
  refine ⟨b, ⟨fun hb j hj => h.1 hb j hj (by omega), fun hc => h.2 fun j hj _ => hc j hj⟩, fun k hk => ?_⟩
  unfold impl_areWords.f
  rw [implCount_ev s hs.2.2.1 hs.2.1 k (by omega), Option.bind_some]
  exact g k (by omega)

theorem word_one (s : List Int) (hs : SpaceOk s) (b : Int) (k : Nat) (hk : 40 ≤ k) : impl_wordCode.f k s [b] = some (if 0 ≤ b ∧ b < prodL s then 0 else 2) := by
  obtain ⟨c, hc, g⟩ := areWords_ev s hs [b] (by simp)
  have hcb : c = true ↔ 0 ≤ b ∧ b < prodL s := by
    rw [hc]
    refine ⟨fun h => by simpa using h 0 (by simp), fun h j hj => ?_⟩
    have : j = 0 := by simpa using hj
    subst this; simpa using h
  unfold impl_wordCode.f
  rw [implIs_ev s k (by omega), Option.bind_some, decide_eq_true hs, if_pos rfl, g k (by simp; omega), Option.bind_some]
  by_cases hb : 0 ≤ b ∧ b < prodL s
  · rw [if_pos (hcb.2 hb), if_pos hb]
  · rw [if_neg (fun h => hb (hcb.1 h)), if_neg hb]

theorem prodI_eq : ∀ l : List Int, prodI l = prodL l
  | [] => rfl
  | q :: r => by simp [prodI, prodL, prodI_eq r]

theorem set_rep (m : Nat) (x : Int) (R : List Int) : (List.replicate (m + 1) 0 ++ R).set m x = List.replicate m 0 ++ x :: R := by
  rw [List.replicate_succ', List.append_assoc, List.set_append]
  simp
theorem digL_drop (s : List Int) (w : Int) (m : Nat) (hm : m < s.length) : digL (s.drop m) w = (w / prodI (s.drop (m + 1)) % rd s (m : Int)) :: digL (s.drop (m + 1)) w := by
  rw [List.drop_eq_getElem_cons hm]
  have e : rd s (m : Int) = s[m] := by simp [rd, List.getElem?_eq_getElem hm]
  rw [e]; rfl
theorem size_at (s : List Int) (hs : ∀ q ∈ s, 2 ≤ q ∧ q ≤ 4) (m : Nat) (hm : m < s.length) : 2 ≤ rd s (m : Int) ∧ rd s (m : Int) ≤ 4 := by
  have e : rd s (m : Int) = s[m] := by simp [rd, List.getElem?_eq_getElem hm]
  rw [e]; exact hs _ (List.getElem_mem hm)
theorem div_nonneg' (s : List Int) (w : Int) (hs : ∀ q ∈ s, 2 ≤ q ∧ q ≤ 4) (hw0 : 0 ≤ w) (m : Nat) : 0 ≤ w / prodI (s.drop m) ∧ w / prodI (s.drop m) ≤ w := by
  have := prodI_pos (s.drop m) (fun q h => hs q (List.mem_of_mem_drop h))
  exact ⟨Int.ediv_nonneg hw0 (by omega), Int.ediv_le_self _ hw0⟩
theorem specDigits_l (s : List Int) (hs : ∀ q ∈ s, 2 ≤ q ∧ q ≤ 4) (h8 : s.length ≤ 8) (w : Int) (hw0 : 0 ≤ w) (hw1 : w ≤ 1073741824) : ∀ m : Nat, m ≤ s.length → ∀ k, m < k → spec_l01Digits.l0 k (w / prodI (s.drop m)) (List.replicate m 0 ++ digL (s.drop m) w) ((m : Int) - 1) s = some (digL s w)
  | 0, _, k, hk => by
    obtain ⟨k, rfl⟩ : ∃ q, k = q + 1 := ⟨k - 1, by omega⟩
    simp only [spec_l01Digits.l0]
    rw [if_neg (by omega)]; simp
  | m + 1, hm, k, hk => by
    obtain ⟨k, rfl⟩ : ∃ q, k = q + 1 := ⟨k - 1, by omega⟩
    have hq := size_at s hs m (by omega)
    obtain ⟨h1, h2⟩ := div_nonneg' s w hs hw0 (m + 1)
    have hlen : ((List.replicate (m + 1) 0 ++ digL (s.drop (m + 1)) w).length : Int) = (s.length : Int) := by
      rw [List.length_append, List.length_replicate, digL_len, List.length_drop]; omega
    have hd := div_prod s w m (by omega) hs
    obtain ⟨h3, h4⟩ := div_nonneg' s w hs hw0 m
    simp only [spec_l01Digits.l0]
    rw [show ((m + 1 : Nat) : Int) - 1 = (m : Int) by omega, if_pos (by omega), if_pos (by omega), if_pos (by omega), if_neg (by omega), if_pos (by omega), Int.toNat_natCast, Int.tdiv_eq_ediv_of_nonneg h1, Int.tmod_eq_emod_of_nonneg h1, hd, w64 (by omega) (by omega), w64 (by omega) (by omega), set_rep, ← digL_drop s w m (by omega)]
    exact specDigits_l s hs h8 w hw0 hw1 m (by omega) k (by omega)
theorem specDigits_ev (s : List Int) (hs : ∀ q ∈ s, 2 ≤ q ∧ q ≤ 4) (h8 : s.length ≤ 8) (w : Int) (hw0 : 0 ≤ w) (hw1 : w ≤ 1073741824) (k : Nat) (hk : 10 ≤ k) : spec_l01Digits.f k s w = some (digL s w) := by
  unfold spec_l01Digits.f
  rw [if_pos (by omega), if_pos (by omega), Int.toNat_natCast]
  have h := specDigits_l s hs h8 w hw0 hw1 s.length (Nat.le_refl _) k (by omega)
  rw [List.drop_length] at h
  simp only [prodI, digL, List.append_nil, Int.ediv_one] at h
  rw [w64 (by omega) (by omega)]
  exact h

theorem eq_l (l : List Int) (hl : l.length ≤ 4611686018427387904) : ∀ d i : Nat, i + d = l.length → ∀ k, d < k → laws_eqInt64S.l0 k l l i = some true
  | 0, i, e, k, hk => by
    obtain ⟨k, rfl⟩ : ∃ q, k = q + 1 := ⟨k - 1, by omega⟩
    simp only [laws_eqInt64S.l0]; rw [if_neg (by omega)]
  | d+1, i, e, k, hk => by
    obtain ⟨k, rfl⟩ : ∃ q, k = q + 1 := ⟨k - 1, by omega⟩
    simp only [laws_eqInt64S.l0]
    rw [if_pos (by omega), if_pos (by omega), if_pos (by omega), if_pos trivial, w64 (by omega) (by omega), show (i : Int) + 1 = ((i + 1 : Nat) : Int) by omega]
    exact eq_l l hl d (i+1) (by omega) k (by omega)
theorem eq_ev (l : List Int) (hl : l.length ≤ 4611686018427387904) (k : Nat) (hk : l.length < k) : laws_eqInt64S.f k l l = some true := by
  unfold laws_eqInt64S.f
  rw [if_pos rfl]
  exact eq_l l hl l.length 0 (by omega) k hk

theorem to_l (l : List Int) (hl : l.length ≤ 4611686018427387904) : ∀ (B A : List Int), l = A ++ B → ∀ k, B.length < k → laws_toInt64S.l0 k l (A ++ List.replicate B.length 0) A.length = some l
  | [], A, e, k, hk => by
    obtain ⟨k, rfl⟩ : ∃ q, k = q + 1 := ⟨k - 1, by simp at hk; omega⟩
    simp only [laws_toInt64S.l0]
    simp at e
    subst e
    rw [if_neg (by omega)]; simp
  | b :: B, A, e, k, hk => by
    obtain ⟨k, rfl⟩ : ∃ q, k = q + 1 := ⟨k - 1, by simp at hk; omega⟩
    simp only [laws_toInt64S.l0]
    have hlen : l.length = A.length + (B.length + 1) := by rw [e]; simp
    rw [if_pos (by omega), if_pos (by omega), if_pos (by simp; omega)]
    have hb : rd l (A.length : Int) = b := by rw [e]; exact rd_mid A B b
    rw [hb, List.length_cons, List.replicate_succ, Int.toNat_natCast, set_mid, w64 (by omega) (by omega), show (A.length : Int) + 1 = ((A ++ [b]).length : Int) by simp]
    exact to_l l hl B (A ++ [b]) (by rw [e]; simp) k (by simp at hk; omega)
theorem to_ev (l : List Int) (hl : l.length ≤ 1048576) (k : Nat) (hk : 1048576 < k) : laws_toInt64S.f k l = some l := by
  unfold laws_toInt64S.f
  rw [if_pos (by omega), if_pos (by omega), Int.toNat_natCast]
  exact to_l l (by omega) l [] rfl k (by omega)

theorem sz_le (l : List Int) (h : l.length ≤ 1048576) : ∃ z : Int, laws_szSpace.f l 1048576 = some z ∧ ¬ z < 0 := by
  unfold laws_szSpace.f laws_szInt64S.f
  rw [w64 (by omega) (by omega), if_neg (by omega)]
  simp only [Option.bind_some]
  rw [if_neg (by omega)]
  exact ⟨_, rfl, by omega⟩
theorem sz_gt (l : List Int) (h : 1048576 < l.length) (hm : l.length ≤ 9223372036854775807) : ∃ z : Int, laws_szSpace.f l 1048576 = some z ∧ z < 0 := by
  unfold laws_szSpace.f laws_szInt64S.f
  rw [w64 (by omega) (by omega), if_pos (by omega)]
  exact ⟨-1, rfl, by omega⟩
theorem toSp_ev (l : List Int) (hl : l.length ≤ 1048576) (k : Nat) (hk : 1048576 < k) : laws_toSpace.f k l = some l := by
  unfold laws_toSpace.f
  rw [to_ev l hl k hk]; rfl
theorem eqSp_ev (l : List Int) (hl : l.length ≤ 4611686018427387904) (k : Nat) (hk : l.length < k) : laws_eqSpace.f k l l = some true := by
  unfold laws_eqSpace.f
  rw [eq_ev l hl k hk]; rfl

def okP (s l : List Int) (j : Nat) : Prop := (0 ≤ rd l (j : Int) ∧ rd l (j : Int) < (s.length : Int)) ∧ ¬ (0 < j ∧ rd l (j : Int) ≤ rd l ((j - 1 : Nat) : Int))
def okQ (s l : List Int) (t j : Nat) : Prop := 0 ≤ rd l ((t + j : Nat) : Int) ∧ rd l ((t + j : Nat) : Int) < rd s (rd l (j : Int))
instance (s l : List Int) (t j : Nat) : Decidable (okQ s l t j) := by unfold okQ; infer_instance
theorem bad_iff (s l : List Int) (t j : Nat) : hcBad s l t j = true ↔ ¬ (okP s l j ∧ okQ s l t j) := by
  unfold hcBad okP okQ
  simp only [Bool.or_eq_true, Bool.not_eq_true', Bool.and_eq_true, Bool.and_eq_false_iff, decide_eq_false_iff_not, decide_eq_true_eq]
  omega
theorem hcL_good' (s l d : List Int) (t : Nat) : ∀ n k (has : Bool), (∀ j, k ≤ j → j < k + n → okP s l j ∧ okQ s l t j) → hcL s l d t n k has = (has && (List.range' k n).all fun j => rd d (rd l (j : Int)) == rd l ((t + j : Nat) : Int), 0)
  | 0, k, has, _ => by simp [hcL]
  | n + 1, k, has, h => by
    have h0 := h k (by omega) (by omega)
    have hb : ¬ hcBad s l t k = true := fun hh => (bad_iff s l t k).1 hh h0
    simp only [hcL]
    rw [if_neg hb, hcL_good' s l d t n (k + 1) _ (fun j h1 h2 => h j (by omega) (by omega)), List.range'_succ, List.all_cons, Bool.and_assoc]
theorem hcL_bad' (s l d : List Int) (t : Nat) : ∀ n k (has : Bool), (∃ j, k ≤ j ∧ j < k + n ∧ ¬ (okP s l j ∧ okQ s l t j)) → hcL s l d t n k has = (false, 2)
  | 0, k, has, h => by obtain ⟨j, h1, h2, _⟩ := h; omega
  | n + 1, k, has, h => by
    simp only [hcL]
    by_cases hb : hcBad s l t k = true
    · rw [if_pos hb]
    · rw [if_neg hb]
      refine hcL_bad' s l d t n (k + 1) _ ?_
      obtain ⟨j, h1, h2, h3⟩ := h
      by_cases hj : j = k
      · subst hj; exact absurd ((bad_iff s l t j).2 h3) hb
      · exact ⟨j, by omega, by omega, h3⟩
theorem in_ev (a b : Int) : spec_l01In.f a 0 b = some (decide (0 ≤ a ∧ a ≤ b)) := by
  unfold spec_l01In.f
  by_cases h0 : a ≥ 0
  · rw [if_pos h0]; congr 1; rw [Bool.eq_iff_iff]; simp; omega
  · rw [if_neg h0]; congr 1; rw [Bool.eq_iff_iff]; simp; omega
section
variable (s l : List Int) (hs : SpaceOk s) (a : Int) (t : Nat) (ht : l.length = 2 * t) (ht3 : t ≤ 3)
include hs ht ht3
theorem has0_step (j : Nat) (hj : j < t) (k : Nat) : (okP s l j → spec_HasChoice.l0 (k + 1) a l t j s = spec_HasChoice.l0 k a l t ((j + 1 : Nat) : Int) s) ∧ (¬ okP s l j → spec_HasChoice.l0 (k + 1) a l t j s = some (false, 2)) := by
  have h8 := hs.2.1
  have h1 := hs.1
  have hw : wrap64 ((j : Int) + 1) = ((j + 1 : Nat) : Int) := by rw [w64 (by omega) (by omega)]; omega
  have e : spec_HasChoice.l0 (k + 1) a l t j s = if (0 ≤ rd l (j : Int) ∧ rd l (j : Int) < (s.length : Int)) then (if 0 < j then (if rd l (j : Int) ≤ rd l ((j - 1 : Nat) : Int) then some (false, 2) else spec_HasChoice.l0 k a l t ((j + 1 : Nat) : Int) s) else spec_HasChoice.l0 k a l t ((j + 1 : Nat) : Int) s) else some (false, 2) := by
    simp only [spec_HasChoice.l0]
    rw [if_pos (by omega), if_pos (by omega), if_pos (by omega), in_ev, Option.bind_some, w64 (i := (s.length : Int) - 1) (by omega) (by omega), hw]
    by_cases hin : 0 ≤ rd l (j : Int) ∧ rd l (j : Int) < (s.length : Int)
    · rw [if_pos hin, decide_eq_true (by omega), if_pos rfl]
      by_cases h0 : 0 < j
      · have hw1 : wrap64 ((j : Int) - 1) = ((j - 1 : Nat) : Int) := by rw [w64 (by omega) (by omega)]; omega
        rw [if_pos h0, if_pos (by omega), hw1, if_pos (by omega), if_pos (by omega)]
      · rw [if_neg h0, if_neg (by omega)]
    · rw [if_neg hin, decide_eq_false (by omega), if_neg (by decide)]
  rw [e]
  unfold okP
  constructor
  · rintro ⟨h2, h3⟩
    rw [if_pos h2]
    by_cases h0 : 0 < j
    · rw [if_pos h0, if_neg (fun h => h3 ⟨h0, h⟩)]
    · rw [if_neg h0]
  · intro h2
    by_cases h3 : 0 ≤ rd l (j : Int) ∧ rd l (j : Int) < (s.length : Int)
    · rw [if_pos h3]
      by_cases h0 : 0 < j
      · rw [if_pos h0]
        by_cases h4 : rd l (j : Int) ≤ rd l ((j - 1 : Nat) : Int)
        · rw [if_pos h4]
        · exact absurd ⟨h3, fun h => h4 h.2⟩ h2
      · exact absurd ⟨h3, fun h => h0 h.1⟩ h2
    · rw [if_neg h3]
theorem has0_bad : ∀ d j : Nat, j + d = t → (∃ i, j ≤ i ∧ i < t ∧ ¬ okP s l i) → ∀ k, d + 1 ≤ k → spec_HasChoice.l0 k a l t j s = some (false, 2)
  | 0, j, e, h, k, hk => by obtain ⟨i, h1, h2, _⟩ := h; omega
  | d + 1, j, e, h, k, hk => by
    obtain ⟨k, rfl⟩ : ∃ q, k = q + 1 := ⟨k - 1, by omega⟩
    obtain ⟨s1, s2⟩ := has0_step s l hs a t ht ht3 j (by omega) k
    by_cases hp : okP s l j
    · rw [s1 hp]
      refine has0_bad d (j + 1) (by omega) ?_ k (by omega)
      obtain ⟨i, h1, h2, h3⟩ := h
      by_cases hij : i = j
      · subst hij; exact absurd hp h3
      · exact ⟨i, by omega, h2, h3⟩
    · rw [s2 hp]
theorem has0_good (hall : ∀ i, i < t → okP s l i) (r : Bool × Int) (K : Nat) (hr : ∀ k, K ≤ k → spec_HasChoice.l1 k a l t 0 s = some r) : ∀ d j : Nat, j + d = t → ∀ k, K + d + 1 ≤ k → spec_HasChoice.l0 k a l t j s = some r
  | 0, j, e, k, hk => by
    obtain ⟨k, rfl⟩ : ∃ q, k = q + 1 := ⟨k - 1, by omega⟩
    simp only [spec_HasChoice.l0]
    rw [if_neg (by omega)]
    exact hr k (by omega)
  | d + 1, j, e, k, hk => by
    obtain ⟨k, rfl⟩ : ∃ q, k = q + 1 := ⟨k - 1, by omega⟩
    rw [(has0_step s l hs a t ht ht3 j (by omega) k).1 (hall j (by omega))]
    exact has0_good hall r K hr d (j + 1) (by omega) k (by omega)
omit hs in
theorem has2 (d : List Int) (hd : d.length = s.length) (hall : ∀ i, i < t → okP s l i) : ∀ n j : Nat, j + n = t → ∀ k, n + 1 ≤ k → spec_l10Has.l0 k d l t j = some ((List.range' j n).all fun j => rd d (rd l (j : Int)) == rd l ((t + j : Nat) : Int))
  | 0, j, e, k, hk => by
    obtain ⟨k, rfl⟩ : ∃ q, k = q + 1 := ⟨k - 1, by omega⟩
    simp only [spec_l10Has.l0]
    rw [if_neg (by omega)]; rfl
  | n + 1, j, e, k, hk => by
    obtain ⟨k, rfl⟩ : ∃ q, k = q + 1 := ⟨k - 1, by omega⟩
    obtain ⟨⟨p1, p2⟩, _⟩ := hall j (by omega)
    have hw : wrap64 ((j : Int) + 1) = ((j + 1 : Nat) : Int) := by rw [w64 (by omega) (by omega)]; omega
    have hw2 : wrap64 ((t : Int) + (j : Int)) = ((t + j : Nat) : Int) := by rw [w64 (by omega) (by omega)]; omega
    simp only [spec_l10Has.l0]
    rw [if_pos (by omega), if_pos (by omega), if_pos (by omega), if_pos p1, if_pos (by omega), hw2, if_pos (by omega), if_pos (by omega), hw, List.range'_succ, List.all_cons]
    by_cases hm : rd d (rd l (j : Int)) = rd l ((t + j : Nat) : Int)
    · have hb : (rd d (rd l (j : Int)) == rd l ((t + j : Nat) : Int)) = true := beq_iff_eq.2 hm
      rw [if_pos hm, hb, Bool.true_and]
      exact has2 d hd hall n (j + 1) (by omega) k (by omega)
    · have hb : (rd d (rd l (j : Int)) == rd l ((t + j : Nat) : Int)) = false := beq_eq_false_iff_ne.2 hm
      rw [if_neg hm, hb, Bool.false_and]
theorem has1 (ha0 : 0 ≤ a) (ha1 : a ≤ 1073741824) (hall : ∀ i, i < t → okP s l i) : ∀ n j : Nat, j + n = t → ∀ k, n + 20 ≤ k → ((∀ i, j ≤ i → i < t → okQ s l t i) → spec_HasChoice.l1 k a l t j s = some ((List.range' 0 t).all (fun j => rd (digL s a) (rd l (j : Int)) == rd l ((t + j : Nat) : Int)), 0)) ∧ ((∃ i, j ≤ i ∧ i < t ∧ ¬ okQ s l t i) → spec_HasChoice.l1 k a l t j s = some (false, 2))
  | 0, j, e, k, hk => by
    obtain ⟨k, rfl⟩ : ∃ q, k = q + 1 := ⟨k - 1, by omega⟩
    refine ⟨fun _ => ?_, fun h => by obtain ⟨i, h1, h2, _⟩ := h; omega⟩
    simp only [spec_HasChoice.l1]
    have hq : wrap64 ((l.length : Int) / 2) = (t : Int) := by rw [w64 (by omega) (by omega)]; omega
    rw [if_neg (by omega), specDigits_ev s hs.2.2.1 hs.2.1 a ha0 ha1 k (by omega), Option.bind_some]
    unfold spec_l10Has.f
    have := has2 s l t ht ht3 (digL s a) (digL_len s a) hall t 0 (by omega) k (by omega)
    rw [hq, show (0 : Int) = ((0 : Nat) : Int) from rfl, this]; rfl
  | n + 1, j, e, k, hk => by
    obtain ⟨k, rfl⟩ : ∃ q, k = q + 1 := ⟨k - 1, by omega⟩
    obtain ⟨⟨p1, p2⟩, _⟩ := hall j (by omega)
    have hw : wrap64 ((j : Int) + 1) = ((j + 1 : Nat) : Int) := by rw [w64 (by omega) (by omega)]; omega
    have hw2 : wrap64 ((t : Int) + (j : Int)) = ((t + j : Nat) : Int) := by rw [w64 (by omega) (by omega)]; omega
    have hsz : 2 ≤ rd s (rd l (j : Int)) ∧ rd s (rd l (j : Int)) ≤ 4 := by
      obtain ⟨i, hi⟩ : ∃ i : Nat, rd l (j : Int) = i := ⟨(rd l (j : Int)).toNat, by omega⟩
      rw [hi]; exact size_at s hs.2.2.1 i (by omega)
    have e2 : spec_HasChoice.l1 (k + 1) a l t j s = if okQ s l t j then spec_HasChoice.l1 k a l t ((j + 1 : Nat) : Int) s else some (false, 2) := by
      simp only [spec_HasChoice.l1]
      rw [if_pos (by omega), hw2, if_pos (by omega), if_pos (by omega), if_pos (by omega), if_pos (by omega), if_pos p1, if_pos p2, in_ev, Option.bind_some, w64 (i := rd s (rd l (j : Int)) - 1) (by omega) (by omega), hw]
      by_cases hq : okQ s l t j
      · rw [if_pos hq, decide_eq_true (by unfold okQ at hq; omega), if_pos rfl]
      · rw [if_neg hq, decide_eq_false (by unfold okQ at hq; omega), if_neg (by decide)]
    obtain ⟨i1, i2⟩ := has1 ha0 ha1 hall n (j + 1) (by omega) k (by omega)
    rw [e2]
    refine ⟨fun h => ?_, fun h => ?_⟩
    · rw [if_pos (h j (by omega) (by omega))]
      exact i1 (fun i h1 h2 => h i (by omega) h2)
    · by_cases hq : okQ s l t j
      · rw [if_pos hq]
        refine i2 ?_
        obtain ⟨i, h1, h2, h3⟩ := h
        by_cases hij : i = j
        · subst hij; exact absurd hq h3
        · exact ⟨i, by omega, h2, h3⟩
      · rw [if_neg hq]
theorem has_loops (ha0 : 0 ≤ a) (ha1 : a ≤ 1073741824) (k : Nat) (hk : 60 ≤ k) : spec_HasChoice.l0 k a l t 0 s = some (hcL s l (digL s a) t t 0 true) := by
  by_cases hall : ∀ i, i < t → okP s l i
  · have key : ∀ r, (∀ k, 30 ≤ k → spec_HasChoice.l1 k a l t 0 s = some r) → spec_HasChoice.l0 k a l t 0 s = some r := fun r hr => has0_good s l hs a t ht ht3 hall r 30 hr t 0 (by omega) k (by omega)
    by_cases hq : ∀ i, i < t → okQ s l t i
    · rw [hcL_good' s l (digL s a) t t 0 true (fun j h1 h2 => ⟨hall j (by omega), hq j (by omega)⟩), Bool.true_and]
      exact key _ (fun k hk => (has1 s l hs a t ht ht3 ha0 ha1 hall t 0 (by omega) k (by omega)).1 (fun i _ h => hq i h))
    · obtain ⟨i, hi⟩ := Classical.not_forall.1 hq
      obtain ⟨hi1, hi2⟩ := Classical.not_imp.1 hi
      rw [hcL_bad' s l (digL s a) t t 0 true ⟨i, by omega, by omega, fun h => hi2 h.2⟩]
      exact key _ (fun k hk => (has1 s l hs a t ht ht3 ha0 ha1 hall t 0 (by omega) k (by omega)).2 ⟨i, by omega, hi1, hi2⟩)
  · obtain ⟨i, hi⟩ := Classical.not_forall.1 hall
    obtain ⟨hi1, hi2⟩ := Classical.not_imp.1 hi
    rw [hcL_bad' s l (digL s a) t t 0 true ⟨i, by omega, by omega, fun h => hi2 h.1⟩]
    exact has0_bad s l hs a t ht ht3 t 0 (by omega) ⟨i, by omega, hi1, hi2⟩ k (by omega)
end
theorem hasRows_ev (s : List Int) (hs : SpaceOk s) (a b : Int) (k : Nat) (hk : 60 ≤ k) : spec_l10Rows.f k s [a] b = some (if 0 ≤ a ∧ a < prodL s then (if 1 ≤ b ∧ b ≤ mn 3 (s.length : Int) then 0 else 2) else 2) := by
  obtain ⟨p1, p2⟩ := prodL_le8 s hs.2.2.1 hs.2.1
  obtain ⟨k, rfl⟩ : ∃ q, k = q + 2 := ⟨k - 2, by omega⟩
  have e1 : spec_l10Code.f (k + 2) s b = some (if 1 ≤ b ∧ b ≤ mn 3 (s.length : Int) then 0 else 2) := by
    unfold spec_l10Code.f
    rw [specIs_ev s _ (by omega), decide_eq_true hs, Option.bind_some, if_pos rfl]
    unfold spec_l01In.f
    by_cases h1 : b ≥ 1
    · rw [if_pos h1, Option.bind_some]
      by_cases h2 : b ≤ mn 3 (s.length : Int)
      · rw [decide_eq_true h2, if_pos rfl, if_pos ⟨h1, h2⟩]
      · rw [decide_eq_false h2, if_neg (by decide), if_neg (fun h => h2 h.2)]
    · rw [if_neg h1, Option.bind_some, if_neg (by decide), if_neg (fun h => h1 h.1)]
  obtain ⟨c, hc, hc1⟩ : ∃ c : Int, c = (if 1 ≤ b ∧ b ≤ mn 3 (s.length : Int) then 0 else 2) ∧ c ≠ 1 := ⟨_, rfl, by split <;> decide⟩
  unfold spec_l10Rows.f
  rw [e1, ← hc, Option.bind_some, if_neg hc1]
  simp only [spec_l10Rows.l0]
  rw [if_pos (by simp), if_pos (by omega), specN_ev s hs.2.2.1 hs.2.1 _ (by omega), Option.bind_some, w64 (i := prodL s - 1) (by omega) (by omega), show rd [a] 0 = a from rfl, in_ev, Option.bind_some]
  by_cases ha : 0 ≤ a ∧ a < prodL s
  · rw [decide_eq_true (by omega), if_pos rfl, w64 (by omega) (by omega), if_neg (by simp), if_neg (by simp), if_pos ha]
  · rw [decide_eq_false (by omega), if_neg (by decide), if_neg ha]
theorem strength_ev (s : List Int) (b : Int) : impl_isStrength.f s b = some (decide (1 ≤ b ∧ b ≤ mn 3 (s.length : Int))) := by
  unfold impl_isStrength.f impl_places.f
  by_cases h1 : b ≥ 1
  · rw [if_pos h1, Option.bind_some]; congr 1; rw [Bool.eq_iff_iff]; simp; omega
  · rw [if_neg h1]; congr 1; rw [Bool.eq_iff_iff]; simp; omega
theorem mn_le3 (n : Int) : mn 3 n ≤ 3 := by unfold mn; split <;> omega
theorem hasChoice_both (s l : List Int) (hl : l.length ≤ 1048576) (a : Int) : ∃ (z : Bool) (e : Int), ∀ k, 100 ≤ k → spec_HasChoice.f k s a l = some (z, e) ∧ impl_HasChoice.f k s a l = some (z, e) := by
  have hq : wrap64 ((l.length : Int) / 2) = ((l.length / 2 : Nat) : Int) := by rw [w64 (by omega) (by omega)]; omega
  have hq2 : wrap64 (2 * ((l.length / 2 : Nat) : Int)) = 2 * ((l.length / 2 : Nat) : Int) := w64 (by omega) (by omega)
  by_cases hs : SpaceOk s
  · obtain ⟨p1, p2⟩ := prodL_le8 s hs.2.2.1 hs.2.1
    have hok : okS s = true := (okS_iff s).2 ⟨hs.2.1, hs.2.2.1⟩
    by_cases hall : (0 ≤ a ∧ a < prodL s) ∧ (1 ≤ ((l.length / 2 : Nat) : Int) ∧ ((l.length / 2 : Nat) : Int) ≤ mn 3 (s.length : Int)) ∧ l.length % 2 = 0
    · obtain ⟨ha, hb, hm⟩ := hall
      have h3 := mn_le3 (s.length : Int)
      refine ⟨(hcL s l (digL s a) (l.length / 2) (l.length / 2) 0 true).1, (hcL s l (digL s a) (l.length / 2) (l.length / 2) 0 true).2, fun k hk => ⟨?_, ?_⟩⟩
      · unfold spec_HasChoice.f
        rw [hq, hasRows_ev s hs a _ k (by omega), if_pos ha, if_pos hb, Option.bind_some, if_pos rfl, hq2, if_pos (by omega), show (0 : Int) = ((0 : Nat) : Int) from rfl]
        exact has_loops s l hs a (l.length / 2) (by omega) (by omega) ha.1 (by omega) k (by omega)
      · unfold impl_HasChoice.f hcGo
        rw [word_one s hs a k (by omega), if_pos ha, Option.bind_some, if_pos rfl, if_pos hm, strength_ev, decide_eq_true hb, Option.bind_some, if_pos rfl, if_pos hok, if_pos ha.1, if_pos (by omega)]
    · refine ⟨false, 2, fun k hk => ⟨?_, ?_⟩⟩
      · unfold spec_HasChoice.f
        rw [hq, hasRows_ev s hs a _ k (by omega)]
        by_cases ha : 0 ≤ a ∧ a < prodL s
        · rw [if_pos ha]
          by_cases hb : 1 ≤ ((l.length / 2 : Nat) : Int) ∧ ((l.length / 2 : Nat) : Int) ≤ mn 3 (s.length : Int)
          · rw [if_pos hb, Option.bind_some, if_pos rfl, hq2, if_neg (fun h => hall ⟨ha, hb, by omega⟩)]
          · rw [if_neg hb]; rfl
        · rw [if_neg ha]; rfl
      · unfold impl_HasChoice.f
        rw [word_one s hs a k (by omega)]
        by_cases ha : 0 ≤ a ∧ a < prodL s
        · rw [if_pos ha, Option.bind_some, if_pos rfl]
          by_cases hm : l.length % 2 = 0
          · rw [if_pos hm, strength_ev, Option.bind_some, decide_eq_false (fun h => hall ⟨ha, h, hm⟩), if_neg (by decide)]
          · rw [if_neg hm]
        · rw [if_neg ha]; rfl
  · refine ⟨false, 1, fun k hk => ⟨?_, ?_⟩⟩
    · unfold spec_HasChoice.f spec_l10Rows.f spec_l10Code.f
      rw [specIs_ev s k (by omega), decide_eq_false hs]; rfl
    · unfold impl_HasChoice.f impl_wordCode.f
      rw [implIs_ev s k (by omega), decide_eq_false hs]; rfl
theorem FnExactHasChoice (l0 : List Int) (_ : l0.length ≤ maxLen) (_ : ∀ x ∈ l0, (Lit.int .i64 x).wf = true) (a : Int) (_ : (Lit.int .i64 a).wf = true) (l1 : List Int) (_ : l1.length ≤ maxLen) (_ : l1.length * 8 ≤ 140737488351232) (_ : ∀ x ∈ l1, (Lit.int .i64 x).wf = true) : ∃ k, laws_FnExactHasChoice.f k l0 a l1 = some true := by
  rename_i hm0 _ _ hm1 _ _
  unfold maxLen at hm0 hm1
  by_cases hl : (l1.length : Int) > 1048576
  · refine ⟨0, ?_⟩
    unfold laws_FnExactHasChoice.f
    rw [if_pos hl]
  have hl1 : l1.length ≤ 1048576 := by omega
  by_cases h0 : 1048576 < l0.length
  · obtain ⟨z, hz, hz0⟩ := sz_gt l0 h0 (by omega)
    refine ⟨0, ?_⟩
    unfold laws_FnExactHasChoice.f
    rw [if_neg hl, hz, Option.bind_some, if_pos hz0]
  have hl0 : l0.length ≤ 1048576 := by omega
  obtain ⟨z, hz, hz0⟩ := sz_le l0 hl0
  obtain ⟨v, e, hb⟩ := hasChoice_both l0 l1 hl1 a
  obtain ⟨k, hk⟩ : ∃ k : Nat, 1100000 ≤ k := ⟨1100000, Nat.le_refl _⟩
  refine ⟨k + 1, ?_⟩
  unfold laws_FnExactHasChoice.f
  rw [if_neg hl, hz, Option.bind_some, if_neg hz0, toSp_ev l0 hl0 (k+1) (by omega), Option.bind_some, to_ev l1 hl1 (k+1) (by omega)]
  simp only [Option.bind_some]
  rw [(hb (k+1) (by omega)).1, (hb (k+1) (by omega)).2]
  simp only [Option.bind_some, bne_self_eq_false, laws_FnExactHasChoice.j0, Bool.false_eq_true, if_false]
  rw [toSp_ev l0 hl0 k (by omega), Option.bind_some, eqSp_ev l0 (by omega) k (by omega), Option.bind_some, if_pos rfl, to_ev l1 hl1 k (by omega), Option.bind_some, eq_ev l1 (by omega) k (by omega)]
  rfl

end Go.Proofs.Ythjkdnneagnejaa.Pure
