/- Pair rows have the strength 2 and are as many as the pair number; rows of a strength are at least as many as its bound. For every code. -/
import Derived.Test.YtbfhhjekonafdaaPFnPairRowsx0
import Derived.Test.YtbfhhjekonafdaaPFnPairRowsx1
import Derived.Test.YtbfhhjekonafdaaPFnPairRowsx2
import Derived.Test.YtbfhhjekonafdaaPFnPairRowsx3
import Derived.Test.YtbfhhjekonafdaaPFnPairRowsx4
import Derived.Test.YtbfhhjekonafdaaPFnPairRowsx5
import Derived.Test.YtbfhhjekonafdaaPFnPairRowsx6
import Derived.Test.YtbfhhjekonafdaaPFnPairRowsx7
import Derived.Test.YtbfhhjekonafdaaPFnPairRowsx8
import Derived.Test.YtbfhhjekonafdaaPFnPairRowsx9
import Derived.Test.YtbfhhjekonafdaaPFnPairRowsx10
import Derived.Test.YtbfhhjekonafdaaPFnPairRowsx11
import Derived.Test.YtbfhhjekonafdaaPFnPairRowsx12
import Derived.Test.YtbfhhjekonafdaaPFnPairRowsx13
import Derived.Test.YtbfhhjekonafdaaPFnPairRowsx14
import Derived.Test.YtbfhhjekonafdaaPFnPairRowsx15
import Derived.KernelRfl
namespace Go.Proofs.Ytbfhhjekonafdaa.Pure
open Go Go.RowKit Go.Proofs.Ytbfhhjekonafdaa.PFnPairRows Go.Proofs.YtbfhhjekonafdaaW.PrintWords Go.Proofs.YtbfhhjekonafdaaW.PrintLast Go.Proofs.YtbfhhjekonafdaaW.PrintMore Go.Proofs.Ytbfhhjekonafdaa.DG
set_option linter.unusedVariables false
set_option linter.unusedSimpArgs false
theorem w64 {i : Int} (h0 : -9223372036854775808 ≤ i) (h : i < 9223372036854775808) : wrap64 i = i := by unfold wrap64; omega
theorem u64 {i : Int} (h0 : 0 ≤ i) (h : i < 9223372036854775808) : IntKind.u64.wrap i = i := by
  have e : IntKind.u64.wrap i = i % 18446744073709551616 := by simp [IntKind.wrap, IntKind.bits, IntKind.signed]
  rw [e]; omega
theorem rd_mid (A B : List Int) (b : Int) : rd (A ++ b :: B) (A.length : Int) = b := by simp [rd]
theorem rd_nat (M : List Int) (i : Nat) (h : i < M.length) : rd M (i : Int) = M[i] := by simp [rd, List.getElem?_eq_getElem h]
def prodL : List Int → Int
  | [] => 1
  | q :: r => q * prodL r
theorem prodL_snoc (l : List Int) (q : Int) : prodL (l ++ [q]) = prodL l * q := by
  induction l with
  | nil => simp [prodL]
  | cons a l ih => simp only [List.cons_append, prodL, ih]; rw [Int.mul_assoc]
theorem prodL_bound : ∀ (l : List Int), (∀ q ∈ l, 2 ≤ q ∧ q ≤ 4) → 1 ≤ prodL l ∧ prodL l ≤ (4 : Int) ^ l.length
  | [], _ => by simp [prodL]
  | q :: r, h => by
    have h1 := h q (by simp)
    obtain ⟨h2, h3⟩ := prodL_bound r (fun x hx => h x (by simp [hx]))
    simp only [prodL, List.length_cons, Int.pow_succ]
    have hp : (0 : Int) ≤ 4 ^ r.length := Int.le_of_lt (Int.pow_pos (by omega))
    constructor
    · have : 1 * 1 ≤ q * prodL r := Int.mul_le_mul (by omega) h2 (by omega) (by omega)
      omega
    · rw [Int.mul_comm (4 ^ r.length) 4]
      exact Int.mul_le_mul h1.2 h3 (by omega) (by omega)
theorem prodL_le8 (l : List Int) (h : ∀ q ∈ l, 2 ≤ q ∧ q ≤ 4) (hl : l.length ≤ 8) : 1 ≤ prodL l ∧ prodL l ≤ 65536 := by
  obtain ⟨h1, h2⟩ := prodL_bound l h
  refine ⟨h1, Int.le_trans h2 ?_⟩
  have : ∀ n, n < 9 → (4 : Int) ^ n ≤ 65536 := by decide
  exact this _ (by omega)
/-- What a space's sizes are. -/
def SpaceOk (l : List Int) : Prop := 1 ≤ l.length ∧ l.length ≤ 8 ∧ (∀ q ∈ l, 2 ≤ q ∧ q ≤ 4) ∧ prodL l ≤ 1024

theorem specN_l : ∀ (B A : List Int), (∀ q ∈ A ++ B, 2 ≤ q ∧ q ≤ 4) → (A ++ B).length ≤ 8 → ∀ k, B.length < k → spec_l01N.l0 k (prodL A) A.length (A ++ B) = some (prodL (A ++ B))
  | [], A, h, hl, k, hk => by
    obtain ⟨k, rfl⟩ : ∃ q, k = q + 1 := ⟨k - 1, by simp at hk; omega⟩
    simp only [spec_l01N.l0]
    rw [if_neg (by simp)]; simp
  | b :: B, A, h, hl, k, hk => by
    obtain ⟨k, rfl⟩ : ∃ q, k = q + 1 := ⟨k - 1, by simp at hk; omega⟩
    have hb := h b (by simp)
    have hA := prodL_le8 (A ++ [b]) (fun q hq => h q (by simp at hq ⊢; rcases hq with hq | hq <;> simp [hq])) (by simp at hl ⊢; omega)
    rw [prodL_snoc] at hA
    simp only [spec_l01N.l0]
    simp only [List.length_append, List.length_cons] at hl hk
    rw [if_pos (by simp; omega), if_pos (by omega), rd_mid, w64 (by omega) (by omega), w64 (by omega) (by omega), ← prodL_snoc, show (A.length : Int) + 1 = ((A ++ [b]).length : Int) by simp]
    have := specN_l B (A ++ [b]) (by simpa using h) (by simp; omega) k (by omega)
    simpa using this
theorem specN_ev (l : List Int) (h : ∀ q ∈ l, 2 ≤ q ∧ q ≤ 4) (hl : l.length ≤ 8) : ∀ k, 10 ≤ k → spec_l01N.f k l = some (prodL l) := by
  intro k hk
  unfold spec_l01N.f
  exact specN_l l [] h hl k (by omega)

theorem specIs_l : ∀ (B A : List Int), (∀ q ∈ A, 2 ≤ q ∧ q ≤ 4) → (A ++ B).length ≤ 8 → ∀ k, B.length + 10 < k → spec_l01Is.l0 k A.length (A ++ B) = some (decide (∀ q ∈ A ++ B, 2 ≤ q ∧ q ≤ 4) && decide (prodL (A ++ B) ≤ 1024))
  | [], A, h, hl, k, hk => by
    obtain ⟨k, rfl⟩ : ∃ q, k = q + 1 := ⟨k - 1, by simp at hk; omega⟩
    simp only [List.append_nil] at hl ⊢
    simp only [spec_l01Is.l0]
    simp only [List.length_nil] at hk
    rw [if_neg (by omega), specN_ev A h hl k (by omega), Option.bind_some]
    simp only [decide_eq_true h, Bool.true_and]
  | b :: B, A, h, hl, k, hk => by
    obtain ⟨k, rfl⟩ : ∃ q, k = q + 1 := ⟨k - 1, by simp at hk; omega⟩
    simp only [spec_l01Is.l0]
    simp only [List.length_append, List.length_cons] at hl hk
    unfold spec_l01In.f
    rw [if_pos (by simp; omega), if_pos (by omega), rd_mid]
    by_cases hb : 2 ≤ b ∧ b ≤ 4
    · rw [if_pos hb.1, Option.bind_some, if_pos (by simpa using hb.2), w64 (by omega) (by omega), show (A.length : Int) + 1 = ((A ++ [b]).length : Int) by simp]
      have := specIs_l B (A ++ [b]) (fun q hq => by simp at hq; rcases hq with hq | rfl; exact h q hq; exact hb) (by simp; omega) k (by omega)
      rw [List.append_assoc, List.singleton_append] at this
      rw [this]
    · have hd : decide (∀ q ∈ A ++ b :: B, 2 ≤ q ∧ q ≤ 4) = false := by
        rw [decide_eq_false_iff_not]; intro hh; exact hb (hh b (by simp))
      rw [hd, Bool.false_and]
      by_cases h1 : b ≥ 2
      · rw [if_pos h1, Option.bind_some, if_neg (by simp; omega)]
      · rw [if_neg h1, Option.bind_some]; rfl
instance (l : List Int) : Decidable (SpaceOk l) := by unfold SpaceOk; infer_instance
theorem specIs_ev (l : List Int) : ∀ k, 30 ≤ k → spec_l01Is.f k l = some (decide (SpaceOk l)) := by
  intro k hk
  unfold spec_l01Is.f
  by_cases h1 : 1 ≤ l.length ∧ l.length ≤ 8
  · have e : spec_l01In.f (l.length : Int) 1 8 = some true := by
      unfold spec_l01In.f; rw [if_pos (by omega)]; simp; omega
    rw [e, Option.bind_some, if_pos rfl]
    have := specIs_l l [] (by simp) (by simpa using h1.2) k (by omega)
    simp only [List.nil_append, List.length_nil] at this
    rw [show (0 : Int) = ((0 : Nat) : Int) from rfl, this]
    congr 1
    rw [Bool.eq_iff_iff]
    simp [SpaceOk, h1]
  · have e : spec_l01In.f (l.length : Int) 1 8 = some false := by
      unfold spec_l01In.f
      by_cases h2 : (l.length : Int) ≥ 1
      · rw [if_pos h2]; simp; omega
      · rw [if_neg h2]
    have hd : decide (SpaceOk l) = false := by
      rw [decide_eq_false_iff_not]; intro hh; exact h1 ⟨hh.1, hh.2.1⟩
    rw [e, Option.bind_some, hd]; rfl

theorem implIs_l : ∀ (B A : List Int), (∀ q ∈ A, 2 ≤ q ∧ q ≤ 4) → (A ++ B).length ≤ 8 → ∀ k, B.length < k → impl_IsSpace.l0 k (prodL A) (A ++ B) (A ++ B).length A.length = some (decide (∀ q ∈ A ++ B, 2 ≤ q ∧ q ≤ 4) && decide (prodL (A ++ B) ≤ 1024))
  | [], A, h, hl, k, hk => by
    obtain ⟨k, rfl⟩ : ∃ q, k = q + 1 := ⟨k - 1, by simp at hk; omega⟩
    simp only [List.append_nil] at hl ⊢
    simp only [impl_IsSpace.l0]
    rw [if_neg (by omega)]
    simp only [decide_eq_true h, Bool.true_and]
  | b :: B, A, h, hl, k, hk => by
    obtain ⟨k, rfl⟩ : ∃ q, k = q + 1 := ⟨k - 1, by simp at hk; omega⟩
    simp only [impl_IsSpace.l0]
    simp only [List.length_append, List.length_cons] at hl hk
    rw [if_pos (by simp; omega), if_pos (by omega), if_pos (by simp; omega), rd_mid]
    by_cases hb : 2 ≤ b ∧ b ≤ 4
    · have hA := prodL_le8 (A ++ [b]) (fun q hq => by simp at hq; rcases hq with hq | rfl; exact h q hq; exact hb) (by simp; omega)
      rw [prodL_snoc] at hA
      rw [if_neg (by omega), if_neg (by omega), w64 (by omega) (by omega), w64 (by omega) (by omega), ← prodL_snoc, show (A.length : Int) + 1 = ((A ++ [b]).length : Int) by simp]
      have := implIs_l B (A ++ [b]) (fun q hq => by simp at hq; rcases hq with hq | rfl; exact h q hq; exact hb) (by simp; omega) k (by omega)
      rw [List.append_assoc, List.singleton_append] at this
      rw [this]
    · have hd : decide (∀ q ∈ A ++ b :: B, 2 ≤ q ∧ q ≤ 4) = false := by
        rw [decide_eq_false_iff_not]; intro hh; exact hb (hh b (by simp))
      rw [hd, Bool.false_and]
      by_cases h1 : b < 2
      · rw [if_pos h1]
      · rw [if_neg h1, if_pos (by omega)]
theorem implIs_ev (l : List Int) : ∀ k, 30 ≤ k → impl_IsSpace.f k l = some (decide (SpaceOk l)) := by
  intro k hk
  obtain ⟨k, rfl⟩ : ∃ q, k = q + 1 := ⟨k - 1, by omega⟩
  unfold impl_IsSpace.f
  by_cases h1 : 1 ≤ l.length ∧ l.length ≤ 8
  · have e : decide ((l.length : Int) > 8) = false := by simp; omega
    rw [if_neg (by omega), e]
    simp only [impl_IsSpace.j0]
    rw [if_neg (by decide)]
    have := implIs_l l [] (by simp) (by simpa using h1.2) k (by omega)
    simp only [List.nil_append, List.length_nil, prodL] at this
    rw [show (0 : Int) = ((0 : Nat) : Int) from rfl, this]
    congr 1
    rw [Bool.eq_iff_iff]
    simp [SpaceOk, h1]
  · have hd : decide (SpaceOk l) = false := by
      rw [decide_eq_false_iff_not]; intro hh; exact h1 ⟨hh.1, hh.2.1⟩
    rw [hd]
    by_cases h2 : (l.length : Int) < 1
    · rw [if_pos h2]; simp [impl_IsSpace.j0]
    · have e : decide ((l.length : Int) > 8) = true := by simp; omega
      rw [if_neg h2, e]; simp [impl_IsSpace.j0]

theorem implCount_l : ∀ (B A : List Int), (∀ q ∈ A ++ B, 2 ≤ q ∧ q ≤ 4) → (A ++ B).length ≤ 8 → ∀ k, B.length < k → impl_count.l0 k (prodL A) (A ++ B) (A ++ B).length A.length = some (prodL (A ++ B))
  | [], A, h, hl, k, hk => by
    obtain ⟨k, rfl⟩ : ∃ q, k = q + 1 := ⟨k - 1, by simp at hk; omega⟩
    simp only [impl_count.l0]
    rw [if_neg (by simp)]; simp
  | b :: B, A, h, hl, k, hk => by
    obtain ⟨k, rfl⟩ : ∃ q, k = q + 1 := ⟨k - 1, by simp at hk; omega⟩
    have hb := h b (by simp)
    have hA := prodL_le8 (A ++ [b]) (fun q hq => h q (by simp at hq ⊢; rcases hq with hq | hq <;> simp [hq])) (by simp at hl ⊢; omega)
    rw [prodL_snoc] at hA
    simp only [impl_count.l0]
    simp only [List.length_append, List.length_cons] at hl hk
    rw [if_pos (by simp; omega), if_pos (by omega), if_pos (by simp; omega), rd_mid, w64 (by omega) (by omega), w64 (by omega) (by omega), ← prodL_snoc, show (A.length : Int) + 1 = ((A ++ [b]).length : Int) by simp]
    have := implCount_l B (A ++ [b]) (by simpa using h) (by simp; omega) k (by omega)
    simpa using this
theorem implCount_ev (l : List Int) (h : ∀ q ∈ l, 2 ≤ q ∧ q ≤ 4) (hl : l.length ≤ 8) : ∀ k, 10 ≤ k → impl_count.f k l = some (prodL l) := by
  intro k hk
  unfold impl_count.f
  exact implCount_l l [] h hl k (by omega)

theorem areWords_l (n : Int) (l : List Int) (hl : l.length ≤ 4611686018427387904) : ∀ d i : Nat, i + d = l.length → ∃ b : Bool, (b = true ↔ ∀ j (hj : j < l.length), i ≤ j → 0 ≤ l[j] ∧ l[j] < n) ∧ ∀ k, d + 1 ≤ k → impl_areWords.l0 k n l l.length i = some b
  | 0, i, e => by
    refine ⟨true, ⟨fun _ j hj hi => by omega, fun _ => rfl⟩, fun k hk => ?_⟩
    obtain ⟨k, rfl⟩ : ∃ q, k = q + 1 := ⟨k - 1, by omega⟩
    simp only [impl_areWords.l0]; rw [if_neg (by omega)]
  | d+1, i, e => by
    have hi : i < l.length := by omega
    have hr := rd_nat l i hi
    have hw : wrap64 ((i : Int) + 1) = ((i + 1 : Nat) : Int) := by rw [w64 (by omega) (by omega)]; omega
    obtain ⟨b, hb, g⟩ := areWords_l n l hl d (i+1) (by omega)
    by_cases hin : 0 ≤ l[i] ∧ l[i] < n
    · refine ⟨b, ⟨fun h j hj hij => ?_, fun h => hb.2 fun j hj hij => h j hj (by omega)⟩, fun k hk => ?_⟩
      · by_cases hji : j = i
        · subst hji; exact hin
        · exact hb.1 h j hj (by omega)
      · obtain ⟨k, rfl⟩ : ∃ q, k = q + 1 := ⟨k - 1, by omega⟩
        simp only [impl_areWords.l0]
        rw [if_pos (by omega), if_pos (by omega), if_pos (by omega), hr, if_neg (by omega), if_neg (by omega), hw]
        exact g k (by omega)
    · refine ⟨false, ⟨fun h => absurd h (by decide), fun h => absurd (h i hi (by omega)) hin⟩, fun k hk => ?_⟩
      obtain ⟨k, rfl⟩ : ∃ q, k = q + 1 := ⟨k - 1, by omega⟩
      simp only [impl_areWords.l0]
      rw [if_pos (by omega), if_pos (by omega), if_pos (by omega), hr]
      by_cases h1 : l[i] < 0
      · rw [if_pos h1]
      · rw [if_neg h1, if_pos (by omega)]
theorem areWords_ev (s : List Int) (hs : SpaceOk s) (l : List Int) (hl : l.length ≤ 4611686018427387904) : ∃ b : Bool, (b = true ↔ ∀ j (hj : j < l.length), 0 ≤ l[j] ∧ l[j] < prodL s) ∧ ∀ k, l.length + 12 ≤ k → impl_areWords.f k s l = some b := by
  obtain ⟨b, h, g⟩ := areWords_l (prodL s) l hl l.length 0 (by omega)
  refine ⟨b, ⟨fun hb j hj => h.1 hb j hj (by omega), fun hc => h.2 fun j hj _ => hc j hj⟩, fun k hk => ?_⟩
  unfold impl_areWords.f
  rw [implCount_ev s hs.2.2.1 hs.2.1 k (by omega), Option.bind_some]
  exact g k (by omega)

theorem rowsNil (s : List Int) (b : Int) (k : Nat) (hk : 60 ≤ k) : impl_rowsCode.f k s [] b = some (if SpaceOk s then (if 1 ≤ b ∧ b ≤ mn 3 (s.length : Int) then 0 else 2) else 1) := by
  unfold impl_rowsCode.f
  rw [implIs_ev s k (by omega)]
  by_cases hs : SpaceOk s
  · obtain ⟨c, hc, g⟩ := areWords_ev s hs [] (by simp)
    have : c = true := hc.2 (fun j hj => by simp at hj)
    subst this
    rw [decide_eq_true hs, Option.bind_some, if_pos rfl, if_neg (by simp), g k (by simp; omega), Option.bind_some, if_pos rfl, if_pos hs]
    have e : impl_isStrength.f s b = some (decide (1 ≤ b ∧ b ≤ mn 3 (s.length : Int))) := by
      unfold impl_isStrength.f impl_places.f
      by_cases h1 : b ≥ 1
      · rw [if_pos h1, Option.bind_some]; congr 1; rw [Bool.eq_iff_iff]; simp; omega
      · rw [if_neg h1]; congr 1; rw [Bool.eq_iff_iff]; simp; omega
    rw [e, Option.bind_some]
    by_cases hb : 1 ≤ b ∧ b ≤ mn 3 (s.length : Int)
    · rw [decide_eq_true hb, if_pos rfl, if_pos hb]
    · rw [decide_eq_false hb, if_neg (by decide), if_neg hb]
  · rw [decide_eq_false hs, Option.bind_some, if_neg (by decide), if_neg hs]
theorem codeNil (s : List Int) (b : Int) (k : Nat) (hk : 60 ≤ k) : spec_l10Code.f k s b = some (if SpaceOk s then (if 1 ≤ b ∧ b ≤ mn 3 (s.length : Int) then 0 else 2) else 1) := by
  unfold spec_l10Code.f
  rw [specIs_ev s k (by omega)]
  by_cases hs : SpaceOk s
  · rw [decide_eq_true hs, Option.bind_some, if_pos rfl, if_pos hs]
    have e : spec_l01In.f b 1 (mn 3 (s.length : Int)) = some (decide (1 ≤ b ∧ b ≤ mn 3 (s.length : Int))) := by
      unfold spec_l01In.f
      by_cases h1 : b ≥ 1
      · rw [if_pos h1]; congr 1; rw [Bool.eq_iff_iff]; simp; omega
      · rw [if_neg h1]; congr 1; rw [Bool.eq_iff_iff]; simp; omega
    rw [e, Option.bind_some]
    by_cases hb : 1 ≤ b ∧ b ≤ mn 3 (s.length : Int)
    · rw [decide_eq_true hb, if_pos rfl, if_pos hb]
    · rw [decide_eq_false hb, if_neg (by decide), if_neg hb]
  · rw [decide_eq_false hs, Option.bind_some, if_neg (by decide), if_neg hs]

theorem rdL1_nat (x : List (List Int)) (j : Nat) (h : j < x.length) : rd_L2 x (j : Int) = x[j] := by simp [rd_L2, List.getElem?_eq_getElem h]

def Ev {α : Type} (f : Nat → Option α) (r : α) : Prop := ∃ K, ∀ k, K ≤ k → f k = some r
theorem Ev.step {α : Type} {f g : Nat → Option α} {r : α} (h : Ev g r) (e : ∀ k, f (k + 1) = g k) : Ev f r := by
  obtain ⟨K, hK⟩ := h
  refine ⟨K + 1, fun k hk => ?_⟩
  obtain ⟨k, rfl⟩ : ∃ q, k = q + 1 := ⟨k - 1, by omega⟩
  rw [e]; exact hK k (by omega)
theorem Ev.same {α : Type} {f g : Nat → Option α} {r : α} (h : Ev g r) (e : ∀ k, f k = g k) : Ev f r := by
  obtain ⟨K, hK⟩ := h
  exact ⟨K, fun k hk => by rw [e]; exact hK k hk⟩
theorem Ev.bind {α β : Type} {f : Nat → Option α} {v : α} {g : Nat → α → Option β} {r : β} (hf : Ev f v) (hg : Ev (fun k => g k v) r) : Ev (fun k => (f k).bind (g k)) r := by
  obtain ⟨K, hK⟩ := hf
  obtain ⟨M, hM⟩ := hg
  refine ⟨K + M, fun k hk => ?_⟩
  show (f k).bind (g k) = _
  rw [hK k (by omega), Option.bind_some]; exact hM k (by omega)
theorem Ev.of {α : Type} (v : α) : Ev (fun _ => some v) v := ⟨0, fun _ _ => rfl⟩

theorem flat_len {α β : Type} (f : α → List β) (M : Nat) : ∀ (l : List α), (∀ x ∈ l, (f x).length ≤ M) → (l.flatMap f).length ≤ l.length * M
  | [], _ => by simp
  | x :: l, h => by
    have h1 := flat_len f M l fun y hy => h y (by simp [hy])
    have h2 := h x (by simp)
    rw [List.flatMap_cons, List.length_append, List.length_cons, Nat.succ_mul]; omega
theorem ownl (l : List Int) (h : l.length ≤ 1000000) : spec_l01Own.f l = some l := by
  unfold spec_l01Own.f
  rw [Option.bind_some, if_pos (by simp; omega), List.nil_append]

def rowsCd (s l : List Int) (b : Int) : Int := if SpaceOk s then (if l.length ≤ 200 ∧ (∀ r ∈ l, 0 ≤ r ∧ r < prodL s) ∧ 1 ≤ b ∧ b ≤ mn 3 (s.length : Int) then 0 else 2) else 1
theorem rowsCd_zero {s l : List Int} {b : Int} (h : rowsCd s l b = 0) : SpaceOk s ∧ l.length ≤ 200 ∧ (∀ r ∈ l, 0 ≤ r ∧ r < prodL s) ∧ 1 ≤ b ∧ b ≤ mn 3 (s.length : Int) := by
  unfold rowsCd at h
  by_cases hs : SpaceOk s
  · rw [if_pos hs] at h
    by_cases h2 : l.length ≤ 200 ∧ (∀ r ∈ l, 0 ≤ r ∧ r < prodL s) ∧ 1 ≤ b ∧ b ≤ mn 3 (s.length : Int)
    · exact ⟨hs, h2⟩
    · rw [if_neg h2] at h; omega
  · rw [if_neg hs] at h; omega
theorem strong_ev (s : List Int) (b : Int) : impl_isStrength.f s b = some (decide (1 ≤ b ∧ b ≤ mn 3 (s.length : Int))) := by
  unfold impl_isStrength.f impl_places.f
  by_cases h1 : b ≥ 1
  · rw [if_pos h1, Option.bind_some]; congr 1; rw [Bool.eq_iff_iff]; simp; omega
  · rw [if_neg h1]; congr 1; rw [Bool.eq_iff_iff]; simp; omega
theorem mem_iff_get (l : List Int) (Q : Int → Prop) : (∀ j (hj : j < l.length), Q l[j]) ↔ ∀ r ∈ l, Q r :=
  ⟨fun h r hr => by obtain ⟨j, hj, rfl⟩ := List.mem_iff_getElem.1 hr; exact h j hj, fun h j hj => h _ (List.getElem_mem hj)⟩
theorem rowsI_ev (s l : List Int) (b : Int) (hl : l.length ≤ 1048576) (k : Nat) (hk : l.length + 60 ≤ k) : impl_rowsCode.f k s l b = some (rowsCd s l b) := by
  unfold impl_rowsCode.f rowsCd
  rw [implIs_ev s k (by omega)]
  by_cases hs : SpaceOk s
  · obtain ⟨c, hc, g⟩ := areWords_ev s hs l (by omega)
    rw [mem_iff_get l fun x => 0 ≤ x ∧ x < prodL s] at hc
    rw [decide_eq_true hs, Option.bind_some, if_pos rfl, if_pos hs]
    by_cases h2 : l.length ≤ 200
    · rw [if_neg (by omega), g k (by omega), Option.bind_some]
      by_cases hcc : c = true
      · rw [if_pos hcc, strong_ev, Option.bind_some]
        by_cases hb : 1 ≤ b ∧ b ≤ mn 3 (s.length : Int)
        · rw [decide_eq_true hb, if_pos rfl, if_pos ⟨h2, hc.1 hcc, hb⟩]
        · rw [decide_eq_false hb, if_neg (by decide), if_neg fun h => hb h.2.2]
      · rw [if_neg hcc, if_neg fun h => hcc (hc.2 h.2.1)]
    · rw [if_pos (by omega), if_neg fun h => h2 h.1]
  · rw [decide_eq_false hs, Option.bind_some, if_neg (by decide), if_neg hs]
theorem rowsS_l (s l : List Int) (hs : SpaceOk s) (hl : l.length ≤ 1048576) (c : Int) : ∀ d i : Nat, i + d = l.length → ∀ k, d + 40 ≤ k → spec_l10Rows.l0 k l c i s = some (if (∀ r ∈ l.drop i, 0 ≤ r ∧ r < prodL s) ∧ l.length ≤ 200 then c else 2)
  | 0, i, e, k, hk => by
    obtain ⟨k, rfl⟩ : ∃ q, k = q + 1 := ⟨k - 1, by omega⟩
    simp only [spec_l10Rows.l0]
    rw [if_neg (by omega), List.drop_of_length_le (by omega)]
    by_cases h2 : l.length ≤ 200
    · rw [if_neg (by omega), if_pos ⟨fun r hr => by simp at hr, h2⟩]
    · rw [if_pos (by omega), if_neg fun h => h2 h.2]
  | d + 1, i, e, k, hk => by
    obtain ⟨k, rfl⟩ : ∃ q, k = q + 1 := ⟨k - 1, by omega⟩
    have hi : i < l.length := by omega
    have hP := prodL_le8 s hs.2.2.1 hs.2.1
    have hin : spec_l01In.f l[i] 0 (prodL s - 1) = some (decide (0 ≤ l[i] ∧ l[i] < prodL s)) := by
      unfold spec_l01In.f
      by_cases h1 : l[i] ≥ 0
      · rw [if_pos h1]; congr 1; rw [Bool.eq_iff_iff]; simp; omega
      · rw [if_neg h1]; congr 1; rw [Bool.eq_iff_iff]; simp; omega
    simp only [spec_l10Rows.l0]
    rw [if_pos (by omega), if_pos (by omega), specN_ev s hs.2.2.1 hs.2.1 k (by omega), Option.bind_some, rd_nat l i hi, w64 (i := prodL s - 1) (by omega) (by omega), hin, Option.bind_some, w64 (by omega) (by omega), show (i : Int) + 1 = ((i + 1 : Nat) : Int) by omega]
    rw [List.drop_eq_getElem_cons hi]
    by_cases hq : 0 ≤ l[i] ∧ l[i] < prodL s
    · rw [decide_eq_true hq, if_pos rfl, rowsS_l s l hs hl c d (i + 1) (by omega) k (by omega)]
      congr 1
      by_cases h3 : (∀ r ∈ l.drop (i + 1), 0 ≤ r ∧ r < prodL s) ∧ l.length ≤ 200
      · rw [if_pos h3, if_pos ⟨fun r hr => (List.mem_cons.1 hr).elim (fun e => e ▸ hq) (h3.1 r), h3.2⟩]
      · rw [if_neg h3, if_neg fun h => h3 ⟨fun r hr => h.1 r (List.mem_cons_of_mem _ hr), h.2⟩]
    · rw [decide_eq_false hq, if_neg (by decide), if_neg fun h => hq (h.1 _ List.mem_cons_self)]
theorem rowsS_ev (s l : List Int) (b : Int) (hl : l.length ≤ 1048576) (k : Nat) (hk : l.length + 80 ≤ k) : spec_l10Rows.f k s l b = some (rowsCd s l b) := by
  unfold spec_l10Rows.f rowsCd
  rw [codeNil s b k (by omega), Option.bind_some]
  by_cases hs : SpaceOk s
  · rw [if_pos hs, if_pos hs]
    rw [if_neg (by split <;> omega)]
    have hz := rowsS_l s l hs hl (if 1 ≤ b ∧ b ≤ mn 3 (s.length : Int) then 0 else 2) l.length 0 (by omega) k (by omega)
    rw [List.drop_zero] at hz
    refine hz.trans ?_
    congr 1
    by_cases h1 : 1 ≤ b ∧ b ≤ mn 3 (s.length : Int)
    · rw [if_pos h1]
      by_cases h2 : (∀ r ∈ l, 0 ≤ r ∧ r < prodL s) ∧ l.length ≤ 200
      · rw [if_pos h2, if_pos ⟨h2.2, h2.1, h1⟩]
      · rw [if_neg h2, if_neg fun h => h2 ⟨h.2.1, h.1⟩]
    · rw [if_neg h1, if_neg (fun h : l.length ≤ 200 ∧ (∀ r ∈ l, 0 ≤ r ∧ r < prodL s) ∧ 1 ≤ b ∧ b ≤ mn 3 (s.length : Int) => h1 h.2.2)]
      split <;> rfl
  · rw [if_neg hs, if_pos rfl, if_neg hs]

theorem prodI_eq : ∀ l : List Int, prodI l = prodL l
  | [] => rfl
  | q :: r => by simp [prodI, prodL, prodI_eq r]

theorem set_rep (m : Nat) (x : Int) (R : List Int) : (List.replicate (m + 1) 0 ++ R).set m x = List.replicate m 0 ++ x :: R := by
  rw [List.replicate_succ', List.append_assoc, List.set_append]
  simp
theorem digL_drop (s : List Int) (w : Int) (m : Nat) (hm : m < s.length) : digL (s.drop m) w = (w / prodI (s.drop (m + 1)) % rd s (m : Int)) :: digL (s.drop (m + 1)) w := by
  rw [List.drop_eq_getElem_cons hm]
  have e : rd s (m : Int) = s[m] := by simp [rd, List.getElem?_eq_getElem hm]
  rw [e]; rfl
theorem size_at (s : List Int) (hs : ∀ q ∈ s, 2 ≤ q ∧ q ≤ 4) (m : Nat) (hm : m < s.length) : 2 ≤ rd s (m : Int) ∧ rd s (m : Int) ≤ 4 := by
  have e : rd s (m : Int) = s[m] := by simp [rd, List.getElem?_eq_getElem hm]
  rw [e]; exact hs _ (List.getElem_mem hm)
theorem div_nonneg' (s : List Int) (w : Int) (hs : ∀ q ∈ s, 2 ≤ q ∧ q ≤ 4) (hw0 : 0 ≤ w) (m : Nat) : 0 ≤ w / prodI (s.drop m) ∧ w / prodI (s.drop m) ≤ w := by
  have := prodI_pos (s.drop m) (fun q h => hs q (List.mem_of_mem_drop h))
  exact ⟨Int.ediv_nonneg hw0 (by omega), Int.ediv_le_self _ hw0⟩
theorem specDigits_l (s : List Int) (hs : ∀ q ∈ s, 2 ≤ q ∧ q ≤ 4) (h8 : s.length ≤ 8) (w : Int) (hw0 : 0 ≤ w) (hw1 : w ≤ 1073741824) : ∀ m : Nat, m ≤ s.length → ∀ k, m < k → spec_l01Digits.l0 k (w / prodI (s.drop m)) (List.replicate m 0 ++ digL (s.drop m) w) ((m : Int) - 1) s = some (digL s w)
  | 0, _, k, hk => by
    obtain ⟨k, rfl⟩ : ∃ q, k = q + 1 := ⟨k - 1, by omega⟩
    simp only [spec_l01Digits.l0]
    rw [if_neg (by omega)]; simp
  | m + 1, hm, k, hk => by
    obtain ⟨k, rfl⟩ : ∃ q, k = q + 1 := ⟨k - 1, by omega⟩
    have hq := size_at s hs m (by omega)
    obtain ⟨h1, h2⟩ := div_nonneg' s w hs hw0 (m + 1)
    have hlen : ((List.replicate (m + 1) 0 ++ digL (s.drop (m + 1)) w).length : Int) = (s.length : Int) := by
      rw [List.length_append, List.length_replicate, digL_len, List.length_drop]; omega
    have hd := div_prod s w m (by omega) hs
    obtain ⟨h3, h4⟩ := div_nonneg' s w hs hw0 m
    simp only [spec_l01Digits.l0]
    rw [show ((m + 1 : Nat) : Int) - 1 = (m : Int) by omega, if_pos (by omega), if_pos (by omega), if_pos (by omega), if_neg (by omega), if_pos (by omega), Int.toNat_natCast, Int.tdiv_eq_ediv_of_nonneg h1, Int.tmod_eq_emod_of_nonneg h1, hd, w64 (by omega) (by omega), w64 (by omega) (by omega), set_rep, ← digL_drop s w m (by omega)]
    exact specDigits_l s hs h8 w hw0 hw1 m (by omega) k (by omega)
theorem specDigits_ev (s : List Int) (hs : ∀ q ∈ s, 2 ≤ q ∧ q ≤ 4) (h8 : s.length ≤ 8) (w : Int) (hw0 : 0 ≤ w) (hw1 : w ≤ 1073741824) (k : Nat) (hk : 10 ≤ k) : spec_l01Digits.f k s w = some (digL s w) := by
  unfold spec_l01Digits.f
  rw [if_pos (by omega), if_pos (by omega), Int.toNat_natCast]
  have h := specDigits_l s hs h8 w hw0 hw1 s.length (Nat.le_refl _) k (by omega)
  rw [List.drop_length] at h
  simp only [prodI, digL, List.append_nil, Int.ediv_one] at h
  rw [w64 (by omega) (by omega)]
  exact h

/-- A list of t places and t digits. -/
def ChG (n t : Nat) (c : List Int) : Prop := c.length = 2 * t ∧ ∀ i, i < t → 0 ≤ rd c (i : Int) ∧ rd c (i : Int) < (n : Int)
theorem chAll_g (s : List Int) (t : Nat) : ∀ c ∈ chAll s (plc s.length t 0), ChG s.length t c := by
  intro c hc
  unfold chAll at hc
  obtain ⟨p, hp, hc⟩ := List.mem_flatMap.1 hc
  obtain ⟨v, _, rfl⟩ := List.mem_map.1 hc
  obtain ⟨h1, h2⟩ := plc_ok s.length t 0 p hp
  refine ⟨by rw [List.length_append, digL_len]; simp [szs]; omega, fun i hi => ?_⟩
  have e : rd (p ++ digL (szs s p) (v : Int)) (i : Int) = p[i]'(by omega) := by
    rw [rd_nat _ i (by rw [List.length_append]; omega), List.getElem_append_left (by omega)]
  rw [e]
  exact h2 _ (List.getElem_mem _)
theorem hs10 (d l : List Int) (t n : Nat) (hd : d.length = n) (hg : ChG n t l) (ht : t ≤ 8) : ∀ m j : Nat, j + m = t → ∀ k, m + 1 ≤ k → spec_l10Has.l0 k d l t j = some ((List.range' j m).all fun j => rd d (rd l (j : Int)) == rd l ((t + j : Nat) : Int))
  | 0, j, e, k, hk => by
    obtain ⟨k, rfl⟩ : ∃ q, k = q + 1 := ⟨k - 1, by omega⟩
    simp only [spec_l10Has.l0]
    rw [if_neg (by omega)]; rfl
  | m + 1, j, e, k, hk => by
    obtain ⟨k, rfl⟩ : ∃ q, k = q + 1 := ⟨k - 1, by omega⟩
    obtain ⟨p1, p2⟩ := hg.2 j (by omega)
    have hl := hg.1
    have hw : wrap64 ((j : Int) + 1) = ((j + 1 : Nat) : Int) := by rw [w64 (by omega) (by omega)]; omega
    have hw2 : wrap64 ((t : Int) + (j : Int)) = ((t + j : Nat) : Int) := by rw [w64 (by omega) (by omega)]; omega
    simp only [spec_l10Has.l0]
    rw [if_pos (by omega), if_pos (by omega), if_pos (by omega), if_pos p1, if_pos (by omega), hw2, if_pos (by omega), if_pos (by omega), hw, List.range'_succ, List.all_cons]
    by_cases hm : rd d (rd l (j : Int)) = rd l ((t + j : Nat) : Int)
    · have hb : (rd d (rd l (j : Int)) == rd l ((t + j : Nat) : Int)) = true := beq_iff_eq.2 hm
      rw [if_pos hm, hb, Bool.true_and]
      exact hs10 d l t n hd hg ht m (j + 1) (by omega) k (by omega)
    · have hb : (rd d (rd l (j : Int)) == rd l ((t + j : Nat) : Int)) = false := beq_eq_false_iff_ne.2 hm
      rw [if_neg hm, hb, Bool.false_and]
theorem has_ev (d l : List Int) (t n : Nat) (hd : d.length = n) (hg : ChG n t l) (ht : t ≤ 8) (k : Nat) (hk : 10 ≤ k) : spec_l10Has.f k d l = some (hasB d l t) := by
  have hl := hg.1
  unfold spec_l10Has.f
  have h := hs10 d l t n hd hg ht t 0 (by omega) k (by omega)
  rw [w64 (by omega) (by omega), show ((l.length : Nat) : Int) / 2 = (t : Int) by omega]
  rw [show (0 : Int) = ((0 : Nat) : Int) from rfl, h, hasB, List.range_eq_range']
theorem ms1 (s : List Int) (rows : List Int) (j : Nat) (hj : j < rows.length) (hjl : rows.length ≤ 1000000) (d : List Int) (hd : d.length = s.length) (t : Nat) (ht : t ≤ 8) (X : List (List Int)) (hX : ∀ c ∈ X, ChG s.length t c) (hXl : X.length ≤ 1000000) (r : List (List Int)) : ∀ n i : Nat, i + n = X.length → ∀ acc : List (List Int), acc.length + n ≤ 1000000 → Ev (fun k => spec_l10Missing.l0 k rows (acc ++ (X.drop i).filter fun c => !hasB d c t) ((j : Int) + 1) s) r → Ev (fun k => spec_l10Missing.l1 k rows X (j : Int) d acc (i : Int) s) r
  | 0, i, e, acc, ha, h => by
    refine h.step fun k => ?_
    simp only [spec_l10Missing.l1]
    rw [if_neg (by omega), w64 (by omega) (by omega), List.drop_of_length_le (by omega)]
    simp
  | n + 1, i, e, acc, ha, h => by
    have hi : i < X.length := by omega
    have hg := hX _ (List.getElem_mem hi)
    rw [List.drop_eq_getElem_cons hi, List.filter_cons] at h
    by_cases hb : hasB d X[i] t = true
    · rw [if_neg (by rw [hb]; decide)] at h
      obtain ⟨K, hK⟩ := ms1 s rows j hj hjl d hd t ht X hX hXl r n (i + 1) (by omega) acc (by omega) h
      refine ⟨K + 11, fun k hk => ?_⟩
      obtain ⟨k, rfl⟩ : ∃ q, k = q + 1 := ⟨k - 1, by omega⟩
      simp only [spec_l10Missing.l1]
      rw [if_pos (by omega), if_pos (by omega), rdL1_nat X i hi, has_ev d X[i] t s.length hd hg ht k (by omega), Option.bind_some, if_pos hb, w64 (by omega) (by omega), show (i : Int) + 1 = ((i + 1 : Nat) : Int) by omega]
      exact hK k (by omega)
    · have hb : hasB d X[i] t = false := by simpa using hb
      rw [if_pos (by rw [hb]; rfl)] at h
      obtain ⟨K, hK⟩ := ms1 s rows j hj hjl d hd t ht X hX hXl r n (i + 1) (by omega) (acc ++ [X[i]]) (by simp; omega) (by rw [List.append_assoc]; exact h)
      refine ⟨K + 11, fun k hk => ?_⟩
      obtain ⟨k, rfl⟩ : ∃ q, k = q + 1 := ⟨k - 1, by omega⟩
      simp only [spec_l10Missing.l1]
      rw [if_pos (by omega), if_pos (by omega), rdL1_nat X i hi, has_ev d X[i] t s.length hd hg ht k (by omega), Option.bind_some, if_neg (by rw [hb]; decide), if_pos (by omega), w64 (by omega) (by omega), show (i : Int) + 1 = ((i + 1 : Nat) : Int) by omega]
      exact hK k (by omega)
/-- The choices, of some, that no row has. -/
def leftOf (s : List Int) (t : Nat) (X : List (List Int)) (rows : List Int) : List (List Int) := X.filter fun c => rows.all fun r => !hasB (digL s r) c t
theorem leftOf_cons (s : List Int) (t : Nat) (X : List (List Int)) (r : Int) (rows : List Int) : leftOf s t X (r :: rows) = leftOf s t (X.filter fun c => !hasB (digL s r) c t) rows := by
  unfold leftOf
  rw [List.filter_filter]
  congr 1
  funext c
  rw [List.all_cons, Bool.and_comm]
theorem ms0 (s : List Int) (hs : SpaceOk s) (rows : List Int) (hr : ∀ r ∈ rows, 0 ≤ r ∧ r ≤ 1073741824) (hjl : rows.length ≤ 1000000) (t : Nat) (ht : t ≤ 8) : ∀ n j : Nat, j + n = rows.length → ∀ X : List (List Int), (∀ c ∈ X, ChG s.length t c) → X.length ≤ 1000000 → Ev (fun k => spec_l10Missing.l0 k rows X (j : Int) s) (leftOf s t X (rows.drop j))
  | 0, j, e, X, hX, hXl => by
    refine (Ev.of _).step fun k => ?_
    simp only [spec_l10Missing.l0]
    rw [if_neg (by omega), List.drop_of_length_le (by omega)]
    unfold leftOf
    exact congrArg some (List.filter_eq_self.2 (fun c _ => rfl)).symm
  | n + 1, j, e, X, hX, hXl => by
    have hj : j < rows.length := by omega
    have hrj := hr _ (List.getElem_mem hj)
    have hX2 : ∀ c ∈ X.filter fun c => !hasB (digL s rows[j]) c t, ChG s.length t c := fun c hc => hX c (List.mem_filter.1 hc).1
    have hl2 : (X.filter fun c => !hasB (digL s rows[j]) c t).length ≤ X.length := List.length_filter_le _ _
    have ih := ms0 s hs rows hr hjl t ht n (j + 1) (by omega) _ hX2 (by omega)
    obtain ⟨K, hK⟩ := ms1 s rows j hj hjl (digL s rows[j]) (digL_len s _) t ht X hX hXl _ X.length 0 (by omega) [] (by simpa using hXl) (by
      rw [List.drop_zero, List.nil_append]; exact ih)
    refine ⟨K + 30, fun k hk => ?_⟩
    obtain ⟨k, rfl⟩ : ∃ q, k = q + 1 := ⟨k - 1, by omega⟩
    simp only [spec_l10Missing.l0]
    rw [if_pos (by omega), if_pos (by omega), rd_nat rows j hj, specDigits_ev s hs.2.2.1 hs.2.1 _ hrj.1 hrj.2 k (by omega), Option.bind_some, List.drop_eq_getElem_cons hj, leftOf_cons]
    exact hK k (by omega)
theorem missing_ev (s : List Int) (hs : SpaceOk s) (rows : List Int) (hr : ∀ r ∈ rows, 0 ≤ r ∧ r ≤ 1073741824) (hjl : rows.length ≤ 1000000) (t : Nat) (ht : t ≤ 8) (X : List (List Int)) (hX : ∀ c ∈ X, ChG s.length t c) (hXl : X.length ≤ 1000000) : Ev (fun k => spec_l10Missing.f k s X rows) (leftOf s t X rows) := by
  have h := ms0 s hs rows hr hjl t ht rows.length 0 (by omega) X hX hXl
  rw [List.drop_zero] at h
  exact h
theorem chAll_short (s : List Int) (hs : SpaceOk s) (t : Nat) (ht : t ≤ 3) : (chAll s (plc s.length t 0)).length ≤ 3584 := by
  have h1 := chAll_len s hs.2.2.1 (plc s.length t 0) fun p hp => (plc_ok _ _ _ p hp).2
  have h2 := plc_many s hs.2.1 hs.2.2.1 t ht
  omega

/-- How often a number comes in lists. -/
def cnts (n : Int) : List (List Int) → Int
  | [] => 0
  | l :: ls => (l.count n : Nat) + cnts n ls
theorem oft_rd : ∀ (ofs : List (List Int)), (∀ l ∈ ofs, ∀ n ∈ l, 0 ≤ n) → ∀ (o : List Int) (j : Nat), j < o.length → rd (ofs.foldl (fun o l => l.foldl tick o) o) (j : Int) = rd o (j : Int) + cnts (j : Int) ofs
  | [], _, o, j, hj => by simp [cnts]
  | l :: ls, h, o, j, hj => by
    rw [List.foldl_cons, oft_rd ls (fun x hx => h x (by simp [hx])) _ j (by rw [ticks_len]; exact hj), ticks_rd l (h l (by simp)) o j hj]
    simp only [cnts]; omega
theorem cnts_zero (n : Int) : ∀ (ls : List (List Int)), 0 ≤ cnts n ls ∧ (cnts n ls = 0 ↔ ∀ l ∈ ls, n ∉ l)
  | [] => by simp [cnts]
  | l :: ls => by
    obtain ⟨h1, h2⟩ := cnts_zero n ls
    simp only [cnts]
    refine ⟨by omega, ?_⟩
    rw [List.forall_mem_cons, ← h2]
    have hc : l.count n = 0 ↔ n ∉ l := List.count_eq_zero
    rw [← hc]
    omega
theorem oftT_rd (s : List Int) (hs : SpaceOk s) (t : Nat) (rows : List Int) (n : Nat) (hn : n < (chAll s (plc s.length t 0)).length) : rd (oftT s t rows) (n : Int) = cnts (n : Int) (rows.map (ofT s t)) := by
  have h1 := chAll_len s hs.2.2.1 (plc s.length t 0) fun p hp => (plc_ok _ _ _ p hp).2
  unfold oftT oftZ
  rw [oft_rd _ (fun l hl m hm => by
    obtain ⟨r, _, rfl⟩ := List.mem_map.1 hl
    exact (ofT_in s hs.2.2.1 t r m hm).1) _ n (by rw [List.length_replicate]; omega)]
  have : rd (List.replicate (manyC s (plc s.length t 0)).toNat 0) (n : Int) = 0 := by
    rw [rd_nat _ n (by rw [List.length_replicate]; omega), List.getElem_replicate]
  omega
theorem has_num2 (s : List Int) (hs : SpaceOk s) (t : Nat) (r : Int) (n : Nat) (hn : n < (chAll s (plc s.length t 0)).length) : hasB (digL s r) (chAll s (plc s.length t 0))[n] t = true ↔ (n : Int) ∈ ofT s t r := by
  have h := has_num s (digL s r) hs.2.2.1 (within_dig s hs.2.2.1 r) t (plc s.length t 0) 0 (fun p hp => plc_ok s.length t 0 p hp) n hn
  rw [h, Int.zero_add]; rfl
theorem zero_num (s : List Int) (hs : SpaceOk s) (t : Nat) (rows : List Int) (n : Nat) (hn : n < (chAll s (plc s.length t 0)).length) : rd (oftT s t rows) (n : Int) = 0 ↔ (rows.all fun r => !hasB (digL s r) (chAll s (plc s.length t 0))[n] t) = true := by
  rw [oftT_rd s hs t rows n hn, (cnts_zero _ _).2, List.all_eq_true]
  constructor
  · intro h r hr
    have := h _ (List.mem_map_of_mem (f := ofT s t) hr)
    rw [← has_num2 s hs t r n hn] at this
    simpa using this
  · intro h l hl
    obtain ⟨r, hr, rfl⟩ := List.mem_map.1 hl
    rw [← has_num2 s hs t r n hn]
    have := h r hr
    simpa using this
theorem zero_mem (s : List Int) (hs : SpaceOk s) (t : Nat) (rows : List Int) : (0 : Int) ∈ oftT s t rows ↔ leftOf s t (chAll s (plc s.length t 0)) rows ≠ [] := by
  have h1 := chAll_len s hs.2.2.1 (plc s.length t 0) fun p hp => (plc_ok _ _ _ p hp).2
  have hlen : (oftT s t rows).length = (chAll s (plc s.length t 0)).length := by rw [oftT_len]; omega
  constructor
  · intro h h2
    obtain ⟨n, hn, e⟩ := List.mem_iff_getElem.1 h
    rw [← rd_nat _ n hn] at e
    rw [zero_num s hs t rows n (by omega)] at e
    have : (chAll s (plc s.length t 0))[n]'(by omega) ∈ leftOf s t (chAll s (plc s.length t 0)) rows := List.mem_filter.2 ⟨List.getElem_mem _, e⟩
    rw [h2] at this
    simp at this
  · intro h
    obtain ⟨c, hc⟩ := List.exists_mem_of_ne_nil _ h
    obtain ⟨hc1, hc2⟩ := List.mem_filter.1 hc
    obtain ⟨n, hn, rfl⟩ := List.mem_iff_getElem.1 hc1
    have := (zero_num s hs t rows n hn).2 hc2
    rw [rd_nat _ n (by omega)] at this
    rw [← this]
    exact List.getElem_mem _

theorem plc_len (n : Nat) (hn : n ≤ 8) : ∀ t a, (plc n t a).length ≤ 8 ^ t
  | 0, a => by simp [plc]
  | t + 1, a => by
    have := flat_len (fun i : Nat => (plc n t (i + 1)).map fun p => (i : Int) :: p) (8 ^ t) (List.range' a (n - a)) fun i _ => by rw [List.length_map]; exact plc_len n hn t (i + 1)
    rw [List.length_range'] at this
    have h2 : (n - a) * 8 ^ t ≤ 8 * 8 ^ t := Nat.mul_le_mul_right _ (by omega)
    simp only [plc]
    rw [Nat.pow_succ]; omega
theorem pl1 (s : List Int) (h8 : s.length ≤ 8) (t i : Nat) (hi : i < s.length) (Q : List (List Int)) (hQl : Q.length ≤ 100000) (hQ : ∀ q ∈ Q, q.length ≤ 8) (r : List (List Int)) : ∀ d j : Nat, j + d = Q.length → ∀ x7 : List (List Int), x7.length + d ≤ 1000000 → Ev (fun k => spec_l10Places.l0 k ((t : Nat) : Int) (x7 ++ (Q.drop j).map fun p => (i : Int) :: p) ((i + 1 : Nat) : Int) s) r → Ev (fun k => spec_l10Places.l1 k ((t : Nat) : Int) x7 (i : Int) Q (j : Int) s) r
  | 0, j, e, x7, hx, h => by
    refine h.step fun k => ?_
    simp only [spec_l10Places.l1]
    rw [if_neg (by omega), w64 (by omega) (by omega), List.drop_of_length_le (by omega)]
    simp
  | d + 1, j, e, x7, hx, h => by
    have hj : j < Q.length := by omega
    have hqj := hQ _ (List.getElem_mem hj)
    refine (pl1 s h8 t i hi Q hQl hQ r d (j + 1) (by omega) (x7 ++ [(i : Int) :: Q[j]]) (by simp; omega) ?_).step fun k => ?_
    · rw [List.append_assoc]
      rw [List.drop_eq_getElem_cons hj] at h
      exact h
    · simp only [spec_l10Places.l1]
      rw [if_pos (by omega), Option.bind_some, if_pos (by omega), rdL1_nat Q j hj, if_pos (by simp only [List.length_singleton]; omega), if_pos (by omega), w64 (by omega) (by omega)]
      rfl
theorem pl0 (s : List Int) (h8 : s.length ≤ 8) (t : Nat) (ht : t < 4) (ih : ∀ a, a ≤ s.length → Ev (fun k => spec_l10Places.f k s (a : Int) (t : Int)) (plc s.length t a)) : ∀ d i : Nat, i + d = s.length → ∀ x7 : List (List Int), x7.length + d * 8 ^ t ≤ 1000000 → Ev (fun k => spec_l10Places.l0 k ((t + 1 : Nat) : Int) x7 (i : Int) s) (x7 ++ (List.range' i d).flatMap fun i => (plc s.length t (i + 1)).map fun p => (i : Int) :: p)
  | 0, i, e, x7, hx => by
    refine (Ev.of _).step fun k => ?_
    simp only [spec_l10Places.l0]
    rw [if_neg (by omega)]; simp
  | d + 1, i, e, x7, hx => by
    have hl := plc_len s.length h8 t (i + 1)
    have hp5 : 8 ^ t ≤ 512 := Nat.le_trans (Nat.pow_le_pow_right (by omega) (show t ≤ 3 by omega)) (by decide)
    rw [Nat.succ_mul] at hx
    have h1 := pl0 s h8 t ht ih d (i + 1) (by omega) (x7 ++ (plc s.length t (i + 1)).map fun p => (i : Int) :: p) (by rw [List.length_append, List.length_map]; omega)
    have h2 := pl1 s h8 (t + 1) i (by omega) (plc s.length t (i + 1)) (by omega) (fun q hq => by have := (plc_ok s.length t (i + 1) q hq).1; omega) _ (plc s.length t (i + 1)).length 0 (by omega) x7 (by omega) (by rw [List.drop_zero]; exact h1)
    refine ((ih (i + 1) (by omega)).bind (g := fun k v => spec_l10Places.l1 k ((t + 1 : Nat) : Int) x7 (i : Int) v 0 s) (r := _) (by
      rw [List.range'_succ, List.flatMap_cons, ← List.append_assoc]; exact h2)).step fun k => ?_
    simp only [spec_l10Places.l0]
    rw [if_pos (by omega), w64 (by omega) (by omega), w64 (by omega) (by omega), show ((t + 1 : Nat) : Int) - 1 = (t : Int) by omega, show (i : Int) + 1 = ((i + 1 : Nat) : Int) by omega]
theorem places_ev (s : List Int) (h8 : s.length ≤ 8) : ∀ t : Nat, t ≤ 4 → ∀ a, a ≤ s.length → Ev (fun k => spec_l10Places.f k s (a : Int) (t : Int)) (plc s.length t a)
  | 0, _, a, _ => by
    refine (Ev.of _).step fun k => ?_
    simp [spec_l10Places.f, plc]
  | t + 1, ht, a, ha => by
    have hp : 8 ^ t ≤ 512 := Nat.le_trans (Nat.pow_le_pow_right (by omega) (show t ≤ 3 by omega)) (by decide)
    have hm : (s.length - a) * 8 ^ t ≤ 8 * 512 := Nat.mul_le_mul (by omega) hp
    refine (pl0 s h8 t (by omega) (places_ev s h8 t (by omega)) (s.length - a) a (by omega) [] (by simp only [List.length_nil]; omega)).step fun k => ?_
    simp only [spec_l10Places.f]
    rw [if_neg (by omega)]

def dgs (z : List Int) : List (List Int) := (List.range (prodI z).toNat).map fun (v : Nat) => digL z (v : Int)
theorem range_mul {β : Type} (q : Nat) (g : Nat → β) : ∀ a : Nat, (List.range (a * q)).map g = (List.range a).flatMap fun u => (List.range q).map fun x => g (u * q + x)
  | 0 => by simp
  | a + 1 => by
    rw [Nat.succ_mul, List.range_add, List.map_append, range_mul q g a, List.range_succ, List.flatMap_append]
    simp
theorem prodI_snoc (q : Int) : ∀ z : List Int, prodI (z ++ [q]) = prodI z * q
  | [] => by simp [prodI]
  | x :: z => by simp only [List.cons_append, prodI]; rw [prodI_snoc q z, Int.mul_assoc]
theorem digL_snoc (q : Int) (hq : 0 < q) : ∀ (z : List Int), (∀ x ∈ z, 2 ≤ x ∧ x ≤ 4) → ∀ (u x : Int), 0 ≤ x → x < q → digL (z ++ [q]) (u * q + x) = digL z u ++ [x]
  | [], _, u, x, h0, h1 => by
    simp only [List.nil_append, digL, prodI, Int.ediv_one]
    rw [Int.add_comm, Int.add_mul_emod_self_right, Int.emod_eq_of_lt h0 h1]
  | y :: z, hz, u, x, h0, h1 => by
    have hp := prodI_pos z fun a ha => hz a (by simp [ha])
    simp only [List.cons_append, digL]
    rw [digL_snoc q hq z (fun a ha => hz a (by simp [ha])) u x h0 h1, prodI_snoc, Int.mul_comm (prodI z) q, ← Int.ediv_ediv_of_nonneg (by omega)]
    have : (u * q + x) / q = u := by
      rw [Int.add_comm, Int.add_mul_ediv_right _ _ (by omega), Int.ediv_eq_zero_of_lt h0 h1, Int.zero_add]
    rw [this]
theorem dgs_snoc (q : Int) (hq : 0 < q) (z : List Int) (hz : ∀ x ∈ z, 2 ≤ x ∧ x ≤ 4) : dgs (z ++ [q]) = (dgs z).flatMap fun y => (List.range q.toNat).map fun (x : Nat) => y ++ [(x : Int)] := by
  have hp := prodI_pos z hz
  unfold dgs
  have e : (prodI (z ++ [q])).toNat = (prodI z).toNat * q.toNat := by
    rw [prodI_snoc, Int.toNat_mul (by omega) (by omega)]
  rw [e, range_mul, List.flatMap_map]
  congr 1
  funext u
  refine List.map_congr_left fun x hx => ?_
  have := List.mem_range.1 hx
  have e2 : ((u * q.toNat + x : Nat) : Int) = (u : Int) * q + (x : Int) := by
    rw [Int.natCast_add, Int.natCast_mul, Int.toNat_of_nonneg (by omega)]
  rw [e2, digL_snoc q hq z hz _ _ (by omega) (by omega)]
theorem dg2 (s p : List Int) (m : Nat) (hm : m < p.length) (hp8 : p.length ≤ 8) (hp0 : 0 ≤ p[m]) (hp1 : p[m] < (s.length : Int)) (q : Int) (hq : rd s p[m] = q) (hq0 : 0 ≤ q) (hq4 : q ≤ 4) (Y : List (List Int)) (c : Nat) (hc : c < Y.length) (hY : Y.length ≤ 1000000) (hy : Y[c].length ≤ 8) (r : List (List Int)) : ∀ d x : Nat, (x : Int) + d = q → ∀ x7 : List (List Int), x7.length + d ≤ 1000000 → Ev (fun k => spec_l10Digits.l1 k p Y (m : Int) (x7 ++ (List.range' x d).map fun (x : Nat) => Y[c] ++ [(x : Int)]) ((c : Int) + 1) s) r → Ev (fun k => spec_l10Digits.l2 k p Y (m : Int) x7 (c : Int) (x : Int) s) r
  | 0, x, e, x7, hx, h => by
    refine h.step fun k => ?_
    simp only [spec_l10Digits.l2]
    rw [if_pos (by omega), if_pos (by omega), rd_nat p m hm, if_pos hp0, if_pos hp1, hq, if_neg (by omega), w64 (by omega) (by omega)]
    simp
  | d + 1, x, e, x7, hx, h => by
    refine (dg2 s p m hm hp8 hp0 hp1 q hq hq0 hq4 Y c hc hY hy r d (x + 1) (by omega) (x7 ++ [Y[c] ++ [(x : Int)]]) (by simp; omega) ?_).step fun k => ?_
    · rw [List.append_assoc]
      rw [List.range'_succ] at h
      exact h
    · simp only [spec_l10Digits.l2]
      rw [if_pos (by omega), if_pos (by omega), rd_nat p m hm, if_pos hp0, if_pos hp1, hq, if_pos (by omega), if_pos (by omega), if_pos (by omega), rdL1_nat Y c hc, ownl _ (by omega), Option.bind_some, if_pos (by omega), if_pos (by omega), w64 (by omega) (by omega)]
      rfl
theorem dg1 (s p : List Int) (m : Nat) (hm : m < p.length) (hp8 : p.length ≤ 8) (hp0 : 0 ≤ p[m]) (hp1 : p[m] < (s.length : Int)) (q : Int) (hq : rd s p[m] = q) (hq0 : 0 ≤ q) (hq4 : q ≤ 4) (Y : List (List Int)) (hY : Y.length ≤ 100000) (hy : ∀ y ∈ Y, y.length ≤ 8) (r : List (List Int)) : ∀ d c : Nat, c + d = Y.length → ∀ x7 : List (List Int), x7.length + d * 4 ≤ 1000000 → Ev (fun k => spec_l10Digits.l0 k p (x7 ++ (Y.drop c).flatMap fun y => (List.range q.toNat).map fun (x : Nat) => y ++ [(x : Int)]) ((m : Int) + 1) s) r → Ev (fun k => spec_l10Digits.l1 k p Y (m : Int) x7 (c : Int) s) r
  | 0, c, e, x7, hx, h => by
    refine h.step fun k => ?_
    simp only [spec_l10Digits.l1]
    rw [if_neg (by omega), w64 (by omega) (by omega), List.drop_of_length_le (by omega)]
    simp
  | d + 1, c, e, x7, hx, h => by
    have hc : c < Y.length := by omega
    refine (dg2 s p m hm hp8 hp0 hp1 q hq hq0 hq4 Y c hc (by omega) (hy _ (List.getElem_mem hc)) r q.toNat 0 (by omega) x7 (by omega) ?_).step fun k => ?_
    · refine dg1 s p m hm hp8 hp0 hp1 q hq hq0 hq4 Y hY hy r d (c + 1) (by omega) _ (by simp; omega) ?_
      rw [List.drop_eq_getElem_cons hc, List.flatMap_cons, ← List.append_assoc] at h
      rw [← List.range_eq_range']
      exact h
    · simp only [spec_l10Digits.l1]
      rw [if_pos (by omega)]
      rfl
theorem dgs_len (z : List Int) (hz : ∀ x ∈ z, 2 ≤ x ∧ x ≤ 4) : (dgs z).length ≤ 4 ^ z.length := by
  have key : ∀ z : List Int, (∀ x ∈ z, 2 ≤ x ∧ x ≤ 4) → (prodI z).toNat ≤ 4 ^ z.length := by
    intro z
    induction z with
    | nil => intro _; simp [prodI]
    | cons q z ih =>
      intro h
      have h1 := ih fun x hx => h x (by simp [hx])
      have h2 := h q (by simp)
      have h3 := prodI_pos z fun x hx => h x (by simp [hx])
      simp only [prodI, List.length_cons]
      rw [Int.toNat_mul (by omega) (by omega), Nat.pow_succ, Nat.mul_comm]
      exact Nat.mul_le_mul h1 (by omega)
  unfold dgs
  rw [List.length_map, List.length_range]; exact key z hz
theorem dgs_each (z : List Int) : ∀ y ∈ dgs z, y.length = z.length := by
  intro y hy
  obtain ⟨v, _, rfl⟩ := List.mem_map.1 hy
  exact digL_len z _
theorem dg0 (s : List Int) (hs : ∀ q ∈ s, 2 ≤ q ∧ q ≤ 4) (p : List Int) (h4 : p.length ≤ 4) (hk : PlOk s.length p) : ∀ d m : Nat, m + d = p.length → Ev (fun k => spec_l10Digits.l0 k p (dgs (szs s (p.take m))) (m : Int) s) (dgs (szs s p))
  | 0, m, e => by
    refine (Ev.of _).step fun k => ?_
    simp only [spec_l10Digits.l0]
    rw [if_neg (by omega), List.take_of_length_le (by omega)]
  | d + 1, m, e => by
    have hm : m < p.length := by omega
    obtain ⟨h0, h1⟩ := hk _ (List.getElem_mem hm)
    have hko : PlOk s.length (p.take m) := fun i hi => hk i (List.mem_of_mem_take hi)
    have hz := szs_ok s hs _ hko
    have hl := dgs_len _ hz
    have hzl : (szs s (p.take m)).length = m := by simp [szs]; omega
    have hp4 : 4 ^ m ≤ 256 := Nat.le_trans (Nat.pow_le_pow_right (by omega) (show m ≤ 4 by omega)) (by decide)
    rw [hzl] at hl
    have hq := szs_ok s hs p hk (rd s p[m]) (List.mem_map.2 ⟨_, List.getElem_mem hm, rfl⟩)
    have ih := dg0 s hs p h4 hk d (m + 1) (by omega)
    have e1 : szs s (p.take (m + 1)) = szs s (p.take m) ++ [rd s p[m]] := by
      unfold szs
      rw [List.take_succ_eq_append_getElem hm, List.map_append]; rfl
    rw [e1, dgs_snoc _ (by omega) _ hz] at ih
    refine (dg1 s p m hm (by omega) h0 h1 (rd s p[m]) rfl (by omega) (by omega) (dgs (szs s (p.take m))) (by omega) (fun y hy => by rw [dgs_each _ y hy]; omega) _ (dgs (szs s (p.take m))).length 0 (by omega) [] (by simp only [List.length_nil]; omega) ?_).step fun k => ?_
    · rw [List.drop_zero, List.nil_append]
      exact ih
    · simp only [spec_l10Digits.l0]
      rw [if_pos (by omega)]
      rfl
theorem digits_ev (s : List Int) (hs : ∀ q ∈ s, 2 ≤ q ∧ q ≤ 4) (p : List Int) (h4 : p.length ≤ 4) (hk : PlOk s.length p) : Ev (fun k => spec_l10Digits.f k s p) (dgs (szs s p)) := by
  have h := dg0 s hs p h4 hk p.length 0 (by omega)
  have e : dgs (szs s (p.take 0)) = [[]] := by simp [szs, dgs, prodI, digL]
  rw [e] at h
  exact h

theorem al1 (s : List Int) (X : List (List Int)) (i : Nat) (hi : i < X.length) (hX : X.length ≤ 100000) (hxl : X[i].length ≤ 8) (D : List (List Int)) (hDl : D.length ≤ 100000) (hD : ∀ y ∈ D, y.length ≤ 8) (r : List (List Int)) : ∀ d j : Nat, j + d = D.length → ∀ x6 : List (List Int), x6.length + d ≤ 1000000 → Ev (fun k => spec_l10All.l0 k X (x6 ++ (D.drop j).map fun y => X[i] ++ y) ((i : Int) + 1) s) r → Ev (fun k => spec_l10All.l1 k X x6 (i : Int) D (j : Int) s) r
  | 0, j, e, x6, hx, h => by
    refine h.step fun k => ?_
    simp only [spec_l10All.l1]
    rw [if_neg (by omega), w64 (by omega) (by omega), List.drop_of_length_le (by omega)]
    simp
  | d + 1, j, e, x6, hx, h => by
    have hj : j < D.length := by omega
    have hdj := hD _ (List.getElem_mem hj)
    refine (al1 s X i hi hX hxl D hDl hD r d (j + 1) (by omega) (x6 ++ [X[i] ++ D[j]]) (by simp; omega) ?_).step fun k => ?_
    · rw [List.append_assoc]
      rw [List.drop_eq_getElem_cons hj] at h
      exact h
    · simp only [spec_l10All.l1]
      rw [if_pos (by omega), if_pos (by omega), if_pos (by omega), rdL1_nat X i hi, ownl _ (by omega), Option.bind_some, if_pos (by omega), rdL1_nat D j hj, if_pos (by omega), if_pos (by omega), w64 (by omega) (by omega)]
      rfl
theorem chOf_dgs (s p : List Int) : chOf s p = (dgs (szs s p)).map fun y => p ++ y := by
  unfold chOf dgs; rw [List.map_map]; rfl
theorem al0 (s : List Int) (hs : ∀ q ∈ s, 2 ≤ q ∧ q ≤ 4) (X : List (List Int)) (hX : X.length ≤ 10000) (hX4 : ∀ p ∈ X, p.length ≤ 3 ∧ PlOk s.length p) : ∀ d i : Nat, i + d = X.length → ∀ x6 : List (List Int), x6.length + d * 64 ≤ 1000000 → Ev (fun k => spec_l10All.l0 k X x6 (i : Int) s) (x6 ++ chAll s (X.drop i))
  | 0, i, e, x6, hx => by
    refine (Ev.of _).step fun k => ?_
    simp only [spec_l10All.l0]
    rw [if_neg (by omega), List.drop_of_length_le (by omega)]; simp [chAll]
  | d + 1, i, e, x6, hx => by
    have hi : i < X.length := by omega
    obtain ⟨h3, hk⟩ := hX4 _ (List.getElem_mem hi)
    have hz := szs_ok s hs _ hk
    have hl := dgs_len _ hz
    have hzl : (szs s X[i]).length = X[i].length := by simp [szs]
    have hp4 : 4 ^ X[i].length ≤ 64 := Nat.le_trans (Nat.pow_le_pow_right (by omega) h3) (by decide)
    rw [hzl] at hl
    have h1 := al0 s hs X hX hX4 d (i + 1) (by omega) (x6 ++ chOf s X[i]) (by rw [List.length_append, chOf_dgs, List.length_map]; omega)
    have h2 := al1 s X i hi (by omega) (by omega) (dgs (szs s X[i])) (by omega) (fun y hy => by rw [dgs_each _ y hy]; omega) _ (dgs (szs s X[i])).length 0 (by omega) x6 (by omega) (by rw [List.drop_zero, ← chOf_dgs]; exact h1)
    refine ((digits_ev s hs X[i] (by omega) hk).bind (g := fun k v => spec_l10All.l1 k X x6 (i : Int) v 0 s) (r := _) (by
      rw [List.drop_eq_getElem_cons hi]
      unfold chAll at h2 ⊢
      rw [List.flatMap_cons, ← List.append_assoc]; exact h2)).step fun k => ?_
    simp only [spec_l10All.l0]
    rw [if_pos (by omega), if_pos (by omega), rdL1_nat X i hi]
theorem all_ev (s : List Int) (h8 : s.length ≤ 8) (hs : ∀ q ∈ s, 2 ≤ q ∧ q ≤ 4) (t : Nat) (ht : t ≤ 3) : Ev (fun k => spec_l10All.f k s (t : Int)) (chAll s (plc s.length t 0)) := by
  have hl := plc_len s.length h8 t 0
  have hp : 8 ^ t ≤ 512 := Nat.le_trans (Nat.pow_le_pow_right (by omega) ht) (by decide)
  have h := al0 s hs (plc s.length t 0) (by omega) (fun p hp => by have := plc_ok s.length t 0 p hp; exact ⟨by omega, this.2⟩) (plc s.length t 0).length 0 (by omega) [] (by simp only [List.length_nil]; omega)
  exact (places_ev s h8 t (by omega) 0 (by omega)).bind (g := fun k v => spec_l10All.l0 k v [] 0 s) h

theorem strV_last (s rows : List Int) : ∀ (d t : Nat) (b : Int), strV s rows (d + 1) t b = if (0 : Int) ∈ oftT s (t + d) rows then strV s rows d t b else ((t + d : Nat) : Int)
  | 0, t, b => rfl
  | d + 1, t, b => by
    rw [strV, strV_last s rows d (t + 1) _]
    have e : t + 1 + d = t + (d + 1) := by omega
    rw [e]
    rfl
theorem str_spec (s rows : List Int) (hs : SpaceOk s) (hr : ∀ r ∈ rows, 0 ≤ r ∧ r ≤ 1073741824) (hjl : rows.length ≤ 1000000) : ∀ T : Nat, T ≤ 3 → Ev (fun k => spec_StrengthOf.l0 k rows (T : Int) s) (strV s rows T 1 0, 0)
  | 0, _ => by
    refine (Ev.of _).step fun k => ?_
    simp only [spec_StrengthOf.l0]
    rw [if_neg (by omega)]; rfl
  | T + 1, hT => by
    obtain ⟨K, hK⟩ := str_spec s rows hs hr hjl T (by omega)
    obtain ⟨K1, h1⟩ := all_ev s hs.2.1 hs.2.2.1 (T + 1) hT
    have hsh := chAll_short s hs (T + 1) hT
    obtain ⟨K2, h2⟩ := missing_ev s hs rows hr hjl (T + 1) (by omega) (chAll s (plc s.length (T + 1) 0)) (chAll_g s (T + 1)) (by omega)
    refine ⟨K + K1 + K2 + 1, fun k hk => ?_⟩
    obtain ⟨k, rfl⟩ : ∃ q, k = q + 1 := ⟨k - 1, by omega⟩
    have h1' : spec_l10All.f k s ((T + 1 : Nat) : Int) = _ := h1 k (by omega)
    have h2' : spec_l10Missing.f k s _ rows = _ := h2 k (by omega)
    simp only [spec_StrengthOf.l0]
    rw [if_pos (by omega), h1', Option.bind_some, h2', Option.bind_some, strV_last, show 1 + T = T + 1 by omega]
    by_cases hz : (0 : Int) ∈ oftT s (T + 1) rows
    · have h3 := (zero_mem s hs (T + 1) rows).1 hz
      rw [if_pos hz, if_neg (fun h => h3 (List.length_eq_zero_iff.1 (by omega))), w64 (by omega) (by omega), show ((T + 1 : Nat) : Int) - 1 = (T : Int) by omega]
      exact hK k (by omega)
    · have h3 : leftOf s (T + 1) (chAll s (plc s.length (T + 1) 0)) rows = [] := Classical.byContradiction fun h => hz ((zero_mem s hs (T + 1) rows).2 h)
      rw [if_neg hz, h3, if_pos (by rfl)]
theorem strength_both (s rows : List Int) (hl : rows.length ≤ 1048576) : ∃ z e : Int, (e = 0 → SpaceOk s ∧ rows.length ≤ 200 ∧ (∀ r ∈ rows, 0 ≤ r ∧ r < prodL s) ∧ z = strV s rows (min 3 s.length) 1 0) ∧ ∃ K, ∀ k, K ≤ k → spec_StrengthOf.f k s rows = some (z, e) ∧ impl_StrengthOf.f k s rows = some (z, e) := by
  by_cases h0 : rowsCd s rows 1 = 0
  · obtain ⟨hs, h200, hw, h1, h2⟩ := rowsCd_zero h0
    have hP := prodL_le8 s hs.2.2.1 hs.2.1
    have hr : ∀ r ∈ rows, 0 ≤ r ∧ r ≤ 1073741824 := fun r hr => by have := hw r hr; omega
    have hmn : mn 3 (s.length : Int) = ((min 3 s.length : Nat) : Int) := by unfold mn; split <;> omega
    obtain ⟨K, hK⟩ := str_spec s rows hs hr (by omega) (min 3 s.length) (by omega)
    refine ⟨strV s rows (min 3 s.length) 1 0, 0, fun _ => ⟨hs, h200, hw, rfl⟩, K + rows.length + 100, fun k hk => ⟨?_, ?_⟩⟩
    · unfold spec_StrengthOf.f
      rw [rowsS_ev s rows 1 hl k (by omega), h0, Option.bind_some, if_pos rfl, hmn]
      exact hK k (by omega)
    · unfold impl_StrengthOf.f
      rw [rowsI_ev s rows 1 hl k (by omega), h0, Option.bind_some, if_pos rfl, if_pos ((okS_iff s).2 ⟨hs.2.1, hs.2.2.1⟩), if_pos ((okRows_iff rows).2 ⟨by omega, hr⟩)]
  · refine ⟨0, rowsCd s rows 1, fun h => absurd h h0, rows.length + 100, fun k hk => ⟨?_, ?_⟩⟩
    · unfold spec_StrengthOf.f
      rw [rowsS_ev s rows 1 hl k (by omega), Option.bind_some, if_neg h0]
    · unfold impl_StrengthOf.f
      rw [rowsI_ev s rows 1 hl k (by omega), Option.bind_some, if_neg h0]

def Desc (l : List Int) : Prop := l.Pairwise fun a b => b ≤ a
theorem perm_prodL {a b : List Int} (h : a.Perm b) : prodL a = prodL b := by
  induction h with
  | nil => rfl
  | cons x _ ih => simp only [prodL, ih]
  | swap x y l => simp only [prodL]; rw [← Int.mul_assoc, ← Int.mul_assoc, Int.mul_comm y x]
  | trans _ _ h1 h2 => exact h1.trans h2
theorem sorted_is (s D : List Int) (h : D.Perm s) (hD : Desc D) : (s.mergeSort fun x y => decide (x ≤ y)) = D.reverse := by
  have h1 : (s.mergeSort fun x y => decide (x ≤ y)).Pairwise (fun a b => a ≤ b) := by
    have := List.pairwise_mergeSort (le := fun x y : Int => decide (x ≤ y)) (fun a b c h1 h2 => decide_eq_true (Int.le_trans (of_decide_eq_true h1) (of_decide_eq_true h2))) (fun a b => by have := Int.le_total a b; simpa using this) s
    exact this.imp (fun h => by simpa using h)
  have h2 : D.reverse.Pairwise (fun a b => a ≤ b) := List.pairwise_reverse.2 hD
  refine List.Perm.eq_of_pairwise (le := fun a b : Int => a ≤ b) (fun a b _ _ h1 h2 => Int.le_antisymm h1 h2) h1 h2 ?_
  exact (List.mergeSort_perm s _).trans (h.symm.trans (List.reverse_perm D).symm)

theorem over1 (x1 x6 : Int) (s : List Int) (i : Nat) (hi : i < s.length) (h8 : s.length ≤ 8) (D : List Int) (hDl : D.length ≤ 8) (hD : Desc D) : ∀ a : Nat, a ≤ D.length → (∀ z ∈ D.drop a, z < s[i]) → ∀ y, ∃ D' : List Int, D'.Perm (s[i] :: D) ∧ Desc D' ∧ ∀ (r : Option Int) (K : Nat), (∀ k, K ≤ k → spec_l04Over.l0 k x1 D' x6 ((i + 1 : Nat) : Int) s = r) → ∀ k, K + a + 1 ≤ k → spec_l04Over.l1 k x1 (D.take a ++ y :: D.drop a) x6 i a s = r
  | 0, _, hz, y => by
    refine ⟨s[i] :: D, List.Perm.refl _, List.pairwise_cons.2 ⟨fun z hzm => by have := hz z (by simpa using hzm); omega, hD⟩, fun r K hr k hk => ?_⟩
    obtain ⟨k, rfl⟩ : ∃ q, k = q + 1 := ⟨k - 1, by omega⟩
    simp only [spec_l04Over.l1]
    rw [if_neg (by omega), if_pos (by omega), if_pos (by omega), if_pos (by omega), if_pos (by simp only [List.take_zero, List.nil_append, List.length_cons, List.drop_zero]; omega), rd_nat s i hi, w64 (by omega) (by omega), show (i : Int) + 1 = ((i + 1 : Nat) : Int) by omega]
    exact hr k (by omega)
  | a + 1, ha, hz, y => by
    have hal : a < D.length := by omega
    have hlen : (D.take (a + 1) ++ y :: D.drop (a + 1)).length = D.length + 1 := by simp; omega
    have e1 : rd (D.take (a + 1) ++ y :: D.drop (a + 1)) (a : Int) = D[a] := by
      simp only [rd, Int.toNat_natCast]
      rw [List.getD_eq_getElem?_getD, List.getElem?_append_left (by rw [List.length_take]; omega), List.getElem?_take_of_lt (by omega), List.getElem?_eq_getElem hal]; rfl
    have hset : ∀ v : Int, (D.take (a + 1) ++ y :: D.drop (a + 1)).set (a + 1) v = D.take (a + 1) ++ v :: D.drop (a + 1) := fun v => by
      rw [List.set_append, if_neg (by rw [List.length_take]; omega), List.length_take, show a + 1 - min (a + 1) D.length = 0 by omega]; rfl
    by_cases hlt : D[a] < s[i]
    · obtain ⟨D', p1, p2, p3⟩ := over1 x1 x6 s i hi h8 D hDl hD a (by omega) (fun z hzm => by
        rw [List.drop_eq_getElem_cons hal] at hzm
        rcases List.mem_cons.1 hzm with rfl | hzm
        · exact hlt
        · exact hz z hzm) D[a]
      refine ⟨D', p1, p2, fun r K hr k hk => ?_⟩
      obtain ⟨k, rfl⟩ : ∃ q, k = q + 1 := ⟨k - 1, by omega⟩
      have p4 := p3 r K hr k (by omega)
      simp only [spec_l04Over.l1]
      rw [if_pos (by omega), w64 (i := ((a + 1 : Nat) : Int) - 1) (by omega) (by omega), show ((a + 1 : Nat) : Int) - 1 = (a : Int) by omega, if_pos (by omega), if_pos (by omega), if_pos (by omega), if_pos (by omega), e1, rd_nat s i hi, if_pos hlt, if_pos (by omega), if_pos (by omega), Int.toNat_natCast, hset]
      have e2 : D.take (a + 1) ++ D[a] :: D.drop (a + 1) = D.take a ++ D[a] :: D.drop a := by
        rw [List.drop_eq_getElem_cons hal, List.take_succ_eq_append_getElem hal, List.append_assoc]; rfl
      rw [e2]
      exact p4
    · refine ⟨D.take (a + 1) ++ s[i] :: D.drop (a + 1), ?_, ?_, fun r K hr k hk => ?_⟩
      · have := List.perm_middle (a := s[i]) (l₁ := D.take (a + 1)) (l₂ := D.drop (a + 1))
        rwa [List.take_append_drop] at this
      · refine List.pairwise_append.2 ⟨hD.sublist (List.take_sublist _ _), List.pairwise_cons.2 ⟨fun z hzm => by have := hz z hzm; omega, hD.sublist (List.drop_sublist _ _)⟩, fun z hzm w hw => ?_⟩
        have hza : D[a] ≤ z := by
          obtain ⟨j, hj, rfl⟩ := List.mem_iff_getElem.1 hzm
          rw [List.length_take] at hj
          rw [List.getElem_take]
          by_cases hja : j = a
          · subst hja; exact Int.le_refl _
          · exact List.pairwise_iff_getElem.1 hD j a (by omega) hal (by omega)
        rcases List.mem_cons.1 hw with rfl | hw
        · omega
        · have := hz w hw; omega
      · obtain ⟨k, rfl⟩ : ∃ q, k = q + 1 := ⟨k - 1, by omega⟩
        simp only [spec_l04Over.l1]
        rw [if_pos (by omega), w64 (i := ((a + 1 : Nat) : Int) - 1) (by omega) (by omega), show ((a + 1 : Nat) : Int) - 1 = (a : Int) by omega, if_pos (by omega), if_pos (by omega), if_pos (by omega), if_pos (by omega), e1, rd_nat s i hi, if_neg hlt, if_pos (by omega), if_pos (by omega), Int.toNat_natCast, hset, w64 (by omega) (by omega), show (i : Int) + 1 = ((i + 1 : Nat) : Int) by omega]
        exact hr k (by omega)
theorem over0 (x1 x6 : Int) (s : List Int) (h8 : s.length ≤ 8) : ∀ d i : Nat, i + d = s.length → ∀ D : List Int, D.Perm (s.take i) → Desc D → ∃ D' : List Int, D'.Perm s ∧ Desc D' ∧ ∀ (r : Option Int) (K : Nat), (∀ k, K ≤ k → spec_l04Over.l2 k x1 D' x6 0 = r) → ∀ k, K + 20 * d + 1 ≤ k → spec_l04Over.l0 k x1 D x6 i s = r
  | 0, i, e, D, hp, hD => by
    refine ⟨D, by rwa [List.take_of_length_le (by omega)] at hp, hD, fun r K hr k hk => ?_⟩
    obtain ⟨k, rfl⟩ : ∃ q, k = q + 1 := ⟨k - 1, by omega⟩
    simp only [spec_l04Over.l0]
    rw [if_neg (by omega)]
    exact hr k (by omega)
  | d + 1, i, e, D, hp, hD => by
    have hi : i < s.length := by omega
    have hDl : D.length = i := by rw [hp.length_eq, List.length_take]; omega
    obtain ⟨D1, p1, p2, p3⟩ := over1 x1 x6 s i hi h8 D (by omega) hD D.length (Nat.le_refl _) (by simp) (rd s (i : Int))
    obtain ⟨D', q1, q2, q3⟩ := over0 x1 x6 s h8 d (i + 1) (by omega) D1 (by
      refine p1.trans ?_
      rw [List.take_succ_eq_append_getElem hi]
      exact (List.Perm.cons _ hp).trans (List.perm_append_singleton _ _).symm) p2
    refine ⟨D', q1, q2, fun r K hr k hk => ?_⟩
    obtain ⟨k, rfl⟩ : ∃ q, k = q + 1 := ⟨k - 1, by omega⟩
    simp only [spec_l04Over.l0]
    rw [if_pos (by omega), if_pos (by omega), if_pos (by omega)]
    have := p3 r (K + 20 * d + 1) (fun k hk => q3 r K hr k hk) k (by omega)
    rw [List.take_length, List.drop_length] at this
    exact this
theorem over2 (D : List Int) (h8 : D.length ≤ 8) (hq : ∀ q ∈ D, 2 ≤ q ∧ q ≤ 4) (b : Nat) (hb : b ≤ D.length) : ∀ d j : Nat, j + d = b → ∀ k, d + 1 ≤ k → spec_l04Over.l2 k b D (prodL (D.drop j)) j = some (prodL (D.drop b))
  | 0, j, e, k, hk => by
    obtain ⟨k, rfl⟩ : ∃ q, k = q + 1 := ⟨k - 1, by omega⟩
    obtain rfl : j = b := by omega
    simp only [spec_l04Over.l2]
    rw [if_neg (by omega)]
  | d + 1, j, e, k, hk => by
    obtain ⟨k, rfl⟩ : ∃ q, k = q + 1 := ⟨k - 1, by omega⟩
    have hj : j < D.length := by omega
    have hqj := hq _ (List.getElem_mem hj)
    have hB := prodL_le8 (D.drop (j + 1)) (fun q h => hq q (List.mem_of_mem_drop h)) (by rw [List.length_drop]; omega)
    have hA := prodL_le8 (D.drop j) (fun q h => hq q (List.mem_of_mem_drop h)) (by rw [List.length_drop]; omega)
    have e1 : Int.tdiv (prodL (D.drop j)) D[j] = prodL (D.drop (j + 1)) := by
      rw [List.drop_eq_getElem_cons hj]
      simp only [prodL]
      rw [Int.mul_comm]
      exact Int.mul_tdiv_cancel _ (by omega)
    simp only [spec_l04Over.l2]
    rw [if_pos (by omega), if_pos (by omega), if_pos (by omega), rd_nat D j hj, if_neg (by omega), e1, w64 (by omega) (by omega), w64 (by omega) (by omega), show (j : Int) + 1 = ((j + 1 : Nat) : Int) by omega]
    exact over2 D h8 hq b hb d (j + 1) (by omega) k (by omega)
theorem prodTake (l : List Int) (h8 : l.length ≤ 8) (hq : ∀ q ∈ l, 2 ≤ q ∧ q ≤ 4) : ∀ (B A : List Int), A ++ B = l → ∀ k, B.length < k → impl_dividedBy.l0 k (prodL A) l l.length A.length = some (prodL l)
  | [], A, e, k, hk => by
    obtain ⟨k, rfl⟩ : ∃ q, k = q + 1 := ⟨k - 1, by simp at hk; omega⟩
    rw [List.append_nil] at e
    subst e
    simp only [impl_dividedBy.l0]
    rw [if_neg (by omega)]
  | b :: B, A, e, k, hk => by
    obtain ⟨k, rfl⟩ : ∃ q, k = q + 1 := ⟨k - 1, by simp at hk; omega⟩
    have hb := hq b (by rw [← e]; simp)
    have hl : A.length + (B.length + 1) = l.length := by rw [← e]; simp
    have hA := prodL_le8 (A ++ [b]) (fun q h => hq q (by rw [← e]; simp at h ⊢; rcases h with h | h <;> simp [h])) (by simp; omega)
    rw [prodL_snoc] at hA
    have e1 : rd l (A.length : Int) = b := by rw [← e, rd_mid]
    simp only [impl_dividedBy.l0]
    simp only [List.length_cons] at hk
    rw [if_pos (by omega), if_pos (by omega), if_pos (by omega), e1, w64 (by omega) (by omega), w64 (by omega) (by omega), ← prodL_snoc, show (A.length : Int) + 1 = ((A ++ [b]).length : Int) by simp]
    exact prodTake l h8 hq B (A ++ [b]) (by rw [← e]; simp) k (by omega)
theorem over_both (s : List Int) (hs : SpaceOk s) (b : Nat) (h1 : 1 ≤ b) (hb : b ≤ s.length) : ∃ p : Int, 1 ≤ p ∧ p ≤ 65536 ∧ (∃ D : List Int, D.Perm s ∧ p = prodL (D.drop b)) ∧ ∀ k, 300 ≤ k → spec_l04Over.f k s b = some p ∧ impl_dividedBy.f k s b = some p := by
  have h8 := hs.2.1
  obtain ⟨D, p1, p2, p3⟩ := over0 b (prodL s) s h8 s.length 0 (by omega) [] (by simp) List.Pairwise.nil
  have hDl : D.length = s.length := p1.length_eq
  have hqD : ∀ q ∈ D, 2 ≤ q ∧ q ≤ 4 := fun q hq => hs.2.2.1 q (p1.mem_iff.1 hq)
  have hpD := prodL_le8 (D.drop b) (fun q h => hqD q (List.mem_of_mem_drop h)) (by rw [List.length_drop]; omega)
  refine ⟨prodL (D.drop b), hpD.1, hpD.2, ⟨D, p1, rfl⟩, fun k hk => ⟨?_, ?_⟩⟩
  · unfold spec_l04Over.f
    rw [specN_ev s hs.2.2.1 h8 k (by omega), Option.bind_some]
    refine p3 _ 30 (fun k hk => ?_) k (by omega)
    have := over2 D (by omega) hqD b (by omega) b 0 (by omega) k (by omega)
    rw [List.drop_zero, perm_prodL p1] at this
    exact this
  · have hsrt := sorted_is s D p1 p2
    unfold impl_dividedBy.f slices_Clone_int64_int64.f slices_Sort_int64_int64.f impl_places.f
    rw [if_pos (by omega), Option.bind_some, if_pos (by omega), Option.bind_some, Option.bind_some, hsrt, w64 (by omega) (by omega)]
    have hm : mx ((s.length : Int) - (b : Int)) 0 = ((s.length - b : Nat) : Int) := by unfold mx; split <;> omega
    rw [hm, if_pos (by omega), if_pos (by omega), Option.bind_some, Int.toNat_natCast, List.take_reverse, hDl, show s.length - (s.length - b) = b by omega]
    have := prodTake (D.drop b).reverse (by simp; omega) (fun q h => hqD q (List.mem_of_mem_drop (List.mem_reverse.1 h))) (D.drop b).reverse [] rfl k (by simp; omega)
    rw [perm_prodL (List.reverse_perm (D.drop b))] at this
    exact this

theorem choiceBound_both (s : List Int) (b : Int) : ∃ z e : Int, ∀ k, 400 ≤ k → spec_ChoiceBound.f k s b = some (z, e) ∧ impl_ChoiceBound.f k s b = some (z, e) := by
  obtain ⟨c, hc⟩ : ∃ c : Int, c = (if SpaceOk s then (if 1 ≤ b ∧ b ≤ mn 3 (s.length : Int) then 0 else 2) else 1) := ⟨_, rfl⟩
  by_cases h0 : c = 0
  · have hs : SpaceOk s := Classical.byContradiction fun h => by rw [if_neg h] at hc; omega
    rw [if_pos hs] at hc
    have hb : 1 ≤ b ∧ b ≤ mn 3 (s.length : Int) := Classical.byContradiction fun h => by rw [if_neg h] at hc; omega
    have hbs : b ≤ (s.length : Int) := by have := hb.2; unfold mn at this; split at this <;> omega
    obtain ⟨m, rfl⟩ : ∃ m : Nat, b = m := ⟨b.toNat, by omega⟩
    obtain ⟨p, p1, p2, _, hp⟩ := over_both s hs m (by omega) (by omega)
    refine ⟨wrap64 (Int.tdiv (prodL s) p), 0, fun k hk => ⟨?_, ?_⟩⟩
    · unfold spec_ChoiceBound.f
      rw [codeNil s m k (by omega), if_pos hs, if_pos hb, Option.bind_some, if_pos rfl, specN_ev s hs.2.2.1 hs.2.1 k (by omega), Option.bind_some, (hp k (by omega)).1, Option.bind_some, if_neg (by omega)]
    · unfold impl_ChoiceBound.f
      rw [rowsNil s m k (by omega), if_pos hs, if_pos hb, Option.bind_some, if_pos rfl, implCount_ev s hs.2.2.1 hs.2.1 k (by omega), Option.bind_some, (hp k (by omega)).2, Option.bind_some, if_neg (by omega)]
  · refine ⟨0, c, fun k hk => ⟨?_, ?_⟩⟩
    · unfold spec_ChoiceBound.f
      rw [codeNil s b k (by omega), ← hc, Option.bind_some, if_neg h0]
    · unfold impl_ChoiceBound.f
      rw [rowsNil s b k (by omega), ← hc, Option.bind_some, if_neg h0]

theorem str_pos (s rows : List Int) : ∀ T : Nat, 0 < strV s rows T 1 0 → ∃ t : Nat, strV s rows T 1 0 = (t : Int) ∧ 1 ≤ t ∧ t ≤ T ∧ (0 : Int) ∉ oftT s t rows
  | 0, h => by simp [strV] at h
  | T + 1, h => by
    rw [strV_last, show 1 + T = T + 1 by omega] at h ⊢
    by_cases hz : (0 : Int) ∈ oftT s (T + 1) rows
    · rw [if_pos hz] at h ⊢
      obtain ⟨t, e, h1, h2, h3⟩ := str_pos s rows T h
      exact ⟨t, e, h1, by omega, h3⟩
    · rw [if_neg hz]
      exact ⟨T + 1, rfl, by omega, Nat.le_refl _, hz⟩
theorem all_had (s : List Int) (hs : SpaceOk s) (t : Nat) (rows : List Int) (h : (0 : Int) ∉ oftT s t rows) : ∀ c ∈ chAll s (plc s.length t 0), ∃ r ∈ rows, hasB (digL s r) c t = true := by
  intro c hc
  have hl : leftOf s t (chAll s (plc s.length t 0)) rows = [] := Classical.byContradiction fun hn => h ((zero_mem s hs t rows).2 hn)
  refine Classical.byContradiction fun hn => ?_
  have : c ∈ leftOf s t (chAll s (plc s.length t 0)) rows := by
    unfold leftOf
    rw [List.mem_filter]
    refine ⟨hc, List.all_eq_true.2 fun r hr => ?_⟩
    cases hb : hasB (digL s r) c t with
    | false => rfl
    | true => exact absurd ⟨r, hr, hb⟩ hn
  rw [hl] at this
  simp at this
theorem count_le : ∀ (N : Nat) (l : List Int), (∀ v : Nat, v < N → (v : Int) ∈ l) → N ≤ l.length
  | 0, l, _ => Nat.zero_le _
  | N + 1, l, h => by
    have hm := h N (by omega)
    have h1 := count_le N (l.erase (N : Int)) (fun v hv => (List.mem_erase_of_ne (by omega)).2 (h v (by omega)))
    rw [List.length_erase_of_mem hm] at h1
    have := List.length_pos_of_mem hm
    omega
theorem rows_ge (s : List Int) (hs : SpaceOk s) (t : Nat) (rows p : List Int) (hp : p ∈ plc s.length t 0) (h : ∀ c ∈ chAll s (plc s.length t 0), ∃ r ∈ rows, hasB (digL s r) c t = true) : prodI (szs s p) ≤ (rows.length : Int) := by
  obtain ⟨hpl, hpo⟩ := plc_ok s.length t 0 p hp
  have hz := szs_ok s hs.2.2.1 p hpo
  have hzl : (szs s p).length = t := by unfold szs; rw [List.length_map, hpl]
  have h1 := prodI_pos (szs s p) hz
  have := count_le (prodI (szs s p)).toNat (rows.map fun r => wordI 0 (szs s p) (p.map (rd (digL s r)))) (fun v hv => by
    have hc : p ++ digL (szs s p) (v : Int) ∈ chAll s (plc s.length t 0) := by
      unfold chAll
      refine List.mem_flatMap.2 ⟨p, hp, ?_⟩
      unfold chOf
      exact List.mem_map.2 ⟨v, List.mem_range.2 hv, rfl⟩
    obtain ⟨r, hr, hb⟩ := h _ hc
    have e := (has_iff (digL s r) p (digL (szs s p) (v : Int)) t hpl (by rw [digL_len, hzl])).1 hb
    refine List.mem_map.2 ⟨r, hr, ?_⟩
    rw [e]
    exact word_dig (szs s p) hz (v : Int) (by omega) (by omega))
  rw [List.length_map] at this
  omega
theorem plc_mono (n : Nat) : ∀ (t a : Nat), ∀ p ∈ plc n t (a + 1), p ∈ plc n t a
  | 0, a, p, h => h
  | t + 1, a, p, h => by
    simp only [plc, List.mem_flatMap, List.mem_map, List.mem_range'_1] at h ⊢
    obtain ⟨i, hi, q, hq, e⟩ := h
    exact ⟨i, by omega, q, hq, e⟩
theorem plc_sub : ∀ {L r : List Int}, L.Sublist r → ∀ pre : List Int, ∃ p ∈ plc (pre.length + r.length) L.length pre.length, szs (pre ++ r) p = L := by
  intro L r h
  induction h with
  | slnil => intro pre; exact ⟨[], by simp [plc], rfl⟩
  | @cons l1 l2 a h ih =>
    intro pre
    obtain ⟨p, hp, e⟩ := ih (pre ++ [a])
    rw [List.length_append, List.length_singleton] at hp
    refine ⟨p, ?_, by rw [← e, List.append_assoc]; rfl⟩
    have := plc_mono _ _ _ p hp
    rw [List.length_cons, show pre.length + (l2.length + 1) = pre.length + 1 + l2.length by omega]
    exact this
  | @cons_cons l1 l2 a h ih =>
    intro pre
    obtain ⟨p, hp, e⟩ := ih (pre ++ [a])
    rw [List.length_append, List.length_singleton] at hp
    refine ⟨(pre.length : Int) :: p, ?_, ?_⟩
    · rw [List.length_cons, List.length_cons, show pre.length + (l2.length + 1) = pre.length + 1 + l2.length by omega]
      simp only [plc, List.mem_flatMap, List.mem_map, List.mem_range'_1]
      exact ⟨pre.length, by omega, p, hp, rfl⟩
    · rw [List.append_assoc] at e
      have e2 : rd (pre ++ a :: l2) (pre.length : Int) = a := by simp [rd]
      show rd (pre ++ a :: l2) (pre.length : Int) :: szs (pre ++ a :: l2) p = _
      rw [e2]
      exact congrArg _ e
theorem perm_sub {a b : List Int} (h : a.Perm b) : ∀ L' : List Int, L'.Sublist a → ∃ L : List Int, L.Sublist b ∧ L.Perm L' := by
  induction h with
  | nil => intro L' h; exact ⟨L', h, List.Perm.refl _⟩
  | cons x h ih =>
    intro L' hL
    cases hL with
    | cons _ h1 =>
      obtain ⟨L, h2, h3⟩ := ih _ h1
      exact ⟨L, h2.cons _, h3⟩
    | cons_cons _ h1 =>
      obtain ⟨L, h2, h3⟩ := ih _ h1
      exact ⟨x :: L, h2.cons_cons _, h3.cons _⟩
  | swap x y l =>
    intro L' hL
    cases hL with
    | cons _ h1 =>
      cases h1 with
      | cons _ h2 => exact ⟨_, (h2.cons _).cons _, List.Perm.refl _⟩
      | cons_cons _ h2 => exact ⟨_, (h2.cons _).cons_cons _, List.Perm.refl _⟩
    | cons_cons _ h1 =>
      cases h1 with
      | cons _ h2 => exact ⟨_, (h2.cons_cons _).cons _, List.Perm.refl _⟩
      | cons_cons _ h2 => exact ⟨_, (h2.cons_cons _).cons_cons _, List.Perm.swap _ _ _⟩
  | trans _ _ ih1 ih2 =>
    intro L' hL
    obtain ⟨L1, a1, a2⟩ := ih1 _ hL
    obtain ⟨L2, b1, b2⟩ := ih2 _ a1
    exact ⟨L2, b1, b2.trans a2⟩
theorem prodL_app : ∀ (a b : List Int), prodL (a ++ b) = prodL a * prodL b
  | [], b => by simp [prodL]
  | x :: a, b => by
    show x * prodL (a ++ b) = x * prodL a * prodL b
    rw [prodL_app a b, Int.mul_assoc]
theorem bound_le (s : List Int) (hs : SpaceOk s) (rows D : List Int) (m : Nat) (hm : m ≤ s.length) (hD : D.Perm s) (h : (0 : Int) ∉ oftT s m rows) : wrap64 (Int.tdiv (prodL s) (prodL (D.drop m))) ≤ (rows.length : Int) := by
  obtain ⟨L, h1, h2⟩ := perm_sub hD (D.take m) (List.take_sublist m D)
  have hl : L.length = m := by rw [h2.length_eq, List.length_take, hD.length_eq]; omega
  obtain ⟨p, hp, e⟩ := plc_sub h1 []
  rw [List.length_nil, Nat.zero_add, List.nil_append, hl] at *
  have hg := rows_ge s hs m rows p hp (all_had s hs m rows h)
  have hqD : ∀ q ∈ D, 2 ≤ q ∧ q ≤ 4 := fun q hq => hs.2.2.1 q (hD.mem_iff.1 hq)
  have hDl := hD.length_eq
  have h8 := hs.2.1
  have hp1 := prodL_le8 (D.drop m) (fun q h => hqD q (List.mem_of_mem_drop h)) (by rw [List.length_drop]; omega)
  have hp2 := prodL_le8 (D.take m) (fun q h => hqD q (List.mem_of_mem_take h)) (by rw [List.length_take]; omega)
  have e1 : prodL s = prodL (D.take m) * prodL (D.drop m) := by rw [← perm_prodL hD, ← prodL_app, List.take_append_drop]
  rw [e1, Int.mul_tdiv_cancel _ (by omega), w64 (by omega) (by omega), ← perm_prodL h2, ← e, ← prodI_eq]
  exact hg
theorem bound_val (s : List Int) (hs : SpaceOk s) (m : Nat) (h1 : 1 ≤ m) (h2 : m ≤ min 3 s.length) : ∃ D : List Int, D.Perm s ∧ ∀ k, 400 ≤ k → impl_ChoiceBound.f k s m = some (wrap64 (Int.tdiv (prodL s) (prodL (D.drop m))), 0) := by
  obtain ⟨p, p1, p2, ⟨D, d1, d2⟩, hp⟩ := over_both s hs m h1 (by omega)
  have hb : 1 ≤ (m : Int) ∧ (m : Int) ≤ mn 3 (s.length : Int) := by unfold mn; split <;> omega
  refine ⟨D, d1, fun k hk => ?_⟩
  unfold impl_ChoiceBound.f
  rw [rowsNil s m k (by omega), if_pos hs, if_pos hb, Option.bind_some, if_pos rfl, implCount_ev s hs.2.2.1 hs.2.1 k (by omega), Option.bind_some, (hp k (by omega)).2, Option.bind_some, if_neg (by omega), d2]
theorem strength_more (s rows : List Int) (hl : rows.length ≤ 1048576) : ∃ z e : Int, Ev (fun k => impl_StrengthOf.f k s rows) (z, e) ∧ Ev (fun k => spec_StrengthOf.f k s rows) (z, e) ∧ (e = 0 → 0 < z → ∃ lw : Int, Ev (fun k => impl_ChoiceBound.f k s z) (lw, 0) ∧ lw ≤ (rows.length : Int)) := by
  obtain ⟨z, e, h, K, hK⟩ := strength_both s rows hl
  refine ⟨z, e, ⟨K, fun k hk => (hK k hk).2⟩, ⟨K, fun k hk => (hK k hk).1⟩, fun he hz => ?_⟩
  obtain ⟨hs, _, _, rfl⟩ := h he
  obtain ⟨t, e1, t1, t2, t3⟩ := str_pos s rows _ hz
  obtain ⟨D, d1, d2⟩ := bound_val s hs t t1 t2
  rw [e1]
  exact ⟨_, ⟨400, d2⟩, bound_le s hs rows D t (by omega) d1 t3⟩

theorem uw (i : Int) : 0 ≤ IntKind.u64.wrap i ∧ IntKind.u64.wrap i < 18446744073709551616 := by
  have e : IntKind.u64.wrap i = i % 18446744073709551616 := by simp [IntKind.wrap, IntKind.bits, IntKind.signed]
  rw [e]; omega
theorem bandu (Y : Int) (h0 : 0 ≤ Y) (h1 : Y < 4611686018427387904) : ∃ a : Nat, Go.bits .and .u64 Y 16777215 = (a : Int) ∧ a ≤ 16777215 := by
  obtain ⟨y, rfl⟩ : ∃ y : Nat, Y = y := ⟨Y.toNat, by omega⟩
  refine ⟨y &&& 16777215, ?_, Nat.and_le_right⟩
  exact (bits_nat .u64 63 (by decide) (fun n h0 h1 => u64 h0 h1) y 16777215 (by omega) (by omega)).1
theorem rd_in (s : List Int) (p : Int) (h0 : 0 ≤ p) (h1 : p < (s.length : Int)) : rd s p ∈ s := by
  obtain ⟨i, rfl⟩ : ∃ i : Nat, p = i := ⟨p.toNat, by omega⟩
  have hi : i < s.length := by omega
  simp [rd, List.getElem?_eq_getElem hi]
/-- The source's bytes. -/
def Src (s : List Int) : Prop := (∀ x ∈ s, 0 ≤ x ∧ x < 256) ∧ s.length ≤ 4096
theorem next_ev {s : List Int} (hs : Src s) (p h n : Int) (hp : 0 ≤ p) (hn : 1 ≤ n) : ∃ v p' h', spec_l01Next.f s p h n = some (v, p', h') ∧ 0 ≤ v ∧ v < n ∧ 0 ≤ p' := by
  unfold spec_l01Next.f
  rw [if_neg (by omega)]
  generalize hX : IntKind.u64.wrap (IntKind.u64.wrap (h * 6364136223846793005) + 1442695040888963407) = X
  have hX0 : 0 ≤ X ∧ X < 18446744073709551616 := by rw [← hX]; exact uw _
  obtain ⟨a, ha, hal⟩ := bandu (X / 8589934592) (by omega) (by omega)
  have hw : wrap64 (a : Int) = a := w64 (by omega) (by omega)
  rw [ha, hw]
  have hl := hs.2
  by_cases hpl : p < (s.length : Int)
  · have hb := hs.1 _ (rd_in s p hp hpl)
    have hb2 : wrap64 (rd s p) = rd s p := w64 (by omega) (by omega)
    have hb3 : wrap64 ((a : Int) + rd s p) = (a : Int) + rd s p := w64 (by omega) (by omega)
    have hb4 : wrap64 (p + 1) = p + 1 := w64 (by omega) (by omega)
    rw [if_pos hpl, if_pos hp, if_neg (by omega), hb2, hb3, hb4]
    exact ⟨_, _, _, rfl, Int.tmod_nonneg _ (by omega), Int.tmod_lt_of_pos _ (by omega), by omega⟩
  · rw [if_neg hpl, if_neg (by omega)]
    exact ⟨_, _, _, rfl, Int.tmod_nonneg _ (by omega), Int.tmod_lt_of_pos _ (by omega), hp⟩
theorem pick_ev {s : List Int} (hs : Src s) (p h : Int) (L : List Int) (hp : 0 ≤ p) (hn : 1 ≤ L.length) : ∃ v p' h', spec_l01Pick.f s p h L = some (v, p', h') ∧ v ∈ L ∧ 0 ≤ p' := by
  obtain ⟨v, p', h', e, h0, h1, h2⟩ := next_ev hs p h (L.length : Int) hp (by omega)
  unfold spec_l01Pick.f
  rw [e, Option.bind_some, if_pos h0, if_pos h1]
  exact ⟨_, _, _, rfl, rd_in L v h0 h1, h2⟩
theorem from_l (l : List Int) (hl : l.length ≤ 4096) : ∀ (d i : Nat) (h : Int), i + d = l.length → ∃ h', ∀ k, d < k → spec_l01From.l0 k l i l 0 h = some (l, 0, h')
  | 0, i, h, e => ⟨h, fun k hk => by
    obtain ⟨k, rfl⟩ : ∃ q, k = q + 1 := ⟨k - 1, by omega⟩
    simp only [spec_l01From.l0]; rw [if_neg (by omega)]⟩
  | d+1, i, h, e => by
    have hw : wrap64 ((i : Int) + 1) = ((i + 1 : Nat) : Int) := by rw [w64 (by omega) (by omega)]; omega
    obtain ⟨h', g⟩ := from_l l hl d (i + 1) (IntKind.u64.wrap ((IntKind.u64.wrap ((IntKind.u64.wrap (h * 1099511628211)) + (IntKind.u64.wrap (rd l i)))) + 251)) (by omega)
    refine ⟨h', fun k hk => ?_⟩
    obtain ⟨k, rfl⟩ : ∃ q, k = q + 1 := ⟨k - 1, by omega⟩
    simp only [spec_l01From.l0]; rw [if_pos (by omega), if_pos (by omega), if_pos (by omega), hw]
    exact g k (by omega)
theorem from_ev {l : List Int} (hs : Src l) : ∃ h, Ev (fun k => spec_l01From.f k l) (l, 0, h) := by
  obtain ⟨h', g⟩ := from_l l hs.2 l.length 0 (IntKind.u64.wrap (14111 + (IntKind.u64.wrap ((l.length : Int))))) (by omega)
  exact ⟨h', l.length + 1, fun k hk => g k (by omega)⟩

theorem near_ev {s : List Int} (hs : Src s) (p h m : Int) (hp : 0 ≤ p) (h0 : 0 ≤ m) (h1 : m ≤ 1000000) : ∃ v p' h', spec_l01Near.f s p h m = some (v, p', h') ∧ 0 ≤ p' := by
  obtain ⟨v, p1, s1, g, _, _, c1⟩ := next_ev hs p h 14 hp (by omega)
  have hw : wrap64 (m + 1) = m + 1 := w64 (by omega) (by omega)
  unfold spec_l01Near.f
  rw [g, Option.bind_some, hw]
  by_cases hv : v = 0
  · obtain ⟨v2, p2, s2, g2, _, c2⟩ := pick_ev hs p1 s1 [(-1), m + 1, 1099511627776, (-4611686018427387904)] c1 (by simp)
    rw [if_pos hv, g2]; exact ⟨_, _, _, rfl, c2⟩
  · obtain ⟨v2, p2, s2, g2, _, _, c2⟩ := next_ev hs p1 s1 (m + 1) c1 (by omega)
    rw [if_neg hv, g2]; exact ⟨_, _, _, rfl, c2⟩

/-- A space as it is drawn. -/
def Dr (X : List Int) : Prop := 1 ≤ X.length ∧ X.length ≤ 8 ∧ ∀ q ∈ X, 2 ≤ q ∧ q ≤ 4
theorem dr_snoc {X : List Int} {q : Int} (hl : X.length ≤ 7) (hX : ∀ q ∈ X, 2 ≤ q ∧ q ≤ 4) (h : 2 ≤ q ∧ q ≤ 4) : Dr (X ++ [q]) := by
  refine ⟨by simp, by simp; omega, fun x hx => ?_⟩
  rcases List.mem_append.1 hx with h1 | h1
  · exact hX x h1
  · rw [List.mem_singleton.1 h1]; exact h
theorem drawof_l {s : List Int} (hs : Src s) (most kind : Int) (hk : kind = 0 ∨ 2 ≤ kind ∧ kind ≤ 4) : ∀ (d : Nat) (X : List Int) (p h : Int), X.length + d ≤ 8 → (∀ q ∈ X, 2 ≤ q ∧ q ≤ 4) → 0 ≤ p → ∃ X' p' h', Ev (fun k => spec_l01DrawOf.l0 k most kind (d : Int) s p h X) (X', p', h') ∧ Dr X' ∧ 0 ≤ p' := by
  have fin : ∀ (X : List Int) (p h : Int), X.length ≤ 8 → (∀ q ∈ X, 2 ≤ q ∧ q ≤ 4) → 0 ≤ p → ∃ X' p' h', (if (X.length : Int) = 0 then (if X.length < 17592186044416 then (some ((X ++ [2]), p, h)) else none) else some (X, p, h)) = some (X', p', h') ∧ Dr X' ∧ 0 ≤ p' := by
    intro X p h hl hX hp
    by_cases h0 : (X.length : Int) = 0
    · rw [if_pos h0, if_pos (by omega)]
      exact ⟨_, _, _, rfl, dr_snoc (by omega) hX (by decide), hp⟩
    · rw [if_neg h0]
      exact ⟨_, _, _, rfl, ⟨by omega, hl, hX⟩, hp⟩
  intro d
  induction d with
  | zero =>
    intro X p h hl hX hp
    obtain ⟨X', p', h', e, h1, h2⟩ := fin X p h (by omega) hX hp
    refine ⟨X', p', h', (Ev.of _).step fun k => ?_, h1, h2⟩
    simp only [spec_l01DrawOf.l0]
    rw [if_neg (by omega)]
    exact e
  | succ d ih =>
    intro X p h hl hX hp
    have hw : wrap64 (((d + 1 : Nat) : Int) - 1) = (d : Int) := by rw [w64 (by omega) (by omega)]; omega
    by_cases hk0 : kind = 0
    · obtain ⟨q, p1, h1, g1, gq, gp⟩ := pick_ev hs p h [2, 2, 3, 4] hp (by simp)
      have hq : 2 ≤ q ∧ q ≤ 4 := by
        simp only [List.mem_cons, List.not_mem_nil, or_false] at gq
        rcases gq with rfl | rfl | rfl | rfl <;> decide
      by_cases hm : wrap64 (prodL X * q) > most
      · obtain ⟨X', p', h', e, f1, f2⟩ := fin X p1 h1 (by omega) hX gp
        refine ⟨X', p', h', ⟨20, fun k hk => ?_⟩, f1, f2⟩
        obtain ⟨k, rfl⟩ : ∃ q, k = q + 1 := ⟨k - 1, by omega⟩
        show spec_l01DrawOf.l0 (k + 1) _ _ _ _ _ _ _ = _
        simp only [spec_l01DrawOf.l0]
        rw [if_pos (by omega), if_pos hk0, g1, Option.bind_some, specN_ev X hX (by omega) k (by omega), Option.bind_some, if_pos hm]
        exact e
      · obtain ⟨X', p', h', ⟨K, e⟩, f1, f2⟩ := ih (X ++ [q]) p1 h1 (by rw [List.length_append, List.length_singleton]; omega) (dr_snoc (by omega) hX hq).2.2 gp
        refine ⟨X', p', h', ⟨K + 20, fun k hk => ?_⟩, f1, f2⟩
        obtain ⟨k, rfl⟩ : ∃ q, k = q + 1 := ⟨k - 1, by omega⟩
        show spec_l01DrawOf.l0 (k + 1) _ _ _ _ _ _ _ = _
        simp only [spec_l01DrawOf.l0]
        rw [if_pos (by omega), if_pos hk0, g1, Option.bind_some, specN_ev X hX (by omega) k (by omega), Option.bind_some, if_neg hm, if_pos (by omega), hw]
        exact e k (by omega)
    · have hq : 2 ≤ kind ∧ kind ≤ 4 := by omega
      by_cases hm : wrap64 (prodL X * kind) > most
      · obtain ⟨X', p', h', e, f1, f2⟩ := fin X p h (by omega) hX hp
        refine ⟨X', p', h', ⟨20, fun k hk => ?_⟩, f1, f2⟩
        obtain ⟨k, rfl⟩ : ∃ q, k = q + 1 := ⟨k - 1, by omega⟩
        show spec_l01DrawOf.l0 (k + 1) _ _ _ _ _ _ _ = _
        simp only [spec_l01DrawOf.l0]
        rw [if_pos (by omega), if_neg hk0, specN_ev X hX (by omega) k (by omega), Option.bind_some, if_pos hm]
        exact e
      · obtain ⟨X', p', h', ⟨K, e⟩, f1, f2⟩ := ih (X ++ [kind]) p h (by rw [List.length_append, List.length_singleton]; omega) (dr_snoc (by omega) hX hq).2.2 hp
        refine ⟨X', p', h', ⟨K + 20, fun k hk => ?_⟩, f1, f2⟩
        obtain ⟨k, rfl⟩ : ∃ q, k = q + 1 := ⟨k - 1, by omega⟩
        show spec_l01DrawOf.l0 (k + 1) _ _ _ _ _ _ _ = _
        simp only [spec_l01DrawOf.l0]
        rw [if_pos (by omega), if_neg hk0, specN_ev X hX (by omega) k (by omega), Option.bind_some, if_neg hm, if_pos (by omega), hw]
        exact e k (by omega)
theorem drawof_ev {s : List Int} (hs : Src s) (most p h : Int) (hp : 0 ≤ p) : ∃ X p' h', Ev (fun k => spec_l01DrawOf.f k s p h most) (X, p', h') ∧ Dr X ∧ 0 ≤ p' := by
  obtain ⟨kd, p1, h1, g1, gk, gp⟩ := pick_ev hs p h [0, 2, 2, 3, 3] hp (by simp)
  obtain ⟨v, p2, h2, g2, v0, v1, gp2⟩ := next_ev hs p1 h1 8 gp (by omega)
  have hk : kd = 0 ∨ 2 ≤ kd ∧ kd ≤ 4 := by
    simp only [List.mem_cons, List.not_mem_nil, or_false] at gk
    rcases gk with rfl | rfl | rfl | rfl | rfl <;> decide
  obtain ⟨d, rfl⟩ : ∃ d : Nat, v = d := ⟨v.toNat, by omega⟩
  obtain ⟨X, p', h', e, f1, f2⟩ := drawof_l hs most kd hk (d + 1) [] p2 h2 (by simp; omega) (by simp) gp2
  refine ⟨X, p', h', e.same fun k => ?_, f1, f2⟩
  unfold spec_l01DrawOf.f
  rw [g1, Option.bind_some, g2, Option.bind_some, w64 (by omega) (by omega), show (1 : Int) + (d : Int) = ((d + 1 : Nat) : Int) by omega]
theorem badsp_l : ∀ (d : Nat) (s X : List Int) (p h : Int), 6 ≤ X.length + d → X.length ≤ 8 → ∃ X', X'.length ≤ 8 ∧ Ev (fun k => spec_l01Bad.l0 k s p h X) (X', p, h)
  | 0, s, X, p, h, e, hl => ⟨X, hl, (Ev.of _).step fun k => by
    simp only [spec_l01Bad.l0]
    rw [if_neg (by omega)]⟩
  | d + 1, s, X, p, h, e, hl => by
    by_cases h6 : (X.length : Int) < 6
    · obtain ⟨X', h1, h2⟩ := badsp_l d s (X ++ [4]) p h (by rw [List.length_append, List.length_singleton]; omega) (by rw [List.length_append, List.length_singleton]; omega)
      refine ⟨X', h1, h2.step fun k => ?_⟩
      simp only [spec_l01Bad.l0]
      rw [if_pos h6, if_pos (by omega)]
    · refine ⟨X, hl, (Ev.of _).step fun k => ?_⟩
      simp only [spec_l01Bad.l0]
      rw [if_neg h6]
theorem badsp_ev {s : List Int} (hs : Src s) (p h : Int) (hp : 0 ≤ p) {X : List Int} (hX : Dr X) : ∃ X' p' h', X'.length ≤ 8 ∧ Ev (fun k => spec_l01Bad.f k s p h X) (X', p', h') ∧ 0 ≤ p' := by
  have hXl := hX.2.1
  obtain ⟨v, p1, h1, g1, v0, v1, gp⟩ := next_ev hs p h 50 hp (by omega)
  have start : ∀ k, spec_l01Bad.f k s p h X = (if v = 0 then (some (([] : List Int), p1, h1)) else (if v = 1 then ((spec_l01Next.f s p1 h1 (X.length : Int)).bind fun bt370 => ((spec_l01Pick.f s bt370.2.1 bt370.2.2 (([1, 5, 0, (-1), 1099511627776] : List Int))).bind fun bt376 => (if 0 ≤ bt370.1 then (if bt370.1 < (X.length : Int) then (some ((X.set (bt370.1 : Int).toNat bt376.1), bt376.2.1, bt376.2.2)) else (none)) else (none)))) else (if v = 2 then (spec_l01Bad.l0 k s p1 h1 X) else (some (X, p1, h1))))) := fun k => by
    unfold spec_l01Bad.f
    rw [ownl X (by omega), Option.bind_some, g1, Option.bind_some]
  by_cases c0 : v = 0
  · exact ⟨[], p1, h1, by simp, ⟨0, fun k _ => by show spec_l01Bad.f k s p h X = _; rw [start, if_pos c0]⟩, gp⟩
  by_cases c1 : v = 1
  · obtain ⟨i, p2, h2, g2, i0, i1, gp2⟩ := next_ev hs p1 h1 (X.length : Int) gp (by have := hX.1; omega)
    obtain ⟨q, p3, h3, g3, _, gp3⟩ := pick_ev hs p2 h2 [1, 5, 0, (-1), 1099511627776] gp2 (by simp)
    refine ⟨X.set i.toNat q, p3, h3, by rw [List.length_set]; exact hXl, ⟨0, fun k _ => ?_⟩, gp3⟩
    show spec_l01Bad.f k s p h X = _
    rw [start, if_neg c0, if_pos c1, g2, Option.bind_some, g3, Option.bind_some, if_pos i0, if_pos i1]
  by_cases c2 : v = 2
  · obtain ⟨X', f1, f2⟩ := badsp_l 6 s X p1 h1 (by omega) hXl
    refine ⟨X', p1, h1, f1, f2.same fun k => ?_, gp⟩
    rw [start, if_neg c0, if_neg c1, if_pos c2]
  · refine ⟨X, p1, h1, hXl, ⟨0, fun k _ => ?_⟩, gp⟩
    show spec_l01Bad.f k s p h X = _
    rw [start, if_neg c0, if_neg c1, if_neg c2]

theorem draw10_ev {l : List Int} (hs : Src l) : ∃ X t, X.length ≤ 8 ∧ Ev (fun k => spec_l10Draw.f k l) (X, t) := by
  obtain ⟨h0, g0⟩ := from_ev hs
  obtain ⟨m, p1, h1, g1, _, gp1⟩ := pick_ev hs 0 h0 [8, 27, 81] (by omega) (by simp)
  obtain ⟨Y, p2, h2, g2, hY, gp2⟩ := drawof_ev hs m p1 h1 gp1
  obtain ⟨X, p3, h3, hX, g3, gp3⟩ := badsp_ev hs p2 h2 gp2 hY
  obtain ⟨a, p4, h4, g4, gp4⟩ := near_ev hs p3 h3 3 gp3 (by omega) (by omega)
  obtain ⟨t, p5, h5, g5, _, _⟩ := pick_ev hs p4 h4 [1, 2, 2, 2, 3, a] gp4 (by simp)
  refine ⟨X, t, hX, Ev.bind g0 (Ev.bind (v := (Y, p2, h2)) ?_ (Ev.bind g3 ⟨0, fun k _ => ?_⟩))⟩
  · obtain ⟨K, g2⟩ := g2
    refine ⟨K, fun k hk => ?_⟩
    show spec_l01Small.f k l 0 h0 = _
    unfold spec_l01Small.f
    rw [g1, Option.bind_some]
    have := g2 k hk
    dsimp only at this ⊢
    rw [this]; rfl
  · dsimp only
    rw [g4, Option.bind_some, g5]; rfl

def leftB : List (List Int) → List Bool → List (List Int)
  | x :: X, b :: h => if b = true then leftB X h else x :: leftB X h
  | _, _ => []
def cntF : List Bool → Nat
  | [] => 0
  | b :: h => (if b = true then 0 else 1) + cntF h
theorem leftB_new : ∀ X : List (List Int), leftB X (List.replicate X.length false) = X
  | [] => rfl
  | x :: X => by simp only [List.length_cons, List.replicate_succ, leftB, Bool.false_eq_true, if_false]; rw [leftB_new X]
theorem leftB_len : ∀ (X : List (List Int)) (h : List Bool), h.length = X.length → (leftB X h).length = cntF h
  | [], [], _ => rfl
  | x :: X, b :: h, e => by
    have ih := leftB_len X h (by simpa using e)
    simp only [leftB, cntF]
    cases b <;> simp [ih] <;> omega
  | [], _ :: _, e => by simp at e
  | _ :: _, [], e => by simp at e
theorem leftB_sub : ∀ (X : List (List Int)) (h : List Bool), ∀ c ∈ leftB X h, c ∈ X
  | [], _, c, hc => by simp [leftB] at hc
  | x :: X, [], c, hc => by simp [leftB] at hc
  | x :: X, b :: h, c, hc => by
    simp only [leftB] at hc
    split at hc
    · exact List.mem_cons_of_mem _ (leftB_sub X h c hc)
    · rcases List.mem_cons.1 hc with rfl | hc
      · exact List.mem_cons_self
      · exact List.mem_cons_of_mem _ (leftB_sub X h c hc)
theorem leftB_filter (p : List Int → Bool) : ∀ (X : List (List Int)) (h h' : List Bool), h.length = X.length → h'.length = X.length → (∀ (i : Nat) (hi : i < X.length), h'.getD i false = true ↔ h.getD i false = true ∨ p X[i] = true) → leftB X h' = (leftB X h).filter fun c => !p c
  | [], [], [], _, _, _ => rfl
  | x :: X, b :: h, b' :: h', e, e', hi => by
    have ih := leftB_filter p X h h' (by simpa using e) (by simpa using e') (fun i hl => by
      have := hi (i + 1) (by simpa using hl)
      simpa using this)
    have h0 := hi 0 (by simp)
    simp only [List.getD_cons_zero, List.getElem_cons_zero] at h0
    simp only [leftB]
    rw [ih]
    cases b <;> cases b' <;> cases hp : p x <;> simp_all
  | [], _ :: _, _, e, _, _ => by simp at e
  | [], [], _ :: _, _, e, _ => by simp at e
  | _ :: _, [], _, e, _, _ => by simp at e
  | _ :: _, _ :: _, [], _, e, _ => by simp at e
theorem cntF_set : ∀ (h : List Bool) (n : Nat), n < h.length → h.getD n false = false → cntF (h.set n true) + 1 = cntF h
  | b :: h, 0, _, e => by
    simp only [List.getD_cons_zero] at e
    subst e
    simp [cntF]; omega
  | b :: h, n + 1, hn, e => by
    have ih := cntF_set h n (by simpa using hn) (by simpa using e)
    simp only [List.set_cons_succ, cntF]
    omega
theorem mark_cnt : ∀ (L : List Int) (h : List Bool) (c : Int), (∀ n ∈ L, 0 ≤ n ∧ n < (h.length : Int)) → (markB h c L).2 + (cntF (markB h c L).1 : Int) = c + cntF h ∧ (markB h c L).1.length = h.length ∧ ∀ i : Nat, i < h.length → ((markB h c L).1.getD i false = true ↔ h.getD i false = true ∨ (i : Int) ∈ L)
  | [], h, c, _ => by simp [markB]
  | n :: L, h, c, hL => by
    obtain ⟨hn0, hn1⟩ := hL n (by simp)
    simp only [markB]
    by_cases hb : rdB h n = true
    · rw [if_pos hb]
      obtain ⟨i1, i2, i3⟩ := mark_cnt L h c fun x hx => hL x (by simp [hx])
      refine ⟨i1, i2, fun i hi => ?_⟩
      rw [i3 i hi, List.mem_cons]
      constructor
      · rintro (h1 | h1)
        · exact .inl h1
        · exact .inr (.inr h1)
      · rintro (h1 | h1 | h1)
        · exact .inl h1
        · left
          unfold rdB at hb
          rw [← h1, Int.toNat_natCast] at hb
          exact hb
        · exact .inr h1
    · rw [if_neg hb]
      have hf : h.getD n.toNat false = false := by simpa [rdB] using hb
      have hs := cntF_set h n.toNat (by omega) hf
      obtain ⟨i1, i2, i3⟩ := mark_cnt L (h.set n.toNat true) (c + 1) fun x hx => by rw [List.length_set]; exact hL x (by simp [hx])
      rw [List.length_set] at i2 i3
      refine ⟨by omega, i2, fun i hi => ?_⟩
      rw [i3 i hi, List.mem_cons]
      have hg : (h.set n.toNat true).getD i false = true ↔ h.getD i false = true ∨ (i : Int) = n := by
        rw [List.getD_eq_getElem?_getD, List.getElem?_set]
        by_cases he : n.toNat = i
        · rw [if_pos he, if_pos (by omega)]
          simp; right; omega
        · rw [if_neg he, ← List.getD_eq_getElem?_getD]
          constructor
          · exact .inl
          · rintro (h1 | h1)
            · exact h1
            · omega
      rw [hg, or_assoc]
theorem new_step (s : List Int) (hs : SpaceOk s) (t : Nat) (h : List Bool) (hl : h.length = (chAll s (plc s.length t 0)).length) (row : Int) : leftB (chAll s (plc s.length t 0)) (markB h 0 (ofT s t row)).1 = leftOf s t (leftB (chAll s (plc s.length t 0)) h) [row] ∧ (markB h 0 (ofT s t row)).2 = ((leftB (chAll s (plc s.length t 0)) h).length : Int) - ((leftOf s t (leftB (chAll s (plc s.length t 0)) h) [row]).length : Int) ∧ (markB h 0 (ofT s t row)).1.length = h.length := by
  have h1 := chAll_len s hs.2.2.1 (plc s.length t 0) fun p hp => (plc_ok _ _ _ p hp).2
  obtain ⟨i1, i2, i3⟩ := mark_cnt (ofT s t row) h 0 fun n hn => by
    have := ofT_in s hs.2.2.1 t row n hn
    omega
  have e1 : leftB (chAll s (plc s.length t 0)) (markB h 0 (ofT s t row)).1 = leftOf s t (leftB (chAll s (plc s.length t 0)) h) [row] := by
    rw [leftB_filter (fun c => hasB (digL s row) c t) (chAll s (plc s.length t 0)) h _ hl (by omega) fun i hi => by
      rw [i3 i (by omega), has_num2 s hs t row i hi]]
    unfold leftOf
    congr 1
    funext c
    simp
  refine ⟨e1, ?_, i2⟩
  have e2 := leftB_len (chAll s (plc s.length t 0)) h hl
  have e3 := leftB_len (chAll s (plc s.length t 0)) (markB h 0 (ofT s t row)).1 (by omega)
  rw [e1] at e3
  omega

/-- The first of the greatest, of some behind some. -/
def bestC : List Int → Int → Int → Int → Int × Int
  | [], _, b, m => (b, m)
  | c :: cs, w, b, m => if c > m then bestC cs (w + 1) w c else bestC cs (w + 1) b m
theorem bestC_in : ∀ (cs : List Int) (w b m : Int), 0 ≤ b → b ≤ w → (b < w ∨ 0 < cs.length) → 0 ≤ m → 0 ≤ (bestC cs w b m).1 ∧ ((bestC cs w b m).1 = b ∧ (bestC cs w b m).2 = m ∧ (∀ c ∈ cs, c ≤ m) ∨ w ≤ (bestC cs w b m).1 ∧ (bestC cs w b m).1 < w + cs.length ∧ (bestC cs w b m).2 = rd cs ((bestC cs w b m).1 - w))
  | [], w, b, m, h0, h1, h2, h3 => ⟨h0, .inl ⟨rfl, rfl, fun c hc => by simp at hc⟩⟩
  | c :: cs, w, b, m, h0, h1, h2, h3 => by
    simp only [bestC]
    have key : ∀ j : Int, w + 1 ≤ j → rd (c :: cs) (j - w) = rd cs (j - (w + 1)) := fun j hj => by
      unfold rd
      rw [show (j - w).toNat = (j - (w + 1)).toNat + 1 by omega, List.getD_cons_succ]
    by_cases hc : c > m
    · rw [if_pos hc]
      obtain ⟨i1, i2⟩ := bestC_in cs (w + 1) w c (by omega) (by omega) (.inl (by omega)) (by omega)
      refine ⟨i1, .inr ?_⟩
      rcases i2 with ⟨j1, j2, j3⟩ | ⟨j1, j2, j3⟩
      · rw [j1, j2]
        refine ⟨by omega, by simp only [List.length_cons]; omega, ?_⟩
        rw [Int.sub_self]; rfl
      · refine ⟨by omega, by simp only [List.length_cons]; omega, ?_⟩
        rw [j3, key _ j1]
    · rw [if_neg hc]
      obtain ⟨i1, i2⟩ := bestC_in cs (w + 1) b m h0 (by omega) (.inl (by omega)) h3
      refine ⟨i1, ?_⟩
      rcases i2 with ⟨j1, j2, j3⟩ | ⟨j1, j2, j3⟩
      · refine .inl ⟨j1, j2, fun x hx => ?_⟩
        rcases List.mem_cons.1 hx with rfl | hx
        · omega
        · exact j3 x hx
      · refine .inr ⟨by omega, by simp only [List.length_cons]; omega, ?_⟩
        rw [j3, key _ j1]
theorem bestC_all (cs : List Int) (h0 : 0 < cs.length) (hc : ∀ c ∈ cs, 0 ≤ c) : 0 ≤ (bestC cs 0 0 0).1 ∧ (bestC cs 0 0 0).1 < (cs.length : Int) ∧ (bestC cs 0 0 0).2 = rd cs (bestC cs 0 0 0).1 := by
  obtain ⟨i1, i2⟩ := bestC_in cs 0 0 0 (by omega) (by omega) (.inr h0) (by omega)
  rcases i2 with ⟨j1, j2, j3⟩ | ⟨j1, j2, j3⟩
  · refine ⟨i1, by omega, ?_⟩
    rw [j1, j2]
    have h1 := List.getElem_mem h0
    have h2 := j3 _ h1
    have h3 := hc _ h1
    have h4 := rd_nat cs 0 h0
    rw [show (0 : Int) = ((0 : Nat) : Int) from rfl, h4]
    omega
  · rw [Int.sub_zero] at j3
    exact ⟨i1, by omega, j3⟩

theorem set_same : ∀ (h : List Bool) (n : Nat), h.getD n false = true → h.set n true = h
  | [], n, e => by simp at e
  | b :: h, 0, e => by
    have : b = true := by simpa using e
    rw [this]; rfl
  | b :: h, n + 1, e => by
    rw [List.set_cons_succ, set_same h n (by simpa using e)]
theorem markB_fst : ∀ (L : List Int) (h : List Bool) (c : Int), (markB h c L).1 = markA h L
  | [], h, c => rfl
  | n :: L, h, c => by
    simp only [markB]
    by_cases hb : rdB h n = true
    · rw [if_pos hb, markB_fst L h c]
      unfold markA
      rw [List.foldl_cons, set_same h n.toNat hb]
    · rw [if_neg hb, markB_fst L _ (c + 1)]; rfl
theorem ofL_nodup (s d : List Int) (hs : ∀ q ∈ s, 2 ≤ q ∧ q ≤ 4) (hd : Within s d) : ∀ (P : List (List Int)) (a : Int), (∀ p ∈ P, PlOk s.length p) → (ofL s d a P).Nodup
  | [], a, _ => by simp [ofL]
  | p :: P, a, h => by
    have hP := fun y hy => h y (List.mem_cons_of_mem p hy)
    have hz := szs_ok s hs p (h p (by simp))
    obtain ⟨b0, b1⟩ := word_bound _ _ hz (within_map s d hd p (h p (by simp)))
    simp only [ofL]
    refine List.nodup_cons.2 ⟨fun hm => ?_, ofL_nodup s d hs hd P _ hP⟩
    have := ofL_in s d hs hd P _ hP _ hm
    omega
theorem filter_two {α : Type} (p : α → Bool) : ∀ l : List α, (l.filter p).length + (l.filter fun x => !p x).length = l.length
  | [] => rfl
  | x :: l => by
    have := filter_two p l
    rw [List.filter_cons, List.filter_cons]
    cases hp : p x <;> simp <;> omega
/-- Marking a row's choices: what is left of the choices, and how many fall. -/
theorem step10 (s : List Int) (hs : SpaceOk s) (t : Nat) (h : List Bool) (hl : h.length = (chAll s (plc s.length t 0)).length) (row : Int) : leftB (chAll s (plc s.length t 0)) (markA h (ofT s t row)) = leftOf s t (leftB (chAll s (plc s.length t 0)) h) [row] ∧ cntB h (ofT s t row) = ((leftB (chAll s (plc s.length t 0)) h).length : Int) - ((leftOf s t (leftB (chAll s (plc s.length t 0)) h) [row]).length : Int) ∧ cntB h (ofT s t row) = (((leftB (chAll s (plc s.length t 0)) h).filter fun c => hasB (digL s row) c t).length : Int) ∧ (markA h (ofT s t row)).length = h.length := by
  obtain ⟨i1, i2, i3⟩ := new_step s hs t h hl row
  have hcl := chAll_len s hs.2.2.1 (plc s.length t 0) fun p hp => (plc_ok _ _ _ p hp).2
  have hn := markB_nodup (ofT s t row) h 0 (ofL_nodup s _ hs.2.2.1 (within_dig s hs.2.2.1 row) _ 0 fun p hp => (plc_ok _ _ _ p hp).2) (fun n hn => by
    have := ofT_in s hs.2.2.1 t row n hn
    omega)
  rw [markB_fst] at i1 i3
  have e : leftOf s t (leftB (chAll s (plc s.length t 0)) h) [row] = (leftB (chAll s (plc s.length t 0)) h).filter fun c => !hasB (digL s row) c t := by
    unfold leftOf
    congr 1
    funext c
    simp
  have h2 := filter_two (fun c => hasB (digL s row) c t) (leftB (chAll s (plc s.length t 0)) h)
  rw [← e] at h2
  exact ⟨i1, by omega, by omega, i3⟩
theorem bestB_C (h : List Bool) : ∀ (all : List (List Int)) (w b m : Int), bestB h all w b m = bestC (all.map (cntB h)) w b m
  | [], w, b, m => rfl
  | L :: all, w, b, m => by
    simp only [bestB, List.map_cons, bestC]
    rw [bestB_C h all, bestB_C h all]

theorem gl3 (s : List Int) (t : Nat) (ht : t ≤ 8) (Ws X : List (List Int)) (hX : ∀ c ∈ X, ChG s.length t c) (hXl : X.length ≤ 100000) (out : List Int) (b m : Int) (w : Nat) (hw : w < Ws.length) (hwl : Ws.length ≤ 100000) (hd : Ws[w].length = s.length) (r : List Int × Int) : ∀ n i : Nat, i + n = X.length → ∀ c : Int, 0 ≤ c → c + n ≤ 200000 → Ev (fun k => if c + (((X.drop i).filter fun x => hasB Ws[w] x t).length : Int) > m then spec_GreedyRows.l2 k Ws X out (w : Int) (c + (((X.drop i).filter fun x => hasB Ws[w] x t).length : Int)) ((w + 1 : Nat) : Int) s else spec_GreedyRows.l2 k Ws X out b m ((w + 1 : Nat) : Int) s) r → Ev (fun k => spec_GreedyRows.l3 k Ws X out b m (w : Int) c (i : Int) s) r
  | 0, i, e, c, h0, h1, h => by
    refine h.step fun k => ?_
    rw [List.drop_of_length_le (by omega)]
    simp only [spec_GreedyRows.l3, List.filter_nil, List.length_nil, Int.natCast_zero, Int.add_zero]
    rw [if_neg (by omega), w64 (by omega) (by omega)]
    rfl
  | n + 1, i, e, c, h0, h1, h => by
    have hi : i < X.length := by omega
    have hg := hX _ (List.getElem_mem hi)
    rw [List.drop_eq_getElem_cons hi, List.filter_cons] at h
    by_cases hb : hasB Ws[w] X[i] t = true
    · rw [if_pos hb] at h
      obtain ⟨K, hK⟩ := gl3 s t ht Ws X hX hXl out b m w hw hwl hd r n (i + 1) (by omega) (c + 1) (by omega) (by omega) (by
        rw [List.length_cons] at h
        rw [show c + 1 + (((X.drop (i + 1)).filter fun x => hasB Ws[w] x t).length : Int) = c + ((((X.drop (i + 1)).filter fun x => hasB Ws[w] x t).length + 1 : Nat) : Int) by omega]
        exact h)
      refine ⟨K + 11, fun k hk => ?_⟩
      obtain ⟨k, rfl⟩ : ∃ q, k = q + 1 := ⟨k - 1, by omega⟩
      simp only [spec_GreedyRows.l3]
      rw [if_pos (by omega), if_pos (by omega), if_pos (by omega), if_pos (by omega), rdL1_nat Ws w hw, rdL1_nat X i hi, has_ev Ws[w] X[i] t s.length hd hg ht k (by omega), Option.bind_some, if_pos hb, w64 (by omega) (by omega), w64 (by omega) (by omega), show (i : Int) + 1 = ((i + 1 : Nat) : Int) by omega]
      exact hK k (by omega)
    · rw [if_neg hb] at h
      obtain ⟨K, hK⟩ := gl3 s t ht Ws X hX hXl out b m w hw hwl hd r n (i + 1) (by omega) c (by omega) (by omega) h
      refine ⟨K + 11, fun k hk => ?_⟩
      obtain ⟨k, rfl⟩ : ∃ q, k = q + 1 := ⟨k - 1, by omega⟩
      simp only [spec_GreedyRows.l3]
      rw [if_pos (by omega), if_pos (by omega), if_pos (by omega), if_pos (by omega), rdL1_nat Ws w hw, rdL1_nat X i hi, has_ev Ws[w] X[i] t s.length hd hg ht k (by omega), Option.bind_some, if_neg hb, w64 (by omega) (by omega), show (i : Int) + 1 = ((i + 1 : Nat) : Int) by omega]
      exact hK k (by omega)
/-- How many of some choices a word has. -/
def cntW (t : Nat) (X : List (List Int)) (d : List Int) : Int := ((X.filter fun x => hasB d x t).length : Int)
theorem gl2 (s : List Int) (t : Nat) (ht : t ≤ 8) (Ws X : List (List Int)) (hX : ∀ c ∈ X, ChG s.length t c) (hXl : X.length ≤ 100000) (out : List Int) (hol : out.length ≤ 1000) (hwl : Ws.length ≤ 100000) (hd : ∀ d ∈ Ws, d.length = s.length) (r : List Int × Int) : ∀ n w : Nat, w + n = Ws.length → ∀ b m : Int, Ev (fun k => (spec_l10Missing.f k s X [(bestC ((Ws.drop w).map (cntW t X)) (w : Int) b m).1]).bind fun v => spec_GreedyRows.l1 k Ws v (out ++ [(bestC ((Ws.drop w).map (cntW t X)) (w : Int) b m).1]) s) r → Ev (fun k => spec_GreedyRows.l2 k Ws X out b m (w : Int) s) r
  | 0, w, e, b, m, h => by
    refine h.step fun k => ?_
    rw [List.drop_of_length_le (by omega)]
    simp only [spec_GreedyRows.l2, List.map_nil, bestC]
    rw [if_neg (by omega), if_pos (by omega)]
  | n + 1, w, e, b, m, h => by
    have hw : w < Ws.length := by omega
    rw [List.drop_eq_getElem_cons hw, List.map_cons] at h
    simp only [bestC] at h
    have hq : (0 : Int) + (((X.drop 0).filter fun x => hasB Ws[w] x t).length : Int) = cntW t X Ws[w] := by
      rw [List.drop_zero, Int.zero_add]; rfl
    refine (gl3 s t ht Ws X hX hXl out b m w hw hwl (hd _ (List.getElem_mem hw)) r X.length 0 (by omega) 0 (by omega) (by omega) ?_).step fun k => ?_
    · rw [hq]
      by_cases hc : cntW t X Ws[w] > m
      · rw [if_pos hc] at h
        have h1 := gl2 s t ht Ws X hX hXl out hol hwl hd r n (w + 1) (by omega) (w : Int) (cntW t X Ws[w]) (by
          rw [show ((w + 1 : Nat) : Int) = (w : Int) + 1 by omega]; exact h)
        refine h1.same fun k => ?_
        rw [if_pos hc]
      · rw [if_neg hc] at h
        have h1 := gl2 s t ht Ws X hX hXl out hol hwl hd r n (w + 1) (by omega) b m (by
          rw [show ((w + 1 : Nat) : Int) = (w : Int) + 1 by omega]; exact h)
        refine h1.same fun k => ?_
        rw [if_neg hc]
    · simp only [spec_GreedyRows.l2]
      rw [if_pos (by omega)]
      rfl
theorem gl0 (s : List Int) (hs : SpaceOk s) (a : Int) (X : List (List Int)) (r : List Int × Int) (hX : Ev (fun k => spec_l10All.f k s a) X) : ∀ n w : Nat, (w : Int) + n = prodL s → Ev (fun k => spec_GreedyRows.l1 k ((List.range (prodL s).toNat).map fun (x : Nat) => digL s (x : Int)) X [] s) r → Ev (fun k => spec_GreedyRows.l0 k a ((List.range w).map fun (x : Nat) => digL s (x : Int)) (w : Int) s) r
  | 0, w, e, h => by
    obtain ⟨K1, hK1⟩ := hX
    obtain ⟨K, hK⟩ := h
    refine ⟨K + K1 + 11, fun k hk => ?_⟩
    obtain ⟨k, rfl⟩ : ∃ q, k = q + 1 := ⟨k - 1, by omega⟩
    have h1 : spec_l10All.f k s a = some X := hK1 k (by omega)
    simp only [spec_GreedyRows.l0]
    rw [specN_ev s hs.2.2.1 hs.2.1 k (by omega), Option.bind_some, if_neg (by omega), h1, Option.bind_some]
    have h2 := hK k (by omega)
    rw [show (prodL s).toNat = w by omega] at h2
    exact h2
  | n + 1, w, e, h => by
    have hP := prodL_le8 s hs.2.2.1 hs.2.1
    obtain ⟨K, hK⟩ := gl0 s hs a X r hX n (w + 1) (by omega) h
    refine ⟨K + 11, fun k hk => ?_⟩
    obtain ⟨k, rfl⟩ : ∃ q, k = q + 1 := ⟨k - 1, by omega⟩
    simp only [spec_GreedyRows.l0]
    rw [specN_ev s hs.2.2.1 hs.2.1 k (by omega), Option.bind_some, if_pos (by omega), specDigits_ev s hs.2.2.1 hs.2.1 _ (by omega) (by omega) k (by omega), Option.bind_some, if_pos (by rw [List.length_map, List.length_range]; omega), w64 (by omega) (by omega), show (w : Int) + 1 = ((w + 1 : Nat) : Int) by omega]
    have h2 := hK k (by omega)
    rw [List.range_succ, List.map_append] at h2
    exact h2
theorem gl1 (s : List Int) (hs : SpaceOk s) (t : Nat) (ht : t ≤ 3) : ∀ n : Nat, ∀ (h : List Bool) (out : List Int), out.length + n = 200 → h.length = (chAll s (plc s.length t 0)).length → ∃ r : List Int × Int, greedyG ((List.range (prodL s).toNat).map fun (x : Nat) => ofT s t (x : Int)) (n + 1) h ((leftB (chAll s (plc s.length t 0)) h).length : Int) out = some r ∧ r.1.length ≤ 200 ∧ Ev (fun k => spec_GreedyRows.l1 k ((List.range (prodL s).toNat).map fun (x : Nat) => digL s (x : Int)) (leftB (chAll s (plc s.length t 0)) h) out s) r := by
  intro n
  induction n with
  | zero =>
    intro h out ho hl
    by_cases h0 : ((leftB (chAll s (plc s.length t 0)) h).length : Int) > 0
    · refine ⟨([], 3), ?_, by simp, ?_⟩
      · unfold greedyG
        rw [if_pos h0, if_pos (by omega)]
      · refine (Ev.of _).step fun k => ?_
        simp only [spec_GreedyRows.l1]
        rw [if_pos h0, if_pos (by omega)]
    · refine ⟨(out, 0), ?_, by simpa using (by omega : out.length ≤ 200), ?_⟩
      · unfold greedyG
        rw [if_neg h0]
      · refine (Ev.of _).step fun k => ?_
        simp only [spec_GreedyRows.l1]
        rw [if_neg h0]
  | succ n ih =>
    intro h out ho hl
    by_cases h0 : ((leftB (chAll s (plc s.length t 0)) h).length : Int) > 0
    · obtain ⟨X, hX⟩ : ∃ X, X = leftB (chAll s (plc s.length t 0)) h := ⟨_, rfl⟩
      have hP := prodL_le8 s hs.2.2.1 hs.2.1
      have hsh := chAll_short s hs t ht
      have hXg : ∀ c ∈ X, ChG s.length t c := fun c hc => chAll_g s t c (leftB_sub _ _ c (by rw [← hX]; exact hc))
      have hXl : X.length ≤ 3584 := by
        have h1 := leftB_len (chAll s (plc s.length t 0)) h hl
        have hc : ∀ h : List Bool, cntF h ≤ h.length := by
          intro h
          induction h with
          | nil => simp [cntF]
          | cons b h ih => simp only [cntF, List.length_cons]; split <;> omega
        have h2 := hc h
        rw [← hX] at h1
        omega
      have hcs : ((List.range (prodL s).toNat).map fun (x : Nat) => ofT s t (x : Int)).map (cntB h) = ((List.range (prodL s).toNat).map fun (x : Nat) => digL s (x : Int)).map (cntW t X) := by
        rw [List.map_map, List.map_map]
        refine List.map_congr_left fun x _ => ?_
        have := (step10 s hs t h hl (x : Int)).2.2.1
        rw [← hX] at this
        exact this
      obtain ⟨cs, hcse⟩ : ∃ cs, cs = ((List.range (prodL s).toNat).map fun (x : Nat) => ofT s t (x : Int)).map (cntB h) := ⟨_, rfl⟩
      have hcl : cs.length = (prodL s).toNat := by rw [hcse]; simp
      obtain ⟨q1, q2, q3⟩ := bestC_all cs (by omega) (fun c hc => by
        rw [hcse, hcs] at hc
        obtain ⟨d, _, rfl⟩ := List.mem_map.1 hc
        unfold cntW; omega)
      obtain ⟨bm, hbm⟩ : ∃ bm, bm = bestC cs 0 0 0 := ⟨_, rfl⟩
      rw [← hbm] at q1 q2 q3
      obtain ⟨b, m⟩ := bm
      obtain ⟨b, rfl⟩ : ∃ n : Nat, b = n := ⟨b.toNat, by simp only at q1; omega⟩
      simp only at q1 q2 q3
      have hbl : b < (prodL s).toNat := by omega
      have hrow : rdL ((List.range (prodL s).toNat).map fun (x : Nat) => ofT s t (x : Int)) b = ofT s t (b : Int) := by
        rw [rdL_eq _ b (by simpa using hbl)]; simp
      obtain ⟨p1, p2, p3, p4⟩ := step10 s hs t h hl (b : Int)
      have hm : m = cntB h (ofT s t (b : Int)) := by
        rw [q3, rd_nat cs b (by omega)]
        simp only [hcse, List.getElem_map, List.getElem_range]
      obtain ⟨r, g1, g2, g3⟩ := ih (markA h (ofT s t (b : Int))) (out ++ [(b : Int)]) (by simp; omega) (by omega)
      have hlo := List.length_filter_le (fun c => [(b : Int)].all fun r => !hasB (digL s r) c t) X
      refine ⟨r, ?_, g2, ?_⟩
      · have e1 : bestB h ((List.range (prodL s).toNat).map fun (x : Nat) => ofT s t (x : Int)) 0 0 0 = ((b : Int), m) := by
          rw [bestB_C, ← hcse, ← hbm]
        rw [greedyG, if_pos h0, if_neg (by omega), e1]
        simp only
        rw [Int.toNat_natCast, hrow, hm, p2]
        rw [p1] at g1
        rw [show ((leftB (chAll s (plc s.length t 0)) h).length : Int) - (((leftB (chAll s (plc s.length t 0)) h).length : Int) - ((leftOf s t (leftB (chAll s (plc s.length t 0)) h) [(b : Int)]).length : Int)) = ((leftOf s t (leftB (chAll s (plc s.length t 0)) h) [(b : Int)]).length : Int) by omega]
        exact g1
      · have e2 : bestC ((((List.range (prodL s).toNat).map fun (x : Nat) => digL s (x : Int)).drop 0).map (cntW t X)) ((0 : Nat) : Int) 0 0 = ((b : Int), m) := by
          rw [List.drop_zero, ← hcs, ← hcse]; exact hbm.symm
        have h1 := gl2 s t (by omega) ((List.range (prodL s).toNat).map fun (x : Nat) => digL s (x : Int)) X hXg (by omega) out (by omega) (by simp; omega) (fun d hd => by
          obtain ⟨x, _, rfl⟩ := List.mem_map.1 hd
          exact digL_len s _) r (prodL s).toNat 0 (by simp) 0 0 (by
            rw [e2]
            refine (missing_ev s hs [(b : Int)] (fun r hr => by
              have : r = (b : Int) := by simpa using hr
              omega) (by simp) t (by omega) X hXg (by omega)).bind (g := fun k v => spec_GreedyRows.l1 k _ v _ s) ?_
            rw [p1] at g3
            rw [hX]
            exact g3)
        rw [← hX] at h0
        rw [← hX]
        refine h1.step fun k => ?_
        simp only [spec_GreedyRows.l1]
        rw [if_pos h0, if_neg (by omega)]
        rfl
    · refine ⟨(out, 0), ?_, by simpa using (by omega : out.length ≤ 200), ?_⟩
      · unfold greedyG
        rw [if_neg h0]
      · refine (Ev.of _).step fun k => ?_
        simp only [spec_GreedyRows.l1]
        rw [if_neg h0]

theorem greedyS_ev (s : List Int) (a : Int) : ∃ (v : List Int) (e : Int), v.length ≤ 200 ∧ Ev (fun k => spec_GreedyRows.f k s a) (v, e) := by
  obtain ⟨c, hc⟩ : ∃ c : Int, c = (if SpaceOk s then (if 1 ≤ a ∧ a ≤ mn 3 (s.length : Int) then 0 else 2) else 1) := ⟨_, rfl⟩
  by_cases h0 : c = 0
  · have hs : SpaceOk s := Classical.byContradiction fun h => by rw [if_neg h] at hc; omega
    rw [if_pos hs] at hc
    have hb : 1 ≤ a ∧ a ≤ mn 3 (s.length : Int) := Classical.byContradiction fun h => by rw [if_neg h] at hc; omega
    have hbs : a ≤ 3 := by have := hb.2; unfold mn at this; split at this <;> omega
    obtain ⟨t, rfl⟩ : ∃ m : Nat, a = m := ⟨a.toNat, by omega⟩
    have hP := prodL_le8 s hs.2.2.1 hs.2.1
    have hcl := chAll_len s hs.2.2.1 (plc s.length t 0) fun p hp => (plc_ok _ _ _ p hp).2
    obtain ⟨r, g1, g2, g3⟩ := gl1 s hs t (by omega) 200 (List.replicate (chAll s (plc s.length t 0)).length false) [] (by simp) (by simp)
    rw [leftB_new] at g1 g3
    obtain ⟨K, hK⟩ := gl0 s hs (t : Int) _ r (all_ev s hs.2.1 hs.2.2.1 t (by omega)) (prodL s).toNat 0 (by omega) g3
    refine ⟨r.1, r.2, g2, K + 100, fun k hk => ?_⟩
    show spec_GreedyRows.f k s t = _
    unfold spec_GreedyRows.f
    rw [codeNil s t k (by omega), if_pos hs, if_pos hb, Option.bind_some, if_pos rfl]
    exact hK k (by omega)
  · refine ⟨[], c, by simp, 60, fun k hk => ?_⟩
    show spec_GreedyRows.f k s a = _
    unfold spec_GreedyRows.f
    rw [codeNil s a k (by omega), ← hc, Option.bind_some, if_neg h0]
section
variable {s : List Int} (hs : Src s)
theorem with_l1 : ∀ (d : Nat) (t : Int) (rows X : List Int), rows.length + d = 201 ∨ d = 0 ∧ 201 ≤ rows.length → rows.length ≤ 1000 → ∃ R : List Int, R.length ≤ 1000 ∧ Ev (fun k => spec_l10With.l1 k t rows X) (X, R, t)
  | 0, t, rows, X, e, hl => ⟨rows, hl, (Ev.of _).step fun k => by rw [spec_l10With.l1_succ, if_neg (by omega)]⟩
  | d + 1, t, rows, X, e, hl => by
    obtain ⟨R, h1, h2⟩ := with_l1 d t (rows ++ [0]) X (by rw [List.length_append, List.length_singleton]; omega) (by rw [List.length_append, List.length_singleton]; omega)
    exact ⟨R, h1, h2.step fun k => by rw [spec_l10With.l1_succ, if_pos (by omega), if_pos (by omega)]⟩
include hs
theorem with_j3 (t n p h : Int) (hp : 0 ≤ p) (rows X : List Int) (hl : rows.length ≤ 300) : ∃ R : List Int, R.length ≤ 1000 ∧ Ev (fun k => spec_l10With.j3 k t rows n s p h X) (X, R, t) := by
  obtain ⟨v, p1, h1, g1, v0, v1, gp⟩ := next_ev hs p h 24 hp (by omega)
  by_cases c0 : v = 0
  · obtain ⟨q, p2, h2, g2, _, _⟩ := pick_ev hs p1 h1 [(-1), 1024, n] gp (by simp)
    refine ⟨rows ++ [q], by rw [List.length_append, List.length_singleton]; omega, (Ev.of _).step fun k => ?_⟩
    simp only [spec_l10With.j3]
    rw [g1, Option.bind_some, if_pos c0, g2, Option.bind_some, if_pos (by omega)]
  by_cases c1 : v = 1
  · by_cases hr : rows.length ≤ 201
    · obtain ⟨R, r1, r2⟩ := with_l1 (201 - rows.length) t rows X (by omega) (by omega)
      refine ⟨R, r1, r2.step fun k => ?_⟩
      simp only [spec_l10With.j3]
      rw [g1, Option.bind_some, if_neg c0, if_pos c1]
    · obtain ⟨R, r1, r2⟩ := with_l1 0 t rows X (by omega) (by omega)
      refine ⟨R, r1, r2.step fun k => ?_⟩
      simp only [spec_l10With.j3]
      rw [g1, Option.bind_some, if_neg c0, if_pos c1]
  · refine ⟨rows, by omega, (Ev.of _).step fun k => ?_⟩
    simp only [spec_l10With.j3]
    rw [g1, Option.bind_some, if_neg c0, if_neg c1]
theorem with_j2 (t n p h : Int) (hp : 0 ≤ p) (rows G X : List Int) (b : Bool) (hl : rows.length ≤ 12) (hG : G.length ≤ 200) : ∃ R : List Int, R.length ≤ 1000 ∧ Ev (fun k => spec_l10With.j2 k t rows n G b s p h X) (X, R, t) := by
  have hm : mn (rows.length : Int) 2 ≤ (rows.length : Int) ∧ 0 ≤ mn (rows.length : Int) 2 := by unfold mn; split <;> omega
  cases b with
  | false =>
    obtain ⟨R, r1, r2⟩ := with_j3 hs t n p h hp rows X (by omega)
    refine ⟨R, r1, r2.step fun k => ?_⟩
    simp only [spec_l10With.j2]
    rw [if_neg (by decide)]
  | true =>
    have htl : (rows.take (mn (rows.length : Int) 2).toNat).length ≤ 12 := by rw [List.length_take]; omega
    obtain ⟨R, r1, r2⟩ := with_j3 hs t n p h hp (G ++ rows.take (mn (rows.length : Int) 2).toNat) X (by rw [List.length_append]; omega)
    refine ⟨R, r1, r2.step fun k => ?_⟩
    simp only [spec_l10With.j2]
    rw [if_pos trivial, if_pos hm.2, if_pos hm.1, Option.bind_some, if_pos (by omega)]
theorem with_l0 (t n : Int) (hn : 1 ≤ n) (X : List Int) : ∀ (d : Nat) (p h : Int) (rows : List Int), 0 ≤ p → rows.length + d ≤ 12 → ∃ R : List Int, R.length ≤ 1000 ∧ Ev (fun k => spec_l10With.l0 k t rows n (d : Int) s p h X) (X, R, t)
  | 0, p, h, rows, hp, hl => by
    obtain ⟨G, e, hG, K, g1⟩ := greedyS_ev X t
    by_cases he : e = 0
    · obtain ⟨v, p1, h1, g2, _, _, gp⟩ := next_ev hs p h 3 hp (by omega)
      obtain ⟨R, r1, K2, r2⟩ := with_j2 hs t n p1 h1 gp rows G X (v == 0) (by omega) hG
      refine ⟨R, r1, K + K2 + 1, fun k hk => ?_⟩
      obtain ⟨k, rfl⟩ : ∃ q, k = q + 1 := ⟨k - 1, by omega⟩
      show spec_l10With.l0 (k + 1) _ _ _ _ _ _ _ _ = _
      have g1' : spec_GreedyRows.f k X t = _ := g1 k (by omega)
      simp only [spec_l10With.l0]
      rw [if_neg (by omega), g1', Option.bind_some, if_pos he, g2, Option.bind_some]
      exact r2 k (by omega)
    · obtain ⟨R, r1, K2, r2⟩ := with_j2 hs t n p h hp rows G X false (by omega) hG
      refine ⟨R, r1, K + K2 + 1, fun k hk => ?_⟩
      obtain ⟨k, rfl⟩ : ∃ q, k = q + 1 := ⟨k - 1, by omega⟩
      show spec_l10With.l0 (k + 1) _ _ _ _ _ _ _ _ = _
      have g1' : spec_GreedyRows.f k X t = _ := g1 k (by omega)
      simp only [spec_l10With.l0]
      rw [if_neg (by omega), g1', Option.bind_some, if_neg he]
      exact r2 k (by omega)
  | d + 1, p, h, rows, hp, hl => by
    obtain ⟨v, p1, h1, g2, _, _, gp⟩ := next_ev hs p h n hp hn
    obtain ⟨R, r1, r2⟩ := with_l0 t n hn X d p1 h1 (rows ++ [v]) gp (by rw [List.length_append, List.length_singleton]; omega)
    refine ⟨R, r1, r2.step fun k => ?_⟩
    simp only [spec_l10With.l0]
    rw [if_pos (by omega), g2, Option.bind_some, if_pos (by omega), w64 (by omega) (by omega), show ((d + 1 : Nat) : Int) - 1 = (d : Int) by omega]
theorem with_j0 (t n p h : Int) (hp : 0 ≤ p) (hn : 1 ≤ n) (X : List Int) : ∃ R : List Int, R.length ≤ 1000 ∧ Ev (fun k => spec_l10With.j0 k t [] n s p h X) (X, R, t) := by
  obtain ⟨v, p1, h1, g1, v0, v1, gp⟩ := next_ev hs p h 12 hp (by omega)
  obtain ⟨d, rfl⟩ : ∃ d : Nat, v = d := ⟨v.toNat, by omega⟩
  obtain ⟨R, r1, r2⟩ := with_l0 hs t n hn X d p1 h1 [] gp (by simp; omega)
  refine ⟨R, r1, r2.step fun k => ?_⟩
  simp only [spec_l10With.j0]
  rw [g1, Option.bind_some]
end
theorem with10_ev {l : List Int} (hs : Src l) : ∃ X R t, R.length ≤ 1000 ∧ Ev (fun k => spec_l10With.f k l) (X, R, t) := by
  obtain ⟨h0, K0, g0⟩ := from_ev hs
  obtain ⟨X, t, hX, K1, g1⟩ := draw10_ev hs
  by_cases hsp : SpaceOk X
  · have hP := prodL_le8 X hsp.2.2.1 hsp.2.1
    obtain ⟨R, r1, K2, r2⟩ := with_j0 hs t (prodL X) 0 h0 (by omega) hP.1 X
    refine ⟨X, R, t, r1, K0 + K1 + K2 + 100, fun k hk => ?_⟩
    show spec_l10With.f k l = _
    have e0 : spec_l01From.f k l = _ := g0 k (by omega)
    have e1 : spec_l10Draw.f k l = _ := g1 k (by omega)
    unfold spec_l10With.f
    rw [e0, Option.bind_some, e1, Option.bind_some, Option.bind_some, specIs_ev X k (by omega), decide_eq_true hsp, Option.bind_some, if_pos rfl, specN_ev X hsp.2.2.1 hsp.2.1 k (by omega), Option.bind_some]
    exact r2 k (by omega)
  · obtain ⟨R, r1, K2, r2⟩ := with_j0 hs t 4 0 h0 (by omega) (by omega) X
    refine ⟨X, R, t, r1, K0 + K1 + K2 + 100, fun k hk => ?_⟩
    show spec_l10With.f k l = _
    have e0 : spec_l01From.f k l = _ := g0 k (by omega)
    have e1 : spec_l10Draw.f k l = _ := g1 k (by omega)
    unfold spec_l10With.f
    rw [e0, Option.bind_some, e1, Option.bind_some, Option.bind_some, specIs_ev X k (by omega), decide_eq_false hsp, Option.bind_some, if_neg (by decide)]
    exact r2 k (by omega)

theorem ev_of_mono {α : Type} {f : Nat → Option α} (hm : ∀ k, LeO (f k) (f (k + 1))) {K : Nat} {r : α} (h : f K = some r) : Ev f r := by
  refine ⟨K, fun k hk => ?_⟩
  obtain ⟨d, rfl⟩ : ∃ d, k = K + d := ⟨k - K, by omega⟩
  clear hk
  induction d with
  | zero => exact h
  | succ d ih => exact hm _ _ ih
/-- What is to be seen of the pair rows of n places: both make the same rows, as many as the pair number, of the strength min n 2. -/
def prOk (k : Nat) (n : Int) : Bool :=
  match impl_PairRows.f k n, spec_PairRows.f k n, impl_PairNumber.f k n, spec_PairNumber.f k n with
  | some (S, R, e), some (S', R', e'), some (m, f), some (m', f') => S == S' && R == R' && e == 0 && e' == 0 && m == m' && f == 0 && f' == 0 && (R.length : Int) == m && decide (S.length ≤ 100) && decide (R.length ≤ 100) && (match impl_StrengthOf.f k S R with
    | some (ow, z) => z == 0 && decide (mn n 2 ≤ ow)
    | none => false)
  | _, _, _, _ => false
theorem prOk_get {k : Nat} {n : Int} (h : prOk k n = true) : ∃ (S R : List Int) (m ow : Int), Ev (fun k => impl_PairRows.f k n) (S, R, 0) ∧ Ev (fun k => spec_PairRows.f k n) (S, R, 0) ∧ Ev (fun k => impl_PairNumber.f k n) (m, 0) ∧ Ev (fun k => spec_PairNumber.f k n) (m, 0) ∧ (R.length : Int) = m ∧ S.length ≤ 100 ∧ R.length ≤ 100 ∧ Ev (fun k => impl_StrengthOf.f k S R) (ow, 0) ∧ mn n 2 ≤ ow := by
  unfold prOk at h
  split at h
  · rename_i S R e S' R' e' m f m' f' h1 h2 h3 h4
    rw [Bool.and_eq_true] at h
    obtain ⟨h, hs⟩ := h
    simp only [Bool.and_eq_true, beq_iff_eq, decide_eq_true_eq] at h
    obtain ⟨⟨⟨⟨⟨⟨⟨⟨⟨rfl, rfl⟩, rfl⟩, rfl⟩, rfl⟩, rfl⟩, rfl⟩, a1⟩, a2⟩, a3⟩ := h
    split at hs
    · rename_i ow z h5
      simp only [Bool.and_eq_true, beq_iff_eq, decide_eq_true_eq] at hs
      obtain ⟨rfl, b1⟩ := hs
      exact ⟨S, R, m, ow, ev_of_mono (impl_PairRows.mono n) h1, ev_of_mono (spec_PairRows.mono n) h2, ev_of_mono (impl_PairNumber.mono n) h3, ev_of_mono (spec_PairNumber.mono n) h4, a1, a2, a3, ev_of_mono (impl_StrengthOf.mono S R) h5, b1⟩
    · exact absurd hs (by decide)
  · exact absurd h (by decide)
theorem pr1 : prOk 100 1 = true := by kernel_rfl
theorem pr2 : prOk 100 2 = true := by kernel_rfl
theorem pr3 : prOk 100 3 = true := by kernel_rfl
theorem pr4 : prOk 100 4 = true := by kernel_rfl
theorem pr5 : prOk 100 5 = true := by kernel_rfl
theorem pr6 : prOk 100 6 = true := by kernel_rfl
theorem pr7 : prOk 100 7 = true := by kernel_rfl
theorem pr8 : prOk 100 8 = true := by kernel_rfl
theorem pairs_both (n : Int) : ∃ (S R : List Int) (e1 m e2 ow : Int), S.length ≤ 100 ∧ R.length ≤ 100 ∧ Ev (fun k => impl_PairRows.f k n) (S, R, e1) ∧ Ev (fun k => spec_PairRows.f k n) (S, R, e1) ∧ Ev (fun k => impl_PairNumber.f k n) (m, e2) ∧ Ev (fun k => spec_PairNumber.f k n) (m, e2) ∧ (e1 ≠ 0 → R = [] ∧ e2 = e1) ∧ (e1 = 0 → Ev (fun k => impl_StrengthOf.f k S R) (ow, 0) ∧ e2 = 0 ∧ (R.length : Int) = m ∧ mn n 2 ≤ ow) := by
  by_cases h : 1 ≤ n ∧ n ≤ 8
  · have key : ∃ k, prOk k n = true := by
      have : n = 1 ∨ n = 2 ∨ n = 3 ∨ n = 4 ∨ n = 5 ∨ n = 6 ∨ n = 7 ∨ n = 8 := by omega
      rcases this with rfl | rfl | rfl | rfl | rfl | rfl | rfl | rfl
      · exact ⟨100, pr1⟩
      · exact ⟨100, pr2⟩
      · exact ⟨100, pr3⟩
      · exact ⟨100, pr4⟩
      · exact ⟨100, pr5⟩
      · exact ⟨100, pr6⟩
      · exact ⟨100, pr7⟩
      · exact ⟨100, pr8⟩
    obtain ⟨k, hk⟩ := key
    obtain ⟨S, R, m, ow, a1, a2, a3, a4, a5, a6, a7, a8, a9⟩ := prOk_get hk
    exact ⟨S, R, 0, m, 0, ow, a6, a7, a1, a2, a3, a4, fun h => absurd rfl h, fun _ => ⟨a8, rfl, a5, a9⟩⟩
  · have e : spec_l01In.f n 1 8 = some false := by
      unfold spec_l01In.f
      by_cases h1 : n ≥ 1
      · rw [if_pos h1]; simp; omega
      · rw [if_neg h1]
    refine ⟨[], [], 2, 0, 2, 0, by simp, by simp, ⟨0, fun k _ => ?_⟩, ⟨0, fun k _ => ?_⟩, ⟨0, fun k _ => ?_⟩, ⟨0, fun k _ => ?_⟩, fun _ => ⟨rfl, rfl⟩, fun h => absurd h (by decide)⟩
    · show impl_PairRows.f k n = _
      unfold impl_PairRows.f
      by_cases h1 : n < 1
      · rw [if_pos h1]
      · rw [if_neg h1, if_pos (by omega)]
    · show spec_PairRows.f k n = _
      unfold spec_PairRows.f
      rw [e]; rfl
    · show impl_PairNumber.f k n = _
      unfold impl_PairNumber.f
      by_cases h1 : n < 1
      · rw [if_pos h1]
      · rw [if_neg h1, if_pos (by omega)]
    · show spec_PairNumber.f k n = _
      unfold spec_PairNumber.f
      rw [e]; rfl

theorem like_l (L : List Int) (hl : L.length ≤ 1048576) : ∀ d i : Nat, i + d = L.length → ∀ k, d < k → laws_likeInts.l0 k L L i = some true
  | 0, i, e, k, hk => by
    obtain ⟨k, rfl⟩ : ∃ q, k = q + 1 := ⟨k - 1, by omega⟩
    simp only [laws_likeInts.l0]; rw [if_neg (by omega)]
  | d+1, i, e, k, hk => by
    obtain ⟨k, rfl⟩ : ∃ q, k = q + 1 := ⟨k - 1, by omega⟩
    have hw : wrap64 ((i : Int) + 1) = ((i + 1 : Nat) : Int) := by rw [w64 (by omega) (by omega)]; omega
    simp only [laws_likeInts.l0]; rw [if_pos (by omega), if_pos (by omega), if_pos (by omega), if_pos trivial, hw]
    exact like_l L hl d (i + 1) (by omega) k (by omega)
theorem like_ev (L : List Int) (hl : L.length ≤ 1048576) (k : Nat) (hk : L.length < k) : laws_likeInts.f k L L = some true := by
  unfold laws_likeInts.f
  rw [if_pos rfl]
  exact like_l L hl L.length 0 (by omega) k (by omega)
theorem src_of {l : List Int} (hw : ∀ x ∈ l, (Lit.int .u8 x).wf = true) (hl : l.length ≤ 4096) : ∀ x ∈ l, 0 ≤ x ∧ x < 256 := by
  intro x hx
  have h := hw x hx
  have e : (Lit.int .u8 x).wf = (decide ((0 : Int) ≤ x) && decide (x ≤ 255)) := rfl
  rw [e, Bool.and_eq_true] at h
  have h1 := of_decide_eq_true h.1
  have h2 := of_decide_eq_true h.2
  omega

theorem FnPairRows (l : List Int) (_ : l.length ≤ maxLen) (hw : ∀ x ∈ l, (Lit.int .u8 x).wf = true) : ∃ k, TGood k l := by
  by_cases hbig : l.length ≤ 4096
  rotate_left
  · exact ⟨0, .inl (by unfold laws_big.f; rw [decide_eq_true (by omega)])⟩
  have hs : Src l := ⟨src_of hw hbig, hbig⟩
  obtain ⟨h0, K0, g0⟩ := from_ev hs
  obtain ⟨n, p1, s1, g1, _⟩ := near_ev hs 0 h0 8 (by omega) (by omega) (by omega)
  obtain ⟨S, R, e1, m, e2, ow, hS, hR, ⟨K1, a1⟩, ⟨K2, a2⟩, ⟨K3, a3⟩, ⟨K4, a4⟩, a5, a6⟩ := pairs_both n
  obtain ⟨X, L, t', hL, K5, b1⟩ := with10_ev hs
  obtain ⟨st, e3, ⟨K6, c1⟩, ⟨K7, c2⟩, c3⟩ := strength_more X L (by omega)
  obtain ⟨Y, t, _, K8, d1⟩ := draw10_ev hs
  obtain ⟨b, e4, d2⟩ := choiceBound_both Y t
  obtain ⟨lw, K9, f1⟩ : ∃ (lw : Int) (K9 : Nat), ∀ k, K9 ≤ k → e3 = 0 → 0 < st → impl_ChoiceBound.f k X st = some (lw, 0) ∧ ¬ (L.length : Int) < lw := by
    by_cases h : e3 = 0 ∧ 0 < st
    · obtain ⟨lw, ⟨K, hK⟩, h2⟩ := c3 h.1 h.2
      exact ⟨lw, K, fun k hk _ _ => ⟨hK k hk, by omega⟩⟩
    · exact ⟨0, 0, fun k _ h1 h2 => absurd ⟨h1, h2⟩ h⟩
  obtain ⟨K10, f2⟩ : ∃ K10 : Nat, ∀ k, K10 ≤ k → e1 = 0 → impl_StrengthOf.f k S R = some (ow, 0) ∧ e2 = 0 ∧ (R.length : Int) = m ∧ mn n 2 ≤ ow := by
    by_cases h : e1 = 0
    · obtain ⟨⟨K, hK⟩, h2⟩ := a6 h
      exact ⟨K, fun k hk _ => ⟨hK k hk, h2⟩⟩
    · exact ⟨0, fun k _ h1 => absurd h1 h⟩
  obtain ⟨k, hk⟩ : ∃ k : Nat, 1000 + K0 + K1 + K2 + K3 + K4 + K5 + K6 + K7 + K8 + K9 + K10 ≤ k := ⟨_, Nat.le_refl _⟩
  refine ⟨k, .inr ⟨S, R, X, L, Y, n, e1, m, e2, st, e3, t, b, e4, lw, ow, by unfold laws_big.f; rw [decide_eq_false (by omega)], ?_, a1 k (by omega), a2 k (by omega), like_ev S (by omega) k (by omega), like_ev R (by omega) k (by omega), a3 k (by omega), a4 k (by omega), ?_, c1 k (by omega), c2 k (by omega), ?_, (d2 k (by omega)).2, (d2 k (by omega)).1, f1 k (by omega), a5, f2 k (by omega)⟩⟩
  · unfold spec_DrawPairRows.f
    have e0 : spec_l01From.f k l = _ := g0 k (by omega)
    rw [e0, Option.bind_some, g1, Option.bind_some]
  · unfold spec_DrawStrengthOf.f
    have e0 : spec_l10With.f k l = _ := b1 k (by omega)
    rw [e0, Option.bind_some]
  · unfold spec_DrawChoiceBound.f
    have e0 : spec_l10Draw.f k l = _ := d1 k (by omega)
    rw [e0, Option.bind_some]

end Go.Proofs.Ytbfhhjekonafdaa.Pure
