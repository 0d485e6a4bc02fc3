/- Codes are joined over a place alike, the arguments are left alone and each call's results are new. For every two spaces and codes. -/
import Derived.Test.YthbfaefneoeadaaPFnExactJoinOverPlacex0
import Derived.Test.YthbfaefneoeadaaPFnExactJoinOverPlacex1
import Derived.Test.YthbfaefneoeadaaPFnExactJoinOverPlacex2
import Derived.Test.YthbfaefneoeadaaPFnExactJoinOverPlacex3
import Derived.Test.YthbfaefneoeadaaPFnExactJoinOverPlacex4
import Derived.Test.YthbfaefneoeadaaPFnExactJoinOverPlacex5
import Derived.Test.YthbfaefneoeadaaPFnExactJoinOverPlacex6
import Derived.Test.YthbfaefneoeadaaPFnExactJoinOverPlacex7
import Derived.Test.YthbfaefneoeadaaPFnExactJoinOverPlacex8
import Derived.Test.YthbfaefneoeadaaPFnExactJoinOverPlacex9
import Derived.KernelRfl
namespace Go.Proofs.Ythbfaefneoeadaa.Pure
open Go Go.RowKit Go.Proofs.Ythbfaefneoeadaa.PFnExactJoinOverPlace Go.Proofs.YthbfaefneoeadaaW.PrintWords Go.Proofs.YthbfaefneoeadaaW.PrintLast Go.Proofs.YthbfaefneoeadaaW.PrintMore Go.Proofs.Ythbfaefneoeadaa.DG
set_option linter.unusedVariables false
set_option linter.unusedSimpArgs false
theorem shl_one : ∀ n, n < 13 → shl .i64 1 ((n : Nat) : Int) = ((2 ^ n : Nat) : Int) := by decide +kernel
theorem pow_le {n : Nat} (h : n ≤ 12) : 2 ^ n ≤ 4096 := Nat.pow_le_pow_right (n := 2) (by omega) h
theorem w64 {i : Int} (h0 : -9223372036854775808 ≤ i) (h : i < 9223372036854775808) : wrap64 i = i := by unfold wrap64; omega
theorem u64 {i : Int} (h0 : 0 ≤ i) (h : i < 9223372036854775808) : IntKind.u64.wrap i = i := by
  have e : IntKind.u64.wrap i = i % 18446744073709551616 := by simp [IntKind.wrap, IntKind.bits, IntKind.signed]
  rw [e]; omega
def allN (p : Nat → Bool) : Nat → Bool
  | 0 => true
  | n+1 => p n && allN p n
theorem allN_at (p : Nat → Bool) : ∀ n, allN p n = true → ∀ s, s < n → p s = true
  | 0, _, s, h => by omega
  | n+1, h, s, hs => by
    simp only [allN, Bool.and_eq_true] at h
    by_cases e : s = n
    · subst e; exact h.1
    · exact allN_at p n h.2 s (by omega)

theorem set_mid (A B : List Int) (b s : Int) : (A ++ b :: B).set A.length s = (A ++ [s]) ++ B := by
  induction A with
  | nil => rfl
  | cons a A ih => simp [List.set_cons_succ]
theorem rd_mid (A B : List Int) (b : Int) : rd (A ++ b :: B) (A.length : Int) = b := by simp [rd]
theorem rd_nat (M : List Int) (i : Nat) (h : i < M.length) : rd M (i : Int) = M[i] := by simp [rd, List.getElem?_eq_getElem h]
def seqI : Int → Nat → List Int
  | _, 0 => []
  | s, n+1 => s :: seqI (s+1) n

def prodL : List Int → Int
  | [] => 1
  | q :: r => q * prodL r
theorem prodL_snoc (l : List Int) (q : Int) : prodL (l ++ [q]) = prodL l * q := by
  induction l with
  | nil => simp [prodL]
  | cons a l ih => simp only [List.cons_append, prodL, ih]; rw [Int.mul_assoc]
theorem prodL_bound : ∀ (l : List Int), (∀ q ∈ l, 2 ≤ q ∧ q ≤ 4) → 1 ≤ prodL l ∧ prodL l ≤ (4 : Int) ^ l.length
  | [], _ => by simp [prodL]
  | q :: r, h => by
    have h1 := h q (by simp)
    obtain ⟨h2, h3⟩ := prodL_bound r (fun x hx => h x (by simp [hx]))
    simp only [prodL, List.length_cons, Int.pow_succ]
    have hp : (0 : Int) ≤ 4 ^ r.length := Int.le_of_lt (Int.pow_pos (by omega))
    constructor
    · have : 1 * 1 ≤ q * prodL r := Int.mul_le_mul (by omega) h2 (by omega) (by omega)
      omega
    · rw [Int.mul_comm (4 ^ r.length) 4]
      exact Int.mul_le_mul h1.2 h3 (by omega) (by omega)
theorem prodL_le8 (l : List Int) (h : ∀ q ∈ l, 2 ≤ q ∧ q ≤ 4) (hl : l.length ≤ 8) : 1 ≤ prodL l ∧ prodL l ≤ 65536 := by
  obtain ⟨h1, h2⟩ := prodL_bound l h
  refine ⟨h1, Int.le_trans h2 ?_⟩
  have : ∀ n, n < 9 → (4 : Int) ^ n ≤ 65536 := by decide
  exact this _ (by omega)
/-- What a space's sizes are. -/
def SpaceOk (l : List Int) : Prop := 1 ≤ l.length ∧ l.length ≤ 8 ∧ (∀ q ∈ l, 2 ≤ q ∧ q ≤ 4) ∧ prodL l ≤ 1024

theorem specN_l : ∀ (B A : List Int), (∀ q ∈ A ++ B, 2 ≤ q ∧ q ≤ 4) → (A ++ B).length ≤ 8 → ∀ k, B.length < k → spec_l01N.l0 k (prodL A) A.length (A ++ B) = some (prodL (A ++ B))
  | [], A, h, hl, k, hk => by
    obtain ⟨k, rfl⟩ : ∃ q, k = q + 1 := ⟨k - 1, by simp at hk; omega⟩
    simp only [spec_l01N.l0]
    rw [if_neg (by simp)]; simp
  | b :: B, A, h, hl, k, hk => by
    obtain ⟨k, rfl⟩ : ∃ q, k = q + 1 := ⟨k - 1, by simp at hk; omega⟩
    have hb := h b (by simp)
    have hA := prodL_le8 (A ++ [b]) (fun q hq => h q (by simp at hq ⊢; rcases hq with hq | hq <;> simp [hq])) (by simp at hl ⊢; omega)
    rw [prodL_snoc] at hA
    simp only [spec_l01N.l0]
    simp only [List.length_append, List.length_cons] at hl hk
    rw [if_pos (by simp; omega), if_pos (by omega), rd_mid, w64 (by omega) (by omega), w64 (by omega) (by omega), ← prodL_snoc, show (A.length : Int) + 1 = ((A ++ [b]).length : Int) by simp]
    have := specN_l B (A ++ [b]) (by simpa using h) (by simp; omega) k (by omega)
    simpa using this
theorem specN_ev (l : List Int) (h : ∀ q ∈ l, 2 ≤ q ∧ q ≤ 4) (hl : l.length ≤ 8) : ∀ k, 10 ≤ k → spec_l01N.f k l = some (prodL l) := by
  intro k hk
  unfold spec_l01N.f
  exact specN_l l [] h hl k (by omega)

theorem specIs_l : ∀ (B A : List Int), (∀ q ∈ A, 2 ≤ q ∧ q ≤ 4) → (A ++ B).length ≤ 8 → ∀ k, B.length + 10 < k → spec_l01Is.l0 k A.length (A ++ B) = some (decide (∀ q ∈ A ++ B, 2 ≤ q ∧ q ≤ 4) && decide (prodL (A ++ B) ≤ 1024))
  | [], A, h, hl, k, hk => by
    obtain ⟨k, rfl⟩ : ∃ q, k = q + 1 := ⟨k - 1, by simp at hk; omega⟩
    simp only [List.append_nil] at hl ⊢
    simp only [spec_l01Is.l0]
    simp only [List.length_nil] at hk
    rw [if_neg (by omega), specN_ev A h hl k (by omega), Option.bind_some]
    simp only [decide_eq_true h, Bool.true_and]
  | b :: B, A, h, hl, k, hk => by
    obtain ⟨k, rfl⟩ : ∃ q, k = q + 1 := ⟨k - 1, by simp at hk; omega⟩
    simp only [spec_l01Is.l0]
    simp only [List.length_append, List.length_cons] at hl hk
    unfold spec_l01In.f
    rw [if_pos (by simp; omega), if_pos (by omega), rd_mid]
    by_cases hb : 2 ≤ b ∧ b ≤ 4
    · rw [if_pos hb.1, Option.bind_some, if_pos (by simpa using hb.2), w64 (by omega) (by omega), show (A.length : Int) + 1 = ((A ++ [b]).length : Int) by simp]
      have := specIs_l B (A ++ [b]) (fun q hq => by simp at hq; rcases hq with hq | rfl; exact h q hq; exact hb) (by simp; omega) k (by omega)
      rw [List.append_assoc, List.singleton_append] at this
      rw [this]
    · have hd : decide (∀ q ∈ A ++ b :: B, 2 ≤ q ∧ q ≤ 4) = false := by
        rw [decide_eq_false_iff_not]; intro hh; exact hb (hh b (by simp))
      rw [hd, Bool.false_and]
      by_cases h1 : b ≥ 2
      · rw [if_pos h1, Option.bind_some, if_neg (by simp; omega)]
      · rw [if_neg h1, Option.bind_some]; rfl
instance (l : List Int) : Decidable (SpaceOk l) := by unfold SpaceOk; infer_instance
theorem specIs_ev (l : List Int) : ∀ k, 30 ≤ k → spec_l01Is.f k l = some (decide (SpaceOk l)) := by
  intro k hk
  unfold spec_l01Is.f
  by_cases h1 : 1 ≤ l.length ∧ l.length ≤ 8
  · have e : spec_l01In.f (l.length : Int) 1 8 = some true := by
      unfold spec_l01In.f; rw [if_pos (by omega)]; simp; omega
    rw [e, Option.bind_some, if_pos rfl]
    have := specIs_l l [] (by simp) (by simpa using h1.2) k (by omega)
    simp only [List.nil_append, List.length_nil] at this
    rw [show (0 : Int) = ((0 : Nat) : Int) from rfl, this]
    congr 1
    rw [Bool.eq_iff_iff]
    simp [SpaceOk, h1]
  · have e : spec_l01In.f (l.length : Int) 1 8 = some false := by
      unfold spec_l01In.f
      by_cases h2 : (l.length : Int) ≥ 1
      · rw [if_pos h2]; simp; omega
      · rw [if_neg h2]
    have hd : decide (SpaceOk l) = false := by
      rw [decide_eq_false_iff_not]; intro hh; exact h1 ⟨hh.1, hh.2.1⟩
    rw [e, Option.bind_some, hd]; rfl

theorem implIs_l : ∀ (B A : List Int), (∀ q ∈ A, 2 ≤ q ∧ q ≤ 4) → (A ++ B).length ≤ 8 → ∀ k, B.length < k → impl_IsSpace.l0 k (prodL A) (A ++ B) (A ++ B).length A.length = some (decide (∀ q ∈ A ++ B, 2 ≤ q ∧ q ≤ 4) && decide (prodL (A ++ B) ≤ 1024))
  | [], A, h, hl, k, hk => by
    obtain ⟨k, rfl⟩ : ∃ q, k = q + 1 := ⟨k - 1, by simp at hk; omega⟩
    simp only [List.append_nil] at hl ⊢
    simp only [impl_IsSpace.l0]
    rw [if_neg (by omega)]
    simp only [decide_eq_true h, Bool.true_and]
  | b :: B, A, h, hl, k, hk => by
    obtain ⟨k, rfl⟩ : ∃ q, k = q + 1 := ⟨k - 1, by simp at hk; omega⟩
    simp only [impl_IsSpace.l0]
    simp only [List.length_append, List.length_cons] at hl hk
    rw [if_pos (by simp; omega), if_pos (by omega), if_pos (by simp; omega), rd_mid]
    by_cases hb : 2 ≤ b ∧ b ≤ 4
    · have hA := prodL_le8 (A ++ [b]) (fun q hq => by simp at hq; rcases hq with hq | rfl; exact h q hq; exact hb) (by simp; omega)
      rw [prodL_snoc] at hA
      rw [if_neg (by omega), if_neg (by omega), w64 (by omega) (by omega), w64 (by omega) (by omega), ← prodL_snoc, show (A.length : Int) + 1 = ((A ++ [b]).length : Int) by simp]
      have := implIs_l B (A ++ [b]) (fun q hq => by simp at hq; rcases hq with hq | rfl; exact h q hq; exact hb) (by simp; omega) k (by omega)
      rw [List.append_assoc, List.singleton_append] at this
      rw [this]
    · have hd : decide (∀ q ∈ A ++ b :: B, 2 ≤ q ∧ q ≤ 4) = false := by
        rw [decide_eq_false_iff_not]; intro hh; exact hb (hh b (by simp))
      rw [hd, Bool.false_and]
      by_cases h1 : b < 2
      · rw [if_pos h1]
      · rw [if_neg h1, if_pos (by omega)]
theorem implIs_ev (l : List Int) : ∀ k, 30 ≤ k → impl_IsSpace.f k l = some (decide (SpaceOk l)) := by
  intro k hk
  obtain ⟨k, rfl⟩ : ∃ q, k = q + 1 := ⟨k - 1, by omega⟩
  unfold impl_IsSpace.f
  by_cases h1 : 1 ≤ l.length ∧ l.length ≤ 8
  · have e : decide ((l.length : Int) > 8) = false := by simp; omega
    rw [if_neg (by omega), e]
    simp only [impl_IsSpace.j0]
    rw [if_neg (by decide)]
    have := implIs_l l [] (by simp) (by simpa using h1.2) k (by omega)
    simp only [List.nil_append, List.length_nil, prodL] at this
    rw [show (0 : Int) = ((0 : Nat) : Int) from rfl, this]
    congr 1
    rw [Bool.eq_iff_iff]
    simp [SpaceOk, h1]
  · have hd : decide (SpaceOk l) = false := by
      rw [decide_eq_false_iff_not]; intro hh; exact h1 ⟨hh.1, hh.2.1⟩
    rw [hd]
    by_cases h2 : (l.length : Int) < 1
    · rw [if_pos h2]; simp [impl_IsSpace.j0]
    · have e : decide ((l.length : Int) > 8) = true := by simp; omega
      rw [if_neg h2, e]; simp [impl_IsSpace.j0]

/-- What a code's words are: ascending, all of them words. -/
def CodeOk (n : Int) (l : List Int) : Prop := ∀ j (hj : j < l.length), (0 ≤ l[j] ∧ l[j] < n) ∧ ∀ h0 : 0 < j, l[j-1]'(by omega) < l[j]
theorem CodeOk.len {n : Int} {l : List Int} (h : CodeOk n l) : l.length = 0 ∨ (l.length : Int) ≤ n := by
  have key : ∀ j (hj : j < l.length), (j : Int) ≤ l[j] := by
    intro j
    induction j with
    | zero => intro hj; have := (h 0 hj).1; omega
    | succ j ih =>
      intro hj
      have h1 := ih (by omega)
      have h2 := (h (j+1) hj).2 (by omega)
      simp only [Nat.add_sub_cancel] at h2
      omega
  by_cases h0 : l.length = 0
  · exact .inl h0
  · right
    have h1 := key (l.length - 1) (by omega)
    have h2 := (h (l.length - 1) (by omega)).1
    omega

def codeFrom (n : Int) (l : List Int) (i : Nat) : Prop := ∀ j (hj : j < l.length), i ≤ j → (0 ≤ l[j] ∧ l[j] < n) ∧ ∀ h0 : 0 < j, l[j-1]'(by omega) < l[j]
theorem specCode_l (s : List Int) (hs : SpaceOk s) (l : List Int) (hl : l.length ≤ 4611686018427387904) : ∀ d i : Nat, i + d = l.length → ∃ b : Bool, (b = true ↔ codeFrom (prodL s) l i) ∧ ∀ k, d + 12 ≤ k → spec_l01Code.l0 k l i s = some b
  | 0, i, e => by
    refine ⟨true, ⟨fun _ j hj hi => by omega, fun _ => rfl⟩, fun k hk => ?_⟩
    obtain ⟨k, rfl⟩ : ∃ q, k = q + 1 := ⟨k - 1, by omega⟩
    simp only [spec_l01Code.l0]; rw [if_neg (by omega)]
  | d+1, i, e => by
    have hi : i < l.length := by omega
    have hr := rd_nat l i hi
    have hw : wrap64 ((i : Int) + 1) = ((i + 1 : Nat) : Int) := by rw [w64 (by omega) (by omega)]; omega
    have hP := prodL_le8 s hs.2.2.1 hs.2.1
    obtain ⟨b, hb, g⟩ := specCode_l s hs l hl d (i+1) (by omega)
    have start : ∀ k, 11 ≤ k → spec_l01Code.l0 (k+1) l i s = (spec_l01In.f l[i] 0 (prodL s - 1)).bind fun t130 => (if t130 = true then (if (i : Int) > 0 then (if 0 ≤ (wrap64 ((i : Int) - 1)) then (if (wrap64 ((i : Int) - 1)) < (l.length : Int) then (if l[i] ≤ (rd l (wrap64 ((i : Int) - 1))) then (some false) else (spec_l01Code.l0 k l ((i + 1 : Nat) : Int) s)) else (none)) else (none)) else (spec_l01Code.l0 k l ((i + 1 : Nat) : Int) s)) else (some false)) := by
      intro k hk
      simp only [spec_l01Code.l0]
      rw [if_pos (by omega), if_pos (by omega), specN_ev s hs.2.2.1 hs.2.1 k (by omega), Option.bind_some, hr, w64 (i := prodL s - 1) (by omega) (by omega), hw]
    by_cases hin : 0 ≤ l[i] ∧ l[i] < prodL s
    · have e1 : spec_l01In.f l[i] 0 (prodL s - 1) = some true := by
        unfold spec_l01In.f; rw [if_pos hin.1]; simp; omega
      by_cases h0 : 0 < i
      · have hw1 : wrap64 ((i : Int) - 1) = ((i - 1 : Nat) : Int) := by rw [w64 (by omega) (by omega)]; omega
        have hr1 := rd_nat l (i - 1) (by omega)
        by_cases hle : l[i] ≤ l[i-1]
        · refine ⟨false, ⟨fun h => absurd h (by decide), fun h => ?_⟩, fun k hk => ?_⟩
          · have := (h i hi (by omega)).2 h0; omega
          · obtain ⟨k, rfl⟩ : ∃ q, k = q + 1 := ⟨k - 1, by omega⟩
            rw [start k (by omega), e1, Option.bind_some, if_pos rfl, if_pos (by omega), hw1, if_pos (by omega), if_pos (by omega), hr1, if_pos hle]
        · refine ⟨b, ⟨fun h j hj hij => ?_, fun h => hb.2 fun j hj hij => h j hj (by omega)⟩, fun k hk => ?_⟩
          · by_cases hji : j = i
            · subst hji; exact ⟨hin, fun _ => by omega⟩
            · exact hb.1 h j hj (by omega)
          · obtain ⟨k, rfl⟩ : ∃ q, k = q + 1 := ⟨k - 1, by omega⟩
            rw [start k (by omega), e1, Option.bind_some, if_pos rfl, if_pos (by omega), hw1, if_pos (by omega), if_pos (by omega), hr1, if_neg hle]
            exact g k (by omega)
      · refine ⟨b, ⟨fun h j hj hij => ?_, fun h => hb.2 fun j hj hij => h j hj (by omega)⟩, fun k hk => ?_⟩
        · by_cases hji : j = i
          · subst hji; exact ⟨hin, fun h1 => absurd h1 h0⟩
          · exact hb.1 h j hj (by omega)
        · obtain ⟨k, rfl⟩ : ∃ q, k = q + 1 := ⟨k - 1, by omega⟩
          rw [start k (by omega), e1, Option.bind_some, if_pos rfl, if_neg (by omega)]
          exact g k (by omega)
    · have e1 : spec_l01In.f l[i] 0 (prodL s - 1) = some false := by
        unfold spec_l01In.f
        by_cases h1 : l[i] ≥ 0
        · rw [if_pos h1]; simp; omega
        · rw [if_neg h1]
      refine ⟨false, ⟨fun h => absurd h (by decide), fun h => absurd (h i hi (by omega)).1 hin⟩, fun k hk => ?_⟩
      obtain ⟨k, rfl⟩ : ∃ q, k = q + 1 := ⟨k - 1, by omega⟩
      rw [start k (by omega), e1, Option.bind_some, if_neg (by decide)]
theorem specCode_ev (s : List Int) (hs : SpaceOk s) (l : List Int) (hl : l.length ≤ 4611686018427387904) : ∃ b : Bool, (b = true ↔ CodeOk (prodL s) l) ∧ ∀ k, l.length + 12 ≤ k → spec_l01Code.f k s l = some b := by
  obtain ⟨b, h, g⟩ := specCode_l s hs l hl l.length 0 (by omega)
  exact ⟨b, ⟨fun hb j hj => h.1 hb j hj (by omega), fun hc => h.2 fun j hj _ => hc j hj⟩, fun k hk => by unfold spec_l01Code.f; exact g k (by omega)⟩

theorem implCount_l : ∀ (B A : List Int), (∀ q ∈ A ++ B, 2 ≤ q ∧ q ≤ 4) → (A ++ B).length ≤ 8 → ∀ k, B.length < k → impl_count.l0 k (prodL A) (A ++ B) (A ++ B).length A.length = some (prodL (A ++ B))
  | [], A, h, hl, k, hk => by
    obtain ⟨k, rfl⟩ : ∃ q, k = q + 1 := ⟨k - 1, by simp at hk; omega⟩
    simp only [impl_count.l0]
    rw [if_neg (by simp)]; simp
  | b :: B, A, h, hl, k, hk => by
    obtain ⟨k, rfl⟩ : ∃ q, k = q + 1 := ⟨k - 1, by simp at hk; omega⟩
    have hb := h b (by simp)
    have hA := prodL_le8 (A ++ [b]) (fun q hq => h q (by simp at hq ⊢; rcases hq with hq | hq <;> simp [hq])) (by simp at hl ⊢; omega)
    rw [prodL_snoc] at hA
    simp only [impl_count.l0]
    simp only [List.length_append, List.length_cons] at hl hk
    rw [if_pos (by simp; omega), if_pos (by omega), if_pos (by simp; omega), rd_mid, w64 (by omega) (by omega), w64 (by omega) (by omega), ← prodL_snoc, show (A.length : Int) + 1 = ((A ++ [b]).length : Int) by simp]
    have := implCount_l B (A ++ [b]) (by simpa using h) (by simp; omega) k (by omega)
    simpa using this
theorem implCount_ev (l : List Int) (h : ∀ q ∈ l, 2 ≤ q ∧ q ≤ 4) (hl : l.length ≤ 8) : ∀ k, 10 ≤ k → impl_count.f k l = some (prodL l) := by
  intro k hk
  unfold impl_count.f
  exact implCount_l l [] h hl k (by omega)

theorem areWords_l (n : Int) (l : List Int) (hl : l.length ≤ 4611686018427387904) : ∀ d i : Nat, i + d = l.length → ∃ b : Bool, (b = true ↔ ∀ j (hj : j < l.length), i ≤ j → 0 ≤ l[j] ∧ l[j] < n) ∧ ∀ k, d + 1 ≤ k → impl_areWords.l0 k n l l.length i = some b
  | 0, i, e => by
    refine ⟨true, ⟨fun _ j hj hi => by omega, fun _ => rfl⟩, fun k hk => ?_⟩
    obtain ⟨k, rfl⟩ : ∃ q, k = q + 1 := ⟨k - 1, by omega⟩
    simp only [impl_areWords.l0]; rw [if_neg (by omega)]
  | d+1, i, e => by
    have hi : i < l.length := by omega
    have hr := rd_nat l i hi
    have hw : wrap64 ((i : Int) + 1) = ((i + 1 : Nat) : Int) := by rw [w64 (by omega) (by omega)]; omega
    obtain ⟨b, hb, g⟩ := areWords_l n l hl d (i+1) (by omega)
    by_cases hin : 0 ≤ l[i] ∧ l[i] < n
    · refine ⟨b, ⟨fun h j hj hij => ?_, fun h => hb.2 fun j hj hij => h j hj (by omega)⟩, fun k hk => ?_⟩
      · by_cases hji : j = i
        · subst hji; exact hin
        · exact hb.1 h j hj (by omega)
      · obtain ⟨k, rfl⟩ : ∃ q, k = q + 1 := ⟨k - 1, by omega⟩
        simp only [impl_areWords.l0]
        rw [if_pos (by omega), if_pos (by omega), if_pos (by omega), hr, if_neg (by omega), if_neg (by omega), hw]
        exact g k (by omega)
    · refine ⟨false, ⟨fun h => absurd h (by decide), fun h => absurd (h i hi (by omega)) hin⟩, fun k hk => ?_⟩
      obtain ⟨k, rfl⟩ : ∃ q, k = q + 1 := ⟨k - 1, by omega⟩
      simp only [impl_areWords.l0]
      rw [if_pos (by omega), if_pos (by omega), if_pos (by omega), hr]
      by_cases h1 : l[i] < 0
      · rw [if_pos h1]
      · rw [if_neg h1, if_pos (by omega)]
theorem areWords_ev (s : List Int) (hs : SpaceOk s) (l : List Int) (hl : l.length ≤ 4611686018427387904) : ∃ b : Bool, (b = true ↔ ∀ j (hj : j < l.length), 0 ≤ l[j] ∧ l[j] < prodL s) ∧ ∀ k, l.length + 12 ≤ k → impl_areWords.f k s l = some b := by
  obtain ⟨b, h, g⟩ := areWords_l (prodL s) l hl l.length 0 (by omega)
  refine ⟨b, ⟨fun hb j hj => h.1 hb j hj (by omega), fun hc => h.2 fun j hj _ => hc j hj⟩, fun k hk => ?_⟩
  unfold impl_areWords.f
  rw [implCount_ev s hs.2.2.1 hs.2.1 k (by omega), Option.bind_some]
  exact g k (by omega)

theorem ascend_l (l : List Int) (hl : l.length ≤ 4611686018427387904) : ∀ d i : Nat, i + d = l.length → 1 ≤ i → ∃ b : Bool, (b = true ↔ ∀ j (hj : j < l.length), i ≤ j → ∀ h0 : 0 < j, l[j-1]'(by omega) < l[j]) ∧ ∀ k, d + 1 ≤ k → impl_isCode.l0 k l i = some b
  | 0, i, e, h1 => by
    refine ⟨true, ⟨fun _ j hj hi => by omega, fun _ => rfl⟩, fun k hk => ?_⟩
    obtain ⟨k, rfl⟩ : ∃ q, k = q + 1 := ⟨k - 1, by omega⟩
    simp only [impl_isCode.l0]; rw [if_neg (by omega)]
  | d+1, i, e, h1 => by
    have hi : i < l.length := by omega
    have hr := rd_nat l i hi
    have hr1 := rd_nat l (i - 1) (by omega)
    have hw : wrap64 ((i : Int) + 1) = ((i + 1 : Nat) : Int) := by rw [w64 (by omega) (by omega)]; omega
    have hw1 : wrap64 ((i : Int) - 1) = ((i - 1 : Nat) : Int) := by rw [w64 (by omega) (by omega)]; omega
    obtain ⟨b, hb, g⟩ := ascend_l l hl d (i+1) (by omega) (by omega)
    by_cases hle : l[i] ≤ l[i-1]
    · refine ⟨false, ⟨fun h => absurd h (by decide), fun h => ?_⟩, fun k hk => ?_⟩
      · have := h i hi (by omega) (by omega); omega
      · obtain ⟨k, rfl⟩ : ∃ q, k = q + 1 := ⟨k - 1, by omega⟩
        simp only [impl_isCode.l0]
        rw [if_pos (by omega), if_pos (by omega), hw1, if_pos (by omega), if_pos (by omega), hr, hr1, if_pos hle]
    · refine ⟨b, ⟨fun h j hj hij h0 => ?_, fun h => hb.2 fun j hj hij h0 => h j hj (by omega) h0⟩, fun k hk => ?_⟩
      · by_cases hji : j = i
        · subst hji; omega
        · exact hb.1 h j hj (by omega) h0
      · obtain ⟨k, rfl⟩ : ∃ q, k = q + 1 := ⟨k - 1, by omega⟩
        simp only [impl_isCode.l0]
        rw [if_pos (by omega), if_pos (by omega), hw1, if_pos (by omega), if_pos (by omega), hr, hr1, if_neg hle, hw]
        exact g k (by omega)
theorem isCode_ev (s : List Int) (hs : SpaceOk s) (l : List Int) (hl : l.length ≤ 4611686018427387904) : ∃ b : Bool, (b = true ↔ CodeOk (prodL s) l) ∧ ∀ k, l.length + 14 ≤ k → impl_isCode.f k s l = some b := by
  have hP := prodL_le8 s hs.2.2.1 hs.2.1
  obtain ⟨b1, hb1, g1⟩ := areWords_ev s hs l hl
  by_cases hlen : (l.length : Int) > prodL s
  · refine ⟨false, ⟨fun h => absurd h (by decide), fun h => ?_⟩, fun k hk => ?_⟩
    · rcases h.len with h2 | h2 <;> omega
    · obtain ⟨k, rfl⟩ : ∃ q, k = q + 1 := ⟨k - 1, by omega⟩
      unfold impl_isCode.f
      rw [implCount_ev s hs.2.2.1 hs.2.1 _ (by omega), Option.bind_some, if_pos hlen]
      simp [impl_isCode.j0]
  · cases hb : b1 with
    | false =>
      subst hb
      refine ⟨false, ⟨fun h => absurd h (by decide), fun h => ?_⟩, fun k hk => ?_⟩
      · exact absurd (hb1.2 fun j hj => (h j hj).1) (by decide)
      · obtain ⟨k, rfl⟩ : ∃ q, k = q + 1 := ⟨k - 1, by omega⟩
        unfold impl_isCode.f
        rw [implCount_ev s hs.2.2.1 hs.2.1 _ (by omega), Option.bind_some, if_neg hlen, g1 _ (by omega), Option.bind_some]
        simp [impl_isCode.j0]
    | true =>
      subst hb
      have hall := hb1.1 rfl
      obtain ⟨b, hb, g⟩ : ∃ b : Bool, (b = true ↔ ∀ j (hj : j < l.length), 1 ≤ j → ∀ h0 : 0 < j, l[j-1]'(by omega) < l[j]) ∧ ∀ k, l.length + 1 ≤ k → impl_isCode.l0 k l 1 = some b := by
        by_cases h0 : l.length = 0
        · refine ⟨true, ⟨fun _ j hj => by omega, fun _ => rfl⟩, fun k hk => ?_⟩
          obtain ⟨k, rfl⟩ : ∃ q, k = q + 1 := ⟨k - 1, by omega⟩
          simp only [impl_isCode.l0]; rw [if_neg (by omega)]
        · obtain ⟨b, hb, g⟩ := ascend_l l hl (l.length - 1) 1 (by omega) (by omega)
          exact ⟨b, hb, fun k hk => g k (by omega)⟩
      refine ⟨b, ⟨fun h j hj => ⟨hall j hj, fun h0 => hb.1 h j hj (by omega) h0⟩, fun h => hb.2 fun j hj _ h0 => (h j hj).2 h0⟩, fun k hk => ?_⟩
      obtain ⟨k, rfl⟩ : ∃ q, k = q + 1 := ⟨k - 1, by omega⟩
      unfold impl_isCode.f
      rw [implCount_ev s hs.2.2.1 hs.2.1 _ (by omega), Option.bind_some, if_neg hlen, g1 _ (by omega), Option.bind_some]
      simp only [Bool.not_true, impl_isCode.j0]
      rw [if_neg (by decide)]
      exact g k (by omega)

theorem eq_l (l : List Int) (hl : l.length ≤ 4611686018427387904) : ∀ d i : Nat, i + d = l.length → ∀ k, d < k → laws_eqInt64S.l0 k l l i = some true
  | 0, i, e, k, hk => by
    obtain ⟨k, rfl⟩ : ∃ q, k = q + 1 := ⟨k - 1, by omega⟩
    simp only [laws_eqInt64S.l0]; rw [if_neg (by omega)]
  | d+1, i, e, k, hk => by
    obtain ⟨k, rfl⟩ : ∃ q, k = q + 1 := ⟨k - 1, by omega⟩
    simp only [laws_eqInt64S.l0]
    rw [if_pos (by omega), if_pos (by omega), if_pos (by omega), if_pos trivial, w64 (by omega) (by omega), show (i : Int) + 1 = ((i + 1 : Nat) : Int) by omega]
    exact eq_l l hl d (i+1) (by omega) k (by omega)
theorem eq_ev (l : List Int) (hl : l.length ≤ 4611686018427387904) (k : Nat) (hk : l.length < k) : laws_eqInt64S.f k l l = some true := by
  unfold laws_eqInt64S.f
  rw [if_pos rfl]
  exact eq_l l hl l.length 0 (by omega) k hk

theorem to_l (l : List Int) (hl : l.length ≤ 4611686018427387904) : ∀ (B A : List Int), l = A ++ B → ∀ k, B.length < k → laws_toInt64S.l0 k l (A ++ List.replicate B.length 0) A.length = some l
  | [], A, e, k, hk => by
    obtain ⟨k, rfl⟩ : ∃ q, k = q + 1 := ⟨k - 1, by simp at hk; omega⟩
    simp only [laws_toInt64S.l0]
    simp at e
    subst e
    rw [if_neg (by omega)]; simp
  | b :: B, A, e, k, hk => by
    obtain ⟨k, rfl⟩ : ∃ q, k = q + 1 := ⟨k - 1, by simp at hk; omega⟩
    simp only [laws_toInt64S.l0]
    have hlen : l.length = A.length + (B.length + 1) := by rw [e]; simp
    rw [if_pos (by omega), if_pos (by omega), if_pos (by simp; omega)]
    have hb : rd l (A.length : Int) = b := by rw [e]; exact rd_mid A B b
    rw [hb, List.length_cons, List.replicate_succ, Int.toNat_natCast, set_mid, w64 (by omega) (by omega), show (A.length : Int) + 1 = ((A ++ [b]).length : Int) by simp]
    exact to_l l hl B (A ++ [b]) (by rw [e]; simp) k (by simp at hk; omega)
theorem to_ev (l : List Int) (hl : l.length ≤ 1048576) (k : Nat) (hk : 1048576 < k) : laws_toInt64S.f k l = some l := by
  unfold laws_toInt64S.f
  rw [if_pos (by omega), if_pos (by omega), Int.toNat_natCast]
  exact to_l l (by omega) l [] rfl k (by omega)

theorem sz_le (l : List Int) (h : l.length ≤ 1048576) : ∃ z : Int, laws_szSpace.f l 1048576 = some z ∧ ¬ z < 0 := by
  unfold laws_szSpace.f laws_szInt64S.f
  rw [w64 (by omega) (by omega), if_neg (by omega)]
  simp only [Option.bind_some]
  rw [if_neg (by omega)]
  exact ⟨_, rfl, by omega⟩
theorem sz_gt (l : List Int) (h : 1048576 < l.length) (hm : l.length ≤ 9223372036854775807) : ∃ z : Int, laws_szSpace.f l 1048576 = some z ∧ z < 0 := by
  unfold laws_szSpace.f laws_szInt64S.f
  rw [w64 (by omega) (by omega), if_pos (by omega)]
  exact ⟨-1, rfl, by omega⟩
theorem toSp_ev (l : List Int) (hl : l.length ≤ 1048576) (k : Nat) (hk : 1048576 < k) : laws_toSpace.f k l = some l := by
  unfold laws_toSpace.f
  rw [to_ev l hl k hk]; rfl
theorem eqSp_ev (l : List Int) (hl : l.length ≤ 4611686018427387904) (k : Nat) (hk : l.length < k) : laws_eqSpace.f k l l = some true := by
  unfold laws_eqSpace.f
  rw [eq_ev l hl k hk]; rfl

section
variable (q B : Int) (c o y : List Int) (hq : q ≠ 0) (hB : B ≠ 0) (hc : c.length ≤ 1024) (ho : o.length ≤ 1024)
include hq hB hc ho
theorem join_in (i : Nat) (hi : i < c.length) : ∀ (d j : Nat) (acc : List Int), j + d = o.length → acc.length + d ≤ 2000000 →
    (∀ acc' : List Int, acc'.length ≤ acc.length + d → ∃ R : List Int, R.length ≤ 1048576 ∧ Ev (fun k => spec_JoinOverPlace.l0 k c o q B acc' (c.length : Int) ((i + 1 : Nat) : Int) y) (y, R, 0) ∧ Ev (fun k => impl_JoinOverPlace.l0 k o q acc' B c (c.length : Int) ((i + 1 : Nat) : Int) y) (y, R, 0)) →
    ∃ R : List Int, R.length ≤ 1048576 ∧ Ev (fun k => spec_JoinOverPlace.l1 k c o q B acc (i : Int) (c.length : Int) (i : Int) (o.length : Int) (j : Int) y) (y, R, 0) ∧ Ev (fun k => impl_JoinOverPlace.l1 k o q acc B (rd c i) c (c.length : Int) (i : Int) o (o.length : Int) (j : Int) y) (y, R, 0)
  | 0, j, acc, e, ha, hf => by
    have hw : wrap64 ((i : Int) + 1) = ((i + 1 : Nat) : Int) := by rw [w64 (by omega) (by omega)]; omega
    obtain ⟨R, h1, h2, h3⟩ := hf acc (by omega)
    refine ⟨R, h1, Ev.step (fun k => ?_) h2, Ev.step (fun k => ?_) h3⟩
    · simp only [spec_JoinOverPlace.l1]
      rw [if_neg (by omega), hw]
    · simp only [impl_JoinOverPlace.l1]
      rw [if_neg (by omega), hw]
  | d+1, j, acc, e, ha, hf => by
    have hw : wrap64 ((j : Int) + 1) = ((j + 1 : Nat) : Int) := by rw [w64 (by omega) (by omega)]; omega
    by_cases hm : Int.tmod (rd c i) q = wrap64 (Int.tdiv (rd o j) B)
    · obtain ⟨R, h1, h2, h3⟩ := join_in i hi d (j + 1) (acc ++ [wrap64 ((wrap64 ((rd c i) * B)) + (Int.tmod (rd o j) B))]) (by omega) (by rw [List.length_append, List.length_singleton]; omega) (fun acc' h => hf acc' (by rw [List.length_append, List.length_singleton] at h; omega))
      refine ⟨R, h1, Ev.step (fun k => ?_) h2, Ev.step (fun k => ?_) h3⟩
      · simp only [spec_JoinOverPlace.l1]
        rw [if_pos (by omega), if_pos (by omega), if_pos (by omega), if_neg hq, if_pos (by omega), if_pos (by omega), if_neg hB, if_pos hm, if_pos (by omega), hw]
      · simp only [impl_JoinOverPlace.l1]
        rw [if_pos (by omega), if_pos (by omega), if_pos (by omega), if_neg hq, if_neg hB, if_pos hm, if_pos (by omega), hw]
    · obtain ⟨R, h1, h2, h3⟩ := join_in i hi d (j + 1) acc (by omega) (by omega) (fun acc' h => hf acc' (by omega))
      refine ⟨R, h1, Ev.step (fun k => ?_) h2, Ev.step (fun k => ?_) h3⟩
      · simp only [spec_JoinOverPlace.l1]
        rw [if_pos (by omega), if_pos (by omega), if_pos (by omega), if_neg hq, if_pos (by omega), if_pos (by omega), if_neg hB, if_neg hm, hw]
      · simp only [impl_JoinOverPlace.l1]
        rw [if_pos (by omega), if_pos (by omega), if_pos (by omega), if_neg hq, if_neg hB, if_neg hm, hw]
theorem join_out : ∀ (e i : Nat) (acc : List Int), i + e = c.length → acc.length + e * 1024 ≤ 1048576 →
    ∃ R : List Int, R.length ≤ 1048576 ∧ Ev (fun k => spec_JoinOverPlace.l0 k c o q B acc (c.length : Int) (i : Int) y) (y, R, 0) ∧ Ev (fun k => impl_JoinOverPlace.l0 k o q acc B c (c.length : Int) (i : Int) y) (y, R, 0)
  | 0, i, acc, e, ha => by
    refine ⟨acc, by omega, ⟨1, fun k hk => ?_⟩, ⟨1, fun k hk => ?_⟩⟩
    · obtain ⟨k, rfl⟩ : ∃ q, k = q + 1 := ⟨k - 1, by omega⟩
      simp only [spec_JoinOverPlace.l0]; rw [if_neg (by omega)]
    · obtain ⟨k, rfl⟩ : ∃ q, k = q + 1 := ⟨k - 1, by omega⟩
      simp only [impl_JoinOverPlace.l0]; rw [if_neg (by omega)]
  | e+1, i, acc, he, ha => by
    obtain ⟨R, h1, h2, h3⟩ := join_in q B c o y hq hB hc ho i (by omega) o.length 0 acc (by omega) (by omega) (fun acc' h => join_out e (i + 1) acc' (by omega) (by omega))
    refine ⟨R, h1, Ev.step (fun k => ?_) h2, Ev.step (fun k => ?_) h3⟩
    · simp only [spec_JoinOverPlace.l0]
      rw [if_pos (by omega)]
      rfl
    · simp only [impl_JoinOverPlace.l0]
      rw [if_pos (by omega), if_pos (by omega), if_pos (by omega)]
      rfl
end
theorem wmul {a b : Int} (h : 0 ≤ a) (h2 : a ≤ 1000000) : wrap64 a = a := w64 (by omega) (by omega)
theorem lenS_two (a b : List Int) : DG.lenS [a, b] = a.length + b.length := by simp [DG.lenS]
theorem join_both (s c x o : List Int) (hc : c.length ≤ 1048576) (ho : o.length ≤ 1048576) : ∃ (G H : List Int) (e : Int), G.length ≤ 1048576 ∧ H.length ≤ 1048576 ∧ Ev (fun k => spec_JoinOverPlace.f k s c x o) (G, H, e) ∧ Ev (fun k => impl_JoinOverPlace.f k s c x o) (G, H, e) := by
  obtain ⟨N, hN⟩ : ∃ N : Nat, 1100000 ≤ N := ⟨1100000, Nat.le_refl _⟩
  -- both answer a code alone
  have bad : ∀ e : Int, e ≠ 0 → Ev (fun k => spec_JoinOverPlace.f k s c x o) ([], [], e) → Ev (fun k => impl_twoCode.f k s c x o) e → ∃ (G H : List Int) (e : Int), G.length ≤ 1048576 ∧ H.length ≤ 1048576 ∧ Ev (fun k => spec_JoinOverPlace.f k s c x o) (G, H, e) ∧ Ev (fun k => impl_JoinOverPlace.f k s c x o) (G, H, e) := by
    intro e he h1 h2
    exact ⟨[], [], e, by simp, by simp, h1, Ev.bind h2 ⟨0, fun k _ => if_neg he⟩⟩
  by_cases hs : SpaceOk s
  rotate_left
  · refine bad 1 (by decide) ⟨N, fun k hk => ?_⟩ ⟨N, fun k hk => ?_⟩
    · obtain ⟨k, rfl⟩ : ∃ q, k = q + 1 := ⟨k - 1, by omega⟩
      show spec_JoinOverPlace.f (k + 1) s c x o = _
      unfold spec_JoinOverPlace.f
      rw [specIs_ev s _ (by omega), decide_eq_false hs, Option.bind_some, if_neg (by decide)]
      simp only [spec_JoinOverPlace.j0]
      rw [if_pos trivial]
    · obtain ⟨k, rfl⟩ : ∃ q, k = q + 1 := ⟨k - 1, by omega⟩
      show impl_twoCode.f (k + 1) s c x o = _
      unfold impl_twoCode.f
      rw [implIs_ev s _ (by omega), decide_eq_false hs, Option.bind_some, if_neg (by decide)]
      simp only [impl_twoCode.j0]
      rw [if_pos trivial]
  by_cases hx : SpaceOk x
  rotate_left
  · refine bad 1 (by decide) ⟨N, fun k hk => ?_⟩ ⟨N, fun k hk => ?_⟩
    · obtain ⟨k, rfl⟩ : ∃ q, k = q + 1 := ⟨k - 1, by omega⟩
      show spec_JoinOverPlace.f (k + 1) s c x o = _
      unfold spec_JoinOverPlace.f
      rw [specIs_ev s _ (by omega), decide_eq_true hs, Option.bind_some, if_pos rfl, specIs_ev x _ (by omega), decide_eq_false hx, Option.bind_some]
      simp only [spec_JoinOverPlace.j0]
      rw [if_pos (by decide)]
    · obtain ⟨k, rfl⟩ : ∃ q, k = q + 1 := ⟨k - 1, by omega⟩
      show impl_twoCode.f (k + 1) s c x o = _
      unfold impl_twoCode.f
      rw [implIs_ev s _ (by omega), decide_eq_true hs, Option.bind_some, if_pos rfl, implIs_ev x _ (by omega), decide_eq_false hx, Option.bind_some]
      simp only [impl_twoCode.j0]
      rw [if_pos (by decide)]
  obtain ⟨b1, e1, g1⟩ := specCode_ev s hs c (by omega)
  obtain ⟨b1', e1', g1'⟩ := isCode_ev s hs c (by omega)
  obtain rfl : b1 = b1' := by rw [Bool.eq_iff_iff, e1, e1']
  obtain ⟨b2, e2, g2⟩ := specCode_ev x hx o (by omega)
  obtain ⟨b2', e2', g2'⟩ := isCode_ev x hx o (by omega)
  obtain rfl : b2 = b2' := by rw [Bool.eq_iff_iff, e2, e2']
  have hsp : ∀ k, N ≤ k → spec_JoinOverPlace.f (k + 2) s c x o = if b1 = true then spec_JoinOverPlace.j1 (k + 1) c o (!b2) s x else spec_JoinOverPlace.j1 (k + 1) c o true s x := by
    intro k hk
    unfold spec_JoinOverPlace.f
    rw [specIs_ev s _ (by omega), decide_eq_true hs, Option.bind_some, if_pos rfl, specIs_ev x _ (by omega), decide_eq_true hx, Option.bind_some]
    show spec_JoinOverPlace.j0 (k + 1 + 1) c o (!true) s x = _
    simp only [spec_JoinOverPlace.j0]
    rw [if_neg (by decide), g1 _ (by omega), Option.bind_some, g2 _ (by omega), Option.bind_some]
  have him : ∀ k, N ≤ k → impl_twoCode.f (k + 1) s c x o = if b1 = true then (if b2 = true then some 0 else some 2) else some 2 := by
    intro k hk
    unfold impl_twoCode.f
    rw [implIs_ev s _ (by omega), decide_eq_true hs, Option.bind_some, if_pos rfl, implIs_ev x _ (by omega), decide_eq_true hx, Option.bind_some]
    simp only [impl_twoCode.j0]
    rw [if_neg (by decide), g1' _ (by omega), Option.bind_some, g2' _ (by omega), Option.bind_some]
  by_cases hb : b1 = true ∧ b2 = true
  rotate_left
  · refine bad 2 (by decide) ⟨N + 2, fun k hk => ?_⟩ ⟨N + 1, fun k hk => ?_⟩
    · obtain ⟨k, rfl⟩ : ∃ q, k = q + 2 := ⟨k - 2, by omega⟩
      show spec_JoinOverPlace.f (k + 2) s c x o = _
      rw [hsp k (by omega)]
      simp only [spec_JoinOverPlace.j1]
      cases b1 <;> cases b2 <;> simp_all
    · obtain ⟨k, rfl⟩ : ∃ q, k = q + 1 := ⟨k - 1, by omega⟩
      show impl_twoCode.f (k + 1) s c x o = _
      rw [him k (by omega)]
      cases b1 <;> cases b2 <;> simp_all
  obtain ⟨rfl, rfl⟩ := hb
  obtain ⟨hs1, hs2, hs3, hs4⟩ := hs
  obtain ⟨hx1, hx2, hx3, hx4⟩ := hx
  have hcl : c.length ≤ 1024 := by rcases (e1.1 rfl).len with h | h <;> omega
  have hol : o.length ≤ 1024 := by rcases (e2.1 rfl).len with h | h <;> omega
  have hw : wrap64 ((s.length : Int) - 1) = ((s.length - 1 : Nat) : Int) := by rw [w64 (by omega) (by omega)]; omega
  have hr1 := rd_nat s (s.length - 1) (by omega)
  have hr2 : rd x 0 = x[0] := rd_nat x 0 (by omega)
  have hx0 := hx3 x[0] (List.getElem_mem _)
  have himE : Ev (fun k => impl_twoCode.f k s c x o) 0 := ⟨N + 1, fun k hk => by
    obtain ⟨k, rfl⟩ : ∃ q, k = q + 1 := ⟨k - 1, by omega⟩
    show impl_twoCode.f (k + 1) s c x o = _
    rw [him k (by omega)]; rfl⟩
  by_cases heq : s[s.length - 1] = x[0]
  rotate_left
  · refine ⟨[], [], 5, by simp, by simp, ⟨N + 2, fun k hk => ?_⟩, Ev.bind himE ⟨0, fun k _ => ?_⟩⟩
    · obtain ⟨k, rfl⟩ : ∃ q, k = q + 2 := ⟨k - 2, by omega⟩
      show spec_JoinOverPlace.f (k + 2) s c x o = _
      rw [hsp k (by omega), if_pos rfl]
      simp only [spec_JoinOverPlace.j1]
      rw [if_neg (by decide), hw, if_pos (by omega), if_pos (by omega), if_pos (by omega), hr1, hr2, if_neg heq]
    · dsimp only
      rw [if_pos rfl, if_pos (by omega), hw, if_pos (by omega), if_pos (by omega), hr1, hr2, if_neg heq]
  have hown : spec_l01Own.f s = some s := by
    unfold spec_l01Own.f
    rw [Option.bind_some, if_pos (by rw [List.length_nil]; omega), List.nil_append]
  have hd : (x.drop 1).length ≤ 8 := by rw [List.length_drop]; omega
  have hconc : ∀ k, slices_Concat_int64_int64.f k [s, x.drop 1] = some (s ++ x.drop 1) := by
    intro k
    unfold slices_Concat_int64_int64.f
    rw [lenS_two, if_pos ⟨by omega, by simp, by omega⟩]
    simp
  obtain ⟨y, hy⟩ : ∃ y, y = s ++ x.drop 1 := ⟨_, rfl⟩
  have hyl : y.length ≤ 1048576 := by rw [hy, List.length_append]; omega
  by_cases hyo : SpaceOk y
  rotate_left
  · refine ⟨[], [], 3, by simp, by simp, ⟨N + 2, fun k hk => ?_⟩, Ev.bind himE ⟨N, fun k hk => ?_⟩⟩
    · obtain ⟨k, rfl⟩ : ∃ q, k = q + 2 := ⟨k - 2, by omega⟩
      show spec_JoinOverPlace.f (k + 2) s c x o = _
      rw [hsp k (by omega), if_pos rfl]
      simp only [spec_JoinOverPlace.j1]
      rw [if_neg (by decide), hw, if_pos (by omega), if_pos (by omega), if_pos (by omega), hr1, hr2, if_pos heq, hown, Option.bind_some, if_pos (by omega), if_pos (by omega), Option.bind_some, ← hy, specIs_ev y _ (by omega), decide_eq_false hyo, Option.bind_some, if_neg (by decide)]
    · dsimp only
      rw [if_pos rfl, if_pos (by omega), hw, if_pos (by omega), if_pos (by omega), hr1, hr2, if_pos heq, if_pos (by omega), hconc, Option.bind_some, ← hy]
      unfold impl_limitedSpace.f
      rw [implIs_ev y _ (by omega), decide_eq_false hyo, Option.bind_some, Option.bind_some]
      rfl
  -- the joined code
  have hp := prodL_le8 x hx3 hx2
  have hpx : prodL x = x[0] * prodL (x.drop 1) := by
    cases x with
    | nil => simp at hx1
    | cons a r => rfl
  have hB : wrap64 (Int.tdiv (prodL x) x[0]) ≠ 0 := by
    have hr : 1 ≤ prodL (x.drop 1) := (prodL_bound (x.drop 1) (fun q hq => hx3 q (List.mem_of_mem_drop hq))).1
    rw [hpx, Int.mul_comm, Int.mul_tdiv_cancel _ (by omega)]
    have hle : prodL (x.drop 1) ≤ 65536 := by
      have h3 := (prodL_le8 (x.drop 1) (fun q hq => hx3 q (List.mem_of_mem_drop hq)) (by omega)).2
      exact h3
    rw [w64 (by omega) (by omega)]
    omega
  obtain ⟨R, h1, h2, h3⟩ := join_out x[0] (wrap64 (Int.tdiv (prodL x) x[0])) c o y (by omega) hB hcl hol c.length 0 [] (by omega) (by rw [List.length_nil]; omega)
  refine ⟨y, R, 0, hyl, h1, ?_, ?_⟩
  · obtain ⟨K, h2⟩ := h2
    refine ⟨N + K + 2, fun k hk => ?_⟩
    obtain ⟨k, rfl⟩ : ∃ q, k = q + 2 := ⟨k - 2, by omega⟩
    show spec_JoinOverPlace.f (k + 2) s c x o = _
    rw [hsp k (by omega), if_pos rfl]
    simp only [spec_JoinOverPlace.j1]
    rw [if_neg (by decide), hw, if_pos (by omega), if_pos (by omega), if_pos (by omega), hr1, hr2, if_pos heq, hown, Option.bind_some, if_pos (by omega), if_pos (by omega), Option.bind_some, ← hy, specIs_ev y _ (by omega), decide_eq_true hyo, Option.bind_some, if_pos rfl, specN_ev x hx3 hx2 _ (by omega), Option.bind_some, if_neg (by omega)]
    exact h2 k (by omega)
  · obtain ⟨K, h3⟩ := h3
    refine Ev.bind himE ⟨N + K, fun k hk => ?_⟩
    dsimp only
    rw [if_pos rfl, if_pos (by omega), hw, if_pos (by omega), if_pos (by omega), hr1, hr2, if_pos heq, if_pos (by omega), hconc, Option.bind_some, ← hy]
    unfold impl_limitedSpace.f
    rw [implIs_ev y _ (by omega), decide_eq_true hyo, Option.bind_some, Option.bind_some]
    dsimp only
    rw [if_pos rfl, implCount_ev x hx3 hx2 _ (by omega), Option.bind_some, if_neg (by omega)]
    exact h3 k (by omega)

theorem seqI_len (s : Int) (n : Nat) : (seqI s n).length = n := by
  induction n generalizing s with
  | zero => rfl
  | succ n ih => simp [seqI, ih]
theorem mark_l : ∀ (B A : List Int) (s : Int), 0 ≤ s → s + B.length ≤ 4611686018427387904 → A.length + B.length ≤ 4611686018427387904 → ∀ k, B.length < k → laws_markInt64S.l0 k (A ++ B) s A.length = some (s + B.length, A ++ seqI s B.length)
  | [], A, s, h0, h1, h2, k, hk => by
    obtain ⟨k, rfl⟩ : ∃ q, k = q + 1 := ⟨k - 1, by simp at hk; omega⟩
    simp only [laws_markInt64S.l0]
    rw [if_neg (by simp)]; simp [seqI]
  | b :: B, A, s, h0, h1, h2, k, hk => by
    obtain ⟨k, rfl⟩ : ∃ q, k = q + 1 := ⟨k - 1, by simp at hk; omega⟩
    simp only [laws_markInt64S.l0]
    simp only [List.length_cons] at h1 h2 hk
    rw [if_pos (by simp; omega), if_pos (by omega), Int.toNat_natCast, set_mid, w64 (by omega) (by omega), w64 (by omega) (by omega), show (A.length : Int) + 1 = ((A ++ [s]).length : Int) by simp]
    rw [mark_l B (A ++ [s]) (s+1) (by omega) (by omega) (by simp; omega) k (by omega)]
    simp only [List.length_cons, seqI, List.append_assoc, List.singleton_append]
    congr 2
    omega
theorem held_l : ∀ (n : Nat) (A : List Int) (s : Int), 0 ≤ s → s + n ≤ 4611686018427387904 → A.length + n ≤ 4611686018427387904 → ∀ k, n < k → laws_heldInt64S.l0 k (A ++ seqI s n) s A.length = some (s + n)
  | 0, A, s, h0, h1, h2, k, hk => by
    obtain ⟨k, rfl⟩ : ∃ q, k = q + 1 := ⟨k - 1, by omega⟩
    simp only [laws_heldInt64S.l0]
    rw [if_neg (by simp [seqI])]; simp
  | n+1, A, s, h0, h1, h2, k, hk => by
    obtain ⟨k, rfl⟩ : ∃ q, k = q + 1 := ⟨k - 1, by omega⟩
    show laws_heldInt64S.l0 (k+1) (A ++ s :: seqI (s+1) n) s A.length = _
    simp only [laws_heldInt64S.l0]
    rw [if_pos (by simp; omega), if_pos (by omega), rd_mid, if_pos rfl, w64 (by omega) (by omega), w64 (by omega) (by omega), show (A.length : Int) + 1 = ((A ++ [s]).length : Int) by simp]
    have := held_l n (A ++ [s]) (s+1) (by omega) (by omega) (by simp; omega) k (by omega)
    rw [List.append_assoc, List.singleton_append] at this
    rw [this]
    congr 1; omega
theorem mark_held (l : List Int) (hl : l.length ≤ 1048576) (k : Nat) (hk : 1048576 < k) : ∃ l', laws_markInt64S.f k l 1 = some (1 + (l.length : Int), l') ∧ ∀ k, 1048576 < k → laws_heldInt64S.f k l' 1 = some (1 + (l.length : Int)) := by
  refine ⟨seqI 1 l.length, ?_, fun k hk => ?_⟩
  · unfold laws_markInt64S.f
    exact mark_l l [] 1 (by omega) (by omega) (by simp; omega) k (by omega)
  · unfold laws_heldInt64S.f
    exact held_l l.length [] 1 (by omega) (by omega) (by simp; omega) k (by omega)

/-- Marks from any start, and what is held then. -/
theorem mark_gen (l : List Int) (hl : l.length ≤ 1048576) (s : Int) (h0 : 0 ≤ s) (h1 : s ≤ 16777216) (k : Nat) (hk : 1048576 < k) : laws_markInt64S.f k l s = some (s + (l.length : Int), seqI s l.length) := by
  unfold laws_markInt64S.f
  exact mark_l l [] s h0 (by omega) (by simp; omega) k (by omega)
theorem held_gen (n : Nat) (hl : n ≤ 1048576) (s : Int) (h0 : 0 ≤ s) (h1 : s ≤ 16777216) (k : Nat) (hk : 1048576 < k) : laws_heldInt64S.f k (seqI s n) s = some (s + (n : Int)) := by
  unfold laws_heldInt64S.f
  exact held_l n [] s h0 (by omega) (by simp; omega) k (by omega)
theorem markS_gen (l : List Int) (hl : l.length ≤ 1048576) (s : Int) (h0 : 0 ≤ s) (h1 : s ≤ 16777216) (k : Nat) (hk : 1048576 < k) : laws_markSpace.f k l s = some (s + (l.length : Int), seqI s l.length) := by
  unfold laws_markSpace.f
  rw [mark_gen l hl s h0 h1 k hk]; rfl
theorem heldS_gen (n : Nat) (hl : n ≤ 1048576) (s : Int) (h0 : 0 ≤ s) (h1 : s ≤ 16777216) (k : Nat) (hk : 1048576 < k) : laws_heldSpace.f k (seqI s n) s = some (s + (n : Int)) := by
  unfold laws_heldSpace.f
  rw [held_gen n hl s h0 h1 k hk, Option.bind_some, if_neg (by omega)]

theorem sz_from (l : List Int) (z : Int) (h0 : 0 ≤ z) (h1 : z ≤ 1048576) (hl : l.length ≤ 9223372036854775807) : (z < (l.length : Int) ∧ laws_szSpace.f l z = some (-1)) ∨ ((l.length : Int) ≤ z ∧ laws_szSpace.f l z = some (z - (l.length : Int))) := by
  unfold laws_szSpace.f laws_szInt64S.f
  rw [w64 (by omega) (by omega)]
  by_cases h : z < (l.length : Int)
  · refine .inl ⟨h, ?_⟩
    rw [if_pos (by omega)]; rfl
  · refine .inr ⟨by omega, ?_⟩
    rw [if_neg (by omega), Option.bind_some, if_neg (by omega)]
theorem FnExactJoinOverPlace (l0 : List Int) (hm0 : l0.length ≤ maxLen) (_ : ∀ x ∈ l0, (Lit.int .i64 x).wf = true) (l1 : List Int) (_ : l1.length ≤ maxLen) (_ : l1.length * 8 ≤ 140737488351232) (_ : ∀ x ∈ l1, (Lit.int .i64 x).wf = true) (l2 : List Int) (hm2 : l2.length ≤ maxLen) (_ : ∀ x ∈ l2, (Lit.int .i64 x).wf = true) (l3 : List Int) (_ : l3.length ≤ maxLen) (_ : l3.length * 8 ≤ 140737488351232) (_ : ∀ x ∈ l3, (Lit.int .i64 x).wf = true) : ∃ k, JGood k l0 l1 l2 l3 := by
  unfold maxLen at hm0 hm2
  by_cases c1 : (l1.length : Int) > 1048576
  · exact ⟨0, .inl c1⟩
  by_cases c2 : (l3.length : Int) > 1048576
  · exact ⟨0, .inr (.inl ⟨c1, c2⟩)⟩
  rcases sz_from l0 1048576 (by omega) (by omega) (by omega) with ⟨_, z1⟩ | ⟨hz1, z1⟩
  · exact ⟨0, .inr (.inr (.inl ⟨c1, c2, _, z1, by decide⟩))⟩
  rcases sz_from l2 (1048576 - (l0.length : Int)) (by omega) (by omega) (by omega) with ⟨_, z2⟩ | ⟨hz2, z2⟩
  · exact ⟨0, .inr (.inr (.inr (.inl ⟨c1, c2, _, _, z1, by omega, z2, by decide⟩)))⟩
  obtain ⟨G, H, e, hG, hH, ⟨K1, g1⟩, ⟨K2, g2⟩⟩ := join_both l0 l1 l2 l3 (by omega) (by omega)
  obtain ⟨k, hk⟩ : ∃ k : Nat, 1048600 + K1 + K2 ≤ k := ⟨_, Nat.le_refl _⟩
  have a0 : l0.length ≤ 1048576 := by omega
  have a1 : l1.length ≤ 1048576 := by omega
  have a2 : l2.length ≤ 1048576 := by omega
  have a3 : l3.length ≤ 1048576 := by omega
  have hk1 : 1048576 < k := by omega
  refine ⟨k, .inr (.inr (.inr (.inr ⟨G, H, _, _, _, _, _, _, _, _, e, _, _, _, _, _, _, toSp_ev l0 a0 k hk1, to_ev l1 a1 k hk1, toSp_ev l2 a2 k hk1, to_ev l3 a3 k hk1, z1, z2, g1 k (by omega), g2 k (by omega), eqSp_ev G (by omega) k (by omega), eq_ev H (by omega) k (by omega), eqSp_ev l0 (by omega) k (by omega), eq_ev l1 (by omega) k (by omega), eqSp_ev l2 (by omega) k (by omega), eq_ev l3 (by omega) k (by omega), markS_gen l0 a0 1 (by omega) (by omega) k hk1, mark_gen l1 a1 _ (by omega) (by omega) k hk1, markS_gen l2 a2 _ (by omega) (by omega) k hk1, mark_gen l3 a3 _ (by omega) (by omega) k hk1, markS_gen G hG 1 (by omega) (by omega) k hk1, mark_gen H hH _ (by omega) (by omega) k hk1, heldS_gen G.length hG 1 (by omega) (by omega) k hk1, held_gen H.length hH _ (by omega) (by omega) k hk1, c1, c2, by omega, by omega, by omega, by omega, by omega⟩)))⟩

end Go.Proofs.Ythbfaefneoeadaa.Pure
