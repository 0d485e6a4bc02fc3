/- The words that columns reach are told alike, and the arguments are left alone. For every space, set, columns and number; longer lists than 1048576 are answered true. -/
import Derived.Test.YthjkdnneagnejaaPFnExactWordsReachedx0
import Derived.Test.YthjkdnneagnejaaPFnExactWordsReachedx1
import Derived.Test.YthjkdnneagnejaaPFnExactWordsReachedx2
import Derived.Test.YthjkdnneagnejaaPFnExactWordsReachedx3
import Derived.Test.YthjkdnneagnejaaPFnExactWordsReachedx4
import Derived.Test.YthjkdnneagnejaaPFnExactWordsReachedx5
import Derived.Test.YthjkdnneagnejaaPFnExactWordsReachedx6
import Derived.Test.YthjkdnneagnejaaPFnExactWordsReachedx7
import Derived.Test.YthjkdnneagnejaaPFnExactWordsReachedx8
import Derived.Test.YthjkdnneagnejaaPFnExactWordsReachedx9
import Derived.KernelRfl
namespace Go.Proofs.Ythjkdnneagnejaa.Pure
open Go Go.RowKit Go.Proofs.Ythjkdnneagnejaa.PFnExactWordsReached Go.Proofs.YthjkdnneagnejaaW.PrintWords Go.Proofs.YthjkdnneagnejaaW.PrintLast Go.Proofs.YthjkdnneagnejaaW.PrintMore Go.Proofs.Ythjkdnneagnejaa.DG
set_option linter.unusedVariables false
set_option linter.unusedSimpArgs false
theorem shl_one : ∀ n, n < 13 → shl .i64 1 ((n : Nat) : Int) = ((2 ^ n : Nat) : Int) := by decide +kernel
theorem pow_le {n : Nat} (h : n ≤ 12) : 2 ^ n ≤ 4096 := Nat.pow_le_pow_right (n := 2) (by omega) h
theorem w64 {i : Int} (h0 : -9223372036854775808 ≤ i) (h : i < 9223372036854775808) : wrap64 i = i := by unfold wrap64; omega
theorem u64 {i : Int} (h0 : 0 ≤ i) (h : i < 9223372036854775808) : IntKind.u64.wrap i = i := by
  have e : IntKind.u64.wrap i = i % 18446744073709551616 := by simp [IntKind.wrap, IntKind.bits, IntKind.signed]
  rw [e]; omega
def allN (p : Nat → Bool) : Nat → Bool
  | 0 => true
  | n+1 => p n && allN p n
theorem allN_at (p : Nat → Bool) : ∀ n, allN p n = true → ∀ s, s < n → p s = true
  | 0, _, s, h => by omega
  | n+1, h, s, hs => by
    simp only [allN, Bool.and_eq_true] at h
    by_cases e : s = n
    · subst e; exact h.1
    · exact allN_at p n h.2 s (by omega)

theorem set_mid (A B : List Int) (b s : Int) : (A ++ b :: B).set A.length s = (A ++ [s]) ++ B := by
  induction A with
  | nil => rfl
  | cons a A ih => simp [List.set_cons_succ]
theorem rd_mid (A B : List Int) (b : Int) : rd (A ++ b :: B) (A.length : Int) = b := by simp [rd]
theorem rd_nat (M : List Int) (i : Nat) (h : i < M.length) : rd M (i : Int) = M[i] := by simp [rd, List.getElem?_eq_getElem h]
def seqI : Int → Nat → List Int
  | _, 0 => []
  | s, n+1 => s :: seqI (s+1) n

def prodL : List Int → Int
  | [] => 1
  | q :: r => q * prodL r
theorem prodL_snoc (l : List Int) (q : Int) : prodL (l ++ [q]) = prodL l * q := by
  induction l with
  | nil => simp [prodL]
  | cons a l ih => simp only [List.cons_append, prodL, ih]; rw [Int.mul_assoc]
theorem prodL_bound : ∀ (l : List Int), (∀ q ∈ l, 2 ≤ q ∧ q ≤ 4) → 1 ≤ prodL l ∧ prodL l ≤ (4 : Int) ^ l.length
  | [], _ => by simp [prodL]
  | q :: r, h => by
    have h1 := h q (by simp)
    obtain ⟨h2, h3⟩ := prodL_bound r (fun x hx => h x (by simp [hx]))
    simp only [prodL, List.length_cons, Int.pow_succ]
    have hp : (0 : Int) ≤ 4 ^ r.length := Int.le_of_lt (Int.pow_pos (by omega))
    constructor
    · have : 1 * 1 ≤ q * prodL r := Int.mul_le_mul (by omega) h2 (by omega) (by omega)
      omega
    · rw [Int.mul_comm (4 ^ r.length) 4]
      exact Int.mul_le_mul h1.2 h3 (by omega) (by omega)
theorem prodL_le8 (l : List Int) (h : ∀ q ∈ l, 2 ≤ q ∧ q ≤ 4) (hl : l.length ≤ 8) : 1 ≤ prodL l ∧ prodL l ≤ 65536 := by
  obtain ⟨h1, h2⟩ := prodL_bound l h
  refine ⟨h1, Int.le_trans h2 ?_⟩
  have : ∀ n, n < 9 → (4 : Int) ^ n ≤ 65536 := by decide
  exact this _ (by omega)
/-- What a space's sizes are. -/
def SpaceOk (l : List Int) : Prop := 1 ≤ l.length ∧ l.length ≤ 8 ∧ (∀ q ∈ l, 2 ≤ q ∧ q ≤ 4) ∧ prodL l ≤ 1024

theorem prodI_eq : ∀ l : List Int, prodI l = prodL l
  | [] => rfl
  | q :: r => by simp [prodI, prodL, prodI_eq r]

/-- Digits within sizes. -/
def Within : List Int → List Int → Prop
  | [], [] => True
  | q :: z, d :: y => (0 ≤ d ∧ d < q) ∧ Within z y
  | _, _ => False
theorem within_len : ∀ {z y : List Int}, Within z y → y.length = z.length
  | [], [], _ => rfl
  | q :: z, d :: y, h => by simp [within_len h.2]
  | [], _ :: _, h => h.elim
  | _ :: _, [], h => h.elim
theorem within_dig : ∀ (z : List Int), (∀ q ∈ z, 2 ≤ q ∧ q ≤ 4) → ∀ v, Within z (digL z v)
  | [], _, v => trivial
  | q :: z, h, v => by
    have hq := h q (by simp)
    exact ⟨⟨Int.emod_nonneg _ (by omega), Int.emod_lt_of_pos _ (by omega)⟩, within_dig z (fun x hx => h x (by simp [hx])) v⟩
theorem word_lin : ∀ (z y : List Int) (acc : Int), y.length = z.length → wordI acc z y = acc * prodI z + wordI 0 z y
  | [], y, acc, h => by simp [wordI, prodI]
  | q :: z, [], acc, h => by simp at h
  | q :: z, d :: y, acc, h => by
    have hl : y.length = z.length := by simpa using h
    simp only [wordI, prodI]
    rw [word_lin z y _ hl, word_lin z y (0 * q + d) hl]
    rw [Int.zero_mul, Int.zero_add, Int.add_mul, Int.mul_assoc, Int.add_assoc]
theorem word_bound : ∀ (z y : List Int), (∀ q ∈ z, 2 ≤ q ∧ q ≤ 4) → Within z y → 0 ≤ wordI 0 z y ∧ wordI 0 z y < prodI z
  | [], [], _, _ => by simp [wordI, prodI]
  | q :: z, d :: y, h, hw => by
    have hz := fun x hx => h x (List.mem_cons_of_mem q hx)
    obtain ⟨i0, i1⟩ := word_bound z y hz hw.2
    obtain ⟨h0, h1⟩ := hw.1
    have hp := prodI_pos z hz
    have e : wordI 0 (q :: z) (d :: y) = d * prodI z + wordI 0 z y := by
      show wordI (0 * q + d) z y = _
      rw [word_lin z y _ (within_len hw.2), Int.zero_mul, Int.zero_add]
    rw [e]
    have h2 : 0 ≤ d * prodI z := Int.mul_nonneg h0 (by omega)
    have h3 : d * prodI z + prodI z ≤ q * prodI z := by
      have : (d + 1) * prodI z ≤ q * prodI z := Int.mul_le_mul_of_nonneg_right (by omega) (by omega)
      rw [Int.add_mul, Int.one_mul] at this; exact this
    simp only [prodI]
    omega
  | [], _ :: _, _, h => h.elim
  | _ :: _, [], _, h => h.elim
theorem dig_mod : ∀ (z : List Int), (∀ q ∈ z, 2 ≤ q ∧ q ≤ 4) → ∀ a v : Int, digL z (a * prodI z + v) = digL z v
  | [], _, a, v => rfl
  | q :: z, h, a, v => by
    have hz := fun x hx => h x (List.mem_cons_of_mem q hx)
    have hp := prodI_pos z hz
    simp only [digL, prodI]
    have e1 : (a * (q * prodI z) + v) / prodI z % q = v / prodI z % q := by
      rw [show a * (q * prodI z) + v = v + (a * q) * prodI z by rw [← Int.mul_assoc]; omega, Int.add_mul_ediv_right _ _ (by omega)]
      exact Int.add_mul_emod_self_right _ _ _
    rw [e1, show a * (q * prodI z) + v = (a * q) * prodI z + v by rw [← Int.mul_assoc], dig_mod z hz]
theorem dig_word : ∀ (z y : List Int), (∀ q ∈ z, 2 ≤ q ∧ q ≤ 4) → Within z y → digL z (wordI 0 z y) = y
  | [], [], _, _ => rfl
  | q :: z, d :: y, h, hw => by
    have hz := fun x hx => h x (List.mem_cons_of_mem q hx)
    have hp := prodI_pos z hz
    obtain ⟨i0, i1⟩ := word_bound z y hz hw.2
    obtain ⟨h0, h1⟩ := hw.1
    have e : wordI 0 (q :: z) (d :: y) = d * prodI z + wordI 0 z y := by
      show wordI (0 * q + d) z y = _
      rw [word_lin z y _ (within_len hw.2), Int.zero_mul, Int.zero_add]
    rw [e]
    simp only [digL]
    rw [dig_mod z hz, dig_word z y hz hw.2]
    congr 1
    rw [Int.add_comm, Int.add_mul_ediv_right _ _ (by omega), Int.ediv_eq_zero_of_lt i0 i1, Int.zero_add]
    exact Int.emod_eq_of_lt h0 h1
  | [], _ :: _, _, h => h.elim
  | _ :: _, [], _, h => h.elim

theorem specN_l : ∀ (B A : List Int), (∀ q ∈ A ++ B, 2 ≤ q ∧ q ≤ 4) → (A ++ B).length ≤ 8 → ∀ k, B.length < k → spec_l01N.l0 k (prodL A) A.length (A ++ B) = some (prodL (A ++ B))
  | [], A, h, hl, k, hk => by
    obtain ⟨k, rfl⟩ : ∃ q, k = q + 1 := ⟨k - 1, by simp at hk; omega⟩
    simp only [spec_l01N.l0]
    rw [if_neg (by simp)]; simp
  | b :: B, A, h, hl, k, hk => by
    obtain ⟨k, rfl⟩ : ∃ q, k = q + 1 := ⟨k - 1, by simp at hk; omega⟩
    have hb := h b (by simp)
    have hA := prodL_le8 (A ++ [b]) (fun q hq => h q (by simp at hq ⊢; rcases hq with hq | hq <;> simp [hq])) (by simp at hl ⊢; omega)
    rw [prodL_snoc] at hA
    simp only [spec_l01N.l0]
    simp only [List.length_append, List.length_cons] at hl hk
    rw [if_pos (by simp; omega), if_pos (by omega), rd_mid, w64 (by omega) (by omega), w64 (by omega) (by omega), ← prodL_snoc, show (A.length : Int) + 1 = ((A ++ [b]).length : Int) by simp]
    have := specN_l B (A ++ [b]) (by simpa using h) (by simp; omega) k (by omega)
    simpa using this
theorem specN_ev (l : List Int) (h : ∀ q ∈ l, 2 ≤ q ∧ q ≤ 4) (hl : l.length ≤ 8) : ∀ k, 10 ≤ k → spec_l01N.f k l = some (prodL l) := by
  intro k hk
  unfold spec_l01N.f
  exact specN_l l [] h hl k (by omega)

theorem implCount_l : ∀ (B A : List Int), (∀ q ∈ A ++ B, 2 ≤ q ∧ q ≤ 4) → (A ++ B).length ≤ 8 → ∀ k, B.length < k → impl_count.l0 k (prodL A) (A ++ B) (A ++ B).length A.length = some (prodL (A ++ B))
  | [], A, h, hl, k, hk => by
    obtain ⟨k, rfl⟩ : ∃ q, k = q + 1 := ⟨k - 1, by simp at hk; omega⟩
    simp only [impl_count.l0]
    rw [if_neg (by simp)]; simp
  | b :: B, A, h, hl, k, hk => by
    obtain ⟨k, rfl⟩ : ∃ q, k = q + 1 := ⟨k - 1, by simp at hk; omega⟩
    have hb := h b (by simp)
    have hA := prodL_le8 (A ++ [b]) (fun q hq => h q (by simp at hq ⊢; rcases hq with hq | hq <;> simp [hq])) (by simp at hl ⊢; omega)
    rw [prodL_snoc] at hA
    simp only [impl_count.l0]
    simp only [List.length_append, List.length_cons] at hl hk
    rw [if_pos (by simp; omega), if_pos (by omega), if_pos (by simp; omega), rd_mid, w64 (by omega) (by omega), w64 (by omega) (by omega), ← prodL_snoc, show (A.length : Int) + 1 = ((A ++ [b]).length : Int) by simp]
    have := implCount_l B (A ++ [b]) (by simpa using h) (by simp; omega) k (by omega)
    simpa using this
theorem implCount_ev (l : List Int) (h : ∀ q ∈ l, 2 ≤ q ∧ q ≤ 4) (hl : l.length ≤ 8) : ∀ k, 10 ≤ k → impl_count.f k l = some (prodL l) := by
  intro k hk
  unfold impl_count.f
  exact implCount_l l [] h hl k (by omega)

theorem set_rep (m : Nat) (x : Int) (R : List Int) : (List.replicate (m + 1) 0 ++ R).set m x = List.replicate m 0 ++ x :: R := by
  rw [List.replicate_succ', List.append_assoc, List.set_append]
  simp
theorem digL_drop (s : List Int) (w : Int) (m : Nat) (hm : m < s.length) : digL (s.drop m) w = (w / prodI (s.drop (m + 1)) % rd s (m : Int)) :: digL (s.drop (m + 1)) w := by
  rw [List.drop_eq_getElem_cons hm]
  have e : rd s (m : Int) = s[m] := by simp [rd, List.getElem?_eq_getElem hm]
  rw [e]; rfl
theorem size_at (s : List Int) (hs : ∀ q ∈ s, 2 ≤ q ∧ q ≤ 4) (m : Nat) (hm : m < s.length) : 2 ≤ rd s (m : Int) ∧ rd s (m : Int) ≤ 4 := by
  have e : rd s (m : Int) = s[m] := by simp [rd, List.getElem?_eq_getElem hm]
  rw [e]; exact hs _ (List.getElem_mem hm)
theorem div_nonneg' (s : List Int) (w : Int) (hs : ∀ q ∈ s, 2 ≤ q ∧ q ≤ 4) (hw0 : 0 ≤ w) (m : Nat) : 0 ≤ w / prodI (s.drop m) ∧ w / prodI (s.drop m) ≤ w := by
  have := prodI_pos (s.drop m) (fun q h => hs q (List.mem_of_mem_drop h))
  exact ⟨Int.ediv_nonneg hw0 (by omega), Int.ediv_le_self _ hw0⟩
theorem specDigits_l (s : List Int) (hs : ∀ q ∈ s, 2 ≤ q ∧ q ≤ 4) (h8 : s.length ≤ 8) (w : Int) (hw0 : 0 ≤ w) (hw1 : w ≤ 1073741824) : ∀ m : Nat, m ≤ s.length → ∀ k, m < k → spec_l01Digits.l0 k (w / prodI (s.drop m)) (List.replicate m 0 ++ digL (s.drop m) w) ((m : Int) - 1) s = some (digL s w)
  | 0, _, k, hk => by
    obtain ⟨k, rfl⟩ : ∃ q, k = q + 1 := ⟨k - 1, by omega⟩
    simp only [spec_l01Digits.l0]
    rw [if_neg (by omega)]; simp
  | m + 1, hm, k, hk => by
    obtain ⟨k, rfl⟩ : ∃ q, k = q + 1 := ⟨k - 1, by omega⟩
    have hq := size_at s hs m (by omega)
    obtain ⟨h1, h2⟩ := div_nonneg' s w hs hw0 (m + 1)
    have hlen : ((List.replicate (m + 1) 0 ++ digL (s.drop (m + 1)) w).length : Int) = (s.length : Int) := by
      rw [List.length_append, List.length_replicate, digL_len, List.length_drop]; omega
    have hd := div_prod s w m (by omega) hs
    obtain ⟨h3, h4⟩ := div_nonneg' s w hs hw0 m
    simp only [spec_l01Digits.l0]
    rw [show ((m + 1 : Nat) : Int) - 1 = (m : Int) by omega, if_pos (by omega), if_pos (by omega), if_pos (by omega), if_neg (by omega), if_pos (by omega), Int.toNat_natCast, Int.tdiv_eq_ediv_of_nonneg h1, Int.tmod_eq_emod_of_nonneg h1, hd, w64 (by omega) (by omega), w64 (by omega) (by omega), set_rep, ← digL_drop s w m (by omega)]
    exact specDigits_l s hs h8 w hw0 hw1 m (by omega) k (by omega)
theorem specDigits_ev (s : List Int) (hs : ∀ q ∈ s, 2 ≤ q ∧ q ≤ 4) (h8 : s.length ≤ 8) (w : Int) (hw0 : 0 ≤ w) (hw1 : w ≤ 1073741824) (k : Nat) (hk : 10 ≤ k) : spec_l01Digits.f k s w = some (digL s w) := by
  unfold spec_l01Digits.f
  rw [if_pos (by omega), if_pos (by omega), Int.toNat_natCast]
  have h := specDigits_l s hs h8 w hw0 hw1 s.length (Nat.le_refl _) k (by omega)
  rw [List.drop_length] at h
  simp only [prodI, digL, List.append_nil, Int.ediv_one] at h
  rw [w64 (by omega) (by omega)]
  exact h

theorem size_0 (s : List Int) (hs : ∀ q ∈ s, 2 ≤ q ∧ q ≤ 4) (h : 1 ≤ s.length) : 2 ≤ rd s 0 ∧ rd s 0 ≤ 4 := by
  have := size_at s hs 0 (by omega)
  simpa using this
theorem specWord_l (s : List Int) (hs : ∀ q ∈ s, 2 ≤ q ∧ q ≤ 4) (h8 : s.length ≤ 8) (y : List Int) (hy : y.length = s.length) : ∀ d i : Nat, i + d = s.length → ∀ acc : Int, 0 ≤ acc → (acc + 1) * prodI (s.drop i) ≤ 65536 → Within (s.drop i) (y.drop i) → ∀ k, d + 1 ≤ k → spec_l01Word.l0 k y acc i s = some (wordI acc (s.drop i) (y.drop i))
  | 0, i, e, acc, h0, h1, hw, k, hk => by
    obtain ⟨k, rfl⟩ : ∃ q, k = q + 1 := ⟨k - 1, by omega⟩
    simp only [spec_l01Word.l0]
    rw [if_neg (by omega), List.drop_eq_nil_of_le (by omega), List.drop_eq_nil_of_le (by omega)]; rfl
  | d + 1, i, e, acc, h0, h1, hw, k, hk => by
    obtain ⟨k, rfl⟩ : ∃ q, k = q + 1 := ⟨k - 1, by omega⟩
    have hi : i < s.length := by omega
    have hiy : i < y.length := by omega
    have hq := size_at s hs i hi
    have hp := prodI_pos (s.drop (i + 1)) (fun q h => hs q (List.mem_of_mem_drop h))
    have e1 : rd s (i : Int) = s[i] := by simp [rd, List.getElem?_eq_getElem hi]
    have e2 : rd y (i : Int) = y[i] := by simp [rd, List.getElem?_eq_getElem hiy]
    rw [List.drop_eq_getElem_cons hi, List.drop_eq_getElem_cons hiy] at hw ⊢
    rw [List.drop_eq_getElem_cons hi] at h1
    obtain ⟨⟨w0, w1⟩, hw2⟩ := hw
    simp only [prodI] at h1
    have hm : 0 ≤ acc * s[i] := Int.mul_nonneg h0 (by omega)
    have h2 : (acc * s[i] + y[i] + 1) * prodI (s.drop (i + 1)) ≤ 65536 := by
      refine Int.le_trans ?_ h1
      rw [← Int.mul_assoc]
      refine Int.mul_le_mul_of_nonneg_right ?_ (by omega)
      rw [Int.add_mul, Int.one_mul]; omega
    have h3 : acc * s[i] + y[i] + 1 ≤ 65536 := by
      refine Int.le_trans ?_ h2
      have := Int.mul_le_mul_of_nonneg_left (a := 1) (b := prodI (s.drop (i + 1))) (c := acc * s[i] + y[i] + 1) hp (by omega)
      rwa [Int.mul_one] at this
    simp only [spec_l01Word.l0]
    rw [if_pos (by omega), if_pos (by omega), if_pos (by omega), e1, e2, w64 (i := acc * s[i]) (by omega) (by omega), w64 (by omega) (by omega), w64 (by omega) (by omega), show (i : Int) + 1 = ((i + 1 : Nat) : Int) by omega]
    exact specWord_l s hs h8 y hy d (i + 1) (by omega) _ (by omega) h2 hw2 k (by omega)
theorem specWord_ev (s : List Int) (hs : ∀ q ∈ s, 2 ≤ q ∧ q ≤ 4) (h8 : s.length ≤ 8) (y : List Int) (hw : Within s y) (k : Nat) (hk : 10 ≤ k) : spec_l01Word.f k s y = some (wordI 0 s y) := by
  obtain ⟨p1, p2⟩ := prodL_le8 s hs h8
  have hl := within_len hw
  unfold spec_l01Word.f
  have := specWord_l s hs h8 y hl s.length 0 (by omega) 0 (by omega) (by rw [List.drop_zero, prodI_eq]; omega) (by simpa using hw) k (by omega)
  simpa using this

/-- The sum of two words. -/
def sumW (s : List Int) (u v : Int) : Int := wordI 0 s (sumL s (digL s u) (digL s v))
theorem within_sum : ∀ (s a b : List Int), (∀ q ∈ s, 2 ≤ q ∧ q ≤ 4) → s.length ≤ a.length → s.length ≤ b.length → Within s (sumL s a b)
  | [], _, _, _, _, _ => trivial
  | q :: s, [], _, _, h, _ => by simp at h
  | q :: s, _ :: _, [], _, _, h => by simp at h
  | q :: s, x :: a, y :: b, hs, ha, hb => by
    have hq := hs q (by simp)
    exact ⟨⟨Int.emod_nonneg _ (by omega), Int.emod_lt_of_pos _ (by omega)⟩, within_sum s a b (fun z hz => hs z (by simp [hz])) (by simpa using ha) (by simpa using hb)⟩
theorem sumW_bound (s : List Int) (hs : ∀ q ∈ s, 2 ≤ q ∧ q ≤ 4) (u v : Int) : 0 ≤ sumW s u v ∧ sumW s u v < prodL s := by
  have := word_bound s _ hs (within_sum s (digL s u) (digL s v) hs (by rw [digL_len]; omega) (by rw [digL_len]; omega))
  rw [prodI_eq] at this
  exact this
theorem digL_small : ∀ (s : List Int), (∀ q ∈ s, 2 ≤ q ∧ q ≤ 4) → ∀ v : Int, ∀ x ∈ digL s v, 0 ≤ x ∧ x < 4
  | [], _, v, x, hx => by simp [digL] at hx
  | q :: s, h, v, x, hx => by
    have hq := h q (by simp)
    simp only [digL, List.mem_cons] at hx
    rcases hx with rfl | hx
    · have h1 := Int.emod_nonneg (v / prodI s) (show q ≠ 0 by omega)
      have h2 := Int.emod_lt_of_pos (v / prodI s) (show 0 < q by omega)
      omega
    · exact digL_small s (fun z hz => h z (by simp [hz])) v x hx
theorem specSum_l (s : List Int) (hs : ∀ q ∈ s, 2 ≤ q ∧ q ≤ 4) (h8 : s.length ≤ 8) (a b : List Int) (ha : a.length = s.length) (hb : b.length = s.length) (ha4 : ∀ x ∈ a, 0 ≤ x ∧ x < 4) (hb4 : ∀ x ∈ b, 0 ≤ x ∧ x < 4) : ∀ d i : Nat, i + d = s.length → ∀ k, d + 11 ≤ k → spec_l01Sum.l0 k ((sumL s a b).take i ++ a.drop i) b s.length i s = some (wordI 0 s (sumL s a b))
  | 0, i, e, k, hk => by
    obtain ⟨k, rfl⟩ : ∃ q, k = q + 1 := ⟨k - 1, by omega⟩
    have hl := sumL_len s a b (by omega) (by omega)
    simp only [spec_l01Sum.l0]
    rw [if_neg (by omega), List.drop_eq_nil_of_le (by omega), List.append_nil, List.take_of_length_le (by omega), specWord_ev s hs h8 _ (within_sum s a b hs (by omega) (by omega)) k (by omega)]; rfl
  | d + 1, i, e, k, hk => by
    obtain ⟨k, rfl⟩ : ∃ q, k = q + 1 := ⟨k - 1, by omega⟩
    have hi : i < s.length := by omega
    have hl := sumL_len s a b (by omega) (by omega)
    have hq := size_at s hs i hi
    have hx := ha4 _ (List.getElem_mem (show i < a.length by omega))
    have hy := hb4 _ (List.getElem_mem (show i < b.length by omega))
    have hlen : ((sumL s a b).take i ++ a.drop i).length = s.length := by simp; omega
    have e1 : rd ((sumL s a b).take i ++ a.drop i) (i : Int) = a[i] := by
      simp only [rd, Int.toNat_natCast]
      rw [List.getD_eq_getElem?_getD, List.getElem?_append_right (by rw [List.length_take]; omega), List.length_take, List.getElem?_drop, show i + (i - min i (sumL s a b).length) = i by omega, List.getElem?_eq_getElem (by omega)]; rfl
    have e2 : rd b (i : Int) = b[i] := by simp [rd, List.getElem?_eq_getElem (show i < b.length by omega)]
    have e3 : rd a (i : Int) = a[i] := by simp [rd, List.getElem?_eq_getElem (show i < a.length by omega)]
    have hg := sumL_get s a b i hi (by omega) (by omega)
    simp only [spec_l01Sum.l0]
    rw [if_pos (by omega), if_pos (by omega), if_pos (by rw [hlen]; omega), if_pos (by omega), if_pos (by omega), if_neg (by omega), e1, e2, w64 (i := a[i] + b[i]) (by omega) (by omega), Int.tmod_eq_emod_of_nonneg (by omega), w64 (by omega) (by omega), Int.toNat_natCast, show (i : Int) + 1 = ((i + 1 : Nat) : Int) by omega]
    have e4 : ((sumL s a b).take i ++ a.drop i).set i ((a[i] + b[i]) % rd s (i : Int)) = (sumL s a b).take (i + 1) ++ a.drop (i + 1) := by
      rw [List.set_append, if_neg (by rw [List.length_take]; omega), List.length_take, show i - min i (sumL s a b).length = 0 by omega, List.drop_eq_getElem_cons (show i < a.length by omega), List.set_cons_zero, List.take_succ_eq_append_getElem (show i < (sumL s a b).length by omega), List.append_assoc, List.singleton_append]
      rw [List.getElem?_eq_getElem (by omega)] at hg
      rw [Option.some.inj hg, e2, e3]
    rw [e4]
    exact specSum_l s hs h8 a b ha hb ha4 hb4 d (i + 1) (by omega) k (by omega)
theorem specSum_ev (s : List Int) (hs : ∀ q ∈ s, 2 ≤ q ∧ q ≤ 4) (h8 : s.length ≤ 8) (u v : Int) (hu0 : 0 ≤ u) (hu1 : u ≤ 1073741824) (hv0 : 0 ≤ v) (hv1 : v ≤ 1073741824) (k : Nat) (hk : 30 ≤ k) : spec_l01Sum.f k s u v = some (sumW s u v) := by
  unfold spec_l01Sum.f
  rw [specDigits_ev s hs h8 u hu0 hu1 k (by omega), Option.bind_some, specDigits_ev s hs h8 v hv0 hv1 k (by omega), Option.bind_some, digL_len]
  have := specSum_l s hs h8 (digL s u) (digL s v) (digL_len s u) (digL_len s v) (digL_small s hs u) (digL_small s hs v) s.length 0 (by omega) k (by omega)
  unfold sumW
  simpa using this

/-- Eight digits. -/
def t8 (d : List Int) (z : Int × Int × Int × Int × Int × Int × Int × Int) : Prop := d = [z.1, z.2.1, z.2.2.1, z.2.2.2.1, z.2.2.2.2.1, z.2.2.2.2.2.1, z.2.2.2.2.2.2.1, z.2.2.2.2.2.2.2]
theorem tup8_list (s : List Int) (h8 : s.length ≤ 8) : [(tup8 s).1, (tup8 s).2.1, (tup8 s).2.2.1, (tup8 s).2.2.2.1, (tup8 s).2.2.2.2.1, (tup8 s).2.2.2.2.2.1, (tup8 s).2.2.2.2.2.2.1, (tup8 s).2.2.2.2.2.2.2] = s ++ List.replicate (8 - s.length) 0 := by
  match s, h8 with
  | [], _ => rfl
  | [_], _ => rfl
  | [_, _], _ => rfl
  | [_, _, _], _ => rfl
  | [_, _, _, _], _ => rfl
  | [_, _, _, _, _], _ => rfl
  | [_, _, _, _, _, _], _ => rfl
  | [_, _, _, _, _, _, _], _ => rfl
  | [_, _, _, _, _, _, _, _], _ => rfl
  | _ :: _ :: _ :: _ :: _ :: _ :: _ :: _ :: _ :: _, h => exact absurd h (by simp only [List.length_cons]; omega)
theorem sumL_pad : ∀ (s a b x y : List Int), a.length = s.length → b.length = s.length → sumL s (a ++ x) (b ++ y) = sumL s a b
  | [], [], [], x, y, _, _ => by simp [sumL]
  | [], _ :: _, _, _, _, h, _ => by simp at h
  | [], [], _ :: _, _, _, _, h => by simp at h
  | q :: s, [], _, _, _, h, _ => by simp at h
  | q :: s, _ :: _, [], _, _, _, h => by simp at h
  | q :: s, d :: a, e :: b, x, y, ha, hb => by
    simp only [List.cons_append, sumL]
    rw [sumL_pad s a b x y (by simpa using ha) (by simpa using hb)]
theorem wordI_pad : ∀ (s a x : List Int) (acc : Int), a.length = s.length → wordI acc s (a ++ x) = wordI acc s a
  | [], [], x, acc, _ => by cases x <;> rfl
  | [], _ :: _, _, _, h => by simp at h
  | q :: s, [], _, _, h => by simp at h
  | q :: s, d :: a, x, acc, h => by
    simp only [List.cons_append, wordI]
    exact wordI_pad s a x _ (by simpa using h)
theorem okB_pad (d : List Int) (m : Nat) (h : ∀ x ∈ d, 0 ≤ x ∧ x < 4) : okB (d ++ List.replicate m 0) = true := by
  unfold okB
  rw [List.all_eq_true]
  intro x hx
  rcases List.mem_append.1 hx with hx | hx
  · have := h x hx; simp; omega
  · rw [List.eq_of_mem_replicate hx]; rfl
theorem implSum_ev (s : List Int) (hs : ∀ q ∈ s, 2 ≤ q ∧ q ≤ 4) (h8 : s.length ≤ 8) (u v : Int) (k : Nat) (a b : Int × Int × Int × Int × Int × Int × Int × Int) (ha : a = tup8 (digL s u)) (hb : b = tup8 (digL s v)) : impl_sumOf.f k s a.1 a.2.1 a.2.2.1 a.2.2.2.1 a.2.2.2.2.1 a.2.2.2.2.2.1 a.2.2.2.2.2.2.1 a.2.2.2.2.2.2.2 b.1 b.2.1 b.2.2.1 b.2.2.2.1 b.2.2.2.2.1 b.2.2.2.2.2.1 b.2.2.2.2.2.2.1 b.2.2.2.2.2.2.2 = some (tup8 (digL s (sumW s u v))) := by
  subst ha hb
  have e1 := tup8_list (digL s u) (by rw [digL_len]; exact h8)
  have e2 := tup8_list (digL s v) (by rw [digL_len]; exact h8)
  unfold impl_sumOf.f
  rw [e1, e2, if_pos ((okS_iff s).2 ⟨h8, hs⟩), if_pos (okB_pad _ _ (digL_small s hs u)), if_pos (okB_pad _ _ (digL_small s hs v)), sumL_pad s _ _ _ _ (digL_len s u) (digL_len s v)]
  unfold sumW
  rw [dig_word s _ hs (within_sum s (digL s u) (digL s v) hs (by rw [digL_len]; omega) (by rw [digL_len]; omega))]
theorem implWord_ev (s : List Int) (hs : ∀ q ∈ s, 2 ≤ q ∧ q ≤ 4) (h8 : s.length ≤ 8) (y : List Int) (hw : Within s y) (hy : ∀ x ∈ y, 0 ≤ x ∧ x < 4) (k : Nat) (a : Int × Int × Int × Int × Int × Int × Int × Int) (ha : a = tup8 y) : impl_wordOf.f k s a.1 a.2.1 a.2.2.1 a.2.2.2.1 a.2.2.2.2.1 a.2.2.2.2.2.1 a.2.2.2.2.2.2.1 a.2.2.2.2.2.2.2 = some (wordI 0 s y) := by
  subst ha
  have e1 := tup8_list y (by rw [within_len hw]; exact h8)
  unfold impl_wordOf.f
  rw [e1, if_pos ((okS_iff s).2 ⟨h8, hs⟩), if_pos (okB_pad _ _ hy), wordI_pad s y _ _ (within_len hw)]

theorem specIs_l : ∀ (B A : List Int), (∀ q ∈ A, 2 ≤ q ∧ q ≤ 4) → (A ++ B).length ≤ 8 → ∀ k, B.length + 10 < k → spec_l01Is.l0 k A.length (A ++ B) = some (decide (∀ q ∈ A ++ B, 2 ≤ q ∧ q ≤ 4) && decide (prodL (A ++ B) ≤ 1024))
  | [], A, h, hl, k, hk => by
    obtain ⟨k, rfl⟩ : ∃ q, k = q + 1 := ⟨k - 1, by simp at hk; omega⟩
    simp only [List.append_nil] at hl ⊢
    simp only [spec_l01Is.l0]
    simp only [List.length_nil] at hk
    rw [if_neg (by omega), specN_ev A h hl k (by omega), Option.bind_some]
    simp only [decide_eq_true h, Bool.true_and]
  | b :: B, A, h, hl, k, hk => by
    obtain ⟨k, rfl⟩ : ∃ q, k = q + 1 := ⟨k - 1, by simp at hk; omega⟩
    simp only [spec_l01Is.l0]
    simp only [List.length_append, List.length_cons] at hl hk
    unfold spec_l01In.f
    rw [if_pos (by simp; omega), if_pos (by omega), rd_mid]
    by_cases hb : 2 ≤ b ∧ b ≤ 4
    · rw [if_pos hb.1, Option.bind_some, if_pos (by simpa using hb.2), w64 (by omega) (by omega), show (A.length : Int) + 1 = ((A ++ [b]).length : Int) by simp]
      have := specIs_l B (A ++ [b]) (fun q hq => by simp at hq; rcases hq with hq | rfl; exact h q hq; exact hb) (by simp; omega) k (by omega)
      rw [List.append_assoc, List.singleton_append] at this
      rw [this]
    · have hd : decide (∀ q ∈ A ++ b :: B, 2 ≤ q ∧ q ≤ 4) = false := by
        rw [decide_eq_false_iff_not]; intro hh; exact hb (hh b (by simp))
      rw [hd, Bool.false_and]
      by_cases h1 : b ≥ 2
      · rw [if_pos h1, Option.bind_some, if_neg (by simp; omega)]
      · rw [if_neg h1, Option.bind_some]; rfl
instance (l : List Int) : Decidable (SpaceOk l) := by unfold SpaceOk; infer_instance
theorem specIs_ev (l : List Int) : ∀ k, 30 ≤ k → spec_l01Is.f k l = some (decide (SpaceOk l)) := by
  intro k hk
  unfold spec_l01Is.f
  by_cases h1 : 1 ≤ l.length ∧ l.length ≤ 8
  · have e : spec_l01In.f (l.length : Int) 1 8 = some true := by
      unfold spec_l01In.f; rw [if_pos (by omega)]; simp; omega
    rw [e, Option.bind_some, if_pos rfl]
    have := specIs_l l [] (by simp) (by simpa using h1.2) k (by omega)
    simp only [List.nil_append, List.length_nil] at this
    rw [show (0 : Int) = ((0 : Nat) : Int) from rfl, this]
    congr 1
    rw [Bool.eq_iff_iff]
    simp [SpaceOk, h1]
  · have e : spec_l01In.f (l.length : Int) 1 8 = some false := by
      unfold spec_l01In.f
      by_cases h2 : (l.length : Int) ≥ 1
      · rw [if_pos h2]; simp; omega
      · rw [if_neg h2]
    have hd : decide (SpaceOk l) = false := by
      rw [decide_eq_false_iff_not]; intro hh; exact h1 ⟨hh.1, hh.2.1⟩
    rw [e, Option.bind_some, hd]; rfl

theorem specWords_l (s : List Int) (hs : SpaceOk s) (l : List Int) (hl : l.length ≤ 1048576) : ∀ d i : Nat, i + d = l.length → ∃ b : Bool, (b = true ↔ ∀ j (hj : j < l.length), i ≤ j → 0 ≤ l[j] ∧ l[j] < prodL s) ∧ ∀ k, d + 12 ≤ k → spec_l01Words.l0 k l i s = some (if b = true then 0 else 2)
  | 0, i, e => by
    refine ⟨true, ⟨fun _ j hj hi => by omega, fun _ => rfl⟩, fun k hk => ?_⟩
    obtain ⟨k, rfl⟩ : ∃ q, k = q + 1 := ⟨k - 1, by omega⟩
    simp only [spec_l01Words.l0]; rw [if_neg (by omega)]; rfl
  | d+1, i, e => by
    have hi : i < l.length := by omega
    have hr := rd_nat l i hi
    have hw : wrap64 ((i : Int) + 1) = ((i + 1 : Nat) : Int) := by rw [w64 (by omega) (by omega)]; omega
    have hP := prodL_le8 s hs.2.2.1 hs.2.1
    obtain ⟨b, hb, g⟩ := specWords_l s hs l hl d (i+1) (by omega)
    by_cases hin : 0 ≤ l[i] ∧ l[i] < prodL s
    · have e1 : spec_l01In.f l[i] 0 (prodL s - 1) = some true := by
        unfold spec_l01In.f; rw [if_pos hin.1]; simp; omega
      refine ⟨b, ⟨fun h j hj hij => ?_, fun h => hb.2 fun j hj hij => h j hj (by omega)⟩, fun k hk => ?_⟩
      · by_cases hji : j = i
        · subst hji; exact hin
        · exact hb.1 h j hj (by omega)
      · obtain ⟨k, rfl⟩ : ∃ q, k = q + 1 := ⟨k - 1, by omega⟩
        simp only [spec_l01Words.l0]
        rw [if_pos (by omega), if_pos (by omega), specN_ev s hs.2.2.1 hs.2.1 k (by omega), Option.bind_some, hr, w64 (i := prodL s - 1) (by omega) (by omega), e1, Option.bind_some, if_pos rfl, hw]
        exact g k (by omega)
    · have e1 : spec_l01In.f l[i] 0 (prodL s - 1) = some false := by
        unfold spec_l01In.f
        by_cases h1 : l[i] ≥ 0
        · rw [if_pos h1]; simp; omega
        · rw [if_neg h1]
      refine ⟨false, ⟨fun h => absurd h (by decide), fun h => absurd (h i hi (by omega)) hin⟩, fun k hk => ?_⟩
      obtain ⟨k, rfl⟩ : ∃ q, k = q + 1 := ⟨k - 1, by omega⟩
      simp only [spec_l01Words.l0]
      rw [if_pos (by omega), if_pos (by omega), specN_ev s hs.2.2.1 hs.2.1 k (by omega), Option.bind_some, hr, w64 (i := prodL s - 1) (by omega) (by omega), e1, Option.bind_some, if_neg (by decide)]
      rfl
theorem specWords_ev (s : List Int) (hs : SpaceOk s) (l : List Int) (hl : l.length ≤ 1048576) : ∃ b : Bool, (b = true ↔ ∀ j (hj : j < l.length), 0 ≤ l[j] ∧ l[j] < prodL s) ∧ ∀ k, l.length + 30 ≤ k → spec_l01Words.f k s l = some (if b = true then 0 else 2) := by
  obtain ⟨b, h, g⟩ := specWords_l s hs l hl l.length 0 (by omega)
  refine ⟨b, ⟨fun hb j hj => h.1 hb j hj (by omega), fun hc => h.2 fun j hj _ => hc j hj⟩, fun k hk => ?_⟩
  unfold spec_l01Words.f
  rw [specIs_ev s k (by omega), decide_eq_true hs, Option.bind_some, if_pos rfl]
  exact g k (by omega)

theorem specPlain_l (s : List Int) (h0 : 1 ≤ s.length) (h8 : s.length ≤ 8) : ∀ d i : Nat, i + d = s.length → ∃ b : Bool, (b = true ↔ ∀ j (hj : j < s.length), i ≤ j → s[j] = rd s 0 ∧ s[j] ≤ 3) ∧ ∀ k, d + 1 ≤ k → spec_l05Plain.l0 k s.length i s = some b
  | 0, i, e => by
    refine ⟨true, ⟨fun _ j hj hi => by omega, fun _ => rfl⟩, fun k hk => ?_⟩
    obtain ⟨k, rfl⟩ : ∃ q, k = q + 1 := ⟨k - 1, by omega⟩
    simp only [spec_l05Plain.l0]; rw [if_neg (by omega)]
  | d+1, i, e => by
    have hi : i < s.length := by omega
    have hr := rd_nat s i hi
    have hw : wrap64 ((i : Int) + 1) = ((i + 1 : Nat) : Int) := by rw [w64 (by omega) (by omega)]; omega
    obtain ⟨b, hb, g⟩ := specPlain_l s h0 h8 d (i+1) (by omega)
    have start : ∀ k, spec_l05Plain.l0 (k+1) s.length i s = if s[i] = rd s 0 then (if s[i] > 3 then some false else spec_l05Plain.l0 k s.length ((i + 1 : Nat) : Int) s) else some false := by
      intro k
      simp only [spec_l05Plain.l0]
      rw [if_pos (by omega), if_pos (by omega), if_pos (by omega), if_pos (by omega), hr, hw]
    by_cases h1 : s[i] = rd s 0
    · by_cases h2 : s[i] > 3
      · refine ⟨false, ⟨fun h => absurd h (by decide), fun h => ?_⟩, fun k hk => ?_⟩
        · have := (h i hi (by omega)).2; omega
        · obtain ⟨k, rfl⟩ : ∃ q, k = q + 1 := ⟨k - 1, by omega⟩
          rw [start, if_pos h1, if_pos h2]
      · refine ⟨b, ⟨fun h j hj hij => ?_, fun h => hb.2 fun j hj hij => h j hj (by omega)⟩, fun k hk => ?_⟩
        · by_cases hji : j = i
          · subst hji; exact ⟨h1, by omega⟩
          · exact hb.1 h j hj (by omega)
        · obtain ⟨k, rfl⟩ : ∃ q, k = q + 1 := ⟨k - 1, by omega⟩
          rw [start, if_pos h1, if_neg h2]
          exact g k (by omega)
    · refine ⟨false, ⟨fun h => absurd h (by decide), fun h => absurd (h i hi (by omega)).1 h1⟩, fun k hk => ?_⟩
      obtain ⟨k, rfl⟩ : ∃ q, k = q + 1 := ⟨k - 1, by omega⟩
      rw [start, if_neg h1]
theorem plain_both (s : List Int) (h0 : 1 ≤ s.length) (h8 : s.length ≤ 8) : ∃ b : Bool, ∀ k, 20 ≤ k → spec_l05Plain.f k s = some b ∧ impl_isPlain.f k s = some b := by
  obtain ⟨b, hb, g⟩ := specPlain_l s h0 h8 s.length 0 (by omega)
  refine ⟨b, fun k hk => ⟨?_, ?_⟩⟩
  · unfold spec_l05Plain.f
    exact g k (by omega)
  · unfold impl_isPlain.f
    rw [if_pos h0]
    congr 1
    rw [Bool.eq_iff_iff, hb]
    have e0 : rd s 0 = s[0] := rd_nat s 0 (by omega)
    simp only [Bool.and_eq_true, decide_eq_true_eq, Bool.not_eq_true', List.any_eq_false, bne_iff_ne, ne_eq, Decidable.not_not]
    constructor
    · rintro ⟨h1, h2⟩ j hj _
      have := h2 _ (List.getElem_mem hj)
      exact ⟨this, by omega⟩
    · intro h
      refine ⟨by have := (h 0 (by omega) (by omega)).2; omega, fun x hx => ?_⟩
      obtain ⟨j, hj, rfl⟩ := List.mem_iff_getElem.1 hx
      exact (h j hj (by omega)).1

/-- What a code's words are: ascending, all of them words. -/
def CodeOk (n : Int) (l : List Int) : Prop := ∀ j (hj : j < l.length), (0 ≤ l[j] ∧ l[j] < n) ∧ ∀ h0 : 0 < j, l[j-1]'(by omega) < l[j]
theorem CodeOk.len {n : Int} {l : List Int} (h : CodeOk n l) : l.length = 0 ∨ (l.length : Int) ≤ n := by
  have key : ∀ j (hj : j < l.length), (j : Int) ≤ l[j] := by
    intro j
    induction j with
    | zero => intro hj; have := (h 0 hj).1; omega
    | succ j ih =>
      intro hj
      have h1 := ih (by omega)
      have h2 := (h (j+1) hj).2 (by omega)
      simp only [Nat.add_sub_cancel] at h2
      omega
  by_cases h0 : l.length = 0
  · exact .inl h0
  · right
    have h1 := key (l.length - 1) (by omega)
    have h2 := (h (l.length - 1) (by omega)).1
    omega

theorem areWords_l (n : Int) (l : List Int) (hl : l.length ≤ 4611686018427387904) : ∀ d i : Nat, i + d = l.length → ∃ b : Bool, (b = true ↔ ∀ j (hj : j < l.length), i ≤ j → 0 ≤ l[j] ∧ l[j] < n) ∧ ∀ k, d + 1 ≤ k → impl_areWords.l0 k n l l.length i = some b
  | 0, i, e => by
    refine ⟨true, ⟨fun _ j hj hi => by omega, fun _ => rfl⟩, fun k hk => ?_⟩
    obtain ⟨k, rfl⟩ : ∃ q, k = q + 1 := ⟨k - 1, by omega⟩
    simp only [impl_areWords.l0]; rw [if_neg (by omega)]
  | d+1, i, e => by
    have hi : i < l.length := by omega
    have hr := rd_nat l i hi
    have hw : wrap64 ((i : Int) + 1) = ((i + 1 : Nat) : Int) := by rw [w64 (by omega) (by omega)]; omega
    obtain ⟨b, hb, g⟩ := areWords_l n l hl d (i+1) (by omega)
    by_cases hin : 0 ≤ l[i] ∧ l[i] < n
    · refine ⟨b, ⟨fun h j hj hij => ?_, fun h => hb.2 fun j hj hij => h j hj (by omega)⟩, fun k hk => ?_⟩
      · by_cases hji : j = i
        · subst hji; exact hin
        · exact hb.1 h j hj (by omega)
      · obtain ⟨k, rfl⟩ : ∃ q, k = q + 1 := ⟨k - 1, by omega⟩
        simp only [impl_areWords.l0]
        rw [if_pos (by omega), if_pos (by omega), if_pos (by omega), hr, if_neg (by omega), if_neg (by omega), hw]
        exact g k (by omega)
    · refine ⟨false, ⟨fun h => absurd h (by decide), fun h => absurd (h i hi (by omega)) hin⟩, fun k hk => ?_⟩
      obtain ⟨k, rfl⟩ : ∃ q, k = q + 1 := ⟨k - 1, by omega⟩
      simp only [impl_areWords.l0]
      rw [if_pos (by omega), if_pos (by omega), if_pos (by omega), hr]
      by_cases h1 : l[i] < 0
      · rw [if_pos h1]
      · rw [if_neg h1, if_pos (by omega)]
theorem areWords_ev (s : List Int) (hs : SpaceOk s) (l : List Int) (hl : l.length ≤ 4611686018427387904) : ∃ b : Bool, (b = true ↔ ∀ j (hj : j < l.length), 0 ≤ l[j] ∧ l[j] < prodL s) ∧ ∀ k, l.length + 12 ≤ k → impl_areWords.f k s l = some b := by
  obtain ⟨b, h, g⟩ := areWords_l (prodL s) l hl l.length 0 (by omega)
  refine ⟨b, ⟨fun hb j hj => h.1 hb j hj (by omega), fun hc => h.2 fun j hj _ => hc j hj⟩, fun k hk => ?_⟩
  unfold impl_areWords.f
  rw [implCount_ev s hs.2.2.1 hs.2.1 k (by omega), Option.bind_some]
  exact g k (by omega)

theorem ascend_l (l : List Int) (hl : l.length ≤ 4611686018427387904) : ∀ d i : Nat, i + d = l.length → 1 ≤ i → ∃ b : Bool, (b = true ↔ ∀ j (hj : j < l.length), i ≤ j → ∀ h0 : 0 < j, l[j-1]'(by omega) < l[j]) ∧ ∀ k, d + 1 ≤ k → impl_isCode.l0 k l i = some b
  | 0, i, e, h1 => by
    refine ⟨true, ⟨fun _ j hj hi => by omega, fun _ => rfl⟩, fun k hk => ?_⟩
    obtain ⟨k, rfl⟩ : ∃ q, k = q + 1 := ⟨k - 1, by omega⟩
    simp only [impl_isCode.l0]; rw [if_neg (by omega)]
  | d+1, i, e, h1 => by
    have hi : i < l.length := by omega
    have hr := rd_nat l i hi
    have hr1 := rd_nat l (i - 1) (by omega)
    have hw : wrap64 ((i : Int) + 1) = ((i + 1 : Nat) : Int) := by rw [w64 (by omega) (by omega)]; omega
    have hw1 : wrap64 ((i : Int) - 1) = ((i - 1 : Nat) : Int) := by rw [w64 (by omega) (by omega)]; omega
    obtain ⟨b, hb, g⟩ := ascend_l l hl d (i+1) (by omega) (by omega)
    by_cases hle : l[i] ≤ l[i-1]
    · refine ⟨false, ⟨fun h => absurd h (by decide), fun h => ?_⟩, fun k hk => ?_⟩
      · have := h i hi (by omega) (by omega); omega
      · obtain ⟨k, rfl⟩ : ∃ q, k = q + 1 := ⟨k - 1, by omega⟩
        simp only [impl_isCode.l0]
        rw [if_pos (by omega), if_pos (by omega), hw1, if_pos (by omega), if_pos (by omega), hr, hr1, if_pos hle]
    · refine ⟨b, ⟨fun h j hj hij h0 => ?_, fun h => hb.2 fun j hj hij h0 => h j hj (by omega) h0⟩, fun k hk => ?_⟩
      · by_cases hji : j = i
        · subst hji; omega
        · exact hb.1 h j hj (by omega) h0
      · obtain ⟨k, rfl⟩ : ∃ q, k = q + 1 := ⟨k - 1, by omega⟩
        simp only [impl_isCode.l0]
        rw [if_pos (by omega), if_pos (by omega), hw1, if_pos (by omega), if_pos (by omega), hr, hr1, if_neg hle, hw]
        exact g k (by omega)
theorem isCode_ev (s : List Int) (hs : SpaceOk s) (l : List Int) (hl : l.length ≤ 4611686018427387904) : ∃ b : Bool, (b = true ↔ CodeOk (prodL s) l) ∧ ∀ k, l.length + 14 ≤ k → impl_isCode.f k s l = some b := by
  have hP := prodL_le8 s hs.2.2.1 hs.2.1
  obtain ⟨b1, hb1, g1⟩ := areWords_ev s hs l hl
  by_cases hlen : (l.length : Int) > prodL s
  · refine ⟨false, ⟨fun h => absurd h (by decide), fun h => ?_⟩, fun k hk => ?_⟩
    · rcases h.len with h2 | h2 <;> omega
    · obtain ⟨k, rfl⟩ : ∃ q, k = q + 1 := ⟨k - 1, by omega⟩
      unfold impl_isCode.f
      rw [implCount_ev s hs.2.2.1 hs.2.1 _ (by omega), Option.bind_some, if_pos hlen]
      simp [impl_isCode.j0]
  · cases hb : b1 with
    | false =>
      subst hb
      refine ⟨false, ⟨fun h => absurd h (by decide), fun h => ?_⟩, fun k hk => ?_⟩
      · exact absurd (hb1.2 fun j hj => (h j hj).1) (by decide)
      · obtain ⟨k, rfl⟩ : ∃ q, k = q + 1 := ⟨k - 1, by omega⟩
        unfold impl_isCode.f
        rw [implCount_ev s hs.2.2.1 hs.2.1 _ (by omega), Option.bind_some, if_neg hlen, g1 _ (by omega), Option.bind_some]
        simp [impl_isCode.j0]
    | true =>
      subst hb
      have hall := hb1.1 rfl
      obtain ⟨b, hb, g⟩ : ∃ b : Bool, (b = true ↔ ∀ j (hj : j < l.length), 1 ≤ j → ∀ h0 : 0 < j, l[j-1]'(by omega) < l[j]) ∧ ∀ k, l.length + 1 ≤ k → impl_isCode.l0 k l 1 = some b := by
        by_cases h0 : l.length = 0
        · refine ⟨true, ⟨fun _ j hj => by omega, fun _ => rfl⟩, fun k hk => ?_⟩
          obtain ⟨k, rfl⟩ : ∃ q, k = q + 1 := ⟨k - 1, by omega⟩
          simp only [impl_isCode.l0]; rw [if_neg (by omega)]
        · obtain ⟨b, hb, g⟩ := ascend_l l hl (l.length - 1) 1 (by omega) (by omega)
          exact ⟨b, hb, fun k hk => g k (by omega)⟩
      refine ⟨b, ⟨fun h j hj => ⟨hall j hj, fun h0 => hb.1 h j hj (by omega) h0⟩, fun h => hb.2 fun j hj _ h0 => (h j hj).2 h0⟩, fun k hk => ?_⟩
      obtain ⟨k, rfl⟩ : ∃ q, k = q + 1 := ⟨k - 1, by omega⟩
      unfold impl_isCode.f
      rw [implCount_ev s hs.2.2.1 hs.2.1 _ (by omega), Option.bind_some, if_neg hlen, g1 _ (by omega), Option.bind_some]
      simp only [Bool.not_true, impl_isCode.j0]
      rw [if_neg (by decide)]
      exact g k (by omega)

theorem implIs_l : ∀ (B A : List Int), (∀ q ∈ A, 2 ≤ q ∧ q ≤ 4) → (A ++ B).length ≤ 8 → ∀ k, B.length < k → impl_IsSpace.l0 k (prodL A) (A ++ B) (A ++ B).length A.length = some (decide (∀ q ∈ A ++ B, 2 ≤ q ∧ q ≤ 4) && decide (prodL (A ++ B) ≤ 1024))
  | [], A, h, hl, k, hk => by
    obtain ⟨k, rfl⟩ : ∃ q, k = q + 1 := ⟨k - 1, by simp at hk; omega⟩
    simp only [List.append_nil] at hl ⊢
    simp only [impl_IsSpace.l0]
    rw [if_neg (by omega)]
    simp only [decide_eq_true h, Bool.true_and]
  | b :: B, A, h, hl, k, hk => by
    obtain ⟨k, rfl⟩ : ∃ q, k = q + 1 := ⟨k - 1, by simp at hk; omega⟩
    simp only [impl_IsSpace.l0]
    simp only [List.length_append, List.length_cons] at hl hk
    rw [if_pos (by simp; omega), if_pos (by omega), if_pos (by simp; omega), rd_mid]
    by_cases hb : 2 ≤ b ∧ b ≤ 4
    · have hA := prodL_le8 (A ++ [b]) (fun q hq => by simp at hq; rcases hq with hq | rfl; exact h q hq; exact hb) (by simp; omega)
      rw [prodL_snoc] at hA
      rw [if_neg (by omega), if_neg (by omega), w64 (by omega) (by omega), w64 (by omega) (by omega), ← prodL_snoc, show (A.length : Int) + 1 = ((A ++ [b]).length : Int) by simp]
      have := implIs_l B (A ++ [b]) (fun q hq => by simp at hq; rcases hq with hq | rfl; exact h q hq; exact hb) (by simp; omega) k (by omega)
      rw [List.append_assoc, List.singleton_append] at this
      rw [this]
    · have hd : decide (∀ q ∈ A ++ b :: B, 2 ≤ q ∧ q ≤ 4) = false := by
        rw [decide_eq_false_iff_not]; intro hh; exact hb (hh b (by simp))
      rw [hd, Bool.false_and]
      by_cases h1 : b < 2
      · rw [if_pos h1]
      · rw [if_neg h1, if_pos (by omega)]
theorem implIs_ev (l : List Int) : ∀ k, 30 ≤ k → impl_IsSpace.f k l = some (decide (SpaceOk l)) := by
  intro k hk
  obtain ⟨k, rfl⟩ : ∃ q, k = q + 1 := ⟨k - 1, by omega⟩
  unfold impl_IsSpace.f
  by_cases h1 : 1 ≤ l.length ∧ l.length ≤ 8
  · have e : decide ((l.length : Int) > 8) = false := by simp; omega
    rw [if_neg (by omega), e]
    simp only [impl_IsSpace.j0]
    rw [if_neg (by decide)]
    have := implIs_l l [] (by simp) (by simpa using h1.2) k (by omega)
    simp only [List.nil_append, List.length_nil, prodL] at this
    rw [show (0 : Int) = ((0 : Nat) : Int) from rfl, this]
    congr 1
    rw [Bool.eq_iff_iff]
    simp [SpaceOk, h1]
  · have hd : decide (SpaceOk l) = false := by
      rw [decide_eq_false_iff_not]; intro hh; exact h1 ⟨hh.1, hh.2.1⟩
    rw [hd]
    by_cases h2 : (l.length : Int) < 1
    · rw [if_pos h2]; simp [impl_IsSpace.j0]
    · have e : decide ((l.length : Int) > 8) = true := by simp; omega
      rw [if_neg h2, e]; simp [impl_IsSpace.j0]

theorem areWords_iff (s : List Int) (hs : SpaceOk s) (l : List Int) (hl : l.length ≤ 1048576) : ∃ b : Bool, (b = true ↔ ∀ j (hj : j < l.length), 0 ≤ l[j] ∧ l[j] < prodL s) ∧ (∀ k, l.length + 30 ≤ k → spec_l01Words.f k s l = some (if b = true then 0 else 2)) ∧ ∀ k, l.length + 30 ≤ k → impl_areWords.f k s l = some b := by
  obtain ⟨b, h, g⟩ := specWords_ev s hs l hl
  obtain ⟨c, h2, g2⟩ := areWords_ev s hs l (by omega)
  obtain rfl : b = c := by rw [Bool.eq_iff_iff, h, h2]
  exact ⟨b, h, g, fun k hk => g2 k (by omega)⟩

theorem digOf_ev (s : List Int) (hs : ∀ q ∈ s, 2 ≤ q ∧ q ≤ 4) (h8 : s.length ≤ 8) (w : Int) (hw0 : 0 ≤ w) (hw1 : w ≤ 1073741824) (k : Nat) : impl_digitsOf.f k s w = some (tup8 (digL s w)) := by
  unfold impl_digitsOf.f
  rw [if_pos ((okS_iff s).2 ⟨h8, hs⟩), if_pos hw0, if_pos hw1]

/-- What a column makes of a row of numbers at one word, m times on. -/
def rs (s : List Int) (c l : Int) : Nat → Int → List Int → List Int
  | 0, _, L => L
  | m + 1, u0, L => rs s c l m (sumW s u0 c) (L.set (sumW s u0 c).toNat (mn (rd L (sumW s u0 c)) (l + 1)))
theorem rs_len (s : List Int) (c l : Int) : ∀ (m : Nat) (u0 : Int) (L : List Int), (rs s c l m u0 L).length = L.length
  | 0, _, _ => rfl
  | m + 1, u0, L => by rw [rs, rs_len s c l m, List.length_set]
def phi (x : Int) : Int := if x < 0 then 9 else x
/-- A column at all words from the w-th on: F is what was before. -/
def rw_ (s : List Int) (c : Int) (m : Nat) (F : List Int) : Nat → Nat → List Int → List Int
  | 0, _, L => L
  | d + 1, w, L => rw_ s c m F d (w + 1) (rs s c (rd F (w : Int)) m (w : Int) L)
theorem rw_len (s : List Int) (c : Int) (m : Nat) (F : List Int) : ∀ (d w : Nat) (L : List Int), (rw_ s c m F d w L).length = L.length
  | 0, _, _ => rfl
  | d + 1, w, L => by rw [rw_, rw_len s c m F d, rs_len]
/-- All columns. -/
def rc (s : List Int) (m : Nat) : List Int → List Int → List Int
  | [], F => F
  | c :: cs, F => rc s m cs (rw_ s c m F F.length 0 F)
theorem rc_len (s : List Int) (m : Nat) : ∀ (cs F : List Int), (rc s m cs F).length = F.length
  | [], _ => rfl
  | c :: cs, F => by rw [rc, rc_len s m cs, rw_len]
def start9 (n : Nat) (set : List Int) : List Int := set.foldl (fun F w => F.set w.toNat 0) (List.replicate n 9)
theorem start_len : ∀ (set F : List Int), (set.foldl (fun F w => F.set w.toNat 0) F).length = F.length
  | [], _ => rfl
  | w :: set, F => by rw [List.foldl_cons, start_len set, List.length_set]
def Low (b : Int) (L : List Int) : Prop := ∀ x ∈ L, -1 ≤ x ∧ x ≤ b
theorem Low.set {b : Int} {L : List Int} (h : Low b L) (i : Nat) {v : Int} (h0 : -1 ≤ v) (h1 : v ≤ b) : Low b (L.set i v) := by
  intro x hx
  rcases List.mem_or_eq_of_mem_set hx with hx | rfl
  · exact h x hx
  · exact ⟨h0, h1⟩
theorem rd_ix (L : List Int) (i : Int) (h : i.toNat < L.length) : rd L i = L[i.toNat] := by simp [rd, List.getElem?_eq_getElem h]
theorem Low.get {b : Int} {L : List Int} (h : Low b L) (i : Int) (h0 : 0 ≤ i) (h1 : i < (L.length : Int)) : -1 ≤ rd L i ∧ rd L i ≤ b := by
  have hl : i.toNat < L.length := by omega
  have : rd L i = L[i.toNat] := by simp [rd, List.getElem?_eq_getElem hl]
  rw [this]; exact h _ (List.getElem_mem hl)
theorem rd_phi (L : List Int) (i : Int) (h0 : 0 ≤ i) (h1 : i < (L.length : Int)) : rd (L.map phi) i = phi (rd L i) := by
  have hl : i.toNat < L.length := by omega
  simp [rd, List.getElem?_eq_getElem hl]
/-- Nothing comes of a word that isn't reached. -/
theorem rs_nine (s : List Int) (hs : ∀ q ∈ s, 2 ≤ q ∧ q ≤ 4) (c : Int) : ∀ (m : Nat) (u0 : Int) (L : List Int), (L.length : Int) = prodL s → (∀ x ∈ L, x ≤ 9) → rs s c 9 m u0 L = L
  | 0, _, _, _, _ => rfl
  | m + 1, u0, L, hl, h => by
    obtain ⟨b0, b1⟩ := sumW_bound s hs u0 c
    have hi : (sumW s u0 c).toNat < L.length := by omega
    have e := rd_ix L _ hi
    have hx := h _ (List.getElem_mem hi)
    have e2 : mn L[(sumW s u0 c).toNat] (9 + 1) = L[(sumW s u0 c).toNat] := by unfold mn; split <;> omega
    rw [rs, e, e2, List.set_getElem_self]
    exact rs_nine s hs c m _ L hl h

section
variable (s : List Int) (hs : SpaceOk s) (cs : List Int) (hcs : ∀ c ∈ cs, 0 ≤ c ∧ c < prodL s) (hc8 : cs.length ≤ 8) (m : Nat) (hm : (m : Int) = rd s 0 - 1)
include hs hcs hc8 hm
theorem spec4 (ci : Nat) (hci : ci < cs.length) (S : List Int) (hS : (S.length : Int) = prodL s) (w : Nat) (hw : w < S.length) (l : Int) (hl : rd S (w : Int) = l) (l0 : 0 ≤ l) (l1 : l ≤ ci) (x40 : Int) (r : List Int) (K : Nat) (Y : List Int)
    (cont : ∀ X : List Int, X.map phi = Y → X.length = S.length → Low ((ci : Int) + 1) X → ∀ k, K ≤ k → spec_l09Reached.l3 k cs S ci X x40 ci S.length (wrap64 ((w : Int) + 1)) s = some r) :
    ∀ d j : Nat, j + d = m → ∀ (u0 : Int), 0 ≤ u0 → u0 < prodL s → ∀ (X : List Int), X.length = S.length → Low ((ci : Int) + 1) X → rs s (rd cs (ci : Int)) l d u0 (X.map phi) = Y → ∀ k, K + 40 + d ≤ k → spec_l09Reached.l4 k cs S ci X w u0 ((j : Int) + 1) x40 ci S.length w s = some r
  | 0, j, e, u0, t0, t1, X, hX, hlow, hY, k, hk => by
    obtain ⟨k, rfl⟩ : ∃ q, k = q + 1 := ⟨k - 1, by omega⟩
    have h1 := hs.1
    simp only [spec_l09Reached.l4]
    rw [if_pos (by omega), if_neg (by omega)]
    exact cont X hY hX hlow k (by omega)
  | d + 1, j, e, u0, t0, t1, X, hX, hlow, hY, k, hk => by
    obtain ⟨k, rfl⟩ : ∃ q, k = q + 1 := ⟨k - 1, by omega⟩
    have h1 := hs.1
    have hP := hs.2.2.2
    have hc : 0 ≤ rd cs (ci : Int) ∧ rd cs (ci : Int) < prodL s := by
      have : rd cs (ci : Int) = cs[ci] := by simp [rd, List.getElem?_eq_getElem hci]
      rw [this]; exact hcs _ (List.getElem_mem hci)
    obtain ⟨b0, b1⟩ := sumW_bound s hs.2.2.1 u0 (rd cs (ci : Int))
    have hg := hlow.get (sumW s u0 (rd cs (ci : Int))) b0 (by omega)
    have hm4 := size_0 s hs.2.2.1 hs.1
    simp only [spec_l09Reached.l4]
    rw [if_pos (by omega), if_pos (by omega), if_pos (by omega), if_pos (by omega), specSum_ev s hs.2.2.1 hs.2.1 u0 _ t0 (by omega) hc.1 (by omega) k (by omega), Option.bind_some, if_pos b0, if_pos (by omega), hl, w64 (i := l + 1) (by omega) (by omega), w64 (i := (j : Int) + 1 + 1) (by omega) (by omega), show (j : Int) + 1 + 1 = ((j + 1 : Nat) : Int) + 1 by omega]
    have next : ∀ X' : List Int, X'.length = X.length → Low ((ci : Int) + 1) X' → X'.map phi = (X.map phi).set (sumW s u0 (rd cs (ci : Int))).toNat (mn (rd (X.map phi) (sumW s u0 (rd cs (ci : Int)))) (l + 1)) → spec_l09Reached.l4 k cs S ci X' w (sumW s u0 (rd cs (ci : Int))) (((j + 1 : Nat) : Int) + 1) x40 ci S.length w s = some r := fun X' h1 h2 h3 =>
      spec4 ci hci S hS w hw l hl l0 l1 x40 r K Y cont d (j + 1) (by omega) _ b0 b1 X' (by omega) h2 (by rw [h3]; exact hY) k (by omega)
    have hphi := rd_phi X (sumW s u0 (rd cs (ci : Int))) b0 (by omega)
    have hset : ∀ v : Int, 0 ≤ v → (X.set (sumW s u0 (rd cs (ci : Int))).toNat v).map phi = (X.map phi).set (sumW s u0 (rd cs (ci : Int))).toNat v := fun v hv => by
      rw [List.map_set]; congr 1; unfold phi; rw [if_neg (by omega)]
    have hkeep : ∀ v : Int, v = rd (X.map phi) (sumW s u0 (rd cs (ci : Int))) → X.map phi = (X.map phi).set (sumW s u0 (rd cs (ci : Int))).toNat v := fun v hv => by
      have hi : (sumW s u0 (rd cs (ci : Int))).toNat < (X.map phi).length := by rw [List.length_map]; omega
      rw [hv, rd_ix _ _ hi, List.set_getElem_self]
    by_cases hneg : rd X (sumW s u0 (rd cs (ci : Int))) < 0
    · rw [if_pos hneg, if_pos (by omega), if_pos (by omega)]
      refine next _ (by rw [List.length_set]) (hlow.set _ (by omega) (by omega)) ?_
      rw [hset _ (by omega), hphi]
      congr 1
      unfold phi mn; rw [if_pos hneg]; split <;> omega
    · rw [if_neg hneg, if_pos (by omega), if_pos (by omega)]
      by_cases hlt : l + 1 < rd X (sumW s u0 (rd cs (ci : Int)))
      · rw [if_pos hlt]
        refine next _ (by rw [List.length_set]) (hlow.set _ (by omega) (by omega)) ?_
        rw [hset _ (by omega), hphi]
        congr 1
        unfold phi mn; rw [if_neg hneg]; split <;> omega
      · rw [if_neg hlt]
        refine next X rfl hlow (hkeep _ ?_)
        rw [hphi]
        unfold phi mn; rw [if_neg hneg]; split <;> omega
theorem spec3 (ci : Nat) (hci : ci < cs.length) (S : List Int) (hS : (S.length : Int) = prodL s) (hlS : Low (ci : Int) S) (x40 : Int) (r : List Int) (K : Nat) (Y : List Int)
    (cont : ∀ X : List Int, X.map phi = Y → X.length = S.length → Low ((ci : Int) + 1) X → ∀ k, K ≤ k → spec_l09Reached.l2 k cs X x40 (wrap64 ((ci : Int) + 1)) s = some r) :
    ∀ d w : Nat, w + d = S.length → ∀ (X : List Int), X.length = S.length → Low ((ci : Int) + 1) X → rw_ s (rd cs (ci : Int)) m (S.map phi) d w (X.map phi) = Y → ∀ k, K + 50 * d + 1 ≤ k → spec_l09Reached.l3 k cs S ci X x40 ci S.length w s = some r := by
  intro d
  induction d with
  | zero =>
    intro w e X hX hlow hY k hk
    obtain ⟨k, rfl⟩ : ∃ q, k = q + 1 := ⟨k - 1, by omega⟩
    simp only [spec_l09Reached.l3]
    rw [if_neg (by omega)]
    exact cont X hY hX hlow k (by omega)
  | succ d ih =>
    intro w e X hX hlow hY k hk
    obtain ⟨k, rfl⟩ : ∃ q, k = q + 1 := ⟨k - 1, by omega⟩
    have hP := hs.2.2.2
    have hw : w < S.length := by omega
    have hg := hlS.get (w : Int) (by omega) (by omega)
    have hphi := rd_phi S (w : Int) (by omega) (by omega)
    have hm4 := size_0 s hs.2.2.1 hs.1
    rw [rw_, hphi] at hY
    simp only [spec_l09Reached.l3]
    rw [if_pos (by omega), if_pos (by omega), if_pos (by omega)]
    by_cases hneg : rd S (w : Int) < 0
    · rw [if_pos hneg, w64 (i := (w : Int) + 1) (by omega) (by omega), show (w : Int) + 1 = ((w + 1 : Nat) : Int) by omega]
      refine ih (w + 1) (by omega) X hX hlow ?_ k (by omega)
      rw [show phi (rd S (w : Int)) = 9 by unfold phi; rw [if_pos hneg], rs_nine s hs.2.2.1 _ m _ _ (by rw [List.length_map]; omega) (fun x hx => by
        obtain ⟨y, hy, rfl⟩ := List.mem_map.1 hx
        have := hlow y hy
        unfold phi; split <;> omega)] at hY
      exact hY
    · rw [if_neg hneg]
      have := spec4 s hs cs hcs hc8 m hm ci hci S hS w hw (rd S (w : Int)) rfl (by omega) (by omega) x40 r (K + 50 * d + 1) (rs s (rd cs (ci : Int)) (rd S (w : Int)) m (w : Int) (X.map phi)) (fun X' h1 h2 h3 k hk => by
        rw [w64 (i := (w : Int) + 1) (by omega) (by omega), show (w : Int) + 1 = ((w + 1 : Nat) : Int) by omega]
        refine ih (w + 1) (by omega) X' h2 h3 ?_ k hk
        rw [h1]
        rw [show phi (rd S (w : Int)) = rd S (w : Int) by unfold phi; rw [if_neg hneg]] at hY
        exact hY) m 0 (by omega) (w : Int) (by omega) (by omega) X hX hlow rfl k (by omega)
      simpa using this
theorem spec2 (hN : prodL s ≤ 1024) : ∀ d ci : Nat, ci + d = cs.length → ∀ (S : List Int), (S.length : Int) = prodL s → Low (ci : Int) S → ∃ R : List Int, R.map phi = rc s m (cs.drop ci) (S.map phi) ∧ R.length = S.length ∧ Low 8 R ∧ ∃ N : Nat, ∀ k, N ≤ k → spec_l09Reached.l2 k cs S cs.length ci s = some R
  | 0, ci, e, S, hS, hlow => by
    refine ⟨S, by rw [List.drop_eq_nil_of_le (by omega)]; rfl, rfl, fun x hx => by have := hlow x hx; omega, 1, fun k hk => ?_⟩
    obtain ⟨k, rfl⟩ : ∃ q, k = q + 1 := ⟨k - 1, by omega⟩
    simp only [spec_l09Reached.l2]
    rw [if_neg (by omega)]
  | d + 1, ci, e, S, hS, hlow => by
    have hci : ci < cs.length := by omega
    have hex : ∃ X : List Int, X.map phi = rw_ s (rd cs (ci : Int)) m (S.map phi) S.length 0 (S.map phi) ∧ X.length = S.length ∧ Low ((ci : Int) + 1) X := by
      refine Classical.byContradiction fun hno => ?_
      have hall : ∀ X : List Int, X.map phi = rw_ s (rd cs (ci : Int)) m (S.map phi) S.length 0 (S.map phi) → X.length = S.length → Low ((ci : Int) + 1) X → False := fun X h1 h2 h3 => hno ⟨X, h1, h2, h3⟩
      have a1 := spec3 s hs cs hcs hc8 m hm ci hci S hS hlow cs.length [] 0 _ (fun X h1 h2 h3 => (hall X h1 h2 h3).elim) S.length 0 (by omega) S rfl (fun x hx => by have := hlow x hx; omega) rfl (50 * S.length + 1) (by omega)
      have a2 := spec3 s hs cs hcs hc8 m hm ci hci S hS hlow cs.length [0] 0 _ (fun X h1 h2 h3 => (hall X h1 h2 h3).elim) S.length 0 (by omega) S rfl (fun x hx => by have := hlow x hx; omega) rfl (50 * S.length + 1) (by omega)
      rw [a1] at a2; simp at a2
    obtain ⟨X, hX1, hX2, hX3⟩ := hex
    obtain ⟨R, r1, r2, r3, N, r4⟩ := spec2 hN d (ci + 1) (by omega) X (by omega) (fun x hx => by have := hX3 x hx; omega)
    refine ⟨R, ?_, by omega, r3, N + 50 * S.length + 2, fun k hk => ?_⟩
    · rw [r1, hX1, List.drop_eq_getElem_cons hci, rc, List.length_map]
      have : rd cs (ci : Int) = cs[ci] := by simp [rd, List.getElem?_eq_getElem hci]
      rw [this]
    · obtain ⟨k, rfl⟩ : ∃ q, k = q + 1 := ⟨k - 1, by omega⟩
      simp only [spec_l09Reached.l2]
      rw [if_pos (by omega)]
      unfold spec_l01Own.f
      rw [Option.bind_some, List.length_nil, Nat.zero_add, if_pos (by omega), Option.bind_some, List.nil_append]
      refine spec3 s hs cs hcs hc8 m hm ci hci S hS hlow cs.length R N _ (fun X' h1 h2 h3 k hk => ?_) S.length 0 (by omega) S rfl (fun x hx => by have := hlow x hx; omega) rfl k (by omega)
      have hXX : X' = X := by
        have hm : X'.map phi = X.map phi := by rw [h1, hX1]
        apply List.ext_getElem (by omega)
        intro i i1 i2
        have h4 : (X'.map phi)[i]'(by simpa using i1) = (X.map phi)[i]'(by simpa using i2) := by simp only [hm]
        rw [List.getElem_map, List.getElem_map] at h4
        have b1 := h3 _ (List.getElem_mem i1)
        have b2 := hX3 _ (List.getElem_mem i2)
        unfold phi at h4
        split at h4 <;> split at h4 <;> omega
      rw [hXX, w64 (i := (ci : Int) + 1) (by omega) (by omega), show (ci : Int) + 1 = ((ci + 1 : Nat) : Int) by omega]
      exact r4 k hk
end

section
variable (s : List Int) (hs : SpaceOk s) (cs : List Int) (hcs : ∀ c ∈ cs, 0 ≤ c ∧ c < prodL s) (hc8 : cs.length ≤ 8) (m : Nat) (hm : (m : Int) = rd s 0 - 1)
include hs hm
theorem impl3 (x3 : Int) (ci : Nat) (c : Int) (F : List Int) (w : Nat) (n : Int) (n0 : 0 ≤ n) (n1 : n ≤ 9) (x49 : List Int) (x50 : Int) (r : List Int × Int) (K : Nat) (by8 : Int × Int × Int × Int × Int × Int × Int × Int) (hb : by8 = tup8 (digL s c)) (Y : List Int)
    (cont : ∀ k, K ≤ k → impl_WordsReached.l2 k x3 Y x49 x50 (ci : Int) F F.length (wrap64 ((w : Int) + 1)) s by8.1 by8.2.1 by8.2.2.1 by8.2.2.2.1 by8.2.2.2.2.1 by8.2.2.2.2.2.1 by8.2.2.2.2.2.2.1 by8.2.2.2.2.2.2.2 = some r) :
    ∀ d j : Nat, j + d = m → ∀ (u0 : Int) (d8 : Int × Int × Int × Int × Int × Int × Int × Int), d8 = tup8 (digL s u0) → ∀ (X : List Int), (X.length : Int) = prodL s → rs s c n d u0 X = Y → ∀ k, K + d + 1 ≤ k → impl_WordsReached.l3 k x3 X n x49 x50 (ci : Int) F F.length (w : Int) (m : Int) (j : Int) s by8.1 by8.2.1 by8.2.2.1 by8.2.2.2.1 by8.2.2.2.2.1 by8.2.2.2.2.2.1 by8.2.2.2.2.2.2.1 by8.2.2.2.2.2.2.2 d8.1 d8.2.1 d8.2.2.1 d8.2.2.2.1 d8.2.2.2.2.1 d8.2.2.2.2.2.1 d8.2.2.2.2.2.2.1 d8.2.2.2.2.2.2.2 = some r
  | 0, j, e, u0, d8, hd, X, hX, hY, k, hk => by
    obtain ⟨k, rfl⟩ : ∃ q, k = q + 1 := ⟨k - 1, by omega⟩
    simp only [impl_WordsReached.l3]
    rw [if_neg (by omega)]
    simp only [rs] at hY
    subst hY
    exact cont k (by omega)
  | d + 1, j, e, u0, d8, hd, X, hX, hY, k, hk => by
    obtain ⟨k, rfl⟩ : ∃ q, k = q + 1 := ⟨k - 1, by omega⟩
    have hP := hs.2.2.2
    have hm4 := size_0 s hs.2.2.1 hs.1
    obtain ⟨b0, b1⟩ := sumW_bound s hs.2.2.1 u0 c
    have hw := within_dig s hs.2.2.1 (sumW s u0 c)
    have hww : wordI 0 s (digL s (sumW s u0 c)) = sumW s u0 c := by
      unfold sumW
      rw [dig_word s _ hs.2.2.1 (within_sum s (digL s u0) (digL s c) hs.2.2.1 (by rw [digL_len]; omega) (by rw [digL_len]; omega))]
    simp only [impl_WordsReached.l3]
    rw [if_pos (by omega), implSum_ev s hs.2.2.1 hs.2.1 u0 c k d8 by8 hd hb, Option.bind_some, implWord_ev s hs.2.2.1 hs.2.1 _ hw (digL_small s hs.2.2.1 _) k _ rfl, hww, Option.bind_some, if_pos b0, if_pos (by omega), w64 (i := n + 1) (by omega) (by omega), w64 (by omega) (by omega), show (j : Int) + 1 = ((j + 1 : Nat) : Int) by omega]
    exact impl3 x3 ci c F w n n0 n1 x49 x50 r K by8 hb Y cont d (j + 1) (by omega) (sumW s u0 c) _ rfl _ (by rw [List.length_set]; exact hX) hY k (by omega)
theorem impl2 (x3 : Int) (ci : Nat) (c : Int) (F : List Int) (hF : (F.length : Int) = prodL s) (hF9 : ∀ x ∈ F, 0 ≤ x ∧ x ≤ 9) (x49 : List Int) (x50 : Int) (r : List Int × Int) (K : Nat) (by8 : Int × Int × Int × Int × Int × Int × Int × Int) (hb : by8 = tup8 (digL s c)) (Y : List Int)
    (cont : ∀ k, K ≤ k → impl_WordsReached.l1 k x3 Y x49 x50 (wrap64 ((ci : Int) + 1)) s = some r) :
    ∀ d w : Nat, w + d = F.length → ∀ (X : List Int), (X.length : Int) = prodL s → rw_ s c m F d w X = Y → ∀ k, K + 10 * d + 1 ≤ k → impl_WordsReached.l2 k x3 X x49 x50 (ci : Int) F F.length (w : Int) s by8.1 by8.2.1 by8.2.2.1 by8.2.2.2.1 by8.2.2.2.2.1 by8.2.2.2.2.2.1 by8.2.2.2.2.2.2.1 by8.2.2.2.2.2.2.2 = some r := by
  intro d
  induction d with
  | zero =>
    intro w e X hX hY k hk
    obtain ⟨k, rfl⟩ : ∃ q, k = q + 1 := ⟨k - 1, by omega⟩
    simp only [impl_WordsReached.l2]
    rw [if_neg (by omega)]
    simp only [rw_] at hY
    subst hY
    exact cont k (by omega)
  | succ d ih =>
    intro w e X hX hY k hk
    obtain ⟨k, rfl⟩ : ∃ q, k = q + 1 := ⟨k - 1, by omega⟩
    have hP := hs.2.2.2
    have hw : w < F.length := by omega
    have h1 := hs.1
    have hm4 := size_0 s hs.2.2.1 hs.1
    have hn : 0 ≤ rd F (w : Int) ∧ rd F (w : Int) ≤ 9 := by
      have : rd F (w : Int) = F[w] := by simp [rd, List.getElem?_eq_getElem hw]
      rw [this]; exact hF9 _ (List.getElem_mem hw)
    rw [rw_] at hY
    simp only [impl_WordsReached.l2]
    rw [if_pos (by omega), if_pos (by omega), if_pos (by omega), digOf_ev s hs.2.2.1 hs.2.1 (w : Int) (by omega) (by omega), Option.bind_some, if_pos (by omega), w64 (i := rd s 0 - 1) (by omega) (by omega), ← hm]
    exact impl3 s hs m hm x3 ci c F w (rd F (w : Int)) hn.1 hn.2 x49 x50 r (K + 10 * d + 1) by8 hb _ (fun k hk => by
      rw [w64 (i := (w : Int) + 1) (by omega) (by omega), show (w : Int) + 1 = ((w + 1 : Nat) : Int) by omega]
      exact ih (w + 1) (by omega) _ (by rw [rs_len]; exact hX) hY k hk) m 0 (by omega) (w : Int) _ rfl X hX rfl k (by omega)
omit hm in
theorem nine_rs (c l : Int) (l0 : 0 ≤ l) : ∀ (m : Nat) (u0 : Int) (L : List Int), (L.length : Int) = prodL s → (∀ x ∈ L, 0 ≤ x ∧ x ≤ 9) → ∀ x ∈ rs s c l m u0 L, 0 ≤ x ∧ x ≤ 9
  | 0, _, L, _, h => h
  | m + 1, u0, L, hl, h => by
    rw [rs]
    obtain ⟨b0, b1⟩ := sumW_bound s hs.2.2.1 u0 c
    have hi : (sumW s u0 c).toNat < L.length := by omega
    have e := rd_ix L _ hi
    have hx := h _ (List.getElem_mem hi)
    refine nine_rs c l l0 m _ _ (by rw [List.length_set]; exact hl) fun x hx2 => ?_
    rcases List.mem_or_eq_of_mem_set hx2 with hx2 | rfl
    · exact h x hx2
    · rw [e]; unfold mn; split <;> omega
omit hm in
theorem nine_rw (c : Int) (F : List Int) (hF : (F.length : Int) = prodL s) (hF9 : ∀ x ∈ F, 0 ≤ x ∧ x ≤ 9) : ∀ (d w : Nat) (L : List Int), (L.length : Int) = prodL s → (∀ x ∈ L, 0 ≤ x ∧ x ≤ 9) → w + d = F.length → ∀ x ∈ rw_ s c m F d w L, 0 ≤ x ∧ x ≤ 9
  | 0, _, L, _, h, _ => h
  | d + 1, w, L, hl, h, e => by
    rw [rw_]
    have hw : w < F.length := by omega
    have hn : 0 ≤ rd F (w : Int) := by
      have : rd F (w : Int) = F[w] := by simp [rd, List.getElem?_eq_getElem hw]
      rw [this]; exact (hF9 _ (List.getElem_mem hw)).1
    exact nine_rw c F hF hF9 d (w + 1) _ (by rw [rs_len]; exact hl) (nine_rs s hs c _ hn m _ L hl h) (by omega)
include hcs hc8
theorem impl1 (x3 : Int) (r : List Int × Int) (K : Nat) (Y : List Int)
    (cont : ∀ k, K ≤ k → impl_WordsReached.l4 k x3 [] Y Y.length 0 = some r) :
    ∀ d ci : Nat, ci + d = cs.length → ∀ F : List Int, (F.length : Int) = prodL s → (∀ x ∈ F, 0 ≤ x ∧ x ≤ 9) → rc s m (cs.drop ci) F = Y → ∃ N : Nat, ∀ k, N ≤ k → impl_WordsReached.l1 k x3 F cs cs.length (ci : Int) s = some r
  | 0, ci, e, F, hF, hF9, hY => by
    refine ⟨K + 1, fun k hk => ?_⟩
    obtain ⟨k, rfl⟩ : ∃ q, k = q + 1 := ⟨k - 1, by omega⟩
    simp only [impl_WordsReached.l1]
    rw [if_neg (by omega)]
    rw [List.drop_eq_nil_of_le (by omega)] at hY
    simp only [rc] at hY
    subst hY
    exact cont k (by omega)
  | d + 1, ci, e, F, hF, hF9, hY => by
    have hP := hs.2.2.2
    have hci : ci < cs.length := by omega
    have hc : 0 ≤ rd cs (ci : Int) ∧ rd cs (ci : Int) < prodL s := by
      have : rd cs (ci : Int) = cs[ci] := by simp [rd, List.getElem?_eq_getElem hci]
      rw [this]; exact hcs _ (List.getElem_mem hci)
    rw [List.drop_eq_getElem_cons hci, rc] at hY
    have ec : rd cs (ci : Int) = cs[ci] := by simp [rd, List.getElem?_eq_getElem hci]
    rw [← ec] at hY
    obtain ⟨N, hN⟩ := impl1 x3 r K Y cont d (ci + 1) (by omega) _ (by rw [rw_len]; exact hF) (nine_rw s hs m (rd cs (ci : Int)) F hF hF9 _ _ F hF hF9 (by omega)) hY
    refine ⟨N + 10 * F.length + 2, fun k hk => ?_⟩
    obtain ⟨k, rfl⟩ : ∃ q, k = q + 1 := ⟨k - 1, by omega⟩
    simp only [impl_WordsReached.l1]
    rw [if_pos (by omega), if_pos (by omega), if_pos (by omega)]
    unfold slices_Clone_int64_int64.f
    rw [if_pos (by omega), Option.bind_some, digOf_ev s hs.2.2.1 hs.2.1 _ hc.1 (by omega), Option.bind_some]
    refine impl2 s hs m hm x3 ci (rd cs (ci : Int)) F hF hF9 cs cs.length r N _ rfl _ (fun k hk => ?_) F.length 0 (by omega) F hF rfl k (by omega)
    rw [w64 (i := (ci : Int) + 1) (by omega) (by omega), show (ci : Int) + 1 = ((ci + 1 : Nat) : Int) by omega]
    exact hN k hk
end

theorem code_words' {n : Int} {l : List Int} (h : CodeOk n l) (hn0 : 0 ≤ n) (hn : n ≤ 1024) : (∀ c ∈ l, 0 ≤ c ∧ c < n) ∧ l.length ≤ 1024 := by
  refine ⟨fun c hc => ?_, ?_⟩
  · obtain ⟨j, hj, rfl⟩ := List.mem_iff_getElem.1 hc
    exact (h j hj).1
  · rcases h.len with h | h <;> omega

def codeFrom (n : Int) (l : List Int) (i : Nat) : Prop := ∀ j (hj : j < l.length), i ≤ j → (0 ≤ l[j] ∧ l[j] < n) ∧ ∀ h0 : 0 < j, l[j-1]'(by omega) < l[j]
theorem specCode_l (s : List Int) (hs : SpaceOk s) (l : List Int) (hl : l.length ≤ 4611686018427387904) : ∀ d i : Nat, i + d = l.length → ∃ b : Bool, (b = true ↔ codeFrom (prodL s) l i) ∧ ∀ k, d + 12 ≤ k → spec_l01Code.l0 k l i s = some b
  | 0, i, e => by
    refine ⟨true, ⟨fun _ j hj hi => by omega, fun _ => rfl⟩, fun k hk => ?_⟩
    obtain ⟨k, rfl⟩ : ∃ q, k = q + 1 := ⟨k - 1, by omega⟩
    simp only [spec_l01Code.l0]; rw [if_neg (by omega)]
  | d+1, i, e => by
    have hi : i < l.length := by omega
    have hr := rd_nat l i hi
    have hw : wrap64 ((i : Int) + 1) = ((i + 1 : Nat) : Int) := by rw [w64 (by omega) (by omega)]; omega
    have hP := prodL_le8 s hs.2.2.1 hs.2.1
    obtain ⟨b, hb, g⟩ := specCode_l s hs l hl d (i+1) (by omega)
    have start : ∀ k, 11 ≤ k → spec_l01Code.l0 (k+1) l i s = (spec_l01In.f l[i] 0 (prodL s - 1)).bind fun t130 => (if t130 = true then (if (i : Int) > 0 then (if 0 ≤ (wrap64 ((i : Int) - 1)) then (if (wrap64 ((i : Int) - 1)) < (l.length : Int) then (if l[i] ≤ (rd l (wrap64 ((i : Int) - 1))) then (some false) else (spec_l01Code.l0 k l ((i + 1 : Nat) : Int) s)) else (none)) else (none)) else (spec_l01Code.l0 k l ((i + 1 : Nat) : Int) s)) else (some false)) := by
      intro k hk
      simp only [spec_l01Code.l0]
      rw [if_pos (by omega), if_pos (by omega), specN_ev s hs.2.2.1 hs.2.1 k (by omega), Option.bind_some, hr, w64 (i := prodL s - 1) (by omega) (by omega), hw]
    by_cases hin : 0 ≤ l[i] ∧ l[i] < prodL s
    · have e1 : spec_l01In.f l[i] 0 (prodL s - 1) = some true := by
        unfold spec_l01In.f; rw [if_pos hin.1]; simp; omega
      by_cases h0 : 0 < i
      · have hw1 : wrap64 ((i : Int) - 1) = ((i - 1 : Nat) : Int) := by rw [w64 (by omega) (by omega)]; omega
        have hr1 := rd_nat l (i - 1) (by omega)
        by_cases hle : l[i] ≤ l[i-1]
        · refine ⟨false, ⟨fun h => absurd h (by decide), fun h => ?_⟩, fun k hk => ?_⟩
          · have := (h i hi (by omega)).2 h0; omega
          · obtain ⟨k, rfl⟩ : ∃ q, k = q + 1 := ⟨k - 1, by omega⟩
            rw [start k (by omega), e1, Option.bind_some, if_pos rfl, if_pos (by omega), hw1, if_pos (by omega), if_pos (by omega), hr1, if_pos hle]
        · refine ⟨b, ⟨fun h j hj hij => ?_, fun h => hb.2 fun j hj hij => h j hj (by omega)⟩, fun k hk => ?_⟩
          · by_cases hji : j = i
            · subst hji; exact ⟨hin, fun _ => by omega⟩
            · exact hb.1 h j hj (by omega)
          · obtain ⟨k, rfl⟩ : ∃ q, k = q + 1 := ⟨k - 1, by omega⟩
            rw [start k (by omega), e1, Option.bind_some, if_pos rfl, if_pos (by omega), hw1, if_pos (by omega), if_pos (by omega), hr1, if_neg hle]
            exact g k (by omega)
      · refine ⟨b, ⟨fun h j hj hij => ?_, fun h => hb.2 fun j hj hij => h j hj (by omega)⟩, fun k hk => ?_⟩
        · by_cases hji : j = i
          · subst hji; exact ⟨hin, fun h1 => absurd h1 h0⟩
          · exact hb.1 h j hj (by omega)
        · obtain ⟨k, rfl⟩ : ∃ q, k = q + 1 := ⟨k - 1, by omega⟩
          rw [start k (by omega), e1, Option.bind_some, if_pos rfl, if_neg (by omega)]
          exact g k (by omega)
    · have e1 : spec_l01In.f l[i] 0 (prodL s - 1) = some false := by
        unfold spec_l01In.f
        by_cases h1 : l[i] ≥ 0
        · rw [if_pos h1]; simp; omega
        · rw [if_neg h1]
      refine ⟨false, ⟨fun h => absurd h (by decide), fun h => absurd (h i hi (by omega)).1 hin⟩, fun k hk => ?_⟩
      obtain ⟨k, rfl⟩ : ∃ q, k = q + 1 := ⟨k - 1, by omega⟩
      rw [start k (by omega), e1, Option.bind_some, if_neg (by decide)]
theorem specCode_ev (s : List Int) (hs : SpaceOk s) (l : List Int) (hl : l.length ≤ 4611686018427387904) : ∃ b : Bool, (b = true ↔ CodeOk (prodL s) l) ∧ ∀ k, l.length + 12 ≤ k → spec_l01Code.f k s l = some b := by
  obtain ⟨b, h, g⟩ := specCode_l s hs l hl l.length 0 (by omega)
  exact ⟨b, ⟨fun hb j hj => h.1 hb j hj (by omega), fun hc => h.2 fun j hj _ => hc j hj⟩, fun k hk => by unfold spec_l01Code.f; exact g k (by omega)⟩

def outL (F : List Int) (b : Int) (w : Nat) : List Int := ((List.range' w (F.length - w)).filter fun (i : Nat) => decide (rd F (i : Int) ≤ b)).map Int.ofNat
theorem out_step (F : List Int) (b : Int) (w : Nat) (hw : w < F.length) : outL F b w = if rd F (w : Int) ≤ b then (w : Int) :: outL F b (w + 1) else outL F b (w + 1) := by
  unfold outL
  rw [show F.length - w = (F.length - (w + 1)) + 1 by omega, List.range'_succ, List.filter_cons]
  by_cases h : rd F (w : Int) ≤ b
  · rw [if_pos h, if_pos (decide_eq_true h)]; rfl
  · rw [if_neg h, if_neg (by simpa using h)]
theorem implOut (b : Int) (F : List Int) (hF : F.length ≤ 1048576) : ∀ d w : Nat, w + d = F.length → ∀ acc : List Int, acc.length ≤ w → ∀ k, d + 1 ≤ k → impl_WordsReached.l4 k b acc F F.length (w : Int) = some (acc ++ outL F b w, 0)
  | 0, w, e, acc, ha, k, hk => by
    obtain ⟨k, rfl⟩ : ∃ q, k = q + 1 := ⟨k - 1, by omega⟩
    simp only [impl_WordsReached.l4]
    rw [if_neg (by omega)]
    unfold outL
    rw [show F.length - w = 0 by omega]; simp
  | d + 1, w, e, acc, ha, k, hk => by
    obtain ⟨k, rfl⟩ : ∃ q, k = q + 1 := ⟨k - 1, by omega⟩
    simp only [impl_WordsReached.l4]
    rw [if_pos (by omega), if_pos (by omega), if_pos (by omega), w64 (by omega) (by omega), show (w : Int) + 1 = ((w + 1 : Nat) : Int) by omega, out_step F b w (by omega)]
    by_cases h : rd F (w : Int) ≤ b
    · rw [if_pos h, if_pos h, if_pos (by omega), implOut b F hF d (w + 1) (by omega) _ (by simp; omega) k (by omega)]; simp
    · rw [if_neg h, if_neg h, implOut b F hF d (w + 1) (by omega) _ (by omega) k (by omega)]
theorem specOut (b : Int) (b0 : 0 ≤ b) (b8 : b ≤ 8) (S : List Int) (hS : S.length ≤ 1048576) (hl : Low 8 S) : ∀ d w : Nat, w + d = S.length → ∀ acc : List Int, acc.length ≤ w → ∀ k, d + 1 ≤ k → spec_WordsReached.l0 k b S acc S.length (w : Int) = some (acc ++ outL (S.map phi) b w, 0)
  | 0, w, e, acc, ha, k, hk => by
    obtain ⟨k, rfl⟩ : ∃ q, k = q + 1 := ⟨k - 1, by omega⟩
    simp only [spec_WordsReached.l0]
    rw [if_neg (by omega)]
    unfold outL
    rw [List.length_map, show S.length - w = 0 by omega]; simp
  | d + 1, w, e, acc, ha, k, hk => by
    obtain ⟨k, rfl⟩ : ∃ q, k = q + 1 := ⟨k - 1, by omega⟩
    have hp := rd_phi S (w : Int) (by omega) (by omega)
    have hg := hl.get (w : Int) (by omega) (by omega)
    simp only [spec_WordsReached.l0]
    rw [if_pos (by omega), if_pos (by omega), if_pos (by omega), w64 (by omega) (by omega), show (w : Int) + 1 = ((w + 1 : Nat) : Int) by omega, out_step _ b w (by rw [List.length_map]; omega), hp]
    have e1 : spec_l01In.f (rd S (w : Int)) 0 b = some (decide (phi (rd S (w : Int)) ≤ b)) := by
      unfold spec_l01In.f phi
      by_cases h0 : rd S (w : Int) ≥ 0
      · rw [if_pos h0, if_neg (by omega)]
      · rw [if_neg h0, if_pos (by omega), decide_eq_false (by omega)]
    rw [e1, Option.bind_some]
    by_cases h : phi (rd S (w : Int)) ≤ b
    · rw [decide_eq_true h, if_pos rfl, if_pos h, if_pos (by omega), specOut b b0 b8 S hS hl d (w + 1) (by omega) _ (by simp; omega) k (by omega)]; simp
    · rw [decide_eq_false h, if_neg (by decide), if_neg h, specOut b b0 b8 S hS hl d (w + 1) (by omega) _ (by omega) k (by omega)]
theorem implStart (n : Nat) (hn : n ≤ 65536) (s cs set : List Int) (x3 : Int) (hset : ∀ c ∈ set, 0 ≤ c ∧ c < (n : Int)) (hsl : set.length ≤ 1024) (r : List Int × Int) (K : Nat) (Y : List Int) (cont : ∀ k, K ≤ k → impl_WordsReached.l1 k x3 Y cs cs.length 0 s = some r) :
    ∀ d i : Nat, i + d = set.length → ∀ F : List Int, F.length = n → (set.drop i).foldl (fun F w => F.set w.toNat 0) F = Y → ∀ k, K + d + 1 ≤ k → impl_WordsReached.l0 k cs x3 F set set.length (i : Int) s = some r
  | 0, i, e, F, hF, hY, k, hk => by
    obtain ⟨k, rfl⟩ : ∃ q, k = q + 1 := ⟨k - 1, by omega⟩
    simp only [impl_WordsReached.l0]
    rw [if_neg (by omega)]
    rw [List.drop_eq_nil_of_le (by omega)] at hY
    rw [show F = Y from hY]
    exact cont k (by omega)
  | d + 1, i, e, F, hF, hY, k, hk => by
    obtain ⟨k, rfl⟩ : ∃ q, k = q + 1 := ⟨k - 1, by omega⟩
    have hi : i < set.length := by omega
    have hc := hset _ (List.getElem_mem hi)
    have ec : rd set (i : Int) = set[i] := by simp [rd, List.getElem?_eq_getElem hi]
    rw [List.drop_eq_getElem_cons hi, List.foldl_cons] at hY
    simp only [impl_WordsReached.l0]
    rw [if_pos (by omega), if_pos (by omega), if_pos (by omega), ec, if_pos (by omega), if_pos (by omega), w64 (by omega) (by omega), show (i : Int) + 1 = ((i + 1 : Nat) : Int) by omega]
    exact implStart n hn s cs set x3 hset hsl r K Y cont d (i + 1) (by omega) _ (by rw [List.length_set]; exact hF) hY k (by omega)
theorem specStart1 (n : Nat) (hn : n ≤ 65536) (s cs set : List Int) (hset : ∀ c ∈ set, 0 ≤ c ∧ c < (n : Int)) (hsl : set.length ≤ 1024) (r : List Int) (K : Nat) (Y : List Int) (cont : ∀ X : List Int, X.length = n → Low 0 X → X.map phi = Y → ∀ k, K ≤ k → spec_l09Reached.l2 k cs X cs.length 0 s = some r) :
    ∀ d i : Nat, i + d = set.length → ∀ X : List Int, X.length = n → Low 0 X → (set.drop i).foldl (fun F w => F.set w.toNat 0) (X.map phi) = Y → ∀ k, K + d + 1 ≤ k → spec_l09Reached.l1 k set cs X set.length (i : Int) s = some r
  | 0, i, e, X, hX, hlow, hY, k, hk => by
    obtain ⟨k, rfl⟩ : ∃ q, k = q + 1 := ⟨k - 1, by omega⟩
    simp only [spec_l09Reached.l1]
    rw [if_neg (by omega)]
    rw [List.drop_eq_nil_of_le (by omega)] at hY
    exact cont X hX hlow hY k (by omega)
  | d + 1, i, e, X, hX, hlow, hY, k, hk => by
    obtain ⟨k, rfl⟩ : ∃ q, k = q + 1 := ⟨k - 1, by omega⟩
    have hi : i < set.length := by omega
    have hc := hset _ (List.getElem_mem hi)
    have ec : rd set (i : Int) = set[i] := by simp [rd, List.getElem?_eq_getElem hi]
    rw [List.drop_eq_getElem_cons hi, List.foldl_cons] at hY
    simp only [spec_l09Reached.l1]
    rw [if_pos (by omega), if_pos (by omega), if_pos (by omega), ec, if_pos (by omega), if_pos (by omega), w64 (by omega) (by omega), show (i : Int) + 1 = ((i + 1 : Nat) : Int) by omega]
    exact specStart1 n hn s cs set hset hsl r K Y cont d (i + 1) (by omega) _ (by rw [List.length_set]; exact hX) (hlow.set _ (by omega) (by omega)) (by rw [List.map_set]; exact hY) k (by omega)
theorem specStart0 (n : Nat) (hn : n ≤ 65536) (s cs set : List Int) (r : List Int) (K : Nat) (cont : ∀ k, K ≤ k → spec_l09Reached.l1 k set cs (List.replicate n (-1)) set.length 0 s = some r) :
    ∀ d i : Nat, i + d = n → ∀ k, K + d + 1 ≤ k → spec_l09Reached.l0 k set cs (List.replicate i (-1) ++ List.replicate d 0) (n : Int) (i : Int) s = some r
  | 0, i, e, k, hk => by
    obtain ⟨k, rfl⟩ : ∃ q, k = q + 1 := ⟨k - 1, by omega⟩
    simp only [spec_l09Reached.l0]
    obtain rfl : i = n := by omega
    rw [if_neg (by omega), List.replicate_zero, List.append_nil]
    exact cont k (by omega)
  | d + 1, i, e, k, hk => by
    obtain ⟨k, rfl⟩ : ∃ q, k = q + 1 := ⟨k - 1, by omega⟩
    have e1 : (List.replicate i (-1 : Int) ++ List.replicate (d + 1) 0).set i (-1) = List.replicate (i + 1) (-1) ++ List.replicate d 0 := by
      rw [List.replicate_succ (n := d), List.set_append]
      simp [List.replicate_succ']
    simp only [spec_l09Reached.l0]
    rw [if_pos (by omega), if_pos (by omega), if_pos (by simp; omega), Int.toNat_natCast, e1, w64 (by omega) (by omega), show (i : Int) + 1 = ((i + 1 : Nat) : Int) by omega]
    exact specStart0 n hn s cs set r K cont d (i + 1) (by omega) k (by omega)
theorem reached_ev (s : List Int) (hs : SpaceOk s) (set cs : List Int) (hset : ∀ c ∈ set, 0 ≤ c ∧ c < prodL s) (hsl : set.length ≤ 1024) (hcs : ∀ c ∈ cs, 0 ≤ c ∧ c < prodL s) (hc8 : cs.length ≤ 8) : ∃ R : List Int, R.map phi = rc s (rd s 0 - 1).toNat cs (start9 (prodL s).toNat set) ∧ R.length = (prodL s).toNat ∧ Low 8 R ∧ ∃ N : Nat, ∀ k, N ≤ k → spec_l09Reached.f k s set cs = some R := by
  obtain ⟨p1, p2⟩ := prodL_le8 s hs.2.2.1 hs.2.1
  have hP := hs.2.2.2
  have hm4 := size_0 s hs.2.2.1 hs.1
  have hm : (((rd s 0 - 1).toNat : Nat) : Int) = rd s 0 - 1 := by omega
  -- the row behind the start
  have hfold : ∀ (set : List Int) (X : List Int), Low 0 X → ∃ X' : List Int, X'.length = X.length ∧ Low 0 X' ∧ X'.map phi = set.foldl (fun F w => F.set w.toNat 0) (X.map phi) := by
    intro set
    induction set with
    | nil => intro X h; exact ⟨X, rfl, h, rfl⟩
    | cons w set ih =>
      intro X h
      obtain ⟨X', h1, h2, h3⟩ := ih (X.set w.toNat 0) (h.set _ (by omega) (by omega))
      exact ⟨X', by rw [h1, List.length_set], h2, by rw [h3, List.map_set]; rfl⟩
  obtain ⟨X0, x1, x2, x3⟩ := hfold set (List.replicate (prodL s).toNat (-1)) (fun x hx => by rw [List.eq_of_mem_replicate hx]; omega)
  rw [List.length_replicate] at x1
  have hphi9 : (List.replicate (prodL s).toNat (-1 : Int)).map phi = List.replicate (prodL s).toNat 9 := by rw [List.map_replicate]; rfl
  rw [hphi9] at x3
  obtain ⟨R, r1, r2, r3, N, r4⟩ := spec2 s hs cs hcs hc8 _ hm hP cs.length 0 (by omega) X0 (by omega) (by simpa using x2)
  refine ⟨R, by rw [r1, List.drop_zero, x3]; rfl, by omega, r3, N + set.length + (prodL s).toNat + 20, fun k hk => ?_⟩
  unfold spec_l09Reached.f
  rw [specN_ev s hs.2.2.1 hs.2.1 k (by omega), Option.bind_some, if_pos (by omega), if_pos (by omega), Option.bind_some, List.length_replicate]
  have hst := specStart0 (prodL s).toNat (by omega) s cs set R (N + set.length + 1) (fun k hk => by
    refine specStart1 (prodL s).toNat (by omega) s cs set (fun c hc => by have := hset c hc; omega) hsl R N (start9 (prodL s).toNat set) (fun X h1 h2 h3 k hk => ?_) set.length 0 (by omega) _ (by simp) (fun x hx => by rw [List.eq_of_mem_replicate hx]; omega) (by rw [hphi9]; rfl) k (by omega)
    have hXX : X = X0 := by
      have hm2 : X.map phi = X0.map phi := by rw [h3, x3]; rfl
      apply List.ext_getElem (by omega)
      intro i i1 i2
      have h4 : (X.map phi)[i]'(by simpa using i1) = (X0.map phi)[i]'(by simpa using i2) := by simp only [hm2]
      rw [List.getElem_map, List.getElem_map] at h4
      have b1 := h2 _ (List.getElem_mem i1)
      have b2 := x2 _ (List.getElem_mem i2)
      unfold phi at h4
      split at h4 <;> split at h4 <;> omega
    rw [hXX]
    exact r4 k (by omega)) (prodL s).toNat 0 (by omega) k (by omega)
  simpa using hst

theorem eq_l (l : List Int) (hl : l.length ≤ 4611686018427387904) : ∀ d i : Nat, i + d = l.length → ∀ k, d < k → laws_eqInt64S.l0 k l l i = some true
  | 0, i, e, k, hk => by
    obtain ⟨k, rfl⟩ : ∃ q, k = q + 1 := ⟨k - 1, by omega⟩
    simp only [laws_eqInt64S.l0]; rw [if_neg (by omega)]
  | d+1, i, e, k, hk => by
    obtain ⟨k, rfl⟩ : ∃ q, k = q + 1 := ⟨k - 1, by omega⟩
    simp only [laws_eqInt64S.l0]
    rw [if_pos (by omega), if_pos (by omega), if_pos (by omega), if_pos trivial, w64 (by omega) (by omega), show (i : Int) + 1 = ((i + 1 : Nat) : Int) by omega]
    exact eq_l l hl d (i+1) (by omega) k (by omega)
theorem eq_ev (l : List Int) (hl : l.length ≤ 4611686018427387904) (k : Nat) (hk : l.length < k) : laws_eqInt64S.f k l l = some true := by
  unfold laws_eqInt64S.f
  rw [if_pos rfl]
  exact eq_l l hl l.length 0 (by omega) k hk

theorem to_l (l : List Int) (hl : l.length ≤ 4611686018427387904) : ∀ (B A : List Int), l = A ++ B → ∀ k, B.length < k → laws_toInt64S.l0 k l (A ++ List.replicate B.length 0) A.length = some l
  | [], A, e, k, hk => by
    obtain ⟨k, rfl⟩ : ∃ q, k = q + 1 := ⟨k - 1, by simp at hk; omega⟩
    simp only [laws_toInt64S.l0]
    simp at e
    subst e
    rw [if_neg (by omega)]; simp
  | b :: B, A, e, k, hk => by
    obtain ⟨k, rfl⟩ : ∃ q, k = q + 1 := ⟨k - 1, by simp at hk; omega⟩
    simp only [laws_toInt64S.l0]
    have hlen : l.length = A.length + (B.length + 1) := by rw [e]; simp
    rw [if_pos (by omega), if_pos (by omega), if_pos (by simp; omega)]
    have hb : rd l (A.length : Int) = b := by rw [e]; exact rd_mid A B b
    rw [hb, List.length_cons, List.replicate_succ, Int.toNat_natCast, set_mid, w64 (by omega) (by omega), show (A.length : Int) + 1 = ((A ++ [b]).length : Int) by simp]
    exact to_l l hl B (A ++ [b]) (by rw [e]; simp) k (by simp at hk; omega)
theorem to_ev (l : List Int) (hl : l.length ≤ 1048576) (k : Nat) (hk : 1048576 < k) : laws_toInt64S.f k l = some l := by
  unfold laws_toInt64S.f
  rw [if_pos (by omega), if_pos (by omega), Int.toNat_natCast]
  exact to_l l (by omega) l [] rfl k (by omega)

theorem sz_le (l : List Int) (h : l.length ≤ 1048576) : ∃ z : Int, laws_szSpace.f l 1048576 = some z ∧ ¬ z < 0 := by
  unfold laws_szSpace.f laws_szInt64S.f
  rw [w64 (by omega) (by omega), if_neg (by omega)]
  simp only [Option.bind_some]
  rw [if_neg (by omega)]
  exact ⟨_, rfl, by omega⟩
theorem sz_gt (l : List Int) (h : 1048576 < l.length) (hm : l.length ≤ 9223372036854775807) : ∃ z : Int, laws_szSpace.f l 1048576 = some z ∧ z < 0 := by
  unfold laws_szSpace.f laws_szInt64S.f
  rw [w64 (by omega) (by omega), if_pos (by omega)]
  exact ⟨-1, rfl, by omega⟩
theorem toSp_ev (l : List Int) (hl : l.length ≤ 1048576) (k : Nat) (hk : 1048576 < k) : laws_toSpace.f k l = some l := by
  unfold laws_toSpace.f
  rw [to_ev l hl k hk]; rfl
theorem eqSp_ev (l : List Int) (hl : l.length ≤ 4611686018427387904) (k : Nat) (hk : l.length < k) : laws_eqSpace.f k l l = some true := by
  unfold laws_eqSpace.f
  rw [eq_ev l hl k hk]; rfl

theorem seqI_len (s : Int) (n : Nat) : (seqI s n).length = n := by
  induction n generalizing s with
  | zero => rfl
  | succ n ih => simp [seqI, ih]
theorem mark_l : ∀ (B A : List Int) (s : Int), 0 ≤ s → s + B.length ≤ 4611686018427387904 → A.length + B.length ≤ 4611686018427387904 → ∀ k, B.length < k → laws_markInt64S.l0 k (A ++ B) s A.length = some (s + B.length, A ++ seqI s B.length)
  | [], A, s, h0, h1, h2, k, hk => by
    obtain ⟨k, rfl⟩ : ∃ q, k = q + 1 := ⟨k - 1, by simp at hk; omega⟩
    simp only [laws_markInt64S.l0]
    rw [if_neg (by simp)]; simp [seqI]
  | b :: B, A, s, h0, h1, h2, k, hk => by
    obtain ⟨k, rfl⟩ : ∃ q, k = q + 1 := ⟨k - 1, by simp at hk; omega⟩
    simp only [laws_markInt64S.l0]
    simp only [List.length_cons] at h1 h2 hk
    rw [if_pos (by simp; omega), if_pos (by omega), Int.toNat_natCast, set_mid, w64 (by omega) (by omega), w64 (by omega) (by omega), show (A.length : Int) + 1 = ((A ++ [s]).length : Int) by simp]
    rw [mark_l B (A ++ [s]) (s+1) (by omega) (by omega) (by simp; omega) k (by omega)]
    simp only [List.length_cons, seqI, List.append_assoc, List.singleton_append]
    congr 2
    omega
theorem held_l : ∀ (n : Nat) (A : List Int) (s : Int), 0 ≤ s → s + n ≤ 4611686018427387904 → A.length + n ≤ 4611686018427387904 → ∀ k, n < k → laws_heldInt64S.l0 k (A ++ seqI s n) s A.length = some (s + n)
  | 0, A, s, h0, h1, h2, k, hk => by
    obtain ⟨k, rfl⟩ : ∃ q, k = q + 1 := ⟨k - 1, by omega⟩
    simp only [laws_heldInt64S.l0]
    rw [if_neg (by simp [seqI])]; simp
  | n+1, A, s, h0, h1, h2, k, hk => by
    obtain ⟨k, rfl⟩ : ∃ q, k = q + 1 := ⟨k - 1, by omega⟩
    show laws_heldInt64S.l0 (k+1) (A ++ s :: seqI (s+1) n) s A.length = _
    simp only [laws_heldInt64S.l0]
    rw [if_pos (by simp; omega), if_pos (by omega), rd_mid, if_pos rfl, w64 (by omega) (by omega), w64 (by omega) (by omega), show (A.length : Int) + 1 = ((A ++ [s]).length : Int) by simp]
    have := held_l n (A ++ [s]) (s+1) (by omega) (by omega) (by simp; omega) k (by omega)
    rw [List.append_assoc, List.singleton_append] at this
    rw [this]
    congr 1; omega
theorem mark_held (l : List Int) (hl : l.length ≤ 1048576) (k : Nat) (hk : 1048576 < k) : ∃ l', laws_markInt64S.f k l 1 = some (1 + (l.length : Int), l') ∧ ∀ k, 1048576 < k → laws_heldInt64S.f k l' 1 = some (1 + (l.length : Int)) := by
  refine ⟨seqI 1 l.length, ?_, fun k hk => ?_⟩
  · unfold laws_markInt64S.f
    exact mark_l l [] 1 (by omega) (by omega) (by simp; omega) k (by omega)
  · unfold laws_heldInt64S.f
    exact held_l l.length [] 1 (by omega) (by omega) (by simp; omega) k (by omega)

theorem mark_from (l : List Int) (hl : l.length ≤ 1048576) (s : Int) (h0 : 0 ≤ s) (h1 : s ≤ 1048577) (k : Nat) (hk : 1048576 < k) : ∃ l', laws_markInt64S.f k l s = some (s + (l.length : Int), l') := by
  refine ⟨seqI s l.length, ?_⟩
  unfold laws_markInt64S.f
  exact mark_l l [] s h0 (by omega) (by simp; omega) k (by omega)
theorem markSp_ev (l : List Int) (hl : l.length ≤ 1048576) (k : Nat) (hk : 1048576 < k) : ∃ l', laws_markSpace.f k l 1 = some (1 + (l.length : Int), l') := by
  obtain ⟨l', h⟩ := mark_from l hl 1 (by omega) (by omega) k hk
  refine ⟨l', ?_⟩
  unfold laws_markSpace.f
  rw [h]; rfl

theorem setCode_both (s l1 l2 : List Int) (hl1 : l1.length ≤ 1048576) (hl2 : l2.length ≤ 1048576) (a : Int) : (∃ c : Int, c ≠ 0 ∧ ∀ k, 1048700 ≤ k → (∃ c0 : Int, spec_l09Set.f k s l1 l2 = some c0 ∧ (if c0 = 1 then 1 else if 0 ≤ a ∧ a ≤ 8 then c0 else 2) = c) ∧ impl_columnCode.f k s l2 l1 a = some c) ∨ (SpaceOk s ∧ CodeOk (prodL s) l1 ∧ (∀ j (hj : j < l2.length), 0 ≤ l2[j] ∧ l2[j] < prodL s) ∧ l2.length ≤ 8 ∧ 0 ≤ a ∧ a ≤ 8 ∧ ∀ k, 1048700 ≤ k → spec_l09Set.f k s l1 l2 = some 0 ∧ impl_columnCode.f k s l2 l1 a = some 0) := by
  by_cases hs : SpaceOk s
  · obtain ⟨b, hb, g1, g2⟩ := areWords_iff s hs l2 hl2
    obtain ⟨c, hc, g3⟩ := isCode_ev s hs l1 (by omega)
    obtain ⟨c2, hc2, g3s⟩ := specCode_ev s hs l1 (by omega)
    obtain rfl : c = c2 := by rw [Bool.eq_iff_iff, hc, hc2]
    obtain ⟨p, g4⟩ := plain_both s hs.1 hs.2.1
    have hi : ∀ k, 1048700 ≤ k → impl_columnCode.f k s l2 l1 a = some (if (l2.length ≤ 8 ∧ b = true) ∧ c = true ∧ 0 ≤ a ∧ a ≤ 8 then (if p = true then 0 else 5) else 2) := fun k hk => by
      obtain ⟨k, rfl⟩ : ∃ q, k = q + 1 := ⟨k - 1, by omega⟩
      unfold impl_columnCode.f
      rw [implIs_ev s _ (by omega), decide_eq_true hs, Option.bind_some, if_pos rfl]
      by_cases h8 : (l2.length : Int) > 8
      · rw [if_pos h8, if_neg (by omega)]
        simp [impl_columnCode.j0]
      · rw [if_neg h8, g2 _ (by omega), Option.bind_some]
        cases b with
        | false => rw [if_neg (by decide), if_neg (by simp)]; simp [impl_columnCode.j0]
        | true =>
          rw [if_pos rfl, g3 _ (by omega), Option.bind_some]
          cases c with
          | false => rw [if_neg (by decide), if_neg (by simp)]; simp [impl_columnCode.j0]
          | true =>
            rw [if_pos rfl]
            by_cases ha : a < 0
            · rw [if_pos ha, if_neg (by omega)]; simp [impl_columnCode.j0]
            · rw [if_neg ha]
              by_cases ha8 : a > 8
              · rw [decide_eq_true ha8, if_neg (by omega)]; simp [impl_columnCode.j0]
              · rw [decide_eq_false ha8, if_pos (show (l2.length ≤ 8 ∧ true = true) ∧ true = true ∧ 0 ≤ a ∧ a ≤ 8 from ⟨⟨by omega, rfl⟩, rfl, by omega, by omega⟩)]
                simp only [impl_columnCode.j0]
                rw [if_neg (by decide), (g4 k (by omega)).2, Option.bind_some]
                cases p <;> rfl
    have hc9 : ∀ k, 1048700 ≤ k → spec_l09Columns.f k s l2 = some (if l2.length ≤ 8 ∧ b = true then (if p = true then 0 else 5) else 2) := fun k hk => by
      unfold spec_l09Columns.f
      rw [g1 k (by omega), Option.bind_some]
      cases b with
      | false => rw [if_neg (by decide), if_neg (by decide), if_neg (by simp)]
      | true =>
        rw [if_pos rfl, if_pos rfl]
        by_cases h8 : (l2.length : Int) > 8
        · rw [if_pos h8, if_neg (by omega)]
        · have hc8 : l2.length ≤ 8 ∧ true = true := ⟨by omega, rfl⟩
          rw [if_neg h8, (g4 k (by omega)).1, Option.bind_some, if_pos hc8]
          cases p <;> rfl
    obtain ⟨c0, hc0, hne⟩ : ∃ c0 : Int, c0 = (if l2.length ≤ 8 ∧ b = true then (if p = true then 0 else 5) else 2) ∧ c0 ≠ 1 := ⟨_, rfl, by split; split; decide; decide; decide⟩
    have hset : ∀ k, 1048700 ≤ k → spec_l09Set.f k s l1 l2 = some (if c = true then c0 else 2) := fun k hk => by
      unfold spec_l09Set.f
      rw [hc9 k hk, ← hc0, Option.bind_some, if_neg hne, g3s k (by omega), Option.bind_some]
      cases c <;> rfl
    by_cases hok : (l2.length ≤ 8 ∧ b = true) ∧ c = true ∧ 0 ≤ a ∧ a ≤ 8
    · obtain ⟨hok1, hok2, hok3, hok4⟩ := hok
      rw [if_pos hok1] at hc0
      cases p with
      | true =>
        refine .inr ⟨hs, hc.1 hok2, hb.1 hok1.2, hok1.1, hok3, hok4, fun k hk => ⟨?_, ?_⟩⟩
        · rw [hset k hk, if_pos hok2, hc0]; rfl
        · rw [hi k hk, if_pos ⟨hok1, hok2, hok3, hok4⟩]; rfl
      | false =>
        refine .inl ⟨5, by decide, fun k hk => ⟨⟨c0, ?_, ?_⟩, ?_⟩⟩
        · rw [hset k hk, if_pos hok2]
        · rw [hc0, if_neg (by decide), if_pos ⟨hok3, hok4⟩]; rfl
        · rw [hi k hk, if_pos ⟨hok1, hok2, hok3, hok4⟩]; rfl
    · refine .inl ⟨2, by decide, fun k hk => ⟨⟨_, hset k hk, ?_⟩, ?_⟩⟩
      · by_cases h1 : c = true
        · rw [if_pos h1, if_neg hne]
          by_cases h2 : 0 ≤ a ∧ a ≤ 8
          · rw [if_pos h2, hc0, if_neg (fun h => hok ⟨h, h1, h2⟩)]
          · rw [if_neg h2]
        · rw [if_neg h1, if_neg (by decide)]; split <;> rfl
      · rw [hi k hk, if_neg hok]
  · refine .inl ⟨1, by decide, fun k hk => ⟨⟨1, ?_, by rw [if_pos rfl]⟩, ?_⟩⟩
    · unfold spec_l09Set.f spec_l09Columns.f spec_l01Words.f
      rw [specIs_ev s k (by omega), decide_eq_false hs]; rfl
    · unfold impl_columnCode.f
      rw [implIs_ev s k (by omega), decide_eq_false hs]; rfl
theorem wordsReached_both (s l1 l2 : List Int) (hl1 : l1.length ≤ 1048576) (hl2 : l2.length ≤ 1048576) (a : Int) : ∃ (v : List Int) (e : Int), v.length ≤ 1024 ∧ ∃ N : Nat, 1048700 ≤ N ∧ ∀ k, N ≤ k → spec_WordsReached.f k s l1 l2 a = some (v, e) ∧ impl_WordsReached.f k s l1 l2 a = some (v, e) := by
  have in8 : ∀ x : Int, spec_l01In.f x 0 8 = some (decide (0 ≤ x ∧ x ≤ 8)) := fun x => by
    unfold spec_l01In.f
    by_cases h0 : x ≥ 0
    · rw [if_pos h0]; congr 1; rw [Bool.eq_iff_iff]; simp; omega
    · rw [if_neg h0]; congr 1; rw [Bool.eq_iff_iff]; simp; omega
  rcases setCode_both s l1 l2 hl1 hl2 a with ⟨c, hc, g⟩ | ⟨hs, hc1, hc2, h8, ha0, ha8, g⟩
  · refine ⟨[], c, by simp, 1048702, by omega, fun k hk => ⟨?_, ?_⟩⟩
    · obtain ⟨⟨c0, h1, h2⟩, _⟩ := g k (by omega)
      obtain ⟨k, rfl⟩ : ∃ q, k = q + 2 := ⟨k - 2, by omega⟩
      unfold spec_WordsReached.f
      rw [h1, Option.bind_some]
      by_cases e1 : c0 = 1
      · rw [if_pos e1] at h2
        subst e1
        rw [if_pos rfl]
        simp only [spec_WordsReached.j0, spec_WordsReached.j1]
        rw [if_neg (by decide), if_neg (by decide), h2]
      · rw [if_neg e1] at h2
        rw [if_neg e1, in8, Option.bind_some]
        by_cases ha : 0 ≤ a ∧ a ≤ 8
        · rw [if_pos ha] at h2
          rw [decide_eq_true ha]
          simp only [spec_WordsReached.j0, spec_WordsReached.j1]
          rw [if_neg (by decide), h2, if_neg hc]
        · rw [if_neg ha] at h2
          rw [decide_eq_false ha]
          simp only [spec_WordsReached.j0, spec_WordsReached.j1]
          rw [if_pos (by decide), if_neg (by decide), h2]
    · unfold impl_WordsReached.f
      rw [(g k (by omega)).2, Option.bind_some, if_neg hc]
  · obtain ⟨p1, p2⟩ := prodL_le8 s hs.2.2.1 hs.2.1
    have hP := hs.2.2.2
    have hm4 := size_0 s hs.2.2.1 hs.1
    obtain ⟨hcw, hcl⟩ := code_words' hc1 (by omega) hP
    have hcs : ∀ c ∈ l2, 0 ≤ c ∧ c < prodL s := fun c hc => by
      obtain ⟨j, hj, rfl⟩ := List.mem_iff_getElem.1 hc
      exact hc2 j hj
    obtain ⟨R, r1, r2, r3, N, r4⟩ := reached_ev s hs l1 l2 hcw hcl hcs h8
    have hF : (rc s (rd s 0 - 1).toNat l2 (start9 (prodL s).toNat l1)).length = (prodL s).toNat := by
      rw [← r1, List.length_map, r2]
    have h9 : ∀ x ∈ start9 (prodL s).toNat l1, 0 ≤ x ∧ x ≤ 9 := by
      have key : ∀ (set F : List Int), (∀ x ∈ F, 0 ≤ x ∧ x ≤ 9) → ∀ x ∈ set.foldl (fun F w => F.set w.toNat 0) F, 0 ≤ x ∧ x ≤ (9 : Int) := by
        intro set
        induction set with
        | nil => intro F h; exact h
        | cons w set ih =>
          intro F h
          refine ih _ fun x hx => ?_
          rcases List.mem_or_eq_of_mem_set hx with hx | rfl
          · exact h x hx
          · omega
      exact key l1 _ fun x hx => by rw [List.eq_of_mem_replicate hx]; omega
    have hlen9 : ((start9 (prodL s).toNat l1).length : Int) = prodL s := by
      unfold start9; rw [start_len, List.length_replicate]; omega
    obtain ⟨M, hM⟩ := impl1 s hs l2 hcs h8 (rd s 0 - 1).toNat (by omega) a (outL (R.map phi) a 0, 0) 2000 (rc s (rd s 0 - 1).toNat l2 (start9 (prodL s).toNat l1)) (fun k hk => by
        rw [r1]
        have := implOut a (rc s (rd s 0 - 1).toNat l2 (start9 (prodL s).toNat l1)) (by omega) _ 0 (by rw [Nat.zero_add]) [] (by simp) k (by omega)
        simpa using this) l2.length 0 (by omega) (start9 (prodL s).toNat l1) hlen9 h9 rfl
    refine ⟨outL (R.map phi) a 0, 0, ?_, 1048702 + N + M + l1.length + R.length + 10, by omega, fun k hk => ⟨?_, ?_⟩⟩
    · unfold outL
      rw [List.length_map]
      refine Nat.le_trans (List.length_filter_le _ _) ?_
      rw [List.length_range', List.length_map]; omega
    · obtain ⟨k, rfl⟩ : ∃ q, k = q + 2 := ⟨k - 2, by omega⟩
      unfold spec_WordsReached.f
      rw [(g (k + 2) (by omega)).1, Option.bind_some, if_neg (by decide), in8, Option.bind_some, decide_eq_true ⟨ha0, ha8⟩]
      simp only [spec_WordsReached.j0, spec_WordsReached.j1]
      rw [if_neg (by decide), if_pos trivial, r4 k (by omega), Option.bind_some]
      have := specOut a ha0 ha8 R (by omega) r3 R.length 0 (by omega) [] (by simp) k (by omega)
      simpa using this
    · unfold impl_WordsReached.f
      rw [(g k (by omega)).2, Option.bind_some, if_pos rfl, implCount_ev s hs.2.2.1 hs.2.1 k (by omega), Option.bind_some]
      unfold slices_Repeat_int64_int64.f
      rw [if_pos (show ([9] : List Int).length = 1 from rfl), if_pos (by omega), if_pos (by omega), Option.bind_some]
      have hst := implStart (prodL s).toNat (by omega) s l2 l1 a (fun c hc => by have := hcw c hc; omega) hcl (outL (R.map phi) a 0, 0) M (start9 (prodL s).toNat l1) hM l1.length 0 (by omega) (List.replicate (prodL s).toNat 9) (by simp) rfl k (by omega)
      exact hst
theorem mark_more (l : List Int) (hl : l.length ≤ 1048576) (s : Int) (h0 : 0 ≤ s) (h1 : s ≤ 1099511627776) (k : Nat) (hk : 1048576 < k) : ∃ l', laws_markInt64S.f k l s = some (s + (l.length : Int), l') := by
  refine ⟨seqI s l.length, ?_⟩
  unfold laws_markInt64S.f
  exact mark_l l [] s h0 (by omega) (by simp; omega) k (by omega)
theorem FnExactWordsReached (l0 : List Int) (_ : l0.length ≤ maxLen) (_ : ∀ x ∈ l0, (Lit.int .i64 x).wf = true) (l1 : List Int) (_ : l1.length ≤ maxLen) (_ : l1.length * 8 ≤ 140737488351232) (_ : ∀ x ∈ l1, (Lit.int .i64 x).wf = true) (l2 : List Int) (_ : l2.length ≤ maxLen) (_ : l2.length * 8 ≤ 140737488351232) (_ : ∀ x ∈ l2, (Lit.int .i64 x).wf = true) (a : Int) (_ : (Lit.int .i64 a).wf = true) : ∃ k, laws_FnExactWordsReached.f k l0 l1 l2 a = some true := by
  rename_i hm0 _ hm1 _ _ hm2 _ _ _
  unfold maxLen at hm0 hm1 hm2
  by_cases hl : (l1.length : Int) > 1048576
  · refine ⟨0, ?_⟩
    unfold laws_FnExactWordsReached.f
    rw [if_pos hl]
  have hl1 : l1.length ≤ 1048576 := by omega
  by_cases hll : (l2.length : Int) > 1048576
  · refine ⟨0, ?_⟩
    unfold laws_FnExactWordsReached.f
    rw [if_neg hl, if_pos hll]
  have hl2 : l2.length ≤ 1048576 := by omega
  by_cases h0 : 1048576 < l0.length
  · obtain ⟨z, hz, hz0⟩ := sz_gt l0 h0 (by omega)
    refine ⟨0, ?_⟩
    unfold laws_FnExactWordsReached.f
    rw [if_neg hl, if_neg hll, hz, Option.bind_some, if_pos hz0]
  have hl0 : l0.length ≤ 1048576 := by omega
  obtain ⟨z, hz, hz0⟩ := sz_le l0 hl0
  obtain ⟨v, e, hv, N, hN, hb⟩ := wordsReached_both l0 l1 l2 hl1 hl2 a
  obtain ⟨k, hk⟩ : ∃ k : Nat, N ≤ k := ⟨N, Nat.le_refl _⟩
  obtain ⟨x0, hx0⟩ := markSp_ev l0 hl0 (k+2) (by omega)
  obtain ⟨x1, hx1⟩ := mark_more l1 hl1 (1 + (l0.length : Int)) (by omega) (by omega) (k+2) (by omega)
  obtain ⟨x2, hx2⟩ := mark_more l2 hl2 (1 + (l0.length : Int) + (l1.length : Int)) (by omega) (by omega) (k+2) (by omega)
  obtain ⟨v', hm, hh⟩ := mark_held v (by omega) (k+1) (by omega)
  have hneg1 : ¬ (1 + (l0.length : Int) + (l1.length : Int) + (l2.length : Int) < 0) := by omega
  have hneg : ¬ (1 + (v.length : Int) < 0) := by omega
  refine ⟨k + 3, ?_⟩
  unfold laws_FnExactWordsReached.f
  rw [if_neg hl, if_neg hll, hz, Option.bind_some, if_neg hz0, toSp_ev l0 hl0 (k+3) (by omega), Option.bind_some, to_ev l1 hl1 (k+3) (by omega)]
  simp only [Option.bind_some]
  rw [to_ev l2 hl2 (k+3) (by omega)]
  simp only [Option.bind_some]
  rw [(hb (k+3) (by omega)).1, (hb (k+3) (by omega)).2]
  simp only [Option.bind_some]
  rw [eq_ev v (by omega) (k+3) (by omega)]
  simp only [Option.bind_some, if_true, bne_self_eq_false, laws_FnExactWordsReached.j0, Bool.false_eq_true, if_false]
  rw [toSp_ev l0 hl0 (k+2) (by omega), Option.bind_some, eqSp_ev l0 (by omega) (k+2) (by omega), Option.bind_some, if_pos rfl, to_ev l1 hl1 (k+2) (by omega), Option.bind_some, eq_ev l1 (by omega) (k+2) (by omega), Option.bind_some, if_pos rfl, to_ev l2 hl2 (k+2) (by omega), Option.bind_some, eq_ev l2 (by omega) (k+2) (by omega), Option.bind_some, if_pos rfl, hx0]
  simp only [Option.bind_some]
  rw [hx1]
  simp only [Option.bind_some]
  rw [hx2]
  simp only [Option.bind_some]
  rw [if_neg hneg1, eq_ev v (by omega) (k+2) (by omega)]
  simp only [Option.bind_some, if_true, laws_FnExactWordsReached.j1, Bool.false_eq_true, if_false]
  rw [hm]
  simp only [Option.bind_some]
  rw [hh (k+1) (by omega)]
  simp only [Option.bind_some]
  rw [if_neg hneg, if_pos trivial, toSp_ev l0 hl0 (k+1) (by omega), Option.bind_some, to_ev l1 hl1 (k+1) (by omega), Option.bind_some, to_ev l2 hl2 (k+1) (by omega), Option.bind_some, (hb (k+1) (by omega)).2]
  simp only [Option.bind_some]
  rw [eq_ev v (by omega) (k+1) (by omega)]
  simp only [Option.bind_some, if_true, bne_self_eq_false, laws_FnExactWordsReached.j2, Bool.false_eq_true, if_false]
  rw [hh k (by omega)]
  simp [hneg]

end Go.Proofs.Ythjkdnneagnejaa.Pure
