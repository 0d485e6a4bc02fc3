/- Codes by columns are told alike, the arguments are left alone and each call's results are new. For every space, set and columns; lists longer than 1048576 are answered true. -/
import Derived.Test.YthbfaefneoeadaaPFnExactCodeByColumnsx0
import Derived.Test.YthbfaefneoeadaaPFnExactCodeByColumnsx1
import Derived.Test.YthbfaefneoeadaaPFnExactCodeByColumnsx2
import Derived.Test.YthbfaefneoeadaaPFnExactCodeByColumnsx3
import Derived.Test.YthbfaefneoeadaaPFnExactCodeByColumnsx4
import Derived.Test.YthbfaefneoeadaaPFnExactCodeByColumnsx5
import Derived.Test.YthbfaefneoeadaaPFnExactCodeByColumnsx6
import Derived.Test.YthbfaefneoeadaaPFnExactCodeByColumnsx7
import Derived.Test.YthbfaefneoeadaaPFnExactCodeByColumnsx8
import Derived.Test.YthbfaefneoeadaaPFnExactCodeByColumnsx9
import Derived.Test.YthbfaefneoeadaaPFnExactCodeByColumnsx10
import Derived.Test.YthbfaefneoeadaaPFnExactCodeByColumnsx11
import Derived.Test.YthbfaefneoeadaaPFnExactCodeByColumnsx12
import Derived.KernelRfl
namespace Go.Proofs.Ythbfaefneoeadaa.Pure
open Go Go.RowKit Go.Proofs.Ythbfaefneoeadaa.PFnExactCodeByColumns Go.Proofs.YthbfaefneoeadaaW.PrintWords Go.Proofs.YthbfaefneoeadaaW.PrintLast Go.Proofs.YthbfaefneoeadaaW.PrintMore Go.Proofs.Ythbfaefneoeadaa.DG
set_option linter.unusedVariables false
set_option linter.unusedSimpArgs false
theorem shl_one : ∀ n, n < 13 → shl .i64 1 ((n : Nat) : Int) = ((2 ^ n : Nat) : Int) := by decide +kernel
theorem pow_le {n : Nat} (h : n ≤ 12) : 2 ^ n ≤ 4096 := Nat.pow_le_pow_right (n := 2) (by omega) h
theorem w64 {i : Int} (h0 : -9223372036854775808 ≤ i) (h : i < 9223372036854775808) : wrap64 i = i := by unfold wrap64; omega
theorem u64 {i : Int} (h0 : 0 ≤ i) (h : i < 9223372036854775808) : IntKind.u64.wrap i = i := by
  have e : IntKind.u64.wrap i = i % 18446744073709551616 := by simp [IntKind.wrap, IntKind.bits, IntKind.signed]
  rw [e]; omega
def allN (p : Nat → Bool) : Nat → Bool
  | 0 => true
  | n+1 => p n && allN p n
theorem allN_at (p : Nat → Bool) : ∀ n, allN p n = true → ∀ s, s < n → p s = true
  | 0, _, s, h => by omega
  | n+1, h, s, hs => by
    simp only [allN, Bool.and_eq_true] at h
    by_cases e : s = n
    · subst e; exact h.1
    · exact allN_at p n h.2 s (by omega)

theorem set_mid (A B : List Int) (b s : Int) : (A ++ b :: B).set A.length s = (A ++ [s]) ++ B := by
  induction A with
  | nil => rfl
  | cons a A ih => simp [List.set_cons_succ]
theorem rd_mid (A B : List Int) (b : Int) : rd (A ++ b :: B) (A.length : Int) = b := by simp [rd]
theorem rd_nat (M : List Int) (i : Nat) (h : i < M.length) : rd M (i : Int) = M[i] := by simp [rd, List.getElem?_eq_getElem h]
def seqI : Int → Nat → List Int
  | _, 0 => []
  | s, n+1 => s :: seqI (s+1) n

def prodL : List Int → Int
  | [] => 1
  | q :: r => q * prodL r
theorem prodL_snoc (l : List Int) (q : Int) : prodL (l ++ [q]) = prodL l * q := by
  induction l with
  | nil => simp [prodL]
  | cons a l ih => simp only [List.cons_append, prodL, ih]; rw [Int.mul_assoc]
theorem prodL_bound : ∀ (l : List Int), (∀ q ∈ l, 2 ≤ q ∧ q ≤ 4) → 1 ≤ prodL l ∧ prodL l ≤ (4 : Int) ^ l.length
  | [], _ => by simp [prodL]
  | q :: r, h => by
    have h1 := h q (by simp)
    obtain ⟨h2, h3⟩ := prodL_bound r (fun x hx => h x (by simp [hx]))
    simp only [prodL, List.length_cons, Int.pow_succ]
    have hp : (0 : Int) ≤ 4 ^ r.length := Int.le_of_lt (Int.pow_pos (by omega))
    constructor
    · have : 1 * 1 ≤ q * prodL r := Int.mul_le_mul (by omega) h2 (by omega) (by omega)
      omega
    · rw [Int.mul_comm (4 ^ r.length) 4]
      exact Int.mul_le_mul h1.2 h3 (by omega) (by omega)
theorem prodL_le8 (l : List Int) (h : ∀ q ∈ l, 2 ≤ q ∧ q ≤ 4) (hl : l.length ≤ 8) : 1 ≤ prodL l ∧ prodL l ≤ 65536 := by
  obtain ⟨h1, h2⟩ := prodL_bound l h
  refine ⟨h1, Int.le_trans h2 ?_⟩
  have : ∀ n, n < 9 → (4 : Int) ^ n ≤ 65536 := by decide
  exact this _ (by omega)
/-- What a space's sizes are. -/
def SpaceOk (l : List Int) : Prop := 1 ≤ l.length ∧ l.length ≤ 8 ∧ (∀ q ∈ l, 2 ≤ q ∧ q ≤ 4) ∧ prodL l ≤ 1024

theorem prodI_eq : ∀ l : List Int, prodI l = prodL l
  | [] => rfl
  | q :: r => by simp [prodI, prodL, prodI_eq r]

/-- Digits within sizes. -/
def Within : List Int → List Int → Prop
  | [], [] => True
  | q :: z, d :: y => (0 ≤ d ∧ d < q) ∧ Within z y
  | _, _ => False
theorem within_len : ∀ {z y : List Int}, Within z y → y.length = z.length
  | [], [], _ => rfl
  | q :: z, d :: y, h => by simp [within_len h.2]
  | [], _ :: _, h => h.elim
  | _ :: _, [], h => h.elim
theorem within_dig : ∀ (z : List Int), (∀ q ∈ z, 2 ≤ q ∧ q ≤ 4) → ∀ v, Within z (digL z v)
  | [], _, v => trivial
  | q :: z, h, v => by
    have hq := h q (by simp)
    exact ⟨⟨Int.emod_nonneg _ (by omega), Int.emod_lt_of_pos _ (by omega)⟩, within_dig z (fun x hx => h x (by simp [hx])) v⟩
theorem word_lin : ∀ (z y : List Int) (acc : Int), y.length = z.length → wordI acc z y = acc * prodI z + wordI 0 z y
  | [], y, acc, h => by simp [wordI, prodI]
  | q :: z, [], acc, h => by simp at h
  | q :: z, d :: y, acc, h => by
    have hl : y.length = z.length := by simpa using h
    simp only [wordI, prodI]
    rw [word_lin z y _ hl, word_lin z y (0 * q + d) hl]
    rw [Int.zero_mul, Int.zero_add, Int.add_mul, Int.mul_assoc, Int.add_assoc]
theorem word_bound : ∀ (z y : List Int), (∀ q ∈ z, 2 ≤ q ∧ q ≤ 4) → Within z y → 0 ≤ wordI 0 z y ∧ wordI 0 z y < prodI z
  | [], [], _, _ => by simp [wordI, prodI]
  | q :: z, d :: y, h, hw => by
    have hz := fun x hx => h x (List.mem_cons_of_mem q hx)
    obtain ⟨i0, i1⟩ := word_bound z y hz hw.2
    obtain ⟨h0, h1⟩ := hw.1
    have hp := prodI_pos z hz
    have e : wordI 0 (q :: z) (d :: y) = d * prodI z + wordI 0 z y := by
      show wordI (0 * q + d) z y = _
      rw [word_lin z y _ (within_len hw.2), Int.zero_mul, Int.zero_add]
    rw [e]
    have h2 : 0 ≤ d * prodI z := Int.mul_nonneg h0 (by omega)
    have h3 : d * prodI z + prodI z ≤ q * prodI z := by
      have : (d + 1) * prodI z ≤ q * prodI z := Int.mul_le_mul_of_nonneg_right (by omega) (by omega)
      rw [Int.add_mul, Int.one_mul] at this; exact this
    simp only [prodI]
    omega
  | [], _ :: _, _, h => h.elim
  | _ :: _, [], _, h => h.elim
theorem dig_mod : ∀ (z : List Int), (∀ q ∈ z, 2 ≤ q ∧ q ≤ 4) → ∀ a v : Int, digL z (a * prodI z + v) = digL z v
  | [], _, a, v => rfl
  | q :: z, h, a, v => by
    have hz := fun x hx => h x (List.mem_cons_of_mem q hx)
    have hp := prodI_pos z hz
    simp only [digL, prodI]
    have e1 : (a * (q * prodI z) + v) / prodI z % q = v / prodI z % q := by
      rw [show a * (q * prodI z) + v = v + (a * q) * prodI z by rw [← Int.mul_assoc]; omega, Int.add_mul_ediv_right _ _ (by omega)]
      exact Int.add_mul_emod_self_right _ _ _
    rw [e1, show a * (q * prodI z) + v = (a * q) * prodI z + v by rw [← Int.mul_assoc], dig_mod z hz]
theorem dig_word : ∀ (z y : List Int), (∀ q ∈ z, 2 ≤ q ∧ q ≤ 4) → Within z y → digL z (wordI 0 z y) = y
  | [], [], _, _ => rfl
  | q :: z, d :: y, h, hw => by
    have hz := fun x hx => h x (List.mem_cons_of_mem q hx)
    have hp := prodI_pos z hz
    obtain ⟨i0, i1⟩ := word_bound z y hz hw.2
    obtain ⟨h0, h1⟩ := hw.1
    have e : wordI 0 (q :: z) (d :: y) = d * prodI z + wordI 0 z y := by
      show wordI (0 * q + d) z y = _
      rw [word_lin z y _ (within_len hw.2), Int.zero_mul, Int.zero_add]
    rw [e]
    simp only [digL]
    rw [dig_mod z hz, dig_word z y hz hw.2]
    congr 1
    rw [Int.add_comm, Int.add_mul_ediv_right _ _ (by omega), Int.ediv_eq_zero_of_lt i0 i1, Int.zero_add]
    exact Int.emod_eq_of_lt h0 h1
  | [], _ :: _, _, h => h.elim
  | _ :: _, [], _, h => h.elim

theorem word_dig : ∀ (s : List Int), (∀ q ∈ s, 2 ≤ q ∧ q ≤ 4) → ∀ u : Int, 0 ≤ u → u < prodI s → wordI 0 s (digL s u) = u
  | [], _, u, h0, h1 => by simp [prodI] at h1; simp [wordI]; omega
  | q :: s, h, u, h0, h1 => by
    have hz := fun x hx => h x (List.mem_cons_of_mem q hx)
    have hq := h q (by simp)
    have hp := prodI_pos s hz
    have e : wordI 0 (q :: s) (digL (q :: s) u) = (u / prodI s % q) * prodI s + wordI 0 s (digL s u) := by
      show wordI (0 * q + u / prodI s % q) s (digL s u) = _
      rw [word_lin s _ _ (digL_len s u), Int.zero_mul, Int.zero_add]
    have hm0 := Int.emod_nonneg u (show prodI s ≠ 0 by omega)
    have hm1 := Int.emod_lt_of_pos u (show 0 < prodI s by omega)
    have e2 : digL s u = digL s (u % prodI s) := by
      have := dig_mod s hz (u / prodI s) (u % prodI s)
      rw [Int.mul_comm, Int.mul_ediv_add_emod] at this
      exact this
    have hd0 : 0 ≤ u / prodI s := Int.ediv_nonneg h0 (by omega)
    have hd1 : u / prodI s < q := Int.ediv_lt_of_lt_mul (by omega) (by simpa [prodI] using h1)
    rw [e, e2, word_dig s hz _ hm0 hm1, Int.emod_eq_of_lt hd0 hd1, Int.mul_comm, Int.mul_ediv_add_emod]

theorem specN_l : ∀ (B A : List Int), (∀ q ∈ A ++ B, 2 ≤ q ∧ q ≤ 4) → (A ++ B).length ≤ 8 → ∀ k, B.length < k → spec_l01N.l0 k (prodL A) A.length (A ++ B) = some (prodL (A ++ B))
  | [], A, h, hl, k, hk => by
    obtain ⟨k, rfl⟩ : ∃ q, k = q + 1 := ⟨k - 1, by simp at hk; omega⟩
    simp only [spec_l01N.l0]
    rw [if_neg (by simp)]; simp
  | b :: B, A, h, hl, k, hk => by
    obtain ⟨k, rfl⟩ : ∃ q, k = q + 1 := ⟨k - 1, by simp at hk; omega⟩
    have hb := h b (by simp)
    have hA := prodL_le8 (A ++ [b]) (fun q hq => h q (by simp at hq ⊢; rcases hq with hq | hq <;> simp [hq])) (by simp at hl ⊢; omega)
    rw [prodL_snoc] at hA
    simp only [spec_l01N.l0]
    simp only [List.length_append, List.length_cons] at hl hk
    rw [if_pos (by simp; omega), if_pos (by omega), rd_mid, w64 (by omega) (by omega), w64 (by omega) (by omega), ← prodL_snoc, show (A.length : Int) + 1 = ((A ++ [b]).length : Int) by simp]
    have := specN_l B (A ++ [b]) (by simpa using h) (by simp; omega) k (by omega)
    simpa using this
theorem specN_ev (l : List Int) (h : ∀ q ∈ l, 2 ≤ q ∧ q ≤ 4) (hl : l.length ≤ 8) : ∀ k, 10 ≤ k → spec_l01N.f k l = some (prodL l) := by
  intro k hk
  unfold spec_l01N.f
  exact specN_l l [] h hl k (by omega)

theorem implCount_l : ∀ (B A : List Int), (∀ q ∈ A ++ B, 2 ≤ q ∧ q ≤ 4) → (A ++ B).length ≤ 8 → ∀ k, B.length < k → impl_count.l0 k (prodL A) (A ++ B) (A ++ B).length A.length = some (prodL (A ++ B))
  | [], A, h, hl, k, hk => by
    obtain ⟨k, rfl⟩ : ∃ q, k = q + 1 := ⟨k - 1, by simp at hk; omega⟩
    simp only [impl_count.l0]
    rw [if_neg (by simp)]; simp
  | b :: B, A, h, hl, k, hk => by
    obtain ⟨k, rfl⟩ : ∃ q, k = q + 1 := ⟨k - 1, by simp at hk; omega⟩
    have hb := h b (by simp)
    have hA := prodL_le8 (A ++ [b]) (fun q hq => h q (by simp at hq ⊢; rcases hq with hq | hq <;> simp [hq])) (by simp at hl ⊢; omega)
    rw [prodL_snoc] at hA
    simp only [impl_count.l0]
    simp only [List.length_append, List.length_cons] at hl hk
    rw [if_pos (by simp; omega), if_pos (by omega), if_pos (by simp; omega), rd_mid, w64 (by omega) (by omega), w64 (by omega) (by omega), ← prodL_snoc, show (A.length : Int) + 1 = ((A ++ [b]).length : Int) by simp]
    have := implCount_l B (A ++ [b]) (by simpa using h) (by simp; omega) k (by omega)
    simpa using this
theorem implCount_ev (l : List Int) (h : ∀ q ∈ l, 2 ≤ q ∧ q ≤ 4) (hl : l.length ≤ 8) : ∀ k, 10 ≤ k → impl_count.f k l = some (prodL l) := by
  intro k hk
  unfold impl_count.f
  exact implCount_l l [] h hl k (by omega)

theorem set_rep (m : Nat) (x : Int) (R : List Int) : (List.replicate (m + 1) 0 ++ R).set m x = List.replicate m 0 ++ x :: R := by
  rw [List.replicate_succ', List.append_assoc, List.set_append]
  simp
theorem digL_drop (s : List Int) (w : Int) (m : Nat) (hm : m < s.length) : digL (s.drop m) w = (w / prodI (s.drop (m + 1)) % rd s (m : Int)) :: digL (s.drop (m + 1)) w := by
  rw [List.drop_eq_getElem_cons hm]
  have e : rd s (m : Int) = s[m] := by simp [rd, List.getElem?_eq_getElem hm]
  rw [e]; rfl
theorem size_at (s : List Int) (hs : ∀ q ∈ s, 2 ≤ q ∧ q ≤ 4) (m : Nat) (hm : m < s.length) : 2 ≤ rd s (m : Int) ∧ rd s (m : Int) ≤ 4 := by
  have e : rd s (m : Int) = s[m] := by simp [rd, List.getElem?_eq_getElem hm]
  rw [e]; exact hs _ (List.getElem_mem hm)
theorem div_nonneg' (s : List Int) (w : Int) (hs : ∀ q ∈ s, 2 ≤ q ∧ q ≤ 4) (hw0 : 0 ≤ w) (m : Nat) : 0 ≤ w / prodI (s.drop m) ∧ w / prodI (s.drop m) ≤ w := by
  have := prodI_pos (s.drop m) (fun q h => hs q (List.mem_of_mem_drop h))
  exact ⟨Int.ediv_nonneg hw0 (by omega), Int.ediv_le_self _ hw0⟩
theorem specDigits_l (s : List Int) (hs : ∀ q ∈ s, 2 ≤ q ∧ q ≤ 4) (h8 : s.length ≤ 8) (w : Int) (hw0 : 0 ≤ w) (hw1 : w ≤ 1073741824) : ∀ m : Nat, m ≤ s.length → ∀ k, m < k → spec_l01Digits.l0 k (w / prodI (s.drop m)) (List.replicate m 0 ++ digL (s.drop m) w) ((m : Int) - 1) s = some (digL s w)
  | 0, _, k, hk => by
    obtain ⟨k, rfl⟩ : ∃ q, k = q + 1 := ⟨k - 1, by omega⟩
    simp only [spec_l01Digits.l0]
    rw [if_neg (by omega)]; simp
  | m + 1, hm, k, hk => by
    obtain ⟨k, rfl⟩ : ∃ q, k = q + 1 := ⟨k - 1, by omega⟩
    have hq := size_at s hs m (by omega)
    obtain ⟨h1, h2⟩ := div_nonneg' s w hs hw0 (m + 1)
    have hlen : ((List.replicate (m + 1) 0 ++ digL (s.drop (m + 1)) w).length : Int) = (s.length : Int) := by
      rw [List.length_append, List.length_replicate, digL_len, List.length_drop]; omega
    have hd := div_prod s w m (by omega) hs
    obtain ⟨h3, h4⟩ := div_nonneg' s w hs hw0 m
    simp only [spec_l01Digits.l0]
    rw [show ((m + 1 : Nat) : Int) - 1 = (m : Int) by omega, if_pos (by omega), if_pos (by omega), if_pos (by omega), if_neg (by omega), if_pos (by omega), Int.toNat_natCast, Int.tdiv_eq_ediv_of_nonneg h1, Int.tmod_eq_emod_of_nonneg h1, hd, w64 (by omega) (by omega), w64 (by omega) (by omega), set_rep, ← digL_drop s w m (by omega)]
    exact specDigits_l s hs h8 w hw0 hw1 m (by omega) k (by omega)
theorem specDigits_ev (s : List Int) (hs : ∀ q ∈ s, 2 ≤ q ∧ q ≤ 4) (h8 : s.length ≤ 8) (w : Int) (hw0 : 0 ≤ w) (hw1 : w ≤ 1073741824) (k : Nat) (hk : 10 ≤ k) : spec_l01Digits.f k s w = some (digL s w) := by
  unfold spec_l01Digits.f
  rw [if_pos (by omega), if_pos (by omega), Int.toNat_natCast]
  have h := specDigits_l s hs h8 w hw0 hw1 s.length (Nat.le_refl _) k (by omega)
  rw [List.drop_length] at h
  simp only [prodI, digL, List.append_nil, Int.ediv_one] at h
  rw [w64 (by omega) (by omega)]
  exact h

theorem digL_get (s : List Int) (hs : ∀ q ∈ s, 2 ≤ q ∧ q ≤ 4) (w : Int) (i : Nat) (hi : i < s.length) : 0 ≤ rd (digL s w) (i : Int) ∧ rd (digL s w) (i : Int) < rd s (i : Int) := by
  have key : ∀ (s : List Int), (∀ q ∈ s, 2 ≤ q ∧ q ≤ 4) → ∀ i, i < s.length → 0 ≤ rd (digL s w) ((i : Nat) : Int) ∧ rd (digL s w) ((i : Nat) : Int) < rd s ((i : Nat) : Int) := by
    intro s
    induction s with
    | nil => intro _ i hi; simp at hi
    | cons q s ih =>
      intro hs i hi
      have hq := hs q (by simp)
      cases i with
      | zero =>
        simp only [digL, rd, Int.toNat_natCast, List.getD_cons_zero]
        exact ⟨Int.emod_nonneg _ (by omega), Int.emod_lt_of_pos _ (by omega)⟩
      | succ i =>
        have := ih (fun x hx => hs x (by simp [hx])) i (by simpa using hi)
        simpa [digL, rd] using this
  exact key s hs i hi

theorem size_0 (s : List Int) (hs : ∀ q ∈ s, 2 ≤ q ∧ q ≤ 4) (h : 1 ≤ s.length) : 2 ≤ rd s 0 ∧ rd s 0 ≤ 4 := by
  have := size_at s hs 0 (by omega)
  simpa using this
theorem specWord_l (s : List Int) (hs : ∀ q ∈ s, 2 ≤ q ∧ q ≤ 4) (h8 : s.length ≤ 8) (y : List Int) (hy : y.length = s.length) : ∀ d i : Nat, i + d = s.length → ∀ acc : Int, 0 ≤ acc → (acc + 1) * prodI (s.drop i) ≤ 65536 → Within (s.drop i) (y.drop i) → ∀ k, d + 1 ≤ k → spec_l01Word.l0 k y acc i s = some (wordI acc (s.drop i) (y.drop i))
  | 0, i, e, acc, h0, h1, hw, k, hk => by
    obtain ⟨k, rfl⟩ : ∃ q, k = q + 1 := ⟨k - 1, by omega⟩
    simp only [spec_l01Word.l0]
    rw [if_neg (by omega), List.drop_eq_nil_of_le (by omega), List.drop_eq_nil_of_le (by omega)]; rfl
  | d + 1, i, e, acc, h0, h1, hw, k, hk => by
    obtain ⟨k, rfl⟩ : ∃ q, k = q + 1 := ⟨k - 1, by omega⟩
    have hi : i < s.length := by omega
    have hiy : i < y.length := by omega
    have hq := size_at s hs i hi
    have hp := prodI_pos (s.drop (i + 1)) (fun q h => hs q (List.mem_of_mem_drop h))
    have e1 : rd s (i : Int) = s[i] := by simp [rd, List.getElem?_eq_getElem hi]
    have e2 : rd y (i : Int) = y[i] := by simp [rd, List.getElem?_eq_getElem hiy]
    rw [List.drop_eq_getElem_cons hi, List.drop_eq_getElem_cons hiy] at hw ⊢
    rw [List.drop_eq_getElem_cons hi] at h1
    obtain ⟨⟨w0, w1⟩, hw2⟩ := hw
    simp only [prodI] at h1
    have hm : 0 ≤ acc * s[i] := Int.mul_nonneg h0 (by omega)
    have h2 : (acc * s[i] + y[i] + 1) * prodI (s.drop (i + 1)) ≤ 65536 := by
      refine Int.le_trans ?_ h1
      rw [← Int.mul_assoc]
      refine Int.mul_le_mul_of_nonneg_right ?_ (by omega)
      rw [Int.add_mul, Int.one_mul]; omega
    have h3 : acc * s[i] + y[i] + 1 ≤ 65536 := by
      refine Int.le_trans ?_ h2
      have := Int.mul_le_mul_of_nonneg_left (a := 1) (b := prodI (s.drop (i + 1))) (c := acc * s[i] + y[i] + 1) hp (by omega)
      rwa [Int.mul_one] at this
    simp only [spec_l01Word.l0]
    rw [if_pos (by omega), if_pos (by omega), if_pos (by omega), e1, e2, w64 (i := acc * s[i]) (by omega) (by omega), w64 (by omega) (by omega), w64 (by omega) (by omega), show (i : Int) + 1 = ((i + 1 : Nat) : Int) by omega]
    exact specWord_l s hs h8 y hy d (i + 1) (by omega) _ (by omega) h2 hw2 k (by omega)
theorem specWord_ev (s : List Int) (hs : ∀ q ∈ s, 2 ≤ q ∧ q ≤ 4) (h8 : s.length ≤ 8) (y : List Int) (hw : Within s y) (k : Nat) (hk : 10 ≤ k) : spec_l01Word.f k s y = some (wordI 0 s y) := by
  obtain ⟨p1, p2⟩ := prodL_le8 s hs h8
  have hl := within_len hw
  unfold spec_l01Word.f
  have := specWord_l s hs h8 y hl s.length 0 (by omega) 0 (by omega) (by rw [List.drop_zero, prodI_eq]; omega) (by simpa using hw) k (by omega)
  simpa using this

/-- The sum of two words. -/
def sumW (s : List Int) (u v : Int) : Int := wordI 0 s (sumL s (digL s u) (digL s v))
theorem within_sum : ∀ (s a b : List Int), (∀ q ∈ s, 2 ≤ q ∧ q ≤ 4) → s.length ≤ a.length → s.length ≤ b.length → Within s (sumL s a b)
  | [], _, _, _, _, _ => trivial
  | q :: s, [], _, _, h, _ => by simp at h
  | q :: s, _ :: _, [], _, _, h => by simp at h
  | q :: s, x :: a, y :: b, hs, ha, hb => by
    have hq := hs q (by simp)
    exact ⟨⟨Int.emod_nonneg _ (by omega), Int.emod_lt_of_pos _ (by omega)⟩, within_sum s a b (fun z hz => hs z (by simp [hz])) (by simpa using ha) (by simpa using hb)⟩
theorem sumW_bound (s : List Int) (hs : ∀ q ∈ s, 2 ≤ q ∧ q ≤ 4) (u v : Int) : 0 ≤ sumW s u v ∧ sumW s u v < prodL s := by
  have := word_bound s _ hs (within_sum s (digL s u) (digL s v) hs (by rw [digL_len]; omega) (by rw [digL_len]; omega))
  rw [prodI_eq] at this
  exact this
theorem digL_small : ∀ (s : List Int), (∀ q ∈ s, 2 ≤ q ∧ q ≤ 4) → ∀ v : Int, ∀ x ∈ digL s v, 0 ≤ x ∧ x < 4
  | [], _, v, x, hx => by simp [digL] at hx
  | q :: s, h, v, x, hx => by
    have hq := h q (by simp)
    simp only [digL, List.mem_cons] at hx
    rcases hx with rfl | hx
    · have h1 := Int.emod_nonneg (v / prodI s) (show q ≠ 0 by omega)
      have h2 := Int.emod_lt_of_pos (v / prodI s) (show 0 < q by omega)
      omega
    · exact digL_small s (fun z hz => h z (by simp [hz])) v x hx
theorem specSum_l (s : List Int) (hs : ∀ q ∈ s, 2 ≤ q ∧ q ≤ 4) (h8 : s.length ≤ 8) (a b : List Int) (ha : a.length = s.length) (hb : b.length = s.length) (ha4 : ∀ x ∈ a, 0 ≤ x ∧ x < 4) (hb4 : ∀ x ∈ b, 0 ≤ x ∧ x < 4) : ∀ d i : Nat, i + d = s.length → ∀ k, d + 11 ≤ k → spec_l01Sum.l0 k ((sumL s a b).take i ++ a.drop i) b s.length i s = some (wordI 0 s (sumL s a b))
  | 0, i, e, k, hk => by
    obtain ⟨k, rfl⟩ : ∃ q, k = q + 1 := ⟨k - 1, by omega⟩
    have hl := sumL_len s a b (by omega) (by omega)
    simp only [spec_l01Sum.l0]
    rw [if_neg (by omega), List.drop_eq_nil_of_le (by omega), List.append_nil, List.take_of_length_le (by omega), specWord_ev s hs h8 _ (within_sum s a b hs (by omega) (by omega)) k (by omega)]; rfl
  | d + 1, i, e, k, hk => by
    obtain ⟨k, rfl⟩ : ∃ q, k = q + 1 := ⟨k - 1, by omega⟩
    have hi : i < s.length := by omega
    have hl := sumL_len s a b (by omega) (by omega)
    have hq := size_at s hs i hi
    have hx := ha4 _ (List.getElem_mem (show i < a.length by omega))
    have hy := hb4 _ (List.getElem_mem (show i < b.length by omega))
    have hlen : ((sumL s a b).take i ++ a.drop i).length = s.length := by simp; omega
    have e1 : rd ((sumL s a b).take i ++ a.drop i) (i : Int) = a[i] := by
      simp only [rd, Int.toNat_natCast]
      rw [List.getD_eq_getElem?_getD, List.getElem?_append_right (by rw [List.length_take]; omega), List.length_take, List.getElem?_drop, show i + (i - min i (sumL s a b).length) = i by omega, List.getElem?_eq_getElem (by omega)]; rfl
    have e2 : rd b (i : Int) = b[i] := by simp [rd, List.getElem?_eq_getElem (show i < b.length by omega)]
    have e3 : rd a (i : Int) = a[i] := by simp [rd, List.getElem?_eq_getElem (show i < a.length by omega)]
    have hg := sumL_get s a b i hi (by omega) (by omega)
    simp only [spec_l01Sum.l0]
    rw [if_pos (by omega), if_pos (by omega), if_pos (by rw [hlen]; omega), if_pos (by omega), if_pos (by omega), if_neg (by omega), e1, e2, w64 (i := a[i] + b[i]) (by omega) (by omega), Int.tmod_eq_emod_of_nonneg (by omega), w64 (by omega) (by omega), Int.toNat_natCast, show (i : Int) + 1 = ((i + 1 : Nat) : Int) by omega]
    have e4 : ((sumL s a b).take i ++ a.drop i).set i ((a[i] + b[i]) % rd s (i : Int)) = (sumL s a b).take (i + 1) ++ a.drop (i + 1) := by
      rw [List.set_append, if_neg (by rw [List.length_take]; omega), List.length_take, show i - min i (sumL s a b).length = 0 by omega, List.drop_eq_getElem_cons (show i < a.length by omega), List.set_cons_zero, List.take_succ_eq_append_getElem (show i < (sumL s a b).length by omega), List.append_assoc, List.singleton_append]
      rw [List.getElem?_eq_getElem (by omega)] at hg
      rw [Option.some.inj hg, e2, e3]
    rw [e4]
    exact specSum_l s hs h8 a b ha hb ha4 hb4 d (i + 1) (by omega) k (by omega)
theorem specSum_ev (s : List Int) (hs : ∀ q ∈ s, 2 ≤ q ∧ q ≤ 4) (h8 : s.length ≤ 8) (u v : Int) (hu0 : 0 ≤ u) (hu1 : u ≤ 1073741824) (hv0 : 0 ≤ v) (hv1 : v ≤ 1073741824) (k : Nat) (hk : 30 ≤ k) : spec_l01Sum.f k s u v = some (sumW s u v) := by
  unfold spec_l01Sum.f
  rw [specDigits_ev s hs h8 u hu0 hu1 k (by omega), Option.bind_some, specDigits_ev s hs h8 v hv0 hv1 k (by omega), Option.bind_some, digL_len]
  have := specSum_l s hs h8 (digL s u) (digL s v) (digL_len s u) (digL_len s v) (digL_small s hs u) (digL_small s hs v) s.length 0 (by omega) k (by omega)
  unfold sumW
  simpa using this

/-- Eight digits. -/
def t8 (d : List Int) (z : Int × Int × Int × Int × Int × Int × Int × Int) : Prop := d = [z.1, z.2.1, z.2.2.1, z.2.2.2.1, z.2.2.2.2.1, z.2.2.2.2.2.1, z.2.2.2.2.2.2.1, z.2.2.2.2.2.2.2]
theorem tup8_list (s : List Int) (h8 : s.length ≤ 8) : [(tup8 s).1, (tup8 s).2.1, (tup8 s).2.2.1, (tup8 s).2.2.2.1, (tup8 s).2.2.2.2.1, (tup8 s).2.2.2.2.2.1, (tup8 s).2.2.2.2.2.2.1, (tup8 s).2.2.2.2.2.2.2] = s ++ List.replicate (8 - s.length) 0 := by
  match s, h8 with
  | [], _ => rfl
  | [_], _ => rfl
  | [_, _], _ => rfl
  | [_, _, _], _ => rfl
  | [_, _, _, _], _ => rfl
  | [_, _, _, _, _], _ => rfl
  | [_, _, _, _, _, _], _ => rfl
  | [_, _, _, _, _, _, _], _ => rfl
  | [_, _, _, _, _, _, _, _], _ => rfl
  | _ :: _ :: _ :: _ :: _ :: _ :: _ :: _ :: _ :: _, h => exact absurd h (by simp only [List.length_cons]; omega)
theorem sumL_pad : ∀ (s a b x y : List Int), a.length = s.length → b.length = s.length → sumL s (a ++ x) (b ++ y) = sumL s a b
  | [], [], [], x, y, _, _ => by simp [sumL]
  | [], _ :: _, _, _, _, h, _ => by simp at h
  | [], [], _ :: _, _, _, _, h => by simp at h
  | q :: s, [], _, _, _, h, _ => by simp at h
  | q :: s, _ :: _, [], _, _, _, h => by simp at h
  | q :: s, d :: a, e :: b, x, y, ha, hb => by
    simp only [List.cons_append, sumL]
    rw [sumL_pad s a b x y (by simpa using ha) (by simpa using hb)]
theorem wordI_pad : ∀ (s a x : List Int) (acc : Int), a.length = s.length → wordI acc s (a ++ x) = wordI acc s a
  | [], [], x, acc, _ => by cases x <;> rfl
  | [], _ :: _, _, _, h => by simp at h
  | q :: s, [], _, _, h => by simp at h
  | q :: s, d :: a, x, acc, h => by
    simp only [List.cons_append, wordI]
    exact wordI_pad s a x _ (by simpa using h)
theorem okB_pad (d : List Int) (m : Nat) (h : ∀ x ∈ d, 0 ≤ x ∧ x < 4) : okB (d ++ List.replicate m 0) = true := by
  unfold okB
  rw [List.all_eq_true]
  intro x hx
  rcases List.mem_append.1 hx with hx | hx
  · have := h x hx; simp; omega
  · rw [List.eq_of_mem_replicate hx]; rfl
theorem implSum_ev (s : List Int) (hs : ∀ q ∈ s, 2 ≤ q ∧ q ≤ 4) (h8 : s.length ≤ 8) (u v : Int) (k : Nat) (a b : Int × Int × Int × Int × Int × Int × Int × Int) (ha : a = tup8 (digL s u)) (hb : b = tup8 (digL s v)) : impl_sumOf.f k s a.1 a.2.1 a.2.2.1 a.2.2.2.1 a.2.2.2.2.1 a.2.2.2.2.2.1 a.2.2.2.2.2.2.1 a.2.2.2.2.2.2.2 b.1 b.2.1 b.2.2.1 b.2.2.2.1 b.2.2.2.2.1 b.2.2.2.2.2.1 b.2.2.2.2.2.2.1 b.2.2.2.2.2.2.2 = some (tup8 (digL s (sumW s u v))) := by
  subst ha hb
  have e1 := tup8_list (digL s u) (by rw [digL_len]; exact h8)
  have e2 := tup8_list (digL s v) (by rw [digL_len]; exact h8)
  unfold impl_sumOf.f
  rw [e1, e2, if_pos ((okS_iff s).2 ⟨h8, hs⟩), if_pos (okB_pad _ _ (digL_small s hs u)), if_pos (okB_pad _ _ (digL_small s hs v)), sumL_pad s _ _ _ _ (digL_len s u) (digL_len s v)]
  unfold sumW
  rw [dig_word s _ hs (within_sum s (digL s u) (digL s v) hs (by rw [digL_len]; omega) (by rw [digL_len]; omega))]
theorem implWord_ev (s : List Int) (hs : ∀ q ∈ s, 2 ≤ q ∧ q ≤ 4) (h8 : s.length ≤ 8) (y : List Int) (hw : Within s y) (hy : ∀ x ∈ y, 0 ≤ x ∧ x < 4) (k : Nat) (a : Int × Int × Int × Int × Int × Int × Int × Int) (ha : a = tup8 y) : impl_wordOf.f k s a.1 a.2.1 a.2.2.1 a.2.2.2.1 a.2.2.2.2.1 a.2.2.2.2.2.1 a.2.2.2.2.2.2.1 a.2.2.2.2.2.2.2 = some (wordI 0 s y) := by
  subst ha
  have e1 := tup8_list y (by rw [within_len hw]; exact h8)
  unfold impl_wordOf.f
  rw [e1, if_pos ((okS_iff s).2 ⟨h8, hs⟩), if_pos (okB_pad _ _ hy), wordI_pad s y _ _ (within_len hw)]

/-- A word's digits as the program keeps them. -/
def D8 (s : List Int) (w : Int) : S82 := ⟨(digL s w).getD 0 0, (digL s w).getD 1 0, (digL s w).getD 2 0, (digL s w).getD 3 0, (digL s w).getD 4 0, (digL s w).getD 5 0, (digL s w).getD 6 0, (digL s w).getD 7 0⟩
theorem okS_space (s : List Int) (hs : ∀ q ∈ s, 2 ≤ q ∧ q ≤ 4) (h8 : s.length ≤ 8) : okS s = true := (okS_iff s).2 ⟨h8, hs⟩
theorem digitsOf_ev (s : List Int) (hs : ∀ q ∈ s, 2 ≤ q ∧ q ≤ 4) (h8 : s.length ≤ 8) (w : Int) (hw0 : 0 ≤ w) (hw1 : w ≤ 1073741824) (k : Nat) : impl_digitsOf.f k s w = some (tup8 (digL s w)) := by
  unfold impl_digitsOf.f
  rw [if_pos (okS_space s hs h8), if_pos hw0, if_pos hw1]

/-- All words. -/
def words (s : List Int) : List Int := (List.range (prodL s).toNat).map Int.ofNat
theorem allDig_l (s : List Int) (hs : ∀ q ∈ s, 2 ≤ q ∧ q ≤ 4) (h8 : s.length ≤ 8) (P : Nat) (hP : P ≤ 65536) : ∀ d i : Nat, i + d = P → ∀ k, d < k → impl_allDigits.l0 k (((List.range i).map Int.ofNat).map (D8 s)) P i s = some (((List.range P).map Int.ofNat).map (D8 s))
  | 0, i, e, k, hk => by
    obtain ⟨k, rfl⟩ : ∃ q, k = q + 1 := ⟨k - 1, by omega⟩
    simp only [impl_allDigits.l0]
    have : i = P := by omega
    subst this
    rw [if_neg (by omega)]
  | d + 1, i, e, k, hk => by
    obtain ⟨k, rfl⟩ : ∃ q, k = q + 1 := ⟨k - 1, by omega⟩
    have ht : (((List.range i).map Int.ofNat).map (D8 s)).length < 17592186044416 := by rw [List.length_map, List.length_map, List.length_range]; omega
    simp only [impl_allDigits.l0]
    rw [if_pos (by omega), digitsOf_ev s hs h8 _ (by omega) (by omega), Option.bind_some, if_pos ht, w64 (by omega) (by omega), show (i : Int) + 1 = ((i + 1 : Nat) : Int) by omega]
    have ih := allDig_l s hs h8 P hP d (i + 1) (by omega) k (by omega)
    rw [List.range_succ, List.map_append, List.map_append] at ih
    exact ih
theorem allDig_ev (s : List Int) (hs : ∀ q ∈ s, 2 ≤ q ∧ q ≤ 4) (h8 : s.length ≤ 8) (k : Nat) (hk : 65600 ≤ k) : impl_allDigits.f k s = some ((words s).map (D8 s)) := by
  obtain ⟨h1, h2⟩ := prodL_le8 s hs h8
  unfold impl_allDigits.f words
  rw [implCount_ev s hs h8 k (by omega), Option.bind_some]
  have := allDig_l s hs h8 (prodL s).toNat (by omega) (prodL s).toNat 0 (by omega) k (by omega)
  rw [show (((prodL s).toNat : Nat) : Int) = prodL s by omega] at this
  exact this

theorem digAll_l (s : List Int) (hs : ∀ q ∈ s, 2 ≤ q ∧ q ≤ 4) (h8 : s.length ≤ 8) (l : List Int) (hl : ∀ w ∈ l, 0 ≤ w ∧ w ≤ 1073741824) (hl2 : l.length ≤ 1048576) : ∀ d i : Nat, i + d = l.length → ∀ k, d < k → impl_digitsOfAll.l0 k ((l.take i).map (D8 s)) l l.length i s = some (l.map (D8 s))
  | 0, i, e, k, hk => by
    obtain ⟨k, rfl⟩ : ∃ q, k = q + 1 := ⟨k - 1, by omega⟩
    simp only [impl_digitsOfAll.l0]
    rw [if_neg (by omega), List.take_of_length_le (by omega)]
  | d + 1, i, e, k, hk => by
    obtain ⟨k, rfl⟩ : ∃ q, k = q + 1 := ⟨k - 1, by omega⟩
    have hi : i < l.length := by omega
    have hw := hl _ (List.getElem_mem hi)
    have ht : ((l.take i).map (D8 s)).length < 17592186044416 := by rw [List.length_map, List.length_take]; omega
    simp only [impl_digitsOfAll.l0]
    rw [if_pos (by omega), if_pos (by omega), if_pos (by omega), rd_nat l i hi, digitsOf_ev s hs h8 _ hw.1 hw.2, Option.bind_some, if_pos ht, w64 (by omega) (by omega), show (i : Int) + 1 = ((i + 1 : Nat) : Int) by omega]
    have ih := digAll_l s hs h8 l hl hl2 d (i + 1) (by omega) k (by omega)
    rw [List.take_succ_eq_append_getElem hi, List.map_append] at ih
    exact ih
theorem digAll_ev (s : List Int) (hs : ∀ q ∈ s, 2 ≤ q ∧ q ≤ 4) (h8 : s.length ≤ 8) (l : List Int) (hl : ∀ w ∈ l, 0 ≤ w ∧ w ≤ 1073741824) (hl2 : l.length ≤ 1048576) (k : Nat) (hk : l.length < k) : impl_digitsOfAll.f k s l = some (l.map (D8 s)) := by
  unfold impl_digitsOfAll.f
  exact digAll_l s hs h8 l hl hl2 l.length 0 (by omega) k hk

/-- What a code's words are: ascending, all of them words. -/
def CodeOk (n : Int) (l : List Int) : Prop := ∀ j (hj : j < l.length), (0 ≤ l[j] ∧ l[j] < n) ∧ ∀ h0 : 0 < j, l[j-1]'(by omega) < l[j]
theorem CodeOk.len {n : Int} {l : List Int} (h : CodeOk n l) : l.length = 0 ∨ (l.length : Int) ≤ n := by
  have key : ∀ j (hj : j < l.length), (j : Int) ≤ l[j] := by
    intro j
    induction j with
    | zero => intro hj; have := (h 0 hj).1; omega
    | succ j ih =>
      intro hj
      have h1 := ih (by omega)
      have h2 := (h (j+1) hj).2 (by omega)
      simp only [Nat.add_sub_cancel] at h2
      omega
  by_cases h0 : l.length = 0
  · exact .inl h0
  · right
    have h1 := key (l.length - 1) (by omega)
    have h2 := (h (l.length - 1) (by omega)).1
    omega

theorem areWords_l (n : Int) (l : List Int) (hl : l.length ≤ 4611686018427387904) : ∀ d i : Nat, i + d = l.length → ∃ b : Bool, (b = true ↔ ∀ j (hj : j < l.length), i ≤ j → 0 ≤ l[j] ∧ l[j] < n) ∧ ∀ k, d + 1 ≤ k → impl_areWords.l0 k n l l.length i = some b
  | 0, i, e => by
    refine ⟨true, ⟨fun _ j hj hi => by omega, fun _ => rfl⟩, fun k hk => ?_⟩
    obtain ⟨k, rfl⟩ : ∃ q, k = q + 1 := ⟨k - 1, by omega⟩
    simp only [impl_areWords.l0]; rw [if_neg (by omega)]
  | d+1, i, e => by
    have hi : i < l.length := by omega
    have hr := rd_nat l i hi
    have hw : wrap64 ((i : Int) + 1) = ((i + 1 : Nat) : Int) := by rw [w64 (by omega) (by omega)]; omega
    obtain ⟨b, hb, g⟩ := areWords_l n l hl d (i+1) (by omega)
    by_cases hin : 0 ≤ l[i] ∧ l[i] < n
    · refine ⟨b, ⟨fun h j hj hij => ?_, fun h => hb.2 fun j hj hij => h j hj (by omega)⟩, fun k hk => ?_⟩
      · by_cases hji : j = i
        · subst hji; exact hin
        · exact hb.1 h j hj (by omega)
      · obtain ⟨k, rfl⟩ : ∃ q, k = q + 1 := ⟨k - 1, by omega⟩
        simp only [impl_areWords.l0]
        rw [if_pos (by omega), if_pos (by omega), if_pos (by omega), hr, if_neg (by omega), if_neg (by omega), hw]
        exact g k (by omega)
    · refine ⟨false, ⟨fun h => absurd h (by decide), fun h => absurd (h i hi (by omega)) hin⟩, fun k hk => ?_⟩
      obtain ⟨k, rfl⟩ : ∃ q, k = q + 1 := ⟨k - 1, by omega⟩
      simp only [impl_areWords.l0]
      rw [if_pos (by omega), if_pos (by omega), if_pos (by omega), hr]
      by_cases h1 : l[i] < 0
      · rw [if_pos h1]
      · rw [if_neg h1, if_pos (by omega)]
theorem areWords_ev (s : List Int) (hs : SpaceOk s) (l : List Int) (hl : l.length ≤ 4611686018427387904) : ∃ b : Bool, (b = true ↔ ∀ j (hj : j < l.length), 0 ≤ l[j] ∧ l[j] < prodL s) ∧ ∀ k, l.length + 12 ≤ k → impl_areWords.f k s l = some b := by
  obtain ⟨b, h, g⟩ := areWords_l (prodL s) l hl l.length 0 (by omega)
  refine ⟨b, ⟨fun hb j hj => h.1 hb j hj (by omega), fun hc => h.2 fun j hj _ => hc j hj⟩, fun k hk => ?_⟩
  unfold impl_areWords.f
  rw [implCount_ev s hs.2.2.1 hs.2.1 k (by omega), Option.bind_some]
  exact g k (by omega)

theorem ascend_l (l : List Int) (hl : l.length ≤ 4611686018427387904) : ∀ d i : Nat, i + d = l.length → 1 ≤ i → ∃ b : Bool, (b = true ↔ ∀ j (hj : j < l.length), i ≤ j → ∀ h0 : 0 < j, l[j-1]'(by omega) < l[j]) ∧ ∀ k, d + 1 ≤ k → impl_isCode.l0 k l i = some b
  | 0, i, e, h1 => by
    refine ⟨true, ⟨fun _ j hj hi => by omega, fun _ => rfl⟩, fun k hk => ?_⟩
    obtain ⟨k, rfl⟩ : ∃ q, k = q + 1 := ⟨k - 1, by omega⟩
    simp only [impl_isCode.l0]; rw [if_neg (by omega)]
  | d+1, i, e, h1 => by
    have hi : i < l.length := by omega
    have hr := rd_nat l i hi
    have hr1 := rd_nat l (i - 1) (by omega)
    have hw : wrap64 ((i : Int) + 1) = ((i + 1 : Nat) : Int) := by rw [w64 (by omega) (by omega)]; omega
    have hw1 : wrap64 ((i : Int) - 1) = ((i - 1 : Nat) : Int) := by rw [w64 (by omega) (by omega)]; omega
    obtain ⟨b, hb, g⟩ := ascend_l l hl d (i+1) (by omega) (by omega)
    by_cases hle : l[i] ≤ l[i-1]
    · refine ⟨false, ⟨fun h => absurd h (by decide), fun h => ?_⟩, fun k hk => ?_⟩
      · have := h i hi (by omega) (by omega); omega
      · obtain ⟨k, rfl⟩ : ∃ q, k = q + 1 := ⟨k - 1, by omega⟩
        simp only [impl_isCode.l0]
        rw [if_pos (by omega), if_pos (by omega), hw1, if_pos (by omega), if_pos (by omega), hr, hr1, if_pos hle]
    · refine ⟨b, ⟨fun h j hj hij h0 => ?_, fun h => hb.2 fun j hj hij h0 => h j hj (by omega) h0⟩, fun k hk => ?_⟩
      · by_cases hji : j = i
        · subst hji; omega
        · exact hb.1 h j hj (by omega) h0
      · obtain ⟨k, rfl⟩ : ∃ q, k = q + 1 := ⟨k - 1, by omega⟩
        simp only [impl_isCode.l0]
        rw [if_pos (by omega), if_pos (by omega), hw1, if_pos (by omega), if_pos (by omega), hr, hr1, if_neg hle, hw]
        exact g k (by omega)
theorem isCode_ev (s : List Int) (hs : SpaceOk s) (l : List Int) (hl : l.length ≤ 4611686018427387904) : ∃ b : Bool, (b = true ↔ CodeOk (prodL s) l) ∧ ∀ k, l.length + 14 ≤ k → impl_isCode.f k s l = some b := by
  have hP := prodL_le8 s hs.2.2.1 hs.2.1
  obtain ⟨b1, hb1, g1⟩ := areWords_ev s hs l hl
  by_cases hlen : (l.length : Int) > prodL s
  · refine ⟨false, ⟨fun h => absurd h (by decide), fun h => ?_⟩, fun k hk => ?_⟩
    · rcases h.len with h2 | h2 <;> omega
    · obtain ⟨k, rfl⟩ : ∃ q, k = q + 1 := ⟨k - 1, by omega⟩
      unfold impl_isCode.f
      rw [implCount_ev s hs.2.2.1 hs.2.1 _ (by omega), Option.bind_some, if_pos hlen]
      simp [impl_isCode.j0]
  · cases hb : b1 with
    | false =>
      subst hb
      refine ⟨false, ⟨fun h => absurd h (by decide), fun h => ?_⟩, fun k hk => ?_⟩
      · exact absurd (hb1.2 fun j hj => (h j hj).1) (by decide)
      · obtain ⟨k, rfl⟩ : ∃ q, k = q + 1 := ⟨k - 1, by omega⟩
        unfold impl_isCode.f
        rw [implCount_ev s hs.2.2.1 hs.2.1 _ (by omega), Option.bind_some, if_neg hlen, g1 _ (by omega), Option.bind_some]
        simp [impl_isCode.j0]
    | true =>
      subst hb
      have hall := hb1.1 rfl
      obtain ⟨b, hb, g⟩ : ∃ b : Bool, (b = true ↔ ∀ j (hj : j < l.length), 1 ≤ j → ∀ h0 : 0 < j, l[j-1]'(by omega) < l[j]) ∧ ∀ k, l.length + 1 ≤ k → impl_isCode.l0 k l 1 = some b := by
        by_cases h0 : l.length = 0
        · refine ⟨true, ⟨fun _ j hj => by omega, fun _ => rfl⟩, fun k hk => ?_⟩
          obtain ⟨k, rfl⟩ : ∃ q, k = q + 1 := ⟨k - 1, by omega⟩
          simp only [impl_isCode.l0]; rw [if_neg (by omega)]
        · obtain ⟨b, hb, g⟩ := ascend_l l hl (l.length - 1) 1 (by omega) (by omega)
          exact ⟨b, hb, fun k hk => g k (by omega)⟩
      refine ⟨b, ⟨fun h j hj => ⟨hall j hj, fun h0 => hb.1 h j hj (by omega) h0⟩, fun h => hb.2 fun j hj _ h0 => (h j hj).2 h0⟩, fun k hk => ?_⟩
      obtain ⟨k, rfl⟩ : ∃ q, k = q + 1 := ⟨k - 1, by omega⟩
      unfold impl_isCode.f
      rw [implCount_ev s hs.2.2.1 hs.2.1 _ (by omega), Option.bind_some, if_neg hlen, g1 _ (by omega), Option.bind_some]
      simp only [Bool.not_true, impl_isCode.j0]
      rw [if_neg (by decide)]
      exact g k (by omega)

/-- Marks set, one by one. -/
def setsB (h : List Bool) (l : List Int) : List Bool := l.foldl (fun h n => h.set n.toNat true) h
theorem setsB_len : ∀ (l : List Int) (h : List Bool), (setsB h l).length = h.length
  | [], h => rfl
  | n :: l, h => by
    show (setsB (h.set n.toNat true) l).length = _
    rw [setsB_len l, List.length_set]
theorem setsB_get : ∀ (l : List Int) (h : List Bool) (i : Nat), i < h.length → (∀ n ∈ l, 0 ≤ n) → ((setsB h l).getD i false = true ↔ h.getD i false = true ∨ (i : Int) ∈ l)
  | [], h, i, _, _ => by simp [setsB]
  | n :: l, h, i, hi, hl => by
    show (setsB (h.set n.toNat true) l).getD i false = true ↔ _
    rw [setsB_get l _ i (by rw [List.length_set]; exact hi) (fun x hx => hl x (by simp [hx]))]
    have h0 := hl n (by simp)
    have hg : (h.set n.toNat true).getD i false = true ↔ h.getD i false = true ∨ (i : Int) = n := by
      rw [List.getD_eq_getElem?_getD, List.getElem?_set]
      by_cases he : n.toNat = i
      · rw [if_pos he, if_pos (by omega)]
        simp; right; omega
      · rw [if_neg he, ← List.getD_eq_getElem?_getD]
        constructor
        · exact .inl
        · rintro (h1 | h1)
          · exact h1
          · omega
    rw [hg, List.mem_cons, or_assoc]
theorem marks_l (l : List Int) (hl : l.length ≤ 1048576) (P : Int) (hw : ∀ n ∈ l, 0 ≤ n ∧ n < P) : ∀ d i : Nat, i + d = l.length → ∀ h : List Bool, (h.length : Int) = P → ∀ k, d < k → impl_marks.l0 k h l (l.length : Int) (i : Int) = some (setsB h (l.drop i))
  | 0, i, e, h, hh, k, hk => by
    obtain ⟨k, rfl⟩ : ∃ q, k = q + 1 := ⟨k - 1, by omega⟩
    simp only [impl_marks.l0]
    rw [if_neg (by omega), List.drop_of_length_le (by omega)]; rfl
  | d + 1, i, e, h, hh, k, hk => by
    obtain ⟨k, rfl⟩ : ∃ q, k = q + 1 := ⟨k - 1, by omega⟩
    have hi : i < l.length := by omega
    have h1 := hw _ (List.getElem_mem hi)
    simp only [impl_marks.l0]
    rw [if_pos (by omega), if_pos (by omega), if_pos (by omega), rd_nat l i hi, if_pos h1.1, if_pos (by omega), w64 (by omega) (by omega), show (i : Int) + 1 = ((i + 1 : Nat) : Int) by omega, marks_l l hl P hw d (i + 1) (by omega) _ (by rw [List.length_set]; exact hh) k (by omega), List.drop_eq_getElem_cons hi]
    rfl
theorem marks_ev (s : List Int) (hs : SpaceOk s) (l : List Int) (hl : l.length ≤ 1048576) (hw : ∀ n ∈ l, 0 ≤ n ∧ n < prodL s) (k : Nat) (hk : l.length + 20 ≤ k) : impl_marks.f k s l = some (setsB (List.replicate (prodL s).toNat false) l) := by
  have hP := prodL_le8 s hs.2.2.1 hs.2.1
  unfold impl_marks.f
  rw [implCount_ev s hs.2.2.1 hs.2.1 k (by omega), Option.bind_some, if_pos (by omega), if_pos (by omega)]
  have h := marks_l l hl (prodL s) hw l.length 0 (by omega) (List.replicate (prodL s).toNat false) (by rw [List.length_replicate]; omega) k (by omega)
  rw [List.drop_zero] at h
  exact h

def Ev {α : Type} (f : Nat → Option α) (r : α) : Prop := ∃ K, ∀ k, K ≤ k → f k = some r
theorem Ev.step {α : Type} {f g : Nat → Option α} {r : α} (h : Ev g r) (e : ∀ k, f (k + 1) = g k) : Ev f r := by
  obtain ⟨K, hK⟩ := h
  refine ⟨K + 1, fun k hk => ?_⟩
  obtain ⟨k, rfl⟩ : ∃ q, k = q + 1 := ⟨k - 1, by omega⟩
  rw [e]; exact hK k (by omega)
theorem Ev.same {α : Type} {f g : Nat → Option α} {r : α} (h : Ev g r) (e : ∀ k, f k = g k) : Ev f r := by
  obtain ⟨K, hK⟩ := h
  exact ⟨K, fun k hk => by rw [e]; exact hK k hk⟩
theorem Ev.bind {α β : Type} {f : Nat → Option α} {v : α} {g : Nat → α → Option β} {r : β} (hf : Ev f v) (hg : Ev (fun k => g k v) r) : Ev (fun k => (f k).bind (g k)) r := by
  obtain ⟨K, hK⟩ := hf
  obtain ⟨M, hM⟩ := hg
  refine ⟨K + M, fun k hk => ?_⟩
  show (f k).bind (g k) = _
  rw [hK k (by omega), Option.bind_some]; exact hM k (by omega)
theorem Ev.of {α : Type} (v : α) : Ev (fun _ => some v) v := ⟨0, fun _ _ => rfl⟩

/-- n times a word on top of another. -/
def sumN (s : List Int) (c : Int) : Nat → Int → Int
  | 0, u => u
  | n + 1, u => sumN s c n (sumW s u c)
/-- The sum of columns, each as often as f says. -/
def colS (s : List Int) (f : Nat → Nat) : List Int → Nat → Int → Int
  | [], _, u => u
  | c :: cs, i, u => colS s f cs (i + 1) (sumN s c (f i) u)
theorem sumN_bound (s : List Int) (hs : ∀ q ∈ s, 2 ≤ q ∧ q ≤ 4) (c : Int) : ∀ (n : Nat) (u : Int), 0 ≤ u → u < prodL s → 0 ≤ sumN s c n u ∧ sumN s c n u < prodL s
  | 0, u, h0, h1 => ⟨h0, h1⟩
  | n + 1, u, _, _ => by
    have := sumW_bound s hs u c
    exact sumN_bound s hs c n _ this.1 this.2
theorem colS_bound (s : List Int) (hs : ∀ q ∈ s, 2 ≤ q ∧ q ≤ 4) (f : Nat → Nat) : ∀ (cs : List Int) (i : Nat) (u : Int), 0 ≤ u → u < prodL s → 0 ≤ colS s f cs i u ∧ colS s f cs i u < prodL s
  | [], _, u, h0, h1 => ⟨h0, h1⟩
  | c :: cs, i, u, h0, h1 => by
    have := sumN_bound s hs c (f i) u h0 h1
    exact colS_bound s hs f cs (i + 1) _ this.1 this.2
section
variable (s : List Int) (hs : ∀ q ∈ s, 2 ≤ q ∧ q ≤ 4) (h8 : s.length ≤ 8)
include hs h8
theorem cAdd_ev (k : Nat) (c : Int) : ∀ (n : Nat) (u : Int), cAdd k s (D8 s c) n (D8 s u) = some (D8 s (sumN s c n u))
  | 0, u => rfl
  | n + 1, u => by
    have h := implSum_ev s hs h8 u c k (tup8 (digL s u)) (tup8 (digL s c)) rfl rfl
    show (impl_sumOf.f k s (tup8 (digL s u)).1 (tup8 (digL s u)).2.1 (tup8 (digL s u)).2.2.1 (tup8 (digL s u)).2.2.2.1 (tup8 (digL s u)).2.2.2.2.1 (tup8 (digL s u)).2.2.2.2.2.1 (tup8 (digL s u)).2.2.2.2.2.2.1 (tup8 (digL s u)).2.2.2.2.2.2.2 (tup8 (digL s c)).1 (tup8 (digL s c)).2.1 (tup8 (digL s c)).2.2.1 (tup8 (digL s c)).2.2.2.1 (tup8 (digL s c)).2.2.2.2.1 (tup8 (digL s c)).2.2.2.2.2.1 (tup8 (digL s c)).2.2.2.2.2.2.1 (tup8 (digL s c)).2.2.2.2.2.2.2).bind _ = _
    rw [h, Option.bind_some]
    exact cAdd_ev k c n (sumW s u c)
theorem cAll_ev (k : Nat) (dl : List Int) : ∀ (cs : List Int) (i : Nat) (u : Int), cAll k s dl (cs.map (D8 s)) i (D8 s u) = some (D8 s (colS s (fun i => (rd dl (i : Int)).toNat) cs i u))
  | [], _, u => rfl
  | c :: cs, i, u => by
    show (cAdd k s (D8 s c) (rd dl (i : Int)).toNat (D8 s u)).bind _ = _
    rw [cAdd_ev s hs h8, Option.bind_some]
    exact cAll_ev k dl cs (i + 1) _
omit hs h8 in
theorem dig_zero : ∀ (s : List Int), digL s 0 = List.replicate s.length 0
  | [] => rfl
  | q :: s => by simp [digL, dig_zero s, List.replicate_succ]
omit hs h8 in
theorem D8_zero : D8 s 0 = ⟨0, 0, 0, 0, 0, 0, 0, 0⟩ := by
  have g : ∀ i : Nat, (digL s 0).getD i 0 = 0 := fun i => by
    rw [dig_zero s, List.getD_eq_getElem?_getD, List.getElem?_replicate]
    by_cases h : i < s.length
    · rw [if_pos h]; rfl
    · rw [if_neg h]; rfl
  unfold D8
  rw [g 0, g 1, g 2, g 3, g 4, g 5, g 6, g 7]
theorem wordD8 (k : Nat) (u : Int) (h0 : 0 ≤ u) (h1 : u < prodL s) : impl_wordOf.f k s (D8 s u).f0 (D8 s u).f1 (D8 s u).f2 (D8 s u).f3 (D8 s u).f4 (D8 s u).f5 (D8 s u).f6 (D8 s u).f7 = some u := by
  have h := implWord_ev s hs h8 (digL s u) (within_dig s hs u) (digL_small s hs u) k (tup8 (digL s u)) rfl
  rw [word_dig s hs u h0 (by rw [prodI_eq]; exact h1)] at h
  exact h
theorem colF_ev (k : Nat) (cs : List Int) (I : List Bool) (hI : (I.length : Int) = prodL s) (d : S82) : colF k s (cs.map (D8 s)) I d = some (rdOf false I (colS s (fun i => (rd (dlist d) (i : Int)).toNat) cs 0 0)) := by
  have hp := prodL_le8 s hs h8
  have hb := colS_bound s hs (fun i => (rd (dlist d) (i : Int)).toNat) cs 0 0 (by omega) (by omega)
  unfold colF
  have h := cAll_ev s hs h8 k (dlist d) cs 0 0
  rw [D8_zero s] at h
  rw [h, Option.bind_some, wordD8 s hs h8 k _ hb.1 hb.2, Option.bind_some, if_pos ⟨hb.1, by omega⟩]
end
theorem dlist_D8 (y : List Int) (h8 : y.length ≤ 8) (w : Int) : ∀ i : Nat, i < y.length → rd (dlist (D8 y w)) (i : Int) = rd (digL y w) (i : Int) := by
  have hl := digL_len y w
  generalize hv : digL y w = v at hl
  have e : dlist (D8 y w) = [v.getD 0 0, v.getD 1 0, v.getD 2 0, v.getD 3 0, v.getD 4 0, v.getD 5 0, v.getD 6 0, v.getD 7 0] := by rw [← hv]; rfl
  intro i hi
  have g : rd v (i : Int) = v.getD i 0 := by simp [rd]
  rw [e, g]
  have h8' : i < 8 := by omega
  match i, h8' with
  | 0, _ => rfl
  | 1, _ => rfl
  | 2, _ => rfl
  | 3, _ => rfl
  | 4, _ => rfl
  | 5, _ => rfl
  | 6, _ => rfl
  | 7, _ => rfl
theorem dlist_byte (y : List Int) (hy : ∀ q ∈ y, 2 ≤ q ∧ q ≤ 4) (w : Int) : ∀ i : Nat, i < 8 → 0 ≤ rd (dlist (D8 y w)) (i : Int) ∧ rd (dlist (D8 y w)) (i : Int) ≤ 255 := by
  have hv := digL_small y hy w
  generalize hv0 : digL y w = v at hv
  have e : dlist (D8 y w) = [v.getD 0 0, v.getD 1 0, v.getD 2 0, v.getD 3 0, v.getD 4 0, v.getD 5 0, v.getD 6 0, v.getD 7 0] := by rw [← hv0]; rfl
  have g : ∀ j : Nat, 0 ≤ v.getD j 0 ∧ v.getD j 0 ≤ 255 := fun j => by
    rw [List.getD_eq_getElem?_getD]
    by_cases hj : j < v.length
    · rw [List.getElem?_eq_getElem hj]
      have := hv _ (List.getElem_mem hj)
      exact ⟨this.1, by show v[j] ≤ 255; omega⟩
    · rw [List.getElem?_eq_none (by omega)]; decide
  intro i hi
  rw [e]
  match i, hi with
  | 0, _ => exact g 0
  | 1, _ => exact g 1
  | 2, _ => exact g 2
  | 3, _ => exact g 3
  | 4, _ => exact g 4
  | 5, _ => exact g 5
  | 6, _ => exact g 6
  | 7, _ => exact g 7
theorem colS_cong (s : List Int) (f g : Nat → Nat) (n : Nat) (h : ∀ i, i < n → f i = g i) : ∀ (cs : List Int) (i : Nat) (u : Int), i + cs.length ≤ n → colS s f cs i u = colS s g cs i u
  | [], _, _, _ => rfl
  | c :: cs, i, u, hl => by
    simp only [List.length_cons] at hl
    show colS s f cs (i + 1) (sumN s c (f i) u) = colS s g cs (i + 1) (sumN s c (g i) u)
    rw [h i (by omega)]
    exact colS_cong s f g n h cs (i + 1) _ (by omega)
/-- The words whose columns' sum is marked. -/
def colOut (s cs : List Int) (I : List Bool) (y : List Int) (a b : Nat) : List Int := ((List.range' a b).filter fun w : Nat => rdOf false I (colS s (fun i => (rd (digL y (w : Int)) (i : Int)).toNat) cs 0 0)).map Int.ofNat
theorem rd_T_map (y : List Int) (L : List Int) (j : Nat) (h : j < L.length) : rd_T82 (L.map (D8 y)) (j : Int) = D8 y L[j] := by simp [rd_T82, List.getElem?_map, List.getElem?_eq_getElem h]
theorem thoseV_ev (s : List Int) (hs : ∀ q ∈ s, 2 ≤ q ∧ q ≤ 4) (h8 : s.length ≤ 8) (k : Nat) (cs : List Int) (I : List Bool) (hI : (I.length : Int) = prodL s) (y : List Int) (hy8 : y.length ≤ 8) (hc : cs.length ≤ y.length) : thoseV (fun d => (colF k s (cs.map (D8 s)) I d).getD false) ((words y).map (D8 y)) ((words y).map (D8 y)).length = colOut s cs I y 0 (prodL y).toNat := by
  have hwl : (words y).length = (prodL y).toNat := by unfold words; rw [List.length_map, List.length_range]
  have hww : ∀ j (h : j < (words y).length), (words y)[j] = (j : Int) := fun j h => by simp [words]
  unfold thoseV colOut
  rw [List.length_map, hwl, List.range_eq_range']
  congr 1
  refine List.filter_congr fun w hw => ?_
  have hw2 : w < (words y).length := by rw [hwl]; have := List.mem_range'_1.1 hw; omega
  rw [rd_T_map y _ w hw2, hww w hw2]
  show (colF k s (cs.map (D8 s)) I (D8 y (w : Int))).getD false = _
  rw [colF_ev s hs h8 k cs I hI]
  show rdOf false I _ = _
  rw [colS_cong s _ _ cs.length (fun i hi => by rw [dlist_D8 y hy8 (w : Int) i (by omega)]) cs 0 0 (by omega)]

theorem specIs_l : ∀ (B A : List Int), (∀ q ∈ A, 2 ≤ q ∧ q ≤ 4) → (A ++ B).length ≤ 8 → ∀ k, B.length + 10 < k → spec_l01Is.l0 k A.length (A ++ B) = some (decide (∀ q ∈ A ++ B, 2 ≤ q ∧ q ≤ 4) && decide (prodL (A ++ B) ≤ 1024))
  | [], A, h, hl, k, hk => by
    obtain ⟨k, rfl⟩ : ∃ q, k = q + 1 := ⟨k - 1, by simp at hk; omega⟩
    simp only [List.append_nil] at hl ⊢
    simp only [spec_l01Is.l0]
    simp only [List.length_nil] at hk
    rw [if_neg (by omega), specN_ev A h hl k (by omega), Option.bind_some]
    simp only [decide_eq_true h, Bool.true_and]
  | b :: B, A, h, hl, k, hk => by
    obtain ⟨k, rfl⟩ : ∃ q, k = q + 1 := ⟨k - 1, by simp at hk; omega⟩
    simp only [spec_l01Is.l0]
    simp only [List.length_append, List.length_cons] at hl hk
    unfold spec_l01In.f
    rw [if_pos (by simp; omega), if_pos (by omega), rd_mid]
    by_cases hb : 2 ≤ b ∧ b ≤ 4
    · rw [if_pos hb.1, Option.bind_some, if_pos (by simpa using hb.2), w64 (by omega) (by omega), show (A.length : Int) + 1 = ((A ++ [b]).length : Int) by simp]
      have := specIs_l B (A ++ [b]) (fun q hq => by simp at hq; rcases hq with hq | rfl; exact h q hq; exact hb) (by simp; omega) k (by omega)
      rw [List.append_assoc, List.singleton_append] at this
      rw [this]
    · have hd : decide (∀ q ∈ A ++ b :: B, 2 ≤ q ∧ q ≤ 4) = false := by
        rw [decide_eq_false_iff_not]; intro hh; exact hb (hh b (by simp))
      rw [hd, Bool.false_and]
      by_cases h1 : b ≥ 2
      · rw [if_pos h1, Option.bind_some, if_neg (by simp; omega)]
      · rw [if_neg h1, Option.bind_some]; rfl
instance (l : List Int) : Decidable (SpaceOk l) := by unfold SpaceOk; infer_instance
theorem specIs_ev (l : List Int) : ∀ k, 30 ≤ k → spec_l01Is.f k l = some (decide (SpaceOk l)) := by
  intro k hk
  unfold spec_l01Is.f
  by_cases h1 : 1 ≤ l.length ∧ l.length ≤ 8
  · have e : spec_l01In.f (l.length : Int) 1 8 = some true := by
      unfold spec_l01In.f; rw [if_pos (by omega)]; simp; omega
    rw [e, Option.bind_some, if_pos rfl]
    have := specIs_l l [] (by simp) (by simpa using h1.2) k (by omega)
    simp only [List.nil_append, List.length_nil] at this
    rw [show (0 : Int) = ((0 : Nat) : Int) from rfl, this]
    congr 1
    rw [Bool.eq_iff_iff]
    simp [SpaceOk, h1]
  · have e : spec_l01In.f (l.length : Int) 1 8 = some false := by
      unfold spec_l01In.f
      by_cases h2 : (l.length : Int) ≥ 1
      · rw [if_pos h2]; simp; omega
      · rw [if_neg h2]
    have hd : decide (SpaceOk l) = false := by
      rw [decide_eq_false_iff_not]; intro hh; exact h1 ⟨hh.1, hh.2.1⟩
    rw [e, Option.bind_some, hd]; rfl

theorem specWords_l (s : List Int) (hs : SpaceOk s) (l : List Int) (hl : l.length ≤ 1048576) : ∀ d i : Nat, i + d = l.length → ∃ b : Bool, (b = true ↔ ∀ j (hj : j < l.length), i ≤ j → 0 ≤ l[j] ∧ l[j] < prodL s) ∧ ∀ k, d + 12 ≤ k → spec_l01Words.l0 k l i s = some (if b = true then 0 else 2)
  | 0, i, e => by
    refine ⟨true, ⟨fun _ j hj hi => by omega, fun _ => rfl⟩, fun k hk => ?_⟩
    obtain ⟨k, rfl⟩ : ∃ q, k = q + 1 := ⟨k - 1, by omega⟩
    simp only [spec_l01Words.l0]; rw [if_neg (by omega)]; rfl
  | d+1, i, e => by
    have hi : i < l.length := by omega
    have hr := rd_nat l i hi
    have hw : wrap64 ((i : Int) + 1) = ((i + 1 : Nat) : Int) := by rw [w64 (by omega) (by omega)]; omega
    have hP := prodL_le8 s hs.2.2.1 hs.2.1
    obtain ⟨b, hb, g⟩ := specWords_l s hs l hl d (i+1) (by omega)
    by_cases hin : 0 ≤ l[i] ∧ l[i] < prodL s
    · have e1 : spec_l01In.f l[i] 0 (prodL s - 1) = some true := by
        unfold spec_l01In.f; rw [if_pos hin.1]; simp; omega
      refine ⟨b, ⟨fun h j hj hij => ?_, fun h => hb.2 fun j hj hij => h j hj (by omega)⟩, fun k hk => ?_⟩
      · by_cases hji : j = i
        · subst hji; exact hin
        · exact hb.1 h j hj (by omega)
      · obtain ⟨k, rfl⟩ : ∃ q, k = q + 1 := ⟨k - 1, by omega⟩
        simp only [spec_l01Words.l0]
        rw [if_pos (by omega), if_pos (by omega), specN_ev s hs.2.2.1 hs.2.1 k (by omega), Option.bind_some, hr, w64 (i := prodL s - 1) (by omega) (by omega), e1, Option.bind_some, if_pos rfl, hw]
        exact g k (by omega)
    · have e1 : spec_l01In.f l[i] 0 (prodL s - 1) = some false := by
        unfold spec_l01In.f
        by_cases h1 : l[i] ≥ 0
        · rw [if_pos h1]; simp; omega
        · rw [if_neg h1]
      refine ⟨false, ⟨fun h => absurd h (by decide), fun h => absurd (h i hi (by omega)) hin⟩, fun k hk => ?_⟩
      obtain ⟨k, rfl⟩ : ∃ q, k = q + 1 := ⟨k - 1, by omega⟩
      simp only [spec_l01Words.l0]
      rw [if_pos (by omega), if_pos (by omega), specN_ev s hs.2.2.1 hs.2.1 k (by omega), Option.bind_some, hr, w64 (i := prodL s - 1) (by omega) (by omega), e1, Option.bind_some, if_neg (by decide)]
      rfl
theorem specWords_ev (s : List Int) (hs : SpaceOk s) (l : List Int) (hl : l.length ≤ 1048576) : ∃ b : Bool, (b = true ↔ ∀ j (hj : j < l.length), 0 ≤ l[j] ∧ l[j] < prodL s) ∧ ∀ k, l.length + 30 ≤ k → spec_l01Words.f k s l = some (if b = true then 0 else 2) := by
  obtain ⟨b, h, g⟩ := specWords_l s hs l hl l.length 0 (by omega)
  refine ⟨b, ⟨fun hb j hj => h.1 hb j hj (by omega), fun hc => h.2 fun j hj _ => hc j hj⟩, fun k hk => ?_⟩
  unfold spec_l01Words.f
  rw [specIs_ev s k (by omega), decide_eq_true hs, Option.bind_some, if_pos rfl]
  exact g k (by omega)

theorem specPlain_l (s : List Int) (h0 : 1 ≤ s.length) (h8 : s.length ≤ 8) : ∀ d i : Nat, i + d = s.length → ∃ b : Bool, (b = true ↔ ∀ j (hj : j < s.length), i ≤ j → s[j] = rd s 0 ∧ s[j] ≤ 3) ∧ ∀ k, d + 1 ≤ k → spec_l05Plain.l0 k s.length i s = some b
  | 0, i, e => by
    refine ⟨true, ⟨fun _ j hj hi => by omega, fun _ => rfl⟩, fun k hk => ?_⟩
    obtain ⟨k, rfl⟩ : ∃ q, k = q + 1 := ⟨k - 1, by omega⟩
    simp only [spec_l05Plain.l0]; rw [if_neg (by omega)]
  | d+1, i, e => by
    have hi : i < s.length := by omega
    have hr := rd_nat s i hi
    have hw : wrap64 ((i : Int) + 1) = ((i + 1 : Nat) : Int) := by rw [w64 (by omega) (by omega)]; omega
    obtain ⟨b, hb, g⟩ := specPlain_l s h0 h8 d (i+1) (by omega)
    have start : ∀ k, spec_l05Plain.l0 (k+1) s.length i s = if s[i] = rd s 0 then (if s[i] > 3 then some false else spec_l05Plain.l0 k s.length ((i + 1 : Nat) : Int) s) else some false := by
      intro k
      simp only [spec_l05Plain.l0]
      rw [if_pos (by omega), if_pos (by omega), if_pos (by omega), if_pos (by omega), hr, hw]
    by_cases h1 : s[i] = rd s 0
    · by_cases h2 : s[i] > 3
      · refine ⟨false, ⟨fun h => absurd h (by decide), fun h => ?_⟩, fun k hk => ?_⟩
        · have := (h i hi (by omega)).2; omega
        · obtain ⟨k, rfl⟩ : ∃ q, k = q + 1 := ⟨k - 1, by omega⟩
          rw [start, if_pos h1, if_pos h2]
      · refine ⟨b, ⟨fun h j hj hij => ?_, fun h => hb.2 fun j hj hij => h j hj (by omega)⟩, fun k hk => ?_⟩
        · by_cases hji : j = i
          · subst hji; exact ⟨h1, by omega⟩
          · exact hb.1 h j hj (by omega)
        · obtain ⟨k, rfl⟩ : ∃ q, k = q + 1 := ⟨k - 1, by omega⟩
          rw [start, if_pos h1, if_neg h2]
          exact g k (by omega)
    · refine ⟨false, ⟨fun h => absurd h (by decide), fun h => absurd (h i hi (by omega)).1 h1⟩, fun k hk => ?_⟩
      obtain ⟨k, rfl⟩ : ∃ q, k = q + 1 := ⟨k - 1, by omega⟩
      rw [start, if_neg h1]
theorem plain_both (s : List Int) (h0 : 1 ≤ s.length) (h8 : s.length ≤ 8) : ∃ b : Bool, ∀ k, 20 ≤ k → spec_l05Plain.f k s = some b ∧ impl_isPlain.f k s = some b := by
  obtain ⟨b, hb, g⟩ := specPlain_l s h0 h8 s.length 0 (by omega)
  refine ⟨b, fun k hk => ⟨?_, ?_⟩⟩
  · unfold spec_l05Plain.f
    exact g k (by omega)
  · unfold impl_isPlain.f
    rw [if_pos h0]
    congr 1
    rw [Bool.eq_iff_iff, hb]
    have e0 : rd s 0 = s[0] := rd_nat s 0 (by omega)
    simp only [Bool.and_eq_true, decide_eq_true_eq, Bool.not_eq_true', List.any_eq_false, bne_iff_ne, ne_eq, Decidable.not_not]
    constructor
    · rintro ⟨h1, h2⟩ j hj _
      have := h2 _ (List.getElem_mem hj)
      exact ⟨this, by omega⟩
    · intro h
      refine ⟨by have := (h 0 (by omega) (by omega)).2; omega, fun x hx => ?_⟩
      obtain ⟨j, hj, rfl⟩ := List.mem_iff_getElem.1 hx
      exact (h j hj (by omega)).1

theorem implIs_l : ∀ (B A : List Int), (∀ q ∈ A, 2 ≤ q ∧ q ≤ 4) → (A ++ B).length ≤ 8 → ∀ k, B.length < k → impl_IsSpace.l0 k (prodL A) (A ++ B) (A ++ B).length A.length = some (decide (∀ q ∈ A ++ B, 2 ≤ q ∧ q ≤ 4) && decide (prodL (A ++ B) ≤ 1024))
  | [], A, h, hl, k, hk => by
    obtain ⟨k, rfl⟩ : ∃ q, k = q + 1 := ⟨k - 1, by simp at hk; omega⟩
    simp only [List.append_nil] at hl ⊢
    simp only [impl_IsSpace.l0]
    rw [if_neg (by omega)]
    simp only [decide_eq_true h, Bool.true_and]
  | b :: B, A, h, hl, k, hk => by
    obtain ⟨k, rfl⟩ : ∃ q, k = q + 1 := ⟨k - 1, by simp at hk; omega⟩
    simp only [impl_IsSpace.l0]
    simp only [List.length_append, List.length_cons] at hl hk
    rw [if_pos (by simp; omega), if_pos (by omega), if_pos (by simp; omega), rd_mid]
    by_cases hb : 2 ≤ b ∧ b ≤ 4
    · have hA := prodL_le8 (A ++ [b]) (fun q hq => by simp at hq; rcases hq with hq | rfl; exact h q hq; exact hb) (by simp; omega)
      rw [prodL_snoc] at hA
      rw [if_neg (by omega), if_neg (by omega), w64 (by omega) (by omega), w64 (by omega) (by omega), ← prodL_snoc, show (A.length : Int) + 1 = ((A ++ [b]).length : Int) by simp]
      have := implIs_l B (A ++ [b]) (fun q hq => by simp at hq; rcases hq with hq | rfl; exact h q hq; exact hb) (by simp; omega) k (by omega)
      rw [List.append_assoc, List.singleton_append] at this
      rw [this]
    · have hd : decide (∀ q ∈ A ++ b :: B, 2 ≤ q ∧ q ≤ 4) = false := by
        rw [decide_eq_false_iff_not]; intro hh; exact hb (hh b (by simp))
      rw [hd, Bool.false_and]
      by_cases h1 : b < 2
      · rw [if_pos h1]
      · rw [if_neg h1, if_pos (by omega)]
theorem implIs_ev (l : List Int) : ∀ k, 30 ≤ k → impl_IsSpace.f k l = some (decide (SpaceOk l)) := by
  intro k hk
  obtain ⟨k, rfl⟩ : ∃ q, k = q + 1 := ⟨k - 1, by omega⟩
  unfold impl_IsSpace.f
  by_cases h1 : 1 ≤ l.length ∧ l.length ≤ 8
  · have e : decide ((l.length : Int) > 8) = false := by simp; omega
    rw [if_neg (by omega), e]
    simp only [impl_IsSpace.j0]
    rw [if_neg (by decide)]
    have := implIs_l l [] (by simp) (by simpa using h1.2) k (by omega)
    simp only [List.nil_append, List.length_nil, prodL] at this
    rw [show (0 : Int) = ((0 : Nat) : Int) from rfl, this]
    congr 1
    rw [Bool.eq_iff_iff]
    simp [SpaceOk, h1]
  · have hd : decide (SpaceOk l) = false := by
      rw [decide_eq_false_iff_not]; intro hh; exact h1 ⟨hh.1, hh.2.1⟩
    rw [hd]
    by_cases h2 : (l.length : Int) < 1
    · rw [if_pos h2]; simp [impl_IsSpace.j0]
    · have e : decide ((l.length : Int) > 8) = true := by simp; omega
      rw [if_neg h2, e]; simp [impl_IsSpace.j0]

theorem areWords_iff (s : List Int) (hs : SpaceOk s) (l : List Int) (hl : l.length ≤ 1048576) : ∃ b : Bool, (b = true ↔ ∀ j (hj : j < l.length), 0 ≤ l[j] ∧ l[j] < prodL s) ∧ (∀ k, l.length + 30 ≤ k → spec_l01Words.f k s l = some (if b = true then 0 else 2)) ∧ ∀ k, l.length + 30 ≤ k → impl_areWords.f k s l = some b := by
  obtain ⟨b, h, g⟩ := specWords_ev s hs l hl
  obtain ⟨c, h2, g2⟩ := areWords_ev s hs l (by omega)
  obtain rfl : b = c := by rw [Bool.eq_iff_iff, h, h2]
  exact ⟨b, h, g, fun k hk => g2 k (by omega)⟩

theorem code_words' {n : Int} {l : List Int} (h : CodeOk n l) (hn0 : 0 ≤ n) (hn : n ≤ 1024) : (∀ c ∈ l, 0 ≤ c ∧ c < n) ∧ l.length ≤ 1024 := by
  refine ⟨fun c hc => ?_, ?_⟩
  · obtain ⟨j, hj, rfl⟩ := List.mem_iff_getElem.1 hc
    exact (h j hj).1
  · rcases h.len with h | h <;> omega

def codeFrom (n : Int) (l : List Int) (i : Nat) : Prop := ∀ j (hj : j < l.length), i ≤ j → (0 ≤ l[j] ∧ l[j] < n) ∧ ∀ h0 : 0 < j, l[j-1]'(by omega) < l[j]
theorem specCode_l (s : List Int) (hs : SpaceOk s) (l : List Int) (hl : l.length ≤ 4611686018427387904) : ∀ d i : Nat, i + d = l.length → ∃ b : Bool, (b = true ↔ codeFrom (prodL s) l i) ∧ ∀ k, d + 12 ≤ k → spec_l01Code.l0 k l i s = some b
  | 0, i, e => by
    refine ⟨true, ⟨fun _ j hj hi => by omega, fun _ => rfl⟩, fun k hk => ?_⟩
    obtain ⟨k, rfl⟩ : ∃ q, k = q + 1 := ⟨k - 1, by omega⟩
    simp only [spec_l01Code.l0]; rw [if_neg (by omega)]
  | d+1, i, e => by
    have hi : i < l.length := by omega
    have hr := rd_nat l i hi
    have hw : wrap64 ((i : Int) + 1) = ((i + 1 : Nat) : Int) := by rw [w64 (by omega) (by omega)]; omega
    have hP := prodL_le8 s hs.2.2.1 hs.2.1
    obtain ⟨b, hb, g⟩ := specCode_l s hs l hl d (i+1) (by omega)
    have start : ∀ k, 11 ≤ k → spec_l01Code.l0 (k+1) l i s = (spec_l01In.f l[i] 0 (prodL s - 1)).bind fun t130 => (if t130 = true then (if (i : Int) > 0 then (if 0 ≤ (wrap64 ((i : Int) - 1)) then (if (wrap64 ((i : Int) - 1)) < (l.length : Int) then (if l[i] ≤ (rd l (wrap64 ((i : Int) - 1))) then (some false) else (spec_l01Code.l0 k l ((i + 1 : Nat) : Int) s)) else (none)) else (none)) else (spec_l01Code.l0 k l ((i + 1 : Nat) : Int) s)) else (some false)) := by
      intro k hk
      simp only [spec_l01Code.l0]
      rw [if_pos (by omega), if_pos (by omega), specN_ev s hs.2.2.1 hs.2.1 k (by omega), Option.bind_some, hr, w64 (i := prodL s - 1) (by omega) (by omega), hw]
    by_cases hin : 0 ≤ l[i] ∧ l[i] < prodL s
    · have e1 : spec_l01In.f l[i] 0 (prodL s - 1) = some true := by
        unfold spec_l01In.f; rw [if_pos hin.1]; simp; omega
      by_cases h0 : 0 < i
      · have hw1 : wrap64 ((i : Int) - 1) = ((i - 1 : Nat) : Int) := by rw [w64 (by omega) (by omega)]; omega
        have hr1 := rd_nat l (i - 1) (by omega)
        by_cases hle : l[i] ≤ l[i-1]
        · refine ⟨false, ⟨fun h => absurd h (by decide), fun h => ?_⟩, fun k hk => ?_⟩
          · have := (h i hi (by omega)).2 h0; omega
          · obtain ⟨k, rfl⟩ : ∃ q, k = q + 1 := ⟨k - 1, by omega⟩
            rw [start k (by omega), e1, Option.bind_some, if_pos rfl, if_pos (by omega), hw1, if_pos (by omega), if_pos (by omega), hr1, if_pos hle]
        · refine ⟨b, ⟨fun h j hj hij => ?_, fun h => hb.2 fun j hj hij => h j hj (by omega)⟩, fun k hk => ?_⟩
          · by_cases hji : j = i
            · subst hji; exact ⟨hin, fun _ => by omega⟩
            · exact hb.1 h j hj (by omega)
          · obtain ⟨k, rfl⟩ : ∃ q, k = q + 1 := ⟨k - 1, by omega⟩
            rw [start k (by omega), e1, Option.bind_some, if_pos rfl, if_pos (by omega), hw1, if_pos (by omega), if_pos (by omega), hr1, if_neg hle]
            exact g k (by omega)
      · refine ⟨b, ⟨fun h j hj hij => ?_, fun h => hb.2 fun j hj hij => h j hj (by omega)⟩, fun k hk => ?_⟩
        · by_cases hji : j = i
          · subst hji; exact ⟨hin, fun h1 => absurd h1 h0⟩
          · exact hb.1 h j hj (by omega)
        · obtain ⟨k, rfl⟩ : ∃ q, k = q + 1 := ⟨k - 1, by omega⟩
          rw [start k (by omega), e1, Option.bind_some, if_pos rfl, if_neg (by omega)]
          exact g k (by omega)
    · have e1 : spec_l01In.f l[i] 0 (prodL s - 1) = some false := by
        unfold spec_l01In.f
        by_cases h1 : l[i] ≥ 0
        · rw [if_pos h1]; simp; omega
        · rw [if_neg h1]
      refine ⟨false, ⟨fun h => absurd h (by decide), fun h => absurd (h i hi (by omega)).1 hin⟩, fun k hk => ?_⟩
      obtain ⟨k, rfl⟩ : ∃ q, k = q + 1 := ⟨k - 1, by omega⟩
      rw [start k (by omega), e1, Option.bind_some, if_neg (by decide)]
theorem specCode_ev (s : List Int) (hs : SpaceOk s) (l : List Int) (hl : l.length ≤ 4611686018427387904) : ∃ b : Bool, (b = true ↔ CodeOk (prodL s) l) ∧ ∀ k, l.length + 12 ≤ k → spec_l01Code.f k s l = some b := by
  obtain ⟨b, h, g⟩ := specCode_l s hs l hl l.length 0 (by omega)
  exact ⟨b, ⟨fun hb j hj => h.1 hb j hj (by omega), fun hc => h.2 fun j hj _ => hc j hj⟩, fun k hk => by unfold spec_l01Code.f; exact g k (by omega)⟩

theorem setCode_both (s l1 l2 : List Int) (hl1 : l1.length ≤ 1048576) (hl2 : l2.length ≤ 1048576) (a : Int) : (∃ c : Int, c ≠ 0 ∧ ∀ k, 1048700 ≤ k → (∃ c0 : Int, spec_l09Set.f k s l1 l2 = some c0 ∧ (if c0 = 1 then 1 else if 0 ≤ a ∧ a ≤ 8 then c0 else 2) = c) ∧ impl_columnCode.f k s l2 l1 a = some c) ∨ (SpaceOk s ∧ CodeOk (prodL s) l1 ∧ (∀ j (hj : j < l2.length), 0 ≤ l2[j] ∧ l2[j] < prodL s) ∧ l2.length ≤ 8 ∧ 0 ≤ a ∧ a ≤ 8 ∧ ∀ k, 1048700 ≤ k → spec_l09Set.f k s l1 l2 = some 0 ∧ impl_columnCode.f k s l2 l1 a = some 0) := by
  by_cases hs : SpaceOk s
  · obtain ⟨b, hb, g1, g2⟩ := areWords_iff s hs l2 hl2
    obtain ⟨c, hc, g3⟩ := isCode_ev s hs l1 (by omega)
    obtain ⟨c2, hc2, g3s⟩ := specCode_ev s hs l1 (by omega)
    obtain rfl : c = c2 := by rw [Bool.eq_iff_iff, hc, hc2]
    obtain ⟨p, g4⟩ := plain_both s hs.1 hs.2.1
    have hi : ∀ k, 1048700 ≤ k → impl_columnCode.f k s l2 l1 a = some (if (l2.length ≤ 8 ∧ b = true) ∧ c = true ∧ 0 ≤ a ∧ a ≤ 8 then (if p = true then 0 else 5) else 2) := fun k hk => by
      obtain ⟨k, rfl⟩ : ∃ q, k = q + 1 := ⟨k - 1, by omega⟩
      unfold impl_columnCode.f
      rw [implIs_ev s _ (by omega), decide_eq_true hs, Option.bind_some, if_pos rfl]
      by_cases h8 : (l2.length : Int) > 8
      · rw [if_pos h8, if_neg (by omega)]
        simp [impl_columnCode.j0]
      · rw [if_neg h8, g2 _ (by omega), Option.bind_some]
        cases b with
        | false => rw [if_neg (by decide), if_neg (by simp)]; simp [impl_columnCode.j0]
        | true =>
          rw [if_pos rfl, g3 _ (by omega), Option.bind_some]
          cases c with
          | false => rw [if_neg (by decide), if_neg (by simp)]; simp [impl_columnCode.j0]
          | true =>
            rw [if_pos rfl]
            by_cases ha : a < 0
            · rw [if_pos ha, if_neg (by omega)]; simp [impl_columnCode.j0]
            · rw [if_neg ha]
              by_cases ha8 : a > 8
              · rw [decide_eq_true ha8, if_neg (by omega)]; simp [impl_columnCode.j0]
              · rw [decide_eq_false ha8, if_pos (show (l2.length ≤ 8 ∧ true = true) ∧ true = true ∧ 0 ≤ a ∧ a ≤ 8 from ⟨⟨by omega, rfl⟩, rfl, by omega, by omega⟩)]
                simp only [impl_columnCode.j0]
                rw [if_neg (by decide), (g4 k (by omega)).2, Option.bind_some]
                cases p <;> rfl
    have hc9 : ∀ k, 1048700 ≤ k → spec_l09Columns.f k s l2 = some (if l2.length ≤ 8 ∧ b = true then (if p = true then 0 else 5) else 2) := fun k hk => by
      unfold spec_l09Columns.f
      rw [g1 k (by omega), Option.bind_some]
      cases b with
      | false => rw [if_neg (by decide), if_neg (by decide), if_neg (by simp)]
      | true =>
        rw [if_pos rfl, if_pos rfl]
        by_cases h8 : (l2.length : Int) > 8
        · rw [if_pos h8, if_neg (by omega)]
        · have hc8 : l2.length ≤ 8 ∧ true = true := ⟨by omega, rfl⟩
          rw [if_neg h8, (g4 k (by omega)).1, Option.bind_some, if_pos hc8]
          cases p <;> rfl
    obtain ⟨c0, hc0, hne⟩ : ∃ c0 : Int, c0 = (if l2.length ≤ 8 ∧ b = true then (if p = true then 0 else 5) else 2) ∧ c0 ≠ 1 := ⟨_, rfl, by split; split; decide; decide; decide⟩
    have hset : ∀ k, 1048700 ≤ k → spec_l09Set.f k s l1 l2 = some (if c = true then c0 else 2) := fun k hk => by
      unfold spec_l09Set.f
      rw [hc9 k hk, ← hc0, Option.bind_some, if_neg hne, g3s k (by omega), Option.bind_some]
      cases c <;> rfl
    by_cases hok : (l2.length ≤ 8 ∧ b = true) ∧ c = true ∧ 0 ≤ a ∧ a ≤ 8
    · obtain ⟨hok1, hok2, hok3, hok4⟩ := hok
      rw [if_pos hok1] at hc0
      cases p with
      | true =>
        refine .inr ⟨hs, hc.1 hok2, hb.1 hok1.2, hok1.1, hok3, hok4, fun k hk => ⟨?_, ?_⟩⟩
        · rw [hset k hk, if_pos hok2, hc0]; rfl
        · rw [hi k hk, if_pos ⟨hok1, hok2, hok3, hok4⟩]; rfl
      | false =>
        refine .inl ⟨5, by decide, fun k hk => ⟨⟨c0, ?_, ?_⟩, ?_⟩⟩
        · rw [hset k hk, if_pos hok2]
        · rw [hc0, if_neg (by decide), if_pos ⟨hok3, hok4⟩]; rfl
        · rw [hi k hk, if_pos ⟨hok1, hok2, hok3, hok4⟩]; rfl
    · refine .inl ⟨2, by decide, fun k hk => ⟨⟨_, hset k hk, ?_⟩, ?_⟩⟩
      · by_cases h1 : c = true
        · rw [if_pos h1, if_neg hne]
          by_cases h2 : 0 ≤ a ∧ a ≤ 8
          · rw [if_pos h2, hc0, if_neg (fun h => hok ⟨h, h1, h2⟩)]
          · rw [if_neg h2]
        · rw [if_neg h1, if_neg (by decide)]; split <;> rfl
      · rw [hi k hk, if_neg hok]
  · refine .inl ⟨1, by decide, fun k hk => ⟨⟨1, ?_, by rw [if_pos rfl]⟩, ?_⟩⟩
    · unfold spec_l09Set.f spec_l09Columns.f spec_l01Words.f
      rw [specIs_ev s k (by omega), decide_eq_false hs]; rfl
    · unfold impl_columnCode.f
      rw [implIs_ev s k (by omega), decide_eq_false hs]; rfl

theorem word_zeros : ∀ (s : List Int) (acc : Int) (z : Nat), s.length ≤ z → wordI acc s (List.replicate z 0) = acc * prodI s
  | [], acc, z, _ => by simp [wordI, prodI]
  | q :: s, acc, z, h => by
    obtain ⟨z, rfl⟩ : ∃ y, z = y + 1 := ⟨z - 1, by simp at h; omega⟩
    rw [List.replicate_succ]
    simp only [wordI, Int.add_zero, prodI]
    rw [word_zeros s (acc * q) z (by simpa using h), Int.mul_assoc]
theorem word_unit : ∀ (i : Nat) (s : List Int) (z : Nat), i < s.length → s.length ≤ i + 1 + z → wordI 0 s (List.replicate i 0 ++ 1 :: List.replicate z 0) = prodI (s.drop (i + 1))
  | _, [], _, h, _ => by simp at h
  | 0, q :: s, z, h, hz => by
    simp only [List.replicate_zero, List.nil_append, wordI]
    rw [word_zeros s _ z (by simp at hz; omega)]; simp
  | i + 1, q :: s, z, h, hz => by
    rw [List.replicate_succ, List.cons_append]
    simp only [wordI, Int.zero_mul, Int.add_zero]
    rw [word_unit i s z (by simpa using h) (by simp at hz; omega)]
    rfl
theorem unit_rep (i : Nat) (h : i < 8) : unitL i = List.replicate i 0 ++ 1 :: List.replicate (7 - i) 0 := by
  match i, h with
  | 0, _ => rfl
  | 1, _ => rfl
  | 2, _ => rfl
  | 3, _ => rfl
  | 4, _ => rfl
  | 5, _ => rfl
  | 6, _ => rfl
  | 7, _ => rfl
theorem led_l (s : List Int) (hs : ∀ q ∈ s, 2 ≤ q ∧ q ≤ 4) (h8 : s.length ≤ 8) (l : List Int) (hl : s.length ≤ l.length) : ∀ d i : Nat, i + d = s.length → ∃ b : Bool, (b = true ↔ ∀ j, i ≤ j → j < s.length → rd l (j : Int) = wordI 0 s (unitL j)) ∧ ∀ k, d + 1 ≤ k → spec_l09Led.l0 k l (prodL (s.drop i)) s.length i s = some b
  | 0, i, e => by
    refine ⟨true, ⟨fun _ j hj hi => by omega, fun _ => rfl⟩, fun k hk => ?_⟩
    obtain ⟨k, rfl⟩ : ∃ q, k = q + 1 := ⟨k - 1, by omega⟩
    simp only [spec_l09Led.l0]; rw [if_neg (by omega)]
  | d+1, i, e => by
    have hi : i < s.length := by omega
    have hr := rd_nat s i hi
    have hw : wrap64 ((i : Int) + 1) = ((i + 1 : Nat) : Int) := by rw [w64 (by omega) (by omega)]; omega
    obtain ⟨b, hb, g⟩ := led_l s hs h8 l hl d (i+1) (by omega)
    have hq := hs _ (List.getElem_mem hi)
    have hdrop : s.drop i = s[i] :: s.drop (i + 1) := List.drop_eq_getElem_cons hi
    obtain ⟨p1, p2⟩ := prodL_le8 (s.drop (i + 1)) (fun q h => hs q (List.mem_of_mem_drop h)) (by rw [List.length_drop]; omega)
    have hdiv : wrap64 (Int.tdiv (prodL (s.drop i)) s[i]) = prodL (s.drop (i + 1)) := by
      rw [hdrop]
      simp only [prodL]
      rw [Int.mul_tdiv_cancel_left _ (by omega), w64 (by omega) (by omega)]
    have hun : wordI 0 s (unitL i) = prodL (s.drop (i + 1)) := by
      rw [unit_rep i (by omega), word_unit i s (7 - i) hi (by omega), prodI_eq]
    have start : ∀ k, spec_l09Led.l0 (k+1) l (prodL (s.drop i)) s.length i s = if rd l (i : Int) = prodL (s.drop (i + 1)) then spec_l09Led.l0 k l (prodL (s.drop (i + 1))) s.length ((i + 1 : Nat) : Int) s else some false := by
      intro k
      simp only [spec_l09Led.l0]
      rw [if_pos (by omega), if_pos (by omega), if_pos (by omega), hr, if_neg (by omega), if_pos (by omega), hdiv, hw]
    by_cases h1 : rd l (i : Int) = prodL (s.drop (i + 1))
    · refine ⟨b, ⟨fun h j hij hj => ?_, fun h => hb.2 fun j hij hj => h j (by omega) hj⟩, fun k hk => ?_⟩
      · by_cases hji : j = i
        · subst hji; rw [h1, hun]
        · exact hb.1 h j (by omega) hj
      · obtain ⟨k, rfl⟩ : ∃ q, k = q + 1 := ⟨k - 1, by omega⟩
        rw [start, if_pos h1]
        exact g k (by omega)
    · refine ⟨false, ⟨fun h => absurd h (by decide), fun h => absurd (h i (by omega) hi) (by rw [hun]; exact h1)⟩, fun k hk => ?_⟩
      obtain ⟨k, rfl⟩ : ∃ q, k = q + 1 := ⟨k - 1, by omega⟩
      rw [start, if_neg h1]
theorem led_both (s : List Int) (hs : SpaceOk s) (l : List Int) : ∃ b : Bool, ∀ k, 30 ≤ k → spec_l09Led.f k s l = some b ∧ impl_areLed.f k s l = some b := by
  have h8 := hs.2.1
  have hok : okS s = true := (okS_iff s).2 ⟨h8, hs.2.2.1⟩
  by_cases hlen : l.length < s.length
  · refine ⟨false, fun k hk => ⟨?_, ?_⟩⟩
    · unfold spec_l09Led.f; rw [if_pos (by omega)]
    · unfold impl_areLed.f ledB
      have : decide (s.length ≤ l.length) = false := by simp; omega
      rw [if_pos hok, this]; rfl
  · obtain ⟨b, hb, g⟩ := led_l s hs.2.2.1 h8 l (by omega) s.length 0 (by omega)
    refine ⟨b, fun k hk => ⟨?_, ?_⟩⟩
    · unfold spec_l09Led.f
      rw [if_neg (by omega), specN_ev s hs.2.2.1 h8 k (by omega), Option.bind_some]
      exact g k (by omega)
    · unfold impl_areLed.f ledB
      rw [if_pos hok, decide_eq_true (by omega), Bool.true_and]
      congr 1
      rw [Bool.eq_iff_iff, hb, List.all_eq_true]
      simp only [List.mem_range, beq_iff_eq]
      exact ⟨fun h j _ hj => h j hj, fun h j hj => h j (by omega) hj⟩

section
variable (s : List Int) (hs : ∀ q ∈ s, 2 ≤ q ∧ q ≤ 4) (h8 : s.length ≤ 8) (cs : List Int) (hcs : ∀ c ∈ cs, 0 ≤ c ∧ c < prodL s) (y : List Int) (I : List Bool) (hI : (I.length : Int) = prodL s)
include hs h8 hcs
theorem csp3 (out dg : List Int) (w : Int) (ci : Nat) (hci : ci < cs.length) (n : Int) (r : List Int × List Int × Int) : ∀ (d : Nat) (u : Int), d ≤ 1000 → 0 ≤ u → u < prodL s → Ev (fun k => spec_CodeByColumns.l2 k cs I out w dg (sumN s (cs[ci]) d u) n (wrap64 ((ci : Int) + 1)) s y) r → Ev (fun k => spec_CodeByColumns.l3 k cs I out w dg u (ci : Int) (d : Int) n (ci : Int) s y) r
  | 0, u, _, h0, h1, h => Ev.step h fun k => by
    simp only [spec_CodeByColumns.l3]
    rw [if_neg (by omega)]; rfl
  | d + 1, u, hd, h0, h1, h => by
    have hp := prodL_le8 s hs h8
    have hc := hcs _ (List.getElem_mem hci)
    have hb := sumW_bound s hs u cs[ci]
    obtain ⟨K, hK⟩ := csp3 out dg w ci hci n r d (sumW s u cs[ci]) (by omega) hb.1 hb.2 h
    refine ⟨K + 31, fun k hk => ?_⟩
    obtain ⟨k, rfl⟩ : ∃ q, k = q + 1 := ⟨k - 1, by omega⟩
    show spec_CodeByColumns.l3 (k + 1) _ _ _ _ _ _ _ _ _ _ _ _ = _
    simp only [spec_CodeByColumns.l3]
    rw [if_pos (by omega), if_pos (by omega), if_pos (by omega), rd_nat cs ci hci, specSum_ev s hs h8 u _ h0 (by omega) hc.1 (by omega) k (by omega), Option.bind_some, w64 (by omega) (by omega), show ((d + 1 : Nat) : Int) - 1 = (d : Int) by omega]
    exact hK k (by omega)
include hI
theorem csp2 (out : List Int) (w : Nat) (hw : w < 1000000) (hout : out.length ≤ 1000000) (hy : ∀ q ∈ y, 2 ≤ q ∧ q ≤ 4) (hyl : y.length = cs.length) (hc8 : cs.length ≤ 8) (r : List Int × List Int × Int) : ∀ (d i : Nat) (u : Int), i + d = cs.length → 0 ≤ u → u < prodL s →
    Ev (fun k => spec_CodeByColumns.l1 k cs I (if rdOf false I (colS s (fun i => (rd (digL y (w : Int)) (i : Int)).toNat) (cs.drop i) i u) = true then out ++ [(w : Int)] else out) ((w : Int) + 1) s y) r → Ev (fun k => spec_CodeByColumns.l2 k cs I out (w : Int) (digL y (w : Int)) u (cs.length : Int) (i : Int) s y) r
  | 0, i, u, e, h0, h1, h => by
    obtain rfl : i = cs.length := by omega
    rw [List.drop_length] at h
    replace h : Ev (fun k => spec_CodeByColumns.l1 k cs I (if rdOf false I u = true then out ++ [(w : Int)] else out) ((w : Int) + 1) s y) r := h
    refine Ev.step h fun k => ?_
    simp only [spec_CodeByColumns.l2]
    rw [if_neg (by omega), if_pos h0, if_pos (by omega), w64 (by omega) (by omega)]
    by_cases hb : rdOf false I u = true
    · rw [if_pos hb, if_pos hb, if_pos (by omega)]
    · rw [if_neg hb, if_neg hb]
  | d + 1, i, u, e, h0, h1, h => by
    have hi : i < cs.length := by omega
    have hg := digL_get y hy (w : Int) i (by omega)
    have hq := size_at y hy i (by omega)
    have hn : (rd (digL y (w : Int)) (i : Int)) = ((rd (digL y (w : Int)) (i : Int)).toNat : Int) := by omega
    have hb := sumN_bound s hs cs[i] (rd (digL y (w : Int)) (i : Int)).toNat u h0 h1
    have hl := digL_len y (w : Int)
    rw [List.drop_eq_getElem_cons hi] at h
    simp only [colS] at h
    have h2 := csp2 out w hw hout hy hyl hc8 r d (i + 1) _ (by omega) hb.1 hb.2 h
    have h3 := csp3 s hs h8 cs hcs y I out (digL y (w : Int)) (w : Int) i hi (cs.length : Int) r (rd (digL y (w : Int)) (i : Int)).toNat u (by omega) h0 h1 (by rw [w64 (by omega) (by omega)]; exact h2)
    refine Ev.step h3 fun k => ?_
    simp only [spec_CodeByColumns.l2]
    rw [if_pos (by omega), if_pos (by omega), if_pos (by omega), ← hn]
theorem csp1 (hy : ∀ q ∈ y, 2 ≤ q ∧ q ≤ 4) (hyl : y.length = cs.length) (hc8 : cs.length ≤ 8) : ∀ (d w : Nat) (out : List Int), (w : Int) + d = prodL y → out.length ≤ w →
    Ev (fun k => spec_CodeByColumns.l1 k cs I out (w : Int) s y) (y, out ++ colOut s cs I y w d, 0)
  | 0, w, out, e, ho => by
    refine ⟨20, fun k hk => ?_⟩
    obtain ⟨k, rfl⟩ : ∃ q, k = q + 1 := ⟨k - 1, by omega⟩
    show spec_CodeByColumns.l1 (k + 1) _ _ _ _ _ _ = _
    simp only [spec_CodeByColumns.l1]
    rw [specN_ev y hy (by omega) k (by omega), Option.bind_some, if_neg (by omega)]
    simp [colOut]
  | d + 1, w, out, e, ho => by
    have hpy := prodL_le8 y hy (by omega)
    have hp := prodL_le8 s hs h8
    have key : ∀ out' : List Int, out'.length ≤ w + 1 → out' ++ colOut s cs I y (w + 1) d = out ++ colOut s cs I y w (d + 1) → Ev (fun k => spec_CodeByColumns.l1 k cs I out' ((w : Int) + 1) s y) (y, out ++ colOut s cs I y w (d + 1), 0) := fun out' hl he => by
      have := csp1 hy hyl hc8 d (w + 1) out' (by omega) hl
      rw [he] at this
      exact this
    have h2 := csp2 s hs h8 cs hcs y I hI out w (by omega) (by omega) hy hyl hc8 (y, out ++ colOut s cs I y w (d + 1), 0) cs.length 0 0 (by omega) (by omega) (by omega) (by
      rw [List.drop_zero]
      have hstep : colOut s cs I y w (d + 1) = (if rdOf false I (colS s (fun i => (rd (digL y (w : Int)) (i : Int)).toNat) cs 0 0) = true then [(w : Int)] else []) ++ colOut s cs I y (w + 1) d := by
        unfold colOut
        rw [List.range'_succ, List.filter_cons]
        by_cases hb : rdOf false I (colS s (fun i => (rd (digL y (w : Int)) (i : Int)).toNat) cs 0 0) = true
        · rw [if_pos hb, if_pos hb]; rfl
        · rw [if_neg hb, if_neg hb]; rfl
      by_cases hb : rdOf false I (colS s (fun i => (rd (digL y (w : Int)) (i : Int)).toNat) cs 0 0) = true
      · rw [if_pos hb] at hstep ⊢
        exact key _ (by rw [List.length_append, List.length_singleton]; omega) (by rw [hstep, List.append_assoc])
      · rw [if_neg hb] at hstep ⊢
        exact key _ (by omega) (by rw [hstep, List.nil_append]))
    obtain ⟨K, h2⟩ := h2
    refine ⟨K + 20, fun k hk => ?_⟩
    obtain ⟨k, rfl⟩ : ∃ q, k = q + 1 := ⟨k - 1, by omega⟩
    show spec_CodeByColumns.l1 (k + 1) _ _ _ _ _ _ = _
    simp only [spec_CodeByColumns.l1]
    rw [specN_ev y hy (by omega) k (by omega), Option.bind_some, if_pos (by omega), specDigits_ev y hy (by omega) (w : Int) (by omega) (by omega) k (by omega), Option.bind_some, digL_len, hyl]
    exact h2 k (by omega)
end
theorem set05_l (l : List Int) (hl : l.length ≤ 1048576) (P : Int) (hw : ∀ n ∈ l, 0 ≤ n ∧ n < P) : ∀ d i : Nat, i + d = l.length → ∀ h : List Bool, (h.length : Int) = P → ∀ k, d < k → spec_l05Set.l0 k l h (l.length : Int) (i : Int) = some (setsB h (l.drop i))
  | 0, i, e, h, hh, k, hk => by
    obtain ⟨k, rfl⟩ : ∃ q, k = q + 1 := ⟨k - 1, by omega⟩
    simp only [spec_l05Set.l0]
    rw [if_neg (by omega), List.drop_of_length_le (by omega)]; rfl
  | d + 1, i, e, h, hh, k, hk => by
    obtain ⟨k, rfl⟩ : ∃ q, k = q + 1 := ⟨k - 1, by omega⟩
    have hi : i < l.length := by omega
    have h1 := hw _ (List.getElem_mem hi)
    simp only [spec_l05Set.l0]
    rw [if_pos (by omega), if_pos (by omega), if_pos (by omega), rd_nat l i hi, if_pos h1.1, if_pos (by omega), w64 (by omega) (by omega), show (i : Int) + 1 = ((i + 1 : Nat) : Int) by omega, set05_l l hl P hw d (i + 1) (by omega) _ (by rw [List.length_set]; exact hh) k (by omega), List.drop_eq_getElem_cons hi]
    rfl
theorem set05_ev (s : List Int) (hs : SpaceOk s) (l : List Int) (hl : l.length ≤ 1048576) (hw : ∀ n ∈ l, 0 ≤ n ∧ n < prodL s) (k : Nat) (hk : l.length + 20 ≤ k) : spec_l05Set.f k s l = some (setsB (List.replicate (prodL s).toNat false) l) := by
  have hP := prodL_le8 s hs.2.2.1 hs.2.1
  unfold spec_l05Set.f
  rw [specN_ev s hs.2.2.1 hs.2.1 k (by omega), Option.bind_some, if_pos (by omega), if_pos (by omega)]
  have h := set05_l l hl (prodL s) hw l.length 0 (by omega) (List.replicate (prodL s).toNat false) (by rw [List.length_replicate]; omega) k (by omega)
  rw [List.drop_zero] at h
  exact h
theorem csp0 (s l1 cs : List Int) (h0 : 0 < s.length) (hc8 : cs.length ≤ 8) (r : List Int × List Int × Int) : ∀ d i : Nat, i + d = cs.length → Ev (fun k => (spec_l01Is.f k (List.replicate cs.length (rd s 0))).bind fun t => (if t = true then ((spec_l05Set.f k s l1).bind fun t200 => (spec_CodeByColumns.l1 k cs t200 ([] : List Int) 0 s (List.replicate cs.length (rd s 0)))) else (some (([] : List Int), ([] : List Int), 3)))) r → Ev (fun k => spec_CodeByColumns.l0 k l1 cs (cs.length : Int) (i : Int) s (List.replicate i (rd s 0))) r
  | 0, i, e, h => by
    obtain rfl : i = cs.length := by omega
    refine Ev.step h fun k => ?_
    simp only [spec_CodeByColumns.l0]
    rw [if_neg (by omega)]
  | d + 1, i, e, h => by
    refine Ev.step (csp0 s l1 cs h0 hc8 r d (i + 1) (by omega) h) fun k => ?_
    simp only [spec_CodeByColumns.l0]
    rw [if_pos (by omega), if_pos (by omega), if_pos (by rw [List.length_replicate]; omega), w64 (by omega) (by omega), ← List.replicate_succ']
    rfl
theorem colOut_len (s cs : List Int) (I : List Bool) (y : List Int) (a b : Nat) : (colOut s cs I y a b).length ≤ b := by
  unfold colOut
  rw [List.length_map]
  have := List.length_filter_le (fun w : Nat => rdOf false I (colS s (fun i => (rd (digL y (w : Int)) (i : Int)).toNat) cs 0 0)) (List.range' a b)
  rw [List.length_range'] at this
  exact this
theorem cols_both (s l1 l2 : List Int) (hl1 : l1.length ≤ 1048576) (hl2 : l2.length ≤ 1048576) : ∃ (G H : List Int) (e : Int), G.length ≤ 1048576 ∧ H.length ≤ 1048576 ∧ Ev (fun k => spec_CodeByColumns.f k s l1 l2) (G, H, e) ∧ Ev (fun k => impl_CodeByColumns.f k s l1 l2) (G, H, e) := by
  obtain ⟨N, hN⟩ : ∃ N : Nat, 1100000 ≤ N := ⟨1100000, Nat.le_refl _⟩
  rcases setCode_both s l1 l2 hl1 hl2 0 with ⟨c, hc, g⟩ | ⟨hs, hcode, hcw, hc8, _, _, g⟩
  · refine ⟨[], [], c, by simp, by simp, ⟨N + 2, fun k hk => ?_⟩, ⟨N, fun k hk => ?_⟩⟩
    · obtain ⟨k, rfl⟩ : ∃ q, k = q + 2 := ⟨k - 2, by omega⟩
      obtain ⟨⟨c0, g1, g2⟩, _⟩ := g (k + 2) (by omega)
      obtain rfl : c0 = c := by
        by_cases h1 : c0 = 1
        · rw [if_pos h1] at g2; omega
        · rw [if_neg h1, if_pos (by omega)] at g2; exact g2
      show spec_CodeByColumns.f (k + 2) s l1 l2 = _
      unfold spec_CodeByColumns.f
      rw [g1, Option.bind_some, if_neg hc]
      simp only [spec_CodeByColumns.j0]
      rw [if_neg (by decide)]
      simp only [spec_CodeByColumns.j1]
      rw [if_neg hc]
    · show impl_CodeByColumns.f k s l1 l2 = _
      unfold impl_CodeByColumns.f
      rw [(g k (by omega)).2, Option.bind_some, if_neg hc]
  have hs8 := hs.2.1
  have hs3 := hs.2.2.1
  have h1 := hs.1
  have hcs : ∀ c ∈ l2, 0 ≤ c ∧ c < prodL s := fun c hc => by
    obtain ⟨j, hj, rfl⟩ := List.mem_iff_getElem.1 hc
    exact hcw j hj
  obtain ⟨z, hz⟩ := led_both s hs l2
  cases z with
  | false =>
    refine ⟨[], [], 5, by simp, by simp, ⟨N + 2, fun k hk => ?_⟩, ⟨N, fun k hk => ?_⟩⟩
    · obtain ⟨k, rfl⟩ : ∃ q, k = q + 2 := ⟨k - 2, by omega⟩
      show spec_CodeByColumns.f (k + 2) s l1 l2 = _
      unfold spec_CodeByColumns.f
      rw [(g _ (by omega)).1, Option.bind_some, if_pos rfl, (hz _ (by omega)).1, Option.bind_some]
      simp only [spec_CodeByColumns.j0]
      rw [if_pos (by decide)]
      simp only [spec_CodeByColumns.j1]
      rw [if_neg (by decide)]
    · show impl_CodeByColumns.f k s l1 l2 = _
      unfold impl_CodeByColumns.f
      rw [(g k (by omega)).2, Option.bind_some, if_pos rfl, (hz k (by omega)).2, Option.bind_some, if_neg (by decide)]
  | true =>
    have hq := size_at s hs3 0 (by omega)
    obtain ⟨y, hy⟩ : ∃ y, y = List.replicate l2.length (rd s 0) := ⟨_, rfl⟩
    have hyl : y.length = l2.length := by rw [hy, List.length_replicate]
    have hrep : ∀ k, slices_Repeat_int64_int64.f k [rd s 0] (l2.length : Int) = some y := fun k => by
      unfold slices_Repeat_int64_int64.f
      rw [if_pos (show [rd s 0].length = 1 from rfl), if_pos (by omega), if_pos (by omega), hy]
      rfl
    have hspec : ∀ r, Ev (fun k => (spec_l01Is.f k y).bind fun t => (if t = true then ((spec_l05Set.f k s l1).bind fun t200 => (spec_CodeByColumns.l1 k l2 t200 ([] : List Int) 0 s y)) else (some (([] : List Int), ([] : List Int), 3)))) r → Ev (fun k => spec_CodeByColumns.f k s l1 l2) r := fun r h => by
      rw [hy] at h
      obtain ⟨K, h⟩ := csp0 s l1 l2 (by omega) hc8 r l2.length 0 (by omega) h
      refine ⟨N + K + 2, fun k hk => ?_⟩
      obtain ⟨k, rfl⟩ : ∃ q, k = q + 2 := ⟨k - 2, by omega⟩
      show spec_CodeByColumns.f (k + 2) s l1 l2 = _
      unfold spec_CodeByColumns.f
      rw [(g _ (by omega)).1, Option.bind_some, if_pos rfl, (hz _ (by omega)).1, Option.bind_some]
      simp only [spec_CodeByColumns.j0]
      rw [if_neg (by decide)]
      simp only [spec_CodeByColumns.j1]
      rw [if_pos trivial]
      exact h k (by omega)
    have himpl : ∀ k, N ≤ k → impl_CodeByColumns.f k s l1 l2 = (impl_limitedSpace.f k y).bind fun y => if y.2 = true then
        (impl_marks.f k s l1).bind fun I => (impl_digitsOfAll.f k s l2).bind fun L => (impl_allDigits.f k y.1).bind fun D =>
          if L.length ≤ 8 ∧ D.length ≤ 1000000 ∧ ∀ j, j < D.length → (colF k s L I (rd_T82 D (j : Int))).isSome = true ∧ ∀ i : Nat, i < 8 → 0 ≤ rd (dlist (rd_T82 D (j : Int))) (i : Int) ∧ rd (dlist (rd_T82 D (j : Int))) (i : Int) ≤ 255 then
            some (y.1, thoseV (fun d => (colF k s L I d).getD false) D D.length, 0) else none
      else some ([], [], 3) := fun k hk => by
      unfold impl_CodeByColumns.f
      rw [(g k (by omega)).2, Option.bind_some, if_pos rfl, (hz k (by omega)).2, Option.bind_some, if_pos rfl, if_pos (by omega), hrep, Option.bind_some]
    by_cases hyo : SpaceOk y
    rotate_left
    · refine ⟨[], [], 3, by simp, by simp, hspec _ ⟨N, fun k hk => ?_⟩, ⟨N, fun k hk => ?_⟩⟩
      · dsimp only
        rw [specIs_ev y k (by omega), decide_eq_false hyo, Option.bind_some, if_neg (by decide)]
      · show impl_CodeByColumns.f k s l1 l2 = _
        rw [himpl k hk]
        unfold impl_limitedSpace.f
        rw [implIs_ev y k (by omega), decide_eq_false hyo, Option.bind_some, Option.bind_some]
        exact if_neg (show ¬ (false = true) by decide)
    have hy3 := hyo.2.2.1
    have hy4 := hyo.2.2.2
    have hpy := prodL_le8 y hy3 (by omega)
    have hps := prodL_le8 s hs3 hs8
    have hset := code_words' hcode (by omega) hs.2.2.2
    obtain ⟨I, hI⟩ : ∃ I, I = setsB (List.replicate (prodL s).toNat false) l1 := ⟨_, rfl⟩
    have hIl : (I.length : Int) = prodL s := by rw [hI, setsB_len, List.length_replicate]; omega
    have hlen := colOut_len s l2 I y 0 (prodL y).toNat
    refine ⟨y, colOut s l2 I y 0 (prodL y).toNat, 0, by omega, by omega, hspec _ ?_, ⟨N, fun k hk => ?_⟩⟩
    · obtain ⟨K, h⟩ := csp1 s hs3 hs8 l2 hcs y I hIl hy3 hyl hc8 (prodL y).toNat 0 [] (by omega) (by simp)
      refine ⟨N + K, fun k hk => ?_⟩
      dsimp only
      rw [specIs_ev y k (by omega), decide_eq_true hyo, Option.bind_some, if_pos rfl, set05_ev s hs l1 hl1 hset.1 k (by omega), Option.bind_some, ← hI]
      exact h k (by omega)
    · show impl_CodeByColumns.f k s l1 l2 = _
      rw [himpl k hk]
      unfold impl_limitedSpace.f
      rw [implIs_ev y k (by omega), decide_eq_true hyo, Option.bind_some, Option.bind_some]
      dsimp only
      rw [if_pos rfl, marks_ev s hs l1 hl1 hset.1 k (by omega), Option.bind_some, ← hI, digAll_ev s hs3 hs8 l2 (fun w hw => by have := hcs w hw; omega) hl2 k (by omega), Option.bind_some, allDig_ev y hy3 (by omega) k (by omega), Option.bind_some, thoseV_ev s hs3 hs8 k l2 I hIl y (by omega) (by omega)]
      have hwl : ((words y).map (D8 y)).length = (prodL y).toNat := by unfold words; rw [List.length_map, List.length_map, List.length_range]
      refine if_pos ⟨by rw [List.length_map]; exact hc8, by omega, fun j hj => ?_⟩
      have hj2 : j < (words y).length := by rwa [List.length_map] at hj
      rw [rd_T_map y _ j hj2]
      exact ⟨by rw [colF_ev s hs3 hs8 k l2 I hIl]; rfl, dlist_byte y hy3 _⟩

theorem eq_l (l : List Int) (hl : l.length ≤ 4611686018427387904) : ∀ d i : Nat, i + d = l.length → ∀ k, d < k → laws_eqInt64S.l0 k l l i = some true
  | 0, i, e, k, hk => by
    obtain ⟨k, rfl⟩ : ∃ q, k = q + 1 := ⟨k - 1, by omega⟩
    simp only [laws_eqInt64S.l0]; rw [if_neg (by omega)]
  | d+1, i, e, k, hk => by
    obtain ⟨k, rfl⟩ : ∃ q, k = q + 1 := ⟨k - 1, by omega⟩
    simp only [laws_eqInt64S.l0]
    rw [if_pos (by omega), if_pos (by omega), if_pos (by omega), if_pos trivial, w64 (by omega) (by omega), show (i : Int) + 1 = ((i + 1 : Nat) : Int) by omega]
    exact eq_l l hl d (i+1) (by omega) k (by omega)
theorem eq_ev (l : List Int) (hl : l.length ≤ 4611686018427387904) (k : Nat) (hk : l.length < k) : laws_eqInt64S.f k l l = some true := by
  unfold laws_eqInt64S.f
  rw [if_pos rfl]
  exact eq_l l hl l.length 0 (by omega) k hk

theorem to_l (l : List Int) (hl : l.length ≤ 4611686018427387904) : ∀ (B A : List Int), l = A ++ B → ∀ k, B.length < k → laws_toInt64S.l0 k l (A ++ List.replicate B.length 0) A.length = some l
  | [], A, e, k, hk => by
    obtain ⟨k, rfl⟩ : ∃ q, k = q + 1 := ⟨k - 1, by simp at hk; omega⟩
    simp only [laws_toInt64S.l0]
    simp at e
    subst e
    rw [if_neg (by omega)]; simp
  | b :: B, A, e, k, hk => by
    obtain ⟨k, rfl⟩ : ∃ q, k = q + 1 := ⟨k - 1, by simp at hk; omega⟩
    simp only [laws_toInt64S.l0]
    have hlen : l.length = A.length + (B.length + 1) := by rw [e]; simp
    rw [if_pos (by omega), if_pos (by omega), if_pos (by simp; omega)]
    have hb : rd l (A.length : Int) = b := by rw [e]; exact rd_mid A B b
    rw [hb, List.length_cons, List.replicate_succ, Int.toNat_natCast, set_mid, w64 (by omega) (by omega), show (A.length : Int) + 1 = ((A ++ [b]).length : Int) by simp]
    exact to_l l hl B (A ++ [b]) (by rw [e]; simp) k (by simp at hk; omega)
theorem to_ev (l : List Int) (hl : l.length ≤ 1048576) (k : Nat) (hk : 1048576 < k) : laws_toInt64S.f k l = some l := by
  unfold laws_toInt64S.f
  rw [if_pos (by omega), if_pos (by omega), Int.toNat_natCast]
  exact to_l l (by omega) l [] rfl k (by omega)

theorem sz_le (l : List Int) (h : l.length ≤ 1048576) : ∃ z : Int, laws_szSpace.f l 1048576 = some z ∧ ¬ z < 0 := by
  unfold laws_szSpace.f laws_szInt64S.f
  rw [w64 (by omega) (by omega), if_neg (by omega)]
  simp only [Option.bind_some]
  rw [if_neg (by omega)]
  exact ⟨_, rfl, by omega⟩
theorem sz_gt (l : List Int) (h : 1048576 < l.length) (hm : l.length ≤ 9223372036854775807) : ∃ z : Int, laws_szSpace.f l 1048576 = some z ∧ z < 0 := by
  unfold laws_szSpace.f laws_szInt64S.f
  rw [w64 (by omega) (by omega), if_pos (by omega)]
  exact ⟨-1, rfl, by omega⟩
theorem toSp_ev (l : List Int) (hl : l.length ≤ 1048576) (k : Nat) (hk : 1048576 < k) : laws_toSpace.f k l = some l := by
  unfold laws_toSpace.f
  rw [to_ev l hl k hk]; rfl
theorem eqSp_ev (l : List Int) (hl : l.length ≤ 4611686018427387904) (k : Nat) (hk : l.length < k) : laws_eqSpace.f k l l = some true := by
  unfold laws_eqSpace.f
  rw [eq_ev l hl k hk]; rfl

theorem seqI_len (s : Int) (n : Nat) : (seqI s n).length = n := by
  induction n generalizing s with
  | zero => rfl
  | succ n ih => simp [seqI, ih]
theorem mark_l : ∀ (B A : List Int) (s : Int), 0 ≤ s → s + B.length ≤ 4611686018427387904 → A.length + B.length ≤ 4611686018427387904 → ∀ k, B.length < k → laws_markInt64S.l0 k (A ++ B) s A.length = some (s + B.length, A ++ seqI s B.length)
  | [], A, s, h0, h1, h2, k, hk => by
    obtain ⟨k, rfl⟩ : ∃ q, k = q + 1 := ⟨k - 1, by simp at hk; omega⟩
    simp only [laws_markInt64S.l0]
    rw [if_neg (by simp)]; simp [seqI]
  | b :: B, A, s, h0, h1, h2, k, hk => by
    obtain ⟨k, rfl⟩ : ∃ q, k = q + 1 := ⟨k - 1, by simp at hk; omega⟩
    simp only [laws_markInt64S.l0]
    simp only [List.length_cons] at h1 h2 hk
    rw [if_pos (by simp; omega), if_pos (by omega), Int.toNat_natCast, set_mid, w64 (by omega) (by omega), w64 (by omega) (by omega), show (A.length : Int) + 1 = ((A ++ [s]).length : Int) by simp]
    rw [mark_l B (A ++ [s]) (s+1) (by omega) (by omega) (by simp; omega) k (by omega)]
    simp only [List.length_cons, seqI, List.append_assoc, List.singleton_append]
    congr 2
    omega
theorem held_l : ∀ (n : Nat) (A : List Int) (s : Int), 0 ≤ s → s + n ≤ 4611686018427387904 → A.length + n ≤ 4611686018427387904 → ∀ k, n < k → laws_heldInt64S.l0 k (A ++ seqI s n) s A.length = some (s + n)
  | 0, A, s, h0, h1, h2, k, hk => by
    obtain ⟨k, rfl⟩ : ∃ q, k = q + 1 := ⟨k - 1, by omega⟩
    simp only [laws_heldInt64S.l0]
    rw [if_neg (by simp [seqI])]; simp
  | n+1, A, s, h0, h1, h2, k, hk => by
    obtain ⟨k, rfl⟩ : ∃ q, k = q + 1 := ⟨k - 1, by omega⟩
    show laws_heldInt64S.l0 (k+1) (A ++ s :: seqI (s+1) n) s A.length = _
    simp only [laws_heldInt64S.l0]
    rw [if_pos (by simp; omega), if_pos (by omega), rd_mid, if_pos rfl, w64 (by omega) (by omega), w64 (by omega) (by omega), show (A.length : Int) + 1 = ((A ++ [s]).length : Int) by simp]
    have := held_l n (A ++ [s]) (s+1) (by omega) (by omega) (by simp; omega) k (by omega)
    rw [List.append_assoc, List.singleton_append] at this
    rw [this]
    congr 1; omega
theorem mark_held (l : List Int) (hl : l.length ≤ 1048576) (k : Nat) (hk : 1048576 < k) : ∃ l', laws_markInt64S.f k l 1 = some (1 + (l.length : Int), l') ∧ ∀ k, 1048576 < k → laws_heldInt64S.f k l' 1 = some (1 + (l.length : Int)) := by
  refine ⟨seqI 1 l.length, ?_, fun k hk => ?_⟩
  · unfold laws_markInt64S.f
    exact mark_l l [] 1 (by omega) (by omega) (by simp; omega) k (by omega)
  · unfold laws_heldInt64S.f
    exact held_l l.length [] 1 (by omega) (by omega) (by simp; omega) k (by omega)

/-- Marks from any start, and what is held then. -/
theorem mark_gen (l : List Int) (hl : l.length ≤ 1048576) (s : Int) (h0 : 0 ≤ s) (h1 : s ≤ 16777216) (k : Nat) (hk : 1048576 < k) : laws_markInt64S.f k l s = some (s + (l.length : Int), seqI s l.length) := by
  unfold laws_markInt64S.f
  exact mark_l l [] s h0 (by omega) (by simp; omega) k (by omega)
theorem held_gen (n : Nat) (hl : n ≤ 1048576) (s : Int) (h0 : 0 ≤ s) (h1 : s ≤ 16777216) (k : Nat) (hk : 1048576 < k) : laws_heldInt64S.f k (seqI s n) s = some (s + (n : Int)) := by
  unfold laws_heldInt64S.f
  exact held_l n [] s h0 (by omega) (by simp; omega) k (by omega)
theorem markS_gen (l : List Int) (hl : l.length ≤ 1048576) (s : Int) (h0 : 0 ≤ s) (h1 : s ≤ 16777216) (k : Nat) (hk : 1048576 < k) : laws_markSpace.f k l s = some (s + (l.length : Int), seqI s l.length) := by
  unfold laws_markSpace.f
  rw [mark_gen l hl s h0 h1 k hk]; rfl
theorem heldS_gen (n : Nat) (hl : n ≤ 1048576) (s : Int) (h0 : 0 ≤ s) (h1 : s ≤ 16777216) (k : Nat) (hk : 1048576 < k) : laws_heldSpace.f k (seqI s n) s = some (s + (n : Int)) := by
  unfold laws_heldSpace.f
  rw [held_gen n hl s h0 h1 k hk, Option.bind_some, if_neg (by omega)]

theorem sz_from (l : List Int) (z : Int) (h0 : 0 ≤ z) (h1 : z ≤ 1048576) (hl : l.length ≤ 9223372036854775807) : (z < (l.length : Int) ∧ laws_szSpace.f l z = some (-1)) ∨ ((l.length : Int) ≤ z ∧ laws_szSpace.f l z = some (z - (l.length : Int))) := by
  unfold laws_szSpace.f laws_szInt64S.f
  rw [w64 (by omega) (by omega)]
  by_cases h : z < (l.length : Int)
  · refine .inl ⟨h, ?_⟩
    rw [if_pos (by omega)]; rfl
  · refine .inr ⟨by omega, ?_⟩
    rw [if_neg (by omega), Option.bind_some, if_neg (by omega)]
theorem FnExactCodeByColumns (l0 : List Int) (hm0 : l0.length ≤ maxLen) (_ : ∀ x ∈ l0, (Lit.int .i64 x).wf = true) (l1 : List Int) (_ : l1.length ≤ maxLen) (_ : l1.length * 8 ≤ 140737488351232) (_ : ∀ x ∈ l1, (Lit.int .i64 x).wf = true) (l2 : List Int) (_ : l2.length ≤ maxLen) (_ : l2.length * 8 ≤ 140737488351232) (_ : ∀ x ∈ l2, (Lit.int .i64 x).wf = true) : ∃ k, JGood k l0 l1 l2 := by
  unfold maxLen at hm0
  by_cases c1 : (l1.length : Int) > 1048576
  · exact ⟨0, .inl c1⟩
  by_cases c2 : (l2.length : Int) > 1048576
  · exact ⟨0, .inr (.inl ⟨c1, c2⟩)⟩
  rcases sz_from l0 1048576 (by omega) (by omega) (by omega) with ⟨_, z1⟩ | ⟨hz1, z1⟩
  · exact ⟨0, .inr (.inr (.inl ⟨c1, c2, _, z1, by decide⟩))⟩
  obtain ⟨G, H, e, hG, hH, ⟨K1, g1⟩, ⟨K2, g2⟩⟩ := cols_both l0 l1 l2 (by omega) (by omega)
  obtain ⟨k, hk⟩ : ∃ k : Nat, 1048600 + K1 + K2 ≤ k := ⟨_, Nat.le_refl _⟩
  have a0 : l0.length ≤ 1048576 := by omega
  have a1 : l1.length ≤ 1048576 := by omega
  have a2 : l2.length ≤ 1048576 := by omega
  have hk1 : 1048576 < k := by omega
  refine ⟨k, .inr (.inr (.inr ⟨G, H, _, _, _, _, _, _, e, _, _, _, _, _, toSp_ev l0 a0 k hk1, to_ev l1 a1 k hk1, to_ev l2 a2 k hk1, z1, g1 k (by omega), g2 k (by omega), eqSp_ev G (by omega) k (by omega), eq_ev H (by omega) k (by omega), eqSp_ev l0 (by omega) k (by omega), eq_ev l1 (by omega) k (by omega), eq_ev l2 (by omega) k (by omega), markS_gen l0 a0 1 (by omega) (by omega) k hk1, mark_gen l1 a1 _ (by omega) (by omega) k hk1, mark_gen l2 a2 _ (by omega) (by omega) k hk1, markS_gen G hG 1 (by omega) (by omega) k hk1, mark_gen H hH _ (by omega) (by omega) k hk1, heldS_gen G.length hG 1 (by omega) (by omega) k hk1, held_gen H.length hH _ (by omega) (by omega) k hk1, c1, c2, by omega, by omega, by omega, by omega⟩))⟩

end Go.Proofs.Ythbfaefneoeadaa.Pure
