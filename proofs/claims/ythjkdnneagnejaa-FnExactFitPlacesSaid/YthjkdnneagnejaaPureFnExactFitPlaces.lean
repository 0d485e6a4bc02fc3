/- Fitting places are told alike, the argument is left alone, and each call's list is new. For every space and code; a longer code than 1048576 words is answered true. -/
import Derived.Test.YthjkdnneagnejaaPFnExactFitPlacesx0
import Derived.Test.YthjkdnneagnejaaPFnExactFitPlacesx1
import Derived.Test.YthjkdnneagnejaaPFnExactFitPlacesx2
import Derived.Test.YthjkdnneagnejaaPFnExactFitPlacesx3
import Derived.Test.YthjkdnneagnejaaPFnExactFitPlacesx4
import Derived.Test.YthjkdnneagnejaaPFnExactFitPlacesx5
import Derived.Test.YthjkdnneagnejaaPFnExactFitPlacesx6
import Derived.Test.YthjkdnneagnejaaPFnExactFitPlacesx7
import Derived.Test.YthjkdnneagnejaaPFnExactFitPlacesx8
import Derived.Test.YthjkdnneagnejaaPFnExactFitPlacesx9
import Derived.Test.YthjkdnneagnejaaPFnExactFitPlacesx10
import Derived.KernelRfl
namespace Go.Proofs.Ythjkdnneagnejaa.Pure
open Go Go.RowKit Go.Proofs.Ythjkdnneagnejaa.PFnExactFitPlaces Go.Proofs.YthjkdnneagnejaaW.PrintWords Go.Proofs.YthjkdnneagnejaaW.PrintLast Go.Proofs.YthjkdnneagnejaaW.PrintMore Go.Proofs.Ythjkdnneagnejaa.DG
set_option linter.unusedVariables false
set_option linter.unusedSimpArgs false
theorem shl_one : ∀ n, n < 13 → shl .i64 1 ((n : Nat) : Int) = ((2 ^ n : Nat) : Int) := by decide +kernel
theorem pow_le {n : Nat} (h : n ≤ 12) : 2 ^ n ≤ 4096 := Nat.pow_le_pow_right (n := 2) (by omega) h
theorem w64 {i : Int} (h0 : -9223372036854775808 ≤ i) (h : i < 9223372036854775808) : wrap64 i = i := by unfold wrap64; omega
theorem u64 {i : Int} (h0 : 0 ≤ i) (h : i < 9223372036854775808) : IntKind.u64.wrap i = i := by
  have e : IntKind.u64.wrap i = i % 18446744073709551616 := by simp [IntKind.wrap, IntKind.bits, IntKind.signed]
  rw [e]; omega
def allN (p : Nat → Bool) : Nat → Bool
  | 0 => true
  | n+1 => p n && allN p n
theorem allN_at (p : Nat → Bool) : ∀ n, allN p n = true → ∀ s, s < n → p s = true
  | 0, _, s, h => by omega
  | n+1, h, s, hs => by
    simp only [allN, Bool.and_eq_true] at h
    by_cases e : s = n
    · subst e; exact h.1
    · exact allN_at p n h.2 s (by omega)

theorem set_mid (A B : List Int) (b s : Int) : (A ++ b :: B).set A.length s = (A ++ [s]) ++ B := by
  induction A with
  | nil => rfl
  | cons a A ih => simp [List.set_cons_succ]
theorem rd_mid (A B : List Int) (b : Int) : rd (A ++ b :: B) (A.length : Int) = b := by simp [rd]
theorem rd_nat (M : List Int) (i : Nat) (h : i < M.length) : rd M (i : Int) = M[i] := by simp [rd, List.getElem?_eq_getElem h]
def seqI : Int → Nat → List Int
  | _, 0 => []
  | s, n+1 => s :: seqI (s+1) n

def prodL : List Int → Int
  | [] => 1
  | q :: r => q * prodL r
theorem prodL_snoc (l : List Int) (q : Int) : prodL (l ++ [q]) = prodL l * q := by
  induction l with
  | nil => simp [prodL]
  | cons a l ih => simp only [List.cons_append, prodL, ih]; rw [Int.mul_assoc]
theorem prodL_bound : ∀ (l : List Int), (∀ q ∈ l, 2 ≤ q ∧ q ≤ 4) → 1 ≤ prodL l ∧ prodL l ≤ (4 : Int) ^ l.length
  | [], _ => by simp [prodL]
  | q :: r, h => by
    have h1 := h q (by simp)
    obtain ⟨h2, h3⟩ := prodL_bound r (fun x hx => h x (by simp [hx]))
    simp only [prodL, List.length_cons, Int.pow_succ]
    have hp : (0 : Int) ≤ 4 ^ r.length := Int.le_of_lt (Int.pow_pos (by omega))
    constructor
    · have : 1 * 1 ≤ q * prodL r := Int.mul_le_mul (by omega) h2 (by omega) (by omega)
      omega
    · rw [Int.mul_comm (4 ^ r.length) 4]
      exact Int.mul_le_mul h1.2 h3 (by omega) (by omega)
theorem prodL_le8 (l : List Int) (h : ∀ q ∈ l, 2 ≤ q ∧ q ≤ 4) (hl : l.length ≤ 8) : 1 ≤ prodL l ∧ prodL l ≤ 65536 := by
  obtain ⟨h1, h2⟩ := prodL_bound l h
  refine ⟨h1, Int.le_trans h2 ?_⟩
  have : ∀ n, n < 9 → (4 : Int) ^ n ≤ 65536 := by decide
  exact this _ (by omega)
/-- What a space's sizes are. -/
def SpaceOk (l : List Int) : Prop := 1 ≤ l.length ∧ l.length ≤ 8 ∧ (∀ q ∈ l, 2 ≤ q ∧ q ≤ 4) ∧ prodL l ≤ 1024

theorem specN_l : ∀ (B A : List Int), (∀ q ∈ A ++ B, 2 ≤ q ∧ q ≤ 4) → (A ++ B).length ≤ 8 → ∀ k, B.length < k → spec_l01N.l0 k (prodL A) A.length (A ++ B) = some (prodL (A ++ B))
  | [], A, h, hl, k, hk => by
    obtain ⟨k, rfl⟩ : ∃ q, k = q + 1 := ⟨k - 1, by simp at hk; omega⟩
    simp only [spec_l01N.l0]
    rw [if_neg (by simp)]; simp
  | b :: B, A, h, hl, k, hk => by
    obtain ⟨k, rfl⟩ : ∃ q, k = q + 1 := ⟨k - 1, by simp at hk; omega⟩
    have hb := h b (by simp)
    have hA := prodL_le8 (A ++ [b]) (fun q hq => h q (by simp at hq ⊢; rcases hq with hq | hq <;> simp [hq])) (by simp at hl ⊢; omega)
    rw [prodL_snoc] at hA
    simp only [spec_l01N.l0]
    simp only [List.length_append, List.length_cons] at hl hk
    rw [if_pos (by simp; omega), if_pos (by omega), rd_mid, w64 (by omega) (by omega), w64 (by omega) (by omega), ← prodL_snoc, show (A.length : Int) + 1 = ((A ++ [b]).length : Int) by simp]
    have := specN_l B (A ++ [b]) (by simpa using h) (by simp; omega) k (by omega)
    simpa using this
theorem specN_ev (l : List Int) (h : ∀ q ∈ l, 2 ≤ q ∧ q ≤ 4) (hl : l.length ≤ 8) : ∀ k, 10 ≤ k → spec_l01N.f k l = some (prodL l) := by
  intro k hk
  unfold spec_l01N.f
  exact specN_l l [] h hl k (by omega)

theorem implCount_l : ∀ (B A : List Int), (∀ q ∈ A ++ B, 2 ≤ q ∧ q ≤ 4) → (A ++ B).length ≤ 8 → ∀ k, B.length < k → impl_count.l0 k (prodL A) (A ++ B) (A ++ B).length A.length = some (prodL (A ++ B))
  | [], A, h, hl, k, hk => by
    obtain ⟨k, rfl⟩ : ∃ q, k = q + 1 := ⟨k - 1, by simp at hk; omega⟩
    simp only [impl_count.l0]
    rw [if_neg (by simp)]; simp
  | b :: B, A, h, hl, k, hk => by
    obtain ⟨k, rfl⟩ : ∃ q, k = q + 1 := ⟨k - 1, by simp at hk; omega⟩
    have hb := h b (by simp)
    have hA := prodL_le8 (A ++ [b]) (fun q hq => h q (by simp at hq ⊢; rcases hq with hq | hq <;> simp [hq])) (by simp at hl ⊢; omega)
    rw [prodL_snoc] at hA
    simp only [impl_count.l0]
    simp only [List.length_append, List.length_cons] at hl hk
    rw [if_pos (by simp; omega), if_pos (by omega), if_pos (by simp; omega), rd_mid, w64 (by omega) (by omega), w64 (by omega) (by omega), ← prodL_snoc, show (A.length : Int) + 1 = ((A ++ [b]).length : Int) by simp]
    have := implCount_l B (A ++ [b]) (by simpa using h) (by simp; omega) k (by omega)
    simpa using this
theorem implCount_ev (l : List Int) (h : ∀ q ∈ l, 2 ≤ q ∧ q ≤ 4) (hl : l.length ≤ 8) : ∀ k, 10 ≤ k → impl_count.f k l = some (prodL l) := by
  intro k hk
  unfold impl_count.f
  exact implCount_l l [] h hl k (by omega)

theorem prodI_eq : ∀ l : List Int, prodI l = prodL l
  | [] => rfl
  | q :: r => by simp [prodI, prodL, prodI_eq r]
theorem set_rep (m : Nat) (x : Int) (R : List Int) : (List.replicate (m + 1) 0 ++ R).set m x = List.replicate m 0 ++ x :: R := by
  rw [List.replicate_succ', List.append_assoc, List.set_append]
  simp
theorem digL_drop (s : List Int) (w : Int) (m : Nat) (hm : m < s.length) : digL (s.drop m) w = (w / prodI (s.drop (m + 1)) % rd s (m : Int)) :: digL (s.drop (m + 1)) w := by
  rw [List.drop_eq_getElem_cons hm]
  have e : rd s (m : Int) = s[m] := by simp [rd, List.getElem?_eq_getElem hm]
  rw [e]; rfl
theorem size_at (s : List Int) (hs : ∀ q ∈ s, 2 ≤ q ∧ q ≤ 4) (m : Nat) (hm : m < s.length) : 2 ≤ rd s (m : Int) ∧ rd s (m : Int) ≤ 4 := by
  have e : rd s (m : Int) = s[m] := by simp [rd, List.getElem?_eq_getElem hm]
  rw [e]; exact hs _ (List.getElem_mem hm)
theorem div_nonneg' (s : List Int) (w : Int) (hs : ∀ q ∈ s, 2 ≤ q ∧ q ≤ 4) (hw0 : 0 ≤ w) (m : Nat) : 0 ≤ w / prodI (s.drop m) ∧ w / prodI (s.drop m) ≤ w := by
  have := prodI_pos (s.drop m) (fun q h => hs q (List.mem_of_mem_drop h))
  exact ⟨Int.ediv_nonneg hw0 (by omega), Int.ediv_le_self _ hw0⟩
theorem specDigits_l (s : List Int) (hs : ∀ q ∈ s, 2 ≤ q ∧ q ≤ 4) (h8 : s.length ≤ 8) (w : Int) (hw0 : 0 ≤ w) (hw1 : w ≤ 1073741824) : ∀ m : Nat, m ≤ s.length → ∀ k, m < k → spec_l01Digits.l0 k (w / prodI (s.drop m)) (List.replicate m 0 ++ digL (s.drop m) w) ((m : Int) - 1) s = some (digL s w)
  | 0, _, k, hk => by
    obtain ⟨k, rfl⟩ : ∃ q, k = q + 1 := ⟨k - 1, by omega⟩
    simp only [spec_l01Digits.l0]
    rw [if_neg (by omega)]; simp
  | m + 1, hm, k, hk => by
    obtain ⟨k, rfl⟩ : ∃ q, k = q + 1 := ⟨k - 1, by omega⟩
    have hq := size_at s hs m (by omega)
    obtain ⟨h1, h2⟩ := div_nonneg' s w hs hw0 (m + 1)
    have hlen : ((List.replicate (m + 1) 0 ++ digL (s.drop (m + 1)) w).length : Int) = (s.length : Int) := by
      rw [List.length_append, List.length_replicate, digL_len, List.length_drop]; omega
    have hd := div_prod s w m (by omega) hs
    obtain ⟨h3, h4⟩ := div_nonneg' s w hs hw0 m
    simp only [spec_l01Digits.l0]
    rw [show ((m + 1 : Nat) : Int) - 1 = (m : Int) by omega, if_pos (by omega), if_pos (by omega), if_pos (by omega), if_neg (by omega), if_pos (by omega), Int.toNat_natCast, Int.tdiv_eq_ediv_of_nonneg h1, Int.tmod_eq_emod_of_nonneg h1, hd, w64 (by omega) (by omega), w64 (by omega) (by omega), set_rep, ← digL_drop s w m (by omega)]
    exact specDigits_l s hs h8 w hw0 hw1 m (by omega) k (by omega)
theorem specDigits_ev (s : List Int) (hs : ∀ q ∈ s, 2 ≤ q ∧ q ≤ 4) (h8 : s.length ≤ 8) (w : Int) (hw0 : 0 ≤ w) (hw1 : w ≤ 1073741824) (k : Nat) (hk : 10 ≤ k) : spec_l01Digits.f k s w = some (digL s w) := by
  unfold spec_l01Digits.f
  rw [if_pos (by omega), if_pos (by omega), Int.toNat_natCast]
  have h := specDigits_l s hs h8 w hw0 hw1 s.length (Nat.le_refl _) k (by omega)
  rw [List.drop_length] at h
  simp only [prodI, digL, List.append_nil, Int.ediv_one] at h
  rw [w64 (by omega) (by omega)]
  exact h

/-- A word's digits as the program keeps them. -/
def D8 (s : List Int) (w : Int) : S73 := ⟨(digL s w).getD 0 0, (digL s w).getD 1 0, (digL s w).getD 2 0, (digL s w).getD 3 0, (digL s w).getD 4 0, (digL s w).getD 5 0, (digL s w).getD 6 0, (digL s w).getD 7 0⟩
theorem okS_space (s : List Int) (hs : ∀ q ∈ s, 2 ≤ q ∧ q ≤ 4) (h8 : s.length ≤ 8) : okS s = true := (okS_iff s).2 ⟨h8, hs⟩
theorem digitsOf_ev (s : List Int) (hs : ∀ q ∈ s, 2 ≤ q ∧ q ≤ 4) (h8 : s.length ≤ 8) (w : Int) (hw0 : 0 ≤ w) (hw1 : w ≤ 1073741824) (k : Nat) : impl_digitsOf.f k s w = some (tup8 (digL s w)) := by
  unfold impl_digitsOf.f
  rw [if_pos (okS_space s hs h8), if_pos hw0, if_pos hw1]

theorem l8_D8 (s : List Int) (w : Int) (h8 : s.length ≤ 8) : l8 (D8 s w) = digL s w ++ List.replicate (8 - s.length) 0 := by
  have hz : dl s w 0 = digL s w ++ List.replicate (8 - s.length) 0 := by simp [dl]
  rw [← hz]
  obtain ⟨e0, e1, e2, e3, e4, e5, e6, e7, he⟩ := eight (dl s w 0) (dl_len s w 0 (by omega) h8)
  have g : ∀ j, (digL s w).getD j 0 = [e0, e1, e2, e3, e4, e5, e6, e7].getD j 0 := fun j => by rw [← he, hz, getD_zeros]
  rw [he]
  unfold l8 D8
  simp only [g]
  rfl
theorem farL_app : ∀ (a b z : List Int), a.length = b.length → farL (a ++ z) (b ++ z) = farL a b
  | [], [], z, _ => by
    induction z with
    | nil => rfl
    | cons x z ih => simpa [farL] using ih
  | [], _ :: _, _, h => by simp at h
  | _ :: _, [], _, h => by simp at h
  | x :: a, y :: b, z, h => by
    simp only [List.cons_append, farL]
    rw [farL_app a b z (by simpa using h)]
theorem far_D8 (s : List Int) (u w : Int) (h8 : s.length ≤ 8) : farL (l8 (D8 s u)) (l8 (D8 s w)) = farL (digL s u) (digL s w) := by
  rw [l8_D8 s u h8, l8_D8 s w h8, farL_app _ _ _ (by rw [digL_len, digL_len])]
theorem rd_D8 (s : List Int) (w : Int) (h8 : s.length ≤ 8) (i : Nat) (hi : i < s.length) : rd (l8 (D8 s w)) (i : Int) = rd (digL s w) (i : Int) := by
  rw [l8_D8 s w h8]
  simp only [rd, Int.toNat_natCast]
  rw [List.getD_eq_getElem?_getD, List.getD_eq_getElem?_getD, List.getElem?_append_left (by rw [digL_len]; exact hi)]
theorem digL_get (s : List Int) (hs : ∀ q ∈ s, 2 ≤ q ∧ q ≤ 4) (w : Int) (i : Nat) (hi : i < s.length) : 0 ≤ rd (digL s w) (i : Int) ∧ rd (digL s w) (i : Int) < rd s (i : Int) := by
  have key : ∀ (s : List Int), (∀ q ∈ s, 2 ≤ q ∧ q ≤ 4) → ∀ i, i < s.length → 0 ≤ rd (digL s w) ((i : Nat) : Int) ∧ rd (digL s w) ((i : Nat) : Int) < rd s ((i : Nat) : Int) := by
    intro s
    induction s with
    | nil => intro _ i hi; simp at hi
    | cons q s ih =>
      intro hs i hi
      have hq := hs q (by simp)
      cases i with
      | zero =>
        simp only [digL, rd, Int.toNat_natCast, List.getD_cons_zero]
        exact ⟨Int.emod_nonneg _ (by omega), Int.emod_lt_of_pos _ (by omega)⟩
      | succ i =>
        have := ih (fun x hx => hs x (by simp [hx])) i (by simpa using hi)
        simpa [digL, rd] using this
  exact key s hs i hi

theorem specDist_l (s : List Int) (hs : ∀ q ∈ s, 2 ≤ q ∧ q ≤ 4) (h8 : s.length ≤ 8) (u w : Int) (hu0 : 0 ≤ u) (hu1 : u ≤ 1073741824) (hw0 : 0 ≤ w) (hw1 : w ≤ 1073741824) : ∀ m : Nat, m ≤ s.length → ∀ k, m < k → spec_l01Distance.l0 k (u / prodI (s.drop m)) (w / prodI (s.drop m)) (farL (digL (s.drop m) u) (digL (s.drop m) w)) ((m : Int) - 1) s = some (farL (digL s u) (digL s w))
  | 0, _, k, hk => by
    obtain ⟨k, rfl⟩ : ∃ q, k = q + 1 := ⟨k - 1, by omega⟩
    simp only [spec_l01Distance.l0]
    rw [if_neg (by omega)]; simp
  | m + 1, hm, k, hk => by
    obtain ⟨k, rfl⟩ : ∃ q, k = q + 1 := ⟨k - 1, by omega⟩
    have hq := size_at s hs m (by omega)
    obtain ⟨h1, h2⟩ := div_nonneg' s u hs hu0 (m + 1)
    obtain ⟨h1', h2'⟩ := div_nonneg' s w hs hw0 (m + 1)
    have hd := div_prod s u m (by omega) hs
    have hd' := div_prod s w m (by omega) hs
    obtain ⟨h3, h4⟩ := div_nonneg' s u hs hu0 m
    obtain ⟨h3', h4'⟩ := div_nonneg' s w hs hw0 m
    have hb := farL_bounds (digL (s.drop (m + 1)) u) (digL (s.drop (m + 1)) w)
    rw [digL_len, List.length_drop] at hb
    have ih := specDist_l s hs h8 u w hu0 hu1 hw0 hw1 m (by omega) k (by omega)
    rw [digL_drop s u m (by omega), digL_drop s w m (by omega)] at ih
    simp only [farL] at ih
    simp only [spec_l01Distance.l0]
    rw [show ((m + 1 : Nat) : Int) - 1 = (m : Int) by omega, if_pos (by omega), if_pos (by omega), if_pos (by omega), if_neg (by omega), Int.tdiv_eq_ediv_of_nonneg h1, Int.tmod_eq_emod_of_nonneg h1, Int.tdiv_eq_ediv_of_nonneg h1', Int.tmod_eq_emod_of_nonneg h1', hd, hd', w64 (i := u / prodI (s.drop m)) (by omega) (by omega), w64 (i := w / prodI (s.drop m)) (by omega) (by omega), w64 (i := (m : Int) - 1) (by omega) (by omega)]
    by_cases he : u / prodI (s.drop (m + 1)) % rd s (m : Int) = w / prodI (s.drop (m + 1)) % rd s (m : Int)
    · rw [if_pos he] at ih ⊢
      rw [Int.zero_add] at ih
      exact ih
    · rw [if_neg he] at ih ⊢
      rw [w64 (by omega) (by omega), Int.add_comm]
      exact ih
theorem specDist_ev (s : List Int) (hs : ∀ q ∈ s, 2 ≤ q ∧ q ≤ 4) (h8 : s.length ≤ 8) (u w : Int) (hu0 : 0 ≤ u) (hu1 : u ≤ 1073741824) (hw0 : 0 ≤ w) (hw1 : w ≤ 1073741824) (k : Nat) (hk : 10 ≤ k) : spec_l01Distance.f k s u w = some (farL (digL s u) (digL s w)) := by
  unfold spec_l01Distance.f
  have h := specDist_l s hs h8 u w hu0 hu1 hw0 hw1 s.length (Nat.le_refl _) k (by omega)
  rw [List.drop_length] at h
  simp only [prodI, digL, Int.ediv_one, farL] at h
  rw [w64 (by omega) (by omega)]
  exact h

theorem digAll_l (s : List Int) (hs : ∀ q ∈ s, 2 ≤ q ∧ q ≤ 4) (h8 : s.length ≤ 8) (l : List Int) (hl : ∀ w ∈ l, 0 ≤ w ∧ w ≤ 1073741824) (hl2 : l.length ≤ 1048576) : ∀ d i : Nat, i + d = l.length → ∀ k, d < k → impl_digitsOfAll.l0 k ((l.take i).map (D8 s)) l l.length i s = some (l.map (D8 s))
  | 0, i, e, k, hk => by
    obtain ⟨k, rfl⟩ : ∃ q, k = q + 1 := ⟨k - 1, by omega⟩
    simp only [impl_digitsOfAll.l0]
    rw [if_neg (by omega), List.take_of_length_le (by omega)]
  | d + 1, i, e, k, hk => by
    obtain ⟨k, rfl⟩ : ∃ q, k = q + 1 := ⟨k - 1, by omega⟩
    have hi : i < l.length := by omega
    have hw := hl _ (List.getElem_mem hi)
    have ht : ((l.take i).map (D8 s)).length < 17592186044416 := by rw [List.length_map, List.length_take]; omega
    simp only [impl_digitsOfAll.l0]
    rw [if_pos (by omega), if_pos (by omega), if_pos (by omega), rd_nat l i hi, digitsOf_ev s hs h8 _ hw.1 hw.2, Option.bind_some, if_pos ht, w64 (by omega) (by omega), show (i : Int) + 1 = ((i + 1 : Nat) : Int) by omega]
    have ih := digAll_l s hs h8 l hl hl2 d (i + 1) (by omega) k (by omega)
    rw [List.take_succ_eq_append_getElem hi, List.map_append] at ih
    exact ih
theorem digAll_ev (s : List Int) (hs : ∀ q ∈ s, 2 ≤ q ∧ q ≤ 4) (h8 : s.length ≤ 8) (l : List Int) (hl : ∀ w ∈ l, 0 ≤ w ∧ w ≤ 1073741824) (hl2 : l.length ≤ 1048576) (k : Nat) (hk : l.length < k) : impl_digitsOfAll.f k s l = some (l.map (D8 s)) := by
  unfold impl_digitsOfAll.f
  exact digAll_l s hs h8 l hl hl2 l.length 0 (by omega) k hk

/-- All words. -/
def words (s : List Int) : List Int := (List.range (prodL s).toNat).map Int.ofNat
theorem allDig_l (s : List Int) (hs : ∀ q ∈ s, 2 ≤ q ∧ q ≤ 4) (h8 : s.length ≤ 8) (P : Nat) (hP : P ≤ 65536) : ∀ d i : Nat, i + d = P → ∀ k, d < k → impl_allDigits.l0 k (((List.range i).map Int.ofNat).map (D8 s)) P i s = some (((List.range P).map Int.ofNat).map (D8 s))
  | 0, i, e, k, hk => by
    obtain ⟨k, rfl⟩ : ∃ q, k = q + 1 := ⟨k - 1, by omega⟩
    simp only [impl_allDigits.l0]
    have : i = P := by omega
    subst this
    rw [if_neg (by omega)]
  | d + 1, i, e, k, hk => by
    obtain ⟨k, rfl⟩ : ∃ q, k = q + 1 := ⟨k - 1, by omega⟩
    have ht : (((List.range i).map Int.ofNat).map (D8 s)).length < 17592186044416 := by rw [List.length_map, List.length_map, List.length_range]; omega
    simp only [impl_allDigits.l0]
    rw [if_pos (by omega), digitsOf_ev s hs h8 _ (by omega) (by omega), Option.bind_some, if_pos ht, w64 (by omega) (by omega), show (i : Int) + 1 = ((i + 1 : Nat) : Int) by omega]
    have ih := allDig_l s hs h8 P hP d (i + 1) (by omega) k (by omega)
    rw [List.range_succ, List.map_append, List.map_append] at ih
    exact ih
theorem allDig_ev (s : List Int) (hs : ∀ q ∈ s, 2 ≤ q ∧ q ≤ 4) (h8 : s.length ≤ 8) (k : Nat) (hk : 65600 ≤ k) : impl_allDigits.f k s = some ((words s).map (D8 s)) := by
  obtain ⟨h1, h2⟩ := prodL_le8 s hs h8
  unfold impl_allDigits.f words
  rw [implCount_ev s hs h8 k (by omega), Option.bind_some]
  have := allDig_l s hs h8 (prodL s).toNat (by omega) (prodL s).toNat 0 (by omega) k (by omega)
  rw [show (((prodL s).toNat : Nat) : Int) = prodL s by omega] at this
  exact this

/-- One word more of the code in the row of a word's reaches. -/
def stepS (s : List Int) (i : Nat) (w : Int) (row : List Int) (c : Int) : List Int := row.set (rd (digL s c) (i : Int)).toNat (mn (rd row (rd (digL s c) (i : Int))) (farL (digL s w) (digL s c)))
def reachS (s code : List Int) (i : Nat) (w : Int) : List Int := code.foldl (stepS s i w) (List.replicate (rd s (i : Int)).toNat ((s.length : Int) + 1))
theorem stepS_len (s : List Int) (i : Nat) (w : Int) (r : List Int) (c : Int) : (stepS s i w r c).length = r.length := by simp [stepS]
theorem foldS_len (s : List Int) (i : Nat) (w : Int) : ∀ (L r : List Int), (L.foldl (stepS s i w) r).length = r.length
  | [], r => rfl
  | c :: L, r => by rw [List.foldl_cons, foldS_len s i w L, stepS_len]
theorem row_eq (s : List Int) (h8 : s.length ≤ 8) (i : Nat) (hi : i < s.length) (w : Int) : ∀ (code r : List Int), (code.map (D8 s)).foldl (rowStep (i : Int) (D8 s w)) r = code.foldl (stepS s i w) r
  | [], r => rfl
  | c :: code, r => by
    rw [List.map_cons, List.foldl_cons, List.foldl_cons, row_eq s h8 i hi w code]
    congr 1
    unfold rowStep stepS
    rw [rd_D8 s c h8 i hi, far_D8 s w c h8]
theorem allReaches_ev (s : List Int) (hs : SpaceOk s) (code : List Int) (hc : ∀ c ∈ code, 0 ≤ c ∧ c < prodL s) (hcl : code.length ≤ 1024) (i : Nat) (hi : i < s.length) (k : Nat) (hk : 65600 ≤ k) : impl_allReaches.f k s code i = some ((words s).map (reachS s code i)) := by
  obtain ⟨h1, h2⟩ := prodL_le8 s hs.2.2.1 hs.2.1
  have hq := size_at s hs.2.2.1 i hi
  have hP := hs.2.2.2
  unfold impl_allReaches.f
  rw [digAll_ev s hs.2.2.1 hs.2.1 code (fun w hw => by have := hc w hw; omega) (by omega) k (by omega), Option.bind_some, allDig_ev s hs.2.2.1 hs.2.1 k hk, Option.bind_some, if_pos]
  · congr 1
    rw [List.map_map]
    apply List.map_congr_left
    intro w hw
    simp only [Function.comp, rowF]
    exact row_eq s hs.2.1 i hi w code _
  · simp only [okR, Bool.and_eq_true, decide_eq_true_eq, List.all_eq_true]
    refine ⟨⟨⟨⟨⟨⟨⟨by omega, by omega⟩, hs.2.1⟩, by omega⟩, by omega⟩, ?_⟩, ?_⟩, ?_⟩
    · intro e he
      obtain ⟨c, hcm, rfl⟩ := List.mem_map.1 he
      rw [rd_D8 s c hs.2.1 i hi]
      exact digL_get s hs.2.2.1 c i hi
    · rw [List.length_map]; unfold words; rw [List.length_map, List.length_range]; omega
    · rw [List.length_map]; omega
theorem specReaches_l1 (s : List Int) (hs : SpaceOk s) (code : List Int) (hc : ∀ c ∈ code, 0 ≤ c ∧ c < prodL s) (hcl : code.length ≤ 1024) (i : Nat) (hi : i < s.length) (w : Int) (hw0 : 0 ≤ w) (hw1 : w < prodL s) : ∀ d j : Nat, j + d = code.length → ∀ r : List Int, r.length = (rd s (i : Int)).toNat → ∀ k, d + 10 < k → spec_l09Reaches.l1 k code i w r code.length j s = some ((code.drop j).foldl (stepS s i w) r)
  | 0, j, e, r, hr, k, hk => by
    obtain ⟨k, rfl⟩ : ∃ q, k = q + 1 := ⟨k - 1, by omega⟩
    simp only [spec_l09Reaches.l1]
    rw [if_neg (by omega), List.drop_eq_nil_of_le (by omega)]; rfl
  | d + 1, j, e, r, hr, k, hk => by
    obtain ⟨k, rfl⟩ : ∃ q, k = q + 1 := ⟨k - 1, by omega⟩
    have hj : j < code.length := by omega
    have hP := hs.2.2.2
    have hcj := hc _ (List.getElem_mem hj)
    have hg := digL_get s hs.2.2.1 code[j] i hi
    have hlen : ((digL s code[j]).length : Int) = (s.length : Int) := by rw [digL_len]
    simp only [spec_l09Reaches.l1]
    rw [if_pos (by omega), if_pos (by omega), if_pos (by omega), rd_nat code j hj, specDigits_ev s hs.2.2.1 hs.2.1 _ hcj.1 (by omega) k (by omega), Option.bind_some, if_pos (by omega), if_pos (by omega), if_pos (by omega), if_pos (by omega), specDist_ev s hs.2.2.1 hs.2.1 w _ hw0 (by omega) hcj.1 (by omega) k (by omega), Option.bind_some, w64 (by omega) (by omega), show (j : Int) + 1 = ((j + 1 : Nat) : Int) by omega, List.drop_eq_getElem_cons hj, List.foldl_cons]
    exact specReaches_l1 s hs code hc hcl i hi w hw0 hw1 d (j + 1) (by omega) (stepS s i w r code[j]) (by rw [stepS_len]; exact hr) k (by omega)
theorem specReaches_l0 (s : List Int) (hs : SpaceOk s) (code : List Int) (i : Nat) (w : Int) (n N : Nat) (hn : n ≤ 4) : ∀ d j : Nat, j + d = n → ∀ k r, d < k → (∀ k, N ≤ k → spec_l09Reaches.l1 k code i w (List.replicate n ((s.length : Int) + 1)) code.length 0 s = some r) → spec_l09Reaches.l0 (k + N) code i w (List.replicate j ((s.length : Int) + 1) ++ List.replicate d 0) n j s = some r
  | 0, j, e, k, r, hk, hr => by
    obtain ⟨k, rfl⟩ : ∃ q, k = q + 1 := ⟨k - 1, by omega⟩
    rw [show k + 1 + N = k + N + 1 by omega]
    simp only [spec_l09Reaches.l0]
    have : j = n := by omega
    subst this
    rw [if_neg (by omega), List.replicate_zero, List.append_nil]
    exact hr _ (by omega)
  | d + 1, j, e, k, r, hk, hr => by
    obtain ⟨k, rfl⟩ : ∃ q, k = q + 1 := ⟨k - 1, by omega⟩
    rw [show k + 1 + N = k + N + 1 by omega]
    have h8 := hs.2.1
    have hlen : ((List.replicate j ((s.length : Int) + 1) ++ List.replicate (d + 1) 0).length : Int) = (n : Int) := by simp; omega
    simp only [spec_l09Reaches.l0]
    rw [if_pos (by omega), if_pos (by omega), if_pos (by omega), Int.toNat_natCast, w64 (i := (s.length : Int) + 1) (by omega) (by omega), w64 (i := (j : Int) + 1) (by omega) (by omega), show (j : Int) + 1 = ((j + 1 : Nat) : Int) by omega]
    have e1 : (List.replicate j ((s.length : Int) + 1) ++ List.replicate (d + 1) 0).set j ((s.length : Int) + 1) = List.replicate (j + 1) ((s.length : Int) + 1) ++ List.replicate d 0 := by
      rw [List.replicate_succ (n := d), List.set_append]
      simp [List.replicate_succ']
    rw [e1]
    exact specReaches_l0 s hs code i w n N hn d (j + 1) (by omega) k r (by omega) hr
theorem specReaches_ev (s : List Int) (hs : SpaceOk s) (code : List Int) (hc : ∀ c ∈ code, 0 ≤ c ∧ c < prodL s) (hcl : code.length ≤ 1024) (i : Nat) (hi : i < s.length) (w : Int) (hw0 : 0 ≤ w) (hw1 : w < prodL s) (k : Nat) (hk : 3000 ≤ k) : spec_l09Reaches.f k s code i w = some (reachS s code i w) := by
  have hq := size_at s hs.2.2.1 i hi
  unfold spec_l09Reaches.f
  rw [if_pos (by omega), if_pos (by omega), if_pos (by omega), if_pos (by omega), Option.bind_some, List.length_replicate]
  obtain ⟨N, hN⟩ : ∃ N : Nat, N = 2000 := ⟨_, rfl⟩
  obtain ⟨k, rfl⟩ : ∃ m, k = m + N := ⟨k - N, by omega⟩
  have h := specReaches_l0 s hs code i w (rd s (i : Int)).toNat N (by omega) (rd s (i : Int)).toNat 0 (by omega) k (reachS s code i w) (by omega) (fun k hk => by
    have := specReaches_l1 s hs code hc hcl i hi w hw0 hw1 code.length 0 (by omega) (List.replicate (rd s (i : Int)).toNat ((s.length : Int) + 1)) (by simp) k (by omega)
    exact this)
  rw [List.replicate_zero, List.nil_append] at h
  exact h

def addw (a x : Int) : Int := wrap64 (a + x)
def normStep (a : Int) (r : List Int) : Int := mx a (r.foldl addw 0)
theorem rd_L3_nat (R : List (List Int)) (i : Nat) (h : i < R.length) : rd_L3 R (i : Int) = R[i] := by simp [rd_L3, List.getElem?_eq_getElem h]
theorem normI_1 (R : List (List Int)) (n i : Int) (x : Int) (r : List Int) (hr : r.length ≤ 4) (hw : wrap64 (i + 1) = i + 1) : ∀ d j : Nat, j + d = r.length → ∀ y k, impl_normAt.l1 (k + d + 1) x y R n i r r.length j = impl_normAt.l0 k (mx x ((r.drop j).foldl addw y)) R n (i + 1)
  | 0, j, e, y, k => by
    simp only [Nat.add_zero, impl_normAt.l1]
    rw [if_neg (by omega), List.drop_eq_nil_of_le (by omega), hw]; rfl
  | d + 1, j, e, y, k => by
    have hj : j < r.length := by omega
    obtain ⟨K, hK⟩ : ∃ K, K = k + d + 1 := ⟨_, rfl⟩
    rw [show k + (d + 1) + 1 = K + 1 by omega]
    simp only [impl_normAt.l1]
    rw [if_pos (by omega), if_pos (by omega), if_pos (by omega), rd_nat r j hj, w64 (i := (j : Int) + 1) (by omega) (by omega), show (j : Int) + 1 = ((j + 1 : Nat) : Int) by omega, hK, normI_1 R n i x r hr hw d (j + 1) (by omega), List.drop_eq_getElem_cons hj, List.foldl_cons]
    rfl
theorem normI_0 (R : List (List Int)) (hR : ∀ r ∈ R, r.length ≤ 4) (hl : R.length ≤ 65536) : ∀ d i : Nat, i + d = R.length → ∀ x k, 10 * d + 1 ≤ k → impl_normAt.l0 k x R R.length i = some ((R.drop i).foldl normStep x)
  | 0, i, e, x, k, hk => by
    obtain ⟨k, rfl⟩ : ∃ q, k = q + 1 := ⟨k - 1, by omega⟩
    simp only [impl_normAt.l0]
    rw [if_neg (by omega), List.drop_eq_nil_of_le (by omega)]; rfl
  | d + 1, i, e, x, k, hk => by
    have hi : i < R.length := by omega
    have hr := hR _ (List.getElem_mem hi)
    obtain ⟨k, rfl⟩ : ∃ q, k = (q + R[i].length + 1) + 1 := ⟨k - R[i].length - 2, by omega⟩
    simp only [impl_normAt.l0]
    rw [if_pos (by omega), if_pos (by omega), if_pos (by omega), rd_L3_nat R i hi]
    have h1 := normI_1 R R.length i x R[i] hr (w64 (by omega) (by omega)) R[i].length 0 (by omega) 0 k
    rw [show (0 : Int) = ((0 : Nat) : Int) from rfl] at *
    rw [h1, show (i : Int) + 1 = ((i + 1 : Nat) : Int) by omega, normI_0 R hR hl d (i + 1) (by omega) _ k (by omega), List.drop_eq_getElem_cons hi, List.foldl_cons]
    rfl
theorem reachS_len (s code : List Int) (hs : ∀ q ∈ s, 2 ≤ q ∧ q ≤ 4) (i : Nat) (hi : i < s.length) (w : Int) : (reachS s code i w).length ≤ 4 := by
  have := size_at s hs i hi
  unfold reachS
  rw [foldS_len, List.length_replicate]; omega
theorem normS_1 (s code r : List Int) (i w x : Int) (hr : r.length ≤ 4) (hw : wrap64 (w + 1) = w + 1) : ∀ d j : Nat, j + d = r.length → ∀ y k, spec_l09Norm.l1 (k + d + 1) code i x w r y r.length j s = spec_l09Norm.l0 k code i (mx x ((r.drop j).foldl addw y)) (w + 1) s
  | 0, j, e, y, k => by
    simp only [Nat.add_zero, spec_l09Norm.l1]
    rw [if_neg (by omega), List.drop_eq_nil_of_le (by omega), hw]; rfl
  | d + 1, j, e, y, k => by
    have hj : j < r.length := by omega
    obtain ⟨K, hK⟩ : ∃ K, K = k + d + 1 := ⟨_, rfl⟩
    rw [show k + (d + 1) + 1 = K + 1 by omega]
    simp only [spec_l09Norm.l1]
    rw [if_pos (by omega), if_pos (by omega), if_pos (by omega), rd_nat r j hj, w64 (i := (j : Int) + 1) (by omega) (by omega), show (j : Int) + 1 = ((j + 1 : Nat) : Int) by omega, hK, normS_1 s code r i w x hr hw d (j + 1) (by omega), List.drop_eq_getElem_cons hj, List.foldl_cons]
    rfl
theorem normS_0 (s : List Int) (hs : SpaceOk s) (code : List Int) (hc : ∀ c ∈ code, 0 ≤ c ∧ c < prodL s) (hcl : code.length ≤ 1024) (i : Nat) (hi : i < s.length) : ∀ d w : Nat, (w : Int) + d = prodL s → ∀ x k, 10 * d + 5001 ≤ k → spec_l09Norm.l0 k code i x w s = some ((((List.range' w d).map Int.ofNat).map (reachS s code i)).foldl normStep x)
  | 0, w, e, x, k, hk => by
    obtain ⟨k, rfl⟩ : ∃ q, k = q + 1 := ⟨k - 1, by omega⟩
    simp only [spec_l09Norm.l0]
    rw [specN_ev s hs.2.2.1 hs.2.1 k (by omega), Option.bind_some, if_neg (by omega)]; rfl
  | d + 1, w, e, x, k, hk => by
    have hP := hs.2.2.2
    have hr := reachS_len s code hs.2.2.1 i hi w
    obtain ⟨k, rfl⟩ : ∃ q, k = (q + (reachS s code i w).length + 1) + 1 := ⟨k - (reachS s code i w).length - 2, by omega⟩
    simp only [spec_l09Norm.l0]
    rw [specN_ev s hs.2.2.1 hs.2.1 _ (by omega), Option.bind_some, if_pos (by omega), specReaches_ev s hs code hc hcl i hi w (by omega) (by omega) _ (by omega), Option.bind_some]
    have h1 := normS_1 s code (reachS s code i w) i w x hr (w64 (by omega) (by omega)) (reachS s code i w).length 0 (by omega) 0 k
    rw [show (0 : Int) = ((0 : Nat) : Int) from rfl] at *
    rw [h1, show (w : Int) + 1 = ((w + 1 : Nat) : Int) by omega, normS_0 s hs code hc hcl i hi d (w + 1) (by omega) _ k (by omega), List.range'_succ]
    rfl
theorem norm_both (s : List Int) (hs : SpaceOk s) (code : List Int) (hc : ∀ c ∈ code, 0 ≤ c ∧ c < prodL s) (hcl : code.length ≤ 1024) (i : Nat) (hi : i < s.length) : ∃ z : Int, ∀ k, 700000 ≤ k → spec_l09Norm.f k s code i = some z ∧ impl_normAt.f k s code i = some z := by
  obtain ⟨h1, h2⟩ := prodL_le8 s hs.2.2.1 hs.2.1
  have hP := hs.2.2.2
  refine ⟨((words s).map (reachS s code i)).foldl normStep 0, fun k hk => ⟨?_, ?_⟩⟩
  · unfold spec_l09Norm.f words
    have h := normS_0 s hs code hc hcl i hi (prodL s).toNat 0 (by omega) 0 k (by omega)
    rw [← List.range_eq_range'] at h
    exact h
  · unfold impl_normAt.f
    rw [allReaches_ev s hs code hc hcl i hi k (by omega), Option.bind_some]
    have hl : ((words s).map (reachS s code i)).length ≤ 65536 := by rw [List.length_map]; unfold words; rw [List.length_map, List.length_range]; omega
    exact normI_0 _ (fun r hr => by
      obtain ⟨w, _, rfl⟩ := List.mem_map.1 hr
      exact reachS_len s code hs.2.2.1 i hi w) hl ((words s).map (reachS s code i)).length 0 (by omega) 0 k (by omega)

def nearS (s code : List Int) (y w : Int) : Int := (code.map (fun c => farL (digL s w) (digL s c))).foldl mn y
theorem rd_T73_nat (L : List S73) (i : Nat) (h : i < L.length) : rd_T73 L (i : Int) = L[i] := by simp [rd_T73, List.getElem?_eq_getElem h]
theorem farn_1 (L D : List S73) (acc : List Int) (n i : Int) (e : S73) (hl : L.length ≤ 1048576) : ∀ d j : Nat, j + d = L.length → ∀ y k, impl_farness.l1 (k + d + 1) L acc y D n i L L.length j e.f0 e.f1 e.f2 e.f3 e.f4 e.f5 e.f6 e.f7 = if acc.length < 17592186044416 then impl_farness.l0 k L (acc ++ [((L.drop j).map (fun c => farL (l8 e) (l8 c))).foldl mn y]) D n (wrap64 (i + 1)) else none
  | 0, j, he, y, k => by
    simp only [Nat.add_zero, impl_farness.l1]
    rw [if_neg (by omega), List.drop_eq_nil_of_le (by omega)]; rfl
  | d + 1, j, he, y, k => by
    have hj : j < L.length := by omega
    obtain ⟨K, hK⟩ : ∃ K, K = k + d + 1 := ⟨_, rfl⟩
    rw [show k + (d + 1) + 1 = K + 1 by omega]
    simp only [impl_farness.l1]
    have hf : impl_far.f K e.f0 e.f1 e.f2 e.f3 e.f4 e.f5 e.f6 e.f7 L[j].f0 L[j].f1 L[j].f2 L[j].f3 L[j].f4 L[j].f5 L[j].f6 L[j].f7 = some (farL (l8 e) (l8 L[j])) := rfl
    rw [if_pos (by omega), if_pos (by omega), if_pos (by omega), rd_T73_nat L j hj, hf, Option.bind_some, w64 (i := (j : Int) + 1) (by omega) (by omega), show (j : Int) + 1 = ((j + 1 : Nat) : Int) by omega, hK, farn_1 L D acc n i e hl d (j + 1) (by omega), List.drop_eq_getElem_cons hj, List.map_cons, List.foldl_cons]
theorem farn_0 (L D : List S73) (hl : L.length ≤ 1048576) (hD : D.length ≤ 1048576) (M : Nat) (hM : L.length + 3 ≤ M) : ∀ d i : Nat, i + d = D.length → ∀ acc k, acc.length ≤ i → M * d + 1 ≤ k → impl_farness.l0 k L acc D D.length i = some (acc ++ (D.drop i).map (fun e => (L.map (fun c => farL (l8 e) (l8 c))).foldl mn 8))
  | 0, i, he, acc, k, ha, hk => by
    obtain ⟨k, rfl⟩ : ∃ q, k = q + 1 := ⟨k - 1, by omega⟩
    simp only [impl_farness.l0]
    rw [if_neg (by omega), List.drop_eq_nil_of_le (by omega)]; simp
  | d + 1, i, he, acc, k, ha, hk => by
    have hi : i < D.length := by omega
    rw [Nat.mul_succ] at hk
    obtain ⟨k, rfl⟩ : ∃ q, k = (q + L.length + 1) + 1 := ⟨k - L.length - 2, by omega⟩
    simp only [impl_farness.l0]
    rw [if_pos (by omega), if_pos (by omega), if_pos (by omega), rd_T73_nat D i hi]
    have h1 := farn_1 L D acc D.length i D[i] hl L.length 0 (by omega) 8 k
    rw [show (0 : Int) = ((0 : Nat) : Int) from rfl] at *
    rw [h1, if_pos (by omega), w64 (i := (i : Int) + 1) (by omega) (by omega), show (i : Int) + 1 = ((i + 1 : Nat) : Int) by omega, farn_0 L D hl hD M hM d (i + 1) (by omega) _ k (by simp; omega) (by omega), List.drop_eq_getElem_cons hi, List.map_cons, List.drop_zero, List.append_assoc, List.singleton_append]
theorem rad_1 (s : List Int) (hs : SpaceOk s) (code : List Int) (hc : ∀ c ∈ code, 0 ≤ c ∧ c < prodL s) (hcl : code.length ≤ 1024) (x w : Int) (hw0 : 0 ≤ w) (hw1 : w < prodL s) : ∀ d j : Nat, j + d = code.length → ∀ y k, 10 ≤ k → spec_l09Radius.l1 (k + d + 1) code x w y code.length j s = spec_l09Radius.l0 k code (mx x (((code.drop j).map (fun c => farL (digL s w) (digL s c))).foldl mn y)) (w + 1) s
  | 0, j, he, y, k, hk => by
    have hP := hs.2.2.2
    simp only [Nat.add_zero, spec_l09Radius.l1]
    rw [if_neg (by omega), List.drop_eq_nil_of_le (by omega), w64 (by omega) (by omega)]; rfl
  | d + 1, j, he, y, k, hk => by
    have hj : j < code.length := by omega
    have hP := hs.2.2.2
    have hcj := hc _ (List.getElem_mem hj)
    obtain ⟨K, hK⟩ : ∃ K, K = k + d + 1 := ⟨_, rfl⟩
    rw [show k + (d + 1) + 1 = K + 1 by omega]
    simp only [spec_l09Radius.l1]
    rw [if_pos (by omega), if_pos (by omega), if_pos (by omega), rd_nat code j hj, specDist_ev s hs.2.2.1 hs.2.1 w _ hw0 (by omega) hcj.1 (by omega) K (by omega), Option.bind_some, w64 (i := (j : Int) + 1) (by omega) (by omega), show (j : Int) + 1 = ((j + 1 : Nat) : Int) by omega, hK, rad_1 s hs code hc hcl x w hw0 hw1 d (j + 1) (by omega) _ k hk, List.drop_eq_getElem_cons hj, List.map_cons, List.foldl_cons]
theorem rad_0 (s : List Int) (hs : SpaceOk s) (code : List Int) (hc : ∀ c ∈ code, 0 ≤ c ∧ c < prodL s) (hcl : code.length ≤ 1024) (M : Nat) (hM : code.length + 3 ≤ M) : ∀ d w : Nat, (w : Int) + d = prodL s → ∀ x k, M * d + 20 ≤ k → spec_l09Radius.l0 k code x w s = some ((((List.range' w d).map Int.ofNat).map (nearS s code s.length)).foldl mx x)
  | 0, w, e, x, k, hk => by
    obtain ⟨k, rfl⟩ : ∃ q, k = q + 1 := ⟨k - 1, by omega⟩
    simp only [spec_l09Radius.l0]
    rw [specN_ev s hs.2.2.1 hs.2.1 k (by omega), Option.bind_some, if_neg (by omega)]; rfl
  | d + 1, w, e, x, k, hk => by
    rw [Nat.mul_succ] at hk
    obtain ⟨k, rfl⟩ : ∃ q, k = (q + code.length + 1) + 1 := ⟨k - code.length - 2, by omega⟩
    simp only [spec_l09Radius.l0]
    rw [specN_ev s hs.2.2.1 hs.2.1 _ (by omega), Option.bind_some, if_pos (by omega)]
    have h1 := rad_1 s hs code hc hcl x w (by omega) (by omega) code.length 0 (by omega) s.length k (by omega)
    rw [show (0 : Int) = ((0 : Nat) : Int) from rfl] at *
    rw [h1, show (w : Int) + 1 = ((w + 1 : Nat) : Int) by omega, rad_0 s hs code hc hcl M hM d (w + 1) (by omega) _ k (by omega), List.range'_succ]
    rfl
theorem mn_first (a b d : Int) (h1 : d ≤ a) (h2 : d ≤ b) : mn a d = mn b d := by
  unfold mn
  split <;> split <;> omega
theorem near_any (s code : List Int) (h8 : s.length ≤ 8) (hne : code ≠ []) (w : Int) : nearS s code s.length w = nearS s code 8 w := by
  cases code with
  | nil => exact absurd rfl hne
  | cons c code =>
    unfold nearS
    rw [List.map_cons, List.foldl_cons, List.foldl_cons]
    have hb := farL_bounds (digL s w) (digL s c)
    rw [digL_len] at hb
    rw [mn_first s.length 8 _ (by omega) (by omega)]
theorem fold_mn_nn : ∀ (l : List Int), (∀ x ∈ l, 0 ≤ x) → ∀ y : Int, 0 ≤ y → 0 ≤ l.foldl mn y
  | [], _, y, hy => hy
  | x :: l, h, y, hy => by
    rw [List.foldl_cons]
    refine fold_mn_nn l (fun z hz => h z (by simp [hz])) _ ?_
    have := h x (by simp)
    unfold mn; split <;> omega
theorem radius_both (s : List Int) (hs : SpaceOk s) (code : List Int) (hc : ∀ c ∈ code, 0 ≤ c ∧ c < prodL s) (hcl : code.length ≤ 1024) (hne : code ≠ []) : ∃ z : Int, ∀ k, 1100000 ≤ k → spec_l09Radius.f k s code = some z ∧ impl_radius.f k s code = some z := by
  obtain ⟨h1, h2⟩ := prodL_le8 s hs.2.2.1 hs.2.1
  have hP := hs.2.2.2
  refine ⟨((words s).map (nearS s code s.length)).foldl mx 0, fun k hk => ⟨?_, ?_⟩⟩
  · unfold spec_l09Radius.f words
    have h := rad_0 s hs code hc hcl 1027 (by omega) (prodL s).toNat 0 (by omega) 0 k (by omega)
    rw [← List.range_eq_range'] at h
    exact h
  · have hwl : (words s).length = (prodL s).toNat := by unfold words; rw [List.length_map, List.length_range]
    have hfar : impl_farness.f k s code = some ((words s).map (nearS s code s.length)) := by
      unfold impl_farness.f
      rw [digAll_ev s hs.2.2.1 hs.2.1 code (fun w hw => by have := hc w hw; omega) (by omega) k (by omega), Option.bind_some, allDig_ev s hs.2.2.1 hs.2.1 k (by omega), Option.bind_some]
      have h := farn_0 (code.map (D8 s)) ((words s).map (D8 s)) (by rw [List.length_map]; omega) (by rw [List.length_map, hwl]; omega) 1027 (by rw [List.length_map]; omega) ((words s).map (D8 s)).length 0 (by omega) [] k (by simp) (by rw [List.length_map, hwl]; omega)
      rw [show (0 : Int) = ((0 : Nat) : Int) from rfl, h]
      congr 1
      rw [List.nil_append, List.drop_zero, List.map_map]
      apply List.map_congr_left
      intro w _
      rw [near_any s code hs.2.1 hne w]
      simp only [Function.comp, nearS, List.map_map]
      congr 1
      apply List.map_congr_left
      intro c _
      simp only [Function.comp]
      exact far_D8 s w c hs.2.1
    unfold impl_radius.f
    rw [hfar, Option.bind_some]
    have hw : words s = 0 :: (words s).tail := by
      have hlen : 0 < (words s).length := by rw [hwl]; omega
      cases hh : words s with
      | nil => rw [hh] at hlen; simp at hlen
      | cons a t =>
        have : (words s)[0]? = some 0 := by
          unfold words; rw [List.getElem?_map, List.getElem?_range (by omega)]; rfl
        rw [hh] at this
        simp at this
        rw [this]; rfl
    rw [hw, List.map_cons]
    simp only [slices_Max_int64_int64.f, Option.bind_some, List.foldl_cons]
    congr 2
    have hn : 0 ≤ nearS s code s.length 0 := by
      unfold nearS
      refine fold_mn_nn _ (fun x hx => ?_) _ (by omega)
      obtain ⟨c, _, rfl⟩ := List.mem_map.1 hx
      exact (farL_bounds _ _).1
    unfold mx
    split <;> omega

theorem specIs_l : ∀ (B A : List Int), (∀ q ∈ A, 2 ≤ q ∧ q ≤ 4) → (A ++ B).length ≤ 8 → ∀ k, B.length + 10 < k → spec_l01Is.l0 k A.length (A ++ B) = some (decide (∀ q ∈ A ++ B, 2 ≤ q ∧ q ≤ 4) && decide (prodL (A ++ B) ≤ 1024))
  | [], A, h, hl, k, hk => by
    obtain ⟨k, rfl⟩ : ∃ q, k = q + 1 := ⟨k - 1, by simp at hk; omega⟩
    simp only [List.append_nil] at hl ⊢
    simp only [spec_l01Is.l0]
    simp only [List.length_nil] at hk
    rw [if_neg (by omega), specN_ev A h hl k (by omega), Option.bind_some]
    simp only [decide_eq_true h, Bool.true_and]
  | b :: B, A, h, hl, k, hk => by
    obtain ⟨k, rfl⟩ : ∃ q, k = q + 1 := ⟨k - 1, by simp at hk; omega⟩
    simp only [spec_l01Is.l0]
    simp only [List.length_append, List.length_cons] at hl hk
    unfold spec_l01In.f
    rw [if_pos (by simp; omega), if_pos (by omega), rd_mid]
    by_cases hb : 2 ≤ b ∧ b ≤ 4
    · rw [if_pos hb.1, Option.bind_some, if_pos (by simpa using hb.2), w64 (by omega) (by omega), show (A.length : Int) + 1 = ((A ++ [b]).length : Int) by simp]
      have := specIs_l B (A ++ [b]) (fun q hq => by simp at hq; rcases hq with hq | rfl; exact h q hq; exact hb) (by simp; omega) k (by omega)
      rw [List.append_assoc, List.singleton_append] at this
      rw [this]
    · have hd : decide (∀ q ∈ A ++ b :: B, 2 ≤ q ∧ q ≤ 4) = false := by
        rw [decide_eq_false_iff_not]; intro hh; exact hb (hh b (by simp))
      rw [hd, Bool.false_and]
      by_cases h1 : b ≥ 2
      · rw [if_pos h1, Option.bind_some, if_neg (by simp; omega)]
      · rw [if_neg h1, Option.bind_some]; rfl
instance (l : List Int) : Decidable (SpaceOk l) := by unfold SpaceOk; infer_instance
theorem specIs_ev (l : List Int) : ∀ k, 30 ≤ k → spec_l01Is.f k l = some (decide (SpaceOk l)) := by
  intro k hk
  unfold spec_l01Is.f
  by_cases h1 : 1 ≤ l.length ∧ l.length ≤ 8
  · have e : spec_l01In.f (l.length : Int) 1 8 = some true := by
      unfold spec_l01In.f; rw [if_pos (by omega)]; simp; omega
    rw [e, Option.bind_some, if_pos rfl]
    have := specIs_l l [] (by simp) (by simpa using h1.2) k (by omega)
    simp only [List.nil_append, List.length_nil] at this
    rw [show (0 : Int) = ((0 : Nat) : Int) from rfl, this]
    congr 1
    rw [Bool.eq_iff_iff]
    simp [SpaceOk, h1]
  · have e : spec_l01In.f (l.length : Int) 1 8 = some false := by
      unfold spec_l01In.f
      by_cases h2 : (l.length : Int) ≥ 1
      · rw [if_pos h2]; simp; omega
      · rw [if_neg h2]
    have hd : decide (SpaceOk l) = false := by
      rw [decide_eq_false_iff_not]; intro hh; exact h1 ⟨hh.1, hh.2.1⟩
    rw [e, Option.bind_some, hd]; rfl

theorem implIs_l : ∀ (B A : List Int), (∀ q ∈ A, 2 ≤ q ∧ q ≤ 4) → (A ++ B).length ≤ 8 → ∀ k, B.length < k → impl_IsSpace.l0 k (prodL A) (A ++ B) (A ++ B).length A.length = some (decide (∀ q ∈ A ++ B, 2 ≤ q ∧ q ≤ 4) && decide (prodL (A ++ B) ≤ 1024))
  | [], A, h, hl, k, hk => by
    obtain ⟨k, rfl⟩ : ∃ q, k = q + 1 := ⟨k - 1, by simp at hk; omega⟩
    simp only [List.append_nil] at hl ⊢
    simp only [impl_IsSpace.l0]
    rw [if_neg (by omega)]
    simp only [decide_eq_true h, Bool.true_and]
  | b :: B, A, h, hl, k, hk => by
    obtain ⟨k, rfl⟩ : ∃ q, k = q + 1 := ⟨k - 1, by simp at hk; omega⟩
    simp only [impl_IsSpace.l0]
    simp only [List.length_append, List.length_cons] at hl hk
    rw [if_pos (by simp; omega), if_pos (by omega), if_pos (by simp; omega), rd_mid]
    by_cases hb : 2 ≤ b ∧ b ≤ 4
    · have hA := prodL_le8 (A ++ [b]) (fun q hq => by simp at hq; rcases hq with hq | rfl; exact h q hq; exact hb) (by simp; omega)
      rw [prodL_snoc] at hA
      rw [if_neg (by omega), if_neg (by omega), w64 (by omega) (by omega), w64 (by omega) (by omega), ← prodL_snoc, show (A.length : Int) + 1 = ((A ++ [b]).length : Int) by simp]
      have := implIs_l B (A ++ [b]) (fun q hq => by simp at hq; rcases hq with hq | rfl; exact h q hq; exact hb) (by simp; omega) k (by omega)
      rw [List.append_assoc, List.singleton_append] at this
      rw [this]
    · have hd : decide (∀ q ∈ A ++ b :: B, 2 ≤ q ∧ q ≤ 4) = false := by
        rw [decide_eq_false_iff_not]; intro hh; exact hb (hh b (by simp))
      rw [hd, Bool.false_and]
      by_cases h1 : b < 2
      · rw [if_pos h1]
      · rw [if_neg h1, if_pos (by omega)]
theorem implIs_ev (l : List Int) : ∀ k, 30 ≤ k → impl_IsSpace.f k l = some (decide (SpaceOk l)) := by
  intro k hk
  obtain ⟨k, rfl⟩ : ∃ q, k = q + 1 := ⟨k - 1, by omega⟩
  unfold impl_IsSpace.f
  by_cases h1 : 1 ≤ l.length ∧ l.length ≤ 8
  · have e : decide ((l.length : Int) > 8) = false := by simp; omega
    rw [if_neg (by omega), e]
    simp only [impl_IsSpace.j0]
    rw [if_neg (by decide)]
    have := implIs_l l [] (by simp) (by simpa using h1.2) k (by omega)
    simp only [List.nil_append, List.length_nil, prodL] at this
    rw [show (0 : Int) = ((0 : Nat) : Int) from rfl, this]
    congr 1
    rw [Bool.eq_iff_iff]
    simp [SpaceOk, h1]
  · have hd : decide (SpaceOk l) = false := by
      rw [decide_eq_false_iff_not]; intro hh; exact h1 ⟨hh.1, hh.2.1⟩
    rw [hd]
    by_cases h2 : (l.length : Int) < 1
    · rw [if_pos h2]; simp [impl_IsSpace.j0]
    · have e : decide ((l.length : Int) > 8) = true := by simp; omega
      rw [if_neg h2, e]; simp [impl_IsSpace.j0]

/-- What a code's words are: ascending, all of them words. -/
def CodeOk (n : Int) (l : List Int) : Prop := ∀ j (hj : j < l.length), (0 ≤ l[j] ∧ l[j] < n) ∧ ∀ h0 : 0 < j, l[j-1]'(by omega) < l[j]
theorem CodeOk.len {n : Int} {l : List Int} (h : CodeOk n l) : l.length = 0 ∨ (l.length : Int) ≤ n := by
  have key : ∀ j (hj : j < l.length), (j : Int) ≤ l[j] := by
    intro j
    induction j with
    | zero => intro hj; have := (h 0 hj).1; omega
    | succ j ih =>
      intro hj
      have h1 := ih (by omega)
      have h2 := (h (j+1) hj).2 (by omega)
      simp only [Nat.add_sub_cancel] at h2
      omega
  by_cases h0 : l.length = 0
  · exact .inl h0
  · right
    have h1 := key (l.length - 1) (by omega)
    have h2 := (h (l.length - 1) (by omega)).1
    omega
def codeFrom (n : Int) (l : List Int) (i : Nat) : Prop := ∀ j (hj : j < l.length), i ≤ j → (0 ≤ l[j] ∧ l[j] < n) ∧ ∀ h0 : 0 < j, l[j-1]'(by omega) < l[j]
theorem specCode_l (s : List Int) (hs : SpaceOk s) (l : List Int) (hl : l.length ≤ 4611686018427387904) : ∀ d i : Nat, i + d = l.length → ∃ b : Bool, (b = true ↔ codeFrom (prodL s) l i) ∧ ∀ k, d + 12 ≤ k → spec_l01Code.l0 k l i s = some b
  | 0, i, e => by
    refine ⟨true, ⟨fun _ j hj hi => by omega, fun _ => rfl⟩, fun k hk => ?_⟩
    obtain ⟨k, rfl⟩ : ∃ q, k = q + 1 := ⟨k - 1, by omega⟩
    simp only [spec_l01Code.l0]; rw [if_neg (by omega)]
  | d+1, i, e => by
    have hi : i < l.length := by omega
    have hr := rd_nat l i hi
    have hw : wrap64 ((i : Int) + 1) = ((i + 1 : Nat) : Int) := by rw [w64 (by omega) (by omega)]; omega
    have hP := prodL_le8 s hs.2.2.1 hs.2.1
    obtain ⟨b, hb, g⟩ := specCode_l s hs l hl d (i+1) (by omega)
    have start : ∀ k, 11 ≤ k → spec_l01Code.l0 (k+1) l i s = (spec_l01In.f l[i] 0 (prodL s - 1)).bind fun t130 => (if t130 = true then (if (i : Int) > 0 then (if 0 ≤ (wrap64 ((i : Int) - 1)) then (if (wrap64 ((i : Int) - 1)) < (l.length : Int) then (if l[i] ≤ (rd l (wrap64 ((i : Int) - 1))) then (some false) else (spec_l01Code.l0 k l ((i + 1 : Nat) : Int) s)) else (none)) else (none)) else (spec_l01Code.l0 k l ((i + 1 : Nat) : Int) s)) else (some false)) := by
      intro k hk
      simp only [spec_l01Code.l0]
      rw [if_pos (by omega), if_pos (by omega), specN_ev s hs.2.2.1 hs.2.1 k (by omega), Option.bind_some, hr, w64 (i := prodL s - 1) (by omega) (by omega), hw]
    by_cases hin : 0 ≤ l[i] ∧ l[i] < prodL s
    · have e1 : spec_l01In.f l[i] 0 (prodL s - 1) = some true := by
        unfold spec_l01In.f; rw [if_pos hin.1]; simp; omega
      by_cases h0 : 0 < i
      · have hw1 : wrap64 ((i : Int) - 1) = ((i - 1 : Nat) : Int) := by rw [w64 (by omega) (by omega)]; omega
        have hr1 := rd_nat l (i - 1) (by omega)
        by_cases hle : l[i] ≤ l[i-1]
        · refine ⟨false, ⟨fun h => absurd h (by decide), fun h => ?_⟩, fun k hk => ?_⟩
          · have := (h i hi (by omega)).2 h0; omega
          · obtain ⟨k, rfl⟩ : ∃ q, k = q + 1 := ⟨k - 1, by omega⟩
            rw [start k (by omega), e1, Option.bind_some, if_pos rfl, if_pos (by omega), hw1, if_pos (by omega), if_pos (by omega), hr1, if_pos hle]
        · refine ⟨b, ⟨fun h j hj hij => ?_, fun h => hb.2 fun j hj hij => h j hj (by omega)⟩, fun k hk => ?_⟩
          · by_cases hji : j = i
            · subst hji; exact ⟨hin, fun _ => by omega⟩
            · exact hb.1 h j hj (by omega)
          · obtain ⟨k, rfl⟩ : ∃ q, k = q + 1 := ⟨k - 1, by omega⟩
            rw [start k (by omega), e1, Option.bind_some, if_pos rfl, if_pos (by omega), hw1, if_pos (by omega), if_pos (by omega), hr1, if_neg hle]
            exact g k (by omega)
      · refine ⟨b, ⟨fun h j hj hij => ?_, fun h => hb.2 fun j hj hij => h j hj (by omega)⟩, fun k hk => ?_⟩
        · by_cases hji : j = i
          · subst hji; exact ⟨hin, fun h1 => absurd h1 h0⟩
          · exact hb.1 h j hj (by omega)
        · obtain ⟨k, rfl⟩ : ∃ q, k = q + 1 := ⟨k - 1, by omega⟩
          rw [start k (by omega), e1, Option.bind_some, if_pos rfl, if_neg (by omega)]
          exact g k (by omega)
    · have e1 : spec_l01In.f l[i] 0 (prodL s - 1) = some false := by
        unfold spec_l01In.f
        by_cases h1 : l[i] ≥ 0
        · rw [if_pos h1]; simp; omega
        · rw [if_neg h1]
      refine ⟨false, ⟨fun h => absurd h (by decide), fun h => absurd (h i hi (by omega)).1 hin⟩, fun k hk => ?_⟩
      obtain ⟨k, rfl⟩ : ∃ q, k = q + 1 := ⟨k - 1, by omega⟩
      rw [start k (by omega), e1, Option.bind_some, if_neg (by decide)]
theorem specCode_ev (s : List Int) (hs : SpaceOk s) (l : List Int) (hl : l.length ≤ 4611686018427387904) : ∃ b : Bool, (b = true ↔ CodeOk (prodL s) l) ∧ ∀ k, l.length + 12 ≤ k → spec_l01Code.f k s l = some b := by
  obtain ⟨b, h, g⟩ := specCode_l s hs l hl l.length 0 (by omega)
  exact ⟨b, ⟨fun hb j hj => h.1 hb j hj (by omega), fun hc => h.2 fun j hj _ => hc j hj⟩, fun k hk => by unfold spec_l01Code.f; exact g k (by omega)⟩

theorem areWords_l (n : Int) (l : List Int) (hl : l.length ≤ 4611686018427387904) : ∀ d i : Nat, i + d = l.length → ∃ b : Bool, (b = true ↔ ∀ j (hj : j < l.length), i ≤ j → 0 ≤ l[j] ∧ l[j] < n) ∧ ∀ k, d + 1 ≤ k → impl_areWords.l0 k n l l.length i = some b
  | 0, i, e => by
    refine ⟨true, ⟨fun _ j hj hi => by omega, fun _ => rfl⟩, fun k hk => ?_⟩
    obtain ⟨k, rfl⟩ : ∃ q, k = q + 1 := ⟨k - 1, by omega⟩
    simp only [impl_areWords.l0]; rw [if_neg (by omega)]
  | d+1, i, e => by
    have hi : i < l.length := by omega
    have hr := rd_nat l i hi
    have hw : wrap64 ((i : Int) + 1) = ((i + 1 : Nat) : Int) := by rw [w64 (by omega) (by omega)]; omega
    obtain ⟨b, hb, g⟩ := areWords_l n l hl d (i+1) (by omega)
    by_cases hin : 0 ≤ l[i] ∧ l[i] < n
    · refine ⟨b, ⟨fun h j hj hij => ?_, fun h => hb.2 fun j hj hij => h j hj (by omega)⟩, fun k hk => ?_⟩
      · by_cases hji : j = i
        · subst hji; exact hin
        · exact hb.1 h j hj (by omega)
      · obtain ⟨k, rfl⟩ : ∃ q, k = q + 1 := ⟨k - 1, by omega⟩
        simp only [impl_areWords.l0]
        rw [if_pos (by omega), if_pos (by omega), if_pos (by omega), hr, if_neg (by omega), if_neg (by omega), hw]
        exact g k (by omega)
    · refine ⟨false, ⟨fun h => absurd h (by decide), fun h => absurd (h i hi (by omega)) hin⟩, fun k hk => ?_⟩
      obtain ⟨k, rfl⟩ : ∃ q, k = q + 1 := ⟨k - 1, by omega⟩
      simp only [impl_areWords.l0]
      rw [if_pos (by omega), if_pos (by omega), if_pos (by omega), hr]
      by_cases h1 : l[i] < 0
      · rw [if_pos h1]
      · rw [if_neg h1, if_pos (by omega)]
theorem areWords_ev (s : List Int) (hs : SpaceOk s) (l : List Int) (hl : l.length ≤ 4611686018427387904) : ∃ b : Bool, (b = true ↔ ∀ j (hj : j < l.length), 0 ≤ l[j] ∧ l[j] < prodL s) ∧ ∀ k, l.length + 12 ≤ k → impl_areWords.f k s l = some b := by
  obtain ⟨b, h, g⟩ := areWords_l (prodL s) l hl l.length 0 (by omega)
  refine ⟨b, ⟨fun hb j hj => h.1 hb j hj (by omega), fun hc => h.2 fun j hj _ => hc j hj⟩, fun k hk => ?_⟩
  unfold impl_areWords.f
  rw [implCount_ev s hs.2.2.1 hs.2.1 k (by omega), Option.bind_some]
  exact g k (by omega)
theorem ascend_l (l : List Int) (hl : l.length ≤ 4611686018427387904) : ∀ d i : Nat, i + d = l.length → 1 ≤ i → ∃ b : Bool, (b = true ↔ ∀ j (hj : j < l.length), i ≤ j → ∀ h0 : 0 < j, l[j-1]'(by omega) < l[j]) ∧ ∀ k, d + 1 ≤ k → impl_isCode.l0 k l i = some b
  | 0, i, e, h1 => by
    refine ⟨true, ⟨fun _ j hj hi => by omega, fun _ => rfl⟩, fun k hk => ?_⟩
    obtain ⟨k, rfl⟩ : ∃ q, k = q + 1 := ⟨k - 1, by omega⟩
    simp only [impl_isCode.l0]; rw [if_neg (by omega)]
  | d+1, i, e, h1 => by
    have hi : i < l.length := by omega
    have hr := rd_nat l i hi
    have hr1 := rd_nat l (i - 1) (by omega)
    have hw : wrap64 ((i : Int) + 1) = ((i + 1 : Nat) : Int) := by rw [w64 (by omega) (by omega)]; omega
    have hw1 : wrap64 ((i : Int) - 1) = ((i - 1 : Nat) : Int) := by rw [w64 (by omega) (by omega)]; omega
    obtain ⟨b, hb, g⟩ := ascend_l l hl d (i+1) (by omega) (by omega)
    by_cases hle : l[i] ≤ l[i-1]
    · refine ⟨false, ⟨fun h => absurd h (by decide), fun h => ?_⟩, fun k hk => ?_⟩
      · have := h i hi (by omega) (by omega); omega
      · obtain ⟨k, rfl⟩ : ∃ q, k = q + 1 := ⟨k - 1, by omega⟩
        simp only [impl_isCode.l0]
        rw [if_pos (by omega), if_pos (by omega), hw1, if_pos (by omega), if_pos (by omega), hr, hr1, if_pos hle]
    · refine ⟨b, ⟨fun h j hj hij h0 => ?_, fun h => hb.2 fun j hj hij h0 => h j hj (by omega) h0⟩, fun k hk => ?_⟩
      · by_cases hji : j = i
        · subst hji; omega
        · exact hb.1 h j hj (by omega) h0
      · obtain ⟨k, rfl⟩ : ∃ q, k = q + 1 := ⟨k - 1, by omega⟩
        simp only [impl_isCode.l0]
        rw [if_pos (by omega), if_pos (by omega), hw1, if_pos (by omega), if_pos (by omega), hr, hr1, if_neg hle, hw]
        exact g k (by omega)
theorem isCode_ev (s : List Int) (hs : SpaceOk s) (l : List Int) (hl : l.length ≤ 4611686018427387904) : ∃ b : Bool, (b = true ↔ CodeOk (prodL s) l) ∧ ∀ k, l.length + 14 ≤ k → impl_isCode.f k s l = some b := by
  have hP := prodL_le8 s hs.2.2.1 hs.2.1
  obtain ⟨b1, hb1, g1⟩ := areWords_ev s hs l hl
  by_cases hlen : (l.length : Int) > prodL s
  · refine ⟨false, ⟨fun h => absurd h (by decide), fun h => ?_⟩, fun k hk => ?_⟩
    · rcases h.len with h2 | h2 <;> omega
    · obtain ⟨k, rfl⟩ : ∃ q, k = q + 1 := ⟨k - 1, by omega⟩
      unfold impl_isCode.f
      rw [implCount_ev s hs.2.2.1 hs.2.1 _ (by omega), Option.bind_some, if_pos hlen]
      simp [impl_isCode.j0]
  · cases hb : b1 with
    | false =>
      subst hb
      refine ⟨false, ⟨fun h => absurd h (by decide), fun h => ?_⟩, fun k hk => ?_⟩
      · exact absurd (hb1.2 fun j hj => (h j hj).1) (by decide)
      · obtain ⟨k, rfl⟩ : ∃ q, k = q + 1 := ⟨k - 1, by omega⟩
        unfold impl_isCode.f
        rw [implCount_ev s hs.2.2.1 hs.2.1 _ (by omega), Option.bind_some, if_neg hlen, g1 _ (by omega), Option.bind_some]
        simp [impl_isCode.j0]
    | true =>
      subst hb
      have hall := hb1.1 rfl
      obtain ⟨b, hb, g⟩ : ∃ b : Bool, (b = true ↔ ∀ j (hj : j < l.length), 1 ≤ j → ∀ h0 : 0 < j, l[j-1]'(by omega) < l[j]) ∧ ∀ k, l.length + 1 ≤ k → impl_isCode.l0 k l 1 = some b := by
        by_cases h0 : l.length = 0
        · refine ⟨true, ⟨fun _ j hj => by omega, fun _ => rfl⟩, fun k hk => ?_⟩
          obtain ⟨k, rfl⟩ : ∃ q, k = q + 1 := ⟨k - 1, by omega⟩
          simp only [impl_isCode.l0]; rw [if_neg (by omega)]
        · obtain ⟨b, hb, g⟩ := ascend_l l hl (l.length - 1) 1 (by omega) (by omega)
          exact ⟨b, hb, fun k hk => g k (by omega)⟩
      refine ⟨b, ⟨fun h j hj => ⟨hall j hj, fun h0 => hb.1 h j hj (by omega) h0⟩, fun h => hb.2 fun j hj _ h0 => (h j hj).2 h0⟩, fun k hk => ?_⟩
      obtain ⟨k, rfl⟩ : ∃ q, k = q + 1 := ⟨k - 1, by omega⟩
      unfold impl_isCode.f
      rw [implCount_ev s hs.2.2.1 hs.2.1 _ (by omega), Option.bind_some, if_neg hlen, g1 _ (by omega), Option.bind_some]
      simp only [Bool.not_true, impl_isCode.j0]
      rw [if_neg (by decide)]
      exact g k (by omega)

theorem word_nil (s : List Int) (k : Nat) (hk : 40 ≤ k) : impl_wordCode.f k s [] = some (if SpaceOk s then 0 else 1) := by
  unfold impl_wordCode.f
  rw [implIs_ev s k (by omega), Option.bind_some]
  by_cases hs : SpaceOk s
  · obtain ⟨b, hb, g⟩ := areWords_ev s hs [] (by simp)
    have : b = true := hb.2 (fun j hj => by simp at hj)
    subst this
    rw [decide_eq_true hs, if_pos rfl, g k (by simp; omega), Option.bind_some, if_pos rfl, if_pos hs]
  · rw [decide_eq_false hs, if_neg (by decide), if_neg hs]
theorem given_both (s l : List Int) (hl : l.length ≤ 1048576) : (∃ c : Int, c ≠ 0 ∧ ∀ k, 1048700 ≤ k → spec_l01Given.f k s l = some c ∧ impl_codeCode.f k s l [] = some c) ∨ (SpaceOk s ∧ CodeOk (prodL s) l ∧ ∀ k, 1048700 ≤ k → spec_l01Given.f k s l = some 0 ∧ impl_codeCode.f k s l [] = some 0) := by
  by_cases hs : SpaceOk s
  · obtain ⟨b1, e1, g1⟩ := specCode_ev s hs l (by omega)
    obtain ⟨b2, e2, g2⟩ := isCode_ev s hs l (by omega)
    obtain rfl : b1 = b2 := by rw [Bool.eq_iff_iff, e1, e2]
    cases b1 with
    | true =>
      refine .inr ⟨hs, e1.1 rfl, fun k hk => ⟨?_, ?_⟩⟩
      · unfold spec_l01Given.f
        rw [specIs_ev s k (by omega), decide_eq_true hs, Option.bind_some, if_pos rfl, g1 k (by omega), Option.bind_some, if_pos rfl]
      · unfold impl_codeCode.f
        rw [word_nil s k (by omega), if_pos hs, Option.bind_some, if_pos rfl, g2 k (by omega), Option.bind_some, if_pos rfl]
    | false =>
      refine .inl ⟨2, by decide, fun k hk => ⟨?_, ?_⟩⟩
      · unfold spec_l01Given.f
        rw [specIs_ev s k (by omega), decide_eq_true hs, Option.bind_some, if_pos rfl, g1 k (by omega), Option.bind_some, if_neg (by decide)]
      · unfold impl_codeCode.f
        rw [word_nil s k (by omega), if_pos hs, Option.bind_some, if_pos rfl, g2 k (by omega), Option.bind_some, if_neg (by decide)]
  · refine .inl ⟨1, by decide, fun k hk => ⟨?_, ?_⟩⟩
    · unfold spec_l01Given.f
      rw [specIs_ev s k (by omega), decide_eq_false hs, Option.bind_some, if_neg (by decide)]
    · unfold impl_codeCode.f
      rw [word_nil s k (by omega), if_neg hs, Option.bind_some, if_neg (by decide)]
theorem code_words {n : Int} {l : List Int} (h : CodeOk n l) (hn0 : 0 ≤ n) (hn : n ≤ 1024) : (∀ c ∈ l, 0 ≤ c ∧ c < n) ∧ l.length ≤ 1024 := by
  refine ⟨fun c hc => ?_, ?_⟩
  · obtain ⟨j, hj, rfl⟩ := List.getElem_of_mem hc
    exact (h j hj).1
  · rcases h.len with h | h <;> omega

theorem fit_l (s : List Int) (hs : SpaceOk s) (code : List Int) (hc : ∀ c ∈ code, 0 ≤ c ∧ c < prodL s) (hcl : code.length ≤ 1024) (z : Int) : ∀ d i : Nat, i + d = s.length → ∀ acc : List Int, acc.length ≤ i → ∃ R : List Int, R.length ≤ 8 ∧ ∀ k, 700000 + d < k → spec_l09Fit.l0 k code z acc i s = some R ∧ impl_fitPlaces.l0 k code z acc s s.length i s = some R
  | 0, i, e, acc, ha => by
    have h8 := hs.2.1
    refine ⟨acc, by omega, fun k hk => ?_⟩
    obtain ⟨k, rfl⟩ : ∃ q, k = q + 1 := ⟨k - 1, by omega⟩
    refine ⟨?_, ?_⟩
    · simp only [spec_l09Fit.l0]; rw [if_neg (by omega)]
    · simp only [impl_fitPlaces.l0]; rw [if_neg (by omega)]
  | d + 1, i, e, acc, ha => by
    have h8 := hs.2.1
    have hi : i < s.length := by omega
    have hw : wrap64 ((i : Int) + 1) = ((i + 1 : Nat) : Int) := by rw [w64 (by omega) (by omega)]; omega
    obtain ⟨v, hv⟩ := norm_both s hs code hc hcl i hi
    by_cases ht : v ≤ wrap64 (wrap64 (wrap64 (rd s (i : Int) * z) + rd s (i : Int)) - 1)
    · obtain ⟨R, h1, h2⟩ := fit_l s hs code hc hcl z d (i + 1) (by omega) (acc ++ [(i : Int)]) (by simp; omega)
      refine ⟨R, h1, fun k hk => ?_⟩
      obtain ⟨k, rfl⟩ : ∃ q, k = q + 1 := ⟨k - 1, by omega⟩
      refine ⟨?_, ?_⟩
      · simp only [spec_l09Fit.l0]
        rw [if_pos (by omega), if_pos (by omega), (hv k (by omega)).1, Option.bind_some, if_pos ht, if_pos (by omega), hw]
        exact (h2 k (by omega)).1
      · simp only [impl_fitPlaces.l0]
        rw [if_pos (by omega), if_pos (by omega), if_pos (by omega), (hv k (by omega)).2, Option.bind_some, if_pos ht, if_pos (by omega), hw]
        exact (h2 k (by omega)).2
    · obtain ⟨R, h1, h2⟩ := fit_l s hs code hc hcl z d (i + 1) (by omega) acc (by omega)
      refine ⟨R, h1, fun k hk => ?_⟩
      obtain ⟨k, rfl⟩ : ∃ q, k = q + 1 := ⟨k - 1, by omega⟩
      refine ⟨?_, ?_⟩
      · simp only [spec_l09Fit.l0]
        rw [if_pos (by omega), if_pos (by omega), (hv k (by omega)).1, Option.bind_some, if_neg ht, hw]
        exact (h2 k (by omega)).1
      · simp only [impl_fitPlaces.l0]
        rw [if_pos (by omega), if_pos (by omega), if_pos (by omega), (hv k (by omega)).2, Option.bind_some, if_neg ht, hw]
        exact (h2 k (by omega)).2
theorem fit_both (s : List Int) (hs : SpaceOk s) (code : List Int) (hc : ∀ c ∈ code, 0 ≤ c ∧ c < prodL s) (hcl : code.length ≤ 1024) (hne : code ≠ []) : ∃ R : List Int, R.length ≤ 8 ∧ ∀ k, 1100000 ≤ k → spec_l09Fit.f k s code = some R ∧ impl_fitPlaces.f k s code = some R := by
  have h8 := hs.2.1
  obtain ⟨z, hz⟩ := radius_both s hs code hc hcl hne
  obtain ⟨R, h1, h2⟩ := fit_l s hs code hc hcl z s.length 0 (by omega) [] (by simp)
  refine ⟨R, h1, fun k hk => ⟨?_, ?_⟩⟩
  · unfold spec_l09Fit.f
    rw [(hz k hk).1, Option.bind_some]
    exact (h2 k (by omega)).1
  · unfold impl_fitPlaces.f
    rw [(hz k hk).2, Option.bind_some]
    exact (h2 k (by omega)).2
theorem some_both (s l : List Int) (hl : l.length ≤ 1048576) : (∃ c : Int, c ≠ 0 ∧ ∀ k, 1048700 ≤ k → spec_l09Given.f k s l = some c ∧ impl_someCode.f k s l [] = some c) ∨ (SpaceOk s ∧ CodeOk (prodL s) l ∧ l ≠ [] ∧ ∀ k, 1048700 ≤ k → spec_l09Given.f k s l = some 0 ∧ impl_someCode.f k s l [] = some 0) := by
  rcases given_both s l hl with ⟨c, hc, g⟩ | ⟨hs, hcode, g⟩
  · refine .inl ⟨c, hc, fun k hk => ⟨?_, ?_⟩⟩
    · unfold spec_l09Given.f; rw [(g k hk).1, Option.bind_some, if_neg hc]
    · unfold impl_someCode.f; rw [(g k hk).2, Option.bind_some, if_neg hc]
  · by_cases h0 : l = []
    · subst h0
      refine .inl ⟨5, by decide, fun k hk => ⟨?_, ?_⟩⟩
      · unfold spec_l09Given.f; rw [(g k hk).1, Option.bind_some, if_pos rfl, if_pos (by simp)]
      · unfold impl_someCode.f; rw [(g k hk).2, Option.bind_some, if_pos rfl, if_pos (by simp)]
    · have hn : ¬ (l.length : Int) = 0 := by
        intro h
        exact h0 (List.length_eq_zero_iff.1 (by omega))
      refine .inr ⟨hs, hcode, h0, fun k hk => ⟨?_, ?_⟩⟩
      · unfold spec_l09Given.f; rw [(g k hk).1, Option.bind_some, if_pos rfl, if_neg hn]
      · unfold impl_someCode.f; rw [(g k hk).2, Option.bind_some, if_pos rfl, if_neg hn]

theorem eq_l (l : List Int) (hl : l.length ≤ 4611686018427387904) : ∀ d i : Nat, i + d = l.length → ∀ k, d < k → laws_eqInt64S.l0 k l l i = some true
  | 0, i, e, k, hk => by
    obtain ⟨k, rfl⟩ : ∃ q, k = q + 1 := ⟨k - 1, by omega⟩
    simp only [laws_eqInt64S.l0]; rw [if_neg (by omega)]
  | d+1, i, e, k, hk => by
    obtain ⟨k, rfl⟩ : ∃ q, k = q + 1 := ⟨k - 1, by omega⟩
    simp only [laws_eqInt64S.l0]
    rw [if_pos (by omega), if_pos (by omega), if_pos (by omega), if_pos trivial, w64 (by omega) (by omega), show (i : Int) + 1 = ((i + 1 : Nat) : Int) by omega]
    exact eq_l l hl d (i+1) (by omega) k (by omega)
theorem eq_ev (l : List Int) (hl : l.length ≤ 4611686018427387904) (k : Nat) (hk : l.length < k) : laws_eqInt64S.f k l l = some true := by
  unfold laws_eqInt64S.f
  rw [if_pos rfl]
  exact eq_l l hl l.length 0 (by omega) k hk

theorem to_l (l : List Int) (hl : l.length ≤ 4611686018427387904) : ∀ (B A : List Int), l = A ++ B → ∀ k, B.length < k → laws_toInt64S.l0 k l (A ++ List.replicate B.length 0) A.length = some l
  | [], A, e, k, hk => by
    obtain ⟨k, rfl⟩ : ∃ q, k = q + 1 := ⟨k - 1, by simp at hk; omega⟩
    simp only [laws_toInt64S.l0]
    simp at e
    subst e
    rw [if_neg (by omega)]; simp
  | b :: B, A, e, k, hk => by
    obtain ⟨k, rfl⟩ : ∃ q, k = q + 1 := ⟨k - 1, by simp at hk; omega⟩
    simp only [laws_toInt64S.l0]
    have hlen : l.length = A.length + (B.length + 1) := by rw [e]; simp
    rw [if_pos (by omega), if_pos (by omega), if_pos (by simp; omega)]
    have hb : rd l (A.length : Int) = b := by rw [e]; exact rd_mid A B b
    rw [hb, List.length_cons, List.replicate_succ, Int.toNat_natCast, set_mid, w64 (by omega) (by omega), show (A.length : Int) + 1 = ((A ++ [b]).length : Int) by simp]
    exact to_l l hl B (A ++ [b]) (by rw [e]; simp) k (by simp at hk; omega)
theorem to_ev (l : List Int) (hl : l.length ≤ 1048576) (k : Nat) (hk : 1048576 < k) : laws_toInt64S.f k l = some l := by
  unfold laws_toInt64S.f
  rw [if_pos (by omega), if_pos (by omega), Int.toNat_natCast]
  exact to_l l (by omega) l [] rfl k (by omega)

theorem sz_le (l : List Int) (h : l.length ≤ 1048576) : ∃ z : Int, laws_szSpace.f l 1048576 = some z ∧ ¬ z < 0 := by
  unfold laws_szSpace.f laws_szInt64S.f
  rw [w64 (by omega) (by omega), if_neg (by omega)]
  simp only [Option.bind_some]
  rw [if_neg (by omega)]
  exact ⟨_, rfl, by omega⟩
theorem sz_gt (l : List Int) (h : 1048576 < l.length) (hm : l.length ≤ 9223372036854775807) : ∃ z : Int, laws_szSpace.f l 1048576 = some z ∧ z < 0 := by
  unfold laws_szSpace.f laws_szInt64S.f
  rw [w64 (by omega) (by omega), if_pos (by omega)]
  exact ⟨-1, rfl, by omega⟩
theorem toSp_ev (l : List Int) (hl : l.length ≤ 1048576) (k : Nat) (hk : 1048576 < k) : laws_toSpace.f k l = some l := by
  unfold laws_toSpace.f
  rw [to_ev l hl k hk]; rfl
theorem eqSp_ev (l : List Int) (hl : l.length ≤ 4611686018427387904) (k : Nat) (hk : l.length < k) : laws_eqSpace.f k l l = some true := by
  unfold laws_eqSpace.f
  rw [eq_ev l hl k hk]; rfl

theorem seqI_len (s : Int) (n : Nat) : (seqI s n).length = n := by
  induction n generalizing s with
  | zero => rfl
  | succ n ih => simp [seqI, ih]
theorem mark_l : ∀ (B A : List Int) (s : Int), 0 ≤ s → s + B.length ≤ 4611686018427387904 → A.length + B.length ≤ 4611686018427387904 → ∀ k, B.length < k → laws_markInt64S.l0 k (A ++ B) s A.length = some (s + B.length, A ++ seqI s B.length)
  | [], A, s, h0, h1, h2, k, hk => by
    obtain ⟨k, rfl⟩ : ∃ q, k = q + 1 := ⟨k - 1, by simp at hk; omega⟩
    simp only [laws_markInt64S.l0]
    rw [if_neg (by simp)]; simp [seqI]
  | b :: B, A, s, h0, h1, h2, k, hk => by
    obtain ⟨k, rfl⟩ : ∃ q, k = q + 1 := ⟨k - 1, by simp at hk; omega⟩
    simp only [laws_markInt64S.l0]
    simp only [List.length_cons] at h1 h2 hk
    rw [if_pos (by simp; omega), if_pos (by omega), Int.toNat_natCast, set_mid, w64 (by omega) (by omega), w64 (by omega) (by omega), show (A.length : Int) + 1 = ((A ++ [s]).length : Int) by simp]
    rw [mark_l B (A ++ [s]) (s+1) (by omega) (by omega) (by simp; omega) k (by omega)]
    simp only [List.length_cons, seqI, List.append_assoc, List.singleton_append]
    congr 2
    omega
theorem held_l : ∀ (n : Nat) (A : List Int) (s : Int), 0 ≤ s → s + n ≤ 4611686018427387904 → A.length + n ≤ 4611686018427387904 → ∀ k, n < k → laws_heldInt64S.l0 k (A ++ seqI s n) s A.length = some (s + n)
  | 0, A, s, h0, h1, h2, k, hk => by
    obtain ⟨k, rfl⟩ : ∃ q, k = q + 1 := ⟨k - 1, by omega⟩
    simp only [laws_heldInt64S.l0]
    rw [if_neg (by simp [seqI])]; simp
  | n+1, A, s, h0, h1, h2, k, hk => by
    obtain ⟨k, rfl⟩ : ∃ q, k = q + 1 := ⟨k - 1, by omega⟩
    show laws_heldInt64S.l0 (k+1) (A ++ s :: seqI (s+1) n) s A.length = _
    simp only [laws_heldInt64S.l0]
    rw [if_pos (by simp; omega), if_pos (by omega), rd_mid, if_pos rfl, w64 (by omega) (by omega), w64 (by omega) (by omega), show (A.length : Int) + 1 = ((A ++ [s]).length : Int) by simp]
    have := held_l n (A ++ [s]) (s+1) (by omega) (by omega) (by simp; omega) k (by omega)
    rw [List.append_assoc, List.singleton_append] at this
    rw [this]
    congr 1; omega
theorem mark_held (l : List Int) (hl : l.length ≤ 1048576) (k : Nat) (hk : 1048576 < k) : ∃ l', laws_markInt64S.f k l 1 = some (1 + (l.length : Int), l') ∧ ∀ k, 1048576 < k → laws_heldInt64S.f k l' 1 = some (1 + (l.length : Int)) := by
  refine ⟨seqI 1 l.length, ?_, fun k hk => ?_⟩
  · unfold laws_markInt64S.f
    exact mark_l l [] 1 (by omega) (by omega) (by simp; omega) k (by omega)
  · unfold laws_heldInt64S.f
    exact held_l l.length [] 1 (by omega) (by omega) (by simp; omega) k (by omega)

theorem mark_from (l : List Int) (hl : l.length ≤ 1048576) (s : Int) (h0 : 0 ≤ s) (h1 : s ≤ 1048577) (k : Nat) (hk : 1048576 < k) : ∃ l', laws_markInt64S.f k l s = some (s + (l.length : Int), l') := by
  refine ⟨seqI s l.length, ?_⟩
  unfold laws_markInt64S.f
  exact mark_l l [] s h0 (by omega) (by simp; omega) k (by omega)
theorem markSp_ev (l : List Int) (hl : l.length ≤ 1048576) (k : Nat) (hk : 1048576 < k) : ∃ l', laws_markSpace.f k l 1 = some (1 + (l.length : Int), l') := by
  obtain ⟨l', h⟩ := mark_from l hl 1 (by omega) (by omega) k hk
  refine ⟨l', ?_⟩
  unfold laws_markSpace.f
  rw [h]; rfl

theorem fitPlaces_both (s l : List Int) (hl : l.length ≤ 1048576) : ∃ (z : List Int) (e : Int), z.length ≤ 8 ∧ ∀ k, 1100000 ≤ k → spec_FitPlaces.f k s l = some (z, e) ∧ impl_FitPlaces.f k s l = some (z, e) := by
  rcases some_both s l hl with ⟨c, hc, g⟩ | ⟨hs, hcode, hne, g⟩
  · refine ⟨[], c, by simp, fun k hk => ⟨?_, ?_⟩⟩
    · unfold spec_FitPlaces.f; rw [(g k (by omega)).1, Option.bind_some, if_neg hc]
    · unfold impl_FitPlaces.f; rw [(g k (by omega)).2, Option.bind_some, if_neg hc]
  · obtain ⟨p1, p2⟩ := prodL_le8 s hs.2.2.1 hs.2.1
    obtain ⟨q1, q2⟩ := code_words hcode (by omega) hs.2.2.2
    obtain ⟨R, hR8, hR⟩ := fit_both s hs l q1 q2 hne
    refine ⟨R, 0, hR8, fun k hk => ⟨?_, ?_⟩⟩
    · unfold spec_FitPlaces.f; rw [(g k (by omega)).1, Option.bind_some, if_pos rfl, (hR k hk).1]; rfl
    · unfold impl_FitPlaces.f; rw [(g k (by omega)).2, Option.bind_some, if_pos rfl, (hR k hk).2]; rfl
theorem FnExactFitPlaces (l0 : List Int) (_ : l0.length ≤ maxLen) (_ : ∀ x ∈ l0, (Lit.int .i64 x).wf = true) (l1 : List Int) (_ : l1.length ≤ maxLen) (_ : l1.length * 8 ≤ 140737488351232) (_ : ∀ x ∈ l1, (Lit.int .i64 x).wf = true) : ∃ k, laws_FnExactFitPlaces.f k l0 l1 = some true := by
  rename_i hm0 _ hm1 _ _
  unfold maxLen at hm0 hm1
  by_cases hl : (l1.length : Int) > 1048576
  · refine ⟨0, ?_⟩
    unfold laws_FnExactFitPlaces.f
    rw [if_pos hl]
  have hl1 : l1.length ≤ 1048576 := by omega
  by_cases h0 : 1048576 < l0.length
  · obtain ⟨z, hz, hz0⟩ := sz_gt l0 h0 (by omega)
    refine ⟨0, ?_⟩
    unfold laws_FnExactFitPlaces.f
    rw [if_neg hl, hz, Option.bind_some, if_pos hz0]
  have hl0 : l0.length ≤ 1048576 := by omega
  obtain ⟨z, hz, hz0⟩ := sz_le l0 hl0
  obtain ⟨v, e, hv, hb⟩ := fitPlaces_both l0 l1 hl1
  obtain ⟨k, hk⟩ : ∃ k : Nat, 1100000 ≤ k := ⟨1100000, Nat.le_refl _⟩
  obtain ⟨x0, hx0⟩ := markSp_ev l0 hl0 (k+2) (by omega)
  obtain ⟨x1, hx1⟩ := mark_from l1 hl1 (1 + (l0.length : Int)) (by omega) (by omega) (k+2) (by omega)
  obtain ⟨v', hm, hh⟩ := mark_held v (by omega) (k+1) (by omega)
  have hneg1 : ¬ (1 + (l0.length : Int) + (l1.length : Int) < 0) := by omega
  have hneg : ¬ (1 + (v.length : Int) < 0) := by omega
  refine ⟨k + 3, ?_⟩
  unfold laws_FnExactFitPlaces.f
  rw [if_neg hl, hz, Option.bind_some, if_neg hz0, toSp_ev l0 hl0 (k+3) (by omega), Option.bind_some, to_ev l1 hl1 (k+3) (by omega)]
  simp only [Option.bind_some]
  rw [(hb (k+3) (by omega)).1, (hb (k+3) (by omega)).2]
  simp only [Option.bind_some]
  rw [eq_ev v (by omega) (k+3) (by omega)]
  simp only [Option.bind_some, if_true, bne_self_eq_false, laws_FnExactFitPlaces.j0, Bool.false_eq_true, if_false]
  rw [toSp_ev l0 hl0 (k+2) (by omega), Option.bind_some, eqSp_ev l0 (by omega) (k+2) (by omega), Option.bind_some, if_pos rfl, to_ev l1 hl1 (k+2) (by omega), Option.bind_some, eq_ev l1 (by omega) (k+2) (by omega), Option.bind_some, if_pos rfl, hx0]
  simp only [Option.bind_some]
  rw [hx1]
  simp only [Option.bind_some]
  rw [if_neg hneg1, eq_ev v (by omega) (k+2) (by omega)]
  simp only [Option.bind_some, if_true, laws_FnExactFitPlaces.j1, Bool.false_eq_true, if_false]
  rw [hm]
  simp only [Option.bind_some]
  rw [hh (k+1) (by omega)]
  simp only [Option.bind_some]
  rw [if_neg hneg, if_pos trivial, toSp_ev l0 hl0 (k+1) (by omega), Option.bind_some, to_ev l1 hl1 (k+1) (by omega), Option.bind_some, (hb (k+1) (by omega)).2]
  simp only [Option.bind_some]
  rw [eq_ev v (by omega) (k+1) (by omega)]
  simp only [Option.bind_some, if_true, bne_self_eq_false, laws_FnExactFitPlaces.j2, Bool.false_eq_true, if_false]
  rw [hh k (by omega)]
  simp [hneg]

end Go.Proofs.Ythjkdnneagnejaa.Pure
