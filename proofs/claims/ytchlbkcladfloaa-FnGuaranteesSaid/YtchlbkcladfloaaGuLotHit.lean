/- How many draws a ticket hits depends on how many numbers it has alone. n at most 12. -/
import Derived.Test.YtchlbkcladfloaaGuLotMath
namespace Go.Proofs.Ytchlbkcladfloaa.LotM
theorem land_half (a b : Nat) : (a &&& b) % 2 = (a % 2) * (b % 2) ∧ (a &&& b) / 2 = (a / 2) &&& (b / 2) := by
  constructor
  · have h := Nat.and_mod_two_eq_one (a := a) (b := b)
    have ha : a % 2 = 0 ∨ a % 2 = 1 := by omega
    have hb : b % 2 = 0 ∨ b % 2 = 1 := by omega
    have hc : (a &&& b) % 2 = 0 ∨ (a &&& b) % 2 = 1 := by omega
    rcases ha with ha | ha <;> rcases hb with hb | hb <;> rcases hc with hc | hc <;> simp_all
  · exact Nat.and_div_two
theorem land_lt (n a b : Nat) (ha : a < 2^n) : a &&& b < 2^n := Nat.lt_of_le_of_lt Nat.and_le_left ha
theorem land_pow (n : Nat) : ∀ x y, x < 2^n → y < 2^n → (x + 2^n) &&& (y + 2^n) = (x &&& y) + 2^n ∧ (x + 2^n) &&& y = x &&& y ∧ x &&& (y + 2^n) = x &&& y := by
  induction n with
  | zero => intro x y hx hy; have : x = 0 := by simp at hx; omega
            have : y = 0 := by simp at hy; omega
            subst_vars; decide
  | succ n ih =>
    intro x y hx hy
    rw [Nat.pow_succ] at hx hy
    have := ih (x/2) (y/2) (by omega) (by omega)
    have e : ∀ z, (z + 2^(n+1)) / 2 = z / 2 + 2^n := fun z => by rw [Nat.pow_succ]; omega
    have f : ∀ z, (z + 2^(n+1)) % 2 = z % 2 := fun z => by rw [Nat.pow_succ]; omega
    refine ⟨?_, ?_, ?_⟩
    · have h1 := land_half (x + 2^(n+1)) (y + 2^(n+1))
      have h2 := land_half x y
      rw [e, e, f, f, this.1] at h1
      have h3 : 2^(n+1) = 2 * 2^n := by rw [Nat.pow_succ]; omega
      omega
    · have h1 := land_half (x + 2^(n+1)) y
      have h2 := land_half x y
      rw [e, f, this.2.1] at h1
      omega
    · have h1 := land_half x (y + 2^(n+1))
      have h2 := land_half x y
      rw [e, f, this.2.2] at h1
      omega
def sumTo (f : Nat → Nat) : Nat → Nat
  | 0 => 0
  | n+1 => sumTo f n + f n
theorem sumTo_congr {f g : Nat → Nat} (n : Nat) (h : ∀ j, j < n → f j = g j) : sumTo f n = sumTo g n := by
  induction n with
  | zero => rfl
  | succ n ih => simp only [sumTo]; rw [ih (fun j hj => h j (by omega)), h n (by omega)]
theorem sumTo_add (f g : Nat → Nat) (n : Nat) : sumTo (fun j => f j + g j) n = sumTo f n + sumTo g n := by
  induction n with
  | zero => rfl
  | succ n ih => simp only [sumTo, ih]; omega
theorem sumTo_shift (f : Nat → Nat) (n : Nat) : sumTo f (n+1) = f 0 + sumTo (fun j => f (j+1)) n := by
  induction n with
  | zero => simp [sumTo]
  | succ n ih => rw [sumTo, ih]; simp only [sumTo]; omega
def term (p q dr h j : Nat) : Nat := if h ≤ j ∧ j ≤ dr then binom p j * binom q (dr - j) else 0
def hitF (p q dr h : Nat) : Nat := sumTo (term p q dr h) (p+1)
theorem hitF_more (p q dr h m : Nat) (hm : p + 1 ≤ m) : sumTo (term p q dr h) m = hitF p q dr h := by
  induction m with
  | zero => omega
  | succ m ih =>
    by_cases e : p = m
    · subst e; rfl
    · rw [sumTo, ih (by omega)]; unfold term; rw [binom_gt p m (by omega)]; simp
theorem hitF_out (p q dr h : Nat) : hitF p (q+1) dr h = hitF p q dr h + (if dr = 0 then 0 else hitF p q (dr-1) h) := by
  cases dr with
  | zero =>
    simp only [hitF, if_true, Nat.add_zero]
    apply sumTo_congr
    intro j _
    unfold term
    split
    · rename_i hh; have : j = 0 := by omega
      subst this; cases q <;> rfl
    · rfl
  | succ dr =>
    simp only [hitF]
    rw [if_neg (by omega), ← sumTo_add]
    apply sumTo_congr
    intro j _
    unfold term
    by_cases h1 : h ≤ j ∧ j ≤ dr
    · rw [if_pos (by omega), if_pos (by omega), if_pos (by omega)]
      rw [show dr + 1 - j = (dr - j) + 1 by omega, show dr + 1 - 1 - j = dr - j by omega]
      simp only [binom]
      rw [Nat.mul_add]; omega
    · by_cases h2 : h ≤ j ∧ j ≤ dr + 1
      · rw [if_pos h2, if_pos h2, if_neg (by omega)]
        rw [show dr + 1 - j = 0 by omega]
        cases q <;> rfl
      · rw [if_neg h2, if_neg h2, if_neg (by omega)]
theorem hitF_in (p q dr h : Nat) : hitF (p+1) q dr h = hitF p q dr h + (if dr = 0 then 0 else hitF p q (dr-1) (h-1)) := by
  rw [← hitF_more p q dr h (p+2) (by omega)]
  unfold hitF
  rw [sumTo_shift, sumTo_shift (term p q dr h)]
  have h0 : term (p+1) q dr h 0 = term p q dr h 0 := by unfold term; cases p <;> rfl
  rw [h0]
  have : sumTo (fun j => term (p+1) q dr h (j+1)) (p+1) = sumTo (fun j => term p q dr h (j+1)) (p+1) + (if dr = 0 then 0 else sumTo (term p q (dr-1) (h-1)) (p+1)) := by
    cases dr with
    | zero => simp only [if_true, Nat.add_zero]; apply sumTo_congr; intro j _; simp [term]
    | succ dr =>
      rw [if_neg (by omega), ← sumTo_add]
      apply sumTo_congr
      intro j _
      unfold term
      by_cases h1 : h ≤ j + 1 ∧ j + 1 ≤ dr + 1
      · rw [if_pos h1, if_pos h1, if_pos (by omega)]
        rw [show dr + 1 - (j+1) = dr - j by omega, show dr + 1 - 1 - j = dr - j by omega]
        simp only [binom]
        rw [Nat.add_mul]; omega
      · rw [if_neg h1, if_neg h1, if_neg (by omega)]
  rw [this]; omega
def hitL (n t dr h : Nat) : List Nat := (S n dr).filter (fun d => decide (h ≤ pc (t &&& d)))
theorem hitL_length (n : Nat) : ∀ t dr h, n ≤ 12 → t < 2^n → (hitL n t dr h).length = hitF (pc t) (n - pc t) dr h ∧ pc t ≤ n := by
  induction n with
  | zero =>
    intro t dr h _ ht
    have : t = 0 := by simp at ht; omega
    subst this
    refine ⟨?_, by decide⟩
    have hp : pc 0 = 0 := by decide
    cases dr with
    | zero =>
      have : S 0 0 = [0] := by decide
      unfold hitL; rw [this]
      cases h with
      | zero => decide
      | succ h => simp [hp, hitF, sumTo, term]
    | succ dr =>
      have : S 0 (dr+1) = [] := by simp [S, hp]
      unfold hitL; rw [this]
      simp [hp, hitF, sumTo, term, binom]
  | succ n ih =>
    intro t dr h hn ht
    have hS : hitL (n+1) t dr h = (S n dr).filter (fun d => decide (h ≤ pc (t &&& d))) ++ (if dr = 0 then [] else ((S n (dr-1)).map (· + 2^n)).filter (fun d => decide (h ≤ pc (t &&& d)))) := by
      unfold hitL
      cases dr with
      | zero => rw [S_succ0 n (by omega)]; simp
      | succ dr => rw [S_succ n dr (by omega), List.filter_append]; simp
    rw [hS, List.length_append]
    by_cases hb : t < 2^n
    · have ihn := fun dr h => ih t dr h (by omega) hb
      refine ⟨?_, by have := (ihn 0 0).2; omega⟩
      rw [show n + 1 - pc t = (n - pc t) + 1 by have := (ihn 0 0).2; omega, hitF_out]
      congr 1
      · exact (ihn dr h).1
      · cases dr with
        | zero => simp
        | succ dr =>
          rw [if_neg (by omega), if_neg (by omega), List.filter_map, List.length_map]
          rw [← (ihn _ h).1]
          unfold hitL
          congr 1
          apply List.filter_congr
          intro d hd
          have hd := (mem_S.1 hd).1
          simp [(land_pow n t d hb hd).2.2]
    · rw [Nat.pow_succ] at ht
      obtain ⟨u, rfl⟩ : ∃ u, t = u + 2^n := ⟨t - 2^n, by omega⟩
      have hu : u < 2^n := by omega
      have hp := pc_add n u hu (by omega)
      have ihn := fun dr h => ih u dr h (by omega) hu
      rw [hp]
      refine ⟨?_, by have := (ihn 0 0).2; omega⟩
      rw [show n + 1 - (pc u + 1) = n - pc u by omega, hitF_in]
      congr 1
      · rw [← (ihn dr h).1]
        unfold hitL
        congr 1
        apply List.filter_congr
        intro d hd
        have hd := (mem_S.1 hd).1
        simp [(land_pow n u d hu hd).2.1]
      · cases dr with
        | zero => simp
        | succ dr =>
          rw [if_neg (by omega), if_neg (by omega), List.filter_map, List.length_map]
          rw [← (ihn _ (h-1)).1]
          unfold hitL
          congr 1
          apply List.filter_congr
          intro d hd
          have hd := (mem_S.1 hd).1
          simp only [Function.comp]
          rw [(land_pow n u d hu hd).1, pc_add n _ (land_lt n u d hu) (by omega)]
          congr 1
          apply propext; omega
theorem pcF_land_le (m : Nat) : ∀ a b, pcF m (a &&& b) ≤ pcF m a := by
  induction m with
  | zero => intro a b; exact Nat.le_refl _
  | succ m ih =>
    intro a b
    obtain ⟨h1, h2⟩ := land_half a b
    simp only [pcF]
    rw [h1, h2]
    have := ih (a / 2) (b / 2)
    have ha : a % 2 = 0 ∨ a % 2 = 1 := by omega
    have hb : b % 2 = 0 ∨ b % 2 = 1 := by omega
    rcases ha with ha | ha <;> rcases hb with hb | hb <;> rw [ha, hb] <;> omega
theorem pc_land_le (a b : Nat) : pc (a &&& b) ≤ pc a := pcF_land_le 12 a b
end Go.Proofs.Ytchlbkcladfloaa.LotM
