/- The greedy tickets are told alike, and each call's list is new. For every four numbers of 64 bits. -/
import Derived.Test.YtchlbkcladfloaaPFnExactGreedyTicketsx0
import Derived.Test.YtchlbkcladfloaaPFnExactGreedyTicketsx1
import Derived.Test.YtchlbkcladfloaaPFnExactGreedyTicketsx2
import Derived.Test.YtchlbkcladfloaaPFnExactGreedyTicketsx3
import Derived.Test.YtchlbkcladfloaaPFnExactGreedyTicketsx4
import Derived.Test.YtchlbkcladfloaaPFnExactGreedyTicketsx5
import Derived.Test.YtchlbkcladfloaaPFnExactGreedyTicketsx6
import Derived.Test.YtchlbkcladfloaaLotMath
import Derived.Test.YtchlbkcladfloaaLotHit
import Derived.Test.YtchlbkcladfloaaLotRank
import Derived.KernelRfl
namespace Go.Proofs.Ytchlbkcladfloaa.Pure
open Go Go.RowKit Go.Proofs.Ytchlbkcladfloaa.PFnExactGreedyTickets Go.Proofs.YtchlbkcladfloaaW.PrintWords Go.Proofs.YtchlbkcladfloaaW.PrintLast Go.Proofs.YtchlbkcladfloaaW.PrintMore Go.Proofs.Ytchlbkcladfloaa.LotM
set_option linter.unusedVariables false
set_option linter.unusedSimpArgs false
theorem shl_one : ∀ n, n < 13 → shl .i64 1 ((n : Nat) : Int) = ((2 ^ n : Nat) : Int) := by decide +kernel
theorem pow_le {n : Nat} (h : n ≤ 12) : 2 ^ n ≤ 4096 := Nat.pow_le_pow_right (n := 2) (by omega) h
theorem w64 {i : Int} (h0 : -9223372036854775808 ≤ i) (h : i < 9223372036854775808) : wrap64 i = i := by unfold wrap64; omega
theorem u64 {i : Int} (h0 : 0 ≤ i) (h : i < 9223372036854775808) : IntKind.u64.wrap i = i := by
  have e : IntKind.u64.wrap i = i % 18446744073709551616 := by simp [IntKind.wrap, IntKind.bits, IntKind.signed]
  rw [e]; omega
def allN (p : Nat → Bool) : Nat → Bool
  | 0 => true
  | n+1 => p n && allN p n
theorem allN_at (p : Nat → Bool) : ∀ n, allN p n = true → ∀ s, s < n → p s = true
  | 0, _, s, h => by omega
  | n+1, h, s, hs => by
    simp only [allN, Bool.and_eq_true] at h
    by_cases e : s = n
    · subst e; exact h.1
    · exact allN_at p n h.2 s (by omega)

theorem binom_pos : ∀ (n k : Nat), k ≤ n → 0 < binom n k
  | n, 0, _ => by cases n <;> simp [binom]
  | 0, k + 1, h => by omega
  | n + 1, k + 1, h => by
    have := binom_pos n k (by omega)
    simp only [binom]; omega
theorem sumTo_pos (f : Nat → Nat) : ∀ (N j : Nat), j < N → 0 < f j → 0 < sumTo f N
  | 0, j, h, _ => by omega
  | N + 1, j, h, hf => by
    simp only [sumTo]
    by_cases e : j = N
    · subst e; omega
    · have := sumTo_pos f N j (by omega) hf
      omega
theorem hitF_pos (q m p h : Nat) (h1 : h ≤ q) (h2 : h ≤ p) (h3 : p ≤ q + m) : 0 < hitF q m p h := by
  unfold hitF
  refine sumTo_pos _ _ (max h (p - m)) (by omega) ?_
  unfold term
  rw [if_pos (by omega)]
  exact Nat.mul_pos (binom_pos _ _ (by omega)) (binom_pos _ _ (by omega))
def hitN (h t d : Nat) : Bool := decide (h ≤ pc (t &&& d))
/-- Every draw is hit by some ticket. -/
theorem some_hit (n p q h d : Nat) (hn : n ≤ 12) (hp : p ≤ n) (hq : q ≤ n) (h1 : h ≤ p) (h2 : h ≤ q) (hd : d ∈ S n q) : ∃ t ∈ S n p, hitN h t d = true := by
  obtain ⟨hd1, hd2⟩ := mem_S.1 hd
  have hl := (hitL_length n d p h hn hd1).1
  rw [hd2] at hl
  have hpos := hitF_pos q (n - q) p h h2 h1 (by omega)
  obtain ⟨t, ht⟩ := List.exists_mem_of_length_pos (show 0 < (hitL n d p h).length by omega)
  obtain ⟨ht1, ht2⟩ := List.mem_filter.1 ht
  refine ⟨t, ht1, ?_⟩
  unfold hitN
  rw [Nat.and_comm]
  exact ht2
def cntN (h : Nat) (D : List Nat) (t : Nat) : Nat := (D.filter fun d => hitN h t d).length
theorem filt_split {α : Type} (p r : α → Bool) : ∀ l : List α, (l.filter fun x => p x && r x).length + ((l.filter fun x => !p x).filter r).length = (l.filter r).length
  | [] => rfl
  | x :: l => by
    have := filt_split p r l
    cases hp : p x <;> cases hr : r x <;> simp only [List.filter_cons, hp, hr, Bool.and_true, Bool.and_false, Bool.true_and, Bool.false_and, Bool.not_true, Bool.not_false, if_true, if_false, Bool.false_eq_true, List.length_cons, Bool.and_self] <;> omega

theorem set_mid (A B : List Int) (b s : Int) : (A ++ b :: B).set A.length s = (A ++ [s]) ++ B := by
  induction A with
  | nil => rfl
  | cons a A ih => simp [List.set_cons_succ]
theorem rd_mid (A B : List Int) (b : Int) : rd (A ++ b :: B) (A.length : Int) = b := by simp [rd]
theorem rd_nat (M : List Int) (i : Nat) (h : i < M.length) : rd M (i : Int) = M[i] := by simp [rd, List.getElem?_eq_getElem h]
def seqI : Int → Nat → List Int
  | _, 0 => []
  | s, n+1 => s :: seqI (s+1) n

/-- What l01Put gives. -/
theorem put_l (L : List Int) (hl : L.length ≤ 1000000) (x : Int) (hx : x ∉ L) (hs : L.Pairwise (· < ·)) : ∀ a : Nat, a ≤ L.length → (∀ j (hj : j < L.length), a ≤ j → x < L[j]) → ∃ R : List Int, R.Perm (L ++ [x]) ∧ R.Pairwise (· < ·) ∧ ∀ k, a < k → spec_l01Put.l0 k L x (a : Int) = some R
  | 0, ha, hgt => by
    refine ⟨x :: L, by simpa using (List.perm_append_comm (l₁ := [x]) (l₂ := L)), List.pairwise_cons.2 ⟨fun y hy => ?_, hs⟩, fun k hk => ?_⟩
    · obtain ⟨j, hj, rfl⟩ := List.mem_iff_getElem.1 hy
      exact hgt j hj (by omega)
    · obtain ⟨k, rfl⟩ : ∃ q, k = q + 1 := ⟨k - 1, by omega⟩
      simp only [spec_l01Put.l0]
      rw [if_neg (by omega), if_pos (by omega), if_pos (by omega)]
      unfold spec_l01Own.f
      simp only [Int.toNat_natCast, List.take_zero, List.drop_zero, Option.bind_some, List.append_nil, List.nil_append, List.length_nil, List.length_singleton]
      rw [if_pos (by omega)]
      simp only [Option.bind_some, List.length_nil]
      rw [if_pos (by omega), if_pos (by simp; omega)]
      rfl
  | a + 1, ha, hgt => by
    have hal : a < L.length := by omega
    have hw : wrap64 (((a + 1 : Nat) : Int) - 1) = (a : Int) := by rw [w64 (by omega) (by omega)]; omega
    have hne : ¬ L[a] = x := fun e => hx (by rw [← e]; exact List.getElem_mem hal)
    by_cases hg : L[a] > x
    · obtain ⟨R, r1, r2, r3⟩ := put_l L hl x hx hs a (by omega) (fun j hj hja => by
        by_cases e : j = a
        · subst e; exact hg
        · exact hgt j hj (by omega))
      refine ⟨R, r1, r2, fun k hk => ?_⟩
      obtain ⟨k, rfl⟩ : ∃ q, k = q + 1 := ⟨k - 1, by omega⟩
      simp only [spec_l01Put.l0]
      rw [if_pos (by omega), hw, if_pos (by omega), if_pos (by omega), rd_nat L a hal, if_pos hg]
      exact r3 k (by omega)
    · have hlt : L[a] < x := by omega
      refine ⟨L.take (a + 1) ++ x :: L.drop (a + 1), ?_, ?_, fun k hk => ?_⟩
      · have h1 := List.perm_middle (a := x) (l₁ := L.take (a + 1)) (l₂ := L.drop (a + 1))
        rw [List.take_append_drop] at h1
        exact h1.trans (by simpa using (List.perm_append_comm (l₁ := [x]) (l₂ := L)))
      · have hp := List.pairwise_iff_getElem.1 hs
        refine List.pairwise_append.2 ⟨hs.sublist (List.take_sublist _ _), List.pairwise_cons.2 ⟨fun y hy => ?_, hs.sublist (List.drop_sublist _ _)⟩, fun y hy z hz => ?_⟩
        · obtain ⟨j, hj, rfl⟩ := List.mem_iff_getElem.1 hy
          rw [List.getElem_drop]
          exact hgt _ (by rw [List.length_drop] at hj; omega) (by omega)
        · obtain ⟨j, hj, rfl⟩ := List.mem_iff_getElem.1 hy
          rw [List.length_take] at hj
          rw [List.getElem_take]
          have hjx : L[j] < x := by
            by_cases e : j = a
            · subst e; exact hlt
            · have := hp j a (by omega) hal (by omega)
              omega
          rcases List.mem_cons.1 hz with rfl | hz
          · exact hjx
          · obtain ⟨i, hi, rfl⟩ := List.mem_iff_getElem.1 hz
            rw [List.getElem_drop]
            have := hgt (a + 1 + i) (by rw [List.length_drop] at hi; omega) (by omega)
            omega
      · obtain ⟨k, rfl⟩ : ∃ q, k = q + 1 := ⟨k - 1, by omega⟩
        simp only [spec_l01Put.l0]
        rw [if_pos (by omega), hw, if_pos (by omega), if_pos (by omega), rd_nat L a hal, if_neg hg, if_neg hne, if_pos (by omega), if_pos (by omega), Int.toNat_natCast]
        unfold spec_l01Own.f
        simp only [Option.bind_some, List.nil_append]
        rw [if_pos (by rw [List.length_take]; simp; omega)]
        simp only [Option.bind_some]
        rw [if_pos (by rw [List.length_take]; omega), if_pos (by simp; omega)]
        simp
theorem put_ev (L : List Int) (hl : L.length ≤ 1000000) (x : Int) (hx : x ∉ L) (hs : L.Pairwise (· < ·)) : ∃ R : List Int, R.Perm (L ++ [x]) ∧ R.Pairwise (· < ·) ∧ ∀ k, L.length < k → spec_l01Put.f k L x = some R := by
  obtain ⟨R, r1, r2, r3⟩ := put_l L hl x hx hs L.length (Nat.le_refl _) (fun j hj h => by omega)
  exact ⟨R, r1, r2, r3⟩
theorem sort_is (O Q : List Int) (hq : Q.Pairwise (· < ·)) (hp : Q.Perm O) : (O.mergeSort fun x y => decide (x ≤ y)) = Q := by
  have h1 : (O.mergeSort fun x y => decide (x ≤ y)).Pairwise (fun a b => a ≤ b) := by
    have := List.pairwise_mergeSort (le := fun x y : Int => decide (x ≤ y)) (fun a b c h1 h2 => decide_eq_true (Int.le_trans (of_decide_eq_true h1) (of_decide_eq_true h2))) (fun a b => by have := Int.le_total a b; simpa using this) O
    exact this.imp (fun h => by simpa using h)
  have h2 : Q.Pairwise (fun a b => a ≤ b) := hq.imp (fun h => Int.le_of_lt h)
  exact List.Perm.eq_of_pairwise (le := fun a b : Int => a ≤ b) (fun a b _ _ h1 h2 => Int.le_antisymm h1 h2) h1 h2 ((List.mergeSort_perm O _).trans hp.symm)

/-- The first of the greatest, of some behind some. -/
def bestC : List Int → Int → Int → Int → Int × Int
  | [], _, b, m => (b, m)
  | c :: cs, w, b, m => if c > m then bestC cs (w + 1) w c else bestC cs (w + 1) b m
theorem bestC_in : ∀ (cs : List Int) (w b m : Int), 0 ≤ b → b ≤ w → (b < w ∨ 0 < cs.length) → 0 ≤ m → 0 ≤ (bestC cs w b m).1 ∧ ((bestC cs w b m).1 = b ∧ (bestC cs w b m).2 = m ∧ (∀ c ∈ cs, c ≤ m) ∨ w ≤ (bestC cs w b m).1 ∧ (bestC cs w b m).1 < w + cs.length ∧ (bestC cs w b m).2 = rd cs ((bestC cs w b m).1 - w))
  | [], w, b, m, h0, h1, h2, h3 => ⟨h0, .inl ⟨rfl, rfl, fun c hc => by simp at hc⟩⟩
  | c :: cs, w, b, m, h0, h1, h2, h3 => by
    simp only [bestC]
    have key : ∀ j : Int, w + 1 ≤ j → rd (c :: cs) (j - w) = rd cs (j - (w + 1)) := fun j hj => by
      unfold rd
      rw [show (j - w).toNat = (j - (w + 1)).toNat + 1 by omega, List.getD_cons_succ]
    by_cases hc : c > m
    · rw [if_pos hc]
      obtain ⟨i1, i2⟩ := bestC_in cs (w + 1) w c (by omega) (by omega) (.inl (by omega)) (by omega)
      refine ⟨i1, .inr ?_⟩
      rcases i2 with ⟨j1, j2, j3⟩ | ⟨j1, j2, j3⟩
      · rw [j1, j2]
        refine ⟨by omega, by simp only [List.length_cons]; omega, ?_⟩
        rw [Int.sub_self]; rfl
      · refine ⟨by omega, by simp only [List.length_cons]; omega, ?_⟩
        rw [j3, key _ j1]
    · rw [if_neg hc]
      obtain ⟨i1, i2⟩ := bestC_in cs (w + 1) b m h0 (by omega) (.inl (by omega)) h3
      refine ⟨i1, ?_⟩
      rcases i2 with ⟨j1, j2, j3⟩ | ⟨j1, j2, j3⟩
      · refine .inl ⟨j1, j2, fun x hx => ?_⟩
        rcases List.mem_cons.1 hx with rfl | hx
        · omega
        · exact j3 x hx
      · refine .inr ⟨by omega, by simp only [List.length_cons]; omega, ?_⟩
        rw [j3, key _ j1]
theorem bestC_all (cs : List Int) (h0 : 0 < cs.length) (hc : ∀ c ∈ cs, 0 ≤ c) : 0 ≤ (bestC cs 0 0 0).1 ∧ (bestC cs 0 0 0).1 < (cs.length : Int) ∧ (bestC cs 0 0 0).2 = rd cs (bestC cs 0 0 0).1 := by
  obtain ⟨i1, i2⟩ := bestC_in cs 0 0 0 (by omega) (by omega) (.inr h0) (by omega)
  rcases i2 with ⟨j1, j2, j3⟩ | ⟨j1, j2, j3⟩
  · refine ⟨i1, by omega, ?_⟩
    rw [j1, j2]
    have h1 := List.getElem_mem h0
    have h2 := j3 _ h1
    have h3 := hc _ h1
    have h4 := rd_nat cs 0 h0
    rw [show (0 : Int) = ((0 : Nat) : Int) from rfl, h4]
    omega
  · rw [Int.sub_zero] at j3
    exact ⟨i1, by omega, j3⟩

def okS (s : Nat) : Bool := match impl_size.f (s : Int) with
  | some r => r == (pcF 12 s : Int)
  | none => false
theorem okS_all : allN okS 4096 = true := by kernel_rfl
theorem size_nat (s : Nat) (h : s < 4096) : impl_size.f (s : Int) = some (pc s : Int) := by
  have := allN_at okS 4096 okS_all s h
  unfold okS at this
  split at this
  · rename_i r hr; rw [hr, beq_iff_eq.mp this]; rfl
  · cases this

theorem sets_l (m : Nat) (N : Nat) (hN : N ≤ 4096) : ∀ d i (acc : List Int), i + d = N → acc.length ≤ i → ∀ k, d < k → impl_sets.l0 k m acc N i = some (acc ++ ((List.range' i d).filter (fun s => pc s == m)).map Int.ofNat)
  | 0, i, acc, h, ha, k, hk => by
    obtain ⟨k, rfl⟩ : ∃ q, k = q + 1 := ⟨k - 1, by omega⟩
    simp only [impl_sets.l0]; rw [if_neg (by omega)]; simp
  | d+1, i, acc, h, ha, k, hk => by
    obtain ⟨k, rfl⟩ : ∃ q, k = q + 1 := ⟨k - 1, by omega⟩
    simp only [impl_sets.l0]
    rw [if_pos (by omega), size_nat i (by omega)]
    simp only [Option.bind_some]
    rw [w64 (by omega) (by omega), show ((i : Int) + 1) = ((i + 1 : Nat) : Int) by omega]
    rw [List.range'_succ, List.filter_cons]
    by_cases e : pc i = m
    · rw [if_pos (by omega), if_pos (by omega)]
      rw [sets_l m N hN d (i+1) (acc ++ [(i : Int)]) (by omega) (by simp; omega) k (by omega)]
      simp [e]
    · rw [if_neg (by omega)]
      rw [sets_l m N hN d (i+1) acc (by omega) (by omega) k (by omega)]
      simp [e]
theorem sets_ev (n m : Nat) (hn : n ≤ 12) : ∀ k, 4096 < k → impl_sets.f k n m = some ((S n m).map Int.ofNat) := by
  intro k hk
  have hp := pow_le hn
  unfold impl_sets.f
  rw [if_pos (by omega), shl_one n (by omega)]
  rw [show (0 : Int) = ((0 : Nat) : Int) from rfl, sets_l m (2^n) hp (2^n) 0 [] (by omega) (by simp) k (by omega)]
  simp [S, List.range_eq_range']

theorem w_i64 : ∀ n : Int, 0 ≤ n → n < 2 ^ 63 → IntKind.i64.wrap n = n := fun n h0 h1 => by rw [IntKind.wrap_i64]; omega
theorem band (a b : Nat) (ha : a < 4611686018427387904) (hb : b < 4611686018427387904) : Go.bits .and .i64 (a : Int) (b : Int) = ((a &&& b : Nat) : Int) :=
  (bits_nat .i64 63 (by decide) w_i64 a b (by omega) (by omega)).1
theorem bor (a b : Nat) (ha : a < 4611686018427387904) (hb : b < 4611686018427387904) : Go.bits .or .i64 (a : Int) (b : Int) = ((a ||| b : Nat) : Int) :=
  (bits_nat .i64 63 (by decide) w_i64 a b (by omega) (by omega)).2
theorem shr_nat (a i : Nat) (hi : i ≤ 64) : shr .i64 (a : Int) (i : Int) = ((a / 2 ^ i : Nat) : Int) := by
  unfold shr
  have e : min ((i : Int).toNat) IntKind.i64.bits = i := by
    have : IntKind.i64.bits = 64 := rfl
    rw [this, Int.toNat_natCast]; omega
  rw [e]; simp
theorem bit_nat (a i : Nat) (ha : a < 4611686018427387904) (hi : i ≤ 64) : Go.bits .and .i64 (shr .i64 (a : Int) (i : Int)) 1 = ((a / 2 ^ i % 2 : Nat) : Int) := by
  rw [shr_nat a i hi, show (1 : Int) = ((1 : Nat) : Int) from rfl, band _ _ (Nat.lt_of_le_of_lt (Nat.div_le_self _ _) ha) (by omega), Nat.and_one_is_mod]

theorem rd_map (M : List Nat) (i : Nat) (h : i < M.length) : rd (M.map Int.ofNat) (i : Int) = (M[i] : Int) := by
  simp [rd, List.getElem?_eq_getElem h]

theorem S_lt {n m x : Nat} (hn : n ≤ 12) (h : x ∈ S n m) : x < 4096 := Nat.lt_of_lt_of_le (mem_S.1 h).1 (pow_le hn)
theorem S_len (n m : Nat) (hn : n ≤ 12) : (S n m).length ≤ 4096 := by
  have h : (S n m).length ≤ (List.range (2^n)).length := List.length_filter_le _ _
  rw [List.length_range] at h
  exact Nat.le_trans h (pow_le hn)

theorem hits_ev (n p q h t u : Nat) (ht : t < 4096) (hu : u < 4096) : impl_hits.f n p q h t u = some (decide (h ≤ pc (t &&& u))) := by
  have hl := land_lt 12 t u (by omega)
  unfold impl_hits.f
  rw [band t u (by omega) (by omega), size_nat _ (by omega)]
  simp
theorem pc_ones : ∀ p, p < 13 → pc (2 ^ p - 1) = p := by decide +kernel

def okSS (s : Nat) : Bool := match spec_l08Size.f 14 (s : Int) with
  | some r => r == (pcF 12 s : Int)
  | none => false
theorem okSS_all : allN okSS 4096 = true := by kernel_rfl
theorem ssize_nat (s : Nat) (h : s < 4096) : ∀ k, 14 ≤ k → spec_l08Size.f k (s : Int) = some (pc s : Int) := by
  intro k hk
  have := allN_at okSS 4096 okSS_all s h
  unfold okSS at this
  split at this
  · rename_i r hr
    rw [beq_iff_eq.mp this] at hr
    exact at_rounds (g := fun k => spec_l08Size.f k (s : Int)) (fun k => spec_l08Size.mono _ k) hk hr
  · cases this

theorem specSets_l (n p q h m : Nat) (hn1 : 1 ≤ n) (hn : n ≤ 12) : ∀ d i (acc : List Int), i + d = 2 ^ n → acc.length ≤ i → ∀ k, d + 20 ≤ k → spec_l08Sets.l0 k m acc i n p q h = some (acc ++ ((List.range' i d).filter (fun s => pc s == m)).map Int.ofNat)
  | 0, i, acc, e, ha, k, hk => by
    obtain ⟨k, rfl⟩ : ∃ q, k = q + 1 := ⟨k - 1, by omega⟩
    have hp := pow_le hn
    simp only [spec_l08Sets.l0]
    rw [u64 (by omega) (by omega), if_pos (by omega), shl_one n (by omega), if_neg (by omega)]; simp
  | d+1, i, acc, e, ha, k, hk => by
    obtain ⟨k, rfl⟩ : ∃ q, k = q + 1 := ⟨k - 1, by omega⟩
    have hp := pow_le hn
    simp only [spec_l08Sets.l0]
    rw [u64 (by omega) (by omega), if_pos (by omega), shl_one n (by omega), if_pos (by omega), ssize_nat i (by omega) k (by omega), Option.bind_some]
    rw [w64 (by omega) (by omega), show ((i : Int) + 1) = ((i + 1 : Nat) : Int) by omega]
    rw [List.range'_succ, List.filter_cons]
    by_cases e : pc i = m
    · rw [if_pos (by omega), if_pos (by omega)]
      rw [specSets_l n p q h m hn1 hn d (i+1) (acc ++ [(i : Int)]) (by omega) (by simp; omega) k (by omega)]
      simp [e]
    · rw [if_neg (by omega)]
      rw [specSets_l n p q h m hn1 hn d (i+1) acc (by omega) (by omega) k (by omega)]
      simp [e]
theorem specSets_ev (n p q h m : Nat) (hn1 : 1 ≤ n) (hn : n ≤ 12) : ∀ k, 5000 ≤ k → spec_l08Sets.f k n p q h m = some ((S n m).map Int.ofNat) := by
  intro k hk
  have hp := pow_le hn
  unfold spec_l08Sets.f
  rw [show (0 : Int) = ((0 : Nat) : Int) from rfl, specSets_l n p q h m hn1 hn (2^n) 0 [] (by omega) (by simp) k (by omega)]
  simp [S, List.range_eq_range']

set_option linter.unusedSectionVars false
theorem map_set_at (T : List Nat) (c c' : Nat → Int) (i : Nat) (hi : i < T.length) (x : Int) (hx : x = c' T[i]) : ((T.take i).map c' ++ (T.drop i).map c).set i x = (T.take (i + 1)).map c' ++ (T.drop (i + 1)).map c := by
  rw [List.drop_eq_getElem_cons hi, List.map_cons, List.set_append_right _ _ (by simp; omega), List.take_succ_eq_append_getElem hi, List.map_append, hx]
  have : i - ((T.take i).map c').length = 0 := by simp; omega
  rw [this]
  simp
theorem map_same_at (T : List Nat) (c c' : Nat → Int) (i : Nat) (hi : i < T.length) (hx : c' T[i] = c T[i]) : (T.take i).map c' ++ (T.drop i).map c = (T.take (i + 1)).map c' ++ (T.drop (i + 1)).map c := by
  rw [List.drop_eq_getElem_cons hi, List.map_cons, List.take_succ_eq_append_getElem hi, List.map_append, List.append_assoc, List.map_singleton, hx]
  rfl
theorem rd_at (T : List Nat) (c c' : Nat → Int) (i : Nat) (hi : i < T.length) : rd ((T.take i).map c' ++ (T.drop i).map c) (i : Int) = c T[i] := by
  have hl : ((T.take i).map c').length = i := by simp; omega
  rw [List.drop_eq_getElem_cons hi, List.map_cons]
  have h := rd_mid ((T.take i).map c') ((T.drop (i + 1)).map c) (c T[i])
  rw [hl] at h
  exact h
section
variable (n p q h : Nat) (T : List Nat) (hT : ∀ t ∈ T, t < 4096) (hTl : T.length ≤ 4096)
include hT hTl
/-- One draw is taken from the tickets that hit it. -/
theorem gi3 (out : List Int) (b : Nat) (rest DL : List Int) (DLn : Int) (j : Nat) (hj : j ≤ 4096) (d : Nat) (hd : d < 4096) (c : Nat → Int) (hc : ∀ t ∈ T, -1000000 ≤ c t ∧ c t ≤ 1000000) (r : List Int × Int)
    (hr : Ev (fun k => impl_GreedyTickets.l2 k (T.map Int.ofNat) out (T.map fun t => c t - if hitN h t d = true then 1 else 0) (b : Int) rest DL DLn ((j + 1 : Nat) : Int) n p q h) r) :
    ∀ e i : Nat, i + e = T.length → Ev (fun k => impl_GreedyTickets.l3 k (T.map Int.ofNat) out ((T.take i).map (fun t => c t - if hitN h t d = true then 1 else 0) ++ (T.drop i).map c) (b : Int) rest (d : Int) DL DLn (j : Int) (T.map Int.ofNat) (T.length : Int) (i : Int) n p q h) r
  | 0, i, e => by
    refine Ev.step (fun k => ?_) hr
    simp only [impl_GreedyTickets.l3]
    rw [if_neg (by omega), w64 (by omega) (by omega), show (j : Int) + 1 = ((j + 1 : Nat) : Int) by omega, List.take_of_length_le (by omega), List.drop_of_length_le (by omega), List.map_nil, List.append_nil]
  | e + 1, i, e1 => by
    have hi : i < T.length := by omega
    have ht := hT _ (List.getElem_mem hi)
    have hct := hc _ (List.getElem_mem hi)
    have ih := gi3 out b rest DL DLn j hj d hd c hc r hr e (i + 1) (by omega)
    refine Ev.step (fun k => ?_) ih
    simp only [impl_GreedyTickets.l3]
    rw [if_pos (by omega), if_pos (by omega), if_pos (by simp; omega), rd_map T i hi, hits_ev n p q h _ _ ht hd, Option.bind_some, rd_at T c _ i hi]
    by_cases hh : hitN h T[i] d = true
    · have hh2 : decide (h ≤ pc (T[i] &&& d)) = true := hh
      rw [hh2, if_pos rfl, if_pos (by simp; omega), Int.toNat_natCast, w64 (by omega) (by omega), w64 (by omega) (by omega), map_set_at T c _ i hi _ (by rw [if_pos hh]), show (i : Int) + 1 = ((i + 1 : Nat) : Int) by omega]
    · have hh2 : ¬ decide (h ≤ pc (T[i] &&& d)) = true := hh
      rw [if_neg hh2, w64 (by omega) (by omega), map_same_at T c (fun t => c t - if hitN h t d = true then 1 else 0) i hi (by rw [if_neg hh]; omega), show (i : Int) + 1 = ((i + 1 : Nat) : Int) by omega]
/-- The draws are gone through: those that the ticket misses stay, the others are taken from the tickets that hit them. -/
theorem gi2 (out : List Int) (b : Nat) (hb : b < T.length) (D : List Nat) (hD : ∀ d ∈ D, d < 4096) (hDl : D.length ≤ 4096) (r : List Int × Int) : ∀ e j : Nat, j + e = D.length → ∀ (rest : List Nat) (c : Nat → Int), rest.length ≤ j → (∀ t ∈ T, -(j : Int) ≤ c t ∧ c t ≤ 5000) →
    Ev (fun k => impl_GreedyTickets.l0 k (T.map Int.ofNat) ((rest ++ (D.drop j).filter fun d => !hitN h T[b] d).map Int.ofNat) out (T.map fun t => c t - (((D.drop j).filter fun d => hitN h T[b] d && hitN h t d).length : Int)) n p q h) r →
    Ev (fun k => impl_GreedyTickets.l2 k (T.map Int.ofNat) out (T.map c) (b : Int) (rest.map Int.ofNat) (D.map Int.ofNat) (D.length : Int) (j : Int) n p q h) r
  | 0, j, e, rest, c, hr, hc, hh => by
    refine Ev.step (fun k => ?_) hh
    simp only [impl_GreedyTickets.l2]
    rw [if_neg (by omega), List.drop_of_length_le (by omega)]
    simp
  | e + 1, j, e1, rest, c, hr, hc, hh => by
    have hj : j < D.length := by omega
    have hd := hD _ (List.getElem_mem hj)
    have ht := hT _ (List.getElem_mem hb)
    rw [List.drop_eq_getElem_cons hj] at hh
    by_cases hb1 : hitN h T[b] D[j] = true
    · have hb2 : decide (h ≤ pc (T[b] &&& D[j])) = true := hb1
      have ih := gi2 out b hb D hD hDl r e (j + 1) (by omega) rest (fun t => c t - if hitN h t D[j] = true then 1 else 0) (by omega) (fun t htm => by
        have := hc t htm
        split <;> omega) (by
        have e1 : (rest ++ (D[j] :: D.drop (j + 1)).filter fun d => !hitN h T[b] d) = rest ++ (D.drop (j + 1)).filter fun d => !hitN h T[b] d := by
          rw [List.filter_cons, if_neg (by rw [hb1]; decide)]
        have e2 : (T.map fun t => c t - (((D[j] :: D.drop (j + 1)).filter fun d => hitN h T[b] d && hitN h t d).length : Int)) = T.map fun t => (c t - if hitN h t D[j] = true then 1 else 0) - (((D.drop (j + 1)).filter fun d => hitN h T[b] d && hitN h t d).length : Int) := by
          refine List.map_congr_left fun t _ => ?_
          rw [List.filter_cons, hb1, Bool.true_and]
          by_cases hh3 : hitN h t D[j] = true
          · rw [if_pos hh3, if_pos hh3, List.length_cons]; omega
          · rw [if_neg hh3, if_neg hh3]; omega
        rw [e1, e2] at hh
        exact hh)
      have h3 := gi3 n p q h T hT hTl out b (rest.map Int.ofNat) (D.map Int.ofNat) (D.length : Int) j (by omega) D[j] hd c (fun t htm => by
        have := hc t htm
        omega) r ih T.length 0 (by omega)
      rw [List.take_zero, List.drop_zero, List.map_nil, List.nil_append] at h3
      refine Ev.step (fun k => ?_) h3
      simp only [impl_GreedyTickets.l2]
      rw [if_pos (by omega), if_pos (by omega), if_pos (by simp; omega), if_pos (by omega), if_pos (by simp; omega), rd_map T b hb, rd_map D j hj, hits_ev n p q h _ _ ht hd, hb2, Option.bind_some, if_pos rfl, List.length_map]
      rfl
    · have hb2 : ¬ decide (h ≤ pc (T[b] &&& D[j])) = true := hb1
      have ih := gi2 out b hb D hD hDl r e (j + 1) (by omega) (rest ++ [D[j]]) c (by simp; omega) (fun t htm => by
        have := hc t htm
        omega) (by
        have e1 : (rest ++ (D[j] :: D.drop (j + 1)).filter fun d => !hitN h T[b] d) = (rest ++ [D[j]]) ++ (D.drop (j + 1)).filter fun d => !hitN h T[b] d := by
          rw [List.filter_cons, if_pos (by simpa using hb1)]; simp
        have e2 : (T.map fun t => c t - (((D[j] :: D.drop (j + 1)).filter fun d => hitN h T[b] d && hitN h t d).length : Int)) = T.map fun t => c t - (((D.drop (j + 1)).filter fun d => hitN h T[b] d && hitN h t d).length : Int) := by
          refine List.map_congr_left fun t _ => ?_
          have : hitN h T[b] D[j] = false := by simpa using hb1
          rw [List.filter_cons, this, Bool.false_and, if_neg (by decide)]
        rw [e1, e2] at hh
        exact hh)
      refine Ev.step (fun k => ?_) ih
      simp only [impl_GreedyTickets.l2]
      rw [if_pos (by omega), if_pos (by omega), if_pos (by simp; omega), if_pos (by omega), if_pos (by simp; omega), rd_map T b hb, rd_map D j hj, hits_ev n p q h _ _ ht hd, Option.bind_some, if_neg hb2, if_pos (by simp; omega), w64 (by omega) (by omega), show (j : Int) + 1 = ((j + 1 : Nat) : Int) by omega, List.map_append]
      rfl
/-- The first ticket with the most. -/
theorem gi1 (D : List Int) (out : List Int) (hol : out.length ≤ 200) (G : List Int) (hG : G.length = T.length) (r : List Int × Int) (hr : out.length = 200 → r = ([], 3)) : ∀ e i : Nat, i + e = G.length → ∀ b : Nat, b < G.length → (out.length ≠ 200 → ∀ b' : Nat, (b' : Int) = (bestC (G.drop i) (i : Int) (b : Int) (rd G (b : Int))).1 → ∀ hb : b' < T.length, Ev (fun k => impl_GreedyTickets.l2 k (T.map Int.ofNat) (out ++ [(T[b'] : Int)]) G (b' : Int) [] D (D.length : Int) 0 n p q h) r) →
    Ev (fun k => impl_GreedyTickets.l1 k (T.map Int.ofNat) D out G (b : Int) G (G.length : Int) (i : Int) n p q h) r
  | 0, i, e, b, hb, hh => by
    by_cases h2 : out.length = 200
    · refine ⟨1, fun k hk => ?_⟩
      obtain ⟨k, rfl⟩ : ∃ q, k = q + 1 := ⟨k - 1, by omega⟩
      simp only [impl_GreedyTickets.l1]
      rw [if_neg (by omega), if_pos (by omega), hr h2]
    · have hbT : b < T.length := by omega
      have h3 := hh h2 b (by rw [List.drop_of_length_le (by omega)]; rfl) hbT
      refine Ev.step (fun k => ?_) h3
      simp only [impl_GreedyTickets.l1]
      rw [if_neg (by omega), if_neg (by omega), if_pos (by omega), if_pos (by simp; omega), if_pos (by omega), rd_map T b hbT]
  | e + 1, i, e1, b, hb, hh => by
    have hi : i < G.length := by omega
    have hw : wrap64 ((i : Int) + 1) = ((i + 1 : Nat) : Int) := by rw [w64 (by omega) (by omega)]; omega
    rw [List.drop_eq_getElem_cons hi] at hh
    simp only [bestC] at hh
    have hri := rd_nat G i hi
    by_cases hc : rd G (i : Int) > rd G (b : Int)
    · have ih := gi1 D out hol G hG r hr e (i + 1) (by omega) i hi (fun h2 b' hb' => hh h2 b' (by
        rw [← hri, if_pos hc]
        rw [show ((i + 1 : Nat) : Int) = (i : Int) + 1 by omega] at hb'
        exact hb'))
      refine Ev.step (fun k => ?_) ih
      simp only [impl_GreedyTickets.l1]
      rw [if_pos (by omega), if_pos (by omega), if_pos (by omega), if_pos (by omega), if_pos (by omega), if_pos hc, hw]
    · have ih := gi1 D out hol G hG r hr e (i + 1) (by omega) b hb (fun h2 b' hb' => hh h2 b' (by
        rw [← hri, if_neg hc]
        rw [show ((i + 1 : Nat) : Int) = (i : Int) + 1 by omega] at hb'
        exact hb'))
      refine Ev.step (fun k => ?_) ih
      simp only [impl_GreedyTickets.l1]
      rw [if_pos (by omega), if_pos (by omega), if_pos (by omega), if_pos (by omega), if_pos (by omega), if_neg hc, hw]
theorem gs2_step (D : List Nat) (hD : ∀ d ∈ D, d < 4096) (hDl : D.length ≤ 4096) (out : List Int) (v m : Int) (w : Nat) (hw : w < T.length) (r : List Int × Int) (i : Nat) (hi : i < D.length) (c c' : Nat) (hc : c ≤ i) (hc' : c' = if hitN h T[w] D[i] = true then c + 1 else c) : Ev (fun k => spec_GreedyTickets.l2 k (T.map Int.ofNat) (D.map Int.ofNat) out v m (w : Int) (c' : Int) ((i + 1 : Nat) : Int) n p q h) r → Ev (fun k => spec_GreedyTickets.l2 k (T.map Int.ofNat) (D.map Int.ofNat) out v m (w : Int) (c : Int) (i : Int) n p q h) r := by
  have hc6 : (hitN h T[w] D[i] = true ∧ (pc (T[w] &&& D[i]) : Int) ≥ (h : Int) ∧ c' = c + 1) ∨ (¬ (pc (T[w] &&& D[i]) : Int) ≥ (h : Int) ∧ c' = c) := by
    by_cases hb : hitN h T[w] D[i] = true
    · rw [if_pos hb] at hc'
      have hb2 : h ≤ pc (T[w] &&& D[i]) := of_decide_eq_true hb
      exact .inl ⟨hb, by omega, hc'⟩
    · rw [if_neg hb] at hc'
      have hb2 : ¬ h ≤ pc (T[w] &&& D[i]) := fun h0 => hb (decide_eq_true h0)
      exact .inr ⟨by omega, hc'⟩
  clear hc'
  have hd := hD _ (List.getElem_mem hi)
  have ht := hT _ (List.getElem_mem hw)
  have hl := land_lt 12 T[w] D[i] ht
  have hl2 : (T[w] &&& D[i]) < 4096 := hl
  clear hl
  have hw1 : wrap64 ((i : Int) + 1) = ((i + 1 : Nat) : Int) := by rw [w64 (by omega) (by omega)]; omega
  have hw2 : wrap64 ((c : Int) + 1) = ((c + 1 : Nat) : Int) := by rw [w64 (by omega) (by omega)]; omega
  rintro ⟨K, hK⟩
  refine ⟨K + 20, fun k hk => ?_⟩
  obtain ⟨k, rfl⟩ : ∃ q, k = q + 1 := ⟨k - 1, by omega⟩
  simp only [spec_GreedyTickets.l2]
  rw [if_pos (by simp; omega), if_pos (by omega), if_pos (by simp; omega), if_pos (by omega), rd_map T w hw, rd_map D i hi, band _ _ (by omega) (by omega), ssize_nat _ hl2 k (by omega), Option.bind_some, hw1, hw2]
  have h9 := hK k (by omega)
  rcases hc6 with ⟨_, h1, rfl⟩ | ⟨h1, rfl⟩
  · rw [if_pos h1]; exact h9
  · rw [if_neg h1]; exact h9
theorem gs2 (D : List Nat) (hD : ∀ d ∈ D, d < 4096) (hDl : D.length ≤ 4096) (out : List Int) (v m : Int) (w : Nat) (hw : w < T.length) (r : List Int × Int) : ∀ e i : Nat, i + e = D.length → ∀ c : Nat, c ≤ i →
    Ev (fun k => spec_GreedyTickets.l2 k (T.map Int.ofNat) (D.map Int.ofNat) out v m (w : Int) ((c + ((D.drop i).filter fun d => hitN h T[w] d).length : Nat) : Int) (D.length : Int) n p q h) r →
    Ev (fun k => spec_GreedyTickets.l2 k (T.map Int.ofNat) (D.map Int.ofNat) out v m (w : Int) (c : Int) (i : Int) n p q h) r
  | 0, i, e, c, hc, hh => by
    obtain rfl : i = D.length := by omega
    rw [List.drop_of_length_le (Nat.le_refl _)] at hh
    exact hh
  | e + 1, i, e1, c, hc, hh => by
    have hi : i < D.length := by omega
    rw [List.drop_eq_getElem_cons hi, List.filter_cons] at hh
    by_cases hb : hitN h T[w] D[i] = true
    · rw [if_pos hb, List.length_cons, show ∀ x, c + (x + 1) = c + 1 + x from fun x => by omega] at hh
      exact gs2_step n p q h T hT hTl D hD hDl out v m w hw r i hi c (c + 1) hc (by rw [if_pos hb]) (gs2 D hD hDl out v m w hw r e (i + 1) (by omega) (c + 1) (by omega) hh)
    · rw [if_neg hb] at hh
      exact gs2_step n p q h T hT hTl D hD hDl out v m w hw r i hi c c hc (by rw [if_neg hb]) (gs2 D hD hDl out v m w hw r e (i + 1) (by omega) c (by omega) hh)
theorem gs2_end (D : List Nat) (out : List Int) (v m : Int) (w : Nat) (hw : w < T.length) (r : List Int × Int) (c : Nat) (h1 : (c : Int) > m → Ev (fun k => spec_GreedyTickets.l1 k (T.map Int.ofNat) (D.map Int.ofNat) out (T[w] : Int) (c : Int) ((w + 1 : Nat) : Int) n p q h) r) (h2 : ¬ (c : Int) > m → Ev (fun k => spec_GreedyTickets.l1 k (T.map Int.ofNat) (D.map Int.ofNat) out v m ((w + 1 : Nat) : Int) n p q h) r) : Ev (fun k => spec_GreedyTickets.l2 k (T.map Int.ofNat) (D.map Int.ofNat) out v m (w : Int) (c : Int) (D.length : Int) n p q h) r := by
  have hw1 : wrap64 ((w : Int) + 1) = ((w + 1 : Nat) : Int) := by rw [w64 (by omega) (by omega)]; omega
  by_cases hcm : (c : Int) > m
  · refine Ev.step (fun k => ?_) (h1 hcm)
    simp only [spec_GreedyTickets.l2]
    rw [if_neg (by simp), if_pos hcm, if_pos (by omega), if_pos (by simp; omega), rd_map T w hw, hw1]
  · refine Ev.step (fun k => ?_) (h2 hcm)
    simp only [spec_GreedyTickets.l2]
    rw [if_neg (by simp), if_neg hcm, hw1]
def valT (T : List Nat) (bm : Int × Int) : Int := if bm.2 = 0 then 0 else rd (T.map Int.ofNat) bm.1
theorem gs1 (D : List Nat) (hD : ∀ d ∈ D, d < 4096) (hDl : D.length ≤ 4096) (out : List Int) (r : List Int × Int) : ∀ e w : Nat, w + e = T.length → ∀ b m : Int, 0 ≤ m →
    Ev (fun k => (spec_l01Put.f k out (valT T (bestC ((T.drop w).map fun t => (cntN h D t : Int)) (w : Int) b m))).bind fun t => spec_GreedyTickets.l3 k (T.map Int.ofNat) (D.map Int.ofNat) t (valT T (bestC ((T.drop w).map fun t => (cntN h D t : Int)) (w : Int) b m)) [] 0 n p q h) r →
    Ev (fun k => spec_GreedyTickets.l1 k (T.map Int.ofNat) (D.map Int.ofNat) out (valT T (b, m)) m (w : Int) n p q h) r
  | 0, w, e, b, m, hm, hh => by
    refine Ev.step (fun k => ?_) hh
    rw [List.drop_of_length_le (by omega)]
    simp only [spec_GreedyTickets.l1, List.map_nil, bestC]
    rw [if_neg (by simp; omega)]
  | e + 1, w, e1, b, m, hm, hh => by
    have hw : w < T.length := by omega
    rw [List.drop_eq_getElem_cons hw, List.map_cons] at hh
    simp only [bestC] at hh
    have h2 := gs2 n p q h T hT hTl D hD hDl out (valT T (b, m)) m w hw r D.length 0 (by omega) 0 (by omega) (by
      rw [List.drop_zero, Nat.zero_add]
      refine gs2_end n p q h T hT hTl D out (valT T (b, m)) m w hw r (cntN h D T[w]) (fun hc => ?_) (fun hc => ?_)
      · rw [if_pos hc] at hh
        have h1 := gs1 D hD hDl out r e (w + 1) (by omega) (w : Int) (cntN h D T[w] : Int) (by omega) (by
          rw [show ((w + 1 : Nat) : Int) = (w : Int) + 1 by omega]; exact hh)
        have e2 : valT T ((w : Int), (cntN h D T[w] : Int)) = (T[w] : Int) := by
          unfold valT
          rw [if_neg (by show ¬ (cntN h D T[w] : Int) = 0; omega)]
          exact rd_map T w hw
        rw [e2] at h1
        exact h1
      · rw [if_neg hc] at hh
        exact gs1 D hD hDl out r e (w + 1) (by omega) b m hm (by
          rw [show ((w + 1 : Nat) : Int) = (w : Int) + 1 by omega]; exact hh))
    refine Ev.step (fun k => ?_) h2
    simp only [spec_GreedyTickets.l1]
    rw [if_pos (by simp; omega)]
    rfl
theorem gs3 (D : List Nat) (hD : ∀ d ∈ D, d < 4096) (hDl : D.length ≤ 4096) (out : List Int) (v : Nat) (hv : v < 4096) (r : List Int × Int) : ∀ e i : Nat, i + e = D.length → ∀ acc : List Nat, acc.length ≤ i →
    Ev (fun k => spec_GreedyTickets.l0 k (T.map Int.ofNat) ((acc ++ (D.drop i).filter fun d => !hitN h v d).map Int.ofNat) out n p q h) r →
    Ev (fun k => spec_GreedyTickets.l3 k (T.map Int.ofNat) (D.map Int.ofNat) out (v : Int) (acc.map Int.ofNat) (i : Int) n p q h) r
  | 0, i, e, acc, ha, hh => by
    refine Ev.step (fun k => ?_) hh
    simp only [spec_GreedyTickets.l3]
    rw [if_neg (by simp; omega), List.drop_of_length_le (by omega)]
    simp
  | e + 1, i, e1, acc, ha, hh => by
    have hi : i < D.length := by omega
    have hd := hD _ (List.getElem_mem hi)
    have hl := land_lt 12 v D[i] (by omega)
    have hw1 : wrap64 ((i : Int) + 1) = ((i + 1 : Nat) : Int) := by rw [w64 (by omega) (by omega)]; omega
    rw [List.drop_eq_getElem_cons hi, List.filter_cons] at hh
    by_cases hb : hitN h v D[i] = true
    · have hb2 : h ≤ pc (v &&& D[i]) := of_decide_eq_true hb
      rw [if_neg (by rw [hb]; decide)] at hh
      obtain ⟨K, hK⟩ := gs3 D hD hDl out v hv r e (i + 1) (by omega) acc (by omega) hh
      refine ⟨K + 20, fun k hk => ?_⟩
      obtain ⟨k, rfl⟩ : ∃ q, k = q + 1 := ⟨k - 1, by omega⟩
      simp only [spec_GreedyTickets.l3]
      rw [if_pos (by simp; omega), if_pos (by omega), rd_map D i hi, band _ _ (by omega) (by omega), ssize_nat _ (by omega) k (by omega), Option.bind_some, if_neg (by omega), hw1]
      exact hK k (by omega)
    · have hb2 : ¬ h ≤ pc (v &&& D[i]) := fun h0 => hb (decide_eq_true h0)
      rw [if_pos (by simpa using hb)] at hh
      obtain ⟨K, hK⟩ := gs3 D hD hDl out v hv r e (i + 1) (by omega) (acc ++ [D[i]]) (by simp; omega) (by rw [List.append_assoc]; exact hh)
      refine ⟨K + 20, fun k hk => ?_⟩
      obtain ⟨k, rfl⟩ : ∃ q, k = q + 1 := ⟨k - 1, by omega⟩
      simp only [spec_GreedyTickets.l3]
      rw [if_pos (by simp; omega), if_pos (by omega), rd_map D i hi, band _ _ (by omega) (by omega), ssize_nat _ (by omega) k (by omega), Option.bind_some, if_pos (by omega), if_pos (by simp; omega), hw1]
      have h9 := hK k (by omega)
      rw [List.map_append] at h9
      exact h9
end
theorem bestC_ge : ∀ (cs : List Int) (w b m : Int), m ≤ (bestC cs w b m).2 ∧ ∀ c ∈ cs, c ≤ (bestC cs w b m).2
  | [], w, b, m => ⟨Int.le_refl _, fun c hc => by simp at hc⟩
  | c :: cs, w, b, m => by
    simp only [bestC]
    by_cases h : c > m
    · rw [if_pos h]
      obtain ⟨h1, h2⟩ := bestC_ge cs (w + 1) w c
      refine ⟨by omega, fun x hx => ?_⟩
      rcases List.mem_cons.1 hx with rfl | hx
      · exact h1
      · exact h2 x hx
    · rw [if_neg h]
      obtain ⟨h1, h2⟩ := bestC_ge cs (w + 1) b m
      refine ⟨h1, fun x hx => ?_⟩
      rcases List.mem_cons.1 hx with rfl | hx
      · omega
      · exact h2 x hx
theorem bestC_first (cs : List Int) (h0 : 0 < cs.length) (hc : ∀ c ∈ cs, 0 ≤ c) : bestC cs 0 0 (rd cs 0) = bestC cs 0 0 0 := by
  cases cs with
  | nil => simp at h0
  | cons c cs =>
    have := hc c (by simp)
    have e : rd (c :: cs) 0 = c := rfl
    rw [e]
    simp only [bestC]
    rw [if_neg (by omega)]
    by_cases h : c > 0
    · rw [if_pos h]
    · have : c = 0 := by omega
      rw [if_neg h, this]

theorem greedy_l (n p q h : Nat) (hn : n ≤ 12) (hp : p ≤ n) (hq : q ≤ n) (hhp : h ≤ p) (hhq : h ≤ q) : ∀ (N : Nat) (O Q : List Int) (D : List Nat), O.length + N = 200 → Q.Pairwise (· < ·) → Q.Perm O → D.Sublist (S n q) → (∀ t : Nat, (t : Int) ∈ O → cntN h D t = 0) → ∃ r : List Int × Int, r.1.length ≤ 200 ∧ Ev (fun k => spec_GreedyTickets.l0 k ((S n p).map Int.ofNat) (D.map Int.ofNat) Q n p q h) r ∧ Ev (fun k => impl_GreedyTickets.l0 k ((S n p).map Int.ofNat) (D.map Int.ofNat) O ((S n p).map fun t => (cntN h D t : Int)) n p q h) r := by
  intro N O Q D hN hQ hP hD hO
  have hql : Q.length = O.length := hP.length_eq
  cases D with
  | nil =>
    refine ⟨(Q, 0), by show Q.length ≤ 200; omega, ⟨1, fun k hk => ?_⟩, ⟨1, fun k hk => ?_⟩⟩
    · obtain ⟨k, rfl⟩ : ∃ q, k = q + 1 := ⟨k - 1, by omega⟩
      simp only [spec_GreedyTickets.l0]
      rw [if_neg (by simp)]
    · obtain ⟨k, rfl⟩ : ∃ q, k = q + 1 := ⟨k - 1, by omega⟩
      simp only [impl_GreedyTickets.l0]
      rw [if_neg (by simp)]
      unfold slices_Sort_int64_int64.f
      rw [if_pos (by omega), sort_is O Q hQ hP]
      rfl
  | cons d0 D0 =>
    have hTl := S_len n p hn
    have hT : ∀ t ∈ S n p, t < 4096 := fun t ht => S_lt hn ht
    have hsub := hD
    generalize hDe : d0 :: D0 = D at *
    have hD0 : d0 ∈ D := by rw [← hDe]; exact List.mem_cons_self
    have hDp : 0 < D.length := List.length_pos_of_mem hD0
    have hDl : D.length ≤ 4096 := Nat.le_trans hD.length_le (S_len n q hn)
    have hD1 : ∀ d ∈ D, d < 4096 := fun d hd => S_lt hn (hD.subset hd)
    obtain ⟨t0, ht0, hht0⟩ := some_hit n p q h d0 hn hp hq hhp hhq (hD.subset hD0)
    have hTp : 0 < (S n p).length := List.length_pos_of_mem ht0
    have hcn : ∀ t, (cntN h D t : Int) ≤ 4096 := fun t => by
      have : cntN h D t ≤ D.length := List.length_filter_le _ _
      omega
    cases N with
    | zero =>
      refine ⟨([], 3), by simp, ⟨1, fun k hk => ?_⟩, ?_⟩
      · obtain ⟨k, rfl⟩ : ∃ q, k = q + 1 := ⟨k - 1, by omega⟩
        simp only [spec_GreedyTickets.l0]
        rw [if_pos (by simp; omega), if_pos (by omega)]
      · have h1 := gi1 n p q h (S n p) hT hTl (D.map Int.ofNat) O (by omega) ((S n p).map fun t => (cntN h D t : Int)) (by simp) ([], 3) (fun _ => rfl) _ 0 (by rw [Nat.zero_add]) 0 (by simp; omega) (fun h2 => absurd (by omega) h2)
        refine Ev.step (fun k => ?_) h1
        simp only [impl_GreedyTickets.l0]
        rw [if_pos (by simp; omega)]
        rfl
    | succ N =>
      generalize hG : ((S n p).map fun t => (cntN h D t : Int)) = G
      have hGl : G.length = (S n p).length := by rw [← hG]; simp
      have hG0 : ∀ c ∈ G, 0 ≤ c := fun c hc => by
        rw [← hG] at hc
        obtain ⟨t, _, rfl⟩ := List.mem_map.1 hc
        omega
      obtain ⟨b0, b1, b2⟩ := bestC_all G (by omega) hG0
      obtain ⟨b, hb⟩ : ∃ b : Nat, (bestC G 0 0 0).1 = (b : Int) := ⟨(bestC G 0 0 0).1.toNat, by omega⟩
      have hbT : b < (S n p).length := by omega
      have hcnt0 : 0 < cntN h D t0 := List.length_pos_of_mem (List.mem_filter.2 ⟨hD0, hht0⟩)
      have hm1 : (cntN h D t0 : Int) ≤ (bestC G 0 0 0).2 := (bestC_ge G 0 0 0).2 _ (by rw [← hG]; exact List.mem_map.2 ⟨t0, ht0, rfl⟩)
      have hmw : (bestC G 0 0 0).2 = (cntN h D (S n p)[b] : Int) := by
        rw [b2, hb, rd_nat G b (by omega)]
        simp only [← hG, List.getElem_map]
      have hval : valT (S n p) (bestC G 0 0 0) = ((S n p)[b] : Int) := by
        unfold valT
        rw [if_neg (by omega), hb]
        exact rd_map _ b hbT
      have hwO : (((S n p)[b] : Nat) : Int) ∉ O := fun hm => by
        have := hO _ hm
        omega
      have hwQ : (((S n p)[b] : Nat) : Int) ∉ Q := fun hm => hwO (hP.mem_iff.1 hm)
      obtain ⟨R, r1, r2, r3⟩ := put_ev Q (by omega) _ hwQ hQ
      have hRO : R.Perm (O ++ [(((S n p)[b] : Nat) : Int)]) := r1.trans (hP.append_right _)
      obtain ⟨r, hr1, hr2, hr3⟩ := greedy_l n p q h hn hp hq hhp hhq N (O ++ [(((S n p)[b] : Nat) : Int)]) R (D.filter fun d => !hitN h (S n p)[b] d) (by simp; omega) r2 hRO (List.filter_sublist.trans hD) (fun t ht => by
        rcases List.mem_append.1 ht with ht | ht
        · have h0 := hO t ht
          have hs : cntN h (D.filter fun d => !hitN h (S n p)[b] d) t ≤ cntN h D t := (List.filter_sublist.filter _).length_le
          omega
        · have e : t = (S n p)[b] := by simp at ht; omega
          subst e
          unfold cntN
          rw [List.filter_filter, List.filter_eq_nil_iff.2 (fun d hd => by simp), List.length_nil])
      refine ⟨r, hr1, ?_, ?_⟩
      · have h3 := gs3 n p q h (S n p) hT hTl D hD1 hDl R (S n p)[b] (hT _ (List.getElem_mem hbT)) r D.length 0 (by omega) [] (by simp) (by
          rw [List.drop_zero, List.nil_append]; exact hr2)
        have h4 : Ev (fun k => spec_l01Put.f k Q (((S n p)[b] : Nat) : Int)) R := ⟨Q.length + 1, fun k hk => r3 k (by omega)⟩
        have h5 := gs1 n p q h (S n p) hT hTl D hD1 hDl Q r (S n p).length 0 (by omega) 0 0 (by omega) (by
          rw [List.drop_zero, hG, Int.ofNat_zero, hval]
          exact Ev.bind h4 h3)
        refine Ev.step (fun k => ?_) h5
        simp only [spec_GreedyTickets.l0]
        rw [if_pos (by simp; omega), if_neg (by omega)]
        rfl
      · have h2 := gi2 n p q h (S n p) hT hTl (O ++ [(((S n p)[b] : Nat) : Int)]) b hbT D hD1 hDl r D.length 0 (by omega) [] (fun t => (cntN h D t : Int)) (by simp) (fun t ht => by
          have := hcn t
          omega) (by
          rw [List.drop_zero, List.nil_append]
          have e : ((S n p).map fun t => (cntN h D t : Int) - ((D.filter fun d => hitN h (S n p)[b] d && hitN h t d).length : Int)) = (S n p).map fun t => (cntN h (D.filter fun d => !hitN h (S n p)[b] d) t : Int) := by
            refine List.map_congr_left fun t _ => ?_
            have := filt_split (fun d => hitN h (S n p)[b] d) (fun d => hitN h t d) D
            unfold cntN
            omega
          rw [e]; exact hr3)
        have h1 := gi1 n p q h (S n p) hT hTl (D.map Int.ofNat) O (by omega) G hGl r (fun h2 => by omega) G.length 0 (by omega) 0 (by omega) (fun _ b' hb' hbT' => by
          have e : b' = b := by
            rw [List.drop_zero] at hb'
            have h6 := bestC_first G (by omega) hG0
            have : ((0 : Nat) : Int) = 0 := rfl
            rw [this, h6, hb] at hb'
            omega
          subst e
          rw [← hG, List.length_map]
          exact h2)
        refine Ev.step (fun k => ?_) h1
        simp only [impl_GreedyTickets.l0]
        rw [if_pos (by simp; omega)]
        rfl
termination_by N => N

theorem isLot (a b c d : Int) : spec_l08Is.f a b c d = impl_IsLottery.f a b c d := by
  unfold spec_l08Is.f spec_l01In.f impl_IsLottery.f mn
  repeat' split
  all_goals simp_all
  all_goals omega

/-- What a lottery's numbers are. -/
theorem lot_cases (a b c d : Int) : impl_IsLottery.f a b c d = some false ∨ (impl_IsLottery.f a b c d = some true ∧ ∃ n p q h : Nat, a = n ∧ b = p ∧ c = q ∧ d = h ∧ 1 ≤ n ∧ n ≤ 12 ∧ 1 ≤ p ∧ p ≤ n ∧ 1 ≤ q ∧ q ≤ n ∧ 1 ≤ h ∧ h ≤ p ∧ h ≤ q) := by
  by_cases hv : 1 ≤ a ∧ a ≤ 12 ∧ 1 ≤ b ∧ b ≤ a ∧ 1 ≤ c ∧ c ≤ a ∧ 1 ≤ d ∧ d ≤ b ∧ d ≤ c
  · refine .inr ⟨?_, a.toNat, b.toNat, c.toNat, d.toNat, by omega, by omega, by omega, by omega, by omega, by omega, by omega, by omega, by omega, by omega, by omega, by omega, by omega⟩
    unfold impl_IsLottery.f mn
    repeat' split
    all_goals simp_all
    all_goals omega
  · refine .inl ?_
    unfold impl_IsLottery.f mn
    repeat' split
    all_goals simp_all
    all_goals omega

theorem drawsHit_l (n p q h : Nat) (hp : p ≤ 12) (M : List Nat) (hM : ∀ x ∈ M, x < 4096) (hl : M.length ≤ 4096) : ∀ d i cnt : Nat, i + d = M.length → cnt ≤ i → ∀ k, d < k → impl_drawsHit.l0 k cnt (M.map Int.ofNat) M.length i n p q h = some ((cnt + ((M.drop i).filter (fun x => decide (h ≤ pc ((2 ^ p - 1) &&& x)))).length : Nat) : Int)
  | 0, i, cnt, e, hc, k, hk => by
    obtain ⟨k, rfl⟩ : ∃ q, k = q + 1 := ⟨k - 1, by omega⟩
    simp only [impl_drawsHit.l0]; rw [if_neg (by omega), List.drop_eq_nil_of_le (by omega)]; simp
  | d+1, i, cnt, e, hc, k, hk => by
    obtain ⟨k, rfl⟩ : ∃ q, k = q + 1 := ⟨k - 1, by omega⟩
    have hi : i < M.length := by omega
    have hpp := pow_le hp
    have hp1 : 1 ≤ 2 ^ p := Nat.one_le_two_pow
    simp only [impl_drawsHit.l0]
    rw [if_pos (by omega), if_pos (by omega), if_pos (by simp; omega), if_pos (by omega), rd_map M i hi, shl_one p (by omega), w64 (by omega) (by omega), show ((2 ^ p : Nat) : Int) - 1 = ((2 ^ p - 1 : Nat) : Int) by omega, hits_ev n p q h _ _ (by omega) (hM _ (List.getElem_mem hi))]
    simp only [Option.bind_some]
    rw [w64 (by omega) (by omega), w64 (by omega) (by omega), show ((i : Int) + 1) = ((i + 1 : Nat) : Int) by omega, show ((cnt : Int) + 1) = ((cnt + 1 : Nat) : Int) by omega, List.drop_eq_getElem_cons hi, List.filter_cons]
    by_cases hh : h ≤ pc ((2 ^ p - 1) &&& M[i])
    · rw [if_pos (by simpa using hh), if_pos (by simpa using hh), drawsHit_l n p q h hp M hM hl d (i+1) (cnt+1) (by omega) (by omega) k (by omega)]
      simp only [List.length_cons]; congr 1; omega
    · rw [if_neg (by simpa using hh), if_neg (by simpa using hh), drawsHit_l n p q h hp M hM hl d (i+1) cnt (by omega) (by omega) k (by omega)]
theorem drawsHit_ev (n p q h : Nat) (hn : n ≤ 12) (hp : p ≤ n) (k : Nat) (hk : 5000 ≤ k) : impl_drawsHit.f k n p q h = some (hitF p (n - p) q h : Int) := by
  unfold impl_drawsHit.f impl_allDraws.f
  rw [sets_ev n q hn k (by omega)]
  simp only [Option.bind_some, List.length_map]
  have hl := S_len n q hn
  have := drawsHit_l n p q h (by omega) (S n q) (fun x hx => S_lt hn hx) hl (S n q).length 0 0 (by omega) (by omega) k (by omega)
  have h1 : (2 ^ p - 1) < 2 ^ n := by
    have := Nat.pow_le_pow_right (n := 2) (by omega) hp
    have : 1 ≤ 2 ^ p := Nat.one_le_two_pow
    omega
  have h2 := (hitL_length n (2 ^ p - 1) q h hn h1).1
  rw [pc_ones p (by omega)] at h2
  unfold hitL at h2
  rw [List.drop_zero, h2] at this
  simpa using this

theorem greedy_both (a b c d : Int) : ∃ r : List Int × Int, r.1.length ≤ 200 ∧ Ev (fun k => spec_GreedyTickets.f k a b c d) r ∧ Ev (fun k => impl_GreedyTickets.f k a b c d) r := by
  unfold spec_GreedyTickets.f impl_GreedyTickets.f
  rw [isLot]
  rcases lot_cases a b c d with h | ⟨h, n, p, q, e, rfl, rfl, rfl, rfl, h1, h2, h3, h4, h5, h6, h7, h8, h9⟩
  · rw [h]
    refine ⟨([], 1), by simp, ⟨0, fun k _ => rfl⟩, ⟨0, fun k _ => rfl⟩⟩
  · rw [h]
    simp only [Option.bind_some, if_true]
    obtain ⟨r, r1, ⟨K1, hK1⟩, ⟨K2, hK2⟩⟩ := greedy_l n p q e h2 h4 h6 h8 h9 200 [] [] (S n q) (by simp) List.Pairwise.nil (List.Perm.refl _) (List.Sublist.refl _) (fun t ht => by simp at ht)
    refine ⟨r, r1, ⟨5000 + K1, fun k hk => ?_⟩, ⟨5000 + K2, fun k hk => ?_⟩⟩
    · dsimp only
      rw [specSets_ev n p q e p h1 h2 k (by omega), specSets_ev n p q e q h1 h2 k (by omega)]
      simp only [Option.bind_some]
      exact hK1 k (by omega)
    · dsimp only
      unfold impl_allTickets.f impl_allDraws.f
      rw [sets_ev n p h2 k (by omega), sets_ev n q h2 k (by omega), drawsHit_ev n p q e h2 h4 k (by omega)]
      simp only [Option.bind_some]
      unfold slices_Repeat_int64_int64.f
      have hl := S_len n p h2
      rw [if_pos (by rfl), if_pos (by omega), if_pos (by simp; omega), Option.bind_some]
      have e1 : List.replicate (((S n p).map Int.ofNat).length : Int).toNat (rd [(hitF p (n - p) q e : Int)] 0) = (S n p).map fun t => (cntN e (S n q) t : Int) := by
        rw [Int.toNat_natCast, List.length_map]
        refine (List.eq_replicate_iff.2 ⟨by simp, fun x hx => ?_⟩).symm
        obtain ⟨t, ht, rfl⟩ := List.mem_map.1 hx
        obtain ⟨g1, g2⟩ := mem_S.1 ht
        have g3 := (hitL_length n t q e h2 g1).1
        rw [g2] at g3
        show ((cntN e (S n q) t : Nat) : Int) = (hitF p (n - p) q e : Int)
        rw [← g3]
        rfl
      rw [e1]
      exact hK2 k (by omega)

theorem eq_l (l : List Int) (hl : l.length ≤ 4611686018427387904) : ∀ d i : Nat, i + d = l.length → ∀ k, d < k → laws_eqInt64S.l0 k l l i = some true
  | 0, i, e, k, hk => by
    obtain ⟨k, rfl⟩ : ∃ q, k = q + 1 := ⟨k - 1, by omega⟩
    simp only [laws_eqInt64S.l0]; rw [if_neg (by omega)]
  | d+1, i, e, k, hk => by
    obtain ⟨k, rfl⟩ : ∃ q, k = q + 1 := ⟨k - 1, by omega⟩
    simp only [laws_eqInt64S.l0]
    rw [if_pos (by omega), if_pos (by omega), if_pos (by omega), if_pos trivial, w64 (by omega) (by omega), show (i : Int) + 1 = ((i + 1 : Nat) : Int) by omega]
    exact eq_l l hl d (i+1) (by omega) k (by omega)
theorem eq_ev (l : List Int) (hl : l.length ≤ 4611686018427387904) (k : Nat) (hk : l.length < k) : laws_eqInt64S.f k l l = some true := by
  unfold laws_eqInt64S.f
  rw [if_pos rfl]
  exact eq_l l hl l.length 0 (by omega) k hk

theorem seqI_len (s : Int) (n : Nat) : (seqI s n).length = n := by
  induction n generalizing s with
  | zero => rfl
  | succ n ih => simp [seqI, ih]
theorem mark_l : ∀ (B A : List Int) (s : Int), 0 ≤ s → s + B.length ≤ 4611686018427387904 → A.length + B.length ≤ 4611686018427387904 → ∀ k, B.length < k → laws_markInt64S.l0 k (A ++ B) s A.length = some (s + B.length, A ++ seqI s B.length)
  | [], A, s, h0, h1, h2, k, hk => by
    obtain ⟨k, rfl⟩ : ∃ q, k = q + 1 := ⟨k - 1, by simp at hk; omega⟩
    simp only [laws_markInt64S.l0]
    rw [if_neg (by simp)]; simp [seqI]
  | b :: B, A, s, h0, h1, h2, k, hk => by
    obtain ⟨k, rfl⟩ : ∃ q, k = q + 1 := ⟨k - 1, by simp at hk; omega⟩
    simp only [laws_markInt64S.l0]
    simp only [List.length_cons] at h1 h2 hk
    rw [if_pos (by simp; omega), if_pos (by omega), Int.toNat_natCast, set_mid, w64 (by omega) (by omega), w64 (by omega) (by omega), show (A.length : Int) + 1 = ((A ++ [s]).length : Int) by simp]
    rw [mark_l B (A ++ [s]) (s+1) (by omega) (by omega) (by simp; omega) k (by omega)]
    simp only [List.length_cons, seqI, List.append_assoc, List.singleton_append]
    congr 2
    omega
theorem held_l : ∀ (n : Nat) (A : List Int) (s : Int), 0 ≤ s → s + n ≤ 4611686018427387904 → A.length + n ≤ 4611686018427387904 → ∀ k, n < k → laws_heldInt64S.l0 k (A ++ seqI s n) s A.length = some (s + n)
  | 0, A, s, h0, h1, h2, k, hk => by
    obtain ⟨k, rfl⟩ : ∃ q, k = q + 1 := ⟨k - 1, by omega⟩
    simp only [laws_heldInt64S.l0]
    rw [if_neg (by simp [seqI])]; simp
  | n+1, A, s, h0, h1, h2, k, hk => by
    obtain ⟨k, rfl⟩ : ∃ q, k = q + 1 := ⟨k - 1, by omega⟩
    show laws_heldInt64S.l0 (k+1) (A ++ s :: seqI (s+1) n) s A.length = _
    simp only [laws_heldInt64S.l0]
    rw [if_pos (by simp; omega), if_pos (by omega), rd_mid, if_pos rfl, w64 (by omega) (by omega), w64 (by omega) (by omega), show (A.length : Int) + 1 = ((A ++ [s]).length : Int) by simp]
    have := held_l n (A ++ [s]) (s+1) (by omega) (by omega) (by simp; omega) k (by omega)
    rw [List.append_assoc, List.singleton_append] at this
    rw [this]
    congr 1; omega
theorem mark_held (l : List Int) (hl : l.length ≤ 1048576) (k : Nat) (hk : 1048576 < k) : ∃ l', laws_markInt64S.f k l 1 = some (1 + (l.length : Int), l') ∧ ∀ k, 1048576 < k → laws_heldInt64S.f k l' 1 = some (1 + (l.length : Int)) := by
  refine ⟨seqI 1 l.length, ?_, fun k hk => ?_⟩
  · unfold laws_markInt64S.f
    exact mark_l l [] 1 (by omega) (by omega) (by simp; omega) k (by omega)
  · unfold laws_heldInt64S.f
    exact held_l l.length [] 1 (by omega) (by omega) (by simp; omega) k (by omega)

theorem FnExactGreedyTickets (a b c d : Int) (_ : (Lit.int .i64 a).wf = true) (_ : (Lit.int .i64 b).wf = true) (_ : (Lit.int .i64 c).wf = true) (_ : (Lit.int .i64 d).wf = true) : ∃ k, laws_FnExactGreedyTickets.f k a b c d = some true := by
  obtain ⟨⟨r, e⟩, hr, ⟨K1, h1⟩, ⟨K2, h2⟩⟩ := greedy_both a b c d
  have hr : r.length ≤ 200 := hr
  have h1 : ∀ k, K1 ≤ k → spec_GreedyTickets.f k a b c d = some (r, e) := h1
  have h2 : ∀ k, K2 ≤ k → impl_GreedyTickets.f k a b c d = some (r, e) := h2
  obtain ⟨k, hk⟩ : ∃ k : Nat, 1048700 + K1 + K2 ≤ k := ⟨1048700 + K1 + K2, Nat.le_refl _⟩
  obtain ⟨l', hm, hh⟩ := mark_held r (by omega) (k+1) (by omega)
  have hneg : ¬ (1 + (r.length : Int) < 0) := by omega
  refine ⟨k + 2, ?_⟩
  unfold laws_FnExactGreedyTickets.f laws_toLottery.f
  simp only [Option.bind_some]
  rw [h1 (k+2) (by omega), h2 (k+2) (by omega)]
  simp only [Option.bind_some]
  rw [eq_ev r (by omega) (k+2) (by omega)]
  simp only [Option.bind_some, if_true, bne_self_eq_false, laws_FnExactGreedyTickets.j0, Bool.false_eq_true, if_false]
  rw [hm]
  simp only [Option.bind_some]
  rw [hh (k+1) (by omega)]
  simp only [Option.bind_some, laws_toLottery.f]
  rw [if_neg hneg, if_pos trivial, h2 (k+1) (by omega)]
  simp only [Option.bind_some]
  rw [eq_ev r (by omega) (k+1) (by omega)]
  simp only [Option.bind_some, if_true, bne_self_eq_false, laws_FnExactGreedyTickets.j1, Bool.false_eq_true, if_false]
  rw [hh k (by omega)]
  simp only [Option.bind_some]
  rw [if_neg hneg, if_pos trivial]

end Go.Proofs.Ytchlbkcladfloaa.Pure
