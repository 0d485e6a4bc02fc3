/- Tickets come back from their ranks and numbers, and each ticket hits as many draws. For every code. -/
import Derived.Test.YtchlbkcladfloaaPFnTicketsx0
import Derived.Test.YtchlbkcladfloaaPFnTicketsx1
import Derived.Test.YtchlbkcladfloaaPFnTicketsx2
import Derived.Test.YtchlbkcladfloaaPFnTicketsx3
import Derived.Test.YtchlbkcladfloaaPFnTicketsx4
import Derived.Test.YtchlbkcladfloaaPFnTicketsx5
import Derived.Test.YtchlbkcladfloaaPFnTicketsx6
import Derived.Test.YtchlbkcladfloaaPFnTicketsx7
import Derived.Test.YtchlbkcladfloaaPFnTicketsx8
import Derived.Test.YtchlbkcladfloaaPFnTicketsx9
import Derived.Test.YtchlbkcladfloaaPFnTicketsx10
import Derived.Test.YtchlbkcladfloaaPFnTicketsx11
import Derived.Test.YtchlbkcladfloaaPFnTicketsx12
import Derived.Test.YtchlbkcladfloaaPFnTicketsx13
import Derived.Test.YtchlbkcladfloaaPFnTicketsx14
import Derived.Test.YtchlbkcladfloaaFtFtLotMath
import Derived.Test.YtchlbkcladfloaaFtFtLotHit
import Derived.Test.YtchlbkcladfloaaFtFtLotRank
import Derived.KernelRfl
namespace Go.Proofs.Ytchlbkcladfloaa.Pure
open Go Go.RowKit Go.Proofs.Ytchlbkcladfloaa.PFnTickets Go.Proofs.YtchlbkcladfloaaW.PrintWords Go.Proofs.YtchlbkcladfloaaW.PrintLast Go.Proofs.YtchlbkcladfloaaW.PrintMore Go.Proofs.Ytchlbkcladfloaa.LotM
set_option linter.unusedVariables false
set_option linter.unusedSimpArgs false
theorem shl_one : ∀ n, n < 13 → shl .i64 1 ((n : Nat) : Int) = ((2 ^ n : Nat) : Int) := by decide +kernel
theorem pow_le {n : Nat} (h : n ≤ 12) : 2 ^ n ≤ 4096 := Nat.pow_le_pow_right (n := 2) (by omega) h
theorem w64 {i : Int} (h0 : -9223372036854775808 ≤ i) (h : i < 9223372036854775808) : wrap64 i = i := by unfold wrap64; omega
theorem u64 {i : Int} (h0 : 0 ≤ i) (h : i < 9223372036854775808) : IntKind.u64.wrap i = i := by
  have e : IntKind.u64.wrap i = i % 18446744073709551616 := by simp [IntKind.wrap, IntKind.bits, IntKind.signed]
  rw [e]; omega
def allN (p : Nat → Bool) : Nat → Bool
  | 0 => true
  | n+1 => p n && allN p n
theorem allN_at (p : Nat → Bool) : ∀ n, allN p n = true → ∀ s, s < n → p s = true
  | 0, _, s, h => by omega
  | n+1, h, s, hs => by
    simp only [allN, Bool.and_eq_true] at h
    by_cases e : s = n
    · subst e; exact h.1
    · exact allN_at p n h.2 s (by omega)

theorem w_i64 : ∀ n : Int, 0 ≤ n → n < 2 ^ 63 → IntKind.i64.wrap n = n := fun n h0 h1 => by rw [IntKind.wrap_i64]; omega
theorem band (a b : Nat) (ha : a < 4611686018427387904) (hb : b < 4611686018427387904) : Go.bits .and .i64 (a : Int) (b : Int) = ((a &&& b : Nat) : Int) :=
  (bits_nat .i64 63 (by decide) w_i64 a b (by omega) (by omega)).1
theorem bor (a b : Nat) (ha : a < 4611686018427387904) (hb : b < 4611686018427387904) : Go.bits .or .i64 (a : Int) (b : Int) = ((a ||| b : Nat) : Int) :=
  (bits_nat .i64 63 (by decide) w_i64 a b (by omega) (by omega)).2
theorem shr_nat (a i : Nat) (hi : i ≤ 64) : shr .i64 (a : Int) (i : Int) = ((a / 2 ^ i : Nat) : Int) := by
  unfold shr
  have e : min ((i : Int).toNat) IntKind.i64.bits = i := by
    have : IntKind.i64.bits = 64 := rfl
    rw [this, Int.toNat_natCast]; omega
  rw [e]; simp
theorem bit_nat (a i : Nat) (ha : a < 4611686018427387904) (hi : i ≤ 64) : Go.bits .and .i64 (shr .i64 (a : Int) (i : Int)) 1 = ((a / 2 ^ i % 2 : Nat) : Int) := by
  rw [shr_nat a i hi, show (1 : Int) = ((1 : Nat) : Int) from rfl, band _ _ (Nat.lt_of_le_of_lt (Nat.div_le_self _ _) ha) (by omega), Nat.and_one_is_mod]

theorem uw (i : Int) : 0 ≤ IntKind.u64.wrap i ∧ IntKind.u64.wrap i < 18446744073709551616 := by
  have e : IntKind.u64.wrap i = i % 18446744073709551616 := by simp [IntKind.wrap, IntKind.bits, IntKind.signed]
  rw [e]; omega
theorem bandu (Y : Int) (h0 : 0 ≤ Y) (h1 : Y < 4611686018427387904) : ∃ a : Nat, Go.bits .and .u64 Y 16777215 = (a : Int) ∧ a ≤ 16777215 := by
  obtain ⟨y, rfl⟩ : ∃ y : Nat, Y = y := ⟨Y.toNat, by omega⟩
  refine ⟨y &&& 16777215, ?_, Nat.and_le_right⟩
  exact (bits_nat .u64 63 (by decide) (fun n h0 h1 => u64 h0 h1) y 16777215 (by omega) (by omega)).1
theorem rd_in (s : List Int) (p : Int) (h0 : 0 ≤ p) (h1 : p < (s.length : Int)) : rd s p ∈ s := by
  obtain ⟨i, rfl⟩ : ∃ i : Nat, p = i := ⟨p.toNat, by omega⟩
  have hi : i < s.length := by omega
  simp [rd, List.getElem?_eq_getElem hi]
/-- The source's bytes. -/
def Src (s : List Int) : Prop := (∀ x ∈ s, 0 ≤ x ∧ x < 256) ∧ s.length ≤ 4096
theorem next_ev {s : List Int} (hs : Src s) (p h n : Int) (hp : 0 ≤ p) (hn : 1 ≤ n) : ∃ v p' h', spec_l01Next.f s p h n = some (v, p', h') ∧ 0 ≤ v ∧ v < n ∧ 0 ≤ p' := by
  unfold spec_l01Next.f
  rw [if_neg (by omega)]
  generalize hX : IntKind.u64.wrap (IntKind.u64.wrap (h * 6364136223846793005) + 1442695040888963407) = X
  have hX0 : 0 ≤ X ∧ X < 18446744073709551616 := by rw [← hX]; exact uw _
  obtain ⟨a, ha, hal⟩ := bandu (X / 8589934592) (by omega) (by omega)
  have hw : wrap64 (a : Int) = a := w64 (by omega) (by omega)
  rw [ha, hw]
  have hl := hs.2
  by_cases hpl : p < (s.length : Int)
  · have hb := hs.1 _ (rd_in s p hp hpl)
    have hb2 : wrap64 (rd s p) = rd s p := w64 (by omega) (by omega)
    have hb3 : wrap64 ((a : Int) + rd s p) = (a : Int) + rd s p := w64 (by omega) (by omega)
    have hb4 : wrap64 (p + 1) = p + 1 := w64 (by omega) (by omega)
    rw [if_pos hpl, if_pos hp, if_neg (by omega), hb2, hb3, hb4]
    exact ⟨_, _, _, rfl, Int.tmod_nonneg _ (by omega), Int.tmod_lt_of_pos _ (by omega), by omega⟩
  · rw [if_neg hpl, if_neg (by omega)]
    exact ⟨_, _, _, rfl, Int.tmod_nonneg _ (by omega), Int.tmod_lt_of_pos _ (by omega), hp⟩
theorem pick_ev {s : List Int} (hs : Src s) (p h : Int) (L : List Int) (hp : 0 ≤ p) (hn : 1 ≤ L.length) : ∃ v p' h', spec_l01Pick.f s p h L = some (v, p', h') ∧ v ∈ L ∧ 0 ≤ p' := by
  obtain ⟨v, p', h', e, h0, h1, h2⟩ := next_ev hs p h (L.length : Int) hp (by omega)
  unfold spec_l01Pick.f
  rw [e, Option.bind_some, if_pos h0, if_pos h1]
  exact ⟨_, _, _, rfl, rd_in L v h0 h1, h2⟩
theorem from_l (l : List Int) (hl : l.length ≤ 4096) : ∀ (d i : Nat) (h : Int), i + d = l.length → ∃ h', ∀ k, d < k → spec_l01From.l0 k l i l 0 h = some (l, 0, h')
  | 0, i, h, e => ⟨h, fun k hk => by
    obtain ⟨k, rfl⟩ : ∃ q, k = q + 1 := ⟨k - 1, by omega⟩
    simp only [spec_l01From.l0]; rw [if_neg (by omega)]⟩
  | d+1, i, h, e => by
    have hw : wrap64 ((i : Int) + 1) = ((i + 1 : Nat) : Int) := by rw [w64 (by omega) (by omega)]; omega
    obtain ⟨h', g⟩ := from_l l hl d (i + 1) (IntKind.u64.wrap ((IntKind.u64.wrap ((IntKind.u64.wrap (h * 1099511628211)) + (IntKind.u64.wrap (rd l i)))) + 251)) (by omega)
    refine ⟨h', fun k hk => ?_⟩
    obtain ⟨k, rfl⟩ : ∃ q, k = q + 1 := ⟨k - 1, by omega⟩
    simp only [spec_l01From.l0]; rw [if_pos (by omega), if_pos (by omega), if_pos (by omega), hw]
    exact g k (by omega)
theorem from_ev {l : List Int} (hs : Src l) : ∃ h, Ev (fun k => spec_l01From.f k l) (l, 0, h) := by
  obtain ⟨h', g⟩ := from_l l hs.2 l.length 0 (IntKind.u64.wrap (14111 + (IntKind.u64.wrap ((l.length : Int))))) (by omega)
  exact ⟨h', l.length + 1, fun k hk => g k (by omega)⟩

theorem set_mid (A B : List Int) (b s : Int) : (A ++ b :: B).set A.length s = (A ++ [s]) ++ B := by
  induction A with
  | nil => rfl
  | cons a A ih => simp [List.set_cons_succ]
theorem rd_mid (A B : List Int) (b : Int) : rd (A ++ b :: B) (A.length : Int) = b := by simp [rd]
theorem rd_nat (M : List Int) (i : Nat) (h : i < M.length) : rd M (i : Int) = M[i] := by simp [rd, List.getElem?_eq_getElem h]
def seqI : Int → Nat → List Int
  | _, 0 => []
  | s, n+1 => s :: seqI (s+1) n

theorem order_l {s : List Int} (hs : Src s) (n : Nat) (hn : n ≤ 12) : ∀ (d i : Nat) (out : List Int) (p h : Int), i + d = n → out.length = i → (∀ x ∈ out, 0 ≤ x ∧ x < (n : Int)) → 0 ≤ p → ∃ out' p' h', (∀ k, d < k → spec_l01DrawOrder.l0 k s n out i p h = some (out', p', h')) ∧ out'.length = n ∧ (∀ x ∈ out', 0 ≤ x ∧ x < (n : Int)) ∧ 0 ≤ p'
  | 0, i, out, p, h, e, hl, ho, hp => ⟨out, p, h, fun k hk => by
    obtain ⟨k, rfl⟩ : ∃ q, k = q + 1 := ⟨k - 1, by omega⟩
    simp only [spec_l01DrawOrder.l0]; rw [if_neg (by omega)], by omega, ho, hp⟩
  | d+1, i, out, p, h, e, hl, ho, hp => by
    have hw : wrap64 ((i : Int) + 1) = ((i + 1 : Nat) : Int) := by rw [w64 (by omega) (by omega)]; omega
    obtain ⟨v, p1, h1, g, hv0, hv1, hp1⟩ := next_ev hs p h ((i + 1 : Nat) : Int) hp (by omega)
    obtain ⟨out', p', h', g2, r1, r2, r3⟩ := order_l hs n hn d (i + 1) (out.take v.toNat ++ [(i : Int)] ++ out.drop v.toNat) p1 h1 (by omega) (by rw [List.length_append, List.length_append, List.length_take, List.length_drop, List.length_singleton]; omega) (fun x hx => by
      rw [List.mem_append, List.mem_append, List.mem_singleton] at hx
      rcases hx with (hx | hx) | hx
      · exact ho x (List.mem_of_mem_take hx)
      · omega
      · exact ho x (List.mem_of_mem_drop hx)) hp1
    refine ⟨out', p', h', fun k hk => ?_, r1, r2, r3⟩
    obtain ⟨k, rfl⟩ : ∃ q, k = q + 1 := ⟨k - 1, by omega⟩
    simp only [spec_l01DrawOrder.l0]
    rw [if_pos (by omega), hw, g, Option.bind_some, if_pos hv0, if_pos (by omega), if_pos (by omega)]
    exact g2 k (by omega)
theorem order_ev {s : List Int} (hs : Src s) (n : Nat) (hn : n ≤ 12) (p h : Int) (hp : 0 ≤ p) : ∃ out p' h', Ev (fun k => spec_l01DrawOrder.f k s p h n) (out, p', h') ∧ out.length = n ∧ (∀ x ∈ out, 0 ≤ x ∧ x < (n : Int)) ∧ 0 ≤ p' := by
  obtain ⟨out, p', h', g, r1, r2, r3⟩ := order_l hs n hn n 0 [] p h (by omega) rfl (fun x hx => by cases hx) hp
  exact ⟨out, p', h', ⟨n + 1, fun k hk => g k (by omega)⟩, r1, r2, r3⟩
theorem drawSet_l (s : List Int) (p h : Int) (n : Nat) (hn : n ≤ 12) (out : List Int) (ho : ∀ x ∈ out, 0 ≤ x ∧ x < (n : Int)) (hol : out.length ≤ 12) (m : Nat) (hm : m ≤ out.length) : ∀ (d i x : Nat), i + d = m → x < 2 ^ n → ∃ y, y < 2 ^ n ∧ x ≤ y ∧ (1 ≤ d → 1 ≤ y) ∧ ∀ k, d < k → spec_l08DrawSet.l0 k m x out i s p h = some ((y : Int), p, h)
  | 0, i, x, e, hx => ⟨x, hx, Nat.le_refl _, fun h => by omega, fun k hk => by
    obtain ⟨k, rfl⟩ : ∃ q, k = q + 1 := ⟨k - 1, by omega⟩
    simp only [spec_l08DrawSet.l0]; rw [if_neg (by omega)]⟩
  | d+1, i, x, e, hx => by
    have hpn := pow_le hn
    have hi : i < out.length := by omega
    have hw : wrap64 ((i : Int) + 1) = ((i + 1 : Nat) : Int) := by rw [w64 (by omega) (by omega)]; omega
    have hr := rd_nat out i hi
    have hb := ho out[i] (List.getElem_mem hi)
    obtain ⟨y, hy⟩ : ∃ y : Nat, out[i] = y := ⟨out[i].toNat, by omega⟩
    rw [hy] at hr hb
    have hyp : 2 ^ y < 2 ^ n := Nat.pow_lt_pow_right (by omega) (by omega)
    have hor : x ||| 2 ^ y < 2 ^ n := Nat.or_lt_two_pow hx hyp
    have h1 : 1 ≤ x ||| 2 ^ y := Nat.le_trans Nat.one_le_two_pow Nat.right_le_or
    obtain ⟨z, a1, a2, a3, a4⟩ := drawSet_l s p h n hn out ho hol m hm d (i + 1) (x ||| 2 ^ y) (by omega) hor
    refine ⟨z, a1, Nat.le_trans Nat.left_le_or a2, fun _ => by omega, fun k hk => ?_⟩
    obtain ⟨k, rfl⟩ : ∃ q, k = q + 1 := ⟨k - 1, by omega⟩
    simp only [spec_l08DrawSet.l0]
    rw [if_pos (by omega), if_pos (by omega), if_pos (by omega), hr, u64 (by omega) (by omega), if_pos (by omega), shl_one y (by omega), bor x (2 ^ y) (by omega) (by omega), hw]
    exact a4 k (by omega)
theorem drawSet_ev {s : List Int} (hs : Src s) (n m : Nat) (hn : n ≤ 12) (hm : m ≤ n) (h1 : 1 ≤ m) (p h : Int) (hp : 0 ≤ p) : ∃ (y : Nat) (p' h' : Int), Ev (fun k => spec_l08DrawSet.f k s p h n m) ((y : Int), p', h') ∧ y < 2 ^ n ∧ 1 ≤ y ∧ 0 ≤ p' := by
  obtain ⟨out, p', h', g, r1, r2, r3⟩ := order_ev hs n hn p h hp
  obtain ⟨y, a1, _, a3, a4⟩ := drawSet_l s p' h' n hn out r2 (by omega) m (by omega) m 0 0 (by omega) (Nat.two_pow_pos n)
  exact ⟨y, p', h', Ev.bind g ⟨m + 1, fun k hk => a4 k (by omega)⟩, a1, a3 h1, r3⟩

theorem drawOf_ev {s : List Int} (hs : Src s) (most p h : Int) (h1 : 1 ≤ most) (h2 : most ≤ 12) (hp : 0 ≤ p) : ∃ (n pk q e : Nat) (p' h' : Int), spec_l08DrawOf.f s p h most = some ((n : Int), (pk : Int), (q : Int), (e : Int), p', h') ∧ 0 ≤ p' ∧ 1 ≤ n ∧ (n : Int) ≤ most ∧ 1 ≤ pk ∧ pk ≤ n ∧ 1 ≤ q ∧ q ≤ n ∧ 1 ≤ e ∧ e ≤ pk ∧ e ≤ q := by
  obtain ⟨v1, p1, s1, g1, a1, b1, c1⟩ := next_ev hs p h most hp h1
  have w1 : wrap64 (1 + v1) = 1 + v1 := w64 (by omega) (by omega)
  obtain ⟨v2, p2, s2, g2, a2, b2, c2⟩ := next_ev hs p1 s1 (1 + v1) c1 (by omega)
  have w2 : wrap64 (1 + v2) = 1 + v2 := w64 (by omega) (by omega)
  obtain ⟨v3, p3, s3, g3, a3, b3, c3⟩ := next_ev hs p2 s2 (1 + v1) c2 (by omega)
  have w3 : wrap64 (1 + v3) = 1 + v3 := w64 (by omega) (by omega)
  have hmn : 1 ≤ mn (1 + v2) (1 + v3) ∧ mn (1 + v2) (1 + v3) ≤ 1 + v2 ∧ mn (1 + v2) (1 + v3) ≤ 1 + v3 := by unfold mn; split <;> omega
  obtain ⟨v4, p4, s4, g4, a4, b4, c4⟩ := next_ev hs p3 s3 (mn (1 + v2) (1 + v3)) c3 hmn.1
  have w4 : wrap64 (1 + v4) = 1 + v4 := w64 (by omega) (by omega)
  refine ⟨(1 + v1).toNat, (1 + v2).toNat, (1 + v3).toNat, (1 + v4).toNat, p4, s4, ?_, c4, by omega, by omega, by omega, by omega, by omega, by omega, by omega, by omega, by omega⟩
  unfold spec_l08DrawOf.f
  rw [g1, Option.bind_some, w1, g2, Option.bind_some, g3, Option.bind_some, w2, w3, g4, Option.bind_some, w4]
  rw [Int.toNat_of_nonneg (by omega), Int.toNat_of_nonneg (by omega), Int.toNat_of_nonneg (by omega), Int.toNat_of_nonneg (by omega)]
theorem bad_ev {s : List Int} (hs : Src s) (p h : Int) (hp : 0 ≤ p) (a b c d : Int) : ∃ x y z u p' h', spec_l08Bad.f s p h a b c d = some (x, y, z, u, p', h') ∧ 0 ≤ p' := by
  obtain ⟨v, p1, s1, g, _, _, c1⟩ := next_ev hs p h 40 hp (by omega)
  unfold spec_l08Bad.f
  rw [g, Option.bind_some]
  by_cases h0 : v = 0
  · obtain ⟨v2, p2, s2, g2, _, c2⟩ := pick_ev hs p1 s1 [0, 13, (-1)] c1 (by decide)
    rw [if_pos h0, g2]; exact ⟨_, _, _, _, _, _, rfl, c2⟩
  rw [if_neg h0]
  by_cases h1 : v = 1
  · obtain ⟨v2, p2, s2, g2, _, c2⟩ := pick_ev hs p1 s1 [0, 13, wrap64 (a + 1)] c1 (by simp)
    rw [if_pos h1, g2]; exact ⟨_, _, _, _, _, _, rfl, c2⟩
  rw [if_neg h1]
  obtain ⟨v2, p2, s2, g2, _, c2⟩ := pick_ev hs p1 s1 [0, 13] c1 (by decide)
  by_cases h2 : v = 2
  · rw [if_pos h2, g2]; exact ⟨_, _, _, _, _, _, rfl, c2⟩
  rw [if_neg h2]
  by_cases h3 : v = 3
  · rw [if_pos h3, g2]; exact ⟨_, _, _, _, _, _, rfl, c2⟩
  rw [if_neg h3]
  exact ⟨_, _, _, _, _, _, rfl, c1⟩
theorem near_ev {s : List Int} (hs : Src s) (p h m : Int) (hp : 0 ≤ p) (h0 : 0 ≤ m) (h1 : m ≤ 1000000) : ∃ v p' h', spec_l01Near.f s p h m = some (v, p', h') ∧ 0 ≤ p' := by
  obtain ⟨v, p1, s1, g, _, _, c1⟩ := next_ev hs p h 14 hp (by omega)
  have hw : wrap64 (m + 1) = m + 1 := w64 (by omega) (by omega)
  unfold spec_l01Near.f
  rw [g, Option.bind_some, hw]
  by_cases hv : v = 0
  · obtain ⟨v2, p2, s2, g2, _, c2⟩ := pick_ev hs p1 s1 [(-1), m + 1, 1099511627776, (-4611686018427387904)] c1 (by simp)
    rw [if_pos hv, g2]; exact ⟨_, _, _, rfl, c2⟩
  · obtain ⟨v2, p2, s2, g2, _, _, c2⟩ := next_ev hs p1 s1 (m + 1) c1 (by omega)
    rw [if_neg hv, g2]; exact ⟨_, _, _, rfl, c2⟩
theorem draw_ev {l : List Int} (hs : Src l) : ∃ a b c d, Ev (fun k => spec_l08Draw.f k l) (a, b, c, d) := by
  obtain ⟨h, hf⟩ := from_ev hs
  obtain ⟨v, p1, s1, g1, hv, c1⟩ := pick_ev hs 0 h [5, 8, 12] (by omega) (by decide)
  have hv2 : 1 ≤ v ∧ v ≤ 12 := by simp only [List.mem_cons, List.not_mem_nil, or_false] at hv; omega
  obtain ⟨n, pk, q, e, p2, s2, g2, c2, _⟩ := drawOf_ev hs v p1 s1 hv2.1 hv2.2 c1
  obtain ⟨x, y, z, u, p3, s3, g3, _⟩ := bad_ev hs p2 s2 c2 n pk q e
  refine ⟨x, y, z, u, Ev.bind hf ⟨0, fun k _ => ?_⟩⟩
  show (spec_l01Pick.f l 0 h [5, 8, 12]).bind _ = _
  rw [g1, Option.bind_some]
  show (spec_l08DrawOf.f l p1 s1 v).bind _ = _
  rw [g2, Option.bind_some]
  show (spec_l08Bad.f l p2 s2 n pk q e).bind _ = _
  rw [g3, Option.bind_some]

theorem put_any (L : List Int) (hl : L.length ≤ 1000000) (x : Int) : ∀ a : Nat, a ≤ L.length → ∃ R : List Int, R.length ≤ L.length + 1 ∧ ∀ k, a < k → spec_l01Put.l0 k L x (a : Int) = some R := by
  have fin : ∀ a : Nat, a ≤ L.length → (spec_l01Own.f (L.take (a : Int).toNat)).bind (fun t473 => (if t473.length < 17592186044416 then ((some (t473 ++ [x] : List Int)).bind fun y476 => ((some (L.drop (a : Int).toNat : List Int)).bind fun y479 => (if y476.length + y479.length < 17592186044416 then (some (y476 ++ y479)) else (none)))) else (none))) = some (L.take a ++ [x] ++ L.drop a) := by
    intro a ha
    have h1 : (L.take a).length = a := by rw [List.length_take]; omega
    have h2 : (L.drop a).length = L.length - a := List.length_drop
    unfold spec_l01Own.f
    rw [Int.toNat_natCast, Option.bind_some, if_pos (by rw [List.length_nil, h1]; omega), Option.bind_some, List.nil_append, if_pos (by omega), Option.bind_some, Option.bind_some, if_pos (by rw [List.length_append, h1, h2, List.length_singleton]; omega)]
  have hlen : ∀ a : Nat, a ≤ L.length → (L.take a ++ [x] ++ L.drop a).length ≤ L.length + 1 := fun a ha => by
    rw [List.length_append, List.length_append, List.length_take, List.length_drop, List.length_singleton]; omega
  intro a
  induction a with
  | zero =>
    intro ha
    refine ⟨_, hlen 0 ha, fun k hk => ?_⟩
    obtain ⟨k, rfl⟩ : ∃ q, k = q + 1 := ⟨k - 1, by omega⟩
    simp only [spec_l01Put.l0]
    rw [if_neg (by omega), if_pos (by omega), if_pos (by omega)]
    exact fin 0 ha
  | succ a ih =>
    intro ha
    have hw : wrap64 (((a + 1 : Nat) : Int) - 1) = (a : Int) := by rw [w64 (by omega) (by omega)]; omega
    by_cases h1 : rd L (a : Int) > x
    · obtain ⟨R, r1, r2⟩ := ih (by omega)
      refine ⟨R, r1, fun k hk => ?_⟩
      obtain ⟨k, rfl⟩ : ∃ q, k = q + 1 := ⟨k - 1, by omega⟩
      simp only [spec_l01Put.l0]
      rw [if_pos (by omega), hw, if_pos (by omega), if_pos (by omega), if_pos h1]
      exact r2 k (by omega)
    by_cases h2 : rd L (a : Int) = x
    · refine ⟨L, by omega, fun k hk => ?_⟩
      obtain ⟨k, rfl⟩ : ∃ q, k = q + 1 := ⟨k - 1, by omega⟩
      simp only [spec_l01Put.l0]
      rw [if_pos (by omega), hw, if_pos (by omega), if_pos (by omega), if_neg h1, if_pos h2]
    · refine ⟨_, hlen (a + 1) ha, fun k hk => ?_⟩
      obtain ⟨k, rfl⟩ : ∃ q, k = q + 1 := ⟨k - 1, by omega⟩
      simp only [spec_l01Put.l0]
      rw [if_pos (by omega), hw, if_pos (by omega), if_pos (by omega), if_neg h1, if_neg h2, if_pos (by omega), if_pos (by omega)]
      exact fin (a + 1) ha
theorem putany_ev (L : List Int) (hl : L.length ≤ 1000000) (x : Int) : ∃ R : List Int, R.length ≤ L.length + 1 ∧ Ev (fun k => spec_l01Put.f k L x) R := by
  obtain ⟨R, r1, r2⟩ := put_any L hl x L.length (Nat.le_refl _)
  exact ⟨R, r1, L.length + 1, fun k hk => r2 k (by omega)⟩

theorem binom_pos : ∀ (n k : Nat), k ≤ n → 0 < binom n k
  | n, 0, _ => by cases n <;> simp [binom]
  | 0, k + 1, h => by omega
  | n + 1, k + 1, h => by
    have := binom_pos n k (by omega)
    simp only [binom]; omega
theorem sumTo_pos (f : Nat → Nat) : ∀ (N j : Nat), j < N → 0 < f j → 0 < sumTo f N
  | 0, j, h, _ => by omega
  | N + 1, j, h, hf => by
    simp only [sumTo]
    by_cases e : j = N
    · subst e; omega
    · have := sumTo_pos f N j (by omega) hf
      omega
theorem hitF_pos (q m p h : Nat) (h1 : h ≤ q) (h2 : h ≤ p) (h3 : p ≤ q + m) : 0 < hitF q m p h := by
  unfold hitF
  refine sumTo_pos _ _ (max h (p - m)) (by omega) ?_
  unfold term
  rw [if_pos (by omega)]
  exact Nat.mul_pos (binom_pos _ _ (by omega)) (binom_pos _ _ (by omega))
def hitN (h t d : Nat) : Bool := decide (h ≤ pc (t &&& d))
/-- Every draw is hit by some ticket. -/
theorem some_hit (n p q h d : Nat) (hn : n ≤ 12) (hp : p ≤ n) (hq : q ≤ n) (h1 : h ≤ p) (h2 : h ≤ q) (hd : d ∈ S n q) : ∃ t ∈ S n p, hitN h t d = true := by
  obtain ⟨hd1, hd2⟩ := mem_S.1 hd
  have hl := (hitL_length n d p h hn hd1).1
  rw [hd2] at hl
  have hpos := hitF_pos q (n - q) p h h2 h1 (by omega)
  obtain ⟨t, ht⟩ := List.exists_mem_of_length_pos (show 0 < (hitL n d p h).length by omega)
  obtain ⟨ht1, ht2⟩ := List.mem_filter.1 ht
  refine ⟨t, ht1, ?_⟩
  unfold hitN
  rw [Nat.and_comm]
  exact ht2
def cntN (h : Nat) (D : List Nat) (t : Nat) : Nat := (D.filter fun d => hitN h t d).length
theorem filt_split {α : Type} (p r : α → Bool) : ∀ l : List α, (l.filter fun x => p x && r x).length + ((l.filter fun x => !p x).filter r).length = (l.filter r).length
  | [] => rfl
  | x :: l => by
    have := filt_split p r l
    cases hp : p x <;> cases hr : r x <;> simp only [List.filter_cons, hp, hr, Bool.and_true, Bool.and_false, Bool.true_and, Bool.false_and, Bool.not_true, Bool.not_false, if_true, if_false, Bool.false_eq_true, List.length_cons, Bool.and_self] <;> omega

/-- What l01Put gives. -/
theorem put_l (L : List Int) (hl : L.length ≤ 1000000) (x : Int) (hx : x ∉ L) (hs : L.Pairwise (· < ·)) : ∀ a : Nat, a ≤ L.length → (∀ j (hj : j < L.length), a ≤ j → x < L[j]) → ∃ R : List Int, R.Perm (L ++ [x]) ∧ R.Pairwise (· < ·) ∧ ∀ k, a < k → spec_l01Put.l0 k L x (a : Int) = some R
  | 0, ha, hgt => by
    refine ⟨x :: L, by simpa using (List.perm_append_comm (l₁ := [x]) (l₂ := L)), List.pairwise_cons.2 ⟨fun y hy => ?_, hs⟩, fun k hk => ?_⟩
    · obtain ⟨j, hj, rfl⟩ := List.mem_iff_getElem.1 hy
      exact hgt j hj (by omega)
    · obtain ⟨k, rfl⟩ : ∃ q, k = q + 1 := ⟨k - 1, by omega⟩
      simp only [spec_l01Put.l0]
      rw [if_neg (by omega), if_pos (by omega), if_pos (by omega)]
      unfold spec_l01Own.f
      simp only [Int.toNat_natCast, List.take_zero, List.drop_zero, Option.bind_some, List.append_nil, List.nil_append, List.length_nil, List.length_singleton]
      rw [if_pos (by omega)]
      simp only [Option.bind_some, List.length_nil]
      rw [if_pos (by omega), if_pos (by simp; omega)]
      rfl
  | a + 1, ha, hgt => by
    have hal : a < L.length := by omega
    have hw : wrap64 (((a + 1 : Nat) : Int) - 1) = (a : Int) := by rw [w64 (by omega) (by omega)]; omega
    have hne : ¬ L[a] = x := fun e => hx (by rw [← e]; exact List.getElem_mem hal)
    by_cases hg : L[a] > x
    · obtain ⟨R, r1, r2, r3⟩ := put_l L hl x hx hs a (by omega) (fun j hj hja => by
        by_cases e : j = a
        · subst e; exact hg
        · exact hgt j hj (by omega))
      refine ⟨R, r1, r2, fun k hk => ?_⟩
      obtain ⟨k, rfl⟩ : ∃ q, k = q + 1 := ⟨k - 1, by omega⟩
      simp only [spec_l01Put.l0]
      rw [if_pos (by omega), hw, if_pos (by omega), if_pos (by omega), rd_nat L a hal, if_pos hg]
      exact r3 k (by omega)
    · have hlt : L[a] < x := by omega
      refine ⟨L.take (a + 1) ++ x :: L.drop (a + 1), ?_, ?_, fun k hk => ?_⟩
      · have h1 := List.perm_middle (a := x) (l₁ := L.take (a + 1)) (l₂ := L.drop (a + 1))
        rw [List.take_append_drop] at h1
        exact h1.trans (by simpa using (List.perm_append_comm (l₁ := [x]) (l₂ := L)))
      · have hp := List.pairwise_iff_getElem.1 hs
        refine List.pairwise_append.2 ⟨hs.sublist (List.take_sublist _ _), List.pairwise_cons.2 ⟨fun y hy => ?_, hs.sublist (List.drop_sublist _ _)⟩, fun y hy z hz => ?_⟩
        · obtain ⟨j, hj, rfl⟩ := List.mem_iff_getElem.1 hy
          rw [List.getElem_drop]
          exact hgt _ (by rw [List.length_drop] at hj; omega) (by omega)
        · obtain ⟨j, hj, rfl⟩ := List.mem_iff_getElem.1 hy
          rw [List.length_take] at hj
          rw [List.getElem_take]
          have hjx : L[j] < x := by
            by_cases e : j = a
            · subst e; exact hlt
            · have := hp j a (by omega) hal (by omega)
              omega
          rcases List.mem_cons.1 hz with rfl | hz
          · exact hjx
          · obtain ⟨i, hi, rfl⟩ := List.mem_iff_getElem.1 hz
            rw [List.getElem_drop]
            have := hgt (a + 1 + i) (by rw [List.length_drop] at hi; omega) (by omega)
            omega
      · obtain ⟨k, rfl⟩ : ∃ q, k = q + 1 := ⟨k - 1, by omega⟩
        simp only [spec_l01Put.l0]
        rw [if_pos (by omega), hw, if_pos (by omega), if_pos (by omega), rd_nat L a hal, if_neg hg, if_neg hne, if_pos (by omega), if_pos (by omega), Int.toNat_natCast]
        unfold spec_l01Own.f
        simp only [Option.bind_some, List.nil_append]
        rw [if_pos (by rw [List.length_take]; simp; omega)]
        simp only [Option.bind_some]
        rw [if_pos (by rw [List.length_take]; omega), if_pos (by simp; omega)]
        simp
theorem put_ev (L : List Int) (hl : L.length ≤ 1000000) (x : Int) (hx : x ∉ L) (hs : L.Pairwise (· < ·)) : ∃ R : List Int, R.Perm (L ++ [x]) ∧ R.Pairwise (· < ·) ∧ ∀ k, L.length < k → spec_l01Put.f k L x = some R := by
  obtain ⟨R, r1, r2, r3⟩ := put_l L hl x hx hs L.length (Nat.le_refl _) (fun j hj h => by omega)
  exact ⟨R, r1, r2, r3⟩
theorem sort_is (O Q : List Int) (hq : Q.Pairwise (· < ·)) (hp : Q.Perm O) : (O.mergeSort fun x y => decide (x ≤ y)) = Q := by
  have h1 : (O.mergeSort fun x y => decide (x ≤ y)).Pairwise (fun a b => a ≤ b) := by
    have := List.pairwise_mergeSort (le := fun x y : Int => decide (x ≤ y)) (fun a b c h1 h2 => decide_eq_true (Int.le_trans (of_decide_eq_true h1) (of_decide_eq_true h2))) (fun a b => by have := Int.le_total a b; simpa using this) O
    exact this.imp (fun h => by simpa using h)
  have h2 : Q.Pairwise (fun a b => a ≤ b) := hq.imp (fun h => Int.le_of_lt h)
  exact List.Perm.eq_of_pairwise (le := fun a b : Int => a ≤ b) (fun a b _ _ h1 h2 => Int.le_antisymm h1 h2) h1 h2 ((List.mergeSort_perm O _).trans hp.symm)

/-- The first of the greatest, of some behind some. -/
def bestC : List Int → Int → Int → Int → Int × Int
  | [], _, b, m => (b, m)
  | c :: cs, w, b, m => if c > m then bestC cs (w + 1) w c else bestC cs (w + 1) b m
theorem bestC_in : ∀ (cs : List Int) (w b m : Int), 0 ≤ b → b ≤ w → (b < w ∨ 0 < cs.length) → 0 ≤ m → 0 ≤ (bestC cs w b m).1 ∧ ((bestC cs w b m).1 = b ∧ (bestC cs w b m).2 = m ∧ (∀ c ∈ cs, c ≤ m) ∨ w ≤ (bestC cs w b m).1 ∧ (bestC cs w b m).1 < w + cs.length ∧ (bestC cs w b m).2 = rd cs ((bestC cs w b m).1 - w))
  | [], w, b, m, h0, h1, h2, h3 => ⟨h0, .inl ⟨rfl, rfl, fun c hc => by simp at hc⟩⟩
  | c :: cs, w, b, m, h0, h1, h2, h3 => by
    simp only [bestC]
    have key : ∀ j : Int, w + 1 ≤ j → rd (c :: cs) (j - w) = rd cs (j - (w + 1)) := fun j hj => by
      unfold rd
      rw [show (j - w).toNat = (j - (w + 1)).toNat + 1 by omega, List.getD_cons_succ]
    by_cases hc : c > m
    · rw [if_pos hc]
      obtain ⟨i1, i2⟩ := bestC_in cs (w + 1) w c (by omega) (by omega) (.inl (by omega)) (by omega)
      refine ⟨i1, .inr ?_⟩
      rcases i2 with ⟨j1, j2, j3⟩ | ⟨j1, j2, j3⟩
      · rw [j1, j2]
        refine ⟨by omega, by simp only [List.length_cons]; omega, ?_⟩
        rw [Int.sub_self]; rfl
      · refine ⟨by omega, by simp only [List.length_cons]; omega, ?_⟩
        rw [j3, key _ j1]
    · rw [if_neg hc]
      obtain ⟨i1, i2⟩ := bestC_in cs (w + 1) b m h0 (by omega) (.inl (by omega)) h3
      refine ⟨i1, ?_⟩
      rcases i2 with ⟨j1, j2, j3⟩ | ⟨j1, j2, j3⟩
      · refine .inl ⟨j1, j2, fun x hx => ?_⟩
        rcases List.mem_cons.1 hx with rfl | hx
        · omega
        · exact j3 x hx
      · refine .inr ⟨by omega, by simp only [List.length_cons]; omega, ?_⟩
        rw [j3, key _ j1]
theorem bestC_all (cs : List Int) (h0 : 0 < cs.length) (hc : ∀ c ∈ cs, 0 ≤ c) : 0 ≤ (bestC cs 0 0 0).1 ∧ (bestC cs 0 0 0).1 < (cs.length : Int) ∧ (bestC cs 0 0 0).2 = rd cs (bestC cs 0 0 0).1 := by
  obtain ⟨i1, i2⟩ := bestC_in cs 0 0 0 (by omega) (by omega) (.inr h0) (by omega)
  rcases i2 with ⟨j1, j2, j3⟩ | ⟨j1, j2, j3⟩
  · refine ⟨i1, by omega, ?_⟩
    rw [j1, j2]
    have h1 := List.getElem_mem h0
    have h2 := j3 _ h1
    have h3 := hc _ h1
    have h4 := rd_nat cs 0 h0
    rw [show (0 : Int) = ((0 : Nat) : Int) from rfl, h4]
    omega
  · rw [Int.sub_zero] at j3
    exact ⟨i1, by omega, j3⟩

def okS (s : Nat) : Bool := match impl_size.f (s : Int) with
  | some r => r == (pcF 12 s : Int)
  | none => false
theorem okS_all : allN okS 4096 = true := by kernel_rfl
theorem size_nat (s : Nat) (h : s < 4096) : impl_size.f (s : Int) = some (pc s : Int) := by
  have := allN_at okS 4096 okS_all s h
  unfold okS at this
  split at this
  · rename_i r hr; rw [hr, beq_iff_eq.mp this]; rfl
  · cases this

theorem sets_l (m : Nat) (N : Nat) (hN : N ≤ 4096) : ∀ d i (acc : List Int), i + d = N → acc.length ≤ i → ∀ k, d < k → impl_sets.l0 k m acc N i = some (acc ++ ((List.range' i d).filter (fun s => pc s == m)).map Int.ofNat)
  | 0, i, acc, h, ha, k, hk => by
    obtain ⟨k, rfl⟩ : ∃ q, k = q + 1 := ⟨k - 1, by omega⟩
    simp only [impl_sets.l0]; rw [if_neg (by omega)]; simp
  | d+1, i, acc, h, ha, k, hk => by
    obtain ⟨k, rfl⟩ : ∃ q, k = q + 1 := ⟨k - 1, by omega⟩
    simp only [impl_sets.l0]
    rw [if_pos (by omega), size_nat i (by omega)]
    simp only [Option.bind_some]
    rw [w64 (by omega) (by omega), show ((i : Int) + 1) = ((i + 1 : Nat) : Int) by omega]
    rw [List.range'_succ, List.filter_cons]
    by_cases e : pc i = m
    · rw [if_pos (by omega), if_pos (by omega)]
      rw [sets_l m N hN d (i+1) (acc ++ [(i : Int)]) (by omega) (by simp; omega) k (by omega)]
      simp [e]
    · rw [if_neg (by omega)]
      rw [sets_l m N hN d (i+1) acc (by omega) (by omega) k (by omega)]
      simp [e]
theorem sets_ev (n m : Nat) (hn : n ≤ 12) : ∀ k, 4096 < k → impl_sets.f k n m = some ((S n m).map Int.ofNat) := by
  intro k hk
  have hp := pow_le hn
  unfold impl_sets.f
  rw [if_pos (by omega), shl_one n (by omega)]
  rw [show (0 : Int) = ((0 : Nat) : Int) from rfl, sets_l m (2^n) hp (2^n) 0 [] (by omega) (by simp) k (by omega)]
  simp [S, List.range_eq_range']

theorem rd_map (M : List Nat) (i : Nat) (h : i < M.length) : rd (M.map Int.ofNat) (i : Int) = (M[i] : Int) := by
  simp [rd, List.getElem?_eq_getElem h]

theorem S_lt {n m x : Nat} (hn : n ≤ 12) (h : x ∈ S n m) : x < 4096 := Nat.lt_of_lt_of_le (mem_S.1 h).1 (pow_le hn)
theorem S_len (n m : Nat) (hn : n ≤ 12) : (S n m).length ≤ 4096 := by
  have h : (S n m).length ≤ (List.range (2^n)).length := List.length_filter_le _ _
  rw [List.length_range] at h
  exact Nat.le_trans h (pow_le hn)

theorem hits_ev (n p q h t u : Nat) (ht : t < 4096) (hu : u < 4096) : impl_hits.f n p q h t u = some (decide (h ≤ pc (t &&& u))) := by
  have hl := land_lt 12 t u (by omega)
  unfold impl_hits.f
  rw [band t u (by omega) (by omega), size_nat _ (by omega)]
  simp
theorem pc_ones : ∀ p, p < 13 → pc (2 ^ p - 1) = p := by decide +kernel

def okSS (s : Nat) : Bool := match spec_l08Size.f 14 (s : Int) with
  | some r => r == (pcF 12 s : Int)
  | none => false
theorem okSS_all : allN okSS 4096 = true := by kernel_rfl
theorem ssize_nat (s : Nat) (h : s < 4096) : ∀ k, 14 ≤ k → spec_l08Size.f k (s : Int) = some (pc s : Int) := by
  intro k hk
  have := allN_at okSS 4096 okSS_all s h
  unfold okSS at this
  split at this
  · rename_i r hr
    rw [beq_iff_eq.mp this] at hr
    exact at_rounds (g := fun k => spec_l08Size.f k (s : Int)) (fun k => spec_l08Size.mono _ k) hk hr
  · cases this

theorem specSets_l (n p q h m : Nat) (hn1 : 1 ≤ n) (hn : n ≤ 12) : ∀ d i (acc : List Int), i + d = 2 ^ n → acc.length ≤ i → ∀ k, d + 20 ≤ k → spec_l08Sets.l0 k m acc i n p q h = some (acc ++ ((List.range' i d).filter (fun s => pc s == m)).map Int.ofNat)
  | 0, i, acc, e, ha, k, hk => by
    obtain ⟨k, rfl⟩ : ∃ q, k = q + 1 := ⟨k - 1, by omega⟩
    have hp := pow_le hn
    simp only [spec_l08Sets.l0]
    rw [u64 (by omega) (by omega), if_pos (by omega), shl_one n (by omega), if_neg (by omega)]; simp
  | d+1, i, acc, e, ha, k, hk => by
    obtain ⟨k, rfl⟩ : ∃ q, k = q + 1 := ⟨k - 1, by omega⟩
    have hp := pow_le hn
    simp only [spec_l08Sets.l0]
    rw [u64 (by omega) (by omega), if_pos (by omega), shl_one n (by omega), if_pos (by omega), ssize_nat i (by omega) k (by omega), Option.bind_some]
    rw [w64 (by omega) (by omega), show ((i : Int) + 1) = ((i + 1 : Nat) : Int) by omega]
    rw [List.range'_succ, List.filter_cons]
    by_cases e : pc i = m
    · rw [if_pos (by omega), if_pos (by omega)]
      rw [specSets_l n p q h m hn1 hn d (i+1) (acc ++ [(i : Int)]) (by omega) (by simp; omega) k (by omega)]
      simp [e]
    · rw [if_neg (by omega)]
      rw [specSets_l n p q h m hn1 hn d (i+1) acc (by omega) (by omega) k (by omega)]
      simp [e]
theorem specSets_ev (n p q h m : Nat) (hn1 : 1 ≤ n) (hn : n ≤ 12) : ∀ k, 5000 ≤ k → spec_l08Sets.f k n p q h m = some ((S n m).map Int.ofNat) := by
  intro k hk
  have hp := pow_le hn
  unfold spec_l08Sets.f
  rw [show (0 : Int) = ((0 : Nat) : Int) from rfl, specSets_l n p q h m hn1 hn (2^n) 0 [] (by omega) (by simp) k (by omega)]
  simp [S, List.range_eq_range']

set_option linter.unusedSectionVars false
theorem map_set_at (T : List Nat) (c c' : Nat → Int) (i : Nat) (hi : i < T.length) (x : Int) (hx : x = c' T[i]) : ((T.take i).map c' ++ (T.drop i).map c).set i x = (T.take (i + 1)).map c' ++ (T.drop (i + 1)).map c := by
  rw [List.drop_eq_getElem_cons hi, List.map_cons, List.set_append_right _ _ (by simp; omega), List.take_succ_eq_append_getElem hi, List.map_append, hx]
  have : i - ((T.take i).map c').length = 0 := by simp; omega
  rw [this]
  simp
theorem map_same_at (T : List Nat) (c c' : Nat → Int) (i : Nat) (hi : i < T.length) (hx : c' T[i] = c T[i]) : (T.take i).map c' ++ (T.drop i).map c = (T.take (i + 1)).map c' ++ (T.drop (i + 1)).map c := by
  rw [List.drop_eq_getElem_cons hi, List.map_cons, List.take_succ_eq_append_getElem hi, List.map_append, List.append_assoc, List.map_singleton, hx]
  rfl
theorem rd_at (T : List Nat) (c c' : Nat → Int) (i : Nat) (hi : i < T.length) : rd ((T.take i).map c' ++ (T.drop i).map c) (i : Int) = c T[i] := by
  have hl : ((T.take i).map c').length = i := by simp; omega
  rw [List.drop_eq_getElem_cons hi, List.map_cons]
  have h := rd_mid ((T.take i).map c') ((T.drop (i + 1)).map c) (c T[i])
  rw [hl] at h
  exact h
section
variable (n p q h : Nat) (T : List Nat) (hT : ∀ t ∈ T, t < 4096) (hTl : T.length ≤ 4096)
include hT hTl
theorem gs2_step (D : List Nat) (hD : ∀ d ∈ D, d < 4096) (hDl : D.length ≤ 4096) (out : List Int) (v m : Int) (w : Nat) (hw : w < T.length) (r : List Int × Int) (i : Nat) (hi : i < D.length) (c c' : Nat) (hc : c ≤ i) (hc' : c' = if hitN h T[w] D[i] = true then c + 1 else c) : Ev (fun k => spec_GreedyTickets.l2 k (T.map Int.ofNat) (D.map Int.ofNat) out v m (w : Int) (c' : Int) ((i + 1 : Nat) : Int) n p q h) r → Ev (fun k => spec_GreedyTickets.l2 k (T.map Int.ofNat) (D.map Int.ofNat) out v m (w : Int) (c : Int) (i : Int) n p q h) r := by
  have hc6 : (hitN h T[w] D[i] = true ∧ (pc (T[w] &&& D[i]) : Int) ≥ (h : Int) ∧ c' = c + 1) ∨ (¬ (pc (T[w] &&& D[i]) : Int) ≥ (h : Int) ∧ c' = c) := by
    by_cases hb : hitN h T[w] D[i] = true
    · rw [if_pos hb] at hc'
      have hb2 : h ≤ pc (T[w] &&& D[i]) := of_decide_eq_true hb
      exact .inl ⟨hb, by omega, hc'⟩
    · rw [if_neg hb] at hc'
      have hb2 : ¬ h ≤ pc (T[w] &&& D[i]) := fun h0 => hb (decide_eq_true h0)
      exact .inr ⟨by omega, hc'⟩
  clear hc'
  have hd := hD _ (List.getElem_mem hi)
  have ht := hT _ (List.getElem_mem hw)
  have hl := land_lt 12 T[w] D[i] ht
  have hl2 : (T[w] &&& D[i]) < 4096 := hl
  clear hl
  have hw1 : wrap64 ((i : Int) + 1) = ((i + 1 : Nat) : Int) := by rw [w64 (by omega) (by omega)]; omega
  have hw2 : wrap64 ((c : Int) + 1) = ((c + 1 : Nat) : Int) := by rw [w64 (by omega) (by omega)]; omega
  rintro ⟨K, hK⟩
  refine ⟨K + 20, fun k hk => ?_⟩
  obtain ⟨k, rfl⟩ : ∃ q, k = q + 1 := ⟨k - 1, by omega⟩
  simp only [spec_GreedyTickets.l2]
  rw [if_pos (by simp; omega), if_pos (by omega), if_pos (by simp; omega), if_pos (by omega), rd_map T w hw, rd_map D i hi, band _ _ (by omega) (by omega), ssize_nat _ hl2 k (by omega), Option.bind_some, hw1, hw2]
  have h9 := hK k (by omega)
  rcases hc6 with ⟨_, h1, rfl⟩ | ⟨h1, rfl⟩
  · rw [if_pos h1]; exact h9
  · rw [if_neg h1]; exact h9
theorem gs2 (D : List Nat) (hD : ∀ d ∈ D, d < 4096) (hDl : D.length ≤ 4096) (out : List Int) (v m : Int) (w : Nat) (hw : w < T.length) (r : List Int × Int) : ∀ e i : Nat, i + e = D.length → ∀ c : Nat, c ≤ i →
    Ev (fun k => spec_GreedyTickets.l2 k (T.map Int.ofNat) (D.map Int.ofNat) out v m (w : Int) ((c + ((D.drop i).filter fun d => hitN h T[w] d).length : Nat) : Int) (D.length : Int) n p q h) r →
    Ev (fun k => spec_GreedyTickets.l2 k (T.map Int.ofNat) (D.map Int.ofNat) out v m (w : Int) (c : Int) (i : Int) n p q h) r
  | 0, i, e, c, hc, hh => by
    obtain rfl : i = D.length := by omega
    rw [List.drop_of_length_le (Nat.le_refl _)] at hh
    exact hh
  | e + 1, i, e1, c, hc, hh => by
    have hi : i < D.length := by omega
    rw [List.drop_eq_getElem_cons hi, List.filter_cons] at hh
    by_cases hb : hitN h T[w] D[i] = true
    · rw [if_pos hb, List.length_cons, show ∀ x, c + (x + 1) = c + 1 + x from fun x => by omega] at hh
      exact gs2_step n p q h T hT hTl D hD hDl out v m w hw r i hi c (c + 1) hc (by rw [if_pos hb]) (gs2 D hD hDl out v m w hw r e (i + 1) (by omega) (c + 1) (by omega) hh)
    · rw [if_neg hb] at hh
      exact gs2_step n p q h T hT hTl D hD hDl out v m w hw r i hi c c hc (by rw [if_neg hb]) (gs2 D hD hDl out v m w hw r e (i + 1) (by omega) c (by omega) hh)
theorem gs2_end (D : List Nat) (out : List Int) (v m : Int) (w : Nat) (hw : w < T.length) (r : List Int × Int) (c : Nat) (h1 : (c : Int) > m → Ev (fun k => spec_GreedyTickets.l1 k (T.map Int.ofNat) (D.map Int.ofNat) out (T[w] : Int) (c : Int) ((w + 1 : Nat) : Int) n p q h) r) (h2 : ¬ (c : Int) > m → Ev (fun k => spec_GreedyTickets.l1 k (T.map Int.ofNat) (D.map Int.ofNat) out v m ((w + 1 : Nat) : Int) n p q h) r) : Ev (fun k => spec_GreedyTickets.l2 k (T.map Int.ofNat) (D.map Int.ofNat) out v m (w : Int) (c : Int) (D.length : Int) n p q h) r := by
  have hw1 : wrap64 ((w : Int) + 1) = ((w + 1 : Nat) : Int) := by rw [w64 (by omega) (by omega)]; omega
  by_cases hcm : (c : Int) > m
  · refine Ev.step (fun k => ?_) (h1 hcm)
    simp only [spec_GreedyTickets.l2]
    rw [if_neg (by simp), if_pos hcm, if_pos (by omega), if_pos (by simp; omega), rd_map T w hw, hw1]
  · refine Ev.step (fun k => ?_) (h2 hcm)
    simp only [spec_GreedyTickets.l2]
    rw [if_neg (by simp), if_neg hcm, hw1]
def valT (T : List Nat) (bm : Int × Int) : Int := if bm.2 = 0 then 0 else rd (T.map Int.ofNat) bm.1
theorem gs1 (D : List Nat) (hD : ∀ d ∈ D, d < 4096) (hDl : D.length ≤ 4096) (out : List Int) (r : List Int × Int) : ∀ e w : Nat, w + e = T.length → ∀ b m : Int, 0 ≤ m →
    Ev (fun k => (spec_l01Put.f k out (valT T (bestC ((T.drop w).map fun t => (cntN h D t : Int)) (w : Int) b m))).bind fun t => spec_GreedyTickets.l3 k (T.map Int.ofNat) (D.map Int.ofNat) t (valT T (bestC ((T.drop w).map fun t => (cntN h D t : Int)) (w : Int) b m)) [] 0 n p q h) r →
    Ev (fun k => spec_GreedyTickets.l1 k (T.map Int.ofNat) (D.map Int.ofNat) out (valT T (b, m)) m (w : Int) n p q h) r
  | 0, w, e, b, m, hm, hh => by
    refine Ev.step (fun k => ?_) hh
    rw [List.drop_of_length_le (by omega)]
    simp only [spec_GreedyTickets.l1, List.map_nil, bestC]
    rw [if_neg (by simp; omega)]
  | e + 1, w, e1, b, m, hm, hh => by
    have hw : w < T.length := by omega
    rw [List.drop_eq_getElem_cons hw, List.map_cons] at hh
    simp only [bestC] at hh
    have h2 := gs2 n p q h T hT hTl D hD hDl out (valT T (b, m)) m w hw r D.length 0 (by omega) 0 (by omega) (by
      rw [List.drop_zero, Nat.zero_add]
      refine gs2_end n p q h T hT hTl D out (valT T (b, m)) m w hw r (cntN h D T[w]) (fun hc => ?_) (fun hc => ?_)
      · rw [if_pos hc] at hh
        have h1 := gs1 D hD hDl out r e (w + 1) (by omega) (w : Int) (cntN h D T[w] : Int) (by omega) (by
          rw [show ((w + 1 : Nat) : Int) = (w : Int) + 1 by omega]; exact hh)
        have e2 : valT T ((w : Int), (cntN h D T[w] : Int)) = (T[w] : Int) := by
          unfold valT
          rw [if_neg (by show ¬ (cntN h D T[w] : Int) = 0; omega)]
          exact rd_map T w hw
        rw [e2] at h1
        exact h1
      · rw [if_neg hc] at hh
        exact gs1 D hD hDl out r e (w + 1) (by omega) b m hm (by
          rw [show ((w + 1 : Nat) : Int) = (w : Int) + 1 by omega]; exact hh))
    refine Ev.step (fun k => ?_) h2
    simp only [spec_GreedyTickets.l1]
    rw [if_pos (by simp; omega)]
    rfl
theorem gs3 (D : List Nat) (hD : ∀ d ∈ D, d < 4096) (hDl : D.length ≤ 4096) (out : List Int) (v : Nat) (hv : v < 4096) (r : List Int × Int) : ∀ e i : Nat, i + e = D.length → ∀ acc : List Nat, acc.length ≤ i →
    Ev (fun k => spec_GreedyTickets.l0 k (T.map Int.ofNat) ((acc ++ (D.drop i).filter fun d => !hitN h v d).map Int.ofNat) out n p q h) r →
    Ev (fun k => spec_GreedyTickets.l3 k (T.map Int.ofNat) (D.map Int.ofNat) out (v : Int) (acc.map Int.ofNat) (i : Int) n p q h) r
  | 0, i, e, acc, ha, hh => by
    refine Ev.step (fun k => ?_) hh
    simp only [spec_GreedyTickets.l3]
    rw [if_neg (by simp; omega), List.drop_of_length_le (by omega)]
    simp
  | e + 1, i, e1, acc, ha, hh => by
    have hi : i < D.length := by omega
    have hd := hD _ (List.getElem_mem hi)
    have hl := land_lt 12 v D[i] (by omega)
    have hw1 : wrap64 ((i : Int) + 1) = ((i + 1 : Nat) : Int) := by rw [w64 (by omega) (by omega)]; omega
    rw [List.drop_eq_getElem_cons hi, List.filter_cons] at hh
    by_cases hb : hitN h v D[i] = true
    · have hb2 : h ≤ pc (v &&& D[i]) := of_decide_eq_true hb
      rw [if_neg (by rw [hb]; decide)] at hh
      obtain ⟨K, hK⟩ := gs3 D hD hDl out v hv r e (i + 1) (by omega) acc (by omega) hh
      refine ⟨K + 20, fun k hk => ?_⟩
      obtain ⟨k, rfl⟩ : ∃ q, k = q + 1 := ⟨k - 1, by omega⟩
      simp only [spec_GreedyTickets.l3]
      rw [if_pos (by simp; omega), if_pos (by omega), rd_map D i hi, band _ _ (by omega) (by omega), ssize_nat _ (by omega) k (by omega), Option.bind_some, if_neg (by omega), hw1]
      exact hK k (by omega)
    · have hb2 : ¬ h ≤ pc (v &&& D[i]) := fun h0 => hb (decide_eq_true h0)
      rw [if_pos (by simpa using hb)] at hh
      obtain ⟨K, hK⟩ := gs3 D hD hDl out v hv r e (i + 1) (by omega) (acc ++ [D[i]]) (by simp; omega) (by rw [List.append_assoc]; exact hh)
      refine ⟨K + 20, fun k hk => ?_⟩
      obtain ⟨k, rfl⟩ : ∃ q, k = q + 1 := ⟨k - 1, by omega⟩
      simp only [spec_GreedyTickets.l3]
      rw [if_pos (by simp; omega), if_pos (by omega), rd_map D i hi, band _ _ (by omega) (by omega), ssize_nat _ (by omega) k (by omega), Option.bind_some, if_pos (by omega), if_pos (by simp; omega), hw1]
      have h9 := hK k (by omega)
      rw [List.map_append] at h9
      exact h9
end
theorem bestC_ge : ∀ (cs : List Int) (w b m : Int), m ≤ (bestC cs w b m).2 ∧ ∀ c ∈ cs, c ≤ (bestC cs w b m).2
  | [], w, b, m => ⟨Int.le_refl _, fun c hc => by simp at hc⟩
  | c :: cs, w, b, m => by
    simp only [bestC]
    by_cases h : c > m
    · rw [if_pos h]
      obtain ⟨h1, h2⟩ := bestC_ge cs (w + 1) w c
      refine ⟨by omega, fun x hx => ?_⟩
      rcases List.mem_cons.1 hx with rfl | hx
      · exact h1
      · exact h2 x hx
    · rw [if_neg h]
      obtain ⟨h1, h2⟩ := bestC_ge cs (w + 1) b m
      refine ⟨h1, fun x hx => ?_⟩
      rcases List.mem_cons.1 hx with rfl | hx
      · omega
      · exact h2 x hx
theorem bestC_first (cs : List Int) (h0 : 0 < cs.length) (hc : ∀ c ∈ cs, 0 ≤ c) : bestC cs 0 0 (rd cs 0) = bestC cs 0 0 0 := by
  cases cs with
  | nil => simp at h0
  | cons c cs =>
    have := hc c (by simp)
    have e : rd (c :: cs) 0 = c := rfl
    rw [e]
    simp only [bestC]
    rw [if_neg (by omega)]
    by_cases h : c > 0
    · rw [if_pos h]
    · have : c = 0 := by omega
      rw [if_neg h, this]


theorem isLot (a b c d : Int) : spec_l08Is.f a b c d = impl_IsLottery.f a b c d := by
  unfold spec_l08Is.f spec_l01In.f impl_IsLottery.f mn
  repeat' split
  all_goals simp_all
  all_goals omega

/-- What a lottery's numbers are. -/
theorem lot_cases (a b c d : Int) : impl_IsLottery.f a b c d = some false ∨ (impl_IsLottery.f a b c d = some true ∧ ∃ n p q h : Nat, a = n ∧ b = p ∧ c = q ∧ d = h ∧ 1 ≤ n ∧ n ≤ 12 ∧ 1 ≤ p ∧ p ≤ n ∧ 1 ≤ q ∧ q ≤ n ∧ 1 ≤ h ∧ h ≤ p ∧ h ≤ q) := by
  by_cases hv : 1 ≤ a ∧ a ≤ 12 ∧ 1 ≤ b ∧ b ≤ a ∧ 1 ≤ c ∧ c ≤ a ∧ 1 ≤ d ∧ d ≤ b ∧ d ≤ c
  · refine .inr ⟨?_, a.toNat, b.toNat, c.toNat, d.toNat, by omega, by omega, by omega, by omega, by omega, by omega, by omega, by omega, by omega, by omega, by omega, by omega, by omega⟩
    unfold impl_IsLottery.f mn
    repeat' split
    all_goals simp_all
    all_goals omega
  · refine .inl ?_
    unfold impl_IsLottery.f mn
    repeat' split
    all_goals simp_all
    all_goals omega

theorem greedyS_l (n p q h : Nat) (hn : n ≤ 12) (hp : p ≤ n) (hq : q ≤ n) (hhp : h ≤ p) (hhq : h ≤ q) : ∀ (N : Nat) (O Q : List Int) (D : List Nat), O.length + N = 200 → Q.Pairwise (· < ·) → Q.Perm O → D.Sublist (S n q) → (∀ t : Nat, (t : Int) ∈ O → cntN h D t = 0) → ∃ r : List Int × Int, r.1.length ≤ 200 ∧ Ev (fun k => spec_GreedyTickets.l0 k ((S n p).map Int.ofNat) (D.map Int.ofNat) Q n p q h) r := by
  intro N O Q D hN hQ hP hD hO
  have hql : Q.length = O.length := hP.length_eq
  cases D with
  | nil =>
    refine ⟨(Q, 0), by show Q.length ≤ 200; omega, ⟨1, fun k hk => ?_⟩⟩
    · obtain ⟨k, rfl⟩ : ∃ q, k = q + 1 := ⟨k - 1, by omega⟩
      simp only [spec_GreedyTickets.l0]
      rw [if_neg (by simp)]
  | cons d0 D0 =>
    have hTl := S_len n p hn
    have hT : ∀ t ∈ S n p, t < 4096 := fun t ht => S_lt hn ht
    have hsub := hD
    generalize hDe : d0 :: D0 = D at *
    have hD0 : d0 ∈ D := by rw [← hDe]; exact List.mem_cons_self
    have hDp : 0 < D.length := List.length_pos_of_mem hD0
    have hDl : D.length ≤ 4096 := Nat.le_trans hD.length_le (S_len n q hn)
    have hD1 : ∀ d ∈ D, d < 4096 := fun d hd => S_lt hn (hD.subset hd)
    obtain ⟨t0, ht0, hht0⟩ := some_hit n p q h d0 hn hp hq hhp hhq (hD.subset hD0)
    have hTp : 0 < (S n p).length := List.length_pos_of_mem ht0
    have hcn : ∀ t, (cntN h D t : Int) ≤ 4096 := fun t => by
      have : cntN h D t ≤ D.length := List.length_filter_le _ _
      omega
    cases N with
    | zero =>
      refine ⟨([], 3), by simp, ⟨1, fun k hk => ?_⟩⟩
      · obtain ⟨k, rfl⟩ : ∃ q, k = q + 1 := ⟨k - 1, by omega⟩
        simp only [spec_GreedyTickets.l0]
        rw [if_pos (by simp; omega), if_pos (by omega)]
    | succ N =>
      generalize hG : ((S n p).map fun t => (cntN h D t : Int)) = G
      have hGl : G.length = (S n p).length := by rw [← hG]; simp
      have hG0 : ∀ c ∈ G, 0 ≤ c := fun c hc => by
        rw [← hG] at hc
        obtain ⟨t, _, rfl⟩ := List.mem_map.1 hc
        omega
      obtain ⟨b0, b1, b2⟩ := bestC_all G (by omega) hG0
      obtain ⟨b, hb⟩ : ∃ b : Nat, (bestC G 0 0 0).1 = (b : Int) := ⟨(bestC G 0 0 0).1.toNat, by omega⟩
      have hbT : b < (S n p).length := by omega
      have hcnt0 : 0 < cntN h D t0 := List.length_pos_of_mem (List.mem_filter.2 ⟨hD0, hht0⟩)
      have hm1 : (cntN h D t0 : Int) ≤ (bestC G 0 0 0).2 := (bestC_ge G 0 0 0).2 _ (by rw [← hG]; exact List.mem_map.2 ⟨t0, ht0, rfl⟩)
      have hmw : (bestC G 0 0 0).2 = (cntN h D (S n p)[b] : Int) := by
        rw [b2, hb, rd_nat G b (by omega)]
        simp only [← hG, List.getElem_map]
      have hval : valT (S n p) (bestC G 0 0 0) = ((S n p)[b] : Int) := by
        unfold valT
        rw [if_neg (by omega), hb]
        exact rd_map _ b hbT
      have hwO : (((S n p)[b] : Nat) : Int) ∉ O := fun hm => by
        have := hO _ hm
        omega
      have hwQ : (((S n p)[b] : Nat) : Int) ∉ Q := fun hm => hwO (hP.mem_iff.1 hm)
      obtain ⟨R, r1, r2, r3⟩ := put_ev Q (by omega) _ hwQ hQ
      have hRO : R.Perm (O ++ [(((S n p)[b] : Nat) : Int)]) := r1.trans (hP.append_right _)
      obtain ⟨r, hr1, hr2⟩ := greedyS_l n p q h hn hp hq hhp hhq N (O ++ [(((S n p)[b] : Nat) : Int)]) R (D.filter fun d => !hitN h (S n p)[b] d) (by simp; omega) r2 hRO (List.filter_sublist.trans hD) (fun t ht => by
        rcases List.mem_append.1 ht with ht | ht
        · have h0 := hO t ht
          have hs : cntN h (D.filter fun d => !hitN h (S n p)[b] d) t ≤ cntN h D t := (List.filter_sublist.filter _).length_le
          omega
        · have e : t = (S n p)[b] := by simp at ht; omega
          subst e
          unfold cntN
          rw [List.filter_filter, List.filter_eq_nil_iff.2 (fun d hd => by simp), List.length_nil])
      refine ⟨r, hr1, ?_⟩
      · have h3 := gs3 n p q h (S n p) hT hTl D hD1 hDl R (S n p)[b] (hT _ (List.getElem_mem hbT)) r D.length 0 (by omega) [] (by simp) (by
          rw [List.drop_zero, List.nil_append]; exact hr2)
        have h4 : Ev (fun k => spec_l01Put.f k Q (((S n p)[b] : Nat) : Int)) R := ⟨Q.length + 1, fun k hk => r3 k (by omega)⟩
        have h5 := gs1 n p q h (S n p) hT hTl D hD1 hDl Q r (S n p).length 0 (by omega) 0 0 (by omega) (by
          rw [List.drop_zero, hG, Int.ofNat_zero, hval]
          exact Ev.bind h4 h3)
        refine Ev.step (fun k => ?_) h5
        simp only [spec_GreedyTickets.l0]
        rw [if_pos (by simp; omega), if_neg (by omega)]
        rfl
termination_by N => N
theorem greedyS_ev (a b c d : Int) : ∃ r : List Int × Int, r.1.length ≤ 200 ∧ Ev (fun k => spec_GreedyTickets.f k a b c d) r := by
  unfold spec_GreedyTickets.f
  rw [isLot]
  rcases lot_cases a b c d with h | ⟨h, n, p, q, e, rfl, rfl, rfl, rfl, h1, h2, h3, h4, h5, h6, h7, h8, h9⟩
  · rw [h]
    refine ⟨([], 1), by simp, ⟨0, fun k _ => rfl⟩⟩
  · rw [h]
    simp only [Option.bind_some, if_true]
    obtain ⟨r, r1, ⟨K1, hK1⟩⟩ := greedyS_l n p q e h2 h4 h6 h8 h9 200 [] [] (S n q) (by simp) List.Pairwise.nil (List.Perm.refl _) (List.Sublist.refl _) (fun t ht => by simp at ht)
    refine ⟨r, r1, ⟨5000 + K1, fun k hk => ?_⟩⟩
    dsimp only
    rw [specSets_ev n p q e p h1 h2 k (by omega), specSets_ev n p q e q h1 h2 k (by omega)]
    simp only [Option.bind_some]
    exact hK1 k (by omega)

theorem with_j {s : List Int} (hs : Src s) (n pk q e : Nat) (hn : n ≤ 12) (hq : q ≤ n) (hq1 : 1 ≤ q) (L : List Int) (hL : L.length ≤ 300) (p h : Int) (hp : 0 ≤ p) : ∃ (a b c d : Int) (L' : List Int) (dw : Int), L'.length ≤ 301 ∧ Ev (fun k => spec_l08With.j1 k L s p h n pk q e) (a, b, c, d, L', dw) := by
  obtain ⟨y, p1, s1, g1, _, _, c1⟩ := drawSet_ev hs n q hn hq hq1 p h hp
  obtain ⟨v, p2, s2, g2, _, _, c2⟩ := next_ev hs p1 s1 24 c1 (by omega)
  obtain ⟨u, p3, s3, g3, _, c3⟩ := pick_ev hs p2 s2 [0, (-1), 4096] c2 (by decide)
  by_cases h0 : v = 0
  · obtain ⟨x0, x1, x2, x3, p4, s4, g4, _⟩ := bad_ev hs p3 s3 c3 n pk q e
    refine ⟨x0, x1, x2, x3, L ++ [u], y, by rw [List.length_append, List.length_singleton]; omega, Ev.step (fun k => rfl) (Ev.bind g1 ⟨0, fun k _ => ?_⟩)⟩
    dsimp only
    rw [g2, Option.bind_some, if_pos h0, g3, Option.bind_some, if_pos (by omega), g4, Option.bind_some]
  by_cases h1 : v = 1
  · obtain ⟨x0, x1, x2, x3, p4, s4, g4, _⟩ := bad_ev hs p3 s3 c3 n pk q e
    refine ⟨x0, x1, x2, x3, L, u, by omega, Ev.step (fun k => rfl) (Ev.bind g1 ⟨0, fun k _ => ?_⟩)⟩
    dsimp only
    rw [g2, Option.bind_some, if_neg h0, if_pos h1, g3, Option.bind_some, g4, Option.bind_some]
  · obtain ⟨x0, x1, x2, x3, p4, s4, g4, _⟩ := bad_ev hs p2 s2 c2 n pk q e
    refine ⟨x0, x1, x2, x3, L, y, by omega, Ev.step (fun k => rfl) (Ev.bind g1 ⟨0, fun k _ => ?_⟩)⟩
    dsimp only
    rw [g2, Option.bind_some, if_neg h0, if_neg h1, g4, Option.bind_some]
theorem with_l {s : List Int} (hs : Src s) (n pk q e : Nat) (hn : n ≤ 12) (hpk : pk ≤ n) (hp1 : 1 ≤ pk) (hq : q ≤ n) (hq1 : 1 ≤ q) : ∀ (m : Nat) (L : List Int), m + L.length ≤ 100 → ∀ (p h : Int), 0 ≤ p → ∃ (a b c d : Int) (L' : List Int) (dw : Int), L'.length ≤ 301 ∧ Ev (fun k => spec_l08With.l0 k L m s p h n pk q e) (a, b, c, d, L', dw)
  | 0, L, hL, p, h, hp => by
    obtain ⟨v, p1, s1, g1, _, _, c1⟩ := next_ev hs p h 4 hp (by omega)
    by_cases h0 : v = 0
    · obtain ⟨r, r1, r2⟩ := greedyS_ev n pk q e
      obtain ⟨a, b, c, d, L', dw, h1, h2⟩ := with_j hs n pk q e hn hq hq1 r.1 (by omega) p1 s1 c1
      refine ⟨a, b, c, d, L', dw, h1, Ev.step (f := fun k => (spec_GreedyTickets.f k n pk q e).bind fun t => spec_l08With.j1 k t.1 s p1 s1 n pk q e) (fun k => ?_) (Ev.bind r2 h2)⟩
      simp only [spec_l08With.l0]
      rw [if_neg (by omega), g1, Option.bind_some, if_pos h0]
    · obtain ⟨a, b, c, d, L', dw, h1, h2⟩ := with_j hs n pk q e hn hq hq1 L (by omega) p1 s1 c1
      refine ⟨a, b, c, d, L', dw, h1, Ev.step (fun k => ?_) h2⟩
      simp only [spec_l08With.l0]
      rw [if_neg (by omega), g1, Option.bind_some, if_neg h0]
  | m + 1, L, hL, p, h, hp => by
    have hw : wrap64 (((m + 1 : Nat) : Int) - 1) = (m : Int) := by rw [w64 (by omega) (by omega)]; omega
    obtain ⟨y, p1, s1, g1, _, _, c1⟩ := drawSet_ev hs n pk hn hpk hp1 p h hp
    obtain ⟨R, r1, r2⟩ := putany_ev L (by omega) y
    obtain ⟨a, b, c, d, L', dw, h1, h2⟩ := with_l hs n pk q e hn hpk hp1 hq hq1 m R (by omega) p1 s1 c1
    refine ⟨a, b, c, d, L', dw, h1, Ev.step (f := fun k => (spec_l08DrawSet.f k s p h n pk).bind fun t => (spec_l01Put.f k L t.1).bind fun u => spec_l08With.l0 k u m s t.2.1 t.2.2 n pk q e) (fun k => ?_) (Ev.bind g1 (Ev.bind r2 h2))⟩
    simp only [spec_l08With.l0]
    rw [if_pos (by omega), hw]

theorem isSet_ev (n p q h : Nat) (s : Int) (hn : n ≤ 12) : impl_isSet.f n p q h s = some (decide (0 ≤ s) && decide (s < ((2 ^ n : Nat) : Int))) := by
  unfold impl_isSet.f
  rw [shl_one n (by omega)]
  by_cases h0 : 0 ≤ s
  · rw [if_pos h0, if_pos (by omega)]; simp [h0]
  · rw [if_neg h0]; simp [h0]

theorem specCut_ev (n : Nat) (s : Int) (hn1 : 1 ≤ n) (hn : n ≤ 12) : spec_l01In.f s 0 (wrap64 ((shl .i64 1 (IntKind.u64.wrap (n : Int))) - 1)) = some (decide (0 ≤ s) && decide (s < ((2 ^ n : Nat) : Int))) := by
  have hp := pow_le hn
  have hp1 : 1 ≤ 2 ^ n := Nat.one_le_two_pow
  unfold spec_l01In.f
  rw [u64 (by omega) (by omega), shl_one n (by omega), w64 (by omega) (by omega)]
  generalize 2 ^ n = P at *
  by_cases h0 : 0 ≤ s
  · rw [if_pos h0]
    by_cases h1 : s < (P : Int)
    · have h2 : s ≤ (P : Int) - 1 := by omega
      simp [h0, h1, h2]
    · have h2 : ¬ s ≤ (P : Int) - 1 := by omega
      simp [h0, h1, h2]
  · rw [if_neg h0]; simp [h0]

theorem numbers_both (n p q h : Nat) (hn : n ≤ 12) (s : Nat) (hs : s < 4096) : ∀ (d i : Nat) (acc : List Int), i + d = n → acc.length ≤ i → ∃ r : List Int, r.length ≤ 12 ∧ (∀ k, d < k → spec_NumbersOf.l0 k s acc i n p q h = some (r, 0)) ∧ ∀ k, d < k → impl_NumbersOf.l0 k s acc n i = some (r, 0)
  | 0, i, acc, e, ha => by
    refine ⟨acc, by omega, fun k hk => ?_, fun k hk => ?_⟩
    · obtain ⟨k, rfl⟩ : ∃ q, k = q + 1 := ⟨k - 1, by omega⟩
      simp only [spec_NumbersOf.l0]; rw [if_neg (by omega)]
    · obtain ⟨k, rfl⟩ : ∃ q, k = q + 1 := ⟨k - 1, by omega⟩
      simp only [impl_NumbersOf.l0]; rw [if_neg (by omega)]
  | d+1, i, acc, e, ha => by
    have hb := bit_nat s i (by omega) (by omega)
    have hw : wrap64 ((i : Int) + 1) = ((i + 1 : Nat) : Int) := by rw [w64 (by omega) (by omega)]; omega
    by_cases hc : s / 2 ^ i % 2 = 1
    · obtain ⟨r, h1, h2, h3⟩ := numbers_both n p q h hn s hs d (i+1) (acc ++ [(i : Int)]) (by omega) (by simp; omega)
      refine ⟨r, h1, fun k hk => ?_, fun k hk => ?_⟩
      · obtain ⟨k, rfl⟩ : ∃ q, k = q + 1 := ⟨k - 1, by omega⟩
        simp only [spec_NumbersOf.l0]
        rw [if_pos (by omega), u64 (by omega) (by omega), if_pos (by omega), hb, if_pos (by omega), if_pos (by omega), hw]
        exact h2 k (by omega)
      · obtain ⟨k, rfl⟩ : ∃ q, k = q + 1 := ⟨k - 1, by omega⟩
        simp only [impl_NumbersOf.l0]
        rw [if_pos (by omega), if_pos (by omega), hb, if_pos (by omega), if_pos (by omega), hw]
        exact h3 k (by omega)
    · obtain ⟨r, h1, h2, h3⟩ := numbers_both n p q h hn s hs d (i+1) acc (by omega) (by omega)
      refine ⟨r, h1, fun k hk => ?_, fun k hk => ?_⟩
      · obtain ⟨k, rfl⟩ : ∃ q, k = q + 1 := ⟨k - 1, by omega⟩
        simp only [spec_NumbersOf.l0]
        rw [if_pos (by omega), u64 (by omega) (by omega), if_pos (by omega), hb, if_neg (by omega), hw]
        exact h2 k (by omega)
      · obtain ⟨k, rfl⟩ : ∃ q, k = q + 1 := ⟨k - 1, by omega⟩
        simp only [impl_NumbersOf.l0]
        rw [if_pos (by omega), if_pos (by omega), hb, if_neg (by omega), hw]
        exact h3 k (by omega)
theorem numbers_ev (a b c d s : Int) : ∃ (r : List Int) (e : Int), r.length ≤ 12 ∧ (∀ k, 20 ≤ k → spec_NumbersOf.f k a b c d s = some (r, e)) ∧ ∀ k, 20 ≤ k → impl_NumbersOf.f k a b c d s = some (r, e) := by
  rcases lot_cases a b c d with h | ⟨h, n, p, q, e, rfl, rfl, rfl, rfl, h1, h2, h3, h4, h5, h6, h7, h8, h9⟩
  · refine ⟨[], 1, by simp, fun k hk => ?_, fun k hk => ?_⟩
    · unfold spec_NumbersOf.f; rw [isLot, h]; rfl
    · unfold impl_NumbersOf.f; rw [h]; rfl
  · have hp := pow_le h2
    by_cases hv : 0 ≤ s ∧ s < ((2 ^ n : Nat) : Int)
    · obtain ⟨t, rfl⟩ : ∃ t : Nat, s = t := ⟨s.toNat, by omega⟩
      obtain ⟨r, g1, g2, g3⟩ := numbers_both n p q e h2 t (by omega) n 0 [] (by omega) (by simp)
      refine ⟨r, 0, g1, fun k hk => ?_, fun k hk => ?_⟩
      · unfold spec_NumbersOf.f
        rw [isLot, h, specCut_ev n _ h1 h2, u64 (by omega) (by omega)]
        simp only [Option.bind_some, if_true]
        rw [if_pos (by omega)]
        simp only [hv.1, hv.2, decide_true, Bool.and_self, Option.bind_some, if_true]
        exact g2 k (by omega)
      · unfold impl_NumbersOf.f
        rw [h, isSet_ev n p q e _ h2]
        simp only [hv.1, hv.2, decide_true, Bool.and_self, Option.bind_some, if_true]
        exact g3 k (by omega)
    · have hf : (decide (0 ≤ s) && decide (s < ((2 ^ n : Nat) : Int))) = false := by
        generalize 2 ^ n = P at *
        simp; omega
      refine ⟨[], 2, by simp, fun k hk => ?_, fun k hk => ?_⟩
      · unfold spec_NumbersOf.f
        rw [isLot, h, specCut_ev n _ h1 h2, u64 (by omega) (by omega), hf]
        simp only [Option.bind_some, if_true]
        rw [if_pos (by omega)]
        rfl
      · unfold impl_NumbersOf.f
        rw [h, isSet_ev n p q e _ h2, hf]
        rfl

theorem with_ev {l : List Int} (hs : Src l) : ∃ (a b c d : Int) (L' : List Int) (dw : Int), L'.length ≤ 301 ∧ Ev (fun k => spec_l08With.f k l) (a, b, c, d, L', dw) := by
  obtain ⟨h, hf⟩ := from_ev hs
  obtain ⟨v, p1, s1, g1, hv, c1⟩ := pick_ev hs 0 h [5, 7, 8] (by omega) (by decide)
  have hv2 : 1 ≤ v ∧ v ≤ 12 := by simp only [List.mem_cons, List.not_mem_nil, or_false] at hv; omega
  obtain ⟨n, pk, q, e, p2, s2, g2, c2, b1, b2, b3, b4, b5, b6, _⟩ := drawOf_ev hs v p1 s1 hv2.1 hv2.2 c1
  obtain ⟨w, p3, s3, g3, w0, w1, c3⟩ := next_ev hs p2 s2 6 c2 (by omega)
  obtain ⟨m, rfl⟩ : ∃ m : Nat, w = m := ⟨w.toNat, by omega⟩
  obtain ⟨a, b, c, d, L', dw, h1, K, h2⟩ := with_l hs n pk q e (by omega) b4 b3 b6 b5 m [] (by rw [List.length_nil]; omega) p3 s3 c3
  refine ⟨a, b, c, d, L', dw, h1, Ev.bind hf ⟨K, fun k hk => ?_⟩⟩
  dsimp only
  rw [g1, Option.bind_some]
  dsimp only
  rw [g2, Option.bind_some]
  dsimp only
  rw [g3, Option.bind_some]
  exact h2 k hk
theorem drawRank_ev {l : List Int} (hs : Src l) : ∃ a b c d t, Ev (fun k => spec_DrawRankOfTicket.f k l) (a, b, c, d, t) := by
  obtain ⟨h, hf⟩ := from_ev hs
  obtain ⟨n, pk, q, e, p2, s2, g2, c2, b1, b2, b3, b4, b5, b6, _⟩ := drawOf_ev hs 12 0 h (by omega) (by omega) (by omega)
  obtain ⟨y, p3, s3, ⟨K, g3⟩, _, _, c3⟩ := drawSet_ev hs n pk (by omega) b4 b3 p2 s2 c2
  obtain ⟨v, p4, s4, g4, _, _, c4⟩ := next_ev hs p3 s3 12 c3 (by omega)
  obtain ⟨u, p5, s5, g5, _, c5⟩ := pick_ev hs p4 s4 [0, (-1), 4096, 4095] c4 (by decide)
  by_cases h0 : v = 0
  · obtain ⟨x0, x1, x2, x3, p6, s6, g6, _⟩ := bad_ev hs p5 s5 c5 n pk q e
    refine ⟨x0, x1, x2, x3, u, Ev.bind hf ⟨K, fun k hk => ?_⟩⟩
    have g3 : spec_l08DrawSet.f k l p2 s2 n pk = _ := g3 k hk
    dsimp only
    rw [g2, Option.bind_some]; dsimp only
    rw [g3, Option.bind_some, g4, Option.bind_some, if_pos h0, g5, Option.bind_some, g6, Option.bind_some]
  · obtain ⟨x0, x1, x2, x3, p6, s6, g6, _⟩ := bad_ev hs p4 s4 c4 n pk q e
    refine ⟨x0, x1, x2, x3, y, Ev.bind hf ⟨K, fun k hk => ?_⟩⟩
    have g3 : spec_l08DrawSet.f k l p2 s2 n pk = _ := g3 k hk
    dsimp only
    rw [g2, Option.bind_some]; dsimp only
    rw [g3, Option.bind_some, g4, Option.bind_some, if_neg h0, g6, Option.bind_some]
theorem drawTor_ev {l : List Int} (hs : Src l) : ∃ a b c d t, Ev (fun k => spec_DrawTicketOfRank.f k l) (a, b, c, d, t) := by
  obtain ⟨h, hf⟩ := from_ev hs
  obtain ⟨a, b, c, d, K, hd⟩ := draw_ev hs
  obtain ⟨v, p1, s1, g1, hv, c1⟩ := pick_ev hs 0 h [5, 60, 900] (by omega) (by decide)
  have hv2 : 0 ≤ v ∧ v ≤ 900 := by simp only [List.mem_cons, List.not_mem_nil, or_false] at hv; omega
  obtain ⟨u, p2, s2, g2, _⟩ := near_ev hs p1 s1 v c1 hv2.1 (by omega)
  refine ⟨a, b, c, d, u, Ev.bind hf ⟨K, fun k hk => ?_⟩⟩
  have hd : spec_l08Draw.f k l = _ := hd k hk
  dsimp only
  rw [hd, Option.bind_some, g1, Option.bind_some, g2, Option.bind_some]
theorem drawNum_ev {l : List Int} (hs : Src l) : ∃ a b c d t, Ev (fun k => spec_DrawNumbersOf.f k l) (a, b, c, d, t) := by
  obtain ⟨h, hf⟩ := from_ev hs
  obtain ⟨a, b, c, d, K, hd⟩ := draw_ev hs
  obtain ⟨v, p1, s1, g1, hv, c1⟩ := pick_ev hs 0 h [30, 255, 4095] (by omega) (by decide)
  have hv2 : 0 ≤ v ∧ v ≤ 4095 := by simp only [List.mem_cons, List.not_mem_nil, or_false] at hv; omega
  obtain ⟨u, p2, s2, g2, _⟩ := near_ev hs p1 s1 v c1 hv2.1 (by omega)
  refine ⟨a, b, c, d, u, Ev.bind hf ⟨K, fun k hk => ?_⟩⟩
  have hd : spec_l08Draw.f k l = _ := hd k hk
  dsimp only
  rw [hd, Option.bind_some, g1, Option.bind_some, g2, Option.bind_some]
theorem drawCommon_ev {l : List Int} (hs : Src l) : ∃ a b c d t u, Ev (fun k => spec_DrawCommonNumbers.f k l) (a, b, c, d, t, u) := by
  obtain ⟨h, hf⟩ := from_ev hs
  obtain ⟨a, b, c, d, L, dw, hL, K, hd⟩ := with_ev hs
  by_cases h0 : (L.length : Int) = 0
  · obtain ⟨v, p1, s1, g1, hv, c1⟩ := pick_ev hs 0 h [1, 3] (by omega) (by decide)
    refine ⟨a, b, c, d, v, dw, Ev.bind hf ⟨K, fun k hk => ?_⟩⟩
    have hd : spec_l08With.f k l = _ := hd k hk
    dsimp only
    rw [hd, Option.bind_some]; dsimp only
    rw [if_pos h0, g1, Option.bind_some]
  · obtain ⟨v, p1, s1, g1, v0, v1, c1⟩ := next_ev hs 0 h (L.length : Int) (by omega) (by omega)
    refine ⟨a, b, c, d, rd L v, dw, Ev.bind hf ⟨K, fun k hk => ?_⟩⟩
    have hd : spec_l08With.f k l = _ := hd k hk
    dsimp only
    rw [hd, Option.bind_some]; dsimp only
    rw [if_neg h0, g1, Option.bind_some, if_pos v0, if_pos v1]

/-- The numbers of a set, in order. -/
def bitsN (n s : Nat) : List Nat := (List.range n).filter fun i => s.testBit i
def bitsL (n s : Nat) : List Int := (bitsN n s).map Int.ofNat
theorem bitsN_succ (n s : Nat) : bitsN (n + 1) s = bitsN n s ++ if s.testBit n then [n] else [] := by
  unfold bitsN
  rw [List.range_succ, List.filter_append]
  congr 1
  cases h : s.testBit n <;> simp [h]
theorem bitsN_le (n s : Nat) : (bitsN n s).length ≤ n := by
  have := List.length_filter_le (fun i => s.testBit i) (List.range n)
  rw [List.length_range] at this
  exact this
theorem bitsN_zero (n : Nat) : bitsN n 0 = [] := by
  unfold bitsN
  rw [List.filter_eq_nil_iff.2 (fun i _ => by simp)]
theorem bitsN_low (x y : Nat) (h : x < 2 ^ y) : ∀ n, y < n → bitsN n (x + 2 ^ y) = bitsN n x ++ [y]
  | 0, hn => by omega
  | n + 1, hn => by
    have hlow : ∀ i, i < y → (x + 2 ^ y).testBit i = x.testBit i := fun i hi => by
      rw [Nat.add_comm]; exact Nat.testBit_two_pow_add_gt hi x
    have hy : (x + 2 ^ y).testBit y = true := by
      rw [Nat.add_comm, Nat.testBit_two_pow_add_eq, Nat.testBit_lt_two_pow h]; rfl
    rw [bitsN_succ, bitsN_succ]
    by_cases hyn : y = n
    · subst hyn
      have e : bitsN y (x + 2 ^ y) = bitsN y x := by
        unfold bitsN
        refine List.filter_congr fun i hi => hlow i (List.mem_range.1 hi)
      rw [e, hy, Nat.testBit_lt_two_pow h]
      simp
    · have hlt : y < n := by omega
      have hp : 2 ^ (y + 1) ≤ 2 ^ n := Nat.pow_le_pow_right (by omega) (by omega)
      have hp2 : 2 ^ (y + 1) = 2 ^ y + 2 ^ y := by rw [Nat.pow_succ]; omega
      rw [bitsN_low x y h n hlt, Nat.testBit_lt_two_pow (x := x + 2 ^ y) (by omega), Nat.testBit_lt_two_pow (x := x) (by omega)]
      simp
theorem bitsN_nil : ∀ (n s : Nat), s < 2 ^ n → bitsN n s = [] → s = 0
  | 0, s, h, _ => by simp at h; exact h
  | n + 1, s, h, e => by
    rw [bitsN_succ] at e
    have e1 := (List.append_eq_nil_iff.1 e).1
    have e2 := (List.append_eq_nil_iff.1 e).2
    have hb : s.testBit n = false := by
      cases hb : s.testBit n with
      | false => rfl
      | true => rw [hb] at e2; simp at e2
    refine bitsN_nil n s ?_ e1
    rw [Nat.testBit_eq_decide_div_mod_eq] at hb
    have hb2 : ¬ s / 2 ^ n % 2 = 1 := of_decide_eq_false hb
    rw [Nat.pow_succ] at h
    have h1 : s / 2 ^ n < 2 := Nat.div_lt_of_lt_mul (by omega)
    have h0 : s / 2 ^ n = 0 := by
      generalize s / 2 ^ n = z at *
      omega
    exact (Nat.div_eq_zero_iff.1 h0).resolve_left (Nat.pos_iff_ne_zero.1 (Nat.two_pow_pos n))
theorem numbers_is (n p q h : Nat) (hn : n ≤ 12) (s : Nat) (hs : s < 4096) : ∀ (d i : Nat), i + d = n → (∀ k, d < k → spec_NumbersOf.l0 k s (bitsL i s) i n p q h = some (bitsL n s, 0)) ∧ ∀ k, d < k → impl_NumbersOf.l0 k s (bitsL i s) n i = some (bitsL n s, 0)
  | 0, i, e => by
    obtain rfl : i = n := by omega
    refine ⟨fun k hk => ?_, fun k hk => ?_⟩
    · obtain ⟨k, rfl⟩ : ∃ q, k = q + 1 := ⟨k - 1, by omega⟩
      simp only [spec_NumbersOf.l0]; rw [if_neg (by omega)]
    · obtain ⟨k, rfl⟩ : ∃ q, k = q + 1 := ⟨k - 1, by omega⟩
      simp only [impl_NumbersOf.l0]; rw [if_neg (by omega)]
  | d+1, i, e => by
    have hb := bit_nat s i (by omega) (by omega)
    have hw : wrap64 ((i : Int) + 1) = ((i + 1 : Nat) : Int) := by rw [w64 (by omega) (by omega)]; omega
    have hlen : (bitsL i s).length ≤ i := by unfold bitsL; rw [List.length_map]; exact bitsN_le i s
    obtain ⟨h2, h3⟩ := numbers_is n p q h hn s hs d (i+1) (by omega)
    have hstep : bitsL (i + 1) s = bitsL i s ++ if s.testBit i then [(i : Int)] else [] := by
      unfold bitsL
      rw [bitsN_succ, List.map_append]
      cases s.testBit i <;> rfl
    rw [hstep] at h2 h3
    rw [Nat.testBit_eq_decide_div_mod_eq] at h2 h3
    by_cases hc : s / 2 ^ i % 2 = 1
    · rw [if_pos (decide_eq_true hc)] at h2 h3
      refine ⟨fun k hk => ?_, fun k hk => ?_⟩
      · obtain ⟨k, rfl⟩ : ∃ q, k = q + 1 := ⟨k - 1, by omega⟩
        simp only [spec_NumbersOf.l0]
        rw [if_pos (by omega), u64 (by omega) (by omega), if_pos (by omega), hb, if_pos (by omega), if_pos (by omega), hw]
        exact h2 k (by omega)
      · obtain ⟨k, rfl⟩ : ∃ q, k = q + 1 := ⟨k - 1, by omega⟩
        simp only [impl_NumbersOf.l0]
        rw [if_pos (by omega), if_pos (by omega), hb, if_pos (by omega), if_pos (by omega), hw]
        exact h3 k (by omega)
    · rw [if_neg (by simp [hc]), List.append_nil] at h2 h3
      refine ⟨fun k hk => ?_, fun k hk => ?_⟩
      · obtain ⟨k, rfl⟩ : ∃ q, k = q + 1 := ⟨k - 1, by omega⟩
        simp only [spec_NumbersOf.l0]
        rw [if_pos (by omega), u64 (by omega) (by omega), if_pos (by omega), hb, if_neg (by omega), hw]
        exact h2 k (by omega)
      · obtain ⟨k, rfl⟩ : ∃ q, k = q + 1 := ⟨k - 1, by omega⟩
        simp only [impl_NumbersOf.l0]
        rw [if_pos (by omega), if_pos (by omega), hb, if_neg (by omega), hw]
        exact h3 k (by omega)
theorem numbers_val (n p q e t : Nat) (hl : impl_IsLottery.f n p q e = some true) (h1 : 1 ≤ n) (h2 : n ≤ 12) (ht : t < 2 ^ n) : (∀ k, 20 ≤ k → spec_NumbersOf.f k n p q e t = some (bitsL n t, 0)) ∧ ∀ k, 20 ≤ k → impl_NumbersOf.f k n p q e t = some (bitsL n t, 0) := by
  have hp := pow_le h2
  obtain ⟨g2, g3⟩ := numbers_is n p q e h2 t (by omega) n 0 (by omega)
  have hb : (decide (0 ≤ (t : Int)) && decide ((t : Int) < ((2 ^ n : Nat) : Int))) = true := by
    rw [decide_eq_true (by omega), decide_eq_true (by omega)]; rfl
  refine ⟨fun k hk => ?_, fun k hk => ?_⟩
  · unfold spec_NumbersOf.f
    rw [isLot, hl, specCut_ev n _ h1 h2, u64 (by omega) (by omega), hb]
    simp only [Option.bind_some, if_true]
    rw [if_pos (by omega)]
    exact g2 k (by omega)
  · unfold impl_NumbersOf.f
    rw [hl, isSet_ev n p q e _ h2, hb]
    simp only [Option.bind_some, if_true]
    exact g3 k (by omega)
theorem drawTo_ev {l : List Int} (hs : Src l) : ∃ a b c d L, L.length ≤ 13 ∧ Ev (fun k => spec_DrawTicketOf.f k l) (a, b, c, d, L) := by
  obtain ⟨h, hf⟩ := from_ev hs
  obtain ⟨n, pk, q, e, p2, s2, g2, c2, b1, b2, b3, b4, b5, b6, b7, b8, b9⟩ := drawOf_ev hs 12 0 h (by omega) (by omega) (by omega)
  obtain ⟨y, p3, s3, ⟨K, g3⟩, y1, y2, c3⟩ := drawSet_ev hs n pk (by omega) b4 b3 p2 s2 c2
  have hlot : impl_IsLottery.f n pk q e = some true := by
    rcases lot_cases n pk q e with h | ⟨h, _⟩
    · exfalso
      unfold impl_IsLottery.f mn at h
      repeat' split at h
      all_goals simp_all
      all_goals omega
    · exact h
  obtain ⟨g4, _⟩ := numbers_val n pk q e y hlot b1 (by omega) y1
  have hl13 : (bitsL n y).length ≤ 12 := by unfold bitsL; rw [List.length_map]; have := bitsN_le n y; omega
  have hl1 : 1 ≤ (bitsL n y).length := by
    unfold bitsL
    rw [List.length_map]
    have : bitsN n y ≠ [] := fun h => by have := bitsN_nil n y y1 h; omega
    exact List.length_pos_iff.2 this
  generalize bitsL n y = B at g4 hl13 hl1
  obtain ⟨v, p4, s4, g5, _, _, c4⟩ := next_ev hs p3 s3 12 c3 (by omega)
  obtain ⟨u, p5, s5, g6, _, c5⟩ := pick_ev hs p4 s4 [12, 0, (-1)] c4 (by decide)
  by_cases h0 : v = 0
  · obtain ⟨x0, x1, x2, x3, p6, s6, g7, _⟩ := bad_ev hs p5 s5 c5 n pk q e
    refine ⟨x0, x1, x2, x3, B ++ [u], by rw [List.length_append, List.length_singleton]; omega, Ev.bind hf ⟨K + 20, fun k hk => ?_⟩⟩
    have g3 : spec_l08DrawSet.f k l p2 s2 n pk = _ := g3 k (by omega)
    dsimp only
    rw [g2, Option.bind_some]; dsimp only
    rw [g3, Option.bind_some]; dsimp only
    rw [g4 k (by omega), Option.bind_some]; dsimp only
    rw [g5, Option.bind_some, if_pos h0, g6, Option.bind_some, if_pos (by omega), g7, Option.bind_some]
  obtain ⟨x0, x1, x2, x3, p6, s6, g7, _⟩ := bad_ev hs p4 s4 c4 n pk q e
  by_cases h1 : v = 1
  · refine ⟨x0, x1, x2, x3, B.drop (1 : Int).toNat, by rw [List.length_drop]; omega, Ev.bind hf ⟨K + 20, fun k hk => ?_⟩⟩
    have g3 : spec_l08DrawSet.f k l p2 s2 n pk = _ := g3 k (by omega)
    dsimp only
    rw [g2, Option.bind_some]; dsimp only
    rw [g3, Option.bind_some]; dsimp only
    rw [g4 k (by omega), Option.bind_some]; dsimp only
    rw [g5, Option.bind_some, if_neg h0, if_pos h1, if_pos (by omega), g7, Option.bind_some]
  · refine ⟨x0, x1, x2, x3, B, by omega, Ev.bind hf ⟨K + 20, fun k hk => ?_⟩⟩
    have g3 : spec_l08DrawSet.f k l p2 s2 n pk = _ := g3 k (by omega)
    dsimp only
    rw [g2, Option.bind_some]; dsimp only
    rw [g3, Option.bind_some]; dsimp only
    rw [g4 k (by omega), Option.bind_some]; dsimp only
    rw [g5, Option.bind_some, if_neg h0, if_neg h1, g7, Option.bind_some]

theorem like_l (L : List Int) (hl : L.length ≤ 1048576) : ∀ d i : Nat, i + d = L.length → ∀ k, d < k → laws_likeInts.l0 k L L i = some true
  | 0, i, e, k, hk => by
    obtain ⟨k, rfl⟩ : ∃ q, k = q + 1 := ⟨k - 1, by omega⟩
    simp only [laws_likeInts.l0]; rw [if_neg (by omega)]
  | d+1, i, e, k, hk => by
    obtain ⟨k, rfl⟩ : ∃ q, k = q + 1 := ⟨k - 1, by omega⟩
    have hw : wrap64 ((i : Int) + 1) = ((i + 1 : Nat) : Int) := by rw [w64 (by omega) (by omega)]; omega
    simp only [laws_likeInts.l0]; rw [if_pos (by omega), if_pos (by omega), if_pos (by omega), if_pos trivial, hw]
    exact like_l L hl d (i + 1) (by omega) k (by omega)
theorem like_ev (L : List Int) (hl : L.length ≤ 1048576) (k : Nat) (hk : L.length < k) : laws_likeInts.f k L L = some true := by
  unfold laws_likeInts.f
  rw [if_pos rfl]
  exact like_l L hl L.length 0 (by omega) k (by omega)
theorem src_of {l : List Int} (hw : ∀ x ∈ l, (Lit.int .u8 x).wf = true) (hl : l.length ≤ 4096) : ∀ x ∈ l, 0 ≤ x ∧ x < 256 := by
  intro x hx
  have h := hw x hx
  have e : (Lit.int .u8 x).wf = (decide ((0 : Int) ≤ x) && decide (x ≤ 255)) := rfl
  rw [e, Bool.and_eq_true] at h
  have h1 := of_decide_eq_true h.1
  have h2 := of_decide_eq_true h.2
  omega

theorem to_both (n p q h : Nat) (hn1 : 1 ≤ n) (hn : n ≤ 12) (l : List Int) (hl : l.length ≤ 1048576) : ∀ (d i : Nat) (x : Int), i + d = l.length → ∃ r : Int × Int, (∀ k, d + 1 ≤ k → spec_TicketOf.l0 k l x i n p q h = some r) ∧ ∀ k, d + 1 ≤ k → impl_TicketOf.l0 k l x l l.length i n p q h = some r
  | 0, i, x, e => by
    refine ⟨if (l.length : Int) = (p : Int) then (x, 0) else (0, 2), fun k hk => ?_, fun k hk => ?_⟩
    · obtain ⟨k, rfl⟩ : ∃ q, k = q + 1 := ⟨k - 1, by omega⟩
      simp only [spec_TicketOf.l0]
      rw [if_neg (by omega)]
      by_cases hp : (l.length : Int) = (p : Int)
      · rw [if_pos hp, if_pos hp]
      · rw [if_neg hp, if_neg hp]
    · obtain ⟨k, rfl⟩ : ∃ q, k = q + 1 := ⟨k - 1, by omega⟩
      simp only [impl_TicketOf.l0]
      rw [if_neg (by omega)]
      by_cases hp : (l.length : Int) = (p : Int)
      · rw [if_pos hp, if_pos hp]
      · rw [if_neg hp, if_neg hp]
  | d+1, i, x, e => by
    have hi : i < l.length := by omega
    have hr := rd_nat l i hi
    have hw : wrap64 ((i : Int) + 1) = ((i + 1 : Nat) : Int) := by rw [w64 (by omega) (by omega)]; omega
    have hwn : wrap64 ((n : Int) - 1) = (n : Int) - 1 := w64 (by omega) (by omega)
    by_cases hv : 0 ≤ l[i] ∧ l[i] ≤ (n : Int) - 1
    · have e1 : spec_l01In.f l[i] 0 ((n : Int) - 1) = some true := by
        unfold spec_l01In.f; rw [if_pos hv.1, decide_eq_true hv.2]
      have hu : IntKind.u64.wrap l[i] = l[i] := u64 hv.1 (by omega)
      obtain ⟨r, g1, g2⟩ := to_both n p q h hn1 hn l hl d (i+1) (Go.bits .or .i64 x (shl .i64 1 l[i])) (by omega)
      by_cases h0 : 0 < i
      · have hw1 : wrap64 ((i : Int) - 1) = ((i - 1 : Nat) : Int) := by rw [w64 (by omega) (by omega)]; omega
        have hr1 := rd_nat l (i - 1) (by omega)
        by_cases hle : l[i] ≤ l[i-1]
        · refine ⟨(0, 2), fun k hk => ?_, fun k hk => ?_⟩
          · obtain ⟨k, rfl⟩ : ∃ q, k = q + 1 := ⟨k - 1, by omega⟩
            simp only [spec_TicketOf.l0]
            rw [if_pos (by omega), if_pos (by omega), hr, hwn, e1, Option.bind_some, if_pos rfl, if_pos (by omega), hw1, if_pos (by omega), if_pos (by omega), hr1, if_pos (by omega)]
          · obtain ⟨k, rfl⟩ : ∃ q, k = q + 1 := ⟨k - 1, by omega⟩
            simp only [impl_TicketOf.l0]
            rw [if_pos (by omega), if_pos (by omega), if_pos (by omega), hr, if_neg (by omega), if_neg (by omega), if_pos (by omega), hw1, if_pos (by omega), if_pos (by omega), hr1, if_pos (by omega)]
        · refine ⟨r, fun k hk => ?_, fun k hk => ?_⟩
          · obtain ⟨k, rfl⟩ : ∃ q, k = q + 1 := ⟨k - 1, by omega⟩
            simp only [spec_TicketOf.l0]
            rw [if_pos (by omega), if_pos (by omega), hr, hwn, e1, Option.bind_some, if_pos rfl, if_pos (by omega), hw1, if_pos (by omega), if_pos (by omega), hr1, if_neg (by omega), hu, if_pos (by omega), hw]
            exact g1 k (by omega)
          · obtain ⟨k, rfl⟩ : ∃ q, k = q + 1 := ⟨k - 1, by omega⟩
            simp only [impl_TicketOf.l0]
            rw [if_pos (by omega), if_pos (by omega), if_pos (by omega), hr, if_neg (by omega), if_neg (by omega), if_pos (by omega), hw1, if_pos (by omega), if_pos (by omega), hr1, if_neg (by omega), if_pos (by omega), hw]
            exact g2 k (by omega)
      · refine ⟨r, fun k hk => ?_, fun k hk => ?_⟩
        · obtain ⟨k, rfl⟩ : ∃ q, k = q + 1 := ⟨k - 1, by omega⟩
          simp only [spec_TicketOf.l0]
          rw [if_pos (by omega), if_pos (by omega), hr, hwn, e1, Option.bind_some, if_pos rfl, if_neg (by omega), hu, if_pos (by omega), hw]
          exact g1 k (by omega)
        · obtain ⟨k, rfl⟩ : ∃ q, k = q + 1 := ⟨k - 1, by omega⟩
          simp only [impl_TicketOf.l0]
          rw [if_pos (by omega), if_pos (by omega), if_pos (by omega), hr, if_neg (by omega), if_neg (by omega), if_neg (by omega), if_pos (by omega), hw]
          exact g2 k (by omega)
    · have e1 : spec_l01In.f l[i] 0 ((n : Int) - 1) = some false := by
        unfold spec_l01In.f
        by_cases h1 : l[i] ≥ 0
        · rw [if_pos h1, decide_eq_false (by omega)]
        · rw [if_neg h1]
      refine ⟨(0, 2), fun k hk => ?_, fun k hk => ?_⟩
      · obtain ⟨k, rfl⟩ : ∃ q, k = q + 1 := ⟨k - 1, by omega⟩
        simp only [spec_TicketOf.l0]
        rw [if_pos (by omega), if_pos (by omega), hr, hwn, e1, Option.bind_some, if_neg (by decide)]
      · obtain ⟨k, rfl⟩ : ∃ q, k = q + 1 := ⟨k - 1, by omega⟩
        simp only [impl_TicketOf.l0]
        rw [if_pos (by omega), if_pos (by omega), if_pos (by omega), hr]
        by_cases h1 : l[i] < 0
        · rw [if_pos h1]
        · rw [if_neg h1, if_pos (by omega)]

def okC (x : Nat) : Bool := match spec_l08Choose.f 14 ((x / 16 : Nat) : Int) ((x % 16 : Nat) : Int) with
  | some r => r == (binom (x / 16) (x % 16) : Int)
  | none => false
theorem okC_all : allN okC 208 = true := by kernel_rfl
theorem choose_nat (n j : Nat) (hn : n ≤ 12) (hj : j ≤ 15) : ∀ k, 14 ≤ k → spec_l08Choose.f k n j = some (binom n j : Int) := by
  intro k hk
  have := allN_at okC 208 okC_all (16 * n + j) (by omega)
  unfold okC at this
  rw [show (16 * n + j) / 16 = n by omega, show (16 * n + j) % 16 = j by omega] at this
  split at this
  · rename_i r hr
    rw [beq_iff_eq.mp this] at hr
    exact at_rounds (g := fun k => spec_l08Choose.f k n j) (fun k => spec_l08Choose.mono _ _ k) hk hr
  · cases this

theorem or_add (x m i : Nat) (hx : x % 2 ^ m = 0) (hi : i < m) : x ||| 2 ^ i = x + 2 ^ i := by
  obtain ⟨q, rfl⟩ : ∃ q, x = 2 ^ m * q := ⟨x / 2 ^ m, by have := Nat.div_add_mod x (2 ^ m); omega⟩
  have hlt : 2 ^ i < 2 ^ m := Nat.pow_lt_pow_right (by omega) hi
  rw [← Nat.two_pow_add_eq_or_of_lt hlt]
theorem mul_add_mod (x m i : Nat) (hx : x % 2 ^ m = 0) (hi : i < m) : (x + 2 ^ i) % 2 ^ i = 0 := by
  obtain ⟨e, rfl⟩ : ∃ e, m = i + e := ⟨m - i, by omega⟩
  have h1 : x % 2 ^ i = 0 := by
    have hd : 2 ^ i ∣ 2 ^ (i + e) := ⟨2 ^ e, Nat.pow_add 2 i e⟩
    exact Nat.mod_eq_zero_of_dvd (Nat.dvd_trans hd (Nat.dvd_of_mod_eq_zero hx))
  rw [Nat.add_mod, h1]; simp
theorem one_shl (i : Nat) (hi : i < 13) : shl .i64 1 (IntKind.u64.wrap (i : Int)) = ((2 ^ i : Nat) : Int) := by
  rw [u64 (by omega) (by omega), shl_one i hi]
theorem ofRank_l1 (m p r x : Nat) (hm : m ≤ 12) (hr : r < binom m (p+1)) (F : Option Int) (K : Nat) (hx : x % 2 ^ m = 0) (hx2 : x + 2 ^ m ≤ 4096)
    (next : ∀ i, i < m → binom i (p+1) ≤ r → r < binom (i+1) (p+1) → ∀ k, K ≤ k → spec_l08OfRank.l0 k p ((r - binom i (p+1) : Nat) : Int) ((x + 2 ^ i : Nat) : Int) = F) (hK : 16 ≤ K) :
    ∀ d i : Nat, i + d = m → i < m → binom i (p+1) ≤ r → ∀ k, K + d ≤ k → spec_l08OfRank.l1 k ((p : Int) + 1) r x i = F
  | 0, i, e, hi, h1, k, hk => by omega
  | d+1, i, e, hi, h1, k, hk => by
    obtain ⟨k, rfl⟩ : ∃ q, k = q + 1 := ⟨k - 1, by omega⟩
    have hp : p ≤ 14 := by
      by_cases hp : p ≤ 14
      · exact hp
      · rw [binom_gt m (p+1) (by omega)] at hr; omega
    simp only [spec_l08OfRank.l1]
    rw [w64 (i := (i : Int) + 1) (by omega) (by omega), show (i : Int) + 1 = ((i + 1 : Nat) : Int) by omega, show (p : Int) + 1 = ((p + 1 : Nat) : Int) by omega, choose_nat (i+1) (p+1) (by omega) (by omega) k (by omega)]
    simp only [Option.bind_some]
    have hpi : 2 ^ i < 2 ^ m := Nat.pow_lt_pow_right (by omega) hi
    by_cases hle : binom (i+1) (p+1) ≤ r
    · rw [if_pos (by omega)]
      have hi2 : i + 1 < m := by
        by_cases hi2 : i + 1 < m
        · exact hi2
        · have : i + 1 = m := by omega
          rw [this] at hle; omega
      have := ofRank_l1 m p r x hm hr F K hx hx2 next hK d (i+1) (by omega) hi2 hle k (by omega)
      exact this
    · rw [if_neg (by omega), choose_nat i (p+1) (by omega) (by omega) k (by omega)]
      simp only [Option.bind_some]
      have hr2 : r < 4096 := by
        have := S_length m (p+1) hm
        have h2 : (S m (p+1)).length ≤ (List.range (2^m)).length := List.length_filter_le _ _
        rw [List.length_range] at h2
        have := pow_le hm
        omega
      rw [one_shl i (by omega), u64 (by omega) (by omega), if_pos (by omega), bor x (2 ^ i) (by omega) (by omega), or_add x m i hx hi, w64 (by omega) (by omega), w64 (by omega) (by omega), show ((p + 1 : Nat) : Int) - 1 = (p : Int) by omega, show (r : Int) - (binom i (p+1) : Int) = ((r - binom i (p+1) : Nat) : Int) by omega]
      exact next i hi h1 (by omega) k (by omega)
theorem ofRank_l0 : ∀ (p m r x : Nat), m ≤ 12 → r < binom m p → x % 2 ^ m = 0 → x + 2 ^ m ≤ 4096 → ∃ t, (S m p)[r]? = some t ∧ ∀ k, 16 + 16 * (p + 1) ≤ k → spec_l08OfRank.l0 k p r x = some ((x + t : Nat) : Int)
  | 0, m, r, x, hm, hr, hx, hx2 => by
    have h0 : binom m 0 = 1 := by cases m <;> rfl
    obtain rfl : r = 0 := by omega
    refine ⟨0, ?_, fun k hk => ?_⟩
    · have := S_rk m 0 hm (Nat.two_pow_pos m)
      have hz : ∀ m, rk m 0 = 0 := by
        intro m
        induction m with
        | zero => rfl
        | succ m ih => simp only [rk]; rw [if_pos (Nat.two_pow_pos m)]; exact ih
      rw [hz] at this
      exact this
    · obtain ⟨k, rfl⟩ : ∃ q, k = q + 1 := ⟨k - 1, by omega⟩
      simp only [spec_l08OfRank.l0]; rw [if_neg (by omega)]; rfl
  | p+1, m, r, x, hm, hr, hx, hx2 => by
    have hpm : p + 1 ≤ m := by
      by_cases h : p + 1 ≤ m
      · exact h
      · rw [binom_gt m (p+1) (by omega)] at hr; omega
    have hex : ∃ i, i < m ∧ binom i (p+1) ≤ r ∧ r < binom (i+1) (p+1) := by
      have : ∀ m, r < binom m (p+1) → ∃ i, i < m ∧ binom i (p+1) ≤ r ∧ r < binom (i+1) (p+1) := by
        intro m
        induction m with
        | zero => intro h; simp [binom] at h
        | succ m ih =>
          intro h
          by_cases h2 : r < binom m (p+1)
          · obtain ⟨i, a, b, c⟩ := ih h2; exact ⟨i, by omega, b, c⟩
          · exact ⟨m, by omega, by omega, h⟩
      exact this m hr
    obtain ⟨i0, hi0, ha0, hb0⟩ := hex
    have huniq : ∀ i, binom i (p+1) ≤ r → r < binom (i+1) (p+1) → i = i0 := by
      intro i ha hb
      rcases Nat.lt_trichotomy i i0 with h | h | h
      · have := binom_mono (i+1) i0 (p+1) (by omega); omega
      · exact h
      · have := binom_mono (i0+1) i (p+1) (by omega); omega
    have hpow : 2 ^ i0 < 2 ^ m := Nat.pow_lt_pow_right (by omega) hi0
    have hpow2 : 2 ^ i0 + 2 ^ i0 ≤ 2 ^ m := by
      have : 2 ^ (i0 + 1) ≤ 2 ^ m := Nat.pow_le_pow_right (by omega) (by omega)
      rw [Nat.pow_succ] at this; omega
    obtain ⟨u, hu, hrec⟩ := ofRank_l0 p i0 (r - binom i0 (p+1)) (x + 2 ^ i0) (by omega) (ofRank_lt p r i0 ha0 hb0) (mul_add_mod x m i0 hx hi0) (by omega)
    refine ⟨u + 2 ^ i0, ofRank_step m p r i0 u hm hi0 ha0 hb0 hu, fun k hk => ?_⟩
    obtain ⟨k, rfl⟩ : ∃ q, k = q + 1 := ⟨k - 1, by omega⟩
    simp only [spec_l08OfRank.l0]
    rw [if_pos (by omega), w64 (by omega) (by omega), show ((p + 1 : Nat) : Int) - 1 = (p : Int) by omega, show ((p + 1 : Nat) : Int) = (p : Int) + 1 by omega]
    refine ofRank_l1 m p r x hm hr _ (16 + 16 * (p + 1)) hx hx2 (fun i hi ha hb k hk => ?_) (by omega) (m - p) p (by omega) (by omega) (by rw [binom_gt p (p+1) (by omega)]; omega) k (by omega)
    obtain rfl := huniq i ha hb
    rw [hrec k (by omega)]
    congr 1
    omega

theorem rk_ext (t n : Nat) (ht : t < 2 ^ n) : ∀ m, n ≤ m → rk m t = rk n t := by
  intro m hm
  induction m with
  | zero => have : n = 0 := by omega
            subst this; rfl
  | succ m ih =>
    by_cases e : n = m + 1
    · subst e; rfl
    · have h2 : t < 2 ^ m := Nat.lt_of_lt_of_le ht (Nat.pow_le_pow_right (by omega) (by omega))
      simp only [rk]; rw [if_pos h2]; exact ih (by omega)
theorem rk_lt (t : Nat) (n : Nat) (hn : n ≤ 12) (ht : t < 2 ^ n) : rk n t < binom n (pc t) := by
  have := S_rk n t hn ht
  have h := (List.getElem?_eq_some_iff.1 this).1
  rwa [S_length n _ hn] at h
theorem rk_mod_lt (n t : Nat) (hn : n ≤ 12) : rk n (t % 2 ^ n) ≤ 4096 := by
  have h1 : t % 2 ^ n < 2 ^ n := Nat.mod_lt _ (Nat.two_pow_pos n)
  have h2 := rk_lt _ n hn h1
  have h3 : binom n (pc (t % 2 ^ n)) ≤ 2 ^ n := by
    rw [← S_length n _ hn]
    have h : (S n (pc (t % 2 ^ n))).length ≤ (List.range (2^n)).length := List.length_filter_le _ _
    rwa [List.length_range] at h
  have := pow_le hn
  omega
theorem pcF_le (m : Nat) : ∀ x, pcF m x ≤ m := by
  induction m with
  | zero => intro x; simp [pcF]
  | succ m ih => intro x; simp only [pcF]; have := ih (x / 2); omega
theorem pc_le (x : Nat) : pc x ≤ 12 := pcF_le 12 x
theorem specRank_l (t : Nat) (ht : t < 4096) : ∀ d i : Nat, i + d = 12 → ∀ k, d + 16 ≤ k → spec_l08Rank.l0 k t (rk i (t % 2 ^ i)) (pc (t % 2 ^ i)) i = some (rk 12 (t % 2 ^ 12) : Int)
  | 0, i, e, k, hk => by
    obtain ⟨k, rfl⟩ : ∃ q, k = q + 1 := ⟨k - 1, by omega⟩
    obtain rfl : i = 12 := by omega
    simp only [spec_l08Rank.l0]; rw [if_neg (by omega)]
  | d+1, i, e, k, hk => by
    obtain ⟨k, rfl⟩ : ∃ q, k = q + 1 := ⟨k - 1, by omega⟩
    simp only [spec_l08Rank.l0]
    have h1 := rk_mod i t (by omega)
    have h2 := pc_mod i t (by omega)
    have h3 := rk_mod_lt i t (by omega)
    have h4 := pc_le (t % 2 ^ i)
    rw [if_pos (by omega), u64 (by omega) (by omega), if_pos (by omega), bit_nat t i (by omega) (by omega), w64 (i := (i : Int) + 1) (by omega) (by omega)]
    by_cases hb : t / 2 ^ i % 2 = 1
    · rw [if_pos (by omega), w64 (i := (pc (t % 2 ^ i) : Int) + 1) (by omega) (by omega), show ((pc (t % 2 ^ i) : Nat) : Int) + 1 = ((pc (t % 2 ^ i) + 1 : Nat) : Int) by omega]
      rw [choose_nat i (pc (t % 2 ^ i) + 1) (by omega) (by omega) k (by omega)]
      simp only [Option.bind_some]
      rw [if_pos hb] at h1 h2
      have h5 := rk_mod_lt (i+1) t (by omega)
      rw [h1] at h5
      have := specRank_l t ht d (i+1) (by omega) k (by omega)
      rw [h1, h2] at this
      rw [w64 (by omega) (by omega), show ((rk i (t % 2 ^ i) : Nat) : Int) + (binom i (pc (t % 2 ^ i) + 1) : Int) = ((binom i (pc (t % 2 ^ i) + 1) + rk i (t % 2 ^ i) : Nat) : Int) by omega, show (i : Int) + 1 = ((i + 1 : Nat) : Int) by omega]
      exact this
    · rw [if_neg (by omega)]
      rw [if_neg hb] at h1 h2
      have := specRank_l t ht d (i+1) (by omega) k (by omega)
      rw [h1, h2] at this
      rw [show (i : Int) + 1 = ((i + 1 : Nat) : Int) by omega]
      exact this
theorem specRank_ev (t : Nat) (ht : t < 4096) (k : Nat) (hk : 30 ≤ k) : spec_l08Rank.f k t = some (rk 12 t : Int) := by
  unfold spec_l08Rank.f
  have := specRank_l t ht 12 0 (by omega) k (by omega)
  rw [show t % 2 ^ 12 = t from Nat.mod_eq_of_lt ht, show t % 2 ^ 0 = 0 by omega] at this
  exact this

theorem index_l (M : List Nat) (hl : M.length ≤ 4096) (t : Nat) (r : Nat) (hr : M[r]? = some t) (hfirst : ∀ j, M[j]? = some t → j = r) : ∀ d i : Nat, i + d = r → ∀ k, d < k → slices_Index_int64_int64.l0 k (M.map Int.ofNat) t M.length i = some (r : Int)
  | 0, i, e, k, hk => by
    obtain ⟨k, rfl⟩ : ∃ q, k = q + 1 := ⟨k - 1, by omega⟩
    obtain rfl : i = r := by omega
    obtain ⟨h1, h2⟩ := List.getElem?_eq_some_iff.1 hr
    simp only [slices_Index_int64_int64.l0]
    rw [if_pos (by omega), if_pos (by omega), if_pos (by simp; omega), rd_map M i h1, h2, if_pos rfl]
  | d+1, i, e, k, hk => by
    obtain ⟨k, rfl⟩ : ∃ q, k = q + 1 := ⟨k - 1, by omega⟩
    obtain ⟨h1, h2⟩ := List.getElem?_eq_some_iff.1 hr
    have hi : i < M.length := by omega
    have hne : ¬ (t : Int) = (M[i] : Int) := by
      intro he
      have he : M[i] = t := by omega
      have := hfirst i (by rw [List.getElem?_eq_getElem hi, he])
      omega
    simp only [slices_Index_int64_int64.l0]
    rw [if_pos (by omega), if_pos (by omega), if_pos (by simp; omega), rd_map M i hi, if_neg hne, w64 (by omega) (by omega), show (i : Int) + 1 = ((i + 1 : Nat) : Int) by omega]
    exact index_l M hl t r hr hfirst d (i+1) (by omega) k (by omega)

/-- A set of m of n numbers. -/
def isT (n m : Nat) (s : Int) : Bool := decide (0 ≤ s) && decide (s < ((2 ^ n : Nat) : Int)) && (((pc s.toNat : Nat) : Int) == (m : Int))
theorem isT_nat {n m : Nat} {s : Int} (h : isT n m s = true) : ∃ t : Nat, s = t ∧ t < 2 ^ n ∧ pc t = m := by
  simp only [isT, Bool.and_eq_true, decide_eq_true_eq, beq_iff_eq] at h
  obtain ⟨⟨h0, h1⟩, h2⟩ := h
  refine ⟨s.toNat, by omega, by omega, by omega⟩

theorem specSet_ev (n p q h m : Nat) (s : Int) (hn1 : 1 ≤ n) (hn : n ≤ 12) (k : Nat) (hk : 14 ≤ k) : spec_l08Set.f k n p q h s m = some (isT n m s) := by
  have hp := pow_le hn
  have hp1 : 1 ≤ 2 ^ n := Nat.one_le_two_pow
  unfold spec_l08Set.f spec_l01In.f isT
  rw [u64 (by omega) (by omega), if_pos (by omega), shl_one n (by omega), w64 (by omega) (by omega)]
  generalize 2 ^ n = P at *
  by_cases h0 : 0 ≤ s
  · rw [if_pos h0]
    simp only [Option.bind_some]
    by_cases h1 : s < (P : Int)
    · have h2 : s ≤ (P : Int) - 1 := by omega
      obtain ⟨t, rfl⟩ : ∃ t : Nat, s = t := ⟨s.toNat, by omega⟩
      rw [ssize_nat t (by omega) k hk]
      simp [h1, h2]
    · have h2 : ¬ s ≤ (P : Int) - 1 := by omega
      simp [h1, h2]
  · rw [if_neg h0]; simp [h0]

theorem isTicket_ev (n p q h : Nat) (s : Int) (hn : n ≤ 12) : impl_isTicket.f n p q h s = some (isT n p s) := by
  have hp := pow_le hn
  unfold impl_isTicket.f
  rw [isSet_ev n p q h s hn]
  unfold isT
  generalize 2 ^ n = P at *
  by_cases hv : 0 ≤ s ∧ s < (P : Int)
  · obtain ⟨t, rfl⟩ : ∃ t : Nat, s = t := ⟨s.toNat, by omega⟩
    simp only [hv.1, hv.2, decide_true, Bool.and_self, Option.bind_some, if_true]
    rw [size_nat t (by omega)]; simp
  · have : (decide (0 ≤ s) && decide (s < (P : Int))) = false := by simp; omega
    rw [this]; simp

theorem isDraw_ev (n p q h : Nat) (s : Int) (hn : n ≤ 12) : impl_isDraw.f n p q h s = some (isT n q s) := by
  have hp := pow_le hn
  unfold impl_isDraw.f
  rw [isSet_ev n p q h s hn]
  unfold isT
  generalize 2 ^ n = P at *
  by_cases hv : 0 ≤ s ∧ s < (P : Int)
  · obtain ⟨t, rfl⟩ : ∃ t : Nat, s = t := ⟨s.toNat, by omega⟩
    simp only [hv.1, hv.2, decide_true, Bool.and_self, Option.bind_some, if_true]
    rw [size_nat t (by omega)]; simp
  · have : (decide (0 ≤ s) && decide (s < (P : Int))) = false := by simp; omega
    rw [this]; simp

theorem hitB_nat (n p q h t d : Nat) (ht : t < 4096) (hd : d < 4096) : hitB n p q h t d = decide (h ≤ pc (t &&& d)) := by
  have hl := land_lt 12 t d (by omega)
  unfold hitB impl_hits.f
  rw [band t d (by omega) (by omega), size_nat _ (by omega), Option.bind_some]
  simp
theorem filt_any (D M : List Nat) (f : Int → Int → Bool) (g : Nat → Nat → Bool) (h : ∀ t ∈ M, ∀ d ∈ D, f (t : Int) (d : Int) = g t d) : (D.map Int.ofNat).filter (fun d => !((M.map Int.ofNat).any fun t => f t d)) = (D.filter fun d => !(M.any fun t => g t d)).map Int.ofNat := by
  rw [List.filter_map]
  congr 1
  apply List.filter_congr
  intro d hd
  simp only [Function.comp]
  congr 1
  rw [List.any_map]
  rw [Bool.eq_iff_iff, List.any_eq_true, List.any_eq_true]
  constructor
  · rintro ⟨t, ht, hh⟩
    exact ⟨t, ht, by rw [← h t ht d hd]; exact hh⟩
  · rintro ⟨t, ht, hh⟩
    exact ⟨t, ht, by show f (t : Int) (d : Int) = true; rw [h t ht d hd]; exact hh⟩

theorem drawsHit_l (n p q h : Nat) (hp : p ≤ 12) (M : List Nat) (hM : ∀ x ∈ M, x < 4096) (hl : M.length ≤ 4096) : ∀ d i cnt : Nat, i + d = M.length → cnt ≤ i → ∀ k, d < k → impl_drawsHit.l0 k cnt (M.map Int.ofNat) M.length i n p q h = some ((cnt + ((M.drop i).filter (fun x => decide (h ≤ pc ((2 ^ p - 1) &&& x)))).length : Nat) : Int)
  | 0, i, cnt, e, hc, k, hk => by
    obtain ⟨k, rfl⟩ : ∃ q, k = q + 1 := ⟨k - 1, by omega⟩
    simp only [impl_drawsHit.l0]; rw [if_neg (by omega), List.drop_eq_nil_of_le (by omega)]; simp
  | d+1, i, cnt, e, hc, k, hk => by
    obtain ⟨k, rfl⟩ : ∃ q, k = q + 1 := ⟨k - 1, by omega⟩
    have hi : i < M.length := by omega
    have hpp := pow_le hp
    have hp1 : 1 ≤ 2 ^ p := Nat.one_le_two_pow
    simp only [impl_drawsHit.l0]
    rw [if_pos (by omega), if_pos (by omega), if_pos (by simp; omega), if_pos (by omega), rd_map M i hi, shl_one p (by omega), w64 (by omega) (by omega), show ((2 ^ p : Nat) : Int) - 1 = ((2 ^ p - 1 : Nat) : Int) by omega, hits_ev n p q h _ _ (by omega) (hM _ (List.getElem_mem hi))]
    simp only [Option.bind_some]
    rw [w64 (by omega) (by omega), w64 (by omega) (by omega), show ((i : Int) + 1) = ((i + 1 : Nat) : Int) by omega, show ((cnt : Int) + 1) = ((cnt + 1 : Nat) : Int) by omega, List.drop_eq_getElem_cons hi, List.filter_cons]
    by_cases hh : h ≤ pc ((2 ^ p - 1) &&& M[i])
    · rw [if_pos (by simpa using hh), if_pos (by simpa using hh), drawsHit_l n p q h hp M hM hl d (i+1) (cnt+1) (by omega) (by omega) k (by omega)]
      simp only [List.length_cons]; congr 1; omega
    · rw [if_neg (by simpa using hh), if_neg (by simpa using hh), drawsHit_l n p q h hp M hM hl d (i+1) cnt (by omega) (by omega) k (by omega)]
theorem drawsHit_ev (n p q h : Nat) (hn : n ≤ 12) (hp : p ≤ n) (k : Nat) (hk : 5000 ≤ k) : impl_drawsHit.f k n p q h = some (hitF p (n - p) q h : Int) := by
  unfold impl_drawsHit.f impl_allDraws.f
  rw [sets_ev n q hn k (by omega)]
  simp only [Option.bind_some, List.length_map]
  have hl := S_len n q hn
  have := drawsHit_l n p q h (by omega) (S n q) (fun x hx => S_lt hn hx) hl (S n q).length 0 0 (by omega) (by omega) k (by omega)
  have h1 : (2 ^ p - 1) < 2 ^ n := by
    have := Nat.pow_le_pow_right (n := 2) (by omega) hp
    have : 1 ≤ 2 ^ p := Nat.one_le_two_pow
    omega
  have h2 := (hitL_length n (2 ^ p - 1) q h hn h1).1
  rw [pc_ones p (by omega)] at h2
  unfold hitL at h2
  rw [List.drop_zero, h2] at this
  simpa using this

theorem choose_neg (n : Int) (j : Int) (hj : j < 0) (k : Nat) (hk : 1 ≤ k) : spec_l08Choose.f k n j = some 0 := by
  obtain ⟨k, rfl⟩ : ∃ q, k = q + 1 := ⟨k - 1, by omega⟩
  unfold spec_l08Choose.f
  rw [if_pos hj]
  simp [spec_l08Choose.j0]
theorem binom_le (n : Nat) : ∀ k, binom n k ≤ 2 ^ n := by
  induction n with
  | zero => intro k; cases k <;> simp [binom]
  | succ n ih =>
    intro k
    have hp : 2 ^ (n+1) = 2 ^ n + 2 ^ n := by rw [Nat.pow_succ]; omega
    cases k with
    | zero => simp only [binom]; exact Nat.one_le_two_pow
    | succ k => simp only [binom]; have := ih k; have := ih (k+1); omega
theorem binom_pos0 (n : Nat) : ∀ k, k ≤ n → 0 < binom n k := by
  induction n with
  | zero => intro k h; have : k = 0 := by omega
            subst this; decide
  | succ n ih =>
    intro k h
    cases k with
    | zero => simp [binom]
    | succ k => simp only [binom]; have := ih k (by omega); omega
theorem term_le (p q dr h j : Nat) (hp : p ≤ 12) (hq : q ≤ 12) : term p q dr h j ≤ 16777216 := by
  unfold term
  split
  · have h1 := binom_le p j
    have h2 := binom_le q (dr - j)
    have h3 := pow_le hp
    have h4 := pow_le hq
    show binom p j * binom q (dr - j) ≤ 4096 * 4096
    exact Nat.mul_le_mul (by omega) (by omega)
  · omega
theorem sumTo_le (f : Nat → Nat) (B : Nat) (hf : ∀ j, f j ≤ B) : ∀ n, sumTo f n ≤ n * B
  | 0 => by simp [sumTo]
  | n+1 => by
    have := sumTo_le f B hf n
    have := hf n
    simp only [sumTo]; rw [Nat.succ_mul]; omega
theorem sumTo_zero (f : Nat → Nat) : ∀ n, (∀ j, j < n → f j = 0) → sumTo f n = 0
  | 0, _ => rfl
  | n+1, h => by simp only [sumTo]; rw [sumTo_zero f n (fun j hj => h j (by omega)), h n (by omega)]
theorem sumTo_pos0 (f : Nat → Nat) : ∀ n j, j < n → 0 < f j → 0 < sumTo f n
  | 0, j, h, _ => by omega
  | n+1, j, h, hf => by
    simp only [sumTo]
    by_cases e : j = n
    · subst e; omega
    · have := sumTo_pos0 f n j (by omega) hf; omega
theorem hitF_pos0 (n p q h : Nat) (hp : p ≤ n) (hq : q ≤ n) (h1 : h ≤ p) (h2 : h ≤ q) : 0 < hitF p (n - p) q h := by
  unfold hitF
  refine sumTo_pos0 _ _ (min p q) (by omega) ?_
  unfold term
  rw [if_pos (by omega)]
  exact Nat.mul_pos (binom_pos0 _ _ (by omega)) (binom_pos0 _ _ (by omega))

theorem specHit_l (n p q h : Nat) (hn : n ≤ 12) (hp : p ≤ n) (hq : q ≤ n) : ∀ d j : Nat, j + d = p + 1 → h ≤ j → ∀ k, d + 15 ≤ k → spec_l08Hit.l0 k (sumTo (term p (n - p) q h) j : Int) j n p q h = some (hitF p (n - p) q h : Int)
  | 0, j, e, hj, k, hk => by
    obtain ⟨k, rfl⟩ : ∃ q, k = q + 1 := ⟨k - 1, by omega⟩
    simp only [spec_l08Hit.l0]; rw [if_neg (by omega)]
    have : j = p + 1 := by omega
    subst this; rfl
  | d+1, j, e, hj, k, hk => by
    obtain ⟨k, rfl⟩ : ∃ q, k = q + 1 := ⟨k - 1, by omega⟩
    simp only [spec_l08Hit.l0]
    have hs := sumTo_le (term p (n - p) q h) 16777216 (fun j => term_le p (n - p) q h j (by omega) (by omega)) j
    have hs2 : sumTo (term p (n - p) q h) j ≤ 218103808 := by omega
    have ht := term_le p (n - p) q h j (by omega) (by omega)
    rw [if_pos (by omega), choose_nat p j (by omega) (by omega) k (by omega), w64 (i := (n : Int) - p) (by omega) (by omega), w64 (i := (q : Int) - j) (by omega) (by omega), show (n : Int) - p = ((n - p : Nat) : Int) by omega]
    simp only [Option.bind_some]
    have key : (spec_l08Choose.f k ((n - p : Nat) : Int) ((q : Int) - j)).bind (fun t111 => spec_l08Hit.l0 k (wrap64 ((sumTo (term p (n - p) q h) j : Int) + wrap64 ((binom p j : Int) * t111))) (wrap64 ((j : Int) + 1)) n p q h) = spec_l08Hit.l0 k (sumTo (term p (n - p) q h) (j + 1) : Int) ((j + 1 : Nat) : Int) n p q h := by
      by_cases hjq : j ≤ q
      · rw [show (q : Int) - j = ((q - j : Nat) : Int) by omega, choose_nat (n - p) (q - j) (by omega) (by omega) k (by omega)]
        simp only [Option.bind_some]
        have hterm : term p (n - p) q h j = binom p j * binom (n - p) (q - j) := by unfold term; rw [if_pos (by omega)]
        rw [show ((binom p j : Int) * (binom (n - p) (q - j) : Int)) = ((term p (n - p) q h j : Nat) : Int) by rw [hterm]; simp]
        rw [w64 (i := ((term p (n - p) q h j : Nat) : Int)) (by omega) (by omega), w64 (by omega) (by omega), w64 (by omega) (by omega)]
        rw [show ((sumTo (term p (n - p) q h) j : Int) + (term p (n - p) q h j : Int)) = ((sumTo (term p (n - p) q h) (j + 1) : Nat) : Int) by simp [sumTo]]
        rfl
      · rw [choose_neg _ _ (by omega) k (by omega)]
        simp only [Option.bind_some, Int.mul_zero]
        have hterm : term p (n - p) q h j = 0 := by unfold term; rw [if_neg (by omega)]
        rw [w64 (i := 0) (by omega) (by omega), w64 (by omega) (by omega), w64 (by omega) (by omega)]
        rw [show ((sumTo (term p (n - p) q h) j : Int) + 0) = ((sumTo (term p (n - p) q h) (j + 1) : Nat) : Int) by simp [sumTo, hterm]]
        rfl
    rw [key]
    exact specHit_l n p q h hn hp hq d (j+1) (by omega) (by omega) k (by omega)
theorem specHit_ev (n p q h : Nat) (hn : n ≤ 12) (hp : p ≤ n) (hq : q ≤ n) (hh : h ≤ p) (k : Nat) (hk : 40 ≤ k) : spec_l08Hit.f k n p q h = some (hitF p (n - p) q h : Int) := by
  unfold spec_l08Hit.f
  have hz : sumTo (term p (n - p) q h) h = 0 := sumTo_zero _ _ (fun j hj => by unfold term; rw [if_neg (by omega)])
  have := specHit_l n p q h hn hp hq (p + 1 - h) h (by omega) (by omega) k (by omega)
  rw [hz] at this
  exact this

/-- A lottery's four numbers. -/
structure LotN (n p q h : Nat) : Prop where
  ok : impl_IsLottery.f n p q h = some true
  h1 : 1 ≤ n
  h2 : n ≤ 12
  h3 : 1 ≤ p
  h4 : p ≤ n
  h5 : 1 ≤ q
  h6 : q ≤ n
  h7 : 1 ≤ h
  h8 : h ≤ p
  h9 : h ≤ q
theorem lotN (a b c d : Int) : impl_IsLottery.f a b c d = some false ∨ ∃ n p q h : Nat, a = n ∧ b = p ∧ c = q ∧ d = h ∧ LotN n p q h := by
  rcases lot_cases a b c d with h | ⟨h, n, p, q, e, rfl, rfl, rfl, rfl, h1, h2, h3, h4, h5, h6, h7, h8, h9⟩
  · exact .inl h
  · exact .inr ⟨n, p, q, e, rfl, rfl, rfl, rfl, h, h1, h2, h3, h4, h5, h6, h7, h8, h9⟩
/-- What the four counts answer for a lottery. -/
theorem counts_val {n p q e : Nat} (L : LotN n p q e) : ∃ r : Int, 1 ≤ r ∧ ∀ k, 5000 ≤ k → impl_CountTickets.f k n p q e = some ((binom n p : Int), 0) ∧ spec_CountTickets.f k n p q e = some ((binom n p : Int), 0) ∧ impl_CountDraws.f k n p q e = some ((binom n q : Int), 0) ∧ spec_CountDraws.f k n p q e = some ((binom n q : Int), 0) ∧ impl_DrawsHit.f k n p q e = some ((hitF p (n - p) q e : Int), 0) ∧ spec_DrawsHit.f k n p q e = some ((hitF p (n - p) q e : Int), 0) ∧ impl_TicketBound.f k n p q e = some (r, 0) ∧ spec_TicketBound.f k n p q e = some (r, 0) := by
  obtain ⟨h, h1, h2, h3, h4, h5, h6, h7, h8, h9⟩ := L
  have hpos := hitF_pos0 n p q e h4 h6 h8 h9
  have hbp : 0 < binom n q := binom_pos0 n q h6
  have hb4 : binom n q ≤ 2 ^ n := binom_le n q
  have hpw := pow_le h2
  have hl := S_len n q h2
  have hh4 : hitF p (n - p) q e ≤ 4096 := by
    have h1' : (2 ^ p - 1) < 2 ^ n := by
      have := Nat.pow_le_pow_right (n := 2) (by omega) h4
      have : 1 ≤ 2 ^ p := Nat.one_le_two_pow
      omega
    have h2' := (hitL_length n (2 ^ p - 1) q e h2 h1').1
    rw [pc_ones p (by omega)] at h2'
    rw [← h2']
    exact Nat.le_trans (List.length_filter_le _ _) hl
  obtain ⟨r, hr1, hr2⟩ : ∃ r, 1 ≤ r ∧ impl_upward.f (binom n q : Int) (hitF p (n - p) q e : Int) = some r := by
    unfold impl_upward.f
    rw [if_neg (by omega)]
    refine ⟨_, ?_, rfl⟩
    generalize binom n q = B at *
    generalize hitF p (n - p) q e = H at *
    rw [w64 (i := (B : Int) + H) (by omega) (by omega), w64 (i := (B : Int) + H - 1) (by omega) (by omega), Int.tdiv_eq_ediv_of_nonneg (by omega)]
    have hd : 1 ≤ ((B : Int) + H - 1) / H := (Int.le_ediv_iff_mul_le (by omega)).2 (by omega)
    have hd2 : ((B : Int) + H - 1) / H ≤ (B : Int) + H - 1 := Int.ediv_le_self _ (by omega)
    rw [w64 (by omega) (by omega)]
    exact hd
  refine ⟨r, hr1, fun k hk => ?_⟩
  unfold impl_CountTickets.f spec_CountTickets.f impl_CountDraws.f spec_CountDraws.f impl_DrawsHit.f spec_DrawsHit.f impl_TicketBound.f spec_TicketBound.f
  rw [isLot, h]
  simp only [Option.bind_some, if_true]
  unfold impl_allTickets.f impl_allDraws.f spec_l08Bound.f
  rw [specHit_ev n p q e h2 h4 h6 h8 k (by omega), choose_nat n q h2 (by omega) k (by omega), choose_nat n p h2 (by omega) k (by omega), drawsHit_ev n p q e h2 h4 k (by omega), sets_ev n q h2 k (by omega), sets_ev n p h2 k (by omega)]
  have hr3 : (if ((hitF p (n - p) q e : Nat) : Int) = 0 then (none) else (some (wrap64 (Int.tdiv (wrap64 ((wrap64 ((binom n q : Int) + (hitF p (n - p) q e : Int))) - 1)) (hitF p (n - p) q e : Int))))) = some r := by
    rw [← hr2]; unfold impl_upward.f; rfl
  simp only [Option.bind_some, List.length_map, S_length n q h2, S_length n p h2, hr2, hr3, and_self, true_and]

theorem rank_val {n p q e : Nat} (L : LotN n p q e) (u : Nat) (hu : u < 2 ^ n) (hpc : pc u = p) (k : Nat) (hk : 5000 ≤ k) : spec_RankOfTicket.f k n p q e u = some ((rk n u : Int), 0) ∧ impl_RankOfTicket.f k n p q e u = some ((rk n u : Int), 0) := by
  obtain ⟨h, h1, h2, h3, h4, h5, h6, h7, h8, h9⟩ := L
  have hp := pow_le h2
  have ht : isT n p (u : Int) = true := by
    unfold isT
    rw [decide_eq_true (by omega), decide_eq_true (by omega), Int.toNat_natCast, hpc]
    simp
  unfold spec_RankOfTicket.f impl_RankOfTicket.f impl_ticketCode.f
  rw [isLot, h]
  simp only [Option.bind_some, if_true]
  rw [specSet_ev n p q e p u h1 h2 k (by omega), isTicket_ev n p q e u h2, ht]
  have hr := S_rk n u h2 hu
  rw [hpc] at hr
  have hx : slices_Index_int64_int64.f k ((S n p).map Int.ofNat) u = some ((rk n u : Nat) : Int) := by
    have hlt := (List.getElem?_eq_some_iff.1 hr).1
    have hl := S_len n p h2
    unfold slices_Index_int64_int64.f
    rw [List.length_map]
    exact index_l (S n p) hl u (rk n u) hr (fun j hj => S_first n p j (rk n u) u hj hr) (rk n u) 0 (by omega) k (by omega)
  unfold impl_allTickets.f
  simp only [Option.bind_some, if_true]
  rw [sets_ev n p h2 k (by omega), specRank_ev u (by omega) k (by omega), rk_ext u n hu 12 h2]
  simp only [Option.bind_some, hx, and_self]
theorem rank_both (a b c d t : Int) : ∃ r e : Int, (∀ k, 5000 ≤ k → spec_RankOfTicket.f k a b c d t = some (r, e) ∧ impl_RankOfTicket.f k a b c d t = some (r, e)) ∧ (e ≠ 0 → r = 0) ∧ (e = 0 → ∃ n p q h u : Nat, a = n ∧ b = p ∧ c = q ∧ d = h ∧ LotN n p q h ∧ t = u ∧ u < 2 ^ n ∧ pc u = p ∧ r = (rk n u : Int)) := by
  rcases lotN a b c d with h | ⟨n, p, q, e, rfl, rfl, rfl, rfl, L⟩
  · refine ⟨0, 1, fun k hk => ?_, fun _ => rfl, fun h => absurd h (by decide)⟩
    unfold spec_RankOfTicket.f impl_RankOfTicket.f impl_ticketCode.f
    rw [isLot, h]
    exact ⟨rfl, rfl⟩
  · cases ht : isT n p t with
    | false =>
      refine ⟨0, 2, fun k hk => ?_, fun _ => rfl, fun h => absurd h (by decide)⟩
      unfold spec_RankOfTicket.f impl_RankOfTicket.f impl_ticketCode.f
      rw [isLot, L.ok]
      simp only [Option.bind_some, if_true]
      rw [specSet_ev n p q e p t L.h1 L.h2 k (by omega), isTicket_ev n p q e t L.h2, ht]
      simp
    | true =>
      obtain ⟨u, rfl, hu, hpc⟩ := isT_nat ht
      exact ⟨rk n u, 0, fun k hk => rank_val L u hu hpc k hk, fun h => absurd rfl h, fun _ => ⟨n, p, q, e, u, rfl, rfl, rfl, rfl, L, rfl, hu, hpc, rfl⟩⟩
theorem torank_val {n p q e : Nat} (L : LotN n p q e) (r : Nat) (hr : r < binom n p) : ∃ u, (S n p)[r]? = some u ∧ ∀ k, 5000 ≤ k → spec_TicketOfRank.f k n p q e r = some ((u : Int), 0) ∧ impl_TicketOfRank.f k n p q e r = some ((u : Int), 0) := by
  obtain ⟨h, h1, h2, h3, h4, h5, h6, h7, h8, h9⟩ := L
  have hp := pow_le h2
  obtain ⟨u, hu, hrec⟩ := ofRank_l0 p n r 0 h2 hr (by simp) (by omega)
  obtain ⟨hlt, he⟩ := List.getElem?_eq_some_iff.1 hu
  refine ⟨u, hu, fun k hk => ?_⟩
  unfold spec_TicketOfRank.f impl_TicketOfRank.f
  rw [isLot, h]
  simp only [Option.bind_some, if_true]
  rw [if_neg (by omega), if_neg (by omega)]
  unfold impl_allTickets.f
  rw [choose_nat n p h2 (by omega) k (by omega), sets_ev n p h2 k (by omega)]
  simp only [Option.bind_some, List.length_map, S_length n p h2]
  rw [if_neg (by omega), if_neg (by omega)]
  unfold spec_l08OfRank.f
  have hrec2 := hrec k (by omega)
  rw [show ((0 : Nat) : Int) = 0 from rfl] at hrec2
  rw [hrec2, if_pos (by omega), if_pos (by omega), rd_map (S n p) r hlt, he]
  simp
theorem torank_both (a b c d t : Int) : ∃ r e : Int, (∀ k, 5000 ≤ k → spec_TicketOfRank.f k a b c d t = some (r, e) ∧ impl_TicketOfRank.f k a b c d t = some (r, e)) ∧ (e = 0 → ∃ n p q h u i : Nat, a = n ∧ b = p ∧ c = q ∧ d = h ∧ LotN n p q h ∧ t = i ∧ r = u ∧ (S n p)[i]? = some u) := by
  rcases lotN a b c d with h | ⟨n, p, q, e, rfl, rfl, rfl, rfl, L⟩
  · refine ⟨0, 1, fun k hk => ?_, fun h => absurd h (by decide)⟩
    unfold spec_TicketOfRank.f impl_TicketOfRank.f
    rw [isLot, h]
    exact ⟨rfl, rfl⟩
  · by_cases ht : 0 ≤ t ∧ t < (binom n p : Int)
    · obtain ⟨i, rfl⟩ : ∃ i : Nat, t = i := ⟨t.toNat, by omega⟩
      obtain ⟨u, hu, hk⟩ := torank_val L i (by omega)
      exact ⟨u, 0, hk, fun _ => ⟨n, p, q, e, u, i, rfl, rfl, rfl, rfl, L, rfl, rfl, hu⟩⟩
    · obtain ⟨h, h1, h2, h3, h4, h5, h6, h7, h8, h9⟩ := L
      by_cases h0 : t < 0
      · refine ⟨0, 2, fun k hk => ?_, fun h => absurd h (by decide)⟩
        unfold spec_TicketOfRank.f impl_TicketOfRank.f
        rw [isLot, h]
        simp only [Option.bind_some, if_true]
        rw [if_pos h0, if_pos h0]; exact ⟨rfl, rfl⟩
      · refine ⟨0, 4, fun k hk => ?_, fun h => absurd h (by decide)⟩
        unfold spec_TicketOfRank.f impl_TicketOfRank.f
        rw [isLot, h]
        simp only [Option.bind_some, if_true]
        rw [if_neg h0, if_neg h0]
        unfold impl_allTickets.f
        rw [choose_nat n p h2 (by omega) k (by omega), sets_ev n p h2 k (by omega)]
        simp only [Option.bind_some, List.length_map, S_length n p h2]
        rw [if_pos (by omega), if_pos (by omega)]
        exact ⟨rfl, rfl⟩
theorem S_uniq {n p i j u : Nat} (hi : (S n p)[i]? = some u) (hj : (S n p)[j]? = some u) : i = j := S_first n p i j u hi hj
theorem to_val (n p q h : Nat) (hn1 : 1 ≤ n) (hn : n ≤ 12) (l : List Int) (hl : l.length ≤ 1048576) (o : Int) : ∀ (d i x : Nat), i + d = l.length → bitsL n x = l.take i → x < 2 ^ n → (∀ j : Nat, 0 < i → l[i - 1]? = some (j : Int) → x < 2 ^ (j + 1)) → (i = 0 → x = 0) → ∀ k, impl_TicketOf.l0 k l x l l.length i n p q h = some (o, 0) → ∃ t : Nat, o = t ∧ t < 2 ^ n ∧ bitsL n t = l
  | 0, i, x, e, hb, hx, hlast, h0, k, hk => by
    cases k with
    | zero => simp [impl_TicketOf.l0] at hk
    | succ k =>
      simp only [impl_TicketOf.l0] at hk
      rw [if_neg (by omega)] at hk
      split at hk
      · injection hk with hk
        injection hk with hk _
        exact ⟨x, hk.symm, hx, by rw [hb, List.take_of_length_le (by omega)]⟩
      · injection hk with hk
        injection hk with _ hk
        exact absurd hk (by decide)
  | d+1, i, x, e, hb, hx, hlast, h0, k, hk => by
    have hi : i < l.length := by omega
    have hr := rd_nat l i hi
    have hw : wrap64 ((i : Int) + 1) = ((i + 1 : Nat) : Int) := by rw [w64 (by omega) (by omega)]; omega
    cases k with
    | zero => simp [impl_TicketOf.l0] at hk
    | succ k =>
      simp only [impl_TicketOf.l0] at hk
      rw [if_pos (by omega), if_pos (by omega), if_pos (by omega), hr] at hk
      by_cases hneg : l[i] < 0
      · rw [if_pos hneg] at hk
        injection hk with hk
        injection hk with _ hk
        exact absurd hk (by decide)
      rw [if_neg hneg] at hk
      by_cases hge : l[i] ≥ (n : Int)
      · rw [if_pos hge] at hk
        injection hk with hk
        injection hk with _ hk
        exact absurd hk (by decide)
      rw [if_neg hge] at hk
      obtain ⟨y, hy⟩ : ∃ y : Nat, l[i] = y := ⟨l[i].toNat, by omega⟩
      rw [hy] at hk hneg hge
      have hyn : y < n := by omega
      have hpn := pow_le hn
      have hyp : 2 ^ y < 2 ^ n := Nat.pow_lt_pow_right (by omega) hyn
      have rest : x < 2 ^ y → impl_TicketOf.l0 k l (Go.bits .or .i64 (x : Int) (shl .i64 1 (y : Int))) l l.length (wrap64 ((i : Int) + 1)) n p q h = some (o, 0) → ∃ t : Nat, o = t ∧ t < 2 ^ n ∧ bitsL n t = l := by
        intro hxy hk
        have hxo : x ||| 2 ^ y = x + 2 ^ y := by
          have h9 := Nat.two_pow_add_eq_or_of_lt hxy 1
          rw [Nat.mul_one] at h9
          rw [Nat.or_comm, ← h9, Nat.add_comm]
        have hp2 : 2 ^ (y + 1) = 2 ^ y + 2 ^ y := by rw [Nat.pow_succ]; omega
        have hp3 : 2 ^ (y + 1) ≤ 2 ^ n := Nat.pow_le_pow_right (by omega) (by omega)
        rw [shl_one y (by omega), bor x (2 ^ y) (by omega) (by omega), hxo, hw] at hk
        refine to_val n p q h hn1 hn l hl o d (i + 1) (x + 2 ^ y) (by omega) ?_ (by omega) (fun j _ hj => ?_) (fun h => by omega) k hk
        · unfold bitsL at hb ⊢
          rw [bitsN_low x y hxy n hyn, List.map_append, hb, List.take_succ_eq_append_getElem hi, hy]
          rfl
        · rw [Nat.add_sub_cancel, List.getElem?_eq_getElem hi, hy] at hj
          injection hj with hj
          have : y = j := by omega
          subst this
          omega
      by_cases hi0 : 0 < i
      · have hw1 : wrap64 ((i : Int) - 1) = ((i - 1 : Nat) : Int) := by rw [w64 (by omega) (by omega)]; omega
        have hr1 := rd_nat l (i - 1) (by omega)
        rw [if_pos (by omega), hw1, if_pos (by omega), if_pos (by omega), hr1] at hk
        by_cases hle : (y : Int) ≤ l[i - 1]
        · rw [if_pos hle] at hk
          injection hk with hk
          injection hk with _ hk
          exact absurd hk (by decide)
        · rw [if_neg hle, if_pos (by omega)] at hk
          refine rest ?_ hk
          by_cases hz : 0 ≤ l[i - 1]
          · obtain ⟨j, hj⟩ : ∃ j : Nat, l[i - 1] = j := ⟨(l[i - 1]).toNat, by omega⟩
            have h3 := hlast j hi0 (by rw [List.getElem?_eq_getElem (by omega), hj])
            have h4 : 2 ^ (j + 1) ≤ 2 ^ y := Nat.pow_le_pow_right (by omega) (by omega)
            omega
          · exfalso
            have hm : l[i - 1] ∈ l.take i := by
              rw [List.mem_iff_getElem?]
              exact ⟨i - 1, by rw [List.getElem?_take_of_lt (by omega), List.getElem?_eq_getElem]⟩
            rw [← hb] at hm
            unfold bitsL at hm
            obtain ⟨z, _, hz2⟩ := List.mem_map.1 hm
            have : (z : Int) = l[i - 1] := hz2
            omega
      · rw [if_neg (by omega), if_pos (by omega)] at hk
        refine rest ?_ hk
        rw [h0 (by omega)]
        exact Nat.two_pow_pos y
theorem to_both2 (a b c d : Int) (l : List Int) (hl : l.length ≤ 1048576) : ∃ o e : Int, Ev (fun k => spec_TicketOf.f k a b c d l) (o, e) ∧ Ev (fun k => impl_TicketOf.f k a b c d l) (o, e) ∧ (e = 0 → ∃ n p q h t : Nat, a = n ∧ b = p ∧ c = q ∧ d = h ∧ LotN n p q h ∧ o = t ∧ t < 2 ^ n ∧ bitsL n t = l) := by
  rcases lotN a b c d with h | ⟨n, p, q, e, rfl, rfl, rfl, rfl, L⟩
  · refine ⟨0, 1, ⟨0, fun k _ => ?_⟩, ⟨0, fun k _ => ?_⟩, fun h => absurd h (by decide)⟩
    · show spec_TicketOf.f k a b c d l = _
      unfold spec_TicketOf.f
      rw [isLot, h]; rfl
    · show impl_TicketOf.f k a b c d l = _
      unfold impl_TicketOf.f
      rw [h]; rfl
  · obtain ⟨r, g1, g2⟩ := to_both n p q e L.h1 L.h2 l hl l.length 0 0 (by omega)
    refine ⟨r.1, r.2, ⟨l.length + 1, fun k hk => ?_⟩, ⟨l.length + 1, fun k hk => ?_⟩, fun h0 => ?_⟩
    · show spec_TicketOf.f k n p q e l = _
      unfold spec_TicketOf.f
      rw [isLot, L.ok, Option.bind_some, if_pos rfl]
      exact g1 k hk
    · show impl_TicketOf.f k n p q e l = _
      unfold impl_TicketOf.f
      rw [L.ok, Option.bind_some, if_pos rfl]
      exact g2 k hk
    · have g3 := g2 (l.length + 1) (by omega)
      obtain ⟨o, e'⟩ := r
      dsimp only at h0
      subst h0
      obtain ⟨t, h1, h2, h3⟩ := to_val n p q e L.h1 L.h2 l hl o l.length 0 0 (by omega) (by
        unfold bitsL; rw [bitsN_zero]; rfl) (Nat.two_pow_pos n) (fun j h => by omega) (fun _ => rfl) _ g3
      exact ⟨n, p, q, e, t, rfl, rfl, rfl, rfl, L, h1, h2, h3⟩
theorem common_both (a b c d t u : Int) : ∃ r e : Int, (∀ k, 20 ≤ k → spec_CommonNumbers.f k a b c d t u = some (r, e)) ∧ impl_CommonNumbers.f a b c d t u = some (r, e) := by
  obtain ⟨k0, hk0⟩ : ∃ k : Nat, 20 ≤ k := ⟨20, Nat.le_refl _⟩
  rcases lot_cases a b c d with h | ⟨h, n, p, q, e, rfl, rfl, rfl, rfl, h1, h2, h3, h4, h5, h6, h7, h8, h9⟩
  · refine ⟨0, 1, fun k hk => ?_, ?_⟩
    · unfold spec_CommonNumbers.f spec_l08Code.f; rw [isLot, h]; rfl
    · unfold impl_CommonNumbers.f impl_ticketCode.f; rw [h]; rfl
  · cases ht : isT n p t with
    | false =>
      refine ⟨0, 2, fun k hk => ?_, ?_⟩
      · unfold spec_CommonNumbers.f spec_l08Code.f; rw [isLot, h]
        simp only [Option.bind_some, if_true]
        rw [specSet_ev n p q e p t h1 h2 k (by omega), ht]; simp
      · unfold impl_CommonNumbers.f impl_ticketCode.f; rw [h]
        simp only [Option.bind_some, if_true]
        rw [isTicket_ev n p q e t h2, ht]; simp
    | true =>
      cases hu : isT n q u with
      | false =>
        refine ⟨0, 2, fun k hk => ?_, ?_⟩
        · unfold spec_CommonNumbers.f spec_l08Code.f; rw [isLot, h]
          simp only [Option.bind_some, if_true]
          rw [specSet_ev n p q e p t h1 h2 k (by omega), specSet_ev n p q e q u h1 h2 k (by omega), ht, hu]; simp
        · unfold impl_CommonNumbers.f impl_ticketCode.f; rw [h]
          simp only [Option.bind_some, if_true]
          rw [isTicket_ev n p q e t h2, isDraw_ev n p q e u h2, ht, hu]; simp
      | true =>
        have ht' := ht
        have hu' := hu
        obtain ⟨t, rfl, ht1, ht2⟩ := isT_nat ht
        obtain ⟨u, rfl, hu1, hu2⟩ := isT_nat hu
        have hp := pow_le h2
        have hl := land_lt n t u ht1
        refine ⟨(pc (t &&& u) : Int), 0, fun k hk => ?_, ?_⟩
        · unfold spec_CommonNumbers.f spec_l08Code.f; rw [isLot, h]
          simp only [Option.bind_some, if_true]
          rw [specSet_ev n p q e p _ h1 h2 k (by omega), specSet_ev n p q e q _ h1 h2 k (by omega), ht', hu']
          simp only [Option.bind_some, if_true]
          rw [band t u (by omega) (by omega), ssize_nat _ (by omega) k (by omega)]
          simp
        · unfold impl_CommonNumbers.f impl_ticketCode.f; rw [h]
          simp only [Option.bind_some, if_true]
          rw [isTicket_ev n p q e _ h2, isDraw_ev n p q e _ h2, ht', hu']
          simp only [Option.bind_some, if_true]
          rw [band t u (by omega) (by omega), size_nat _ (by omega)]
          simp
theorem filt_two {α : Type} (p : α → Bool) : ∀ l : List α, (l.filter p).length + (l.filter fun x => !p x).length = l.length
  | [] => rfl
  | x :: l => by
    have := filt_two p l
    rw [List.filter_cons, List.filter_cons]
    cases h : p x <;> simp <;> omega
theorem are_one {n p q e : Nat} (h2 : n ≤ 12) (u : Nat) (ht : isT n p (u : Int) = true) (k : Nat) : impl_areTickets.f (k + 2) n p q e [(u : Int)] = some true := by
  have hrd : rd [(u : Int)] ((0 : Nat) : Int) = (u : Int) := rfl
  have h1 : impl_areTickets.l0 (k + 1) [(u : Int)] [(u : Int)] 1 1 n p q e = some true := by
    simp only [impl_areTickets.l0]
    rw [if_neg (by decide)]
    rfl
  unfold impl_areTickets.f
  show impl_areTickets.l0 (k + 1 + 1) [(u : Int)] [(u : Int)] 1 ((0 : Nat) : Int) n p q e = some true
  rw [impl_areTickets.l0, if_pos (by decide), if_pos (by decide), if_pos (by rw [List.length_singleton]; decide), hrd, isTicket_ev n p q e u h2, ht, Option.bind_some, if_pos rfl, if_neg (by decide), w64 (by decide) (by decide)]
  exact h1
theorem count_one {n p q e : Nat} (h2 : n ≤ 12) (u : Nat) (hu : u < 2 ^ n) (hpc : pc u = p) : ((S n q).filter fun d => !(decide (e ≤ pc (u &&& d)))).length + hitF p (n - p) q e = binom n q := by
  have g1 := (hitL_length n u q e h2 hu).1
  rw [hpc] at g1
  unfold hitL at g1
  rw [← g1, ← S_length n q h2]
  have := filt_two (fun d => decide (e ≤ pc (u &&& d))) (S n q)
  omega
theorem missedf_one {n p q e : Nat} (h2 : n ≤ 12) (u : Nat) (hu : u < 4096) : ((S n q).map Int.ofNat).filter (fun d => !(([u].map Int.ofNat).any fun t => hitB n p q e t d)) = ((S n q).filter fun d => !(decide (e ≤ pc (u &&& d)))).map Int.ofNat := by
  rw [filt_any (S n q) [u] (fun t d => hitB n p q e t d) (fun t d => decide (e ≤ pc (t &&& d))) (fun t ht d hd => by
    rw [List.mem_singleton] at ht
    subst ht
    exact hitB_nat n p q e t d hu (S_lt h2 hd))]
  simp only [List.any_cons, List.any_nil, Bool.or_false]
theorem diff_of {x H B : Nat} (h : x + H = B) (hb : B ≤ 4096) : ((x : Nat) : Int) = wrap64 ((B : Int) - (H : Int)) := by
  rw [w64 (by omega) (by omega)]
  omega
theorem missed_one {n p q e : Nat} (L : LotN n p q e) (u : Nat) (hu : u < 2 ^ n) (hpc : pc u = p) (k : Nat) (hk : 5000 ≤ k) : impl_CountMissed.f k n p q e ([u].map Int.ofNat) = some (wrap64 ((binom n q : Int) - (hitF p (n - p) q e : Int)), 0) := by
  obtain ⟨h, h1, h2, h3, h4, h5, h6, h7, h8, h9⟩ := L
  have hp := pow_le h2
  have ht : isT n p (u : Int) = true := by
    unfold isT
    rw [decide_eq_true (by omega), decide_eq_true (by omega), Int.toNat_natCast, hpc]
    simp
  have hl := S_len n q h2
  rw [S_length n q h2] at hl
  have hc := diff_of (count_one (q := q) (e := e) h2 u hu hpc) hl
  have hs := sets_ev n q h2 k (by omega)
  obtain ⟨k, rfl⟩ : ∃ q, k = q + 2 := ⟨k - 2, by omega⟩
  have hare : impl_areTickets.f (k + 2) n p q e ([u].map Int.ofNat) = some true := are_one (q := q) (e := e) h2 u ht k
  generalize k + 2 = k at hare hs ⊢
  unfold impl_CountMissed.f impl_ticketsCode.f
  rw [h, Option.bind_some, if_pos rfl, hare, Option.bind_some, if_pos rfl, Option.bind_some, if_pos rfl]
  unfold impl_missed.f impl_allDraws.f
  rw [hs, Option.bind_some, Option.bind_some, missedf_one h2 u (by omega), Option.bind_some, List.length_map, hc]

theorem FnTickets (l : List Int) (_ : l.length ≤ maxLen) (hw : ∀ x ∈ l, (Lit.int .u8 x).wf = true) : ∃ k, TGood k l := by
  by_cases hbig : l.length ≤ 4096
  rotate_left
  · exact ⟨0, .inl (by unfold laws_big.f; rw [decide_eq_true (by omega)])⟩
  have hs : Src l := ⟨src_of hw hbig, hbig⟩
  obtain ⟨b0, b1, b2, b3, t, K1, g1⟩ := drawRank_ev hs
  obtain ⟨x0, x1, x2, x3, n, K2, g2⟩ := drawTor_ev hs
  obtain ⟨y0, y1, y2, y3, L, hL, K3, g3⟩ := drawTo_ev hs
  obtain ⟨z0, z1, z2, z3, s, K4, g4⟩ := drawNum_ev hs
  obtain ⟨u0, u1, u2, u3, so, dw, K5, g5⟩ := drawCommon_ev hs
  obtain ⟨r, e1, a1, a2, a3⟩ := rank_both b0 b1 b2 b3 t
  obtain ⟨m, e2, c1, c2⟩ := torank_both x0 x1 x2 x3 n
  obtain ⟨o, e3, ⟨K6, d1⟩, ⟨K7, d2⟩, d3⟩ := to_both2 y0 y1 y2 y3 L (by omega)
  obtain ⟨N, e4, hN, f1, f2⟩ := numbers_ev z0 z1 z2 z3 s
  obtain ⟨cm, e9, i1, i2⟩ := common_both u0 u1 u2 u3 so dw
  obtain ⟨N0, hN0⟩ : ∃ N0 : Nat, 5000 ≤ N0 := ⟨5000, Nat.le_refl _⟩
  -- what the four counts of the first lottery answer
  obtain ⟨al, e5, dr, e6, ht, e7, bd, e8, j1, j2⟩ : ∃ al e5 dr e6 ht e7 bd e8 : Int, (∀ k, N0 ≤ k → impl_CountTickets.f k b0 b1 b2 b3 = some (al, e5) ∧ spec_CountTickets.f k b0 b1 b2 b3 = some (al, e5) ∧ impl_CountDraws.f k b0 b1 b2 b3 = some (dr, e6) ∧ spec_CountDraws.f k b0 b1 b2 b3 = some (dr, e6) ∧ impl_DrawsHit.f k b0 b1 b2 b3 = some (ht, e7) ∧ spec_DrawsHit.f k b0 b1 b2 b3 = some (ht, e7) ∧ impl_TicketBound.f k b0 b1 b2 b3 = some (bd, e8) ∧ spec_TicketBound.f k b0 b1 b2 b3 = some (bd, e8)) ∧ (e1 = 0 → ∀ k, N0 ≤ k → impl_TicketOfRank.f k b0 b1 b2 b3 r = some (t, 0) ∧ impl_CountMissed.f k b0 b1 b2 b3 [t] = some (wrap64 (dr - ht), 0) ∧ e5 = 0 ∧ r < al ∧ e6 = 0 ∧ e7 = 0 ∧ e8 = 0 ∧ 1 ≤ bd) := by
    rcases lotN b0 b1 b2 b3 with h | ⟨n', p', q', h', rfl, rfl, rfl, rfl, LL⟩
    · refine ⟨0, 1, 0, 1, 0, 1, 0, 1, fun k hk => ?_, fun h0 => ?_⟩
      · unfold impl_CountTickets.f spec_CountTickets.f impl_CountDraws.f spec_CountDraws.f impl_DrawsHit.f spec_DrawsHit.f impl_TicketBound.f spec_TicketBound.f
        rw [isLot, h]
        exact ⟨rfl, rfl, rfl, rfl, rfl, rfl, rfl, rfl⟩
      · obtain ⟨n', p', q', h', u, rfl, rfl, rfl, rfl, LL, _⟩ := a3 h0
        rw [LL.ok] at h
        injection h with h
        cases h
    · obtain ⟨bd, hb1, hb2⟩ := counts_val LL
      refine ⟨_, 0, _, 0, _, 0, bd, 0, fun k hk => hb2 k (by omega), fun h0 k hk => ?_⟩
      obtain ⟨n2, p2, q2, h2, u, w1, w2, w3, w4, _, rfl, hu, hpc, hr⟩ := a3 h0
      obtain rfl : n' = n2 := by omega
      obtain rfl : p' = p2 := by omega
      have hS := S_rk n' u LL.h2 hu
      rw [hpc] at hS
      have hlt := (List.getElem?_eq_some_iff.1 hS).1
      rw [S_length n' p' LL.h2] at hlt
      obtain ⟨u2, hu2, hk2⟩ := torank_val LL (rk n' u) hlt
      have : u2 = u := by rw [hS] at hu2; exact (Option.some.inj hu2).symm
      subst this
      rw [hr]
      exact ⟨(hk2 k (by omega)).2, missed_one LL u2 hu hpc k (by omega), rfl, by omega, rfl, rfl, rfl, hb1⟩
  obtain ⟨ib, hib⟩ : ∃ ib, impl_IsLottery.f b0 b1 b2 b3 = some ib := by
    rcases lotN b0 b1 b2 b3 with h | ⟨_, _, _, _, rfl, rfl, rfl, rfl, LL⟩
    · exact ⟨_, h⟩
    · exact ⟨_, LL.ok⟩
  have hib2 : spec_IsLottery.f b0 b1 b2 b3 = some ib := by
    unfold spec_IsLottery.f
    rw [isLot, hib]
    rfl
  obtain ⟨k, hk⟩ : ∃ k : Nat, N0 + K1 + K2 + K3 + K4 + K5 + K6 + K7 + N.length + 100 ≤ k := ⟨_, Nat.le_refl _⟩
  refine ⟨k, .inr ⟨L, N, b0, b1, b2, b3, t, r, e1, x0, x1, x2, x3, n, m, e2, y0, y1, y2, y3, o, e3, z0, z1, z2, z3, s, e4, al, e5, dr, e6, ht, e7, bd, e8, u0, u1, u2, u3, so, dw, cm, e9, ib, ?_⟩⟩
  obtain ⟨q1, q2, q3, q4, q5, q6, q7, q8⟩ := j1 k (by omega)
  refine ⟨by unfold laws_big.f; rw [decide_eq_false (by omega)], g1 k (by omega), (a1 k (by omega)).2, (a1 k (by omega)).1, g2 k (by omega), (c1 k (by omega)).2, (c1 k (by omega)).1, g3 k (by omega), d2 k (by omega), d1 k (by omega), g4 k (by omega), f2 k (by omega), f1 k (by omega), like_ev N (by omega) k (by omega), q1, q2, q3, q4, q5, q6, q7, q8, hib, hib2, g5 k (by omega), i2, i1 k (by omega), fun h0 => ?_, fun h0 => ?_, a2, fun h0 => j2 h0 k (by omega)⟩
  · obtain ⟨n', p', q', h', t', rfl, rfl, rfl, rfl, LL, rfl, ht', rfl⟩ := d3 h0
    exact ⟨(numbers_val n' p' q' h' t' LL.ok LL.h1 LL.h2 ht').2 k (by omega), like_ev _ (by omega) k (by omega)⟩
  · obtain ⟨n', p', q', h', u, i, rfl, rfl, rfl, rfl, LL, rfl, rfl, hS⟩ := c2 h0
    have hm := mem_S.1 (List.mem_of_getElem? hS)
    have hrk := S_rk n' u LL.h2 hm.1
    rw [hm.2] at hrk
    have hiu := S_uniq hS hrk
    subst hiu
    exact (rank_val LL u hm.1 hm.2 k (by omega)).2

end Go.Proofs.Ytchlbkcladfloaa.Pure
