-- WALKS, by a program and by hand
import Derived.Test.YthbfaefneoeadaaPFnExactMissingChoicesx0
import Derived.Test.YthbfaefneoeadaaPFnExactMissingChoicesx1
import Derived.Test.YthbfaefneoeadaaPFnExactMissingChoicesx5
import Derived.Test.YthbfaefneoeadaaPFnExactMissingChoicesx6
namespace Go.Proofs.Ythbfaefneoeadaa.PFnExactMissingChoices
open Go.RowKit Go.Proofs.Ythbfaefneoeadaa.DG Go.Proofs.YthbfaefneoeadaaW.PrintWords Go.Proofs.YthbfaefneoeadaaW.PrintLast Go.Proofs.YthbfaefneoeadaaW.PrintMore
attribute [local go_sem] max2_int min2_int max_two min_two max_three min_three max_four min_four   -- for this text's walks alone
set_option linter.unusedVariables false
set_option linter.unusedSimpArgs false

/-! ### laws_heldInt64SS: function 29 -/
def laws_heldInt64SS.l0 : Nat → List (List Int) → Int → Int → Option (Int)
  | 0, _, _, _ => none
  | k + 1, x0, x1, x5 => if x5 < (x0.length : Int) then (if 0 ≤ x5 then ((laws_heldInt64S.f k (rd_L1 x0 x5) x1).bind fun t262 => (if t262 < 0 then (some (-1)) else (laws_heldInt64SS.l0 k x0 t262 (wrap64 (x5 + 1))))) else (none)) else (some x1)
def laws_heldInt64SS.f (k : Nat) (l0 : List (List Int)) (a1 : Int) : Option (Int) := laws_heldInt64SS.l0 k l0 a1 0
theorem laws_heldInt64SS.mono_l : ∀ k, (∀ y0 y1 y2, LeO (laws_heldInt64SS.l0 k y0 y1 y2) (laws_heldInt64SS.l0 (k + 1) y0 y1 y2))
  | 0 => fun _ _ _ r h => by simp [laws_heldInt64SS.l0] at h
  | k + 1 => by
    have ih0 := laws_heldInt64SS.mono_l k
    · intro y0 y1 y2
      unfold laws_heldInt64SS.l0
      repeat' first
      | (with_reducible exact ih0 _ _ _)
      | (with_reducible exact laws_heldInt64S.mono _ _ _)
      | (with_reducible exact LeO.refl _)
      | (with_reducible exact LeO.none _)
      | (with_reducible refine LeO.ite ?_ ?_)
      | (with_reducible refine LeO.bind ?_ (fun _ => ?_))
      | exact ih0 _ _ _
      | exact laws_heldInt64S.mono _ _ _
      | exact LeO.none _
      | refine LeO.ite ?_ ?_
      | refine LeO.bind ?_ (fun _ => ?_)
theorem laws_heldInt64SS.mono : ∀ a0 a1 k, LeO (laws_heldInt64SS.f k a0 a1) (laws_heldInt64SS.f (k + 1) a0 a1) := by
  intro a0 a1 k
  have ih0 := laws_heldInt64SS.mono_l k
  unfold laws_heldInt64SS.f
  repeat' first
      | (with_reducible exact ih0 _ _ _)
      | (with_reducible exact laws_heldInt64S.mono _ _ _)
      | (with_reducible exact LeO.refl _)
      | (with_reducible exact LeO.none _)
      | (with_reducible refine LeO.ite ?_ ?_)
      | (with_reducible refine LeO.bind ?_ (fun _ => ?_))
      | exact ih0 _ _ _
      | exact laws_heldInt64S.mono _ _ _
      | exact LeO.none _
      | refine LeO.ite ?_ ?_
      | refine LeO.bind ?_ (fun _ => ?_)
set_option maxHeartbeats 8000000 in
set_option maxRecDepth 100000 in
theorem laws_heldInt64SS.calls (k : Nat) (A0 : Option Addr) (c0 : Nat) (l0 : List (List Int)) (a1 : Int) (r : Int) (w : World) (hr0 : Kd.C (Kd.slice 2 (Kd.int .i64)) w A0 l0.length l0) (hc0 : l0.length ≤ c0) (h : laws_heldInt64SS.f k l0 a1 = some r) :
    Calls Try.prog 29 #[.slice A0 l0.length c0, .int .i64 a1] w fun e w' => e = .returned (.int .i64 r) ∧ Drawn0 w w' := by
  have HR0 := Aside0.mk hr0
  have HC0 := Aside0.mk hc0
  clear hr0 hc0
  have H : (laws_heldInt64SS.l0 k l0 a1 0) = some r := h
  clear h
  have H' := Aside0.mk H
  clear H
  go_enter Try.func29, Try.ntmps29
  go_wp2
  go_loopg [1, 5] k (fun kq v1 v5 w' => ∃ (x1_1 : Int) (x5_1 : Int), v1 = .int .i64 x1_1 ∧ v5 = .int .i64 x5_1 ∧ Aside0 (laws_heldInt64SS.l0 kq l0 x1_1 x5_1 = some r) ∧ Aside0 (kq ≤ k) ∧ Drawn0 w w')
  case atStart => exact ⟨(a1), (0), (by first | rfl | (simp; done) | (simp [*]; done)), (by first | rfl | (simp; done) | (simp [*]; done)), H', ⟨Nat.le_refl _⟩, by repeat (first | exact Drawn0.refl _ | apply Drawn0.step)⟩
  case round =>
    clear H'
    try clear c2
    try clear p2
    obtain ⟨x1_1, x5_1, rfl, rfl, HA, HK1, ⟨m1, rfl⟩⟩ := hrel
    cases gk with
    | zero => exact absurd HA.out (by simp [laws_heldInt64SS.l0])
    | succ k1 =>
      have H := HA.out
      clear HA
      simp only [laws_heldInt64SS.l0] at H
      by_cases c3 : x5_1 < (l0.length : Int)
      · rw [if_pos c3] at H
        have c3b0 : decide (x5_1 < (l0.length : Int)) = true := decide_eq_true c3
        clear c3
        by_cases c4 : 0 ≤ x5_1
        · rw [if_pos c4] at H
          have c4b0 : decide (0 ≤ x5_1) = true := decide_eq_true c4
          clear c4
          replace H := Option.bind_eq_some_iff.mp H
          obtain ⟨t262, A50, H⟩ := H
          replace H : (if t262 < 0 then (some (-1)) else (laws_heldInt64SS.l0 k1 l0 t262 (wrap64 (x5_1 + 1)))) = some r := H
          have A5 := Aside0.mk A50
          clear A50
          by_cases c6 : t262 < 0
          · rw [if_pos c6] at H
            have c6b0 : decide (t262 < 0) = true := decide_eq_true c6
            clear c6
            obtain rfl := Option.some.inj H
            have p261 : 0 ≤ (x5_1 : Int) := of_decide_eq_true (by first | (with_reducible assumption) | assumption)
            have q261 : x5_1 < (l0.length : Int) := of_decide_eq_true (by first | (with_reducible assumption) | assumption)
            obtain ⟨ad261, A261_0, c261_0, e261, hx261_0, hl261_0, hi261_0⟩ := at_L1 HR0.out x5_1 p261 q261
            cases e261
            have HR261_0 := Aside0.mk hi261_0
            have HC261_0 := Aside0.mk hl261_0
            clear hi261_0 hl261_0
            replace p261 := eq_true p261
            replace q261 := eq_true q261
            go_wp2_with (first | ((with_reducible refine gate_callee (f := 23) rfl ?_); refine goesL_ (some 17) rfl rfl Try.func23 (by kernel_rfl) rfl #[.slice A261_0 (rd_L1 l0 x5_1).length c261_0, .int .i64 x1_1] rfl (by (try simp only [List.map_toArray, List.map_cons, List.map_nil]); first | done | rfl | (simp only [List.length_drop, List.length_take]; rfl)) ?_; (with_reducible refine (laws_heldInt64S.calls k1 _ _ (rd_L1 l0 x5_1) x1_1 t262 _ ?side1 ?side2 A5.out).mono ?_); (case side1 => repeat (first | exact HR261_0.out | (with_reducible refine Kd.C_alloc ?_ _) | (with_reducible refine Kd.C_drewN ?_ _) | (with_reducible refine Kd.C_drew ?_))); (case side2 => exact HC261_0.out); rintro e w' ⟨rfl, ⟨nd, rfl⟩⟩; refine ⟨_, rfl, ?_⟩))
            go_ret
            exact ⟨by first | rfl | (simp; done) | (simp [*]; done), by repeat (first | exact Drawn0.refl _ | apply Drawn0.step)⟩
          · rw [if_neg c6] at H
            have c6b0 : decide (t262 < 0) = false := decide_eq_false c6
            clear c6
            have H' := Aside0.mk H
            clear H
            have p261 : 0 ≤ (x5_1 : Int) := of_decide_eq_true (by first | (with_reducible assumption) | assumption)
            have q261 : x5_1 < (l0.length : Int) := of_decide_eq_true (by first | (with_reducible assumption) | assumption)
            obtain ⟨ad261, A261_0, c261_0, e261, hx261_0, hl261_0, hi261_0⟩ := at_L1 HR0.out x5_1 p261 q261
            cases e261
            have HR261_0 := Aside0.mk hi261_0
            have HC261_0 := Aside0.mk hl261_0
            clear hi261_0 hl261_0
            replace p261 := eq_true p261
            replace q261 := eq_true q261
            go_wp2_with (first | ((with_reducible refine gate_callee (f := 23) rfl ?_); refine goesL_ (some 17) rfl rfl Try.func23 (by kernel_rfl) rfl #[.slice A261_0 (rd_L1 l0 x5_1).length c261_0, .int .i64 x1_1] rfl (by (try simp only [List.map_toArray, List.map_cons, List.map_nil]); first | done | rfl | (simp only [List.length_drop, List.length_take]; rfl)) ?_; (with_reducible refine (laws_heldInt64S.calls k1 _ _ (rd_L1 l0 x5_1) x1_1 t262 _ ?side1 ?side2 A5.out).mono ?_); (case side1 => repeat (first | exact HR261_0.out | (with_reducible refine Kd.C_alloc ?_ _) | (with_reducible refine Kd.C_drewN ?_ _) | (with_reducible refine Kd.C_drew ?_))); (case side2 => exact HC261_0.out); rintro e w' ⟨rfl, ⟨nd, rfl⟩⟩; refine ⟨_, rfl, ?_⟩))
            go_roundg k1
            case measure => have := HK1.out; omega
            case rel => exact ⟨(t262), (wrap64 (x5_1 + 1)), (by first | rfl | (simp; done) | (simp [*]; done)), (by first | rfl | (simp; done) | (simp [*]; done)), H', ⟨by have := HK1.out; omega⟩, by repeat (first | exact Drawn0.refl _ | apply Drawn0.step)⟩
        · rw [if_neg c4] at H
          exact absurd H (by simp)
      · rw [if_neg c3] at H
        have c3b0 : decide (x5_1 < (l0.length : Int)) = false := decide_eq_false c3
        clear c3
        obtain rfl := Option.some.inj H
        go_wp2
        go_ret
        exact ⟨by first | rfl | (simp; done) | (simp [*]; done), by repeat (first | exact Drawn0.refl _ | apply Drawn0.step)⟩

/-! ### laws_FnExactMissingChoices: function 6 -/
/-- Marking a row of rows: each row in turn. -/
def mssF (k : Nat) : List (List Int) → Int → Option (Int × List (List Int))
  | [], a => some (a, [])
  | l :: xs, a => (laws_markInt64S.f k l a).bind fun p => (mssF k xs p.1).bind fun q => some (q.1, p.2 :: q.2)
theorem mss_cons {k : Nat} {l : List Int} {xs : List (List Int)} {a b : Int} {ys : List (List Int)} (h : mssF k (l :: xs) a = some (b, ys)) : ∃ (a' : Int) (l' : List Int) (ys' : List (List Int)), laws_markInt64S.f k l a = some (a', l') ∧ mssF k xs a' = some (b, ys') ∧ ys = l' :: ys' := by
  simp only [mssF] at h
  rw [Option.bind_eq_some_iff] at h
  obtain ⟨p, hp, h⟩ := h
  rw [Option.bind_eq_some_iff] at h
  obtain ⟨q, hq, h⟩ := h
  injection h with h
  injection h with h1 h2
  subst h1 h2
  exact ⟨p.1, p.2, q.2, hp, hq, rfl⟩
theorem mss_len {k : Nat} : ∀ {xs : List (List Int)} {a b : Int} {ys : List (List Int)}, mssF k xs a = some (b, ys) → ys.length = xs.length
  | [], a, b, ys, h => by
    simp only [mssF] at h
    injection h with h
    injection h with h1 h2
    rw [← h2]
  | l :: xs, a, b, ys, h => by
    obtain ⟨a', l', ys', h1, h2, rfl⟩ := mss_cons h
    simp [mss_len h2]
set_option maxHeartbeats 4000000 in
set_option maxRecDepth 100000 in
theorem mss_walk (k : Nat) (ok : Nat → Prop) (v : Value) (xs : List (List Int)) (a b : Int) (ys : List (List Int)) (w0 w : World) (hB : Below w0.heap.size w0 w) (hS : Kd.S (Kd.slice 2 (Kd.int .i64)) 22 w w0.heap.size ok v xs) (hl : xs.length ≤ 1000000) (h : mssF k xs a = some (b, ys)) :
    Calls Try.prog 28 #[v, .int .i64 a] w fun e w' => e = .returned (.int .i64 b) ∧ Kd.S (Kd.slice 2 (Kd.int .i64)) 22 w' w0.heap.size ok v ys ∧ Below w0.heap.size w0 w' ∧ Kept w w' ok := by
  obtain ⟨A, c, rfl⟩ := Kd.S_slice hS
  obtain ⟨n, hn⟩ : ∃ n, n = xs.length := ⟨_, rfl⟩
  rw [← hn] at hS hl ⊢
  have HS0 := Aside0.mk (show Kd.S (Kd.slice 2 (Kd.int .i64)) 22 w w0.heap.size ok (.slice A n c) ([] ++ xs) from hS)
  have HF0 := Aside0.mk h
  have HB0 := Aside0.mk hB
  have HL0 := Aside0.mk (show ([] : List (List Int)).length + xs.length = n by rw [hn]; simp)
  have HY0 := Aside0.mk (show ([] : List (List Int)) ++ ys = ys from rfl)
  have HK0 := Aside0.mk (Kept.refl w ok)
  obtain ⟨zs, hzs⟩ : ∃ zs, zs = ys := ⟨_, rfl⟩
  rw [← hzs] at HF0
  have HY0 := Aside0.mk (show ([] : List (List Int)) ++ zs = ys by rw [hzs]; rfl)
  clear hS h hB hzs hn
  go_enter Try.func28, Try.ntmps28
  go_wp2
  go_loopg [1, 5] n (fun gg s1 s5 wr => ∃ (i : Nat) (a' : Int) (dn rs zs : List (List Int)), s1 = .int .i64 a' ∧ s5 = .int .i64 i ∧ dn.length = i ∧ i ≤ n ∧ n - i ≤ gg ∧ Aside0 (dn.length + rs.length = n) ∧ Aside0 (mssF k rs a' = some (b, zs)) ∧ Aside0 (dn ++ zs = ys) ∧ Aside0 (Kd.S (Kd.slice 2 (Kd.int .i64)) 22 wr w0.heap.size ok (.slice A n c) (dn ++ rs)) ∧ Aside0 (Below w0.heap.size w0 wr) ∧ Aside0 (Kept w wr ok))
  case atStart => exact ⟨0, a, [], xs, zs, rfl, rfl, rfl, by omega, by omega, HL0, HF0, HY0, HS0, HB0, HK0⟩
  case round =>
    obtain ⟨i, a', dn, rs, zs', rfl, rfl, hdn, hi, hgg, HL, HF, HY, HS, HB, HK⟩ := hrel
    by_cases hlt : i < n
    · have hlt1 : (i : Int) < (n : Int) := by omega
      have hi0 : (0 : Int) ≤ (i : Int) := by omega
      cases rs with
      | nil => exact absurd HL.out (by simp; omega)
      | cons l rs =>
        obtain ⟨a2, l2, zs2, h1, h2, h3⟩ := mss_cons HF.out
        subst h3
        have HF1 := Aside0.mk h1
        have HF2 := Aside0.mk h2
        obtain ⟨g, cc, hv, hg1, hg2, _⟩ := Kd.S_form HS.out (by simp; omega)
        injection hv with hA hN hC
        subst hA hC
        have hll : n = (dn ++ l :: rs).length := hN
        obtain ⟨oki, cs, hcs, hM, hcl, hok, hH⟩ := Kd.S_lend HS.out ([] : List Int) (i : Int) hi0 hlt1
        obtain ⟨vl, hvl, hRl⟩ := hM
        subst hvl
        have hcx : wr.cell? ⟨g, i, none⟩ = some vl := by
          have h1 := hcl 0 vl rfl
          rw [Int.toNat_natCast] at h1
          have h2 : wr.cell? ⟨g, i * 1 + 0, none⟩ = some vl := h1
          rw [Nat.mul_one, Nat.add_zero] at h2
          exact h2
        rw [Int.toNat_natCast, show (dn ++ l :: rs).getD i [] = l by rw [← hdn]; simp] at hRl
        have HRl := Aside0.mk hRl
        have HH := Aside0.mk hH
        have HOK := Aside0.mk hok
        have HCALL := Aside0.mk (laws_markInt64S.calls k oki vl l a' a2 l2 w0 wr HB.out hRl HF1.out)
        clear hN hll hcl hRl hH hok hcs h1 h2 hg1 hg2
        go_wp2_with fail
        refine HCALL.out.mono ?_
        rintro e w2 ⟨rfl, hR2, hB2, hK2⟩
        have HH2 := Kd.H_step HH.out (fun j h1 h2 h3 => hK2.2 j h3 h2)
        have HS2 := Kd.H_back HH2 (x' := l2) (okp := oki) ⟨vl, rfl, Kd.R_mono (R_own hR2) (fun j hj => HRl.out.1 j hj)⟩ (fun _ hj => hj)
        rw [Int.toNat_natCast, show (dn ++ l :: rs).set i l2 = (dn ++ [l2]) ++ rs by rw [← hdn, List.set_append_right _ _ (Nat.le_refl _)]; simp] at HS2
        have HS3 := Aside0.mk HS2
        have HB3 := Aside0.mk hB2
        have HK3 := Aside0.mk (Kept.then_ HK.out hK2 (fun j hj => .inl (HOK.out j hj).1))
        have HY3 := Aside0.mk (show (dn ++ [l2]) ++ zs2 = ys by rw [List.append_assoc]; exact HY.out)
        have HL3 := Aside0.mk (show (dn ++ [l2]).length + rs.length = n by have := HL.out; simp at this ⊢; omega)
        clear hR2 hB2 hK2 HH2 HS2 hcx
        go_wp2
        go_roundg (n - (i + 1))
        case measure => omega
        case rel => exact ⟨i + 1, a2, dn ++ [l2], rs, zs2, rfl, by go_num, by simp [hdn], by omega, by omega, HL3, HF2, HY3, HS3, HB3, HK3⟩
    · obtain rfl : i = n := by omega
      have hlt1 : ¬ (i : Int) < (i : Int) := by omega
      have HE := Aside0.mk (show a' = b ∧ dn ++ rs = ys by
        have h0 : rs = [] := List.length_eq_zero_iff.1 (by have := HL.out; omega)
        subst h0
        have h1 := HF.out
        simp only [mssF] at h1
        injection h1 with h1
        injection h1 with h1 h2
        exact ⟨h1, by rw [h2]; exact HY.out⟩)
      go_wp2
      go_ret
      exact ⟨by first | rfl | (rw [HE.out.1]; rfl), by rw [← HE.out.2]; exact HS.out, HB.out, HK.out⟩
/-- What lies where while the law runs: the reference's rows, the space's copy and its box, the rows' copy, the program's rows. -/
structure MQ (w wi : World) (A0 : Option Addr) (c0 : Nat) (l0 : List Int) (n1 n2 n3 : Nat) (vW vX vR vG : Value) (W : List (List Int)) (s r : List Int) (G : List (List Int)) : Prop where
  box : wi.heap[w.heap.size]? = some (.cells #[.slice A0 l0.length c0] 24 (0, 0))
  bxs : wi.heap[n2]? = some (.cells #[vX] 30 (0, 0))
  hb : Below w.heap.size w wi
  hW : Kd.V (Kd.slice 2 (Kd.int .i64)) 22 wi 0 (fun k => k < n1) vW W
  hX : Kd.R (Kd.int .i64) 2 wi w.heap.size (fun k => n1 ≤ k ∧ k < n2) vX s
  hR : Kd.R (Kd.int .i64) 2 wi w.heap.size (fun k => n2 < k ∧ k < n3) vR r
  hG : Kd.S (Kd.slice 2 (Kd.int .i64)) 22 wi w.heap.size (fun k => n3 ≤ k) vG G
  h0 : w.heap.size < n1
  h1 : n1 ≤ n2
  h2 : n2 < n3
  h3 : n3 ≤ wi.heap.size
theorem MQ.below {w wi wj : World} {A0 : Option Addr} {c0 : Nat} {l0 : List Int} {n1 n2 n3 : Nat} {vW vX vR vG : Value} {W : List (List Int)} {s r : List Int} {G : List (List Int)} (h : MQ w wi A0 c0 l0 n1 n2 n3 vW vX vR vG W s r G) (hb : Below wi.heap.size wi wj) : MQ w wj A0 c0 l0 n1 n2 n3 vW vX vR vG W s r G :=
  ⟨blk_below h.box hb, blk_below h.bxs hb, below_step h.hb hb, Kd.V_below h.hW hb, Kd.R_below h.hX hb, Kd.R_below h.hR hb, Kd.S_below h.hG hb, h.h0, h.h1, h.h2, Nat.le_trans h.h3 hb.size⟩
theorem MQ.markX {w wi wj : World} {A0 : Option Addr} {c0 : Nat} {l0 : List Int} {n1 n2 n3 : Nat} {vW vX vR vG : Value} {W : List (List Int)} {s s' r : List Int} {G : List (List Int)} {P : Nat → Prop} (h : MQ w wi A0 c0 l0 n1 n2 n3 vW vX vR vG W s r G) (hk : Kept wi wj (fun k => n1 ≤ k ∧ k < n2)) (hb : Below w.heap.size w wj) (hX : Kd.R (Kd.int .i64) 2 wj w.heap.size P vX s') : MQ w wj A0 c0 l0 n1 n2 n3 vW vX vR vG W s' r G :=
  have a0 := h.h0
  have a1 := h.h1
  have a2 := h.h2
  ⟨(hk.2 _ (blk_lt h.box) (by omega)).trans h.box, (hk.2 _ (blk_lt h.bxs) (by omega)).trans h.bxs, hb, Kd.V_kept h.hW hk (fun k hk => by omega), Kd.R_mono (R_own hX) (fun k hk => h.hX.1 k hk), Kd.R_step h.hR (fun k hk' hlt => hk.2 k hlt (by omega)), Kd.S_step h.hG (fun k hk' hlt => hk.2 k hlt (by omega)), h.h0, h.h1, h.h2, Nat.le_trans h.h3 hk.1⟩
theorem MQ.markR {w wi wj : World} {A0 : Option Addr} {c0 : Nat} {l0 : List Int} {n1 n2 n3 : Nat} {vW vX vR vG : Value} {W : List (List Int)} {s r r' : List Int} {G : List (List Int)} {P : Nat → Prop} (h : MQ w wi A0 c0 l0 n1 n2 n3 vW vX vR vG W s r G) (hk : Kept wi wj (fun k => n2 < k ∧ k < n3)) (hb : Below w.heap.size w wj) (hR : Kd.R (Kd.int .i64) 2 wj w.heap.size P vR r') : MQ w wj A0 c0 l0 n1 n2 n3 vW vX vR vG W s r' G :=
  have a0 := h.h0
  have a1 := h.h1
  have a2 := h.h2
  ⟨(hk.2 _ (blk_lt h.box) (by omega)).trans h.box, (hk.2 _ (blk_lt h.bxs) (by omega)).trans h.bxs, hb, Kd.V_kept h.hW hk (fun k hk => by omega), Kd.R_step h.hX (fun k hk' hlt => hk.2 k hlt (by omega)), Kd.R_mono (R_own hR) (fun k hk => h.hR.1 k hk), Kd.S_step h.hG (fun k hk' hlt => hk.2 k hlt (by omega)), h.h0, h.h1, h.h2, Nat.le_trans h.h3 hk.1⟩
theorem MQ.markG {w wi wj : World} {A0 : Option Addr} {c0 : Nat} {l0 : List Int} {n1 n2 n3 : Nat} {vW vX vR vG : Value} {W : List (List Int)} {s r : List Int} {G G' : List (List Int)} (h : MQ w wi A0 c0 l0 n1 n2 n3 vW vX vR vG W s r G) (hk : Kept wi wj (fun k => n3 ≤ k)) (hb : Below w.heap.size w wj) (hG : Kd.S (Kd.slice 2 (Kd.int .i64)) 22 wj w.heap.size (fun k => n3 ≤ k) vG G') : MQ w wj A0 c0 l0 n1 n2 n3 vW vX vR vG W s r G' :=
  have a0 := h.h0
  have a1 := h.h1
  have a2 := h.h2
  ⟨(hk.2 _ (blk_lt h.box) (by omega)).trans h.box, (hk.2 _ (blk_lt h.bxs) (by omega)).trans h.bxs, hb, Kd.V_kept h.hW hk (fun k hk => by omega), Kd.R_step h.hX (fun k hk' hlt => hk.2 k hlt (by omega)), Kd.R_step h.hR (fun k hk' hlt => hk.2 k hlt (by omega)), hG, h.h0, h.h1, h.h2, Nat.le_trans h.h3 hk.1⟩
theorem MQ.drew {w wi : World} {A0 : Option Addr} {c0 : Nat} {l0 : List Int} {n1 n2 n3 : Nat} {vW vX vR vG : Value} {W : List (List Int)} {s r : List Int} {G : List (List Int)} (h : MQ w wi A0 c0 l0 n1 n2 n3 vW vX vR vG W s r G) : MQ w wi.drew A0 c0 l0 n1 n2 n3 vW vX vR vG W s r G := h.below (below_drew (Below.refl _ _))
set_option maxHeartbeats 4000000 in
set_option maxRecDepth 100000 in
theorem lm_good (k : Nat) (A0 : Option Addr) (c0 : Nat) (l0 : List Int) (A1 : Option Addr) (c1 : Nat) (l1 : List Int) (a : Int) (w : World) (hr0 : Kd.C (Kd.int .i64) w A0 l0.length l0) (hc0 : l0.length ≤ c0) (hr1 : Kd.C (Kd.int .i64) w A1 l1.length l1) (hc1 : l1.length ≤ c1)
    (h1 : ¬ (l1.length : Int) > 1048576) (z : Int) (hz : laws_szSpace.f l0 1048576 = some z) (hz0 : ¬ z < 0) (s r : List Int) (hs : laws_toSpace.f k l0 = some s) (hr : laws_toInt64S.f k l1 = some r) (G : List (List Int)) (e : Int) (hw : spec_MissingChoices.f k s r a = some (G, e)) (hg : impl_MissingChoices.f k s r a = some (G, e)) (he1 : laws_eqInt64SS.f k G G = some true) (he2 : laws_eqSpace.f k s s = some true) (he3 : laws_eqInt64S.f k r r = some true) (s' r' : List Int) (m1 m2 m : Int) (hm1 : laws_markSpace.f k s 1 = some (m1, s')) (hm2 : laws_markInt64S.f k r m1 = some (m2, r')) (hmn : ¬ m2 < 0) (G' : List (List Int)) (hm3 : mssF k G 1 = some (m, G')) (hq : laws_heldInt64SS.f k G' 1 = some m) (hqn : ¬ m < 0) (hGl : G.length ≤ 1000000) :
    Calls Try.prog 6 #[.agg #[.slice A0 l0.length c0], .slice A1 l1.length c1, .int .i64 a] w fun e w' => e = .returned (.bool true) ∧ Below w.heap.size w w' := by
  have HR0 := Aside0.mk hr0
  have HC0 := Aside0.mk hc0
  have HR1 := Aside0.mk hr1
  have HC1 := Aside0.mk hc1
  have HZ := Aside0.mk hz
  have HS := Aside0.mk hs
  have HR := Aside0.mk hr
  have HW := Aside0.mk hw
  have HG := Aside0.mk hg
  have HE1 := Aside0.mk he1
  have HE2 := Aside0.mk he2
  have HE3 := Aside0.mk he3
  have HM1 := Aside0.mk hm1
  have HM2 := Aside0.mk hm2
  have HM3 := Aside0.mk hm3
  have HQ := Aside0.mk hq
  have HGL := Aside0.mk hGl
  have h1d : decide ((l1.length : Int) > 1048576) = false := decide_eq_false h1
  have hzd : decide (z < 0) = false := decide_eq_false hz0
  have hmd : decide (m2 < 0) = false := decide_eq_false hmn
  have hqd : decide (m < 0) = false := decide_eq_false hqn
  clear hr0 hc0 hr1 hc1 hz hs hr hw hg he1 he2 he3 hm1 hm2 hm3 hq hGl
  go_enter Try.func6, Try.ntmps6
  go_wp2_with fail
  have hb1 : Below w.heap.size w (w.alloc (.cells #[.slice A0 l0.length c0] 24)) := below_alloc (Below.refl _ _) _
  have hk1 := blk_new w (.cells #[.slice A0 l0.length c0] 24)
  generalize w.alloc (.cells #[.slice A0 l0.length c0] 24) = W1 at hb1 hk1 ⊢
  refine (laws_szSpace.calls A0 c0 l0 1048576 z W1 (Kd.C_below HR0.out hb1) HC0.out HZ.out).mono ?_
  rintro e1 w2 ⟨rfl, hb2⟩
  have HB2 := Aside0.mk (below_step hb1 hb2)
  have HK2 := Aside0.mk (blk_below hk1 hb2)
  have hbx2 : w2.cell? ⟨w.heap.size, 0, none⟩ = some (.slice A0 l0.length c0) := (blk_cell HK2.out 0).trans rfl
  clear hb1 hk1 hb2
  go_wp2_with fail
  refine (laws_toSpace.calls k A0 c0 l0 s w2 (Kd.C_below HR0.out HB2.out) HC0.out HS.out).mono ?_
  rintro e2 w3 ⟨v3, rfl, hR3, hb3⟩
  obtain ⟨A3, c3, hv3, hl3, hC3⟩ := Kd.R_reads hR3
  subst hv3
  have HB3 := Aside0.mk (below_step HB2.out hb3)
  have HK3 := Aside0.mk (blk_below HK2.out hb3)
  have HC3 := Aside0.mk hC3
  have HL3 := Aside0.mk hl3
  clear hR3 hb3 hbx2 hC3 hl3
  go_wp2_with fail
  refine (laws_toInt64S.calls k A1 c1 l1 r w3 (Kd.C_below HR1.out HB3.out) HC1.out HR.out).mono ?_
  rintro e3 w4 ⟨v4, rfl, hR4, hb4⟩
  obtain ⟨A4, c4, hv4, hl4, hC4⟩ := Kd.R_reads hR4
  subst hv4
  have HB4 := Aside0.mk (below_step HB3.out hb4)
  have HK4 := Aside0.mk (blk_below HK3.out hb4)
  have HC34 := Aside0.mk (Kd.C_below HC3.out hb4)
  have HCA := Aside0.mk (spec_MissingChoices.calls k A3 c3 s A4 c4 r a G e w4 HC34.out HL3.out hC4 hl4 HW.out)
  clear hR4 hb4 hC4 hl4
  go_wp2_with fail
  refine HCA.out.mono ?_
  rintro e4 w5 ⟨v5, rfl, hV5, hb5⟩
  have HB5 := Aside0.mk (below_step HB4.out hb5)
  have HK5 := Aside0.mk (blk_below HK4.out hb5)
  have HV5 := Aside0.mk (show Kd.V (Kd.slice 2 (Kd.int .i64)) 22 w5 0 (fun k => k < w5.heap.size) v5 G from Kd.V_mono (Kd.V_bound (Kd.V_lower hV5 (Nat.zero_le _))) (fun k hk => hk.2))
  have hbx5 : w5.cell? ⟨w.heap.size, 0, none⟩ = some (.slice A0 l0.length c0) := (blk_cell HK5.out 0).trans rfl
  have HN5 := Aside0.mk (blk_lt HK5.out)
  clear hV5 hb5 HCA
  go_wp2_with fail
  refine (laws_toSpace.calls k A0 c0 l0 s w5 (Kd.C_below HR0.out HB5.out) HC0.out HS.out).mono ?_
  rintro e6 w6 ⟨v6, rfl, hR6, hb6⟩
  obtain ⟨A6, c6, hv6⟩ := Kd.R_slice hR6
  subst hv6
  have HB6 := Aside0.mk (below_step HB5.out hb6)
  have HK6 := Aside0.mk (blk_below HK5.out hb6)
  have HV6 := Aside0.mk (Kd.V_below HV5.out hb6)
  have HR6 := Aside0.mk hR6
  have HS6 := Aside0.mk hb6.size
  clear hR6 hb6 hbx5
  go_wp2_with fail
  have hz6 := World.size_alloc w6 (.cells #[.slice A6 s.length c6] 30)
  have HB7 := Aside0.mk (below_alloc HB6.out (.cells #[.slice A6 s.length c6] 30))
  have HK7 := Aside0.mk (blk_alloc HK6.out (.cells #[.slice A6 s.length c6] 30))
  have HX7 := Aside0.mk (blk_new w6 (.cells #[.slice A6 s.length c6] 30))
  have HV7 := Aside0.mk (Kd.V_alloc HV6.out (.cells #[.slice A6 s.length c6] 30))
  have HR7 := Aside0.mk (show Kd.R (Kd.int .i64) 2 (w6.alloc (.cells #[.slice A6 s.length c6] 30)) w5.heap.size (fun k => w5.heap.size ≤ k ∧ k < w6.heap.size) (.slice A6 s.length c6) s from Kd.R_alloc (Kd.R_mono (Kd.R_bound HR6.out) (fun k hk => ⟨hk.2.1, hk.2.2.1⟩)) _)
  generalize w6.alloc (.cells #[.slice A6 s.length c6] 30) = W7 at hz6 HB7 HK7 HX7 HV7 HR7 ⊢
  refine (laws_toInt64S.calls k A1 c1 l1 r W7 (Kd.C_below HR1.out HB7.out) HC1.out HR.out).mono ?_
  rintro e8 w8 ⟨v8, rfl, hR8, hb8⟩
  obtain ⟨A8, c8, hv8, hl8, hC8⟩ := Kd.R_reads hR8
  subst hv8
  have HB8 := Aside0.mk (below_step HB7.out hb8)
  have HK8 := Aside0.mk (blk_below HK7.out hb8)
  have HX8 := Aside0.mk (blk_below HX7.out hb8)
  have HV8 := Aside0.mk (Kd.V_below HV7.out hb8)
  have HR8 := Aside0.mk (Kd.R_below HR7.out hb8)
  have hs8 := hb8.size
  have HT8 := Aside0.mk (show Kd.R (Kd.int .i64) 2 w8 W7.heap.size (fun k => w6.heap.size < k ∧ k < w8.heap.size) (.slice A8 r.length c8) r from Kd.R_mono (Kd.R_bound hR8) (fun k hk => by have h1 := hk.2.1; have h2 := hk.2.2.1; omega))
  have hbx8 : w8.cell? ⟨w6.heap.size, 0, none⟩ = some (.slice A6 s.length c6) := (blk_cell HX8.out 0).trans rfl
  obtain ⟨hl6, hC6⟩ := (Kd.R_reads' HR8.out).2
  have HCA := Aside0.mk (impl_MissingChoices.calls k A6 c6 s A8 c8 r a G e w8 hC6 hl6 hC8 hl8 HG.out)
  have HN68 := Aside0.mk (show w5.heap.size ≤ w6.heap.size ∧ w6.heap.size < w8.heap.size ∧ W7.heap.size = w6.heap.size + 1 from ⟨HS6.out, by omega, hz6⟩)
  clear hR8 hb8 hC8 hl8 hC6 hl6 hs8 hz6
  go_wp2_with fail
  refine HCA.out.mono ?_
  rintro e9 w9 ⟨v9, rfl, hS9, hb9⟩
  have hs9 := hb9.size
  have HM := Aside0.mk (show MQ w w9 A0 c0 l0 w5.heap.size w6.heap.size w8.heap.size v5 (.slice A6 s.length c6) (.slice A8 r.length c8) v9 G s r G from ⟨blk_below HK8.out hb9, blk_below HX8.out hb9, below_step HB8.out hb9, Kd.V_below HV8.out hb9, Kd.R_lower (Kd.R_below HR8.out hb9) HB5.out.size, Kd.R_lower (Kd.R_below HT8.out hb9) (by have h1 := HB6.out.size; have h2 := HN68.out; omega), Kd.S_lower (Kd.S_mono (Kd.S_bound hS9) (fun k hk => hk.2.1)) HB8.out.size, HN5.out, HN68.out.1, HN68.out.2.1, hs9⟩)
  generalize w5.heap.size = n1 at HM
  generalize w6.heap.size = n2 at HM
  generalize w8.heap.size = n3 at HM
  clear hS9 hb9 hs9 hbx8 HCA HT8 HR8 HV8 HX8 HK8 HB8 HN68 HN5 HB5 HK5 HV5 HB6 HK6 HV6 HR6 HS6 HB7 HK7 HX7 HV7 HR7
  obtain ⟨A9, c9, hv9, hl9, hC9⟩ := Kd.S_reads HM.out.hG
  subst hv9
  obtain ⟨A5, c5, hv5⟩ := Kd.V_slice HM.out.hW
  subst hv5
  obtain ⟨_, hl5, hC5⟩ := Kd.V_reads' HM.out.hW
  have HCA := Aside0.mk (laws_eqInt64SS.calls k A9 c9 G A5 c5 G true w9 hC9 hl9 hC5 hl5 HE1.out)
  clear hl9 hC9 hl5 hC5
  go_wp2_with fail
  refine HCA.out.mono ?_
  rintro e10 w10 ⟨rfl, hd10⟩
  have HM10 := Aside0.mk (HM.out.below hd10.below)
  have hee : (e != e) = false := by simp
  clear hd10 HCA HM
  go_wp2_with fail
  have HM11 := Aside0.mk HM10.out.drew
  clear HM10
  refine start_ (n := 5) (S := fun w' => w'.cell? ⟨n2, 0, none⟩ = some (.slice A6 s.length c6) ∧ w'.cell? ⟨w.heap.size, 0, none⟩ = some (.slice A0 l0.length c0)) (ds := []) #[false, false, false, false, false] (by kernel_rfl) rfl rfl ⟨(blk_cell HM11.out.bxs 0).trans rfl, (blk_cell HM11.out.box 0).trans rfl⟩ (fun hHeld => ?_)
  generalize w10.drew = w11 at HM11 hHeld ⊢
  refine take_ (i := 0) (N := some 56) (v := ?_) (a' := ?_) #[true, false, false, false, false] rfl rfl (by kernel_rfl) (fun _ _ _ h => h) (Or.inl ⟨by rfl, ?_⟩) hHeld ?_ ?_
  rotate_left
  · rintro w' ⟨s0, s1⟩
    go_simp
    with_reducible rfl
  rotate_left
  · simp only [Act.put, List.setIfInBounds_toArray, List.set_cons_zero, List.set_cons_succ, i64_w, i32_w]
    rfl
  refine take_ (i := 1) (N := some 57) (v := ?_) (a' := ?_) #[true, true, false, false, false] rfl rfl (by kernel_rfl) (fun _ _ _ h => h) (Or.inl ⟨by rfl, ?_⟩) hHeld ?_ ?_
  rotate_left
  · rintro w' ⟨s0, s1⟩
    go_simp
    with_reducible rfl
  rotate_left
  · simp only [Act.put, List.setIfInBounds_toArray, List.set_cons_zero, List.set_cons_succ, i64_w, i32_w]
    rfl
  refine one_ (i := 2) (N := some 58) #[true, true, true, false, false] rfl rfl (by kernel_rfl) (by decide) (fun K hK => ?_)
  refine goes_ Try.func11 (by kernel_rfl) rfl #[.agg #[.slice A0 l0.length c0]] (by rfl) rfl rfl (by (try simp only [List.map_toArray, List.map_cons, List.map_nil]); first | done | rfl) ?_
  refine (laws_toSpace.calls k A0 c0 l0 s w11 (Kd.C_below HR0.out HM11.out.hb) HC0.out HS.out).mono ?_
  rintro e12 w12 ⟨v12, rfl, hR12, hb12⟩
  refine ⟨_, rfl, ?_⟩
  obtain ⟨A12, c12, hv12, hl12, hC12⟩ := Kd.R_reads hR12
  subst hv12
  have HM12 := Aside0.mk (HM11.out.below hb12)
  clear HM11 hb12 hR12
  refine hK.out _ _ ⟨(blk_cell HM12.out.bxs 0).trans rfl, (blk_cell HM12.out.box 0).trans rfl⟩ (fun hHeld => ?_)
  clear hK K
  refine norm_ (a' := ?_) ?_ ?_
  rotate_left
  · show Act.put _ (some 58) _ = _
    simp only [Act.put, List.setIfInBounds_toArray, List.set_cons_zero, List.set_cons_succ, i64_w, i32_w]
    rfl
  refine one_ (i := 3) (N := some 59) #[true, true, true, true, false] rfl rfl (by kernel_rfl) (by decide) (fun K hK => ?_)
  refine goes_ Try.func14 (by kernel_rfl) rfl #[.agg #[.slice A6 s.length c6], .agg #[.slice A12 s.length c12]] (by rfl) rfl rfl (by (try simp only [List.map_toArray, List.map_cons, List.map_nil]); first | done | rfl) ?_
  refine (laws_eqSpace.calls k A6 c6 s A12 c12 s true w12 (Kd.R_reads' HM12.out.hX).2.2 (Kd.R_reads' HM12.out.hX).2.1 hC12 hl12 HE2.out).mono ?_
  rintro e13 w13 ⟨rfl, hb13⟩
  refine ⟨_, rfl, ?_⟩
  have HM13 := Aside0.mk (HM12.out.below hb13)
  clear HM12 hb13 hC12 hl12
  refine hK.out _ _ ⟨(blk_cell HM13.out.bxs 0).trans rfl, (blk_cell HM13.out.box 0).trans rfl⟩ (fun hHeld => ?_)
  clear hK K
  refine norm_ (a' := ?_) ?_ ?_
  rotate_left
  · show Act.put _ (some 59) _ = _
    simp only [Act.put, List.setIfInBounds_toArray, List.set_cons_zero, List.set_cons_succ, i64_w, i32_w]
    rfl
  refine pure_ (i := 4) (N := some 60) (v := ?_) (a' := ?_) #[true, true, true, true, true] rfl rfl (by kernel_rfl) (fun _ _ _ h => h) (Or.inl ⟨by rfl, ?_⟩) ?_ ?_
  rotate_left
  · intro w'
    go_simp
    with_reducible rfl
  rotate_left
  · simp only [Act.put, List.setIfInBounds_toArray, List.set_cons_zero, List.set_cons_succ, i64_w, i32_w]
    rfl
  refine done_ (by kernel_rfl) ?_
  clear hHeld
  go_wp2_with fail
  refine (laws_toInt64S.calls k A1 c1 l1 r w13 (Kd.C_below HR1.out HM13.out.hb) HC1.out HR.out).mono ?_
  rintro e14 w14 ⟨v14, rfl, hR14, hb14⟩
  obtain ⟨A14, c14, hv14, hl14, hC14⟩ := Kd.R_reads hR14
  subst hv14
  have HM14 := Aside0.mk (HM13.out.below hb14)
  have HCA := Aside0.mk (laws_eqInt64S.calls k A8 c8 r A14 c14 r true w14 (Kd.R_reads' HM14.out.hR).2.2 (Kd.R_reads' HM14.out.hR).2.1 hC14 hl14 HE3.out)
  clear HM13 hb14 hR14 hC14 hl14
  go_wp2_with fail
  refine HCA.out.mono ?_
  rintro e15 w15 ⟨rfl, hd15⟩
  have HM15 := Aside0.mk (HM14.out.below hd15.below)
  have hbx15 : w15.cell? ⟨n2, 0, none⟩ = some (.slice A6 s.length c6) := (blk_cell HM15.out.bxs 0).trans rfl
  have HCB := Aside0.mk (laws_markSpace.calls k (fun j => n1 ≤ j ∧ j < n2) (.slice A6 s.length c6) s 1 m1 s' w w15 HM15.out.hb HM15.out.hX HM1.out)
  clear HM14 hd15 HCA
  go_wp2_with fail
  refine HCB.out.mono ?_
  rintro e16 w16 ⟨rfl, hR16, hb16, hk16⟩
  have HM16 := Aside0.mk (HM15.out.markX hk16 hb16 hR16)
  have HCA := Aside0.mk (laws_markInt64S.calls k (fun j => n2 < j ∧ j < n3) (.slice A8 r.length c8) r m1 m2 r' w w16 HM16.out.hb HM16.out.hR HM2.out)
  clear HM15 hR16 hb16 hk16 hbx15 HCB
  go_wp2_with fail
  refine HCA.out.mono ?_
  rintro e17 w17 ⟨rfl, hR17, hb17, hk17⟩
  have HM17 := Aside0.mk (HM16.out.markR hk17 hb17 hR17)
  clear HM16 hR17 hb17 hk17 HCA
  obtain ⟨_, hl9, hC9⟩ := Kd.S_reads' HM17.out.hG
  obtain ⟨_, hl5, hC5⟩ := Kd.V_reads' HM17.out.hW
  have HCA := Aside0.mk (laws_eqInt64SS.calls k A9 c9 G A5 c5 G true w17 hC9 hl9 hC5 hl5 HE1.out)
  clear hl9 hC9 hl5 hC5
  go_wp2_with fail
  refine HCA.out.mono ?_
  rintro e18 w18 ⟨rfl, hd18⟩
  have HM18 := Aside0.mk (HM17.out.below hd18.below)
  have HCB := Aside0.mk (mss_walk k (fun j => n3 ≤ j) (.slice A9 G.length c9) G 1 m G' w w18 HM18.out.hb HM18.out.hG HGL.out HM3.out)
  clear HM17 hd18 HCA
  go_wp2_with fail
  refine HCB.out.mono ?_
  rintro e19 w19 ⟨rfl, hS19, hb19, hk19⟩
  have HM19 := Aside0.mk (HM18.out.markG hk19 hb19 hS19)
  have hgl := mss_len HM3.out
  have HV19 := Aside0.mk (show (Value.slice A9 G.length c9) = .slice A9 G'.length c9 by rw [hgl])
  obtain ⟨hgl2, hl19, hC19⟩ := Kd.S_reads' HM19.out.hG
  have HCA := Aside0.mk (laws_heldInt64SS.calls k A9 c9 G' 1 m w19 hC19 (by omega) HQ.out)
  rw [hgl] at HCA
  clear HM18 hS19 hb19 hk19 HCB hl19 hC19 hgl hgl2
  go_wp2_with fail
  refine HCA.out.mono ?_
  rintro e20 w20 ⟨rfl, hd20⟩
  have HM20 := Aside0.mk (HM19.out.below hd20.below)
  have hbx20 : w20.cell? ⟨w.heap.size, 0, none⟩ = some (.slice A0 l0.length c0) := (blk_cell HM20.out.box 0).trans rfl
  have hmm : (m != m) = false := by simp
  clear HM19 hd20 HCA
  go_wp2_with fail
  refine (laws_toSpace.calls k A0 c0 l0 s w20 (Kd.C_below HR0.out HM20.out.hb) HC0.out HS.out).mono ?_
  rintro e21 w21 ⟨v21, rfl, hR21, hb21⟩
  obtain ⟨A21, c21, hv21, hl21, hC21⟩ := Kd.R_reads hR21
  subst hv21
  have HM21 := Aside0.mk (HM20.out.below hb21)
  have HC21 := Aside0.mk hC21
  have HL21 := Aside0.mk hl21
  clear HM20 hbx20 hR21 hb21 hC21 hl21
  go_wp2_with fail
  refine (laws_toInt64S.calls k A1 c1 l1 r w21 (Kd.C_below HR1.out HM21.out.hb) HC1.out HR.out).mono ?_
  rintro e22 w22 ⟨v22, rfl, hR22, hb22⟩
  obtain ⟨A22, c22, hv22, hl22, hC22⟩ := Kd.R_reads hR22
  subst hv22
  have HM22 := Aside0.mk (HM21.out.below hb22)
  have HCA := Aside0.mk (impl_MissingChoices.calls k A21 c21 s A22 c22 r a G e w22 (Kd.C_below HC21.out hb22) HL21.out hC22 hl22 HG.out)
  clear HM21 hR22 hb22 hC22 hl22
  go_wp2_with fail
  refine HCA.out.mono ?_
  rintro e23 w23 ⟨v23, rfl, hS23, hb23⟩
  obtain ⟨A23, c23, hv23, hl23, hC23⟩ := Kd.S_reads hS23
  subst hv23
  have HM23 := Aside0.mk (HM22.out.below hb23)
  obtain ⟨_, hl5, hC5⟩ := Kd.V_reads' HM23.out.hW
  have HCB := Aside0.mk (laws_eqInt64SS.calls k A23 c23 G A5 c5 G true w23 hC23 hl23 hC5 hl5 HE1.out)
  clear HM22 hS23 hb23 hl23 hC23 hl5 hC5 HCA
  go_wp2_with fail
  refine HCB.out.mono ?_
  rintro e24 w24 ⟨rfl, hd24⟩
  have HM24 := Aside0.mk (HM23.out.below hd24.below)
  have hgl := mss_len HM3.out
  obtain ⟨hgl2, hl24, hC24⟩ := Kd.S_reads' HM24.out.hG
  have HCA := Aside0.mk (laws_heldInt64SS.calls k A9 c9 G' 1 m w24 hC24 (by omega) HQ.out)
  rw [hgl] at HCA
  clear HM23 hd24 HCB hl24 hC24 hgl hgl2
  go_wp2_with fail
  refine HCA.out.mono ?_
  rintro e25 w25 ⟨rfl, hd25⟩
  have HB25 := Aside0.mk (below_step HM24.out.hb hd25.below)
  clear HM24 hd25 HCA
  go_wp2
  go_ret
  exact ⟨rfl, HB25.out⟩
/-- What the law asks, on the way on which it answers true. -/
def laws_FnExactMissingChoices.f (k : Nat) (l0 : List Int) (l1 : List Int) (a2 : Int) : Option Bool :=
  if (l1.length : Int) > 1048576 then some true else
  (laws_szSpace.f l0 1048576).bind fun z => if z < 0 then some true else
  (laws_toSpace.f k l0).bind fun s => (laws_toInt64S.f k l1).bind fun r =>
  (spec_MissingChoices.f k s r a2).bind fun sw => (impl_MissingChoices.f k s r a2).bind fun g =>
  (laws_eqInt64SS.f k g.1 g.1).bind fun e1 => (laws_eqSpace.f k s s).bind fun e2 => (laws_eqInt64S.f k r r).bind fun e3 =>
  (laws_markSpace.f k s 1).bind fun m1 => (laws_markInt64S.f k r m1.1).bind fun m2 => (mssF k g.1 1).bind fun m3 => (laws_heldInt64SS.f k m3.2 1).bind fun q =>
  if sw = g ∧ e1 = true ∧ e2 = true ∧ e3 = true ∧ ¬ m2.1 < 0 ∧ q = m3.1 ∧ ¬ m3.1 < 0 ∧ g.1.length ≤ 1000000 then some true else none
set_option maxHeartbeats 1000000 in
set_option maxRecDepth 100000 in
theorem lm_long (A0 : Option Addr) (c0 : Nat) (l0 : List Int) (A1 : Option Addr) (c1 : Nat) (l1 : List Int) (a : Int) (w : World) (h1 : (l1.length : Int) > 1048576) :
    Calls Try.prog 6 #[.agg #[.slice A0 l0.length c0], .slice A1 l1.length c1, .int .i64 a] w fun e w' => e = .returned (.bool true) ∧ Below w.heap.size w w' := by
  have h1d : decide ((l1.length : Int) > 1048576) = true := decide_eq_true h1
  go_enter Try.func6, Try.ntmps6
  have hb1 : Below w.heap.size w (w.alloc (.cells #[.slice A0 l0.length c0] 24)) := below_alloc (Below.refl _ _) _
  go_wp2
  go_ret
  exact ⟨rfl, hb1⟩
set_option maxHeartbeats 1000000 in
set_option maxRecDepth 100000 in
theorem lm_wide (A0 : Option Addr) (c0 : Nat) (l0 : List Int) (A1 : Option Addr) (c1 : Nat) (l1 : List Int) (a : Int) (w : World) (hr0 : Kd.C (Kd.int .i64) w A0 l0.length l0) (hc0 : l0.length ≤ c0) (h1 : ¬ (l1.length : Int) > 1048576) (z : Int) (hz : laws_szSpace.f l0 1048576 = some z) (hz0 : z < 0) :
    Calls Try.prog 6 #[.agg #[.slice A0 l0.length c0], .slice A1 l1.length c1, .int .i64 a] w fun e w' => e = .returned (.bool true) ∧ Below w.heap.size w w' := by
  have HR0 := Aside0.mk hr0
  have HC0 := Aside0.mk hc0
  have HZ := Aside0.mk hz
  have h1d : decide ((l1.length : Int) > 1048576) = false := decide_eq_false h1
  have hzd : decide (z < 0) = true := decide_eq_true hz0
  clear hr0 hc0 hz
  go_enter Try.func6, Try.ntmps6
  go_wp2_with fail
  have hb1 : Below w.heap.size w (w.alloc (.cells #[.slice A0 l0.length c0] 24)) := below_alloc (Below.refl _ _) _
  generalize w.alloc (.cells #[.slice A0 l0.length c0] 24) = W1 at hb1 ⊢
  refine (laws_szSpace.calls A0 c0 l0 1048576 z W1 (Kd.C_below HR0.out hb1) HC0.out HZ.out).mono ?_
  rintro e1 w2 ⟨rfl, hb2⟩
  have HB2 := Aside0.mk (below_step hb1 hb2)
  clear hb1 hb2
  go_wp2
  go_ret
  exact ⟨rfl, HB2.out⟩
/-! ### laws_FnExactMissingChoices: function 6 -/
theorem laws_FnExactMissingChoices.calls (k : Nat) (A0_0 : Option Addr) (c0_0 : Nat) (l0_0 : List Int) (A1 : Option Addr) (c1 : Nat) (l1 : List Int) (a2 : Int) (r : Bool) (w : World) (hr0_0 : Kd.C (Kd.int .i64) w A0_0 l0_0.length l0_0) (hc0_0 : l0_0.length ≤ c0_0) (hr1 : Kd.C (Kd.int .i64) w A1 l1.length l1) (hc1 : l1.length ≤ c1) (h : laws_FnExactMissingChoices.f k l0_0 l1 a2 = some r) :
    Calls Try.prog 6 #[.agg #[.slice A0_0 l0_0.length c0_0], .slice A1 l1.length c1, .int .i64 a2] w fun e w' => e = .returned (.bool r) ∧ Below w.heap.size w w' := by
  unfold laws_FnExactMissingChoices.f at h
  by_cases h1 : (l1.length : Int) > 1048576
  · rw [if_pos h1] at h
    injection h with h
    subst h
    exact lm_long A0_0 c0_0 l0_0 A1 c1 l1 a2 w h1
  rw [if_neg h1] at h
  rw [Option.bind_eq_some_iff] at h
  obtain ⟨z, hz, h⟩ := h
  by_cases hz0 : z < 0
  · rw [if_pos hz0] at h
    injection h with h
    subst h
    exact lm_wide A0_0 c0_0 l0_0 A1 c1 l1 a2 w hr0_0 hc0_0 h1 z hz hz0
  rw [if_neg hz0] at h
  obtain ⟨s, hs, h⟩ := Option.bind_eq_some_iff.1 h
  obtain ⟨t, ht, h⟩ := Option.bind_eq_some_iff.1 h
  obtain ⟨sw, hsw, h⟩ := Option.bind_eq_some_iff.1 h
  obtain ⟨g, hg, h⟩ := Option.bind_eq_some_iff.1 h
  obtain ⟨e1, he1, h⟩ := Option.bind_eq_some_iff.1 h
  obtain ⟨e2, he2, h⟩ := Option.bind_eq_some_iff.1 h
  obtain ⟨e3, he3, h⟩ := Option.bind_eq_some_iff.1 h
  obtain ⟨m1, hm1, h⟩ := Option.bind_eq_some_iff.1 h
  obtain ⟨m2, hm2, h⟩ := Option.bind_eq_some_iff.1 h
  obtain ⟨m3, hm3, h⟩ := Option.bind_eq_some_iff.1 h
  obtain ⟨q, hq, h⟩ := Option.bind_eq_some_iff.1 h
  split at h
  · rename_i hc
    obtain ⟨c1_, c2_, c3_, c4_, c5_, c6_, c7_, c8_⟩ := hc
    injection h with h
    subst h c1_ c2_ c3_ c4_ c6_
    exact lm_good k A0_0 c0_0 l0_0 A1 c1 l1 a2 w hr0_0 hc0_0 hr1 hc1 h1 z hz hz0 s t hs ht sw.1 sw.2 hsw hg he1 he2 he3 m1.2 m2.2 m1.1 m2.1 m3.1 hm1 hm2 c5_ m3.2 hm3 hq c7_ c8_
  · cases h

end Go.Proofs.Ythbfaefneoeadaa.PFnExactMissingChoices
