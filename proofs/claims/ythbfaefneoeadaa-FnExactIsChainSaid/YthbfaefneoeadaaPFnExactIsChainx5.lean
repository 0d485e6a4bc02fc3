-- WALKS, by a program and by hand
import Derived.Test.YthbfaefneoeadaaPFnExactIsChainx0
import Derived.Test.YthbfaefneoeadaaPFnExactIsChainx4
namespace Go.Proofs.Ythbfaefneoeadaa.PFnExactIsChain
open Go.RowKit Go.Proofs.Ythbfaefneoeadaa.DG Go.Proofs.YthbfaefneoeadaaW.PrintWords Go.Proofs.YthbfaefneoeadaaW.PrintLast Go.Proofs.YthbfaefneoeadaaW.PrintMore
attribute [local go_sem] max2_int min2_int max_two min_two max_three min_three max_four min_four   -- for this text's walks alone
set_option linter.unusedVariables false
set_option linter.unusedSimpArgs false

/-! ### impl_marks: function 38 -/
def impl_marks.l0 : Nat → List Bool → List Int → Int → Int → Option (List Bool)
  | 0, _, _, _, _ => none
  | k + 1, x5, x11, x12, x13 => if x13 < x12 then (if 0 ≤ x13 then (if x13 < (x11.length : Int) then (if 0 ≤ (rd x11 x13) then (if (rd x11 x13) < (x5.length : Int) then (impl_marks.l0 k (x5.set ((rd x11 x13) : Int).toNat true) x11 x12 (wrap64 (x13 + 1))) else (none)) else (none)) else (none)) else (none)) else (some x5)
def impl_marks.f (k : Nat) (l0_0 : List Int) (l1 : List Int) : Option (List Bool) := (impl_count.f k l0_0).bind fun t143 => (if 0 ≤ t143 then (if (t143 : Int).toNat ≤ 281474976710656 then (impl_marks.l0 k (List.replicate (t143 : Int).toNat false) l1 (l1.length : Int) 0) else (none)) else (none))
theorem impl_marks.mono_l : ∀ k, (∀ y0 y1 y2 y3, LeO (impl_marks.l0 k y0 y1 y2 y3) (impl_marks.l0 (k + 1) y0 y1 y2 y3))
  | 0 => fun _ _ _ _ r h => by simp [impl_marks.l0] at h
  | k + 1 => by
    have ih0 := impl_marks.mono_l k
    · intro y0 y1 y2 y3
      unfold impl_marks.l0
      repeat' first
      | (with_reducible exact ih0 _ _ _ _)
      | (with_reducible exact impl_count.mono _ _)
      | (with_reducible exact LeO.refl _)
      | (with_reducible exact LeO.none _)
      | (with_reducible refine LeO.ite ?_ ?_)
      | (with_reducible refine LeO.bind ?_ (fun _ => ?_))
      | exact ih0 _ _ _ _
      | exact impl_count.mono _ _
      | exact LeO.none _
      | refine LeO.ite ?_ ?_
      | refine LeO.bind ?_ (fun _ => ?_)
theorem impl_marks.mono : ∀ a0 a1 k, LeO (impl_marks.f k a0 a1) (impl_marks.f (k + 1) a0 a1) := by
  intro a0 a1 k
  have ih0 := impl_marks.mono_l k
  unfold impl_marks.f
  repeat' first
      | (with_reducible exact ih0 _ _ _ _)
      | (with_reducible exact impl_count.mono _ _)
      | (with_reducible exact LeO.refl _)
      | (with_reducible exact LeO.none _)
      | (with_reducible refine LeO.ite ?_ ?_)
      | (with_reducible refine LeO.bind ?_ (fun _ => ?_))
      | exact ih0 _ _ _ _
      | exact impl_count.mono _ _
      | exact LeO.none _
      | refine LeO.ite ?_ ?_
      | refine LeO.bind ?_ (fun _ => ?_)
set_option maxHeartbeats 8000000 in
set_option maxRecDepth 100000 in
theorem impl_marks.calls (k : Nat) (A0_0 : Option Addr) (c0_0 : Nat) (l0_0 : List Int) (A1 : Option Addr) (c1 : Nat) (l1 : List Int) (r : List Bool) (w : World) (hr0_0 : Kd.C (Kd.int .i64) w A0_0 l0_0.length l0_0) (hc0_0 : l0_0.length ≤ c0_0) (hr1 : Kd.C (Kd.int .i64) w A1 l1.length l1) (hc1 : l1.length ≤ c1) (h : impl_marks.f k l0_0 l1 = some r) :
    Calls Try.prog 38 #[.agg #[.slice A0_0 l0_0.length c0_0], .slice A1 l1.length c1] w fun e w' => ∃ v0_ : Value, e = .returned (v0_) ∧ Kd.R Kd.bool 4 w' w.heap.size (fun _ => True) v0_ r ∧ Below w.heap.size w w' := by
  have hu30 := Try.underlying30
  have HR0_0 := Aside0.mk hr0_0
  have HC0_0 := Aside0.mk hc0_0
  clear hr0_0 hc0_0
  have HR1 := Aside0.mk hr1
  have HC1 := Aside0.mk hc1
  clear hr1 hc1
  have HB := Aside0.mk (Below.refl w.heap.size w)
  have H : ((impl_count.f k l0_0).bind fun t143 => (if 0 ≤ t143 then (if (t143 : Int).toNat ≤ 281474976710656 then (impl_marks.l0 k (List.replicate (t143 : Int).toNat false) l1 (l1.length : Int) 0) else (none)) else (none))) = some r := h
  clear h
  replace H := Option.bind_eq_some_iff.mp H
  obtain ⟨t143, A30, H⟩ := H
  replace H : (if 0 ≤ t143 then (if (t143 : Int).toNat ≤ 281474976710656 then (impl_marks.l0 k (List.replicate (t143 : Int).toNat false) l1 (l1.length : Int) 0) else (none)) else (none)) = some r := H
  have A3 := Aside0.mk A30
  clear A30
  by_cases c4 : 0 ≤ t143
  · rw [if_pos c4] at H
    have c4b0 := eq_true c4
    have c4b1 : decide (0 ≤ t143) = true := decide_eq_true c4
    clear c4
    by_cases c5 : (t143 : Int).toNat ≤ 281474976710656
    · rw [if_pos c5] at H
      have c5b0 := eq_true c5
      have c5b1 : decide ((t143 : Int).toNat ≤ 281474976710656) = true := decide_eq_true c5
      clear c5
      obtain ⟨y144, hy144⟩ : ∃ y_ : List Bool, y_ = (List.replicate (t143 : Int).toNat false) := ⟨_, rfl⟩
      replace H : (impl_marks.l0 k y144 l1 (l1.length : Int) 0) = some r := by first | (rw [hy144]; with_reducible exact H) | (have H2_ := (Option.bind_some _ _).symm.trans H; rw [hy144]; with_reducible exact H2_) | (have H2_ := (Option.bind_some _ _).symm.trans H; with_reducible exact H2_) | with_reducible exact H | (rw [hy144]; exact H) | exact H
      have Ny144 := Aside0.mk hy144
      clear hy144
      have H' := Aside0.mk H
      clear H
      go_enter Try.func38, Try.ntmps38
      go_wp2_with (first | ((with_reducible refine gate_dst (N := 2) rfl ?_); refine box_event ?hg (N := 2) ?hd (cs := #[.slice A0_0 l0_0.length c0_0]) (t := 30) ?hr ?_; (case hd => rfl); (case hg => rfl); (case hr => first | (go_simp; done) | (go_simp; rfl)); intro gb142 hg w6 hbox hb; have n0_ := Aside0.mk (below_step (by repeat (first | (with_reducible first | exact HB.out | apply below_alloc | apply pw_below_drewN | apply below_drew1) | exact HB.out)) hb); have n1_ := Aside0.mk (hbox); have n2_ := Aside0.mk ((by rw [hg]; exact (below_size (by repeat (first | (with_reducible first | exact HB.out | apply below_alloc | apply pw_below_drewN | apply below_drew1) | exact HB.out))) : w.heap.size ≤ gb142)); have n3_ := Aside0.mk ((by rw [hg]; exact (below_size (by repeat (first | (with_reducible first | exact HB.out | apply below_alloc | apply pw_below_drewN | apply below_drew1) | exact HB.out))) : w.heap.size ≤ gb142)); clear HB; have HB := n0_; have BK142 := n1_; have GW142 := n2_; have GE142 := n3_; clear n0_ n1_ n2_ n3_; clear hb hbox hg; have hcz7_0 : w6.cell? ⟨gb142, 0, none⟩ = some (.slice A0_0 l0_0.length c0_0) := (blk_cell BK142.out 0).trans rfl; have hfz7_0 := blk_frozen BK142.out 0) | ((with_reducible refine gate_callee (f := 46) rfl ?_); refine goesL_ (some 9) rfl rfl Try.func46 (by kernel_rfl) rfl #[.agg #[.slice A0_0 l0_0.length c0_0]] rfl (by (try simp only [List.map_toArray, List.map_cons, List.map_nil]); first | done | rfl | (simp only [List.length_drop, List.length_take]; rfl)) ?_; (with_reducible refine (impl_count.calls k _ _ l0_0 t143 _ ?side1 ?side2 A3.out).mono ?_); (case side1 => repeat (first | exact (Kd.C_below HR0_0.out HB.out) | (with_reducible refine Kd.C_alloc ?_ _) | (with_reducible refine Kd.C_drewN ?_ _) | (with_reducible refine Kd.C_drew ?_))); (case side2 => exact HC0_0.out); rintro e w8 ⟨rfl, hb⟩; refine ⟨_, rfl, ?_⟩; have n0_ := Aside0.mk (blk_below (g := gb142) (o := .cells #[.slice A0_0 l0_0.length c0_0] 30 (0, 0)) (by (with_reducible repeat (first | refine blk_drewN ?_ _ | refine blk_drew ?_ | refine blk_alloc ?_ _)); exact BK142.out) hb); have n1_ := Aside0.mk (below_step (by repeat (first | (with_reducible first | exact HB.out | apply below_alloc | apply pw_below_drewN | apply below_drew1 | refine below_set ?_ GE142.out) | exact HB.out)) hb); clear BK142; clear HB; have BK142 := n0_; have HB := n1_; clear n0_ n1_; (try clear hb); (try clear hb2); (try clear hk); (try clear hi)) | ((with_reducible refine gate_dst (N := 10) rfl ?_); refine Kd.R_make Kd.bool _ 4 rfl (N := 10) rfl 54 _ _ rfl t143 rfl rfl Try.underlying54 (.bool false) 1 info4 rfl (by decide) (by omega) false (ok := fun _ => True) (okp := fun _ => True) rfl (fun _ hk => hk) trivial (of_decide_eq_true (by first | (with_reducible assumption) | assumption)) (Nat.le_trans (Nat.mul_le_mul_right _ (of_decide_eq_true (by first | (with_reducible assumption) | assumption) : t143.toNat ≤ 281474976710656)) (by omega)) (Below.refl _ _) (Nat.le_refl _) ?_; intro v145 w9 ho10 hb hg_ hnew_; clear hg_ hnew_; (first | rw [← Ny144.out] at ho10 | (simp only [Int.reduceToNat] at ho10; rw [← Ny144.out] at ho10)); have n0_ := Aside0.mk (Kd.R_lower ho10 (below_size (by repeat (first | (with_reducible first | exact HB.out | apply below_alloc | apply pw_below_drewN | apply below_drew1 | refine below_set ?_ GE142.out) | exact HB.out)))); have n1_ := Aside0.mk (blk_below (g := gb142) (o := .cells #[.slice A0_0 l0_0.length c0_0] 30 (0, 0)) (by (with_reducible repeat (first | refine blk_drewN ?_ _ | refine blk_drew ?_ | refine blk_alloc ?_ _)); exact BK142.out) hb); have n2_ := Aside0.mk (below_step (by repeat (first | (with_reducible first | exact HB.out | apply below_alloc | apply pw_below_drewN | apply below_drew1 | refine below_set ?_ GE142.out) | exact HB.out)) hb); clear BK142; clear HB; have HO146 := n0_; have BK142 := n1_; have HB := n2_; clear n0_ n1_ n2_; clear hb ho10))
      go_loopg [13] k (fun kq v13 w' => ∃ (x5_1 : List Bool) (x13_1 : Int), v13 = .int .i64 x13_1 ∧ Aside0 (impl_marks.l0 kq x5_1 l1 (l1.length : Int) x13_1 = some r) ∧ Aside0 (kq ≤ k) ∧ Aside0 (Kd.R Kd.bool 4 w' w.heap.size (fun _ => True) v145 x5_1) ∧ Aside0 (w'.heap[gb142]? = some (.cells #[(.slice A0_0 l0_0.length c0_0)] 30 (0, 0))) ∧ Aside0 (Below w.heap.size w w'))
      case atStart => exact ⟨(y144), (0), (by first | rfl | (simp; done) | (simp [*]; done)), H', ⟨Nat.le_refl _⟩, ⟨by (with_reducible repeat (first | apply Kd.R_alloc | apply Kd.R_drewN | apply Kd.R_drew)); exact HO146.out⟩, ⟨by (with_reducible repeat (first | refine blk_drewN ?_ _ | refine blk_drew ?_ | refine blk_alloc ?_ _)); exact BK142.out⟩, ⟨by repeat (first | (with_reducible first | exact HB.out | apply below_alloc | apply pw_below_drewN | apply below_drew1 | refine below_set ?_ GE142.out) | exact HB.out)⟩⟩
      case round =>
        clear H'
        try clear c1
        try clear p2
        try clear c3
        try clear c4
        try clear c4b0
        try clear c4b1
        try clear c5
        try clear c5b0
        try clear c5b1
        try clear hcz7_0
        try clear hfz7_0
        obtain ⟨x5_1, x13_1, rfl, HA, HK1, HO_5, BK142, HB⟩ := hrel
        cases gk with
        | zero => exact absurd HA.out (by simp [impl_marks.l0])
        | succ k1 =>
          have H := HA.out
          clear HA
          simp only [impl_marks.l0] at H
          by_cases c11 : x13_1 < (l1.length : Int)
          · rw [if_pos c11] at H
            have c11b0 : decide (x13_1 < (l1.length : Int)) = true := decide_eq_true c11
            clear c11
            by_cases c12 : 0 ≤ x13_1
            · rw [if_pos c12] at H
              have c12b0 : decide (0 ≤ x13_1) = true := decide_eq_true c12
              clear c12
              by_cases c13 : x13_1 < (l1.length : Int)
              · rw [if_pos c13] at H
                have c13b0 : decide (x13_1 < (l1.length : Int)) = true := decide_eq_true c13
                clear c13
                by_cases c14 : 0 ≤ (rd l1 x13_1)
                · rw [if_pos c14] at H
                  have c14b0 : decide (0 ≤ (rd l1 x13_1)) = true := decide_eq_true c14
                  clear c14
                  by_cases c15 : (rd l1 x13_1) < (x5_1.length : Int)
                  · rw [if_pos c15] at H
                    have c15b0 : decide ((rd l1 x13_1) < (x5_1.length : Int)) = true := decide_eq_true c15
                    clear c15
                    obtain ⟨y148, hy148⟩ : ∃ y_ : List Bool, y_ = (x5_1.set ((rd l1 x13_1) : Int).toNat true) := ⟨_, rfl⟩
                    replace H : (impl_marks.l0 k1 y148 l1 (l1.length : Int) (wrap64 (x13_1 + 1))) = some r := by first | (rw [hy148]; with_reducible exact H) | (have H2_ := (Option.bind_some _ _).symm.trans H; rw [hy148]; with_reducible exact H2_) | (have H2_ := (Option.bind_some _ _).symm.trans H; with_reducible exact H2_) | with_reducible exact H | (rw [hy148]; exact H) | exact H
                    have Ny148 := Aside0.mk hy148
                    clear hy148
                    have H' := Aside0.mk H
                    clear H
                    have p147 : 0 ≤ (x13_1 : Int) := of_decide_eq_true (by first | (with_reducible assumption) | assumption)
                    have q147 : x13_1 < (l1.length : Int) := of_decide_eq_true (by first | (with_reducible assumption) | assumption)
                    obtain ⟨ad147, e147, hx147_0⟩ := Kd.at_int HR1.out x13_1 p147 q147
                    cases e147
                    try replace hx147_0 := (HB.out.cell (World.block_lt_of_cell? w _ hx147_0)).trans hx147_0
                    replace p147 := eq_true p147
                    replace q147 := eq_true q147
                    have p16 : 0 ≤ ((rd l1 x13_1) : Int) := of_decide_eq_true (by first | (with_reducible assumption) | assumption)
                    have q16 : ((rd l1 x13_1) : Int) < ((x5_1.length : Int) : Int) := of_decide_eq_true (by first | (with_reducible assumption) | assumption)
                    obtain ⟨go16, co16, eo16, gb16, gl16, cl16, HG16⟩ := Kd.R_form HO_5.out (by omega)
                    (first | cases eo16 | (injection eo16 with ea_ en_ ec_; (first | subst ea_ | (injection ea_ with ea_; subst ea_)); subst ec_; clear en_))
                    have GB16 := Aside0.mk gb16
                    have GG16 := Aside0.mk HG16
                    clear gb16 gl16 HG16
                    obtain ⟨hx16_0, hf16_0⟩ := Kd.R_celln false HO_5.out ((rd l1 x13_1) : Int) p16 q16
                    replace p16 := eq_true p16
                    replace q16 := eq_true q16
                    have HP17 := Kd.R_putg HO_5.out ((rd l1 x13_1) : Int) true
                    go_wp2_with (first | ((with_reducible refine gate_store (t := 4) (p := 19) rfl ?_); refine store_event (t := 4) (p := 19) (v := ?vo_w18) (w1 := (wr.setCell ⟨go16, ((rd l1 x13_1) : Int).toNat, none⟩ (.bool true))) ?hg ?ho ?hn ?hr ?_; (case ho => rfl); (case hg => rfl); (case hn => rfl); (case hr => first | (go_simp; done) | (go_simp; rfl)); intro w18 hw; have hg : wr.grownBy w18 (some go16) := (by rw [hw]; exact HP17.2); have hp_ : Kd.R Kd.bool 4 w18 w.heap.size (fun _ => True) (.slice (some ⟨go16, 0, none⟩) x5_1.length co16) y148 := (by rw [hw, Ny148.out]; exact HP17.1); clear HP17; have n0_ := Aside0.mk (hp_); have n1_ := Aside0.mk (blk_grown (g := gb142) (o := .cells #[.slice A0_0 l0_0.length c0_0] 30 (0, 0)) (by (with_reducible repeat (first | refine blk_drewN ?_ _ | refine blk_drew ?_ | refine blk_alloc ?_ _)); exact BK142.out) hg (Kd.R_ne HO_5.out BK142.out (by decide))); have n2_ := Aside0.mk ((by rw [hw]; exact below_set (HB.out) GB16.out : Below w.heap.size w w18)); clear HO_5; clear BK142; clear HB; have HO_5 := n0_; have BK142 := n1_; have HB := n2_; clear n0_ n1_ n2_; clear hg hw hp_))
                    go_roundg k1
                    case measure => have := HK1.out; omega
                    case rel => exact ⟨(y148), (wrap64 (x13_1 + 1)), (by first | rfl | (simp; done) | (simp [*]; done)), H', ⟨by have := HK1.out; omega⟩, ⟨by (with_reducible repeat (first | apply Kd.R_alloc | apply Kd.R_drewN | apply Kd.R_drew)); exact HO_5.out⟩, ⟨by (with_reducible repeat (first | refine blk_drewN ?_ _ | refine blk_drew ?_ | refine blk_alloc ?_ _)); exact BK142.out⟩, ⟨by repeat (first | (with_reducible first | exact HB.out | apply below_alloc | apply pw_below_drewN | apply below_drew1 | refine below_set ?_ GE142.out) | exact HB.out)⟩⟩
                  · rw [if_neg c15] at H
                    exact absurd H (by simp)
                · rw [if_neg c14] at H
                  exact absurd H (by simp)
              · rw [if_neg c13] at H
                exact absurd H (by simp)
            · rw [if_neg c12] at H
              exact absurd H (by simp)
          · rw [if_neg c11] at H
            have c11b0 : decide (x13_1 < (l1.length : Int)) = false := decide_eq_false c11
            clear c11
            obtain rfl := Option.some.inj H
            go_wp2
            go_ret
            exact ⟨_, by first | rfl | (simp [errW_none, errW_some] <;> rfl) | (simp [*, errW_none, errW_some] <;> rfl), by (with_reducible repeat (first | apply Kd.R_alloc | apply Kd.R_drewN | apply Kd.R_drew)); exact HO_5.out, by repeat (first | (with_reducible first | exact HB.out | apply below_alloc | apply pw_below_drewN | apply below_drew1 | refine below_set ?_ GE142.out) | exact HB.out)⟩
    · rw [if_neg c5] at H
      exact absurd H (by simp)
  · rw [if_neg c4] at H
    exact absurd H (by simp)

/-! ### impl_IsChain: function 13 -/
/-- A mark of a row of marks. -/
def rdb (h : List Bool) (n : Int) : Bool := h.getD n.toNat false
def icC (k : Nat) (s : List Int) : List (List Int) → Option Bool
  | [] => some true
  | l :: ll => (impl_isCode.f k s l).bind fun b => if b = true then icC k s ll else some false
/-- Each list within the next one's marks. -/
def icI (k : Nat) (s : List Int) : List (List Int) → Option Bool
  | a :: b :: ll => (impl_marks.f k s b).bind fun h => if a.length ≤ 1000000 ∧ ∀ x ∈ a, 0 ≤ x ∧ x < (h.length : Int) then (if (a.any fun x => !rdb h x) = true then some false else icI k s (b :: ll)) else none
  | _ => some true
def impl_IsChain.f (k : Nat) (l0 : List Int) (ll : List (List Int)) : Option (Bool × Int) := (impl_IsSpace.f k l0).bind fun b => if b = true then (if 10 < ll.length then some (false, 2) else (icC k l0 ll).bind fun c => if c = true then (icI k l0 ll).bind fun d => some (d, 0) else some (false, 2)) else some (false, 1)
theorem icC.mono (k : Nat) (s : List Int) : ∀ ll, LeO (icC k s ll) (icC (k + 1) s ll)
  | [] => LeO.refl _
  | l :: ll => by
    simp only [icC]
    refine LeO.bind (impl_isCode.mono _ _ k) (fun b => ?_)
    by_cases h : b = true
    · rw [if_pos h, if_pos h]; exact icC.mono k s ll
    · rw [if_neg h, if_neg h]; exact LeO.refl _
theorem icI.mono (k : Nat) (s : List Int) : ∀ ll, LeO (icI k s ll) (icI (k + 1) s ll)
  | [] => LeO.refl _
  | [a] => LeO.refl _
  | a :: b :: ll => by
    simp only [icI]
    refine LeO.bind (impl_marks.mono _ _ k) (fun h => ?_)
    by_cases h1 : a.length ≤ 1000000 ∧ ∀ x ∈ a, 0 ≤ x ∧ x < (h.length : Int)
    · rw [if_pos h1, if_pos h1]
      by_cases h2 : (a.any fun x => !rdb h x) = true
      · rw [if_pos h2, if_pos h2]; exact LeO.refl _
      · rw [if_neg h2, if_neg h2]; exact icI.mono k s (b :: ll)
    · rw [if_neg h1, if_neg h1]; exact LeO.refl _
theorem impl_IsChain.mono : ∀ a0 a1 k, LeO (impl_IsChain.f k a0 a1) (impl_IsChain.f (k + 1) a0 a1) := by
  intro a0 a1 k
  unfold impl_IsChain.f
  refine LeO.bind (impl_IsSpace.mono _ k) (fun b => ?_)
  by_cases h : b = true
  · rw [if_pos h, if_pos h]
    by_cases h1 : 10 < a1.length
    · rw [if_pos h1, if_pos h1]; exact LeO.refl _
    · rw [if_neg h1, if_neg h1]
      refine LeO.bind (icC.mono k a0 a1) (fun c => ?_)
      by_cases h2 : c = true
      · rw [if_pos h2, if_pos h2]; exact LeO.bind (icI.mono k a0 a1) (fun _ => LeO.refl _)
      · rw [if_neg h2, if_neg h2]; exact LeO.refl _
  · rw [if_neg h, if_neg h]; exact LeO.refl _
theorem icC_next {k : Nat} {s l : List Int} {ll : List (List Int)} {c : Bool} (h : icC k s (l :: ll) = some c) : ∃ b, impl_isCode.f k s l = some b ∧ (b = true → icC k s ll = some c) ∧ (b = false → c = false) := by
  simp only [icC] at h
  obtain ⟨b, hb, h⟩ := Option.bind_eq_some_iff.1 h
  refine ⟨b, hb, fun e => by rwa [if_pos e] at h, fun e => ?_⟩
  rw [if_neg (by rw [e]; decide)] at h
  exact (Option.some.inj h).symm
theorem icI_next {k : Nat} {s a b : List Int} {ll : List (List Int)} {d : Bool} (h : icI k s (a :: b :: ll) = some d) : ∃ m, impl_marks.f k s b = some m ∧ a.length ≤ 1000000 ∧ (∀ x ∈ a, 0 ≤ x ∧ x < (m.length : Int)) ∧ ((a.any fun x => !rdb m x) = true → d = false) ∧ ((a.any fun x => !rdb m x) = false → icI k s (b :: ll) = some d) := by
  simp only [icI] at h
  obtain ⟨m, hm, h⟩ := Option.bind_eq_some_iff.1 h
  by_cases h1 : a.length ≤ 1000000 ∧ ∀ x ∈ a, 0 ≤ x ∧ x < (m.length : Int)
  · rw [if_pos h1] at h
    refine ⟨m, hm, h1.1, h1.2, fun e => ?_, fun e => ?_⟩
    · rw [if_pos e] at h; exact (Option.some.inj h).symm
    · rwa [if_neg (by rw [e]; decide)] at h
  · rw [if_neg h1] at h; cases h
set_option maxHeartbeats 1000000 in
set_option maxRecDepth 100000 in
theorem ic_asks (n : Int) (b base : Nat) (ok : Nat → Prop) (v : Value) (h : List Bool) (W : World) (hx : W.heap[b]? = some (.cells #[v] 54 (0, 0))) (hR : Kd.R Kd.bool 4 W base ok v h) (hn0 : 0 ≤ n) (hn1 : n < (h.length : Int)) :
    Calls Try.prog 40 #[.int .i64 n, .pointer (some ⟨b, 0, none⟩)] W fun e W' => e = .returned (.bool (!rdb h n)) ∧ Below W.heap.size W W' := by
  obtain ⟨g, c, hv, _, _, _, _⟩ := Kd.R_form hR (by omega)
  subst hv
  have h0 : W.cell? ⟨b, 0, none⟩ = some (.slice (some ⟨g, 0, none⟩) h.length c) := (blk_cell hx 0).trans rfl
  obtain ⟨hx9, _⟩ := Kd.R_celln false hR n hn0 hn1
  change _ = some (Value.bool (rdb h n)) at hx9
  go_enter Try.func40, Try.ntmps40
  go_wp2
  go_ret
  exact ⟨rfl, Below.refl _ _⟩
set_option maxHeartbeats 4000000 in
set_option maxRecDepth 100000 in
theorem ic_walk (k : Nat) (A0 : Option Addr) (c0 : Nat) (l0 : List Int) (A1 : Option Addr) (c1 : Nat) (ll : List (List Int)) (w : World) (hr0 : Kd.C (Kd.int .i64) w A0 l0.length l0) (hc0 : l0.length ≤ c0) (hr1 : Kd.C (Kd.slice 2 (Kd.int .i64)) w A1 ll.length ll) (hc1 : ll.length ≤ c1) (hsp : impl_IsSpace.f k l0 = some true) (h10 : ll.length ≤ 10) (c d : Bool) (hcc : icC k l0 ll = some c) (hci : c = true → icI k l0 ll = some d) :
    Calls Try.prog 13 #[.agg #[.slice A0 l0.length c0], .slice A1 ll.length c1] w fun e w' => e = .returned (.tuple #[.bool (if c = true then d else false), .int .i64 (if c = true then 0 else 2)]) ∧ Below w.heap.size w w' := by
  have HR0 := Aside0.mk hr0
  have HC0 := Aside0.mk hc0
  have HR1 := Aside0.mk hr1
  have HC1 := Aside0.mk hc1
  have HSP := Aside0.mk hsp
  have HCC := Aside0.mk (show icC k l0 (ll.drop 0) = some c from hcc)
  have HCI := Aside0.mk hci
  have h10d : decide ((ll.length : Int) > 10) = false := decide_eq_false (by omega)
  clear hr0 hc0 hr1 hc1 hsp hcc hci
  go_enter Try.func13, Try.ntmps13
  go_wp2_with fail
  have hb1 : Below w.heap.size w (w.alloc (.cells #[.slice A0 l0.length c0] 30)) := below_alloc (Below.refl _ _) _
  have hk1 := blk_new w (.cells #[.slice A0 l0.length c0] 30)
  generalize w.alloc (.cells #[.slice A0 l0.length c0] 30) = W1 at hb1 hk1 ⊢
  refine (impl_IsSpace.calls k A0 c0 l0 true W1 (Kd.C_below HR0.out hb1) HC0.out HSP.out).mono ?_
  rintro e1 w2 ⟨rfl, hb2⟩
  have HB2 := Aside0.mk (below_step hb1 hb2)
  have HK2 := Aside0.mk (blk_below hk1 hb2)
  clear hb1 hk1 hb2
  go_wp2
  go_loopg [18] ll.length (fun gg s18 wr => ∃ i : Nat, s18 = .int .i64 i ∧ i ≤ ll.length ∧ ll.length - i ≤ gg ∧ Aside0 (icC k l0 (ll.drop i) = some c) ∧ Aside0 (wr.heap[w.heap.size]? = some (.cells #[.slice A0 l0.length c0] 30 (0, 0))) ∧ Aside0 (Below w.heap.size w wr))
  case atStart => exact ⟨0, rfl, by omega, by omega, HCC, HK2, HB2⟩
  case round =>
    obtain ⟨i, rfl, hi, hgg, HCi, HK, HB⟩ := hrel
    by_cases hlt : i < ll.length
    · have hlt1 : (i : Int) < (ll.length : Int) := by omega
      have hi0 : (0 : Int) ≤ (i : Int) := by omega
      obtain ⟨ad, Ap, cp, e, hx, hlp, hCp⟩ := at_rows HR1.out i hlt
      cases e
      replace hx := cell_blk_ne hx HB.out
      have hnx := HCi.out
      rw [List.drop_eq_getElem_cons hlt, ← rdL_eq ll i hlt] at hnx
      obtain ⟨b, hb, hbt, hbf⟩ := icC_next hnx
      have HBT := Aside0.mk hbt
      have HBF := Aside0.mk hbf
      have hbx : wr.cell? ⟨w.heap.size, 0, none⟩ = some (.slice A0 l0.length c0) := (blk_cell HK.out 0).trans rfl
      have HCALL := Aside0.mk (impl_isCode.calls k A0 c0 l0 Ap cp (rdL ll i) b wr (Kd.C_below HR0.out HB.out) HC0.out (Kd.C_below hCp HB.out) hlp hb)
      obtain ⟨p, hpe⟩ : ∃ p, p = rdL ll i := ⟨_, rfl⟩
      rw [← hpe] at hx hlp HCALL
      clear hpe hnx hbt hbf hCp hb
      go_wp2_with fail
      refine HCALL.out.mono ?_
      rintro e w4 ⟨rfl, hb4⟩
      have HB4 := Aside0.mk (below_step HB.out hb4)
      have HK4 := Aside0.mk (blk_below HK.out hb4)
      clear hb4 HCALL
      cases b with
      | true =>
        have HCn := Aside0.mk (HBT.out rfl)
        go_wp2
        go_roundg (ll.length - (i + 1))
        case measure => omega
        case rel => exact ⟨i + 1, by go_num, by omega, by omega, HCn, HK4, HB4⟩
      | false =>
        have hcf := HBF.out rfl
        subst hcf
        go_wp2
        go_ret2
        exact ⟨rfl, HB4.out⟩
    · obtain rfl : i = ll.length := by omega
      have hlt1 : ¬ (ll.length : Int) < (ll.length : Int) := by omega
      have hct : c = true := by
        have h1 := HCi.out
        rw [List.drop_of_length_le (Nat.le_refl _)] at h1
        exact (Option.some.inj h1).symm
      subst hct
      have HI0 := Aside0.mk (show icI k l0 (ll.drop (1 - 1)) = some d from HCI.out rfl)
      clear HCI
      go_wp2
      go_loopg [8] ll.length (fun gg s8 wr => ∃ i : Nat, s8 = .int .i64 i ∧ 1 ≤ i ∧ i ≤ ll.length + 1 ∧ ll.length - i ≤ gg ∧ Aside0 (icI k l0 (ll.drop (i - 1)) = some d) ∧ Aside0 (wr.heap[w.heap.size]? = some (.cells #[.slice A0 l0.length c0] 30 (0, 0))) ∧ Aside0 (Below w.heap.size w wr))
      case atStart => exact ⟨1, rfl, by omega, by omega, by omega, HI0, HK, HB⟩
      case round =>
        obtain ⟨i, rfl, hi1, hi2, hgi, HIi, HKi, HBi⟩ := hrel
        by_cases hlt : i < ll.length
        · have hil : (i : Int) < (ll.length : Int) := by omega
          have hi0 : (0 : Int) ≤ (i : Int) := by omega
          obtain ⟨m, hm⟩ : ∃ m, i = m + 1 := ⟨i - 1, by omega⟩
          have hm0 : (0 : Int) ≤ (m : Int) := by omega
          have hml : (m : Int) < (ll.length : Int) := by omega
          have hsub : IntKind.i64.wrap ((i : Int) - 1) = (m : Int) := by rw [IntKind.wrap_i64]; omega
          obtain ⟨ad, Ap, cp, e, hx, hlp, hCp⟩ := at_rows HR1.out i hlt
          cases e
          obtain ⟨ad2, Aq, cq, e2, hy, hlq, hCq⟩ := at_rows HR1.out m (by omega)
          cases e2
          have hxw := hx
          have hyw := hy
          replace hx := cell_blk_ne hx HBi.out
          clear hy
          have hnx := HIi.out
          rw [show i - 1 = m by omega, List.drop_eq_getElem_cons (show m < ll.length by omega), ← rdL_eq ll m (by omega), ← hm, List.drop_eq_getElem_cons hlt, ← rdL_eq ll i hlt] at hnx
          obtain ⟨h, hh, hal, hin, hat, haf⟩ := icI_next hnx
          rw [rdL_eq ll i hlt, ← List.drop_eq_getElem_cons hlt] at haf
          have HAT := Aside0.mk hat
          have HAF := Aside0.mk haf
          have HIN := Aside0.mk hin
          have HCp := Aside0.mk hCp
          have HCq := Aside0.mk hCq
          have HH := Aside0.mk hh
          have HLP := Aside0.mk hlp
          obtain ⟨p, hpe⟩ : ∃ p, p = rdL ll i := ⟨_, rfl⟩
          rw [← hpe] at hx hxw HCp HH HLP
          have HX := Aside0.mk hxw
          clear hxw
          obtain ⟨q, hqe⟩ : ∃ q, q = rdL ll m := ⟨_, rfl⟩
          rw [← hqe] at hyw HCq HIN HAT HAF hlq hal
          have HY := Aside0.mk hyw
          clear hyw
          have HM := Aside0.mk hm
          clear hm hpe hqe hnx hat haf hin hCp hCq hh hlp
          have hbx : wr.cell? ⟨w.heap.size, 0, none⟩ = some (.slice A0 l0.length c0) := (blk_cell HKi.out 0).trans rfl
          go_wp2_with fail
          have HKd := Aside0.mk (blk_drew HKi.out)
          have HBd := Aside0.mk (below_drew1 HBi.out)
          refine start_ (n := 8) (S := fun w' => w'.cell? ⟨w.heap.size, 0, none⟩ = some (.slice A0 l0.length c0) ∧ w'.cell? (ad.add i) = some (.slice Ap p.length cp)) (ds := []) #[false, false, false, false, false, false, false, false] (by kernel_rfl) rfl rfl ⟨hbx, hx⟩ (fun hHeld => ?_)
          generalize wr.drew = wd at HKd HBd hHeld ⊢
          refine take_ (i := 0) (N := some 33) (v := ?_) (a' := ?_) #[true, false, false, false, false, false, false, false] rfl rfl (by kernel_rfl) (fun _ _ _ h => h) (Or.inl ⟨by rfl, ?_⟩) hHeld ?_ ?_
          rotate_left
          · rintro w' ⟨s0, s1⟩
            go_simp
            with_reducible rfl
          rotate_left
          · simp only [Act.put, List.setIfInBounds_toArray, List.set_cons_zero, List.set_cons_succ, i64_w, i32_w]
            rfl
          refine pure_ (i := 1) (N := some 34) (v := ?_) (a' := ?_) #[true, true, false, false, false, false, false, false] rfl rfl (by kernel_rfl) (fun _ _ _ h => h) (Or.inl ⟨by rfl, ?_⟩) ?_ ?_
          rotate_left
          · intro w'
            go_simp
            with_reducible rfl
          rotate_left
          · simp only [Act.put, List.setIfInBounds_toArray, List.set_cons_zero, List.set_cons_succ, i64_w, i32_w]
            rfl
          refine pure_ (i := 2) (N := some 35) (v := ?_) (a' := ?_) #[true, true, true, false, false, false, false, false] rfl rfl (by kernel_rfl) (fun _ _ _ h => h) (Or.inl ⟨by rfl, ?_⟩) ?_ ?_
          rotate_left
          · intro w'
            go_simp
            with_reducible rfl
          rotate_left
          · simp only [Act.put, List.setIfInBounds_toArray, List.set_cons_zero, List.set_cons_succ, i64_w, i32_w]
            rfl
          refine pure_ (i := 3) (N := some 36) (v := ?_) (a' := ?_) #[true, true, true, true, false, false, false, false] rfl rfl (by kernel_rfl) (fun _ _ _ h => h) (Or.inl ⟨by rfl, ?_⟩) ?_ ?_
          rotate_left
          · intro w'
            go_simp
            with_reducible rfl
          rotate_left
          · simp only [Act.put, List.setIfInBounds_toArray, List.set_cons_zero, List.set_cons_succ, i64_w, i32_w]
            rfl
          refine take_ (i := 4) (N := some 37) (v := ?_) (a' := ?_) #[true, true, true, true, true, false, false, false] rfl rfl (by kernel_rfl) (fun _ _ _ h => h) (Or.inl ⟨by rfl, ?_⟩) hHeld ?_ ?_
          rotate_left
          · rintro w' ⟨s0, s1⟩
            go_simp
            with_reducible rfl
          rotate_left
          · simp only [Act.put, List.setIfInBounds_toArray, List.set_cons_zero, List.set_cons_succ, i64_w, i32_w]
            rfl
          have hsz := HBd.out.size
          refine join_ (σ := Value × Nat) 1 #[true, true, true, true, true, true, true, false] (fun s => [(38, s.1), (9, .pointer (some ⟨s.2, 0, none⟩))]) (fun s w' => w'.heap[s.2]? = some (.cells #[.slice none 0 0] 54 (0, 0)) ∧ Kd.R Kd.bool 4 w' w.heap.size (fun j => j ≠ s.2) s.1 h ∧ Below w.heap.size w w' ∧ w.heap.size < s.2 ∧ w'.heap[w.heap.size]? = some (.cells #[.slice A0 l0.length c0] 30 (0, 0))) ?_ (fun HJ => ?_)
          rotate_left
          · refine two_ (i := 5) (j := 6) (Ni := some 38) (Nj := some 9) #[true, true, true, true, true, true, false, false] #[true, true, true, true, true, false, true, false] rfl rfl rfl rfl (by kernel_rfl) (by decide) (by decide) (fun K hK => ?_) (fun K hK => ?_)
            · refine goes_ Try.func38 (by kernel_rfl) rfl #[.agg #[.slice A0 l0.length c0], .slice Ap p.length cp] (by rfl) rfl rfl (by (try simp only [List.map_toArray, List.map_cons, List.map_nil]); first | done | rfl) ?_
              refine (impl_marks.calls k A0 c0 l0 Ap cp p h wd (Kd.C_below HR0.out HBd.out) HC0.out (Kd.C_below HCp.out HBd.out) HLP.out HH.out).mono ?_
              rintro e w5 ⟨v5, rfl, hR5, hb5⟩
              refine ⟨_, rfl, ?_⟩
              have hB5 := below_step HBd.out hb5
              have hK5 := blk_below HKd.out hb5
              refine hK.out _ _ ⟨(blk_cell hK5 0).trans rfl, (hb5.cell (World.block_lt_of_cell? _ _ hHeld.2)).trans hHeld.2⟩ (fun hHeld5 => ?_)
              clear hK K
              refine norm_ (a' := ?_) ?_ ?_
              rotate_left
              · show Act.put _ (some 38) _ = _
                simp only [Act.put, List.setIfInBounds_toArray, List.set_cons_zero, List.set_cons_succ, i64_w, i32_w]
                rfl
              refine one_ (i := 6) (N := some 9) #[true, true, true, true, true, true, true, false] rfl rfl (by kernel_rfl) (by decide) (fun K hK => ?_)
              refine value_ (w1 := w5.alloc (.cells #[.slice none 0 0] 54)) (v := .pointer (some ⟨w5.heap.size, 0, none⟩)) (by rfl) rfl (by go_simp) ?_
              have hKa := blk_alloc hK5 (.cells #[.slice none 0 0] 54)
              refine hK.out _ _ ⟨(blk_cell hKa 0).trans rfl, (World.cell?_alloc_lt _ _ _ (World.block_lt_of_cell? _ _ hHeld5.2)).trans hHeld5.2⟩ (fun _ => ?_)
              clear hK K
              exact HJ (v5, w5.heap.size) _ ⟨blk_new _ _, Kd.R_mono (Kd.R_lower (Kd.R_alloc (Kd.R_bound hR5) _) hsz) (fun j hj => by have := hj.2.2.1; show j ≠ w5.heap.size; omega), below_alloc hB5 _, blk_lt hK5, hKa⟩
            · refine value_ (w1 := wd.alloc (.cells #[.slice none 0 0] 54)) (v := .pointer (some ⟨wd.heap.size, 0, none⟩)) (by rfl) rfl (by go_simp) ?_
              have hKa := blk_alloc HKd.out (.cells #[.slice none 0 0] 54)
              have hBa := below_alloc HBd.out (.cells #[.slice none 0 0] 54)
              refine hK.out _ _ ⟨(blk_cell hKa 0).trans rfl, (World.cell?_alloc_lt _ _ _ (World.block_lt_of_cell? _ _ hHeld.2)).trans hHeld.2⟩ (fun hHeld5 => ?_)
              clear hK K
              refine norm_ (a' := ?_) ?_ ?_
              rotate_left
              · show Act.put _ (some 9) _ = _
                simp only [Act.put, List.setIfInBounds_toArray, List.set_cons_zero, List.set_cons_succ, i64_w, i32_w]
                rfl
              refine one_ (i := 5) (N := some 38) #[true, true, true, true, true, true, true, false] rfl rfl (by kernel_rfl) (by decide) (fun K hK => ?_)
              refine goes_ Try.func38 (by kernel_rfl) rfl #[.agg #[.slice A0 l0.length c0], .slice Ap p.length cp] (by rfl) rfl rfl (by (try simp only [List.map_toArray, List.map_cons, List.map_nil]); first | done | rfl) ?_
              refine (impl_marks.calls k A0 c0 l0 Ap cp p h (wd.alloc (.cells #[.slice none 0 0] 54)) (Kd.C_below HR0.out hBa) HC0.out (Kd.C_below HCp.out hBa) HLP.out HH.out).mono ?_
              rintro e w5 ⟨v5, rfl, hR5, hb5⟩
              refine ⟨_, rfl, ?_⟩
              have hK5 := blk_below hKa hb5
              have hsa := World.size_alloc wd (.cells #[.slice none 0 0] 54)
              refine hK.out _ _ ⟨(blk_cell hK5 0).trans rfl, (hb5.cell (World.block_lt_of_cell? _ _ hHeld5.2)).trans hHeld5.2⟩ (fun _ => ?_)
              clear hK K
              exact HJ (v5, wd.heap.size) _ ⟨blk_below (blk_new wd _) hb5, Kd.R_mono (Kd.R_lower (Kd.R_bound hR5) (by omega)) (fun j hj => by have := hj.2.1; show j ≠ wd.heap.size; omega), below_step hBa hb5, blk_lt HKd.out, hK5⟩
          · rintro ⟨v5, b⟩ w6 ⟨hkb, hR6, hB6, hlt6, hK6⟩
            dsimp only at hkb hR6 hlt6 ⊢
            refine norm_ (a' := ?_) ?_ ?_
            rotate_left
            · simp only [putAll, Act.put, List.setIfInBounds_toArray, List.set_cons_zero, List.set_cons_succ, i64_w, i32_w]
              rfl
            have hc6 : w6.cell? ⟨b, 0, none⟩ = some (.slice none 0 0) := (blk_cell hkb 0).trans rfl
            have hf6 : w6.frozen? ⟨b, 0, none⟩ = false := blk_frozen hkb 0
            obtain ⟨A5, c5, hv5⟩ := Kd.R_slice hR6
            subst hv5
            refine one_ (i := 7) (N := none) #[true, true, true, true, true, true, true, true] rfl rfl (by kernel_rfl) (by decide) (fun K hK => ?_)
            refine skip_ (w1 := w6.setCell ⟨b, 0, none⟩ (.slice A5 h.length c5)) (by rfl) rfl (by go_simp) ?_
            have hk7 := blk_set hkb 0 (.slice A5 h.length c5)
            have hR7 : Kd.R Kd.bool 4 (w6.setCell ⟨b, 0, none⟩ (.slice A5 h.length c5)) w.heap.size (fun j => j ≠ b) (.slice A5 h.length c5) h := Kd.R_far (p := ⟨b, 0, none⟩) hR6 (fun j hj => hj) _
            have hB7 : Below w.heap.size w (w6.setCell ⟨b, 0, none⟩ (.slice A5 h.length c5)) := below_set hB6 (Nat.le_of_lt hlt6)
            have hK7 := blk_far (p := ⟨b, 0, none⟩) hK6 (Nat.ne_of_lt hlt6) (.slice A5 h.length c5)
            have hy7 : (w6.setCell ⟨b, 0, none⟩ (.slice A5 h.length c5)).cell? (ad.add m) = some (.slice Aq q.length cq) := (hB7.cell (World.block_lt_of_cell? _ _ HY.out)).trans HY.out
            have hx7 : (w6.setCell ⟨b, 0, none⟩ (.slice A5 h.length c5)).cell? (ad.add i) = some (.slice Ap p.length cp) := (hB7.cell (World.block_lt_of_cell? _ _ HX.out)).trans HX.out
            refine hK.out _ _ ⟨(blk_cell hK7 0).trans rfl, hx7⟩ (fun _ => ?_)
            clear hK K
            refine done_ (by kernel_rfl) ?_
            have hk8 : (w6.setCell ⟨b, 0, none⟩ (.slice A5 h.length c5)).heap[b]? = some (.cells #[.slice A5 h.length c5] 54 (0, 0)) := hk7
            have HK8 := Aside0.mk hk8
            have HR8 := Aside0.mk hR7
            have HB8 := Aside0.mk hB7
            have HS8 := Aside0.mk hK7
            clear hk7 hk8 hR7 hB7 hK7 hx7 hkb hR6 hB6 hlt6 hK6 hc6 hf6
            generalize w6.setCell ⟨b, 0, none⟩ (.slice A5 h.length c5) = w8 at HK8 HR8 HB8 HS8 hy7 ⊢
            have HCF := Aside0.mk (containsFuncOn (fun x => !rdb h x) 40 #[.pointer (some ⟨b, 0, none⟩)] egIc Aq cq q w8 (Kd.C_below HCq.out HB8.out) (Nat.le_trans hal (by decide)) (fun wq x hx hb => ic_asks x b w.heap.size (fun j => j ≠ b) (.slice A5 h.length c5) h wq (blk_below HK8.out hb) (Kd.R_below HR8.out hb) (HIN.out x hx).1 (HIN.out x hx).2))
            go_wp2_with fail
            refine HCF.out.mono ?_
            rintro e w9 ⟨rfl, hb9⟩
            have HB9 := Aside0.mk (below_step HB8.out hb9)
            have HS9 := Aside0.mk (blk_below HS8.out hb9)
            clear hb9 HCF
            by_cases hany : (q.any fun x => !rdb h x) = true
            · have hdf := HAT.out hany
              subst hdf
              rw [hany]
              go_wp2
              go_ret2
              exact ⟨rfl, HB9.out⟩
            · have hanf : (q.any fun x => !rdb h x) = false := by simpa using hany
              have HIn := Aside0.mk (HAF.out hanf)
              rw [hanf]
              clear hany hanf
              go_wp2
              go_roundg (ll.length - (i + 1))
              case measure => omega
              case rel => exact ⟨i + 1, by go_num, by omega, by omega, by omega, HIn, HS9, HB9⟩
        · have hil : ¬ (i : Int) < (ll.length : Int) := by omega
          have hdt : d = true := by
            have h1 := HIi.out
            have h2 : (ll.drop (i - 1)).length ≤ 1 := by rw [List.length_drop]; omega
            rcases hq : ll.drop (i - 1) with _ | ⟨a, _ | ⟨b, l⟩⟩
            · rw [hq] at h1; exact (Option.some.inj h1).symm
            · rw [hq] at h1; exact (Option.some.inj h1).symm
            · rw [hq] at h2; simp at h2
          subst hdt
          go_wp2
          go_ret2
          exact ⟨rfl, HBi.out⟩
set_option maxHeartbeats 1000000 in
set_option maxRecDepth 100000 in
theorem ic_out (k : Nat) (A0 : Option Addr) (c0 : Nat) (l0 : List Int) (A1 : Option Addr) (c1 : Nat) (ll : List (List Int)) (w : World) (hr0 : Kd.C (Kd.int .i64) w A0 l0.length l0) (hc0 : l0.length ≤ c0) (b : Bool) (hsp : impl_IsSpace.f k l0 = some b) (hb : b = true → 10 < ll.length) :
    Calls Try.prog 13 #[.agg #[.slice A0 l0.length c0], .slice A1 ll.length c1] w fun e w' => e = .returned (.tuple #[.bool false, .int .i64 (if b = true then 2 else 1)]) ∧ Below w.heap.size w w' := by
  have HR0 := Aside0.mk hr0
  have HC0 := Aside0.mk hc0
  have HSP := Aside0.mk hsp
  have HBB := Aside0.mk hb
  clear hr0 hc0 hsp hb
  go_enter Try.func13, Try.ntmps13
  go_wp2_with fail
  have hb1 : Below w.heap.size w (w.alloc (.cells #[.slice A0 l0.length c0] 30)) := below_alloc (Below.refl _ _) _
  generalize w.alloc (.cells #[.slice A0 l0.length c0] 30) = W1 at hb1 ⊢
  refine (impl_IsSpace.calls k A0 c0 l0 b W1 (Kd.C_below HR0.out hb1) HC0.out HSP.out).mono ?_
  rintro e1 w2 ⟨rfl, hb2⟩
  have HB2 := Aside0.mk (below_step hb1 hb2)
  clear hb1 hb2
  cases b with
  | false =>
    go_wp2
    go_ret2
    exact ⟨rfl, HB2.out⟩
  | true =>
    have h10 := HBB.out rfl
    have h10d : decide ((ll.length : Int) > 10) = true := decide_eq_true (by omega)
    clear h10
    go_wp2
    go_ret2
    exact ⟨rfl, HB2.out⟩
theorem impl_IsChain.calls (k : Nat) (A0_0 : Option Addr) (c0_0 : Nat) (l0_0 : List Int) (A1 : Option Addr) (c1 : Nat) (l1 : List (List Int)) (r1 : Bool) (r2 : Int) (w : World) (hr0_0 : Kd.C (Kd.int .i64) w A0_0 l0_0.length l0_0) (hc0_0 : l0_0.length ≤ c0_0) (hr1 : Kd.C (Kd.slice 2 (Kd.int .i64)) w A1 l1.length l1) (hc1 : l1.length ≤ c1) (h : impl_IsChain.f k l0_0 l1 = some (r1, r2)) :
    Calls Try.prog 13 #[.agg #[.slice A0_0 l0_0.length c0_0], .slice A1 l1.length c1] w fun e w' => e = .returned (.tuple #[.bool r1, .int .i64 r2]) ∧ Below w.heap.size w w' := by
  unfold impl_IsChain.f at h
  obtain ⟨b, hb, h⟩ := Option.bind_eq_some_iff.1 h
  by_cases h0 : b = true
  · rw [if_pos h0] at h
    subst h0
    by_cases h1 : 10 < l1.length
    · rw [if_pos h1] at h
      injection h with h
      injection h with e1 e2
      subst e1 e2
      exact ic_out k A0_0 c0_0 l0_0 A1 c1 l1 w hr0_0 hc0_0 true hb (fun _ => h1)
    · rw [if_neg h1] at h
      obtain ⟨c, hc, h⟩ := Option.bind_eq_some_iff.1 h
      by_cases h2 : c = true
      · rw [if_pos h2] at h
        subst h2
        obtain ⟨d, hd, h⟩ := Option.bind_eq_some_iff.1 h
        injection h with h
        injection h with e1 e2
        subst e1 e2
        exact ic_walk k A0_0 c0_0 l0_0 A1 c1 l1 w hr0_0 hc0_0 hr1 hc1 hb (by omega) true d hc (fun _ => hd)
      · rw [if_neg h2] at h
        injection h with h
        injection h with e1 e2
        subst e1 e2
        have hcf : c = false := by simpa using h2
        subst hcf
        exact ic_walk k A0_0 c0_0 l0_0 A1 c1 l1 w hr0_0 hc0_0 hr1 hc1 hb (by omega) false false hc (fun h => by cases h)
  · rw [if_neg h0] at h
    injection h with h
    injection h with e1 e2
    subst e1 e2
    have hbf : b = false := by simpa using h0
    subst hbf
    exact ic_out k A0_0 c0_0 l0_0 A1 c1 l1 w hr0_0 hc0_0 false hb (fun h => by cases h)

/-! ### laws_eqInt64S: function 19 -/
def laws_eqInt64S.l0 : Nat → List Int → List Int → Int → Option (Bool)
  | 0, _, _, _ => none
  | k + 1, x0, x1, x5 => if x5 < (x0.length : Int) then (if 0 ≤ x5 then (if x5 < (x1.length : Int) then (if (rd x0 x5) = (rd x1 x5) then (laws_eqInt64S.l0 k x0 x1 (wrap64 (x5 + 1))) else (some false)) else (none)) else (none)) else (some true)
def laws_eqInt64S.f (k : Nat) (l0 : List Int) (l1 : List Int) : Option (Bool) := if (l0.length : Int) = (l1.length : Int) then (laws_eqInt64S.l0 k l0 l1 0) else (some false)
theorem laws_eqInt64S.mono_l : ∀ k, (∀ y0 y1 y2, LeO (laws_eqInt64S.l0 k y0 y1 y2) (laws_eqInt64S.l0 (k + 1) y0 y1 y2))
  | 0 => fun _ _ _ r h => by simp [laws_eqInt64S.l0] at h
  | k + 1 => by
    have ih0 := laws_eqInt64S.mono_l k
    · intro y0 y1 y2
      unfold laws_eqInt64S.l0
      repeat' first
      | (with_reducible exact ih0 _ _ _)
      | (with_reducible exact LeO.refl _)
      | (with_reducible exact LeO.none _)
      | (with_reducible refine LeO.ite ?_ ?_)
      | (with_reducible refine LeO.bind ?_ (fun _ => ?_))
      | exact ih0 _ _ _
      | exact LeO.none _
      | refine LeO.ite ?_ ?_
      | refine LeO.bind ?_ (fun _ => ?_)
theorem laws_eqInt64S.mono : ∀ a0 a1 k, LeO (laws_eqInt64S.f k a0 a1) (laws_eqInt64S.f (k + 1) a0 a1) := by
  intro a0 a1 k
  have ih0 := laws_eqInt64S.mono_l k
  unfold laws_eqInt64S.f
  repeat' first
      | (with_reducible exact ih0 _ _ _)
      | (with_reducible exact LeO.refl _)
      | (with_reducible exact LeO.none _)
      | (with_reducible refine LeO.ite ?_ ?_)
      | (with_reducible refine LeO.bind ?_ (fun _ => ?_))
      | exact ih0 _ _ _
      | exact LeO.none _
      | refine LeO.ite ?_ ?_
      | refine LeO.bind ?_ (fun _ => ?_)
set_option maxHeartbeats 8000000 in
set_option maxRecDepth 100000 in
theorem laws_eqInt64S.calls (k : Nat) (A0 : Option Addr) (c0 : Nat) (l0 : List Int) (A1 : Option Addr) (c1 : Nat) (l1 : List Int) (r : Bool) (w : World) (hr0 : Kd.C (Kd.int .i64) w A0 l0.length l0) (hc0 : l0.length ≤ c0) (hr1 : Kd.C (Kd.int .i64) w A1 l1.length l1) (hc1 : l1.length ≤ c1) (h : laws_eqInt64S.f k l0 l1 = some r) :
    Calls Try.prog 19 #[.slice A0 l0.length c0, .slice A1 l1.length c1] w fun e w' => e = .returned (.bool r) ∧ Drawn0 w w' := by
  have HR0 := Aside0.mk hr0
  have HC0 := Aside0.mk hc0
  clear hr0 hc0
  have HR1 := Aside0.mk hr1
  have HC1 := Aside0.mk hc1
  clear hr1 hc1
  have H : (if (l0.length : Int) = (l1.length : Int) then (laws_eqInt64S.l0 k l0 l1 0) else (some false)) = some r := h
  clear h
  by_cases c3 : (l0.length : Int) = (l1.length : Int)
  · rw [if_pos c3] at H
    have c3b0 : ((l0.length : Int) == (l1.length : Int)) = true := beq_iff_eq.mpr c3
    have c3b1 : ((l0.length : Int) != (l1.length : Int)) = false := bne_eq_false_iff_eq.mpr c3
    have c3b2 : (l0.length == l1.length) = true := by first | simpa using c3 | (simp at c3 ⊢; omega)
    clear c3
    have H' := Aside0.mk H
    clear H
    go_enter Try.func19, Try.ntmps19
    go_wp2
    repeat (go_quiet (fail); try go_wp2)
    go_loopg [5] k (fun kq v5 w' => ∃ (x5_1 : Int), v5 = .int .i64 x5_1 ∧ Aside0 (laws_eqInt64S.l0 kq l0 l1 x5_1 = some r) ∧ Aside0 (kq ≤ k) ∧ Drawn0 w w')
    case atStart => exact ⟨(0), (by first | rfl | (simp; done) | (simp [*]; done)), H', ⟨Nat.le_refl _⟩, by repeat (first | exact Drawn0.refl _ | apply Drawn0.step)⟩
    case round =>
      clear H'
      try clear c1
      try clear p2
      try clear c3
      try clear c3b0
      try clear c3b1
      try clear c3b2
      obtain ⟨x5_1, rfl, HA, HK1, ⟨m1, rfl⟩⟩ := hrel
      cases gk with
      | zero => exact absurd HA.out (by simp [laws_eqInt64S.l0])
      | succ k1 =>
        have H := HA.out
        clear HA
        simp only [laws_eqInt64S.l0] at H
        by_cases c4 : x5_1 < (l0.length : Int)
        · rw [if_pos c4] at H
          have c4b0 : decide (x5_1 < (l0.length : Int)) = true := decide_eq_true c4
          clear c4
          by_cases c5 : 0 ≤ x5_1
          · rw [if_pos c5] at H
            have c5b0 : decide (0 ≤ x5_1) = true := decide_eq_true c5
            clear c5
            by_cases c6 : x5_1 < (l1.length : Int)
            · rw [if_pos c6] at H
              have c6b0 : decide (x5_1 < (l1.length : Int)) = true := decide_eq_true c6
              clear c6
              by_cases c7 : (rd l0 x5_1) = (rd l1 x5_1)
              · rw [if_pos c7] at H
                have c7b0 : ((rd l0 x5_1) == (rd l1 x5_1)) = true := beq_iff_eq.mpr c7
                have c7b1 : ((rd l0 x5_1) != (rd l1 x5_1)) = false := bne_eq_false_iff_eq.mpr c7
                clear c7
                have H' := Aside0.mk H
                clear H
                have p149 : 0 ≤ (x5_1 : Int) := of_decide_eq_true (by first | (with_reducible assumption) | assumption)
                have q149 : x5_1 < (l0.length : Int) := of_decide_eq_true (by first | (with_reducible assumption) | assumption)
                obtain ⟨ad149, e149, hx149_0⟩ := Kd.at_int HR0.out x5_1 p149 q149
                cases e149
                replace p149 := eq_true p149
                replace q149 := eq_true q149
                have p150 : 0 ≤ (x5_1 : Int) := of_decide_eq_true (by first | (with_reducible assumption) | assumption)
                have q150 : x5_1 < (l1.length : Int) := of_decide_eq_true (by first | (with_reducible assumption) | assumption)
                obtain ⟨ad150, e150, hx150_0⟩ := Kd.at_int HR1.out x5_1 p150 q150
                cases e150
                replace p150 := eq_true p150
                replace q150 := eq_true q150
                go_wp2
                repeat (go_quiet (fail); try go_wp2)
                go_roundg k1
                case measure => have := HK1.out; omega
                case rel => exact ⟨(wrap64 (x5_1 + 1)), (by first | rfl | (simp; done) | (simp [*]; done)), H', ⟨by have := HK1.out; omega⟩, by repeat (first | exact Drawn0.refl _ | apply Drawn0.step)⟩
              · rw [if_neg c7] at H
                have c7b0 : ((rd l0 x5_1) == (rd l1 x5_1)) = false := beq_eq_false_iff_ne.mpr c7
                have c7b1 : ((rd l0 x5_1) != (rd l1 x5_1)) = true := bne_iff_ne.mpr c7
                obtain rfl := Option.some.inj H
                have p149 : 0 ≤ (x5_1 : Int) := of_decide_eq_true (by first | (with_reducible assumption) | assumption)
                have q149 : x5_1 < (l0.length : Int) := of_decide_eq_true (by first | (with_reducible assumption) | assumption)
                obtain ⟨ad149, e149, hx149_0⟩ := Kd.at_int HR0.out x5_1 p149 q149
                cases e149
                replace p149 := eq_true p149
                replace q149 := eq_true q149
                have p150 : 0 ≤ (x5_1 : Int) := of_decide_eq_true (by first | (with_reducible assumption) | assumption)
                have q150 : x5_1 < (l1.length : Int) := of_decide_eq_true (by first | (with_reducible assumption) | assumption)
                obtain ⟨ad150, e150, hx150_0⟩ := Kd.at_int HR1.out x5_1 p150 q150
                cases e150
                replace p150 := eq_true p150
                replace q150 := eq_true q150
                go_wp2
                repeat (go_quiet (fail); try go_wp2)
                go_ret
                exact ⟨by first | rfl | (simp; done) | (simp [*]; done), by repeat (first | exact Drawn0.refl _ | apply Drawn0.step)⟩
            · rw [if_neg c6] at H
              exact absurd H (by simp)
          · rw [if_neg c5] at H
            exact absurd H (by simp)
        · rw [if_neg c4] at H
          have c4b0 : decide (x5_1 < (l0.length : Int)) = false := decide_eq_false c4
          clear c4
          obtain rfl := Option.some.inj H
          go_wp2
          repeat (go_quiet (fail); try go_wp2)
          go_ret
          exact ⟨by first | rfl | (simp; done) | (simp [*]; done), by repeat (first | exact Drawn0.refl _ | apply Drawn0.step)⟩
  · rw [if_neg c3] at H
    have c3b0 : ((l0.length : Int) == (l1.length : Int)) = false := beq_eq_false_iff_ne.mpr c3
    have c3b1 : ((l0.length : Int) != (l1.length : Int)) = true := bne_iff_ne.mpr c3
    have c3b2 : (l0.length == l1.length) = false := by first | simpa using c3 | (simp at c3 ⊢; omega)
    obtain rfl := Option.some.inj H
    go_enter Try.func19, Try.ntmps19
    go_wp2
    repeat (go_quiet (fail); try go_wp2)
    go_ret
    exact ⟨by first | rfl | (simp; done) | (simp [*]; done), by repeat (first | exact Drawn0.refl _ | apply Drawn0.step)⟩

/-! ### laws_eqSpace: function 14 -/
def laws_eqSpace.f (k : Nat) (l0_0 : List Int) (l1_0 : List Int) : Option (Bool) := (laws_eqInt64S.f k l0_0 l1_0).bind fun t153 => (if t153 = true then (some true) else (some false))
theorem laws_eqSpace.mono : ∀ a0 a1 k, LeO (laws_eqSpace.f k a0 a1) (laws_eqSpace.f (k + 1) a0 a1) := by
  intro a0 a1 k
  unfold laws_eqSpace.f
  repeat' first
      | (with_reducible exact laws_eqInt64S.mono _ _ _)
      | (with_reducible exact LeO.refl _)
      | (with_reducible exact LeO.none _)
      | (with_reducible refine LeO.ite ?_ ?_)
      | (with_reducible refine LeO.bind ?_ (fun _ => ?_))
      | exact laws_eqInt64S.mono _ _ _
      | exact LeO.none _
      | refine LeO.ite ?_ ?_
      | refine LeO.bind ?_ (fun _ => ?_)
set_option maxHeartbeats 8000000 in
set_option maxRecDepth 100000 in
theorem laws_eqSpace.calls (k : Nat) (A0_0 : Option Addr) (c0_0 : Nat) (l0_0 : List Int) (A1_0 : Option Addr) (c1_0 : Nat) (l1_0 : List Int) (r : Bool) (w : World) (hr0_0 : Kd.C (Kd.int .i64) w A0_0 l0_0.length l0_0) (hc0_0 : l0_0.length ≤ c0_0) (hr1_0 : Kd.C (Kd.int .i64) w A1_0 l1_0.length l1_0) (hc1_0 : l1_0.length ≤ c1_0) (h : laws_eqSpace.f k l0_0 l1_0 = some r) :
    Calls Try.prog 14 #[.agg #[.slice A0_0 l0_0.length c0_0], .agg #[.slice A1_0 l1_0.length c1_0]] w fun e w' => e = .returned (.bool r) ∧ Below w.heap.size w w' := by
  have hu30 := Try.underlying30
  have HR0_0 := Aside0.mk hr0_0
  have HC0_0 := Aside0.mk hc0_0
  clear hr0_0 hc0_0
  have HR1_0 := Aside0.mk hr1_0
  have HC1_0 := Aside0.mk hc1_0
  clear hr1_0 hc1_0
  have HB := Aside0.mk (Below.refl w.heap.size w)
  have H : ((laws_eqInt64S.f k l0_0 l1_0).bind fun t153 => (if t153 = true then (some true) else (some false))) = some r := h
  clear h
  replace H := Option.bind_eq_some_iff.mp H
  obtain ⟨t153, A30, H⟩ := H
  replace H : (if t153 = true then (some true) else (some false)) = some r := H
  have A3 := Aside0.mk A30
  clear A30
  by_cases c4 : t153 = true
  · subst c4
    have H1 : (some true) = some r := by rw [if_pos rfl] at H; exact H
    clear H
    have H := H1
    clear H1
    obtain rfl := Option.some.inj H
    go_enter Try.func14, Try.ntmps14
    go_wp2_with (first | ((with_reducible refine gate_dst (N := 2) rfl ?_); refine box_event ?hg (N := 2) ?hd (cs := #[.slice A0_0 l0_0.length c0_0]) (t := 30) ?hr ?_; (case hd => rfl); (case hg => rfl); (case hr => first | (go_simp; done) | (go_simp; rfl)); intro gb151 hg w5 hbox hb; have n0_ := Aside0.mk (below_step (by repeat (first | (with_reducible first | exact HB.out | apply below_alloc | apply pw_below_drewN | apply below_drew1) | exact HB.out)) hb); have n1_ := Aside0.mk (hbox); have n2_ := Aside0.mk ((by rw [hg]; exact (below_size (by repeat (first | (with_reducible first | exact HB.out | apply below_alloc | apply pw_below_drewN | apply below_drew1) | exact HB.out))) : w.heap.size ≤ gb151)); have n3_ := Aside0.mk ((by rw [hg]; exact (below_size (by repeat (first | (with_reducible first | exact HB.out | apply below_alloc | apply pw_below_drewN | apply below_drew1) | exact HB.out))) : w.heap.size ≤ gb151)); clear HB; have HB := n0_; have BK151 := n1_; have GW151 := n2_; have GE151 := n3_; clear n0_ n1_ n2_ n3_; clear hb hbox hg) | ((with_reducible refine gate_dst (N := 3) rfl ?_); refine box_event ?hg (N := 3) ?hd (cs := #[.slice A1_0 l1_0.length c1_0]) (t := 30) ?hr ?_; (case hd => rfl); (case hg => rfl); (case hr => first | (go_simp; done) | (go_simp; rfl)); intro gb152 hg w6 hbox hb; have n0_ := Aside0.mk (blk_below (g := gb151) (o := .cells #[.slice A0_0 l0_0.length c0_0] 30 (0, 0)) (by (with_reducible repeat (first | refine blk_drewN ?_ _ | refine blk_drew ?_ | refine blk_alloc ?_ _)); exact BK151.out) hb); have n1_ := Aside0.mk (below_step (by repeat (first | (with_reducible first | exact HB.out | apply below_alloc | apply pw_below_drewN | apply below_drew1 | refine below_set ?_ GE151.out) | exact HB.out)) hb); have n2_ := Aside0.mk (hbox); have n3_ := Aside0.mk ((by rw [hg]; exact (below_size (by repeat (first | (with_reducible first | exact HB.out | apply below_alloc | apply pw_below_drewN | apply below_drew1 | refine below_set ?_ GE151.out) | exact HB.out))) : w.heap.size ≤ gb152)); have n4_ := Aside0.mk ((by rw [hg]; exact (below_size (by repeat (first | (with_reducible first | exact HB.out | apply below_alloc | apply pw_below_drewN | apply below_drew1 | refine below_set ?_ GE151.out) | exact HB.out))) : w.heap.size ≤ gb152)); have n5_ := Aside0.mk ((by rw [hg]; exact Nat.ne_of_lt (blk_lt (g := gb151) (o := .cells #[.slice A0_0 l0_0.length c0_0] 30 (0, 0)) (by (with_reducible repeat (first | refine blk_drewN ?_ _ | refine blk_drew ?_ | refine blk_alloc ?_ _)); exact BK151.out)) : gb151 ≠ gb152)); have n6_ := Aside0.mk ((by rw [hg]; exact Nat.ne_of_gt (blk_lt (g := gb151) (o := .cells #[.slice A0_0 l0_0.length c0_0] 30 (0, 0)) (by (with_reducible repeat (first | refine blk_drewN ?_ _ | refine blk_drew ?_ | refine blk_alloc ?_ _)); exact BK151.out)) : gb152 ≠ gb151)); clear BK151; clear HB; have BK151 := n0_; have HB := n1_; have BK152 := n2_; have GW152 := n3_; have GE152 := n4_; have NB151_152 := n5_; have NB152_151 := n6_; clear n0_ n1_ n2_ n3_ n4_ n5_ n6_; clear hb hbox hg; have hnb7 := NB151_152.out; have hnc7 := NB152_151.out; have hcz8_0 : w6.cell? ⟨gb151, 0, none⟩ = some (.slice A0_0 l0_0.length c0_0) := (blk_cell BK151.out 0).trans rfl; have hfz8_0 := blk_frozen BK151.out 0; have hcz9_0 : w6.cell? ⟨gb152, 0, none⟩ = some (.slice A1_0 l1_0.length c1_0) := (blk_cell BK152.out 0).trans rfl; have hfz9_0 := blk_frozen BK152.out 0) | ((with_reducible refine gate_callee (f := 19) rfl ?_); refine goesL_ (some 9) rfl rfl Try.func19 (by kernel_rfl) rfl #[.slice A0_0 l0_0.length c0_0, .slice A1_0 l1_0.length c1_0] rfl (by (try simp only [List.map_toArray, List.map_cons, List.map_nil]); first | done | rfl | (simp only [List.length_drop, List.length_take]; rfl)) ?_; (with_reducible refine (laws_eqInt64S.calls k _ _ l0_0 _ _ l1_0 true _ ?side1 ?side2 ?side3 ?side4 A3.out).mono ?_); (case side1 => repeat (first | exact (Kd.C_below HR0_0.out HB.out) | (with_reducible refine Kd.C_alloc ?_ _) | (with_reducible refine Kd.C_drewN ?_ _) | (with_reducible refine Kd.C_drew ?_))); (case side2 => exact HC0_0.out); (case side3 => repeat (first | exact (Kd.C_below HR1_0.out HB.out) | (with_reducible refine Kd.C_alloc ?_ _) | (with_reducible refine Kd.C_drewN ?_ _) | (with_reducible refine Kd.C_drew ?_))); (case side4 => exact HC1_0.out); rintro e w' ⟨rfl, ⟨nd, rfl⟩⟩; refine ⟨_, rfl, ?_⟩))
    go_ret
    exact ⟨by first | rfl | (simp [errW_none, errW_some] <;> rfl) | (simp [*, errW_none, errW_some] <;> rfl), by repeat (first | (with_reducible first | exact HB.out | apply below_alloc | apply pw_below_drewN | apply below_drew1 | refine below_set ?_ GE151.out | refine below_set ?_ GE152.out) | exact HB.out)⟩
  · replace c4 := Bool.eq_false_iff.mpr c4
    subst c4
    have H1 : (some false) = some r := by rw [if_neg (show ¬ (false = true) by decide)] at H; exact H
    clear H
    have H := H1
    clear H1
    obtain rfl := Option.some.inj H
    go_enter Try.func14, Try.ntmps14
    go_wp2_with (first | ((with_reducible refine gate_dst (N := 2) rfl ?_); refine box_event ?hg (N := 2) ?hd (cs := #[.slice A0_0 l0_0.length c0_0]) (t := 30) ?hr ?_; (case hd => rfl); (case hg => rfl); (case hr => first | (go_simp; done) | (go_simp; rfl)); intro gb151 hg w10 hbox hb; have n0_ := Aside0.mk (below_step (by repeat (first | (with_reducible first | exact HB.out | apply below_alloc | apply pw_below_drewN | apply below_drew1) | exact HB.out)) hb); have n1_ := Aside0.mk (hbox); have n2_ := Aside0.mk ((by rw [hg]; exact (below_size (by repeat (first | (with_reducible first | exact HB.out | apply below_alloc | apply pw_below_drewN | apply below_drew1) | exact HB.out))) : w.heap.size ≤ gb151)); have n3_ := Aside0.mk ((by rw [hg]; exact (below_size (by repeat (first | (with_reducible first | exact HB.out | apply below_alloc | apply pw_below_drewN | apply below_drew1) | exact HB.out))) : w.heap.size ≤ gb151)); clear HB; have HB := n0_; have BK151 := n1_; have GW151 := n2_; have GE151 := n3_; clear n0_ n1_ n2_ n3_; clear hb hbox hg) | ((with_reducible refine gate_dst (N := 3) rfl ?_); refine box_event ?hg (N := 3) ?hd (cs := #[.slice A1_0 l1_0.length c1_0]) (t := 30) ?hr ?_; (case hd => rfl); (case hg => rfl); (case hr => first | (go_simp; done) | (go_simp; rfl)); intro gb152 hg w11 hbox hb; have n0_ := Aside0.mk (blk_below (g := gb151) (o := .cells #[.slice A0_0 l0_0.length c0_0] 30 (0, 0)) (by (with_reducible repeat (first | refine blk_drewN ?_ _ | refine blk_drew ?_ | refine blk_alloc ?_ _)); exact BK151.out) hb); have n1_ := Aside0.mk (below_step (by repeat (first | (with_reducible first | exact HB.out | apply below_alloc | apply pw_below_drewN | apply below_drew1 | refine below_set ?_ GE151.out) | exact HB.out)) hb); have n2_ := Aside0.mk (hbox); have n3_ := Aside0.mk ((by rw [hg]; exact (below_size (by repeat (first | (with_reducible first | exact HB.out | apply below_alloc | apply pw_below_drewN | apply below_drew1 | refine below_set ?_ GE151.out) | exact HB.out))) : w.heap.size ≤ gb152)); have n4_ := Aside0.mk ((by rw [hg]; exact (below_size (by repeat (first | (with_reducible first | exact HB.out | apply below_alloc | apply pw_below_drewN | apply below_drew1 | refine below_set ?_ GE151.out) | exact HB.out))) : w.heap.size ≤ gb152)); have n5_ := Aside0.mk ((by rw [hg]; exact Nat.ne_of_lt (blk_lt (g := gb151) (o := .cells #[.slice A0_0 l0_0.length c0_0] 30 (0, 0)) (by (with_reducible repeat (first | refine blk_drewN ?_ _ | refine blk_drew ?_ | refine blk_alloc ?_ _)); exact BK151.out)) : gb151 ≠ gb152)); have n6_ := Aside0.mk ((by rw [hg]; exact Nat.ne_of_gt (blk_lt (g := gb151) (o := .cells #[.slice A0_0 l0_0.length c0_0] 30 (0, 0)) (by (with_reducible repeat (first | refine blk_drewN ?_ _ | refine blk_drew ?_ | refine blk_alloc ?_ _)); exact BK151.out)) : gb152 ≠ gb151)); clear BK151; clear HB; have BK151 := n0_; have HB := n1_; have BK152 := n2_; have GW152 := n3_; have GE152 := n4_; have NB151_152 := n5_; have NB152_151 := n6_; clear n0_ n1_ n2_ n3_ n4_ n5_ n6_; clear hb hbox hg; have hnb12 := NB151_152.out; have hnc12 := NB152_151.out; have hcz13_0 : w11.cell? ⟨gb151, 0, none⟩ = some (.slice A0_0 l0_0.length c0_0) := (blk_cell BK151.out 0).trans rfl; have hfz13_0 := blk_frozen BK151.out 0; have hcz14_0 : w11.cell? ⟨gb152, 0, none⟩ = some (.slice A1_0 l1_0.length c1_0) := (blk_cell BK152.out 0).trans rfl; have hfz14_0 := blk_frozen BK152.out 0) | ((with_reducible refine gate_callee (f := 19) rfl ?_); refine goesL_ (some 9) rfl rfl Try.func19 (by kernel_rfl) rfl #[.slice A0_0 l0_0.length c0_0, .slice A1_0 l1_0.length c1_0] rfl (by (try simp only [List.map_toArray, List.map_cons, List.map_nil]); first | done | rfl | (simp only [List.length_drop, List.length_take]; rfl)) ?_; (with_reducible refine (laws_eqInt64S.calls k _ _ l0_0 _ _ l1_0 false _ ?side1 ?side2 ?side3 ?side4 A3.out).mono ?_); (case side1 => repeat (first | exact (Kd.C_below HR0_0.out HB.out) | (with_reducible refine Kd.C_alloc ?_ _) | (with_reducible refine Kd.C_drewN ?_ _) | (with_reducible refine Kd.C_drew ?_))); (case side2 => exact HC0_0.out); (case side3 => repeat (first | exact (Kd.C_below HR1_0.out HB.out) | (with_reducible refine Kd.C_alloc ?_ _) | (with_reducible refine Kd.C_drewN ?_ _) | (with_reducible refine Kd.C_drew ?_))); (case side4 => exact HC1_0.out); rintro e w' ⟨rfl, ⟨nd, rfl⟩⟩; refine ⟨_, rfl, ?_⟩))
    go_ret
    exact ⟨by first | rfl | (simp [errW_none, errW_some] <;> rfl) | (simp [*, errW_none, errW_some] <;> rfl), by repeat (first | (with_reducible first | exact HB.out | apply below_alloc | apply pw_below_drewN | apply below_drew1 | refine below_set ?_ GE151.out | refine below_set ?_ GE152.out) | exact HB.out)⟩

end Go.Proofs.Ythbfaefneoeadaa.PFnExactIsChain
