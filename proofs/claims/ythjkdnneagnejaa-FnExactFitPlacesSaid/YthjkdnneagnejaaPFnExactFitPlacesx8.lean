-- WALKS, by a program and by hand
import Derived.Test.YthjkdnneagnejaaPFnExactFitPlacesx0
import Derived.Test.YthjkdnneagnejaaPFnExactFitPlacesx6
import Derived.Test.YthjkdnneagnejaaPFnExactFitPlacesx7
namespace Go.Proofs.Ythjkdnneagnejaa.PFnExactFitPlaces
open Go.RowKit Go.Proofs.Ythjkdnneagnejaa.DG Go.Proofs.YthjkdnneagnejaaW.PrintWords Go.Proofs.YthjkdnneagnejaaW.PrintLast Go.Proofs.YthjkdnneagnejaaW.PrintMore
attribute [local go_sem] max2_int min2_int max_two min_two max_three min_three max_four min_four   -- for this text's walks alone
set_option linter.unusedVariables false
set_option linter.unusedSimpArgs false

/-! ### impl_digitsOfAll: function 135 -/
def impl_digitsOfAll.l0 : Nat → List (S73) → List Int → Int → Int → List Int → Option ((List (S73)))
  | 0, _, _, _, _, _ => none
  | k + 1, x5, x9, x10, x11, x204000 => if x11 < x10 then (if 0 ≤ x11 then (if x11 < (x9.length : Int) then ((impl_digitsOf.f k x204000 (rd x9 x11)).bind fun bt208 => (if x5.length < 17592186044416 then (impl_digitsOfAll.l0 k (x5 ++ [(⟨bt208.1, bt208.2.1, bt208.2.2.1, bt208.2.2.2.1, bt208.2.2.2.2.1, bt208.2.2.2.2.2.1, bt208.2.2.2.2.2.2.1, bt208.2.2.2.2.2.2.2⟩ : S73)]) x9 x10 (wrap64 (x11 + 1)) x204000) else (none))) else (none)) else (none)) else (some x5)
def impl_digitsOfAll.f (k : Nat) (l0_0 : List Int) (l1 : List Int) : Option ((List (S73))) := impl_digitsOfAll.l0 k (([] : List (S73))) l1 (l1.length : Int) 0 l0_0
theorem impl_digitsOfAll.mono_l : ∀ k, (∀ y0 y1 y2 y3 y4, LeO (impl_digitsOfAll.l0 k y0 y1 y2 y3 y4) (impl_digitsOfAll.l0 (k + 1) y0 y1 y2 y3 y4))
  | 0 => fun _ _ _ _ _ r h => by simp [impl_digitsOfAll.l0] at h
  | k + 1 => by
    have ih0 := impl_digitsOfAll.mono_l k
    · intro y0 y1 y2 y3 y4
      unfold impl_digitsOfAll.l0
      repeat' first
      | (with_reducible exact ih0 _ _ _ _ _)
      | (with_reducible exact impl_digitsOf.mono _ _ _)
      | (with_reducible exact LeO.refl _)
      | (with_reducible exact LeO.none _)
      | (with_reducible refine LeO.ite ?_ ?_)
      | (with_reducible refine LeO.bind ?_ (fun _ => ?_))
theorem impl_digitsOfAll.mono : ∀ a0 a1 k, LeO (impl_digitsOfAll.f k a0 a1) (impl_digitsOfAll.f (k + 1) a0 a1) := by
  intro a0 a1 k
  have ih0 := impl_digitsOfAll.mono_l k
  unfold impl_digitsOfAll.f
  repeat' first
      | (with_reducible exact ih0 _ _ _ _ _)
      | (with_reducible exact impl_digitsOf.mono _ _ _)
      | (with_reducible exact LeO.refl _)
      | (with_reducible exact LeO.none _)
      | (with_reducible refine LeO.ite ?_ ?_)
      | (with_reducible refine LeO.bind ?_ (fun _ => ?_))
set_option maxHeartbeats 8000000 in
set_option maxRecDepth 100000 in
theorem impl_digitsOfAll.calls (k : Nat) (A0_0 : Option Addr) (c0_0 : Nat) (l0_0 : List Int) (A1 : Option Addr) (c1 : Nat) (l1 : List Int) (r : List (S73)) (w : World) (hr0_0 : Kd.C (Kd.int .i64) w A0_0 l0_0.length l0_0) (hc0_0 : l0_0.length ≤ c0_0) (hr1 : Kd.C (Kd.int .i64) w A1 l1.length l1) (hc1 : l1.length ≤ c1) (h : impl_digitsOfAll.f k l0_0 l1 = some r) :
    Calls Try.prog 135 #[.agg #[.slice A0_0 l0_0.length c0_0], .slice A1 l1.length c1] w fun e w' => ∃ v0_ : Value, e = .returned (v0_) ∧ Kd.R k73 73 w' w.heap.size (fun _ => True) v0_ r ∧ Below w.heap.size w w' := by
  have hu28 := Try.underlying28
  have HR0_0 := Aside0.mk hr0_0
  have HC0_0 := Aside0.mk hc0_0
  clear hr0_0 hc0_0
  have HR1 := Aside0.mk hr1
  have HC1 := Aside0.mk hc1
  clear hr1 hc1
  have HB := Aside0.mk (Below.refl w.heap.size w)
  have H : (impl_digitsOfAll.l0 k (([] : List (S73))) l1 (l1.length : Int) 0 l0_0) = some r := h
  clear h
  obtain ⟨y204, hy204⟩ : ∃ y_ : List (S73), y_ = (([] : List (S73))) := ⟨_, rfl⟩
  replace H : (impl_digitsOfAll.l0 k y204 l1 (l1.length : Int) 0 l0_0) = some r := by first | (rw [hy204]; with_reducible exact H) | (have H2_ := (Option.bind_some _ _).symm.trans H; rw [hy204]; with_reducible exact H2_) | (have H2_ := (Option.bind_some _ _).symm.trans H; with_reducible exact H2_) | with_reducible exact H | (rw [hy204]; exact H) | exact H
  have Ny204 := Aside0.mk hy204
  clear hy204
  have H' := Aside0.mk H
  clear H
  go_enter Try.func135, Try.ntmps135
  go_wp2_with (first | ((with_reducible refine gate_dst (N := 2) rfl ?_); refine box_event ?hg (N := 2) ?hd (cs := #[.slice A0_0 l0_0.length c0_0]) (t := 28) ?hr ?_; (case hd => rfl); (case hg => rfl); (case hr => first | (go_simp; done) | (go_simp; rfl)); intro gb203 hg w3 hbox hb; have n0_ := Aside0.mk (below_step (by repeat (first | (with_reducible first | exact HB.out | apply below_alloc | apply pw_below_drewN | apply below_drew1) | exact HB.out)) hb); have n1_ := Aside0.mk (hbox); have n2_ := Aside0.mk ((by rw [hg]; exact (below_size (by repeat (first | (with_reducible first | exact HB.out | apply below_alloc | apply pw_below_drewN | apply below_drew1) | exact HB.out))) : w.heap.size ≤ gb203)); have n3_ := Aside0.mk ((by rw [hg]; exact (below_size (by repeat (first | (with_reducible first | exact HB.out | apply below_alloc | apply pw_below_drewN | apply below_drew1) | exact HB.out))) : w.heap.size ≤ gb203)); clear HB; have HB := n0_; have BK203 := n1_; have GW203 := n2_; have GE203 := n3_; clear n0_ n1_ n2_ n3_; clear hb hbox hg) | ((with_reducible refine gate_dst (N := 8) rfl ?_); refine Kd.R_lit k73 _ 73 ?hg (N := 8) ?hd (xs := ([] : List (S73))) (inner := []) (ok := fun _ => True) (okp := fun _ => True) ?hr ?hp (fun _ hk => hk) trivial (Below.refl _ _) (Nat.le_refl _) (by simp) ?_; (case hd => rfl); (case hg => rfl); (case hr => first | (go_simp; done) | (go_simp; rfl)); (case hp => exact (Reps.none _ _)); intro v205 w4 ho5 hb hg_ hnew_; clear hg_ hnew_; (first | rw [← Ny204.out] at ho5 | (simp only [Int.reduceToNat] at ho5; rw [← Ny204.out] at ho5)); have n0_ := Aside0.mk (Kd.R_lower ho5 (below_size (by repeat (first | (with_reducible first | exact HB.out | apply below_alloc | apply pw_below_drewN | apply below_drew1 | refine below_set ?_ GE203.out) | exact HB.out)))); have n1_ := Aside0.mk (blk_below (g := gb203) (o := .cells #[.slice A0_0 l0_0.length c0_0] 28 (0, 0)) (by (with_reducible repeat (first | refine blk_drewN ?_ _ | refine blk_drew ?_ | refine blk_alloc ?_ _)); exact BK203.out) hb); have n2_ := Aside0.mk (below_step (by repeat (first | (with_reducible first | exact HB.out | apply below_alloc | apply pw_below_drewN | apply below_drew1 | refine below_set ?_ GE203.out) | exact HB.out)) hb); clear BK203; clear HB; have HO206 := n0_; have BK203 := n1_; have HB := n2_; clear n0_ n1_ n2_; clear hb ho5))
  go_loopg [5, 11] k (fun kq v5 v11 w' => ∃ (x5_1 : List (S73)) (x11_1 : Int), v11 = .int .i64 x11_1 ∧ Aside0 (impl_digitsOfAll.l0 kq x5_1 l1 (l1.length : Int) x11_1 l0_0 = some r) ∧ Aside0 (kq ≤ k) ∧ Aside0 (Kd.R k73 73 w' w.heap.size (fun _ => True) v5 x5_1) ∧ Aside0 (w'.heap[gb203]? = some (.cells #[(.slice A0_0 l0_0.length c0_0)] 28 (0, 0))) ∧ Aside0 (Below w.heap.size w w'))
  case atStart => exact ⟨(y204), (0), (by first | rfl | (simp; done) | (simp [*]; done)), H', ⟨Nat.le_refl _⟩, ⟨by (with_reducible repeat (first | apply Kd.R_alloc | apply Kd.R_drewN | apply Kd.R_drew)); exact HO206.out⟩, ⟨by (with_reducible repeat (first | refine blk_drewN ?_ _ | refine blk_drew ?_ | refine blk_alloc ?_ _)); exact BK203.out⟩, ⟨by repeat (first | (with_reducible first | exact HB.out | apply below_alloc | apply pw_below_drewN | apply below_drew1 | refine below_set ?_ GE203.out) | exact HB.out)⟩⟩
  case round =>
    clear H'
    try clear c1
    try clear p2
    obtain ⟨x5_1, x11_1, rfl, HA, HK1, HO_5, BK203, HB⟩ := hrel
    cases gk with
    | zero => exact absurd HA.out (by simp [impl_digitsOfAll.l0])
    | succ k1 =>
      have H := HA.out
      clear HA
      simp only [impl_digitsOfAll.l0] at H
      by_cases c6 : x11_1 < (l1.length : Int)
      · rw [if_pos c6] at H
        have c6b0 : decide (x11_1 < (l1.length : Int)) = true := decide_eq_true c6
        clear c6
        by_cases c7 : 0 ≤ x11_1
        · rw [if_pos c7] at H
          have c7b0 : decide (0 ≤ x11_1) = true := decide_eq_true c7
          clear c7
          by_cases c8 : x11_1 < (l1.length : Int)
          · rw [if_pos c8] at H
            have c8b0 : decide (x11_1 < (l1.length : Int)) = true := decide_eq_true c8
            clear c8
            replace H := Option.bind_eq_some_iff.mp H
            obtain ⟨⟨t208, t209, t210, t211, t212, t213, t214, t215⟩, A90, H⟩ := H
            replace H : (if x5_1.length < 17592186044416 then (impl_digitsOfAll.l0 k1 (x5_1 ++ [(⟨t208, t209, t210, t211, t212, t213, t214, t215⟩ : S73)]) l1 (l1.length : Int) (wrap64 (x11_1 + 1)) l0_0) else (none)) = some r := H
            have A9 := Aside0.mk A90
            clear A90
            by_cases c10 : x5_1.length < 17592186044416
            · rw [if_pos c10] at H
              have LMc10 := Aside0.mk c10
              clear c10
              obtain ⟨y216, hy216⟩ : ∃ y_ : List (S73), y_ = (x5_1 ++ [(⟨t208, t209, t210, t211, t212, t213, t214, t215⟩ : S73)]) := ⟨_, rfl⟩
              replace H : (impl_digitsOfAll.l0 k1 y216 l1 (l1.length : Int) (wrap64 (x11_1 + 1)) l0_0) = some r := by first | (rw [hy216]; with_reducible exact H) | (have H2_ := (Option.bind_some _ _).symm.trans H; rw [hy216]; with_reducible exact H2_) | (have H2_ := (Option.bind_some _ _).symm.trans H; with_reducible exact H2_) | with_reducible exact H | (rw [hy216]; exact H) | exact H
              have Ny216 := Aside0.mk hy216
              clear hy216
              have H' := Aside0.mk H
              clear H
              have p207 : 0 ≤ (x11_1 : Int) := of_decide_eq_true (by first | (with_reducible assumption) | assumption)
              have q207 : x11_1 < (l1.length : Int) := of_decide_eq_true (by first | (with_reducible assumption) | assumption)
              obtain ⟨ad207, e207, hx207_0⟩ := Kd.at_int HR1.out x11_1 p207 q207
              cases e207
              try replace hx207_0 := (HB.out.cell (World.block_lt_of_cell? w _ hx207_0)).trans hx207_0
              replace p207 := eq_true p207
              replace q207 := eq_true q207
              have hcz11_0 : wr.cell? ⟨gb203, 0, none⟩ = some (.slice A0_0 l0_0.length c0_0) := (blk_cell BK203.out 0).trans rfl
              have hfz11_0 := blk_frozen BK203.out 0
              go_wp2_with (first | ((with_reducible refine gate_callee (f := 81) rfl ?_); refine goesL_ (some 18) rfl rfl Try.func81 (by kernel_rfl) rfl #[.agg #[.slice A0_0 l0_0.length c0_0], .int .i64 (rd l1 x11_1)] rfl (by (try simp only [List.map_toArray, List.map_cons, List.map_nil]); first | done | rfl | (simp only [List.length_drop, List.length_take]; rfl)) ?_; (with_reducible refine (impl_digitsOf.calls k1 _ _ l0_0 (rd l1 x11_1) t208 t209 t210 t211 t212 t213 t214 t215 _ ?side1 ?side2 A9.out).mono ?_); (case side1 => repeat (first | exact (Kd.C_below HR0_0.out HB.out) | (with_reducible refine Kd.C_alloc ?_ _) | (with_reducible refine Kd.C_drewN ?_ _) | (with_reducible refine Kd.C_drew ?_))); (case side2 => exact HC0_0.out); rintro e w12 ⟨rfl, hb⟩; refine ⟨_, rfl, ?_⟩; have n0_ := Aside0.mk (Kd.R_below (by (with_reducible repeat (first | apply Kd.R_alloc | apply Kd.R_drewN | apply Kd.R_drew)); exact HO_5.out) hb); have n1_ := Aside0.mk (blk_below (g := gb203) (o := .cells #[.slice A0_0 l0_0.length c0_0] 28 (0, 0)) (by (with_reducible repeat (first | refine blk_drewN ?_ _ | refine blk_drew ?_ | refine blk_alloc ?_ _)); exact BK203.out) hb); have n2_ := Aside0.mk (below_step (by repeat (first | (with_reducible first | exact HB.out | apply below_alloc | apply pw_below_drewN | apply below_drew1 | refine below_set ?_ GE203.out) | exact HB.out)) hb); clear HO_5; clear BK203; clear HB; have HO_5 := n0_; have BK203 := n1_; have HB := n2_; clear n0_ n1_ n2_; (try clear hb); (try clear hb2); (try clear hk); (try clear hi)) | ((with_reducible refine gate_builtin (b := .append) (xs := #[.tmp 15, .tmp 19]) rfl ?_); at_builtin; refine Kd.R_append k73 (w0 := w) w.heap.size rfl (.tmp 15) (.tmp 19) 112 73 (.agg #[(.int .u8 0), (.int .u8 0), (.int .u8 0), (.int .u8 0), (.int .u8 0), (.int .u8 0), (.int .u8 0), (.int .u8 0)]) 8 rfl Try.underlying112 info73 rfl (by decide) (by omega) u5 x5_1 (⟨t208, t209, t210, t211, t212, t213, t214, t215⟩ : S73) [.int .u8 t208, .int .u8 t209, .int .u8 t210, .int .u8 t211, .int .u8 t212, .int .u8 t213, .int .u8 t214, .int .u8 t215] (fun _ => True) (fun _ => False) rfl rfl ?aP (fun _ hk => hk.elim) ?aF ?aO ?aB ?aS ?aL ?_; (case aP => exact k73_mkM _ _ _ (⟨t208, t209, t210, t211, t212, t213, t214, t215⟩ : S73)); (case aB => exact (by repeat (first | (with_reducible first | exact HB.out | apply below_alloc | apply pw_below_drewN | apply below_drew1 | refine below_set ?_ GE203.out) | exact HB.out))); (case aF => exact (fun _ _ => trivial)); (case aO => exact (by (with_reducible repeat (first | apply Kd.R_alloc | apply Kd.R_drewN | apply Kd.R_drew)); exact HO_5.out)); (case aS => exact (below_size (by repeat (first | (with_reducible first | exact HB.out | apply below_alloc | apply pw_below_drewN | apply below_drew1 | refine below_set ?_ GE203.out) | exact HB.out)))); (case aL => have := LMc10.out; omega); intro v217 w13 ho hb hg hat; rw [← Ny216.out] at ho; have n0_ := Aside0.mk (blk_grown (g := gb203) (o := .cells #[.slice A0_0 l0_0.length c0_0] 28 (0, 0)) (by (with_reducible repeat (first | refine blk_drewN ?_ _ | refine blk_drew ?_ | refine blk_alloc ?_ _)); exact BK203.out) hg (Kd.R_ne HO_5.out BK203.out (by decide))); have n1_ := Aside0.mk (hb); have n2_ := Aside0.mk (ho); clear BK203; clear HB; clear HO_5; have BK203 := n0_; have HB := n1_; have HO218 := n2_; clear n0_ n1_ n2_; clear ho hb hg hat))
              go_roundg k1
              case measure => have := HK1.out; omega
              case rel => exact ⟨(y216), (wrap64 (x11_1 + 1)), (by first | rfl | (simp; done) | (simp [*]; done)), H', ⟨by have := HK1.out; omega⟩, ⟨by (with_reducible repeat (first | apply Kd.R_alloc | apply Kd.R_drewN | apply Kd.R_drew)); exact HO218.out⟩, ⟨by (with_reducible repeat (first | refine blk_drewN ?_ _ | refine blk_drew ?_ | refine blk_alloc ?_ _)); exact BK203.out⟩, ⟨by repeat (first | (with_reducible first | exact HB.out | apply below_alloc | apply pw_below_drewN | apply below_drew1 | refine below_set ?_ GE203.out) | exact HB.out)⟩⟩
            · rw [if_neg c10] at H
              exact absurd H (by simp)
          · rw [if_neg c8] at H
            exact absurd H (by simp)
        · rw [if_neg c7] at H
          exact absurd H (by simp)
      · rw [if_neg c6] at H
        have c6b0 : decide (x11_1 < (l1.length : Int)) = false := decide_eq_false c6
        clear c6
        obtain rfl := Option.some.inj H
        go_wp2
        go_ret
        exact ⟨_, by first | rfl | (simp [errW_none, errW_some] <;> rfl) | (simp [*, errW_none, errW_some] <;> rfl), by (with_reducible repeat (first | apply Kd.R_alloc | apply Kd.R_drewN | apply Kd.R_drew)); exact HO_5.out, by repeat (first | (with_reducible first | exact HB.out | apply below_alloc | apply pw_below_drewN | apply below_drew1 | refine below_set ?_ GE203.out) | exact HB.out)⟩

/-! ### impl_places: function 141 -/
def impl_places.f (l0_0 : List Int) : Option (Int) := some (l0_0.length : Int)
set_option maxHeartbeats 8000000 in
set_option maxRecDepth 100000 in
theorem impl_places.calls (A0_0 : Option Addr) (c0_0 : Nat) (l0_0 : List Int) (r : Int) (w : World) (hr0_0 : Kd.C (Kd.int .i64) w A0_0 l0_0.length l0_0) (hc0_0 : l0_0.length ≤ c0_0) (h : impl_places.f l0_0 = some r) :
    Calls Try.prog 141 #[.agg #[.slice A0_0 l0_0.length c0_0]] w fun e w' => e = .returned (.int .i64 r) ∧ Below w.heap.size w w' := by
  have hu28 := Try.underlying28
  have HR0_0 := Aside0.mk hr0_0
  have HC0_0 := Aside0.mk hc0_0
  clear hr0_0 hc0_0
  have HB := Aside0.mk (Below.refl w.heap.size w)
  have H : (some (l0_0.length : Int)) = some r := h
  clear h
  obtain rfl := Option.some.inj H
  go_enter Try.func141, Try.ntmps141
  go_wp2_with (first | ((with_reducible refine gate_dst (N := 1) rfl ?_); refine box_event ?hg (N := 1) ?hd (cs := #[.slice A0_0 l0_0.length c0_0]) (t := 28) ?hr ?_; (case hd => rfl); (case hg => rfl); (case hr => first | (go_simp; done) | (go_simp; rfl)); intro gb219 hg w2 hbox hb; have n0_ := Aside0.mk (below_step (by repeat (first | (with_reducible first | exact HB.out | apply below_alloc | apply pw_below_drewN | apply below_drew1) | exact HB.out)) hb); have n1_ := Aside0.mk (hbox); have n2_ := Aside0.mk ((by rw [hg]; exact (below_size (by repeat (first | (with_reducible first | exact HB.out | apply below_alloc | apply pw_below_drewN | apply below_drew1) | exact HB.out))) : w.heap.size ≤ gb219)); have n3_ := Aside0.mk ((by rw [hg]; exact (below_size (by repeat (first | (with_reducible first | exact HB.out | apply below_alloc | apply pw_below_drewN | apply below_drew1) | exact HB.out))) : w.heap.size ≤ gb219)); clear HB; have HB := n0_; have BK219 := n1_; have GW219 := n2_; have GE219 := n3_; clear n0_ n1_ n2_ n3_; clear hb hbox hg; have hcz3_0 : w2.cell? ⟨gb219, 0, none⟩ = some (.slice A0_0 l0_0.length c0_0) := (blk_cell BK219.out 0).trans rfl; have hfz3_0 := blk_frozen BK219.out 0))
  go_ret
  exact ⟨by first | rfl | (simp [errW_none, errW_some] <;> rfl) | (simp [*, errW_none, errW_some] <;> rfl), by repeat (first | (with_reducible first | exact HB.out | apply below_alloc | apply pw_below_drewN | apply below_drew1 | refine below_set ?_ GE219.out) | exact HB.out)⟩

/-! ### impl_allDigits: function 156 -/
def impl_allDigits.l0 : Nat → List (S73) → Int → Int → List Int → Option ((List (S73)))
  | 0, _, _, _, _ => none
  | k + 1, x3, x7, x8, x221000 => if x8 < x7 then ((impl_digitsOf.f k x221000 x8).bind fun bt225 => (if x3.length < 17592186044416 then (impl_allDigits.l0 k (x3 ++ [(⟨bt225.1, bt225.2.1, bt225.2.2.1, bt225.2.2.2.1, bt225.2.2.2.2.1, bt225.2.2.2.2.2.1, bt225.2.2.2.2.2.2.1, bt225.2.2.2.2.2.2.2⟩ : S73)]) x7 (wrap64 (x8 + 1)) x221000) else (none))) else (some x3)
def impl_allDigits.f (k : Nat) (l0_0 : List Int) : Option ((List (S73))) := (impl_count.f k l0_0).bind fun t224 => (impl_allDigits.l0 k (([] : List (S73))) t224 0 l0_0)
theorem impl_allDigits.mono_l : ∀ k, (∀ y0 y1 y2 y3, LeO (impl_allDigits.l0 k y0 y1 y2 y3) (impl_allDigits.l0 (k + 1) y0 y1 y2 y3))
  | 0 => fun _ _ _ _ r h => by simp [impl_allDigits.l0] at h
  | k + 1 => by
    have ih0 := impl_allDigits.mono_l k
    · intro y0 y1 y2 y3
      unfold impl_allDigits.l0
      repeat' first
      | (with_reducible exact ih0 _ _ _ _)
      | (with_reducible exact impl_count.mono _ _)
      | (with_reducible exact impl_digitsOf.mono _ _ _)
      | (with_reducible exact LeO.refl _)
      | (with_reducible exact LeO.none _)
      | (with_reducible refine LeO.ite ?_ ?_)
      | (with_reducible refine LeO.bind ?_ (fun _ => ?_))
theorem impl_allDigits.mono : ∀ a0 k, LeO (impl_allDigits.f k a0) (impl_allDigits.f (k + 1) a0) := by
  intro a0 k
  have ih0 := impl_allDigits.mono_l k
  unfold impl_allDigits.f
  repeat' first
      | (with_reducible exact ih0 _ _ _ _)
      | (with_reducible exact impl_count.mono _ _)
      | (with_reducible exact impl_digitsOf.mono _ _ _)
      | (with_reducible exact LeO.refl _)
      | (with_reducible exact LeO.none _)
      | (with_reducible refine LeO.ite ?_ ?_)
      | (with_reducible refine LeO.bind ?_ (fun _ => ?_))
set_option maxHeartbeats 8000000 in
set_option maxRecDepth 100000 in
theorem impl_allDigits.calls (k : Nat) (A0_0 : Option Addr) (c0_0 : Nat) (l0_0 : List Int) (r : List (S73)) (w : World) (hr0_0 : Kd.C (Kd.int .i64) w A0_0 l0_0.length l0_0) (hc0_0 : l0_0.length ≤ c0_0) (h : impl_allDigits.f k l0_0 = some r) :
    Calls Try.prog 156 #[.agg #[.slice A0_0 l0_0.length c0_0]] w fun e w' => ∃ v0_ : Value, e = .returned (v0_) ∧ Kd.R k73 73 w' w.heap.size (fun _ => True) v0_ r ∧ Below w.heap.size w w' := by
  have hu28 := Try.underlying28
  have HR0_0 := Aside0.mk hr0_0
  have HC0_0 := Aside0.mk hc0_0
  clear hr0_0 hc0_0
  have HB := Aside0.mk (Below.refl w.heap.size w)
  have H : ((impl_count.f k l0_0).bind fun t224 => (impl_allDigits.l0 k (([] : List (S73))) t224 0 l0_0)) = some r := h
  clear h
  obtain ⟨y221, hy221⟩ : ∃ y_ : List (S73), y_ = (([] : List (S73))) := ⟨_, rfl⟩
  replace H : ((impl_count.f k l0_0).bind fun t224 => (impl_allDigits.l0 k y221 t224 0 l0_0)) = some r := by first | (rw [hy221]; with_reducible exact H) | (have H2_ := (Option.bind_some _ _).symm.trans H; rw [hy221]; with_reducible exact H2_) | (have H2_ := (Option.bind_some _ _).symm.trans H; with_reducible exact H2_) | with_reducible exact H | (rw [hy221]; exact H) | exact H
  have Ny221 := Aside0.mk hy221
  clear hy221
  replace H := Option.bind_eq_some_iff.mp H
  obtain ⟨t224, A20, H⟩ := H
  replace H : (impl_allDigits.l0 k y221 t224 0 l0_0) = some r := H
  have A2 := Aside0.mk A20
  clear A20
  have H' := Aside0.mk H
  clear H
  go_enter Try.func156, Try.ntmps156
  go_wp2_with (first | ((with_reducible refine gate_dst (N := 1) rfl ?_); refine box_event ?hg (N := 1) ?hd (cs := #[.slice A0_0 l0_0.length c0_0]) (t := 28) ?hr ?_; (case hd => rfl); (case hg => rfl); (case hr => first | (go_simp; done) | (go_simp; rfl)); intro gb220 hg w3 hbox hb; have n0_ := Aside0.mk (below_step (by repeat (first | (with_reducible first | exact HB.out | apply below_alloc | apply pw_below_drewN | apply below_drew1) | exact HB.out)) hb); have n1_ := Aside0.mk (hbox); have n2_ := Aside0.mk ((by rw [hg]; exact (below_size (by repeat (first | (with_reducible first | exact HB.out | apply below_alloc | apply pw_below_drewN | apply below_drew1) | exact HB.out))) : w.heap.size ≤ gb220)); have n3_ := Aside0.mk ((by rw [hg]; exact (below_size (by repeat (first | (with_reducible first | exact HB.out | apply below_alloc | apply pw_below_drewN | apply below_drew1) | exact HB.out))) : w.heap.size ≤ gb220)); clear HB; have HB := n0_; have BK220 := n1_; have GW220 := n2_; have GE220 := n3_; clear n0_ n1_ n2_ n3_; clear hb hbox hg) | ((with_reducible refine gate_dst (N := 5) rfl ?_); refine Kd.R_lit k73 _ 73 ?hg (N := 5) ?hd (xs := ([] : List (S73))) (inner := []) (ok := fun _ => True) (okp := fun _ => True) ?hr ?hp (fun _ hk => hk) trivial (Below.refl _ _) (Nat.le_refl _) (by simp) ?_; (case hd => rfl); (case hg => rfl); (case hr => first | (go_simp; done) | (go_simp; rfl)); (case hp => exact (Reps.none _ _)); intro v222 w4 ho5 hb hg_ hnew_; clear hg_ hnew_; (first | rw [← Ny221.out] at ho5 | (simp only [Int.reduceToNat] at ho5; rw [← Ny221.out] at ho5)); have n0_ := Aside0.mk (Kd.R_lower ho5 (below_size (by repeat (first | (with_reducible first | exact HB.out | apply below_alloc | apply pw_below_drewN | apply below_drew1 | refine below_set ?_ GE220.out) | exact HB.out)))); have n1_ := Aside0.mk (blk_below (g := gb220) (o := .cells #[.slice A0_0 l0_0.length c0_0] 28 (0, 0)) (by (with_reducible repeat (first | refine blk_drewN ?_ _ | refine blk_drew ?_ | refine blk_alloc ?_ _)); exact BK220.out) hb); have n2_ := Aside0.mk (below_step (by repeat (first | (with_reducible first | exact HB.out | apply below_alloc | apply pw_below_drewN | apply below_drew1 | refine below_set ?_ GE220.out) | exact HB.out)) hb); clear BK220; clear HB; have HO223 := n0_; have BK220 := n1_; have HB := n2_; clear n0_ n1_ n2_; clear hb ho5; have hcz6_0 : w4.cell? ⟨gb220, 0, none⟩ = some (.slice A0_0 l0_0.length c0_0) := (blk_cell BK220.out 0).trans rfl; have hfz6_0 := blk_frozen BK220.out 0) | ((with_reducible refine gate_callee (f := 111) rfl ?_); refine goesL_ (some 7) rfl rfl Try.func111 (by kernel_rfl) rfl #[.agg #[.slice A0_0 l0_0.length c0_0]] rfl (by (try simp only [List.map_toArray, List.map_cons, List.map_nil]); first | done | rfl | (simp only [List.length_drop, List.length_take]; rfl)) ?_; (with_reducible refine (impl_count.calls k _ _ l0_0 t224 _ ?side1 ?side2 A2.out).mono ?_); (case side1 => repeat (first | exact (Kd.C_below HR0_0.out HB.out) | (with_reducible refine Kd.C_alloc ?_ _) | (with_reducible refine Kd.C_drewN ?_ _) | (with_reducible refine Kd.C_drew ?_))); (case side2 => exact HC0_0.out); rintro e w7 ⟨rfl, hb⟩; refine ⟨_, rfl, ?_⟩; have n0_ := Aside0.mk (Kd.R_below (by (with_reducible repeat (first | apply Kd.R_alloc | apply Kd.R_drewN | apply Kd.R_drew)); exact HO223.out) hb); have n1_ := Aside0.mk (blk_below (g := gb220) (o := .cells #[.slice A0_0 l0_0.length c0_0] 28 (0, 0)) (by (with_reducible repeat (first | refine blk_drewN ?_ _ | refine blk_drew ?_ | refine blk_alloc ?_ _)); exact BK220.out) hb); have n2_ := Aside0.mk (below_step (by repeat (first | (with_reducible first | exact HB.out | apply below_alloc | apply pw_below_drewN | apply below_drew1 | refine below_set ?_ GE220.out) | exact HB.out)) hb); clear HO223; clear BK220; clear HB; have HO223 := n0_; have BK220 := n1_; have HB := n2_; clear n0_ n1_ n2_; (try clear hb); (try clear hb2); (try clear hk); (try clear hi)))
  go_loopg [3, 8] k (fun kq v3 v8 w' => ∃ (x3_1 : List (S73)) (x8_1 : Int), v8 = .int .i64 x8_1 ∧ Aside0 (impl_allDigits.l0 kq x3_1 t224 x8_1 l0_0 = some r) ∧ Aside0 (kq ≤ k) ∧ Aside0 (Kd.R k73 73 w' w.heap.size (fun _ => True) v3 x3_1) ∧ Aside0 (w'.heap[gb220]? = some (.cells #[(.slice A0_0 l0_0.length c0_0)] 28 (0, 0))) ∧ Aside0 (Below w.heap.size w w'))
  case atStart => exact ⟨(y221), (0), (by first | rfl | (simp; done) | (simp [*]; done)), H', ⟨Nat.le_refl _⟩, ⟨by (with_reducible repeat (first | apply Kd.R_alloc | apply Kd.R_drewN | apply Kd.R_drew)); exact HO223.out⟩, ⟨by (with_reducible repeat (first | refine blk_drewN ?_ _ | refine blk_drew ?_ | refine blk_alloc ?_ _)); exact BK220.out⟩, ⟨by repeat (first | (with_reducible first | exact HB.out | apply below_alloc | apply pw_below_drewN | apply below_drew1 | refine below_set ?_ GE220.out) | exact HB.out)⟩⟩
  case round =>
    clear H'
    try clear c1
    try clear p2
    try clear hcz6_0
    try clear hfz6_0
    obtain ⟨x3_1, x8_1, rfl, HA, HK1, HO_3, BK220, HB⟩ := hrel
    cases gk with
    | zero => exact absurd HA.out (by simp [impl_allDigits.l0])
    | succ k1 =>
      have H := HA.out
      clear HA
      simp only [impl_allDigits.l0] at H
      by_cases c8 : x8_1 < t224
      · rw [if_pos c8] at H
        have c8b0 : decide (x8_1 < t224) = true := decide_eq_true c8
        clear c8
        replace H := Option.bind_eq_some_iff.mp H
        obtain ⟨⟨t225, t226, t227, t228, t229, t230, t231, t232⟩, A90, H⟩ := H
        replace H : (if x3_1.length < 17592186044416 then (impl_allDigits.l0 k1 (x3_1 ++ [(⟨t225, t226, t227, t228, t229, t230, t231, t232⟩ : S73)]) t224 (wrap64 (x8_1 + 1)) l0_0) else (none)) = some r := H
        have A9 := Aside0.mk A90
        clear A90
        by_cases c10 : x3_1.length < 17592186044416
        · rw [if_pos c10] at H
          have LMc10 := Aside0.mk c10
          clear c10
          obtain ⟨y233, hy233⟩ : ∃ y_ : List (S73), y_ = (x3_1 ++ [(⟨t225, t226, t227, t228, t229, t230, t231, t232⟩ : S73)]) := ⟨_, rfl⟩
          replace H : (impl_allDigits.l0 k1 y233 t224 (wrap64 (x8_1 + 1)) l0_0) = some r := by first | (rw [hy233]; with_reducible exact H) | (have H2_ := (Option.bind_some _ _).symm.trans H; rw [hy233]; with_reducible exact H2_) | (have H2_ := (Option.bind_some _ _).symm.trans H; with_reducible exact H2_) | with_reducible exact H | (rw [hy233]; exact H) | exact H
          have Ny233 := Aside0.mk hy233
          clear hy233
          have H' := Aside0.mk H
          clear H
          have hcz11_0 : wr.cell? ⟨gb220, 0, none⟩ = some (.slice A0_0 l0_0.length c0_0) := (blk_cell BK220.out 0).trans rfl
          have hfz11_0 := blk_frozen BK220.out 0
          go_wp2_with (first | ((with_reducible refine gate_callee (f := 81) rfl ?_); refine goesL_ (some 14) rfl rfl Try.func81 (by kernel_rfl) rfl #[.agg #[.slice A0_0 l0_0.length c0_0], .int .i64 x8_1] rfl (by (try simp only [List.map_toArray, List.map_cons, List.map_nil]); first | done | rfl | (simp only [List.length_drop, List.length_take]; rfl)) ?_; (with_reducible refine (impl_digitsOf.calls k1 _ _ l0_0 x8_1 t225 t226 t227 t228 t229 t230 t231 t232 _ ?side1 ?side2 A9.out).mono ?_); (case side1 => repeat (first | exact (Kd.C_below HR0_0.out HB.out) | (with_reducible refine Kd.C_alloc ?_ _) | (with_reducible refine Kd.C_drewN ?_ _) | (with_reducible refine Kd.C_drew ?_))); (case side2 => exact HC0_0.out); rintro e w12 ⟨rfl, hb⟩; refine ⟨_, rfl, ?_⟩; have n0_ := Aside0.mk (Kd.R_below (by (with_reducible repeat (first | apply Kd.R_alloc | apply Kd.R_drewN | apply Kd.R_drew)); exact HO_3.out) hb); have n1_ := Aside0.mk (blk_below (g := gb220) (o := .cells #[.slice A0_0 l0_0.length c0_0] 28 (0, 0)) (by (with_reducible repeat (first | refine blk_drewN ?_ _ | refine blk_drew ?_ | refine blk_alloc ?_ _)); exact BK220.out) hb); have n2_ := Aside0.mk (below_step (by repeat (first | (with_reducible first | exact HB.out | apply below_alloc | apply pw_below_drewN | apply below_drew1 | refine below_set ?_ GE220.out) | exact HB.out)) hb); clear HO_3; clear BK220; clear HB; have HO_3 := n0_; have BK220 := n1_; have HB := n2_; clear n0_ n1_ n2_; (try clear hb); (try clear hb2); (try clear hk); (try clear hi)) | ((with_reducible refine gate_builtin (b := .append) (xs := #[.tmp 11, .tmp 15]) rfl ?_); at_builtin; refine Kd.R_append k73 (w0 := w) w.heap.size rfl (.tmp 11) (.tmp 15) 112 73 (.agg #[(.int .u8 0), (.int .u8 0), (.int .u8 0), (.int .u8 0), (.int .u8 0), (.int .u8 0), (.int .u8 0), (.int .u8 0)]) 8 rfl Try.underlying112 info73 rfl (by decide) (by omega) u3 x3_1 (⟨t225, t226, t227, t228, t229, t230, t231, t232⟩ : S73) [.int .u8 t225, .int .u8 t226, .int .u8 t227, .int .u8 t228, .int .u8 t229, .int .u8 t230, .int .u8 t231, .int .u8 t232] (fun _ => True) (fun _ => False) rfl rfl ?aP (fun _ hk => hk.elim) ?aF ?aO ?aB ?aS ?aL ?_; (case aP => exact k73_mkM _ _ _ (⟨t225, t226, t227, t228, t229, t230, t231, t232⟩ : S73)); (case aB => exact (by repeat (first | (with_reducible first | exact HB.out | apply below_alloc | apply pw_below_drewN | apply below_drew1 | refine below_set ?_ GE220.out) | exact HB.out))); (case aF => exact (fun _ _ => trivial)); (case aO => exact (by (with_reducible repeat (first | apply Kd.R_alloc | apply Kd.R_drewN | apply Kd.R_drew)); exact HO_3.out)); (case aS => exact (below_size (by repeat (first | (with_reducible first | exact HB.out | apply below_alloc | apply pw_below_drewN | apply below_drew1 | refine below_set ?_ GE220.out) | exact HB.out)))); (case aL => have := LMc10.out; omega); intro v234 w13 ho hb hg hat; rw [← Ny233.out] at ho; have n0_ := Aside0.mk (blk_grown (g := gb220) (o := .cells #[.slice A0_0 l0_0.length c0_0] 28 (0, 0)) (by (with_reducible repeat (first | refine blk_drewN ?_ _ | refine blk_drew ?_ | refine blk_alloc ?_ _)); exact BK220.out) hg (Kd.R_ne HO_3.out BK220.out (by decide))); have n1_ := Aside0.mk (hb); have n2_ := Aside0.mk (ho); clear BK220; clear HB; clear HO_3; have BK220 := n0_; have HB := n1_; have HO235 := n2_; clear n0_ n1_ n2_; clear ho hb hg hat))
          go_roundg k1
          case measure => have := HK1.out; omega
          case rel => exact ⟨(y233), (wrap64 (x8_1 + 1)), (by first | rfl | (simp; done) | (simp [*]; done)), H', ⟨by have := HK1.out; omega⟩, ⟨by (with_reducible repeat (first | apply Kd.R_alloc | apply Kd.R_drewN | apply Kd.R_drew)); exact HO235.out⟩, ⟨by (with_reducible repeat (first | refine blk_drewN ?_ _ | refine blk_drew ?_ | refine blk_alloc ?_ _)); exact BK220.out⟩, ⟨by repeat (first | (with_reducible first | exact HB.out | apply below_alloc | apply pw_below_drewN | apply below_drew1 | refine below_set ?_ GE220.out) | exact HB.out)⟩⟩
        · rw [if_neg c10] at H
          exact absurd H (by simp)
      · rw [if_neg c8] at H
        have c8b0 : decide (x8_1 < t224) = false := decide_eq_false c8
        clear c8
        obtain rfl := Option.some.inj H
        go_wp2
        go_ret
        exact ⟨_, by first | rfl | (simp [errW_none, errW_some] <;> rfl) | (simp [*, errW_none, errW_some] <;> rfl), by (with_reducible repeat (first | apply Kd.R_alloc | apply Kd.R_drewN | apply Kd.R_drew)); exact HO_3.out, by repeat (first | (with_reducible first | exact HB.out | apply below_alloc | apply pw_below_drewN | apply below_drew1 | refine below_set ?_ GE220.out) | exact HB.out)⟩

/-! ### impl_allReaches: function 123 -/
/-- A word's eight digits as a list. -/
def l8 (x : S73) : List Int := [x.f0, x.f1, x.f2, x.f3, x.f4, x.f5, x.f6, x.f7]
/-- A row of reaches with one word more of the code. -/
def rowStep (i : Int) (d : S73) (row : List Int) (e : S73) : List Int := row.set (rd (l8 e) i).toNat (mn (rd row (rd (l8 e) i)) (farL (l8 d) (l8 e)))
def rowF (n q i : Int) (L : List S73) (d : S73) : List Int := L.foldl (rowStep i d) (List.replicate q.toNat n)
def okR (l0 : List Int) (a2 : Int) (L D : List S73) : Bool := decide (0 ≤ a2) && decide (a2 < (l0.length : Int)) && decide (l0.length ≤ 8) && decide (1 ≤ rd l0 a2) && decide (rd l0 a2 ≤ 255) && L.all (fun e => decide (0 ≤ rd (l8 e) a2) && decide (rd (l8 e) a2 < rd l0 a2)) && decide (D.length ≤ 1048576) && decide (L.length ≤ 1048576)
def impl_allReaches.f (k : Nat) (l0 l1 : List Int) (a2 : Int) : Option (List (List Int)) := (impl_digitsOfAll.f k l0 l1).bind fun L => (impl_allDigits.f k l0).bind fun D => if okR l0 a2 L D = true then some (D.map (rowF ((l0.length : Int) + 1) (rd l0 a2) a2 L)) else none
theorem impl_allReaches.mono : ∀ a0 a1 a2 k, LeO (impl_allReaches.f k a0 a1 a2) (impl_allReaches.f (k + 1) a0 a1 a2) := by
  intro a0 a1 a2 k
  unfold impl_allReaches.f
  exact LeO.bind (impl_digitsOfAll.mono a0 a1 k) (fun _ => LeO.bind (impl_allDigits.mono a0 k) (fun _ => LeO.refl _))
structure AR (w w3 : World) (g : Nat) (ok : Nat → Prop) (v : Value) (outs : List (List Int)) (W : World) : Prop where
  keep : KeepBut w3 W g none
  bel : Below w.heap.size w W
  out : Kd.R (Kd.slice 2 (Kd.int .i64)) 22 W w.heap.size ok v outs
theorem AR.below {w w3 : World} {g : Nat} {ok : Nat → Prop} {v : Value} {outs : List (List Int)} {W W' : World} (h : AR w w3 g ok v outs W) (hb : Below W.heap.size W W') : AR w w3 g ok v outs W' :=
  ⟨h.keep.trans (KeepBut.of_below hb g none) (.inl rfl), below_step h.bel hb, Kd.R_below h.out hb⟩
theorem AR.drew {w w3 : World} {g : Nat} {ok : Nat → Prop} {v : Value} {outs : List (List Int)} {W : World} (h : AR w w3 g ok v outs W) : AR w w3 g ok v outs W.drew := h.below (below_drew (Below.refl _ _))
theorem AR.set {w w3 : World} {g : Nat} {ok : Nat → Prop} {v : Value} {outs : List (List Int)} {W : World} (h : AR w w3 g ok v outs W) (gr j : Nat) (u : Value) (h1 : w3.heap.size ≤ gr) (h2 : w.heap.size ≤ gr) (h3 : ∀ k, ok k → k ≠ gr) : AR w w3 g ok v outs (W.setCell ⟨gr, j, none⟩ u) :=
  ⟨keep_far h.keep (p := ⟨gr, j, none⟩) h1 u, below_set h.bel h2, Kd.R_far (p := ⟨gr, j, none⟩) h.out h3 u⟩
theorem one_row (W : World) (x : Int) : Kd.C (Kd.int .i64) (W.alloc (.cells #[.int .i64 x] 2)) (some ⟨W.heap.size, 0, none⟩) ([x] : List Int).length [x] := by
  refine Kd.C_of_reads (d := (0 : Int)) (h1 := fun _ => rfl) ⟨rfl, by simp, fun _ => ⟨_, rfl, fun j hj => ?_⟩⟩
  have hj0 : j = 0 := by simpa using hj
  subst hj0
  rw [add_plain, blk_cell (blk_new W _) 0]
  rfl
theorem ar_info22 : (Try.prog.info? 22).map (fun i => (i.zero, i.size, i.bytes)) = some (some (.slice none 0 0), 1, 24) := by kernel_rfl
theorem keep_append {w3 W w1 : World} {g : Nat} {v : Value} (h : KeepBut w3 W g none) (hg : W.grownBy w1 v.ownBlock) (hv : ∀ k, v.ownBlock = some k → k = g ∨ w3.heap.size ≤ k) : KeepBut w3 w1 g none := by
  refine ⟨Nat.le_trans h.1 hg.size, fun i hi hne _ => ?_⟩
  rw [← h.2 i hi hne (by simp)]
  refine hg.block i (Nat.lt_of_lt_of_le hi h.1) (fun he => ?_)
  rcases hv i he.symm with h1 | h1
  · exact hne h1
  · omega
theorem rd73 (L : List S73) (P : S73 → Prop) (h : ∀ e ∈ L, P e) (j : Nat) (hj : j < L.length) : P (rd_T73 L (j : Int)) := by
  have e : rd_T73 L (j : Int) = L[j] := by simp [rd_T73, List.getElem?_eq_getElem hj]
  rw [e]; exact h _ (List.getElem_mem hj)
theorem fold_next (i : Int) (d : S73) (L : List S73) (j : Nat) (hj : j < L.length) (r : List Int) : (L.take (j + 1)).foldl (rowStep i d) r = rowStep i d ((L.take j).foldl (rowStep i d) r) (rd_T73 L (j : Int)) := by
  have e : rd_T73 L (j : Int) = L[j] := by simp [rd_T73, List.getElem?_eq_getElem hj]
  rw [e, List.take_succ_eq_append_getElem hj, List.foldl_append]; rfl
theorem rowStep_len (i : Int) (d : S73) (r : List Int) (e : S73) : (rowStep i d r e).length = r.length := by simp [rowStep]
theorem fold_len (i : Int) (d : S73) : ∀ (L : List S73) (r : List Int), (L.foldl (rowStep i d) r).length = r.length
  | [], r => rfl
  | e :: L, r => by rw [List.foldl_cons, fold_len i d L, rowStep_len]
set_option maxHeartbeats 4000000 in
set_option maxRecDepth 100000 in
theorem allReaches_walk (k : Nat) (A0 : Option Addr) (c0 : Nat) (l0 : List Int) (A1 : Option Addr) (c1 : Nat) (l1 : List Int) (i qn : Nat) (q : Int) (hqn : q = qn) (L D : List S73) (w : World) (hr0 : Kd.C (Kd.int .i64) w A0 l0.length l0) (hc0 : l0.length ≤ c0) (hr1 : Kd.C (Kd.int .i64) w A1 l1.length l1) (hc1 : l1.length ≤ c1)
    (hL : impl_digitsOfAll.f k l0 l1 = some L) (hD : impl_allDigits.f k l0 = some D) (hi : i < l0.length) (h8 : l0.length ≤ 8) (hq : q = rd l0 (i : Int)) (hq1 : 1 ≤ q) (hq2 : q ≤ 255) (hLd : ∀ e ∈ L, 0 ≤ rd (l8 e) (i : Int) ∧ rd (l8 e) (i : Int) < q) (hDl : D.length ≤ 1048576) (hLl : L.length ≤ 1048576) :
    Calls Try.prog 123 #[.agg #[.slice A0 l0.length c0], .slice A1 l1.length c1, .int .i64 (i : Int)] w fun e w' => ∃ v0_ : Value, e = .returned (v0_) ∧ Kd.R (Kd.slice 2 (Kd.int .i64)) 22 w' w.heap.size (fun _ => True) v0_ (D.map (rowF ((l0.length : Int) + 1) q i L)) ∧ Below w.heap.size w w' := by
  subst hqn
  obtain ⟨ad, rfl, hx⟩ := Kd.at_int hr0 (i : Int) (by omega) (by omega)
  rw [Int.toNat_natCast, ← hq] at hx
  have HX := Aside0.mk hx
  have HR0 := Aside0.mk hr0
  have HR1 := Aside0.mk hr1
  have HC0 := Aside0.mk hc0
  have HC1 := Aside0.mk hc1
  have HL := Aside0.mk hL
  have HD := Aside0.mk hD
  have HLD := Aside0.mk hLd
  have HREP := Aside0.mk (show slices_Repeat_int64_int64.f k [wrap64 ((l0.length : Int) + 1)] (qn : Int) = some (List.replicate (qn : Int).toNat ((l0.length : Int) + 1)) by
    have e : wrap64 ((l0.length : Int) + 1) = (l0.length : Int) + 1 := by unfold wrap64; omega
    rw [e]
    unfold slices_Repeat_int64_int64.f
    rw [if_pos (show ([(l0.length : Int) + 1] : List Int).length = 1 from rfl), if_pos (by omega), if_pos (by omega)]
    rfl)
  clear hr0 hr1 hc0 hc1 hL hD hLd hx hq
  go_enter Try.func123, Try.ntmps123
  go_wp2_with fail
  refine (impl_digitsOfAll.calls k (some ad) c0 l0 A1 c1 l1 L _ (Kd.C_alloc HR0.out _) HC0.out (Kd.C_alloc HR1.out _) HC1.out HL.out).mono ?_
  rintro e w2 ⟨vL, rfl, hRL, hb2⟩
  have hb1 : Below w.heap.size w (w.alloc (.cells #[.slice (some ad) l0.length c0] 28)) := below_alloc (Below.refl _ _) _
  have hb12 := below_step hb1 hb2
  have hz2 := hb2.size
  have hsz : (w.alloc (.cells #[.slice (some ad) l0.length c0] 28)).heap.size = w.heap.size + 1 := World.size_alloc _ _
  have hk2 := blk_below (blk_new w (.cells #[.slice (some ad) l0.length c0] 28)) hb2
  have hcs : w2.cell? ⟨w.heap.size, 0, none⟩ = some (.slice (some ad) l0.length c0) := (blk_cell hk2 0).trans rfl
  have hlt2 : w.heap.size < w2.heap.size := by omega
  have HB12 := Aside0.mk hb12
  have HK2 := Aside0.mk hk2
  have HRL := Aside0.mk hRL
  have HSZ := Aside0.mk hsz
  clear hb1 hb2 hb12 hk2 hRL hz2 hsz
  go_wp2_with fail
  refine (impl_allDigits.calls k (some ad) c0 l0 D _ (Kd.C_alloc (Kd.C_below HR0.out HB12.out) _) HC0.out HD.out).mono ?_
  rintro e w3 ⟨vD, rfl, hRD, hb3⟩
  obtain ⟨AL, cL, rfl⟩ := Kd.R_slice HRL.out
  obtain ⟨AD, cD, rfl⟩ := Kd.R_slice hRD
  have hs3 := hb3.size
  rw [World.size_alloc] at hs3
  have hb23 := below_step (below_alloc (Below.refl w2.heap.size w2) (.cells #[] 22)) hb3
  have AR3 := Aside0.mk (show AR w w3 w2.heap.size (fun k => k = w2.heap.size ∨ w3.heap.size ≤ k) (.slice (some ⟨w2.heap.size, 0, none⟩) 0 0) [] w3 from ⟨KeepBut.refl _ _ _, below_step HB12.out hb23, by
    refine Kd.R_below ⟨fun k hk => .inl (by simpa [Value.ownBlock] using hk.symm), OwnRow.lit w2 w.heap.size (Reps.none _ _) (Nat.le_of_lt hlt2) (by simp)⟩ hb3⟩)
  have HL3 := Aside0.mk (Kd.R_mono (Kd.R_below (Kd.R_bound HRL.out) hb23) (ok' := fun k => k ≠ w2.heap.size) (fun k hk => by have := hk.2.2.1; omega))
  have HD3 := Aside0.mk (Kd.R_mono (Kd.R_bound hRD) (ok' := fun k => k ≠ w2.heap.size) (fun k hk => by have := hk.2.1; rw [World.size_alloc] at this; omega))
  have HK3 := Aside0.mk (blk_below HK2.out hb23)
  have HLT2 := Aside0.mk hlt2
  have HS3 := Aside0.mk hs3
  clear hb3 hRD hb23 hcs hlt2 hs3 HB12 HRL HK2 HSZ
  go_wp2
  go_loopg [8, 21] D.length (fun gg s8 s21 wr => ∃ (j : Nat), s21 = .int .i64 j ∧ j ≤ D.length ∧ D.length - j ≤ gg ∧ Aside0 (AR w w3 w2.heap.size (fun k => k = w2.heap.size ∨ w3.heap.size ≤ k) s8 ((D.take j).map (rowF ((l0.length : Int) + 1) (qn : Int) i L)) wr))
  case atStart => exact ⟨0, rfl, by omega, by omega, AR3⟩
  case round =>
    obtain ⟨j, rfl, hj, hgg, ARr⟩ := hrel
    by_cases hlt : j < D.length
    · have hlt1 : (j : Int) < (D.length : Int) := by omega
      obtain ⟨add, e, hd0, hd1, hd2, hd3, hd4, hd5, hd6, hd7⟩ := at_T73 (Kd.R_reads' (Kd.R_keep HD3.out ARr.out.keep (fun _ h => h))).2.2 (j : Int) (by omega) hlt1
      cases e
      rw [Int.toNat_natCast] at hd0 hd1 hd2 hd3 hd4 hd5 hd6 hd7
      obtain ⟨d, hd⟩ : ∃ d, d = rd_T73 D (j : Int) := ⟨_, rfl⟩
      rw [← hd] at hd0 hd1 hd2 hd3 hd4 hd5 hd6 hd7
      have HDJ := Aside0.mk hd
      clear hd
      go_wp2
      have AR5 := Aside0.mk (ARr.out.below (below_alloc (Below.refl _ _) (.cells (ag8 d.f0 d.f1 d.f2 d.f3 d.f4 d.f5 d.f6 d.f7) 73)))
      have BD5 := Aside0.mk (blk_new wr (.cells (ag8 d.f0 d.f1 d.f2 d.f3 d.f4 d.f5 d.f6 d.f7) 73))
      generalize wr.heap.size = bd at BD5 ⊢
      generalize wr.alloc (.cells (ag8 d.f0 d.f1 d.f2 d.f3 d.f4 d.f5 d.f6 d.f7) 73) = W5 at AR5 BD5 ⊢
      have hs0 : W5.drew.cell? ⟨w.heap.size, 0, none⟩ = some (.slice (some ad) l0.length c0) := (blk_cell ((AR5.out.drew).keep.blk HK3.out (Nat.ne_of_lt HLT2.out) (by simp)) 0).trans rfl
      have hsq : W5.drew.cell? (ad.add i) = some (.int .i64 (qn : Int)) := ((AR5.out.drew).bel.cell (World.block_lt_of_cell? _ _ HX.out)).trans HX.out
      have hiz : (i : Int) < (l0.length : Int) := by omega
      have hi0 : (0 : Int) ≤ (i : Int) := by omega
      refine start_ (n := 11) (S := fun w' => w'.cell? ⟨w.heap.size, 0, none⟩ = some (.slice (some ad) l0.length c0) ∧ w'.cell? (ad.add i) = some (.int .i64 (qn : Int))) (ds := []) #[false, false, false, false, false, false, false, false, false, false, false] (by kernel_rfl) rfl rfl ⟨hs0, hsq⟩ (fun hHeld => ?_)
      refine take_ (i := 0) (N := some 25) (v := ?_) (a' := ?_) #[true, false, false, false, false, false, false, false, false, false, false] rfl rfl (by kernel_rfl) (fun _ _ _ h => h) (Or.inl ⟨by rfl, ?_⟩) hHeld ?_ ?_
      rotate_left
      · rintro w' ⟨s0, s1⟩
        go_simp
        with_reducible rfl
      rotate_left
      · simp only [Act.put, List.setIfInBounds_toArray, List.set_cons_zero, List.set_cons_succ, i64_w, i32_w]
        rfl
      refine pure_ (i := 4) (N := some 29) (v := ?_) (a' := ?_) #[true, false, false, false, true, false, false, false, false, false, false] rfl rfl (by kernel_rfl) (fun _ _ _ h => h) (Or.inl ⟨by rfl, ?_⟩) ?_ ?_
      rotate_left
      · intro w'
        go_simp
        with_reducible rfl
      rotate_left
      · simp only [Act.put, List.setIfInBounds_toArray, List.set_cons_zero, List.set_cons_succ, i64_w, i32_w]
        rfl
      refine take_ (i := 5) (N := some 30) (v := ?_) (a' := ?_) #[true, false, false, false, true, true, false, false, false, false, false] rfl rfl (by kernel_rfl) (fun _ _ _ h => h) (Or.inl ⟨by rfl, ?_⟩) hHeld ?_ ?_
      rotate_left
      · rintro w' ⟨s0, s1⟩
        go_simp
        with_reducible rfl
      rotate_left
      · simp only [Act.put, List.setIfInBounds_toArray, List.set_cons_zero, List.set_cons_succ, i64_w, i32_w]
        rfl
      refine pure_ (i := 6) (N := some 31) (v := ?_) (a' := ?_) #[true, false, false, false, true, true, true, false, false, false, false] rfl rfl (by kernel_rfl) (fun _ _ _ h => h) (Or.inl ⟨by rfl, ?_⟩) ?_ ?_
      rotate_left
      · intro w'
        go_simp
        with_reducible rfl
      rotate_left
      · simp only [Act.put, List.setIfInBounds_toArray, List.set_cons_zero, List.set_cons_succ, i64_w, i32_w]
        rfl
      refine pure_ (i := 7) (N := some 32) (v := ?_) (a' := ?_) #[true, false, false, false, true, true, true, true, false, false, false] rfl rfl (by kernel_rfl) (fun _ _ _ h => h) (Or.inl ⟨by rfl, ?_⟩) ?_ ?_
      rotate_left
      · intro w'
        go_simp
        with_reducible rfl
      rotate_left
      · simp only [Act.put, List.setIfInBounds_toArray, List.set_cons_zero, List.set_cons_succ, i64_w, i32_w]
        rfl
      refine take_ (i := 8) (N := some 33) (v := ?_) (a' := ?_) #[true, false, false, false, true, true, true, true, true, false, false] rfl rfl (by kernel_rfl) (fun _ _ _ h => h) (Or.inl ⟨by rfl, ?_⟩) hHeld ?_ ?_
      rotate_left
      · rintro w' ⟨s0, s1⟩
        go_simp
        with_reducible rfl
      rotate_left
      · simp only [Act.put, List.setIfInBounds_toArray, List.set_cons_zero, List.set_cons_succ, i64_w, i32_w]
        rfl
      refine one_ (i := 1) (N := some 26) #[true, true, false, false, true, true, true, true, true, false, false] rfl rfl (by kernel_rfl) (by decide) (fun K hK => ?_)
      refine goes_ Try.func141 (by kernel_rfl) rfl #[.agg #[.slice (some ad) l0.length c0]] (by rfl) rfl rfl (by (try simp only [List.map_toArray, List.map_cons, List.map_nil]); first | done | rfl) ?_
      refine (impl_places.calls (some ad) c0 l0 (l0.length : Int) _ ?side1 ?side2 rfl).mono ?_
      (case side1 => exact Kd.C_below HR0.out (AR5.out.drew).bel)
      (case side2 => exact HC0.out)
      rintro e w5 ⟨rfl, hb⟩
      refine ⟨_, rfl, ?_⟩
      have AR6 := Aside0.mk ((AR5.out.drew).below hb)
      have BD6 := Aside0.mk (blk_below (blk_drew BD5.out) hb)
      have HS6 := Aside0.mk (hb.size)
      refine hK.out _ _ ⟨(hb.cell (World.block_lt_of_cell? _ _ hHeld.1)).trans hHeld.1, (hb.cell (World.block_lt_of_cell? _ _ hHeld.2)).trans hHeld.2⟩ (fun hHeld => ?_)
      clear hK K
      refine norm_ (a' := ?_) ?_ ?_
      rotate_left
      · show Act.put _ (some 26) _ = _
        simp only [Act.put, List.setIfInBounds_toArray, List.set_cons_zero, List.set_cons_succ, i64_w, i32_w]
        rfl
      refine pure_ (i := 2) (N := some 27) (v := ?_) (a' := ?_) #[true, true, true, false, true, true, true, true, true, false, false] rfl rfl (by kernel_rfl) (fun _ _ _ h => h) (Or.inl ⟨by rfl, ?_⟩) ?_ ?_
      rotate_left
      · intro w'
        go_simp
        with_reducible rfl
      rotate_left
      · simp only [Act.put, List.setIfInBounds_toArray, List.set_cons_zero, List.set_cons_succ, i64_w, i32_w]
        rfl
      refine one_ (i := 3) (N := some 28) #[true, true, true, true, true, true, true, true, true, false, false] rfl rfl (by kernel_rfl) (by decide) (fun K hK => ?_)
      refine value_ (w1 := w5.alloc (.cells #[.int .i64 (wrap64 ((l0.length : Int) + 1))] 2)) (v := .slice (some ⟨w5.heap.size, 0, none⟩) 1 1) (by rfl) rfl (by go_simp) ?_
      refine hK.out _ _ ⟨(World.cell?_alloc_lt _ _ _ (World.block_lt_of_cell? _ _ hHeld.1)).trans hHeld.1, (World.cell?_alloc_lt _ _ _ (World.block_lt_of_cell? _ _ hHeld.2)).trans hHeld.2⟩ (fun hHeld => ?_)
      clear hK K
      refine norm_ (a' := ?_) ?_ ?_
      rotate_left
      · show Act.put _ (some 28) _ = _
        simp only [Act.put, List.setIfInBounds_toArray, List.set_cons_zero, List.set_cons_succ, i64_w, i32_w]
        rfl
      refine one_ (i := 9) (N := some 34) #[true, true, true, true, true, true, true, true, true, true, false] rfl rfl (by kernel_rfl) (by decide) (fun K hK => ?_)
      refine goes_ Try.func102 (by kernel_rfl) rfl #[.slice (some ⟨w5.heap.size, 0, none⟩) 1 1, .int .i64 (qn : Int)] (by rfl) rfl rfl (by (try simp only [List.map_toArray, List.map_cons, List.map_nil]); first | done | rfl) ?_
      refine (slices_Repeat_int64_int64.calls k (some ⟨w5.heap.size, 0, none⟩) 1 [wrap64 ((l0.length : Int) + 1)] (qn : Int) (List.replicate qn ((l0.length : Int) + 1)) _ ?side1 ?side2 ?side3).mono ?_
      (case side1 => exact one_row _ _)
      (case side2 => exact Nat.le_refl _)
      (case side3 => exact HREP.out)
      rintro e w6 ⟨vrow, rfl, hrow, hb⟩
      refine ⟨_, rfl, ?_⟩
      have AR7 := Aside0.mk ((AR6.out.below (below_alloc (Below.refl _ _) _)).below hb)
      have BD7 := Aside0.mk (blk_below (blk_alloc BD6.out _) hb)
      have HROW := Aside0.mk hrow
      have OUT7 := Aside0.mk (Kd.R_elder' ((AR6.out.below (below_alloc (Below.refl _ _) _)).out) (Kd.R_base hrow) hb)
      have HS7 := Aside0.mk hb.size
      refine hK.out _ _ ⟨(hb.cell (World.block_lt_of_cell? _ _ hHeld.1)).trans hHeld.1, (hb.cell (World.block_lt_of_cell? _ _ hHeld.2)).trans hHeld.2⟩ (fun hHeld => ?_)
      clear hK K
      refine norm_ (a' := ?_) ?_ ?_
      rotate_left
      · show Act.put _ (some 34) _ = _
        simp only [Act.put, List.setIfInBounds_toArray, List.set_cons_zero, List.set_cons_succ, i64_w, i32_w]
        rfl
      refine pure_ (i := 10) (N := some 11) (v := ?_) (a' := ?_) #[true, true, true, true, true, true, true, true, true, true, true] rfl rfl (by kernel_rfl) (fun _ _ _ h => h) (Or.inl ⟨by rfl, ?_⟩) ?_ ?_
      rotate_left
      · intro w'
        go_simp
        with_reducible rfl
      rotate_left
      · simp only [Act.put, List.setIfInBounds_toArray, List.set_cons_zero, List.set_cons_succ, i64_w, i32_w]
        rfl
      refine done_ (by kernel_rfl) ?_
      obtain ⟨gr, cr, hvr, hge, hgl, _⟩ := Kd.R_form HROW.out (by rw [List.length_replicate]; omega)
      rw [List.length_replicate] at hvr
      subst hvr
      rw [World.size_alloc] at hge
      have hs5 := AR6.out.keep.1
      have hs5w := AR6.out.bel.size
      have hgr3 : w3.heap.size ≤ gr := by omega
      have hgrw : w.heap.size ≤ gr := by omega
      have hbdgr : bd ≠ gr := by have := blk_lt BD6.out; omega
      have hg2 : w2.heap.size ≠ gr := by have := HS3.out; omega
      have IN0 := Aside0.mk (show AR w w3 w2.heap.size (fun k => (k = w2.heap.size ∨ w3.heap.size ≤ k) ∧ k ≠ gr) u8 ((D.take j).map (rowF ((l0.length : Int) + 1) (qn : Int) i L)) w6 from ⟨AR7.out.keep, AR7.out.bel, Kd.R_mono OUT7.out (fun k hk => ⟨hk.1, fun he => hk.2 (by rw [he]; simp [Value.ownBlock])⟩)⟩)
      have HROW0 := Aside0.mk (Kd.R_lower HROW.out (base' := w.heap.size) (by rw [World.size_alloc]; omega))
      clear hge hgl hs5 hs5w
      go_wp2
      go_loopg [37] L.length (fun gg s37 wq => ∃ (m : Nat), s37 = .int .i64 m ∧ m ≤ L.length ∧ L.length - m ≤ gg ∧ Aside0 (AR w w3 w2.heap.size (fun k => (k = w2.heap.size ∨ w3.heap.size ≤ k) ∧ k ≠ gr) u8 ((D.take j).map (rowF ((l0.length : Int) + 1) (qn : Int) i L)) wq) ∧ Aside0 (wq.heap[bd]? = some (.cells (ag8 d.f0 d.f1 d.f2 d.f3 d.f4 d.f5 d.f6 d.f7) 73 (0, 0))) ∧ Aside0 (Kd.R (Kd.int .i64) 2 wq w.heap.size (fun _ => True) (.slice (some ⟨gr, 0, none⟩) qn cr) ((L.take m).foldl (rowStep i d) (List.replicate qn ((l0.length : Int) + 1)))))
      case atStart => exact ⟨0, rfl, by omega, by omega, IN0, BD7, HROW0⟩
      case round =>
        obtain ⟨m, rfl, hm, hgg2, INq, BDq, HRq⟩ := hrel
        by_cases hlt2 : m < L.length
        · have hlt3 : (m : Int) < (L.length : Int) := by omega
          obtain ⟨ade, e, he0, he1, he2, he3, he4, he5, he6, he7⟩ := at_T73 (Kd.R_reads' (Kd.R_keep HL3.out INq.out.keep (fun _ h => h))).2.2 (m : Int) (by omega) hlt3
          cases e
          rw [Int.toNat_natCast] at he0 he1 he2 he3 he4 he5 he6 he7
          have hLm := rd73 L _ HLD.out m hlt2
          have hfn := fold_next (i : Int) d L m hlt2 (List.replicate qn ((l0.length : Int) + 1))
          have hln := fold_len (i : Int) d (L.take m) (List.replicate qn ((l0.length : Int) + 1))
          obtain ⟨e, hee⟩ : ∃ e, e = rd_T73 L (m : Int) := ⟨_, rfl⟩
          rw [← hee] at he0 he1 he2 he3 he4 he5 he6 he7 hLm hfn
          obtain ⟨row, hrow⟩ : ∃ row, row = (L.take m).foldl (rowStep i d) (List.replicate qn ((l0.length : Int) + 1)) := ⟨_, rfl⟩
          rw [← hrow] at HRq hfn hln
          rw [List.length_replicate] at hln
          have HFN := Aside0.mk hfn
          have HLN := Aside0.mk hln
          clear hee hfn hln hrow
          go_wp2
          have AR9 := Aside0.mk (INq.out.below (below_alloc (Below.refl _ _) (.cells (ag8 e.f0 e.f1 e.f2 e.f3 e.f4 e.f5 e.f6 e.f7) 73)))
          have BE9 := Aside0.mk (blk_new wr (.cells (ag8 e.f0 e.f1 e.f2 e.f3 e.f4 e.f5 e.f6 e.f7) 73))
          have BD9 := Aside0.mk (blk_alloc BDq.out (.cells (ag8 e.f0 e.f1 e.f2 e.f3 e.f4 e.f5 e.f6 e.f7) 73))
          have HR9 := Aside0.mk (Kd.R_alloc HRq.out (.cells (ag8 e.f0 e.f1 e.f2 e.f3 e.f4 e.f5 e.f6 e.f7) 73))
          generalize wr.heap.size = be at BE9 ⊢
          generalize wr.alloc (.cells (ag8 e.f0 e.f1 e.f2 e.f3 e.f4 e.f5 e.f6 e.f7) 73) = W9 at AR9 BE9 BD9 HR9 ⊢
          have hi8 : i < 8 := by omega
          have hiz : (i : Int) < 8 := by omega
          have hi0 : (0 : Int) ≤ (i : Int) := by omega
          obtain ⟨y, hye⟩ : ∃ y, rd [e.f0, e.f1, e.f2, e.f3, e.f4, e.f5, e.f6, e.f7] (i : Int) = y := ⟨_, rfl⟩
          have hLm2 : 0 ≤ y ∧ y < (qn : Int) := by rw [← hye]; exact hLm
          obtain ⟨hy0, hy1⟩ := hLm2
          have hxr := (Kd.R_celln 0 (Kd.R_drew HR9.out) y hy0 hy1).1
          obtain ⟨xv, hxv⟩ : ∃ x, rdOf 0 row y = x := ⟨_, rfl⟩
          rw [hxv] at hxr
          obtain ⟨mv, hmv⟩ : ∃ mm : Int, (if farL [d.f0, d.f1, d.f2, d.f3, d.f4, d.f5, d.f6, d.f7] [e.f0, e.f1, e.f2, e.f3, e.f4, e.f5, e.f6, e.f7] < xv then farL [d.f0, d.f1, d.f2, d.f3, d.f4, d.f5, d.f6, d.f7] [e.f0, e.f1, e.f2, e.f3, e.f4, e.f5, e.f6, e.f7] else xv) = mm := ⟨_, rfl⟩
          have HYE := Aside0.mk hye
          have HXV := Aside0.mk hxv
          clear hLm hxv
          refine start_ (n := 16) (S := fun w' => w'.heap[bd]? = some (.cells (ag8 d.f0 d.f1 d.f2 d.f3 d.f4 d.f5 d.f6 d.f7) 73 (0, 0)) ∧ w'.heap[be]? = some (.cells (ag8 e.f0 e.f1 e.f2 e.f3 e.f4 e.f5 e.f6 e.f7) 73 (0, 0)) ∧ w'.cell? ⟨gr, y.toNat, none⟩ = some (.int .i64 xv)) (ds := [15]) #[false, false, false, false, false, false, false, false, false, false, false, false, false, false, false, false] (by kernel_rfl) rfl rfl ⟨blk_drew BD9.out, blk_drew BE9.out, hxr⟩ (fun hHeld => ?_)
          refine pure_ (i := 0) (N := some 41) (v := ?_) (a' := ?_) #[true, false, false, false, false, false, false, false, false, false, false, false, false, false, false, false] rfl rfl (by kernel_rfl) (fun _ _ _ h => h) (Or.inl ⟨by rfl, ?_⟩) ?_ ?_
          rotate_left
          · intro w'
            go_simp
            with_reducible rfl
          rotate_left
          · simp only [Act.put, List.setIfInBounds_toArray, List.set_cons_zero, List.set_cons_succ, i64_w, i32_w]
            rfl
          refine pure_ (i := 1) (N := some 42) (v := ?_) (a' := ?_) #[true, true, false, false, false, false, false, false, false, false, false, false, false, false, false, false] rfl rfl (by kernel_rfl) (fun _ _ _ h => h) (Or.inl ⟨by rfl, ?_⟩) ?_ ?_
          rotate_left
          · intro w'
            go_simp
            with_reducible rfl
          rotate_left
          · simp only [Act.put, List.setIfInBounds_toArray, List.set_cons_zero, List.set_cons_succ, i64_w, i32_w]
            rfl
          refine pure_ (i := 2) (N := some 43) (v := ?_) (a' := ?_) #[true, true, true, false, false, false, false, false, false, false, false, false, false, false, false, false] rfl rfl (by kernel_rfl) (fun _ _ _ h => h) (Or.inl ⟨by rfl, ?_⟩) ?_ ?_
          rotate_left
          · intro w'
            go_simp
            with_reducible rfl
          rotate_left
          · simp only [Act.put, List.setIfInBounds_toArray, List.set_cons_zero, List.set_cons_succ, i64_w, i32_w]
            rfl
          refine take_ (i := 3) (N := some 44) (v := ?_) (a' := ?_) #[true, true, true, true, false, false, false, false, false, false, false, false, false, false, false, false] rfl rfl (by kernel_rfl) (fun _ _ _ h => h) (Or.inl ⟨by rfl, ?_⟩) hHeld ?_ ?_
          rotate_left
          · rintro w' ⟨s0, s1, s2⟩
            have ce := ag8_cell e.f0 e.f1 e.f2 e.f3 e.f4 e.f5 e.f6 e.f7 s1 i hi8
            rw [hye] at ce
            go_simp
            with_reducible rfl
          rotate_left
          · simp only [Act.put, List.setIfInBounds_toArray, List.set_cons_zero, List.set_cons_succ, i64_w, i32_w]
            rfl
          refine pure_ (i := 4) (N := some 45) (v := ?_) (a' := ?_) #[true, true, true, true, true, false, false, false, false, false, false, false, false, false, false, false] rfl rfl (by kernel_rfl) (fun _ _ _ h => h) (Or.inl ⟨by rfl, ?_⟩) ?_ ?_
          rotate_left
          · intro w'
            go_simp
            with_reducible rfl
          rotate_left
          · simp only [Act.put, List.setIfInBounds_toArray, List.set_cons_zero, List.set_cons_succ, i64_w, i32_w]
            rfl
          refine pure_ (i := 5) (N := some 46) (v := ?_) (a' := ?_) #[true, true, true, true, true, true, false, false, false, false, false, false, false, false, false, false] rfl rfl (by kernel_rfl) (fun _ _ _ h => h) (Or.inl ⟨by rfl, ?_⟩) ?_ ?_
          rotate_left
          · intro w'
            go_simp
            with_reducible rfl
          rotate_left
          · simp only [Act.put, List.setIfInBounds_toArray, List.set_cons_zero, List.set_cons_succ, i64_w, i32_w]
            rfl
          refine pure_ (i := 6) (N := some 47) (v := ?_) (a' := ?_) #[true, true, true, true, true, true, true, false, false, false, false, false, false, false, false, false] rfl rfl (by kernel_rfl) (fun _ _ _ h => h) (Or.inl ⟨by rfl, ?_⟩) ?_ ?_
          rotate_left
          · intro w'
            go_simp
            with_reducible rfl
          rotate_left
          · simp only [Act.put, List.setIfInBounds_toArray, List.set_cons_zero, List.set_cons_succ, i64_w, i32_w]
            rfl
          refine take_ (i := 7) (N := some 48) (v := ?_) (a' := ?_) #[true, true, true, true, true, true, true, true, false, false, false, false, false, false, false, false] rfl rfl (by kernel_rfl) (fun _ _ _ h => h) (Or.inl ⟨by rfl, ?_⟩) hHeld ?_ ?_
          rotate_left
          · rintro w' ⟨s0, s1, s2⟩
            have ce := ag8_cell e.f0 e.f1 e.f2 e.f3 e.f4 e.f5 e.f6 e.f7 s1 i hi8
            rw [hye] at ce
            go_simp
            with_reducible rfl
          rotate_left
          · simp only [Act.put, List.setIfInBounds_toArray, List.set_cons_zero, List.set_cons_succ, i64_w, i32_w]
            rfl
          refine pure_ (i := 8) (N := some 49) (v := ?_) (a' := ?_) #[true, true, true, true, true, true, true, true, true, false, false, false, false, false, false, false] rfl rfl (by kernel_rfl) (fun _ _ _ h => h) (Or.inl ⟨by rfl, ?_⟩) ?_ ?_
          rotate_left
          · intro w'
            go_simp
            with_reducible rfl
          rotate_left
          · simp only [Act.put, List.setIfInBounds_toArray, List.set_cons_zero, List.set_cons_succ, i64_w, i32_w]
            rfl
          refine take_ (i := 9) (N := some 50) (v := ?_) (a' := ?_) #[true, true, true, true, true, true, true, true, true, true, false, false, false, false, false, false] rfl rfl (by kernel_rfl) (fun _ _ _ h => h) (Or.inl ⟨by rfl, ?_⟩) hHeld ?_ ?_
          rotate_left
          · rintro w' ⟨s0, s1, s2⟩
            go_simp
            with_reducible rfl
          rotate_left
          · simp only [Act.put, List.setIfInBounds_toArray, List.set_cons_zero, List.set_cons_succ, i64_w, i32_w]
            rfl
          refine take_ (i := 10) (N := some 51) (v := ?_) (a' := ?_) #[true, true, true, true, true, true, true, true, true, true, true, false, false, false, false, false] rfl rfl (by kernel_rfl) (fun _ _ _ h => h) (Or.inl ⟨by rfl, ?_⟩) hHeld ?_ ?_
          rotate_left
          · rintro w' ⟨s0, s1, s2⟩
            have c0 : w'.cell? ⟨bd, 0, none⟩ = some (.int .u8 d.f0) := (blk_cell s0 0).trans rfl
            have c1 : w'.cell? ⟨bd, 1, none⟩ = some (.int .u8 d.f1) := (blk_cell s0 1).trans rfl
            have c2 : w'.cell? ⟨bd, 2, none⟩ = some (.int .u8 d.f2) := (blk_cell s0 2).trans rfl
            have c3 : w'.cell? ⟨bd, 3, none⟩ = some (.int .u8 d.f3) := (blk_cell s0 3).trans rfl
            have c4 : w'.cell? ⟨bd, 4, none⟩ = some (.int .u8 d.f4) := (blk_cell s0 4).trans rfl
            have c5 : w'.cell? ⟨bd, 5, none⟩ = some (.int .u8 d.f5) := (blk_cell s0 5).trans rfl
            have c6 : w'.cell? ⟨bd, 6, none⟩ = some (.int .u8 d.f6) := (blk_cell s0 6).trans rfl
            have c7 : w'.cell? ⟨bd, 7, none⟩ = some (.int .u8 d.f7) := (blk_cell s0 7).trans rfl
            go_simp
            with_reducible rfl
          rotate_left
          · simp only [Act.put, List.setIfInBounds_toArray, List.set_cons_zero, List.set_cons_succ, i64_w, i32_w]
            rfl
          refine take_ (i := 11) (N := some 52) (v := ?_) (a' := ?_) #[true, true, true, true, true, true, true, true, true, true, true, true, false, false, false, false] rfl rfl (by kernel_rfl) (fun _ _ _ h => h) (Or.inl ⟨by rfl, ?_⟩) hHeld ?_ ?_
          rotate_left
          · rintro w' ⟨s0, s1, s2⟩
            have c0 : w'.cell? ⟨be, 0, none⟩ = some (.int .u8 e.f0) := (blk_cell s1 0).trans rfl
            have c1 : w'.cell? ⟨be, 1, none⟩ = some (.int .u8 e.f1) := (blk_cell s1 1).trans rfl
            have c2 : w'.cell? ⟨be, 2, none⟩ = some (.int .u8 e.f2) := (blk_cell s1 2).trans rfl
            have c3 : w'.cell? ⟨be, 3, none⟩ = some (.int .u8 e.f3) := (blk_cell s1 3).trans rfl
            have c4 : w'.cell? ⟨be, 4, none⟩ = some (.int .u8 e.f4) := (blk_cell s1 4).trans rfl
            have c5 : w'.cell? ⟨be, 5, none⟩ = some (.int .u8 e.f5) := (blk_cell s1 5).trans rfl
            have c6 : w'.cell? ⟨be, 6, none⟩ = some (.int .u8 e.f6) := (blk_cell s1 6).trans rfl
            have c7 : w'.cell? ⟨be, 7, none⟩ = some (.int .u8 e.f7) := (blk_cell s1 7).trans rfl
            go_simp
            with_reducible rfl
          rotate_left
          · simp only [Act.put, List.setIfInBounds_toArray, List.set_cons_zero, List.set_cons_succ, i64_w, i32_w]
            rfl
          refine one_ (i := 12) (N := some 53) #[true, true, true, true, true, true, true, true, true, true, true, true, true, false, false, false] rfl rfl (by kernel_rfl) (by decide) (fun K hK => ?_)
          refine goes_ Try.func157 (by kernel_rfl) rfl #[.agg (ag8 d.f0 d.f1 d.f2 d.f3 d.f4 d.f5 d.f6 d.f7), .agg (ag8 e.f0 e.f1 e.f2 e.f3 e.f4 e.f5 e.f6 e.f7)] (by rfl) rfl rfl (by (try simp only [List.map_toArray, List.map_cons, List.map_nil]); first | done | rfl) ?_
          refine (far_walk d.f0 d.f1 d.f2 d.f3 d.f4 d.f5 d.f6 d.f7 e.f0 e.f1 e.f2 e.f3 e.f4 e.f5 e.f6 e.f7 _).mono ?_
          rintro e w9 ⟨rfl, hb⟩
          refine ⟨_, rfl, ?_⟩
          have AR10 := Aside0.mk ((AR9.out.drew).below hb)
          have BD10 := Aside0.mk (blk_below (blk_drew BD9.out) hb)
          have BE10 := Aside0.mk (blk_below (blk_drew BE9.out) hb)
          have HR10 := Aside0.mk (Kd.R_below (Kd.R_drew HR9.out) hb)
          refine hK.out _ _ ⟨BD10.out, BE10.out, (hb.cell (World.block_lt_of_cell? _ _ hHeld.2.2)).trans hHeld.2.2⟩ (fun hHeld => ?_)
          clear hK K
          refine norm_ (a' := ?_) ?_ ?_
          rotate_left
          · show Act.put _ (some 53) _ = _
            simp only [Act.put, List.setIfInBounds_toArray, List.set_cons_zero, List.set_cons_succ, i64_w, i32_w]
            rfl
          refine pure_ (i := 13) (N := some 54) (v := ?_) (a' := ?_) #[true, true, true, true, true, true, true, true, true, true, true, true, true, true, false, false] rfl rfl (by kernel_rfl) (fun _ _ _ h => h) (Or.inl ⟨by rfl, ?_⟩) ?_ ?_
          rotate_left
          · intro w'
            go_simp
            with_reducible rfl
          rotate_left
          · simp only [Act.put, List.setIfInBounds_toArray, List.set_cons_zero, List.set_cons_succ, i64_w, i32_w]
            rfl
          refine pure_ (i := 14) (N := some 55) (v := ?_) (a' := ?_) #[true, true, true, true, true, true, true, true, true, true, true, true, true, true, true, false] rfl rfl (by kernel_rfl) (fun _ _ _ h => h) (Or.inl ⟨by rfl, ?_⟩) ?_ ?_
          rotate_left
          · intro w'
            go_simp
            with_reducible rfl
          rotate_left
          · simp only [Act.put, List.setIfInBounds_toArray, List.set_cons_zero, List.set_cons_succ, i64_w, i32_w]
            rfl
          refine last_ (i := 15) (N := none) #[true, true, true, true, true, true, true, true, true, true, true, true, true, true, true, true] rfl rfl (by kernel_rfl) (by decide) (fun K hK => ?_)
          have hxr9 := (Kd.R_celln 0 HR10.out y hy0 hy1).1
          have hfr9 := (Kd.R_celln 0 HR10.out y hy0 hy1).2
          refine skip_ (w1 := w9.setCell ⟨gr, y.toNat, none⟩ (.int .i64 mv)) (by rfl) rfl (by go_simp) ?_
          refine hK.out _ _ ?_
          clear hK K
          refine done_ (by kernel_rfl) ?_
          go_wp2
          have HPUT := Kd.R_putg HR10.out y mv
          go_roundg (L.length - (m + 1))
          case measure => omega
          case rel =>
            refine ⟨m + 1, by go_num, by omega, by omega, ⟨AR10.out.set gr _ _ hgr3 hgrw (fun k hk => hk.2)⟩, ⟨blk_far BD10.out hbdgr _⟩, ⟨?_⟩⟩
            have h := HPUT.1
            rw [HFN.out]
            have hr : rowStep (i : Int) d row e = row.set y.toNat mv := by
              have h1 : rd (l8 e) (i : Int) = y := HYE.out
              unfold rowStep
              rw [h1, ← hmv, ← HXV.out]
              rfl
            rw [hr]
            exact h
        · obtain rfl : m = L.length := by omega
          have hlt3 : ¬ (L.length : Int) < (L.length : Int) := by omega
          have hrow := HRq.out
          rw [List.take_length] at hrow
          have HRW := Aside0.mk hrow
          clear hrow
          have hDl2 : ((D.take j).map (rowF ((l0.length : Int) + 1) (qn : Int) i L)).length ≤ 1048576 := by rw [List.length_map, List.length_take]; omega
          go_wp2_with (at_builtin; refine Kd.R_append (Kd.slice 2 (Kd.int .i64)) (w0 := w) w.heap.size rfl (.tmp 57) (.tmp 59) 39 22 (.slice none 0 0) 24 rfl Try.underlying39 ar_info22 rfl (by decide) (by omega) u8 _ (rowF ((l0.length : Int) + 1) (qn : Int) i L d) [.slice (some ⟨gr, 0, none⟩) qn cr] (fun k => k = w2.heap.size ∨ w3.heap.size ≤ k) (fun k => k = gr) rfl rfl ?aP ?aQ ?aF (Kd.R_mono INq.out.out (fun k hk => hk.1)) INq.out.bel ?aS ?aL ?_; (case aP => exact ⟨_, rfl, Kd.R_of_own (Kd.own_of_R HRW.out) (fun k hk => by simpa [Value.ownBlock] using hk.symm)⟩); (case aQ => exact fun k hk => hk ▸ ⟨.inr hgr3, fun he => (INq.out.out.1 gr he.symm).2 rfl⟩); (case aF => exact fun k hk => .inr (Nat.le_trans INq.out.keep.1 hk)); (case aS => exact INq.out.bel.size); (case aL => omega); intro v1 w8 ho hb hg hat)
          have KEEP8 := keep_append INq.out.keep hg (fun k hk => (INq.out.out.1 k hk).1)
          go_roundg (D.length - (j + 1))
          case measure => omega
          case rel =>
            refine ⟨j + 1, by go_num, by omega, by omega, ⟨⟨KEEP8, hb, ?_⟩⟩⟩
            have e1 : D.take (j + 1) = D.take j ++ [d] := by
              have e2 : rd_T73 D (j : Int) = D[j] := by simp [rd_T73, List.getElem?_eq_getElem hlt]
              rw [HDJ.out, e2, List.take_succ_eq_append_getElem hlt]
            rw [e1, List.map_append]
            exact ho
    · obtain rfl : j = D.length := by omega
      have hlt1 : ¬ (D.length : Int) < (D.length : Int) := by omega
      go_wp2
      go_ret
      have ho := Kd.R_mono ARr.out.out (ok' := fun _ => True) (fun _ _ => trivial)
      rw [List.take_length] at ho
      exact ⟨_, rfl, ho, ARr.out.bel⟩
theorem impl_allReaches.calls (k : Nat) (A0_0 : Option Addr) (c0_0 : Nat) (l0_0 : List Int) (A1 : Option Addr) (c1 : Nat) (l1 : List Int) (a2 : Int) (r : List (List Int)) (w : World) (hr0_0 : Kd.C (Kd.int .i64) w A0_0 l0_0.length l0_0) (hc0_0 : l0_0.length ≤ c0_0) (hr1 : Kd.C (Kd.int .i64) w A1 l1.length l1) (hc1 : l1.length ≤ c1) (h : impl_allReaches.f k l0_0 l1 a2 = some r) :
    Calls Try.prog 123 #[.agg #[.slice A0_0 l0_0.length c0_0], .slice A1 l1.length c1, .int .i64 a2] w fun e w' => ∃ v0_ : Value, e = .returned (v0_) ∧ Kd.R (Kd.slice 2 (Kd.int .i64)) 22 w' w.heap.size (fun _ => True) v0_ r ∧ Below w.heap.size w w' := by
  unfold impl_allReaches.f at h
  obtain ⟨L, hL, h⟩ := Option.bind_eq_some_iff.1 h
  obtain ⟨D, hD, h⟩ := Option.bind_eq_some_iff.1 h
  by_cases hok : okR l0_0 a2 L D = true
  · rw [if_pos hok] at h
    obtain rfl := Option.some.inj h
    simp only [okR, Bool.and_eq_true, decide_eq_true_eq, List.all_eq_true] at hok
    obtain ⟨⟨⟨⟨⟨⟨⟨h0, h1⟩, h2⟩, h3⟩, h4⟩, h5⟩, h6⟩, h7⟩ := hok
    obtain ⟨i, rfl⟩ : ∃ i : Nat, a2 = i := ⟨a2.toNat, by omega⟩
    exact allReaches_walk k A0_0 c0_0 l0_0 A1 c1 l1 i (rd l0_0 (i : Int)).toNat (rd l0_0 (i : Int)) (by omega) L D w hr0_0 hc0_0 hr1 hc1 hL hD (by omega) h2 rfl h3 h4 h5 h6 h7
  · rw [if_neg hok] at h; cases h

end Go.Proofs.Ythjkdnneagnejaa.PFnExactFitPlaces
