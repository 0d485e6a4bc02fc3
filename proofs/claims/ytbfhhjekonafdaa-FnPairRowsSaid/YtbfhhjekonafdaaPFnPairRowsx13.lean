-- WALKS, by a program and by hand
import Derived.Test.YtbfhhjekonafdaaPFnPairRowsx0
import Derived.Test.YtbfhhjekonafdaaPFnPairRowsx10
import Derived.Test.YtbfhhjekonafdaaPFnPairRowsx11
import Derived.Test.YtbfhhjekonafdaaPFnPairRowsx12
namespace Go.Proofs.Ytbfhhjekonafdaa.PFnPairRows
open Go.RowKit Go.Proofs.Ytbfhhjekonafdaa.DG Go.Proofs.YtbfhhjekonafdaaW.PrintWords Go.Proofs.YtbfhhjekonafdaaW.PrintLast Go.Proofs.YtbfhhjekonafdaaW.PrintMore
attribute [local go_sem] max2_int min2_int max_two min_two max_three min_three max_four min_four   -- for this text's walks alone
set_option linter.unusedVariables false
set_option linter.unusedSimpArgs false

/-! ### slices_Sort_int64_int64: function 88 -/
-- HAND {"own": [[0, 0]]}
def slices_Sort_int64_int64.f (k : Nat) (l0 : List Int) : Option (List Int) := if l0.length ≤ 17592186044415 then some (l0.mergeSort fun x y => decide (x ≤ y)) else none
theorem slices_Sort_int64_int64.calls (k : Nat) (P0_ : Nat → Prop) (u9000_ : Value) (l0 : List Int) (r : List Int) (w0 w : World) (hB : Below w0.heap.size w0 w) (ho0 : Kd.R (Kd.int .i64) 2 w w0.heap.size P0_ u9000_ l0) (h : slices_Sort_int64_int64.f k l0 = some r) :
    Calls Try.prog 88 #[u9000_] w fun e w' => e = .returned (.tuple #[]) ∧ Kd.R (Kd.int .i64) 2 w' w0.heap.size (fun k_ => (P0_ k_ ∨ w.heap.size ≤ k_)) u9000_ r ∧ Below w0.heap.size w0 w' ∧ Kept w w' (fun k_ => P0_ k_) := by
  unfold slices_Sort_int64_int64.f at h
  by_cases h1 : l0.length ≤ 17592186044415
  · rw [if_pos h1] at h
    obtain rfl := Option.some.inj h
    have ho := Kd.own_of_R ho0
    rcases ho.2 with ⟨rfl, h0⟩ | ⟨gb, cap, cur, rfl, hb, hh, hn, hm, hcs, htake⟩
    · obtain rfl : l0 = [] := List.eq_nil_of_length_eq_zero h0
      refine (AnyM.slices_Sort_int_none mSort none 0 w).mono ?_
      rintro e w' ⟨rfl, rfl⟩
      exact ⟨rfl, (by simpa using Kd.R_nil _ _ _ _ _), hB, Kept.refl _ _⟩
    · have hokk := ho0.1 gb rfl
      have htk : cur.toList.take l0.length = l0.map (Value.int .i64) := by rw [Nat.mul_one] at htake; exact htake
      have hsz : gb < w.heap.size := (Array.getElem?_eq_some_iff.1 hh).1
      refine (AnyM.slices_Sort_int mSort gb 0 cap l0 w (holds_of_blockI hh htk) hsz (by omega)).mono ?_
      rintro e w' ⟨rfl, n, os, rfl⟩
      have hl : (l0.mergeSort fun x y => decide (x ≤ y)).length = l0.length := List.length_mergeSort _
      have hg := grownBy_sortedI (w := w) (g := gb) (n := n) (os := os) (l0.mergeSort fun x y => decide (x ≤ y)).toArray
      have hw := ownsRow_sortedI (n := n) (os := os) hl hb hh hn hm (by omega)
      refine ⟨rfl, ?_, hB.grown hg hB.size (fun k_ hk => by cases hk; exact hb), ?_⟩
      · refine Kd.R_of_own (h1 := fun _ => rfl) ?_ (fun k_ hk => .inl (by cases hk; exact hokk))
        rw [hl]
        exact hw
      · exact Kept.of_grown hg (Kept.refl _ _) (fun k_ hk => by cases hk; exact .inl hokk)
  · rw [if_neg h1] at h; cases h

/-! ### impl_dividedBy: function 58 -/
def impl_dividedBy.l0 : Nat → Int → List Int → Int → Int → Option (Int)
  | 0, _, _, _, _ => none
  | k + 1, x6, x20, x21, x22 => if x22 < x21 then (if 0 ≤ x22 then (if x22 < (x20.length : Int) then (impl_dividedBy.l0 k (wrap64 (x6 * (rd x20 x22))) x20 x21 (wrap64 (x22 + 1))) else (none)) else (none)) else (some x6)
def impl_dividedBy.f (k : Nat) (l0_0 : List Int) (a1 : Int) : Option (Int) := (slices_Clone_int64_int64.f k l0_0).bind fun t100 => ((slices_Sort_int64_int64.f k t100).bind fun t101 => ((impl_places.f l0_0).bind fun t102 => (if 0 ≤ (mx (wrap64 (t102 - a1)) 0) then (if (mx (wrap64 (t102 - a1)) 0) ≤ (t100.length : Int) then ((some (t101.take ((mx (wrap64 (t102 - a1)) 0) : Int).toNat : List Int)).bind fun y103 => (impl_dividedBy.l0 k 1 y103 (y103.length : Int) 0)) else (none)) else (none))))
set_option maxHeartbeats 8000000 in
set_option maxRecDepth 100000 in
theorem impl_dividedBy.calls (k : Nat) (A0_0 : Option Addr) (c0_0 : Nat) (l0_0 : List Int) (a1 : Int) (r : Int) (w : World) (hr0_0 : Kd.C (Kd.int .i64) w A0_0 l0_0.length l0_0) (hc0_0 : l0_0.length ≤ c0_0) (h : impl_dividedBy.f k l0_0 a1 = some r) :
    Calls Try.prog 58 #[.agg #[.slice A0_0 l0_0.length c0_0], .int .i64 a1] w fun e w' => e = .returned (.int .i64 r) ∧ Below w.heap.size w w' := by
  have hu27 := Try.underlying27
  have HR0_0 := zA hr0_0
  have HC0_0 := zA hc0_0
  clear hr0_0 hc0_0
  have HB := zA (Below.refl w.heap.size w)
  have H := h
  unfold impl_dividedBy.f at H
  (try dsimp -simprocs only at H)
  clear h
  replace H := zi H
  obtain ⟨t100, A30, H⟩ := H
  (try dsimp -simprocs only at H)
  have A3 := zA A30
  clear A30
  replace H := zi H
  obtain ⟨t101, A40, H⟩ := H
  (try dsimp -simprocs only at H)
  have A4 := zA A40
  clear A40
  replace H := zi H
  obtain ⟨t102, A50, H⟩ := H
  (try dsimp -simprocs only at H)
  have A5 := zA A50
  clear A50
  obtain ⟨ji6, hji6⟩ : ∃ j_ : Int, (mx (wrap64 (t102 - a1)) 0) = j_ := ⟨_, rfl⟩
  replace H : (if 0 ≤ (ji6) then (if (ji6) ≤ (t100.length : Int) then ((some (t101.take ((ji6) : Int).toNat : List Int)).bind fun y103 => (impl_dividedBy.l0 k 1 y103 (y103.length : Int) 0)) else (none)) else (none)) = some r := by first | (rw [hji6] at H; exact H) | (simp only [hji6] at H ⊢; exact H)
  (try rw [hji6] at A3)
  (try rw [hji6] at A4)
  (try rw [hji6] at A5)
  (try (have hji6l : 0 ≤ ji6 := by (rw [← hji6]; unfold mx; (repeat' split) <;> omega)))
  (try (have hji6m : 0 ≤ ji6 := by omega))
  have hji6_ : (if (wrap64 (t102 - a1)) < 0 then 0 else (wrap64 (t102 - a1))) = ji6 := hji6
  by_cases c7 : 0 ≤ (ji6)
  · rw [if_pos c7] at H
    have c7b0 := eq_true c7
    have c7b1 : decide (0 ≤ (ji6)) = true := decide_eq_true c7
    clear c7
    by_cases c8 : (ji6) ≤ (t100.length : Int)
    · rw [if_pos c8] at H
      have c8b0 := eq_true c8
      have c8b1 : decide ((ji6) ≤ (t100.length : Int)) = true := decide_eq_true c8
      clear c8
      obtain ⟨y103, hy103⟩ : ∃ y_ : List Int, y_ = (t101.take ((ji6) : Int).toNat) := ⟨_, rfl⟩
      replace H : (impl_dividedBy.l0 k 1 y103 (y103.length : Int) 0) = some r := by first | (rw [hy103]; with_reducible exact H) | (have H2_ := (Option.bind_some _ _).symm.trans H; rw [hy103]; with_reducible exact H2_) | (have H2_ := (Option.bind_some _ _).symm.trans H; with_reducible exact H2_) | with_reducible exact H | (rw [hy103]; exact H) | exact H
      have Ny103 := zA hy103
      clear hy103
      have H' := zA H
      clear H
      go_enter Try.func58, Try.ntmps58
      go_wp2_with (first | ((with_reducible refine gate_dst (N := 2) rfl ?_); refine box_event ?hg (N := 2) ?hd (cs := #[.slice A0_0 l0_0.length c0_0]) (t := 27) ?hr ?_; (case hd => rfl); (case hg => rfl); (case hr => first | (go_simp; done) | (go_simp; rfl)); intro gb104 hg w9 hbox hb; have n0_ := zA (below_step z1 hb); have n1_ := zA (hbox); have n2_ := zA ((z178 : w.heap.size ≤ gb104)); have n3_ := zA ((z178 : w.heap.size ≤ gb104)); clear HB; have HB := n0_; have BK104 := n1_; have GW104 := n2_; have GE104 := n3_; clear n0_ n1_ n2_ n3_; clear hb hbox hg; obtain ⟨hcz10_0, hfz10_0⟩ := zC1 BK104.out) | ((with_reducible refine gate_callee (f := 83) rfl ?_); refine goesL_ (some 11) rfl rfl Try.func83 (by kernel_rfl) rfl #[.slice A0_0 l0_0.length c0_0] rfl z3 ?_; (with_reducible refine (slices_Clone_int64_int64.calls k _ _ l0_0 t100 _ ?side1 ?side2 A3.out).mono ?_); (case side1 => exact z5); (case side2 => exact HC0_0.out); rintro e w11 ⟨v105, rfl, ho0, hb⟩; refine ⟨_, rfl, ?_⟩; have n0_ := zA (Kd.R_lower ho0 (below_size z7)); have n1_ := zBB BK104 hb; have n2_ := zA (below_step z7 hb); clear BK104 HB; have HO106 := n0_; have BK104 := n1_; have HB := n2_; clear n0_ n1_ n2_; (try clear hb); (try clear hb2); (try clear hk); (try clear hi); (try clear ho0); obtain ⟨Ao12, co12, eo12⟩ := Kd.R_slice HO106.out; subst eo12) | ((with_reducible refine gate_callee (f := 88) rfl ?_); refine goesL_ (some 13) rfl rfl Try.func88 (by kernel_rfl) rfl #[.slice Ao12 t100.length co12] rfl z3 ?_; (with_reducible refine (slices_Sort_int64_int64.calls k (fun k_ => some k_ = (.slice Ao12 t100.length co12 : Value).ownBlock) (.slice Ao12 t100.length co12) t100 t101 w _ ?side1 ?side2 A4.out).mono ?_); (case side1 => exact z7); (case side2 => exact Kd.R_tight rfl HO106.out); rintro e w13 ⟨rfl, hy0, hb, hkp⟩; refine ⟨_, rfl, ?_⟩; have n0_ := zA (blk_kept z33 hkp (fun hs_ => (fun e_ => (Kd.R_ne HO106.out BK104.out (by decide)) e_) hs_)); have n1_ := zA (Kd.R_reok rfl hy0 (fun k_ e_ => HO106.out.1 k_ e_)); have n2_ := zA (hb); clear BK104 HO106 HB; have BK104 := n0_; have HO106 := n1_; have HB := n2_; clear n0_ n1_ n2_; (try clear hb); (try clear hkp); (try clear hy0); obtain ⟨hcz14_0, hfz14_0⟩ := zC1 BK104.out) | ((with_reducible refine gate_callee (f := 80) rfl ?_); refine goesL_ (some 16) rfl rfl Try.func80 (by kernel_rfl) rfl #[.agg #[.slice A0_0 l0_0.length c0_0]] rfl z3 ?_; (with_reducible refine (impl_places.calls _ _ l0_0 t102 _ ?side1 ?side2 A5.out).mono ?_); (case side1 => exact z5); (case side2 => exact HC0_0.out); rintro e w15 ⟨rfl, hb⟩; refine ⟨_, rfl, ?_⟩; have n0_ := zA (Kd.R_below z118 hb); have n1_ := zBB BK104 hb; have n2_ := zA (below_step z7 hb); clear HO106 BK104 HB; have HO106 := n0_; have BK104 := n1_; have HB := n2_; clear n0_ n1_ n2_; (try clear hb); (try clear hb2); (try clear hk); (try clear hi); have hlx16 := (Kd.R_reads' HO106.out).1; have q16 : ((ji6) : Int) ≤ ((t100.length : Int) : Int) := of_decide_eq_true z14; obtain ⟨i016, hi016, _, hsz16, _⟩ := info_parts info2; have hroom16 : t100.length ≤ co12 := (Kd.R_reads' HO106.out).2.1; have hroomc16 : t101.length ≤ co12 := (by rw [← hlx16]; exact hroom16); have hC16 : Kd.C (Kd.int .i64) _ Ao12 t101.length t101 := (Kd.R_reads' HO106.out).2.2; have hcut16 := cut_to (P := Try.prog) 25 2 .i64 Try.underlying25 hi016 Ao12 t100.length co12 (ji6) (of_decide_eq_true z14) q16 hroom16; have hr16 := Kd.C_take (m := ((ji6) : Int).toNat) hC16 (by omega); have hy16 : y103.length = ((ji6) : Int).toNat := (by rw [Ny103.out, List.length_take]; omega); rw [← Ny103.out] at hr16; rw [← hy16] at hcut16; have HR511 := zA hr16; have HC511 := zA (show y103.length ≤ co12 from by omega); clear hr16 hC16 hroom16 hi016 hsz16 hroomc16; have KY16 := zA hy16; clear hy16; have KE16 := zA hlx16; have KL16 := zA (show ((ji6) : Int).toNat ≤ t101.length from by omega); clear hlx16; replace q16 := eq_true q16))
      go_loopg [6, 22] k (fun kq v6 v22 w' => ∃ (x6_1 : Int) (x22_1 : Int), v6 = .int .i64 x6_1 ∧ v22 = .int .i64 x22_1 ∧ Aside0 (impl_dividedBy.l0 kq x6_1 y103 (y103.length : Int) x22_1 = some r) ∧ Aside0 (kq ≤ k) ∧ Aside0 (w'.heap[gb104]? = some (.cells #[(.slice A0_0 l0_0.length c0_0)] 27 (0, 0))) ∧ Aside0 (Kd.C (Kd.int .i64) w' Ao12 y103.length y103) ∧ Aside0 (Below w.heap.size w w'))
      case atStart => exact ⟨(1), (0), z16, z16, H', ⟨Nat.le_refl _⟩, ⟨z33⟩, ⟨z129⟩, ⟨z7⟩⟩
      case round =>
        clear H'
        try clear c1
        try clear q1
        try clear p2
        try clear c5
        try clear p6
        try clear c7
        try clear c7b0
        try clear c7b1
        try clear c8
        try clear c8b0
        try clear c8b1
        try clear c16
        try clear q16
        try clear hcz10_0
        try clear hcz14_0
        try clear hfz10_0
        try clear hfz14_0
        try clear q16
        obtain ⟨x6_1, x22_1, rfl, rfl, HA, HK1, BK104, HR511, HB⟩ := hrel
        cases gk with
        | zero => exact absurd HA.out (by simp [impl_dividedBy.l0])
        | succ k1 =>
          have H := HA.out
          clear HA
          simp only [impl_dividedBy.l0] at H
          by_cases c17 : x22_1 < (y103.length : Int)
          · rw [if_pos c17] at H
            have c17b0 : decide (x22_1 < (y103.length : Int)) = true := decide_eq_true c17
            clear c17
            by_cases c18 : 0 ≤ x22_1
            · rw [if_pos c18] at H
              have c18b0 : decide (0 ≤ x22_1) = true := decide_eq_true c18
              clear c18
              by_cases c19 : x22_1 < (y103.length : Int)
              · rw [if_pos c19] at H
                have c19b0 : decide (x22_1 < (y103.length : Int)) = true := decide_eq_true c19
                clear c19
                have H' := zA H
                clear H
                have p512 : 0 ≤ (x22_1 : Int) := of_decide_eq_true z14
                have q512 : x22_1 < (y103.length : Int) := of_decide_eq_true z14
                obtain ⟨ad512, e512, hx512_0⟩ := Kd.at_int HR511.out x22_1 p512 q512
                cases e512
                try replace hx512_0 := (HB.out.cell (World.block_lt_of_cell? w _ hx512_0)).trans hx512_0
                replace p512 := eq_true p512
                replace q512 := eq_true q512
                go_wp2
                go_roundg k1
                case measure => have := HK1.out; omega
                case rel => exact ⟨(wrap64 (x6_1 * (rd y103 x22_1))), (wrap64 (x22_1 + 1)), z16, z16, H', ⟨z99⟩, ⟨z33⟩, ⟨z129⟩, ⟨z7⟩⟩
              · rw [if_neg c19] at H
                exact absurd H (by simp)
            · rw [if_neg c18] at H
              exact absurd H (by simp)
          · rw [if_neg c17] at H
            have c17b0 : decide (x22_1 < (y103.length : Int)) = false := decide_eq_false c17
            clear c17
            obtain rfl := Option.some.inj H
            go_wp2
            go_ret
            exact ⟨(by first | rfl | (simp [errW_none, errW_some] <;> rfl) | (simp only [← hji6]; first | rfl | (simp [errW_none, errW_some] <;> rfl)) | (simp [*, errW_none, errW_some] <;> rfl)), z7⟩
    · rw [if_neg c8] at H
      exact absurd H (by simp)
  · rw [if_neg c7] at H
    exact absurd H (by simp)

/-! ### impl_ChoiceBound: function 16 -/
def impl_ChoiceBound.f (k : Nat) (l0_0 : List Int) (a1 : Int) : Option (Int × Int) := (impl_rowsCode.f k l0_0 ([] : List Int) a1).bind fun t100 => (if t100 = 0 then ((impl_count.f k l0_0).bind fun t101 => ((impl_dividedBy.f k l0_0 a1).bind fun t102 => (if t102 = 0 then (none) else (some (wrap64 (Int.tdiv t101 t102), 0))))) else (some (0, t100)))
def impl_ChoiceBound.T4 : Bool × List (List Nat × List Nat) := (true, [([], []), ([0], [0]), ([], []), ([], []), ([2, 3, 1], [2, 3]), ([1, 4], [1, 4]), ([5, 4, 0, 1, 2, 3, 4, 5], [5]), ([6, 0, 1, 2, 3, 4, 5, 6], [])])
def impl_ChoiceBound.B4 : List Nat := [0, 1, 0, 0, 15, 31, 63, 127]
theorem impl_ChoiceBound.tab4 : rtab .any (opsOf Try.f16 4) = impl_ChoiceBound.T4 := by kernel_rfl
theorem impl_ChoiceBound.bits4 : waitsOk impl_ChoiceBound.T4.2 impl_ChoiceBound.B4 = true := by kernel_rfl
set_option maxHeartbeats 8000000 in
set_option maxRecDepth 100000 in
theorem impl_ChoiceBound.calls (k : Nat) (A0_0 : Option Addr) (c0_0 : Nat) (l0_0 : List Int) (a1 : Int) (r1 : Int) (r2 : Int) (w : World) (hr0_0 : Kd.C (Kd.int .i64) w A0_0 l0_0.length l0_0) (hc0_0 : l0_0.length ≤ c0_0) (h : impl_ChoiceBound.f k l0_0 a1 = some (r1, r2)) :
    Calls Try.prog 16 #[.agg #[.slice A0_0 l0_0.length c0_0], .int .i64 a1] w fun e w' => e = .returned (.tuple #[.int .i64 r1, .int .i64 r2]) ∧ Below w.heap.size w w' := by
  have hu27 := Try.underlying27
  have HR0_0 := zA hr0_0
  have HC0_0 := zA hc0_0
  clear hr0_0 hc0_0
  have HB := zA (Below.refl w.heap.size w)
  have H := h
  unfold impl_ChoiceBound.f at H
  (try dsimp -simprocs only at H)
  clear h
  replace H := zi H
  obtain ⟨t100, A30, H⟩ := H
  (try dsimp -simprocs only at H)
  have A3 := zA A30
  clear A30
  by_cases c4 : t100 = 0
  · rw [if_pos c4] at H
    have c4b0 : (t100 == 0) = true := beq_iff_eq.mpr c4
    have c4b1 : (t100 != 0) = false := bne_eq_false_iff_eq.mpr c4
    clear c4
    replace H := zi H
    obtain ⟨t101, A50, H⟩ := H
    (try dsimp -simprocs only at H)
    have A5 := zA A50
    clear A50
    replace H := zi H
    obtain ⟨t102, A60, H⟩ := H
    (try dsimp -simprocs only at H)
    have A6 := zA A60
    clear A60
    by_cases c7 : t102 = 0
    · rw [if_pos c7] at H
      exact absurd H (by simp)
    · rw [if_neg c7] at H
      have c7b0 : (t102 == 0) = false := beq_eq_false_iff_ne.mpr c7
      have c7b1 : (t102 != 0) = true := bne_iff_ne.mpr c7
      simp only [Option.some.injEq, Prod.mk.injEq] at H
      obtain ⟨rfl, rfl⟩ := H
      go_enter Try.func16, Try.ntmps16
      try go_wp2_with (first | ((with_reducible refine gate_dst (N := 2) rfl ?_); refine box_event ?hg (N := 2) ?hd (cs := #[.slice A0_0 l0_0.length c0_0]) (t := 27) ?hr ?_; (case hd => rfl); (case hg => rfl); (case hr => first | (go_simp; done) | (go_simp; rfl)); intro gb103 hg w8 hbox hb; have n0_ := zA (below_step z1 hb); have n1_ := zA (hbox); have n2_ := zA ((z178 : w.heap.size ≤ gb103)); have n3_ := zA ((z178 : w.heap.size ≤ gb103)); clear HB; have HB := n0_; have BK103 := n1_; have GW103 := n2_; have GE103 := n3_; clear n0_ n1_ n2_ n3_; clear hb hbox hg; obtain ⟨hcz9_0, hfz9_0⟩ := zC1 BK103.out) | ((with_reducible refine gate_callee (f := 48) rfl ?_); refine goesL_ (some 9) rfl rfl Try.func48 (by kernel_rfl) rfl #[.agg #[.slice A0_0 l0_0.length c0_0], .slice none 0 0, .int .i64 a1] rfl z3 ?_; (refine (impl_rowsCode.calls k _ _ l0_0 _ _ ([] : List Int) a1 t100 _ ?side1 ?side2 ?side3 ?side4 A3.out).mono ?_); (case side1 => exact z5); (case side2 => exact HC0_0.out); (case side3 => exact Kd.C_nil _ _); (case side4 => exact Nat.le_refl _); rintro e w10 ⟨rfl, hb⟩; refine ⟨_, rfl, ?_⟩; have n0_ := zBB BK103 hb; have n1_ := zA (below_step z2 hb); clear BK103 HB; have BK103 := n0_; have HB := n1_; clear n0_ n1_; (try clear hb); (try clear hb2); (try clear hk); (try clear hi)))
      have n0_ := zA (blk_drew BK103.out)
      have n1_ := zA (below_drew1 HB.out)
      clear BK103 HB
      have BK103 := n0_
      have HB := n1_
      clear n0_ n1_
      refine start_ (n := 8) (S := fun w' => w'.cell? ⟨gb103, 0, none⟩ = some (.slice A0_0 l0_0.length c0_0)) (ds := []) #[false, false, false, false, false, false, false, false] (by kernel_rfl) rfl rfl ((blk_cell BK103.out 0).trans rfl) (fun hHeld => ?_); refine with_tabW impl_ChoiceBound.tab4 impl_ChoiceBound.bits4 (fun HT_ HW_ => ?_)
      generalize w10.drew = w11 at BK103 HB hHeld ⊢
      refine pure_ (i := 3) (N := some 16) (v := ?_) (a' := ?_) #[false, false, false, true, false, false, false, false] rfl rfl (any_of HT_.out (by kernel_rfl)) (fun _ _ _ h => h) (Or.inl ⟨(by rfl), ?_⟩) ?_ ?_
      rotate_left
      · exact z35
      rotate_left
      · exact z9
      refine take_ (i := 0) (N := some 13) (v := ?_) (a' := ?_) #[true, false, false, true, false, false, false, false] rfl rfl (take_ofW HT_.out HW_.out (by kernel_rfl)) (fun _ _ _ h => h) (Or.inl ⟨(by rfl), ?_⟩) hHeld ?_ ?_
      rotate_left
      · intro w' s0
        go_simp
        with_reducible rfl
      rotate_left
      · exact z9
      refine take_ (i := 2) (N := some 15) (v := ?_) (a' := ?_) #[true, false, true, true, false, false, false, false] rfl rfl (take_ofW HT_.out HW_.out (by kernel_rfl)) (fun _ _ _ h => h) (Or.inl ⟨(by rfl), ?_⟩) hHeld ?_ ?_
      rotate_left
      · intro w' s0
        go_simp
        with_reducible rfl
      rotate_left
      · exact z9
      refine one_ (i := 1) (N := some 14) #[true, true, true, true, false, false, false, false] rfl rfl (one_of HT_.out (by kernel_rfl)) (by decide) (fun K hK => ?_)
      refine goes_ Try.func57 (by kernel_rfl) rfl #[.agg #[.slice A0_0 l0_0.length c0_0]] (by rfl) rfl rfl z3 ?_
      with_reducible refine (impl_count.calls k _ _ l0_0 t101 _ ?side1 ?side2 A5.out).mono ?_
      (case side1 => exact z5)
      (case side2 => exact HC0_0.out)
      rintro e w12 ⟨rfl, hb⟩
      refine ⟨_, rfl, ?_⟩
      have n0_ := zBB BK103 hb
      have n1_ := zA (below_step z2 hb)
      clear BK103 HB
      have BK103 := n0_
      have HB := n1_
      clear n0_ n1_
      (try clear hb)
      (try clear hb2)
      (try clear hk)
      (try clear hi)
      refine hK.out _ _ ((blk_cell BK103.out 0).trans rfl) (fun hHeld => ?_)
      clear hK K
      refine norm_ (a' := ?_) ?_ ?_
      rotate_left
      · show Act.put _ (some 14) _ = _
        simp only [Act.put, List.setIfInBounds_toArray, List.set_cons_zero, List.set_cons_succ, i64_w, i32_w]
        rfl
      refine one_ (i := 4) (N := some 17) #[true, true, true, true, true, false, false, false] rfl rfl (one_of HT_.out (by kernel_rfl)) (by decide) (fun K hK => ?_)
      refine goes_ Try.func58 (by kernel_rfl) rfl #[.agg #[.slice A0_0 l0_0.length c0_0], .int .i64 a1] (by rfl) rfl rfl z3 ?_
      with_reducible refine (impl_dividedBy.calls k _ _ l0_0 a1 t102 _ ?side1 ?side2 A6.out).mono ?_
      (case side1 => exact z5)
      (case side2 => exact HC0_0.out)
      rintro e w13 ⟨rfl, hb⟩
      refine ⟨_, rfl, ?_⟩
      have n0_ := zBB BK103 hb
      have n1_ := zA (below_step z2 hb)
      clear BK103 HB
      have BK103 := n0_
      have HB := n1_
      clear n0_ n1_
      (try clear hb)
      (try clear hb2)
      (try clear hk)
      (try clear hi)
      refine hK.out _ _ ((blk_cell BK103.out 0).trans rfl) (fun hHeld => ?_)
      clear hK K
      refine norm_ (a' := ?_) ?_ ?_
      rotate_left
      · show Act.put _ (some 17) _ = _
        simp only [Act.put, List.setIfInBounds_toArray, List.set_cons_zero, List.set_cons_succ, i64_w, i32_w]
        rfl
      refine pure_ (i := 5) (N := some 18) (v := ?_) (a' := ?_) #[true, true, true, true, true, true, false, false] rfl rfl (any_of HT_.out (by kernel_rfl)) (fun _ _ _ h => h) (Or.inl ⟨(by rfl), ?_⟩) ?_ ?_
      rotate_left
      · exact z35
      rotate_left
      · exact z9
      refine pure_ (i := 6) (N := some 4) (v := ?_) (a' := ?_) #[true, true, true, true, true, true, true, false] rfl rfl (any_of HT_.out (by kernel_rfl)) (fun _ _ _ h => h) (Or.inl ⟨(by rfl), ?_⟩) ?_ ?_
      rotate_left
      · exact z35
      rotate_left
      · exact z9
      refine pure_ (i := 7) (N := some 5) (v := ?_) (a' := ?_) #[true, true, true, true, true, true, true, true] rfl rfl (any_of HT_.out (by kernel_rfl)) (fun _ _ _ h => h) (Or.inl ⟨(by rfl), ?_⟩) ?_ ?_
      rotate_left
      · exact z35
      rotate_left
      · exact z9
      refine done_ (done_of HT_.out (by kernel_rfl)) ?_
      try go_wp2
      go_ret2
      exact ⟨z15, z2⟩
  · rw [if_neg c4] at H
    have c4b0 : (t100 == 0) = false := beq_eq_false_iff_ne.mpr c4
    have c4b1 : (t100 != 0) = true := bne_iff_ne.mpr c4
    simp only [Option.some.injEq, Prod.mk.injEq] at H
    obtain ⟨rfl, rfl⟩ := H
    go_enter Try.func16, Try.ntmps16
    go_wp2_with (first | ((with_reducible refine gate_dst (N := 2) rfl ?_); refine box_event ?hg (N := 2) ?hd (cs := #[.slice A0_0 l0_0.length c0_0]) (t := 27) ?hr ?_; (case hd => rfl); (case hg => rfl); (case hr => first | (go_simp; done) | (go_simp; rfl)); intro gb103 hg w14 hbox hb; have n0_ := zA (below_step z1 hb); have n1_ := zA (hbox); have n2_ := zA ((z178 : w.heap.size ≤ gb103)); have n3_ := zA ((z178 : w.heap.size ≤ gb103)); clear HB; have HB := n0_; have BK103 := n1_; have GW103 := n2_; have GE103 := n3_; clear n0_ n1_ n2_ n3_; clear hb hbox hg; obtain ⟨hcz15_0, hfz15_0⟩ := zC1 BK103.out) | ((with_reducible refine gate_callee (f := 48) rfl ?_); refine goesL_ (some 9) rfl rfl Try.func48 (by kernel_rfl) rfl #[.agg #[.slice A0_0 l0_0.length c0_0], .slice none 0 0, .int .i64 a1] rfl z3 ?_; (refine (impl_rowsCode.calls k _ _ l0_0 _ _ ([] : List Int) a1 t100 _ ?side1 ?side2 ?side3 ?side4 A3.out).mono ?_); (case side1 => exact z5); (case side2 => exact HC0_0.out); (case side3 => exact Kd.C_nil _ _); (case side4 => exact Nat.le_refl _); rintro e w16 ⟨rfl, hb⟩; refine ⟨_, rfl, ?_⟩; have n0_ := zBB BK103 hb; have n1_ := zA (below_step z2 hb); clear BK103 HB; have BK103 := n0_; have HB := n1_; clear n0_ n1_; (try clear hb); (try clear hb2); (try clear hk); (try clear hi)))
    go_ret2
    exact ⟨z15, z2⟩

end Go.Proofs.Ytbfhhjekonafdaa.PFnPairRows
