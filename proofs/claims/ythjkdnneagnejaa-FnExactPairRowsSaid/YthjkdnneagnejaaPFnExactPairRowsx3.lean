-- WALKS, by a program and by hand
import Derived.Test.YthjkdnneagnejaaPFnExactPairRowsx0
import Derived.Test.YthjkdnneagnejaaPFnExactPairRowsx2
namespace Go.Proofs.Ythjkdnneagnejaa.PFnExactPairRows
open Go.RowKit Go.Proofs.Ythjkdnneagnejaa.DG Go.Proofs.YthjkdnneagnejaaW.PrintWords Go.Proofs.YthjkdnneagnejaaW.PrintLast Go.Proofs.YthjkdnneagnejaaW.PrintMore
attribute [local go_sem] max2_int min2_int max_two min_two max_three min_three max_four min_four   -- for this text's walks alone
set_option linter.unusedVariables false
set_option linter.unusedSimpArgs false

/-! ### impl_PairRows: function 39 -/
def pg (dd : Nat → Int) (t j : Nat) : Int := if j < t then dd j else 0
def pgA (dd : Nat → Int) (t : Nat) : Array Value := ag8 (pg dd t 0) (pg dd t 1) (pg dd t 2) (pg dd t 3) (pg dd t 4) (pg dd t 5) (pg dd t 6) (pg dd t 7)
def pgL (dd : Nat → Int) (t : Nat) : List Int := [pg dd t 0, pg dd t 1, pg dd t 2, pg dd t 3, pg dd t 4, pg dd t 5, pg dd t 6, pg dd t 7]
theorem pg_set (dd : Nat → Int) (t : Nat) (h : t < 8) : (pgA dd t).setIfInBounds t (.int .u8 (dd t)) = pgA dd (t + 1) := by
  match t, h with
  | 0, _ => rfl
  | 1, _ => rfl
  | 2, _ => rfl
  | 3, _ => rfl
  | 4, _ => rfl
  | 5, _ => rfl
  | 6, _ => rfl
  | 7, _ => rfl
/-- A row's digit at a place. -/
def dgP (T : List Int) (row j : Nat) : Int := IntKind.u8.wrap (Go.bits .and .i64 (shr .i64 (rd T (j : Int)) (row : Int)) 1)
def rowsP (S T : List Int) (an m : Nat) : List Int := 0 :: (List.range m).map fun row => wordI 0 S (pgL (dgP T row) an)
def okPR (an : Int) (S T : List Int) (n : Int) : Bool := decide (1 ≤ n) && decide (n ≤ 64) && decide (an ≤ (T.length : Int)) && decide (1 ≤ S.length) && okS S && (List.range (n - 1).toNat).all fun row => okB (pgL (dgP T row) an.toNat)
def impl_PairRows.f (k : Nat) (a0 : Int) : Option (List Int × List Int × Int) := if a0 < 1 then some ([], [], 2) else (if a0 > 8 then some ([], [], 2) else ((slices_Repeat_int64_int64.f k [2] a0).bind fun S => (impl_pairNumber.f k a0).bind fun n => (impl_sets.f k (wrap64 (n - 1)) (wrap64 (Int.tdiv (wrap64 (n + 1)) 2))).bind fun T => if okPR a0 S T n = true then some (S, rowsP S T a0.toNat (n - 1).toNat, 0) else none))
theorem impl_PairRows.mono : ∀ a0 k, LeO (impl_PairRows.f k a0) (impl_PairRows.f (k + 1) a0) := by
  intro a0 k
  unfold impl_PairRows.f
  exact LeO.ite (LeO.refl _) (LeO.ite (LeO.refl _) (LeO.bind (slices_Repeat_int64_int64.mono _ _ k) (fun _ => LeO.bind (impl_pairNumber.mono _ k) (fun _ => LeO.bind (impl_sets.mono _ _ k) (fun _ => LeO.refl _)))))
structure PR (w w3 : World) (g : Nat) (ok : Nat → Prop) (v : Value) (outs : List Int) (W : World) : Prop where
  keep : KeepBut w3 W g none
  bel : Below w.heap.size w W
  out : Kd.R (Kd.int .i64) 2 W w.heap.size ok v outs
theorem PR.below {w w3 : World} {g : Nat} {ok : Nat → Prop} {v : Value} {outs : List Int} {W W' : World} (h : PR w w3 g ok v outs W) (hb : Below W.heap.size W W') : PR w w3 g ok v outs W' :=
  ⟨h.keep.trans (KeepBut.of_below hb g none) (.inl rfl), below_step h.bel hb, Kd.R_below h.out hb⟩
theorem PR.set {w w3 : World} {g : Nat} {ok : Nat → Prop} {v : Value} {outs : List Int} {W : World} (h : PR w w3 g ok v outs W) (gr j : Nat) (u : Value) (h1 : w3.heap.size ≤ gr) (h2 : w.heap.size ≤ gr) (h3 : ∀ k, ok k → k ≠ gr) : PR w w3 g ok v outs (W.setCell ⟨gr, j, none⟩ u) :=
  ⟨keep_far h.keep (p := ⟨gr, j, none⟩) h1 u, below_set h.bel h2, Kd.R_far (p := ⟨gr, j, none⟩) h.out h3 u⟩
theorem one_row (W : World) (x : Int) : Kd.C (Kd.int .i64) (W.alloc (.cells #[.int .i64 x] 2)) (some ⟨W.heap.size, 0, none⟩) ([x] : List Int).length [x] := by
  refine Kd.C_of_reads (d := (0 : Int)) (h1 := fun _ => rfl) ⟨rfl, by simp, fun _ => ⟨_, rfl, fun j hj => ?_⟩⟩
  have hj0 : j = 0 := by simpa using hj
  subst hj0
  rw [add_plain, blk_cell (blk_new W _) 0]
  rfl
theorem keep_append {w3 W w1 : World} {g : Nat} {v : Value} (h : KeepBut w3 W g none) (hg : W.grownBy w1 v.ownBlock) (hv : ∀ k, v.ownBlock = some k → k = g ∨ w3.heap.size ≤ k) : KeepBut w3 w1 g none := by
  refine ⟨Nat.le_trans h.1 hg.size, fun i hi hne _ => ?_⟩
  rw [← h.2 i hi hne (by simp)]
  refine hg.block i (Nat.lt_of_lt_of_le hi h.1) (fun he => ?_)
  rcases hv i he.symm with h1 | h1
  · exact hne h1
  · omega
theorem pr_info2 : (Try.prog.info? 2).map (fun i => (i.zero, i.size, i.bytes)) = some (some (.int .i64 0), 1, 8) := by kernel_rfl
theorem lit_one (W : World) (base : Nat) (hb : base ≤ W.heap.size) (x : Int) : Kd.R (Kd.int .i64) 2 (W.alloc (.cells #[.int .i64 x] 2)) base (fun k => k = W.heap.size) (.slice (some ⟨W.heap.size, 0, none⟩) 1 1) [x] := by
  refine ⟨fun k hk => by simpa [Value.ownBlock] using hk.symm, [.int .i64 x], ?_, Reps.one (show Kd.M (Kd.int .i64) _ _ _ x [.int .i64 x] from rfl) (Reps.none _ _)⟩
  have h2 := World.ownsRow_lit (base := base) (e := 2) (size := 1) W #[.int .i64 x] 1 hb (by simp [maxLen]) (by simp)
  exact h2
theorem wr_dg (T : List Int) (row j : Nat) : dgP T row j = IntKind.u8.wrap (Go.bits .and .i64 (shr .i64 (rd T (j : Int)) (row : Int)) 1) := rfl
set_option maxHeartbeats 4000000 in
set_option maxRecDepth 100000 in
theorem pairRows_walk (k an : Nat) (S T : List Int) (n : Int) (nn : Nat) (hn : n = nn) (w : World) (h1 : 1 ≤ an) (h8 : an ≤ 8) (hS : slices_Repeat_int64_int64.f k [2] (an : Int) = some S) (hN : impl_pairNumber.f k (an : Int) = some n) (hT : impl_sets.f k (wrap64 (n - 1)) (wrap64 (Int.tdiv (wrap64 (n + 1)) 2)) = some T)
    (hn1 : 1 ≤ nn) (hn2 : nn ≤ 64) (hTl : an ≤ T.length) (hS1 : 1 ≤ S.length) (hSl : S.length ≤ 8) (hSq : ∀ q ∈ S, 2 ≤ q ∧ q ≤ 4) (hd : ∀ row, row < nn - 1 → ∀ x ∈ pgL (dgP T row) an, 0 ≤ x ∧ x ≤ 255) :
    Calls Try.prog 39 #[.int .i64 (an : Int)] w fun e w' => ∃ v0_ v1_ : Value, e = .returned (.tuple #[.agg #[v0_], v1_, .int .i64 0]) ∧ Kd.R (Kd.int .i64) 2 w' w.heap.size (fun k_ => some k_ ≠ (v1_ : Value).ownBlock) v0_ S ∧ Kd.R (Kd.int .i64) 2 w' w.heap.size (fun k_ => some k_ ≠ (v0_ : Value).ownBlock) v1_ (rowsP S T an (nn - 1)) ∧ Below w.heap.size w w' := by
  have d1 : decide ((an : Int) < 1) = false := decide_eq_false (by omega)
  have d2 : decide ((an : Int) > 8) = false := decide_eq_false (by omega)
  rw [hn, show wrap64 ((nn : Int) - 1) = (nn : Int) - 1 by unfold wrap64; omega, show wrap64 ((nn : Int) + 1) = (nn : Int) + 1 by unfold wrap64; omega, Int.tdiv_eq_ediv_of_nonneg (by omega), show wrap64 (((nn : Int) + 1) / 2) = ((nn : Int) + 1) / 2 by unfold wrap64; omega] at hT
  have HSE := Aside0.mk hS
  have HNE := Aside0.mk hN
  have HTE := Aside0.mk hT
  have HSQ := Aside0.mk hSq
  have HD := Aside0.mk hd
  clear hS hN hT hSq hd
  go_enter Try.func39, Try.ntmps39
  go_wp2_with fail
  have hb1 : Below w.heap.size w ((w.alloc (.cells #[.slice none 0 0] 28)).alloc (.cells #[.int .i64 2] 2)) := below_alloc (below_alloc (Below.refl _ _) _) _
  have hk1 := blk_alloc (blk_new w (.cells #[.slice none 0 0] 28)) (.cells #[.int .i64 2] 2)
  have hc1 := one_row (w.alloc (.cells #[.slice none 0 0] 28)) 2
  rw [World.size_alloc] at hc1
  generalize (w.alloc (.cells #[.slice none 0 0] 28)).alloc (.cells #[.int .i64 2] 2) = W1 at hb1 hk1 hc1 ⊢
  refine (slices_Repeat_int64_int64.calls k _ 1 [2] (an : Int) S W1 hc1 (Nat.le_refl _) HSE.out).mono ?_
  rintro e w2 ⟨vS, rfl, hRS, hb2⟩
  obtain ⟨gS, cS, rfl, hgS, hgS2, _⟩ := Kd.R_form hRS (by omega)
  have HB2 := Aside0.mk (below_step hb1 hb2)
  have HK2 := Aside0.mk (blk_below hk1 hb2)
  have HGS := Aside0.mk (Nat.le_trans hb1.size hgS)
  have hlt1 := blk_lt hk1
  have HRS2 := Aside0.mk (Kd.R_mono (Kd.R_lower (Kd.R_bound hRS) hb1.size) (ok' := fun k => k ≠ w.heap.size) (fun k hk => by have := hk.2.1; omega))
  clear hb1 hk1 hc1 hRS hb2 hgS hgS2 hlt1
  go_wp2_with fail
  refine (impl_pairNumber.calls k (an : Int) n _ HNE.out).mono ?_
  rintro e w3 ⟨rfl, hb3⟩
  have HB3 := Aside0.mk (below_alloc (below_step HB2.out hb3) (.cells #[.slice (some ⟨gS, 0, none⟩) S.length cS] 28))
  have HK3 := Aside0.mk (blk_alloc (blk_below HK2.out hb3) (.cells #[.slice (some ⟨gS, 0, none⟩) S.length cS] 28))
  have HRS3 := Aside0.mk (Kd.R_alloc (Kd.R_below HRS2.out hb3) (.cells #[.slice (some ⟨gS, 0, none⟩) S.length cS] 28))
  have HF3 := Aside0.mk (blk_new w3 (.cells #[.slice (some ⟨gS, 0, none⟩) S.length cS] 28))
  have HZ3 := Aside0.mk (below_step HB2.out hb3).size
  clear hb3 HB2 HK2 HRS2
  go_wp2_with fail
  refine (impl_sets.calls k _ _ T _ HTE.out).mono ?_
  rintro e w4 ⟨vT, rfl, hRT, hb4⟩
  obtain ⟨gT, cT, rfl, hgT, hgT2, _⟩ := Kd.R_form hRT (by omega)
  have HB4 := Aside0.mk (below_step HB3.out hb4)
  have HK4 := Aside0.mk (blk_below HK3.out hb4)
  have HF4 := Aside0.mk (blk_below HF3.out hb4)
  have HRS4 := Aside0.mk (Kd.R_below HRS3.out hb4)
  have hz4 := hb4.size
  rw [World.size_alloc] at hz4
  have HZ4 := Aside0.mk hz4
  have HW0 := Aside0.mk (show w.heap.size < w4.heap.size from blk_lt HK4.out)
  -- the rows' world
  have hbl := below_alloc (Below.refl w4.heap.size w4) (.cells #[.int .i64 0] 2)
  have PR5 := Aside0.mk (show PR w (w4.alloc (.cells #[.int .i64 0] 2)) w4.heap.size (fun k => k = w4.heap.size ∨ (w4.alloc (.cells #[.int .i64 0] 2)).heap.size ≤ k) (.slice (some ⟨w4.heap.size, 0, none⟩) 1 1) [0] (w4.alloc (.cells #[.int .i64 0] 2)) from ⟨KeepBut.refl _ _ _, below_alloc HB4.out _, Kd.R_mono (lit_one w4 w.heap.size HB4.out.size 0) (fun k hk => .inl hk)⟩)
  have HK5 := Aside0.mk (blk_alloc HK4.out (.cells #[.int .i64 0] 2))
  have HF5 := Aside0.mk (blk_alloc HF4.out (.cells #[.int .i64 0] 2))
  have HRS5 := Aside0.mk (Kd.R_mono (Kd.R_below (Kd.R_bound HRS4.out) hbl) (ok' := fun k => k ≠ w4.heap.size ∧ k ≠ w.heap.size ∧ k < w4.heap.size) (fun k hk => by have := hk.2.2.1; have := hk.1; omega))
  have HRT5 := Aside0.mk (Kd.R_mono (Kd.R_below (Kd.R_bound hRT) hbl) (ok' := fun k => k ≠ w4.heap.size) (fun k hk => by have := hk.2.2.1; omega))
  have HGE5 := Aside0.mk (show w3.heap.size ≠ w4.heap.size by omega)
  have HN0 := Aside0.mk (show w.heap.size ≠ w4.heap.size by have := HW0.out; omega)
  have HSZ5 := Aside0.mk (show w.heap.size ≤ (w4.alloc (.cells #[.int .i64 0] 2)).heap.size by rw [World.size_alloc]; have := HW0.out; omega)
  have H54 := Aside0.mk (show w4.heap.size < (w4.alloc (.cells #[.int .i64 0] 2)).heap.size by rw [World.size_alloc]; omega)
  clear hbl hz4 hRT hgT hgT2 hb4 HB3 HK3 HF3 HRS3 HB4 HK4 HF4 HRS4
  go_wp2
  generalize w4.alloc (.cells #[.int .i64 0] 2) = w5 at PR5 HK5 HF5 HRS5 HRT5 HSZ5 H54 ⊢
  go_loopg [8, 34] nn (fun gg s8 s34 wr => ∃ (row : Nat), s34 = .int .i64 row ∧ row ≤ nn - 1 ∧ nn - 1 - row ≤ gg ∧ Aside0 (PR w w5 w4.heap.size (fun k => k = w4.heap.size ∨ w5.heap.size ≤ k) s8 (rowsP S T an row) wr))
  case atStart => exact ⟨0, rfl, by omega, by omega, PR5⟩
  case round =>
    obtain ⟨row, rfl, hrow, hgg, PRr⟩ := hrel
    have hr0 : (0 : Int) ≤ (row : Int) := by omega
    by_cases hlt : row < nn - 1
    · have hlt1 : (row : Int) < (nn : Int) - 1 := by omega
      go_wp2
      have hsr := PRr.out.keep.1
      have PR6 := Aside0.mk (show PR w w5 w4.heap.size (fun k => (k = w4.heap.size ∨ w5.heap.size ≤ k) ∧ k ≠ wr.heap.size) u8 (rowsP S T an row) (wr.alloc (.cells (ag8 0 0 0 0 0 0 0 0) 73)) from
        PR.below ⟨PRr.out.keep, PRr.out.bel, Kd.R_elderB PRr.out.out wr.heap.size (Nat.le_refl _)⟩ (below_alloc (Below.refl _ _) _))
      have BD6 := Aside0.mk (show (wr.alloc (.cells (ag8 0 0 0 0 0 0 0 0) 73)).heap[wr.heap.size]? = some (.cells (pgA (dgP T row) 0) 73 (0, 0)) from blk_new wr (.cells (ag8 0 0 0 0 0 0 0 0) 73))
      have HBD := Aside0.mk hsr
      clear hsr PRr
      generalize wr.heap.size = bd at PR6 BD6 HBD ⊢
      go_loopg [39] an (fun gg s39 wq => ∃ (t : Nat), s39 = .int .i64 t ∧ t ≤ an ∧ an - t ≤ gg ∧ Aside0 (PR w w5 w4.heap.size (fun k => (k = w4.heap.size ∨ w5.heap.size ≤ k) ∧ k ≠ bd) u8 (rowsP S T an row) wq) ∧ Aside0 (wq.heap[bd]? = some (.cells (pgA (dgP T row) t) 73 (0, 0))))
      case atStart => exact ⟨0, rfl, by omega, by omega, PR6, BD6⟩
      case round =>
        obtain ⟨t, rfl, ht, hgg2, PRq, BDq⟩ := hrel
        by_cases htl : t < an
        · have ht1 : (t : Int) < (an : Int) := by omega
          have ht8 : (t : Int) < 8 := by omega
          have ht0 : (0 : Int) ≤ (t : Int) := by omega
          have htT : (t : Int) < (T.length : Int) := by omega
          obtain ⟨ad, e, hx⟩ := Kd.at_int (Kd.R_reads' (Kd.R_keep HRT5.out PRq.out.keep (fun _ h => h))).2.2 (t : Int) ht0 htT
          cases e
          rw [Int.toNat_natCast, add_plain] at hx
          have hcell := ag8_cell _ _ _ _ _ _ _ _ BDq.out t (by omega)
          have hfz := blk_frozen BDq.out t
          go_wp2
          go_roundg (an - (t + 1))
          case measure => omega
          case rel =>
            refine ⟨t + 1, by go_num, by omega, by omega, ⟨PRq.out.set bd t _ HBD.out (Nat.le_trans HSZ5.out HBD.out) (fun k hk => hk.2)⟩, ⟨?_⟩⟩
            have h := blk_set BDq.out t (.int .u8 (dgP T row t))
            rw [pg_set _ _ (by omega)] at h
            have e : dgP T row t = Go.bits .and .i64 (rd T (t : Int) / 2 ^ row) 1 % 256 := by
              unfold dgP shr
              have e2 : ∀ x : Int, IntKind.u8.wrap x = x % 256 := fun x => by simp [IntKind.wrap, IntKind.bits, IntKind.signed]
              rw [e2, Int.toNat_natCast, show min row IntKind.i64.bits = row from Nat.min_eq_left (by show row ≤ 64; omega)]
            rw [← e]
            exact h
        · obtain rfl : t = an := by omega
          have ht1 : ¬ (t : Int) < (t : Int) := by omega
          have hbx : wr.cell? ⟨w3.heap.size, 0, none⟩ = some (.slice (some ⟨gS, 0, none⟩) S.length cS) := (blk_cell (PRq.out.keep.blk HF5.out HGE5.out (by simp)) 0).trans rfl
          have hc0 : wr.cell? ⟨bd, 0, none⟩ = some (.int .u8 (pg (dgP T row) t 0)) := (blk_cell BDq.out 0).trans rfl
          have hc1 : wr.cell? ⟨bd, 1, none⟩ = some (.int .u8 (pg (dgP T row) t 1)) := (blk_cell BDq.out 1).trans rfl
          have hc2 : wr.cell? ⟨bd, 2, none⟩ = some (.int .u8 (pg (dgP T row) t 2)) := (blk_cell BDq.out 2).trans rfl
          have hc3 : wr.cell? ⟨bd, 3, none⟩ = some (.int .u8 (pg (dgP T row) t 3)) := (blk_cell BDq.out 3).trans rfl
          have hc4 : wr.cell? ⟨bd, 4, none⟩ = some (.int .u8 (pg (dgP T row) t 4)) := (blk_cell BDq.out 4).trans rfl
          have hc5 : wr.cell? ⟨bd, 5, none⟩ = some (.int .u8 (pg (dgP T row) t 5)) := (blk_cell BDq.out 5).trans rfl
          have hc6 : wr.cell? ⟨bd, 6, none⟩ = some (.int .u8 (pg (dgP T row) t 6)) := (blk_cell BDq.out 6).trans rfl
          have hc7 : wr.cell? ⟨bd, 7, none⟩ = some (.int .u8 (pg (dgP T row) t 7)) := (blk_cell BDq.out 7).trans rfl
          go_wp2_with fail
          refine (wordOf_walk (some ⟨gS, 0, none⟩) cS S (pg (dgP T row) t 0) (pg (dgP T row) t 1) (pg (dgP T row) t 2) (pg (dgP T row) t 3) (pg (dgP T row) t 4) (pg (dgP T row) t 5) (pg (dgP T row) t 6) (pg (dgP T row) t 7) wr (Kd.R_reads' (Kd.R_keep HRS5.out PRq.out.keep (fun _ h => h.1))).2.2 hSl HSQ.out (HD.out row hlt)).mono ?_
          rintro e w8 ⟨rfl, hb8⟩
          have PR8 := Aside0.mk (PRq.out.below hb8)
          clear hbx hc0 hc1 hc2 hc3 hc4 hc5 hc6 hc7 hb8
          have hrl : (rowsP S T t row).length = row + 1 := by simp [rowsP]
          go_wp2_with (at_builtin; refine Kd.R_append (Kd.int .i64) (w0 := w) w.heap.size rfl (.tmp 53) (.tmp 57) 22 2 (.int .i64 0) 8 rfl Try.underlying22 pr_info2 rfl (by decide) (by omega) u8 _ (wordI 0 S (pgL (dgP T row) t)) [.int .i64 (wordI 0 S (pgL (dgP T row) t))] (fun k => k = w4.heap.size ∨ w5.heap.size ≤ k) (fun _ => False) rfl rfl rfl (fun _ h => h.elim) ?aF (Kd.R_mono PR8.out.out (fun k hk => hk.1)) PR8.out.bel ?aS ?aL ?_; (case aF => exact fun k hk => .inr (Nat.le_trans PR8.out.keep.1 hk)); (case aS => exact PR8.out.bel.size); (case aL => omega); intro v1 w9 ho hb hg hat)
          have KEEP9 := keep_append PR8.out.keep hg (fun k hk => (PR8.out.out.1 k hk).1)
          go_roundg (nn - 1 - (row + 1))
          case measure => omega
          case rel =>
            refine ⟨row + 1, by go_num, by omega, by omega, ⟨⟨KEEP9, hb, ?_⟩⟩⟩
            have e1 : rowsP S T t (row + 1) = rowsP S T t row ++ [wordI 0 S (pgL (dgP T row) t)] := by
              simp [rowsP, List.range_succ]
            rw [e1]
            exact ho
    · obtain rfl : row = nn - 1 := by omega
      have hlt1 : ¬ ((nn - 1 : Nat) : Int) < (nn : Int) - 1 := by omega
      have hbx : wr.cell? ⟨w3.heap.size, 0, none⟩ = some (.slice (some ⟨gS, 0, none⟩) S.length cS) := (blk_cell (PRr.out.keep.blk HF5.out HGE5.out (by simp)) 0).trans rfl
      have hk0 := PRr.out.keep.blk HK5.out HN0.out (by simp)
      have hbz : wr.cell? ⟨w.heap.size, 0, none⟩ = some (.slice none 0 0) := (blk_cell hk0 0).trans rfl
      have hfz := blk_frozen hk0 0
      have HK0 := Aside0.mk hk0
      clear hk0
      have HSg : gS < w4.heap.size := (HRS5.out.1 gS rfl).2.2
      have HSn : gS ≠ w4.heap.size := (HRS5.out.1 gS rfl).1
      have HU := Aside0.mk PRr.out.out.1
      go_wp2
      refine bodyPost_ret (results_ctt rfl _ _ w.heap.size 28 #[.slice (some ⟨gS, 0, none⟩) S.length cS] (0, 0) _ rfl (blk_set HK0.out 0 (.slice (some ⟨gS, 0, none⟩) S.length cS)) Try.underlying28 rfl (by kernel_rfl)) rfl ?_
      have hw0 := HW0.out
      have h54 := H54.out
      refine ⟨_, _, rfl, ?_, ?_, below_set PRr.out.bel (Nat.le_refl _)⟩
      · refine Kd.R_mono (Kd.R_far (p := ⟨w.heap.size, 0, none⟩) (Kd.R_keep HRS5.out PRr.out.keep (fun _ h => h.1)) (fun k hk => hk.2.1) _) (fun k hk he => ?_)
        rcases HU.out k he.symm with h | h <;> omega
      · refine Kd.R_mono (Kd.R_far (p := ⟨w.heap.size, 0, none⟩) PRr.out.out (fun k hk => by show k ≠ w.heap.size; omega) _) (fun k hk he => ?_)
        have : k = gS := by simpa [Value.ownBlock] using he
        omega
set_option maxHeartbeats 1000000 in
set_option maxRecDepth 100000 in
theorem pairRows_bad (a : Int) (w : World) (h : a < 1 ∨ 8 < a) :
    Calls Try.prog 39 #[.int .i64 a] w fun e w' => ∃ v0_ v1_ : Value, e = .returned (.tuple #[.agg #[v0_], v1_, .int .i64 2]) ∧ Kd.R (Kd.int .i64) 2 w' w.heap.size (fun k_ => some k_ ≠ (v1_ : Value).ownBlock) v0_ [] ∧ Kd.R (Kd.int .i64) 2 w' w.heap.size (fun k_ => some k_ ≠ (v0_ : Value).ownBlock) v1_ [] ∧ Below w.heap.size w w' := by
  rcases h with h | h
  · have d1 : decide (a < 1) = true := decide_eq_true h
    clear h
    go_enter Try.func39, Try.ntmps39
    go_wp2
    refine bodyPost_ret (results_ctt rfl _ _ w.heap.size 28 #[.slice none 0 0] (0, 0) _ rfl (blk_new w (.cells #[.slice none 0 0] 28)) Try.underlying28 rfl (by kernel_rfl)) rfl ?_
    exact ⟨_, _, rfl, Kd.R_nil _ _ _ _ _, Kd.R_nil _ _ _ _ _, below_alloc (Below.refl _ _) _⟩
  · have d1 : decide (a < 1) = false := decide_eq_false (by omega)
    have d2 : decide (a > 8) = true := decide_eq_true (by omega)
    clear h
    go_enter Try.func39, Try.ntmps39
    go_wp2
    refine bodyPost_ret (results_ctt rfl _ _ w.heap.size 28 #[.slice none 0 0] (0, 0) _ rfl (blk_new w (.cells #[.slice none 0 0] 28)) Try.underlying28 rfl (by kernel_rfl)) rfl ?_
    exact ⟨_, _, rfl, Kd.R_nil _ _ _ _ _, Kd.R_nil _ _ _ _ _, below_alloc (Below.refl _ _) _⟩
theorem impl_PairRows.calls (k : Nat) (a0 : Int) (r1 : List Int) (r2 : List Int) (r3 : Int) (w : World) (h : impl_PairRows.f k a0 = some (r1, r2, r3)) :
    Calls Try.prog 39 #[.int .i64 a0] w fun e w' => ∃ v0_ v1_ : Value, e = .returned (.tuple #[.agg #[v0_], v1_, .int .i64 r3]) ∧ Kd.R (Kd.int .i64) 2 w' w.heap.size (fun k_ => some k_ ≠ (v1_ : Value).ownBlock) v0_ r1 ∧ Kd.R (Kd.int .i64) 2 w' w.heap.size (fun k_ => some k_ ≠ (v0_ : Value).ownBlock) v1_ r2 ∧ Below w.heap.size w w' := by
  unfold impl_PairRows.f at h
  by_cases h1 : a0 < 1
  · rw [if_pos h1] at h
    cases h
    exact pairRows_bad a0 w (.inl h1)
  rw [if_neg h1] at h
  by_cases h2 : a0 > 8
  · rw [if_pos h2] at h
    cases h
    exact pairRows_bad a0 w (.inr h2)
  rw [if_neg h2] at h
  obtain ⟨S, hS, h⟩ := Option.bind_eq_some_iff.1 h
  obtain ⟨n, hn, h⟩ := Option.bind_eq_some_iff.1 h
  obtain ⟨T, hT, h⟩ := Option.bind_eq_some_iff.1 h
  by_cases hok : okPR a0 S T n = true
  · rw [if_pos hok] at h
    cases h
    simp only [okPR, Bool.and_eq_true, decide_eq_true_eq, List.all_eq_true, List.mem_range] at hok
    obtain ⟨⟨⟨⟨⟨o1, o2⟩, o3⟩, o4⟩, o5⟩, o6⟩ := hok
    obtain ⟨an, rfl⟩ : ∃ i : Nat, a0 = i := ⟨a0.toNat, by omega⟩
    obtain ⟨nn, rfl⟩ : ∃ i : Nat, n = i := ⟨n.toNat, by omega⟩
    obtain ⟨h8, hq⟩ := (okS_iff _).1 o5
    have e : ((nn : Int) - 1).toNat = nn - 1 := by omega
    rw [e] at o6 ⊢
    rw [Int.toNat_natCast] at o6 ⊢
    exact pairRows_walk k an _ T (nn : Int) nn rfl w (by omega) (by omega) hS hn hT (by omega) (by omega) (by omega) o4 h8 hq (fun row hr x hx => by
      have := o6 row hr
      simp only [okB, List.all_eq_true, Bool.and_eq_true, decide_eq_true_eq] at this
      exact this x hx)
  · rw [if_neg hok] at h; cases h

/-! ### laws_markInt64S: function 41 -/
def laws_markInt64S.l0 : Nat → List Int → Int → Int → Option (Int × List Int)
  | 0, _, _, _ => none
  | k + 1, x0, x1, x5 => if x5 < (x0.length : Int) then (if 0 ≤ x5 then (laws_markInt64S.l0 k (x0.set (x5 : Int).toNat x1) (wrap64 (x1 + 1)) (wrap64 (x5 + 1))) else (none)) else (some (x1, x0))
def laws_markInt64S.f (k : Nat) (l0 : List Int) (a1 : Int) : Option (Int × List Int) := laws_markInt64S.l0 k l0 a1 0
theorem laws_markInt64S.mono_l : ∀ k, (∀ y0 y1 y2, LeO (laws_markInt64S.l0 k y0 y1 y2) (laws_markInt64S.l0 (k + 1) y0 y1 y2))
  | 0 => fun _ _ _ r h => by simp [laws_markInt64S.l0] at h
  | k + 1 => by
    have ih0 := laws_markInt64S.mono_l k
    · intro y0 y1 y2
      unfold laws_markInt64S.l0
      repeat' first
      | (with_reducible exact ih0 _ _ _)
      | (with_reducible exact LeO.refl _)
      | (with_reducible exact LeO.none _)
      | (with_reducible refine LeO.ite ?_ ?_)
      | (with_reducible refine LeO.bind ?_ (fun _ => ?_))
      | exact ih0 _ _ _
      | exact LeO.none _
      | refine LeO.ite ?_ ?_
      | refine LeO.bind ?_ (fun _ => ?_)
theorem laws_markInt64S.mono : ∀ a0 a1 k, LeO (laws_markInt64S.f k a0 a1) (laws_markInt64S.f (k + 1) a0 a1) := by
  intro a0 a1 k
  have ih0 := laws_markInt64S.mono_l k
  unfold laws_markInt64S.f
  repeat' first
      | (with_reducible exact ih0 _ _ _)
      | (with_reducible exact LeO.refl _)
      | (with_reducible exact LeO.none _)
      | (with_reducible refine LeO.ite ?_ ?_)
      | (with_reducible refine LeO.bind ?_ (fun _ => ?_))
      | exact ih0 _ _ _
      | exact LeO.none _
      | refine LeO.ite ?_ ?_
      | refine LeO.bind ?_ (fun _ => ?_)
set_option maxHeartbeats 8000000 in
set_option maxRecDepth 100000 in
theorem laws_markInt64S.calls (k : Nat) (P0_ : Nat → Prop) (u9000_ : Value) (l0 : List Int) (a1 : Int) (r1 : Int) (r2 : List Int) (w0 w : World) (hB : Below w0.heap.size w0 w) (ho0 : Kd.R (Kd.int .i64) 2 w w0.heap.size P0_ u9000_ l0) (h : laws_markInt64S.f k l0 a1 = some (r1, r2)) :
    Calls Try.prog 41 #[u9000_, .int .i64 a1] w fun e w' => e = .returned (.int .i64 r1) ∧ Kd.R (Kd.int .i64) 2 w' w0.heap.size (fun k_ => (P0_ k_ ∨ w.heap.size ≤ k_)) u9000_ r2 ∧ Below w0.heap.size w0 w' ∧ Kept w w' (fun k_ => P0_ k_) := by
  have HO0 := Aside0.mk (show Kd.R (Kd.int .i64) 2 w w0.heap.size (fun k_ => (P0_ k_ ∨ w.heap.size ≤ k_)) u9000_ l0 from Kd.R_mono ho0 (fun k_ hk => (.inl hk)))
  have HK := Aside0.mk (Kept.refl w (fun k_ => P0_ k_))
  have HW0 := Aside0.mk hB.size
  have HB := Aside0.mk hB
  clear hB
  have H : (laws_markInt64S.l0 k l0 a1 0) = some (r1, r2) := h
  clear h
  have H' := Aside0.mk H
  clear H
  go_enter Try.func41, Try.ntmps41
  go_wp2
  go_loopg [1, 5] k (fun kq v1 v5 w' => ∃ (x0_1 : List Int) (x1_1 : Int) (x5_1 : Int), v1 = .int .i64 x1_1 ∧ v5 = .int .i64 x5_1 ∧ Aside0 (laws_markInt64S.l0 kq x0_1 x1_1 x5_1 = some (r1, r2)) ∧ Aside0 (kq ≤ k) ∧ Aside0 (Kd.R (Kd.int .i64) 2 w' w0.heap.size (fun k_ => (P0_ k_ ∨ w.heap.size ≤ k_)) u9000_ x0_1) ∧ Aside0 (Kept w w' (fun k_ => P0_ k_)) ∧ Aside0 (Below w0.heap.size w0 w'))
  case atStart => exact ⟨(l0), (a1), (0), (by first | rfl | (simp; done) | (simp [*]; done)), (by first | rfl | (simp; done) | (simp [*]; done)), H', ⟨Nat.le_refl _⟩, ⟨by (with_reducible repeat (first | apply Kd.R_alloc | apply Kd.R_drewN | apply Kd.R_drew)); exact HO0.out⟩, ⟨by repeat (first | (with_reducible first | exact HK.out | apply Kept.alloc | apply Kept.drewN | apply Kept.drew) | exact HK.out)⟩, ⟨by repeat (first | (with_reducible first | exact HB.out | apply below_alloc | apply pw_below_drewN | apply below_drew1) | exact HB.out)⟩⟩
  case round =>
    clear H'
    try clear p2
    obtain ⟨x0_1, x1_1, x5_1, rfl, rfl, HA, HK1, HO_0, HK, HB⟩ := hrel
    cases gk with
    | zero => exact absurd HA.out (by simp [laws_markInt64S.l0])
    | succ k1 =>
      have H := HA.out
      clear HA
      simp only [laws_markInt64S.l0] at H
      by_cases c3 : x5_1 < (x0_1.length : Int)
      · rw [if_pos c3] at H
        have c3b0 : decide (x5_1 < (x0_1.length : Int)) = true := decide_eq_true c3
        clear c3
        by_cases c4 : 0 ≤ x5_1
        · rw [if_pos c4] at H
          have c4b0 : decide (0 ≤ x5_1) = true := decide_eq_true c4
          clear c4
          obtain ⟨y149, hy149⟩ : ∃ y_ : List Int, y_ = (x0_1.set (x5_1 : Int).toNat x1_1) := ⟨_, rfl⟩
          replace H : (laws_markInt64S.l0 k1 y149 (wrap64 (x1_1 + 1)) (wrap64 (x5_1 + 1))) = some (r1, r2) := by first | (rw [hy149]; with_reducible exact H) | (have H2_ := (Option.bind_some _ _).symm.trans H; rw [hy149]; with_reducible exact H2_) | (have H2_ := (Option.bind_some _ _).symm.trans H; with_reducible exact H2_) | with_reducible exact H | (rw [hy149]; exact H) | exact H
          have Ny149 := Aside0.mk hy149
          clear hy149
          have H' := Aside0.mk H
          clear H
          obtain ⟨Ao6, co6, eo6⟩ := Kd.R_slice HO_0.out
          subst eo6
          have p5 : 0 ≤ (x5_1 : Int) := of_decide_eq_true (by first | (with_reducible assumption) | assumption)
          have q5 : (x5_1 : Int) < ((x0_1.length : Int) : Int) := of_decide_eq_true (by first | (with_reducible assumption) | assumption)
          obtain ⟨go5, co5, eo5, gb5, gl5, cl5, HG5⟩ := Kd.R_form HO_0.out (by omega)
          (first | cases eo5 | (injection eo5 with ea_ en_ ec_; (first | subst ea_ | (injection ea_ with ea_; subst ea_)); subst ec_; clear en_))
          have GB5 := Aside0.mk gb5
          have GG5 := Aside0.mk HG5
          clear gb5 gl5 HG5
          have HMgo5 := Aside0.mk (show (P0_ go5 ∨ w.heap.size ≤ go5) from (HO_0.out.1 _ rfl))
          obtain ⟨hx5_0, hf5_0⟩ := Kd.R_celln 0 HO_0.out (x5_1 : Int) p5 q5
          replace p5 := eq_true p5
          replace q5 := eq_true q5
          have HP7 := Kd.R_putg HO_0.out (x5_1 : Int) x1_1
          go_wp2_with (first | ((with_reducible refine gate_store (t := 2) (p := 15) rfl ?_); refine store_event (t := 2) (p := 15) (v := ?vo_w8) (w1 := (wr.setCell ⟨go5, (x5_1 : Int).toNat, none⟩ (.int .i64 x1_1))) ?hg ?ho ?hn ?hr ?_; (case ho => rfl); (case hg => rfl); (case hn => rfl); (case hr => first | (go_simp; done) | (go_simp; rfl)); intro w8 hw; have hg : wr.grownBy w8 (some go5) := (by rw [hw]; exact HP7.2); have hp_ : Kd.R (Kd.int .i64) 2 w8 w0.heap.size (fun k_ => (P0_ k_ ∨ w.heap.size ≤ k_)) (.slice (some ⟨go5, 0, none⟩) x0_1.length co6) y149 := (by rw [hw, Ny149.out]; exact HP7.1); clear HP7; have n0_ := Aside0.mk (hp_); have n1_ := Aside0.mk ((by rw [hw]; exact below_set (HB.out) GB5.out : Below w0.heap.size w0 w8)); have n2_ := Aside0.mk (Kept.of_grown (S := (fun k_ => P0_ k_)) hg (by repeat (first | (with_reducible first | exact HK.out | apply Kept.alloc | apply Kept.drewN | apply Kept.drew) | exact HK.out)) (fun k_ e_ => (HO_0.out.1 k_ e_))); clear HO_0; clear HB; clear HK; have HO_0 := n0_; have HB := n1_; have HK := n2_; clear n0_ n1_ n2_; clear hg hw hp_))
          go_roundg k1
          case measure => have := HK1.out; omega
          case rel => exact ⟨(y149), (wrap64 (x1_1 + 1)), (wrap64 (x5_1 + 1)), (by first | rfl | (simp; done) | (simp [*]; done)), (by first | rfl | (simp; done) | (simp [*]; done)), H', ⟨by have := HK1.out; omega⟩, ⟨by (with_reducible repeat (first | apply Kd.R_alloc | apply Kd.R_drewN | apply Kd.R_drew)); exact HO_0.out⟩, ⟨by repeat (first | (with_reducible first | exact HK.out | apply Kept.alloc | apply Kept.drewN | apply Kept.drew) | exact HK.out)⟩, ⟨by repeat (first | (with_reducible first | exact HB.out | apply below_alloc | apply pw_below_drewN | apply below_drew1) | exact HB.out)⟩⟩
        · rw [if_neg c4] at H
          exact absurd H (by simp)
      · rw [if_neg c3] at H
        have c3b0 : decide (x5_1 < (x0_1.length : Int)) = false := decide_eq_false c3
        clear c3
        simp only [Option.some.injEq, Prod.mk.injEq] at H
        obtain ⟨rfl, rfl⟩ := H
        obtain ⟨Ao9, co9, eo9⟩ := Kd.R_slice HO_0.out
        subst eo9
        go_wp2
        go_ret
        exact ⟨by first | rfl | (simp [errW_none, errW_some] <;> rfl) | (simp [*, errW_none, errW_some] <;> rfl), by (with_reducible repeat (first | apply Kd.R_alloc | apply Kd.R_drewN | apply Kd.R_drew)); exact HO_0.out, by repeat (first | (with_reducible first | exact HB.out | apply below_alloc | apply pw_below_drewN | apply below_drew1) | exact HB.out), by repeat (first | (with_reducible first | exact HK.out | apply Kept.alloc | apply Kept.drewN | apply Kept.drew) | exact HK.out)⟩

/-! ### laws_markSpace: function 40 -/
def laws_markSpace.f (k : Nat) (l0_0 : List Int) (a1 : Int) : Option (Int × List Int) := (laws_markInt64S.f k l0_0 a1).bind fun bt151 => (some (bt151.1, bt151.2))
theorem laws_markSpace.mono : ∀ a0 a1 k, LeO (laws_markSpace.f k a0 a1) (laws_markSpace.f (k + 1) a0 a1) := by
  intro a0 a1 k
  unfold laws_markSpace.f
  repeat' first
      | (with_reducible exact laws_markInt64S.mono _ _ _)
      | (with_reducible exact LeO.refl _)
      | (with_reducible exact LeO.none _)
      | (with_reducible refine LeO.ite ?_ ?_)
      | (with_reducible refine LeO.bind ?_ (fun _ => ?_))
      | exact laws_markInt64S.mono _ _ _
      | exact LeO.none _
      | refine LeO.ite ?_ ?_
      | refine LeO.bind ?_ (fun _ => ?_)
set_option maxHeartbeats 8000000 in
set_option maxRecDepth 100000 in
theorem laws_markSpace.calls (k : Nat) (P0_0_ : Nat → Prop) (u9000_ : Value) (l0_0 : List Int) (a1 : Int) (r1 : Int) (r2 : List Int) (w0 w : World) (hB : Below w0.heap.size w0 w) (ho0_0 : Kd.R (Kd.int .i64) 2 w w0.heap.size P0_0_ u9000_ l0_0) (h : laws_markSpace.f k l0_0 a1 = some (r1, r2)) :
    Calls Try.prog 40 #[.agg #[u9000_], .int .i64 a1] w fun e w' => e = .returned (.int .i64 r1) ∧ Kd.R (Kd.int .i64) 2 w' w0.heap.size (fun k_ => (P0_0_ k_ ∨ w.heap.size ≤ k_)) u9000_ r2 ∧ Below w0.heap.size w0 w' ∧ Kept w w' (fun k_ => P0_0_ k_) := by
  have hu28 := Try.underlying28
  have HO0_0 := Aside0.mk (show Kd.R (Kd.int .i64) 2 w w0.heap.size (fun k_ => (P0_0_ k_ ∨ w.heap.size ≤ k_)) u9000_ l0_0 from Kd.R_mono ho0_0 (fun k_ hk => (.inl hk)))
  have HK := Aside0.mk (Kept.refl w (fun k_ => P0_0_ k_))
  have HW0 := Aside0.mk hB.size
  have HB := Aside0.mk hB
  clear hB
  have H : ((laws_markInt64S.f k l0_0 a1).bind fun bt151 => (some (bt151.1, bt151.2))) = some (r1, r2) := h
  clear h
  replace H := Option.bind_eq_some_iff.mp H
  obtain ⟨⟨t151, t152⟩, A30, H⟩ := H
  replace H : (some (t151, t152)) = some (r1, r2) := H
  have A3 := Aside0.mk A30
  clear A30
  simp only [Option.some.injEq, Prod.mk.injEq] at H
  obtain ⟨rfl, rfl⟩ := H
  obtain ⟨Ao4, co4, eo4⟩ := Kd.R_slice HO0_0.out
  subst eo4
  go_enter Try.func40, Try.ntmps40
  go_wp2_with (first | ((with_reducible refine gate_dst (N := 2) rfl ?_); refine box_event ?hg (N := 2) ?hd (cs := #[.slice Ao4 l0_0.length co4]) (t := 28) ?hr ?_; (case hd => rfl); (case hg => rfl); (case hr => first | (go_simp; done) | (go_simp; rfl)); intro gb150 hg w5 hbox hb; have n0_ := Aside0.mk (Kd.R_below (by (with_reducible repeat (first | apply Kd.R_alloc | apply Kd.R_drewN | apply Kd.R_drew)); exact HO0_0.out) hb); have n1_ := Aside0.mk (Kept.below (S := (fun k_ => P0_0_ k_)) (by repeat (first | (with_reducible first | exact HK.out | apply Kept.alloc | apply Kept.drewN | apply Kept.drew) | exact HK.out)) hb); have n2_ := Aside0.mk (below_step (by repeat (first | (with_reducible first | exact HB.out | apply below_alloc | apply pw_below_drewN | apply below_drew1) | exact HB.out)) hb); have n3_ := Aside0.mk (hbox); have n4_ := Aside0.mk ((by rw [hg]; exact (by first | exact HK.out.1 | exact (show Kept w _ (fun k_ => P0_0_ k_) from by repeat (first | (with_reducible first | exact HK.out | apply Kept.alloc | apply Kept.drewN | apply Kept.drew) | exact HK.out)).1) : w.heap.size ≤ gb150)); have n5_ := Aside0.mk ((by rw [hg]; exact (below_size (by repeat (first | (with_reducible first | exact HB.out | apply below_alloc | apply pw_below_drewN | apply below_drew1) | exact HB.out))) : w0.heap.size ≤ gb150)); clear HO0_0; clear HK; clear HB; have HO0_0 := n0_; have HK := n1_; have HB := n2_; have BK150 := n3_; have GW150 := n4_; have GE150 := n5_; clear n0_ n1_ n2_ n3_ n4_ n5_; clear hb hbox hg; have hcz6_0 : w5.cell? ⟨gb150, 0, none⟩ = some (.slice Ao4 l0_0.length co4) := (blk_cell BK150.out 0).trans rfl; have hfz6_0 := blk_frozen BK150.out 0) | ((with_reducible refine gate_callee (f := 41) rfl ?_); refine goesL_ (some 8) rfl rfl Try.func41 (by kernel_rfl) rfl #[.slice Ao4 l0_0.length co4, .int .i64 a1] rfl (by (try simp only [List.map_toArray, List.map_cons, List.map_nil]); first | done | rfl | (simp only [List.length_drop, List.length_take]; rfl)) ?_; (with_reducible refine (laws_markInt64S.calls k (fun k_ => some k_ = (.slice Ao4 l0_0.length co4 : Value).ownBlock) (.slice Ao4 l0_0.length co4) l0_0 a1 t151 t152 w0 _ ?side1 ?side2 A3.out).mono ?_); (case side1 => repeat (first | (with_reducible first | exact HB.out | apply below_alloc | apply pw_below_drewN | apply below_drew1 | refine below_set ?_ GE150.out) | exact HB.out)); (case side2 => exact Kd.R_tight rfl HO0_0.out); rintro e w7 ⟨rfl, hy0, hb, hkp⟩; refine ⟨_, rfl, ?_⟩; have n0_ := Aside0.mk (Kd.R_reok rfl hy0 (fun k_ e_ => HO0_0.out.1 k_ e_)); have n1_ := Aside0.mk (blk_kept (by (with_reducible repeat (first | refine blk_drewN ?_ _ | refine blk_drew ?_ | refine blk_alloc ?_ _)); exact BK150.out) hkp (fun hs_ => (fun e_ => (Kd.R_ne HO0_0.out BK150.out (by decide)) e_) hs_)); have n2_ := Aside0.mk (Kept.then_ (S := (fun k_ => P0_0_ k_)) (by repeat (first | (with_reducible first | exact HK.out | apply Kept.alloc | apply Kept.drewN | apply Kept.drew | refine Kept.setCell ?_ (.inr GW150.out) _) | exact HK.out)) hkp (fun k_ hs_ => (fun e_ => (HO0_0.out.1 k_ e_.symm)) hs_)); have n3_ := Aside0.mk (hb); clear HO0_0; clear BK150; clear HK; clear HB; have HO0_0 := n0_; have BK150 := n1_; have HK := n2_; have HB := n3_; clear n0_ n1_ n2_ n3_; (try clear hb); (try clear hkp); (try clear hy0)))
  go_ret
  exact ⟨by first | rfl | (simp [errW_none, errW_some] <;> rfl) | (simp [*, errW_none, errW_some] <;> rfl), by (with_reducible repeat (first | apply Kd.R_alloc | apply Kd.R_drewN | apply Kd.R_drew)); exact HO0_0.out, by repeat (first | (with_reducible first | exact HB.out | apply below_alloc | apply pw_below_drewN | apply below_drew1 | refine below_set ?_ GE150.out) | exact HB.out), by repeat (first | (with_reducible first | exact HK.out | apply Kept.alloc | apply Kept.drewN | apply Kept.drew | refine Kept.setCell ?_ (.inr GW150.out) _) | exact HK.out)⟩

/-! ### laws_heldInt64S: function 43 -/
def laws_heldInt64S.l0 : Nat → List Int → Int → Int → Option (Int)
  | 0, _, _, _ => none
  | k + 1, x0, x1, x5 => if x5 < (x0.length : Int) then (if 0 ≤ x5 then (if (rd x0 x5) = x1 then (laws_heldInt64S.l0 k x0 (wrap64 (x1 + 1)) (wrap64 (x5 + 1))) else (some (-1))) else (none)) else (some x1)
def laws_heldInt64S.f (k : Nat) (l0 : List Int) (a1 : Int) : Option (Int) := laws_heldInt64S.l0 k l0 a1 0
theorem laws_heldInt64S.mono_l : ∀ k, (∀ y0 y1 y2, LeO (laws_heldInt64S.l0 k y0 y1 y2) (laws_heldInt64S.l0 (k + 1) y0 y1 y2))
  | 0 => fun _ _ _ r h => by simp [laws_heldInt64S.l0] at h
  | k + 1 => by
    have ih0 := laws_heldInt64S.mono_l k
    · intro y0 y1 y2
      unfold laws_heldInt64S.l0
      repeat' first
      | (with_reducible exact ih0 _ _ _)
      | (with_reducible exact LeO.refl _)
      | (with_reducible exact LeO.none _)
      | (with_reducible refine LeO.ite ?_ ?_)
      | (with_reducible refine LeO.bind ?_ (fun _ => ?_))
      | exact ih0 _ _ _
      | exact LeO.none _
      | refine LeO.ite ?_ ?_
      | refine LeO.bind ?_ (fun _ => ?_)
theorem laws_heldInt64S.mono : ∀ a0 a1 k, LeO (laws_heldInt64S.f k a0 a1) (laws_heldInt64S.f (k + 1) a0 a1) := by
  intro a0 a1 k
  have ih0 := laws_heldInt64S.mono_l k
  unfold laws_heldInt64S.f
  repeat' first
      | (with_reducible exact ih0 _ _ _)
      | (with_reducible exact LeO.refl _)
      | (with_reducible exact LeO.none _)
      | (with_reducible refine LeO.ite ?_ ?_)
      | (with_reducible refine LeO.bind ?_ (fun _ => ?_))
      | exact ih0 _ _ _
      | exact LeO.none _
      | refine LeO.ite ?_ ?_
      | refine LeO.bind ?_ (fun _ => ?_)
set_option maxHeartbeats 8000000 in
set_option maxRecDepth 100000 in
theorem laws_heldInt64S.calls (k : Nat) (A0 : Option Addr) (c0 : Nat) (l0 : List Int) (a1 : Int) (r : Int) (w : World) (hr0 : Kd.C (Kd.int .i64) w A0 l0.length l0) (hc0 : l0.length ≤ c0) (h : laws_heldInt64S.f k l0 a1 = some r) :
    Calls Try.prog 43 #[.slice A0 l0.length c0, .int .i64 a1] w fun e w' => e = .returned (.int .i64 r) ∧ Drawn0 w w' := by
  have HR0 := Aside0.mk hr0
  have HC0 := Aside0.mk hc0
  clear hr0 hc0
  have H : (laws_heldInt64S.l0 k l0 a1 0) = some r := h
  clear h
  have H' := Aside0.mk H
  clear H
  go_enter Try.func43, Try.ntmps43
  go_wp2
  go_loopg [1, 5] k (fun kq v1 v5 w' => ∃ (x1_1 : Int) (x5_1 : Int), v1 = .int .i64 x1_1 ∧ v5 = .int .i64 x5_1 ∧ Aside0 (laws_heldInt64S.l0 kq l0 x1_1 x5_1 = some r) ∧ Aside0 (kq ≤ k) ∧ Drawn0 w w')
  case atStart => exact ⟨(a1), (0), (by first | rfl | (simp; done) | (simp [*]; done)), (by first | rfl | (simp; done) | (simp [*]; done)), H', ⟨Nat.le_refl _⟩, by repeat (first | exact Drawn0.refl _ | apply Drawn0.step)⟩
  case round =>
    clear H'
    try clear p2
    obtain ⟨x1_1, x5_1, rfl, rfl, HA, HK1, ⟨m1, rfl⟩⟩ := hrel
    cases gk with
    | zero => exact absurd HA.out (by simp [laws_heldInt64S.l0])
    | succ k1 =>
      have H := HA.out
      clear HA
      simp only [laws_heldInt64S.l0] at H
      by_cases c3 : x5_1 < (l0.length : Int)
      · rw [if_pos c3] at H
        have c3b0 : decide (x5_1 < (l0.length : Int)) = true := decide_eq_true c3
        clear c3
        by_cases c4 : 0 ≤ x5_1
        · rw [if_pos c4] at H
          have c4b0 : decide (0 ≤ x5_1) = true := decide_eq_true c4
          clear c4
          by_cases c5 : (rd l0 x5_1) = x1_1
          · rw [if_pos c5] at H
            have c5b0 : ((rd l0 x5_1) == x1_1) = true := beq_iff_eq.mpr c5
            have c5b1 : ((rd l0 x5_1) != x1_1) = false := bne_eq_false_iff_eq.mpr c5
            clear c5
            have H' := Aside0.mk H
            clear H
            have p153 : 0 ≤ (x5_1 : Int) := of_decide_eq_true (by first | (with_reducible assumption) | assumption)
            have q153 : x5_1 < (l0.length : Int) := of_decide_eq_true (by first | (with_reducible assumption) | assumption)
            obtain ⟨ad153, e153, hx153_0⟩ := Kd.at_int HR0.out x5_1 p153 q153
            cases e153
            replace p153 := eq_true p153
            replace q153 := eq_true q153
            go_wp2
            go_roundg k1
            case measure => have := HK1.out; omega
            case rel => exact ⟨(wrap64 (x1_1 + 1)), (wrap64 (x5_1 + 1)), (by first | rfl | (simp; done) | (simp [*]; done)), (by first | rfl | (simp; done) | (simp [*]; done)), H', ⟨by have := HK1.out; omega⟩, by repeat (first | exact Drawn0.refl _ | apply Drawn0.step)⟩
          · rw [if_neg c5] at H
            have c5b0 : ((rd l0 x5_1) == x1_1) = false := beq_eq_false_iff_ne.mpr c5
            have c5b1 : ((rd l0 x5_1) != x1_1) = true := bne_iff_ne.mpr c5
            obtain rfl := Option.some.inj H
            have p153 : 0 ≤ (x5_1 : Int) := of_decide_eq_true (by first | (with_reducible assumption) | assumption)
            have q153 : x5_1 < (l0.length : Int) := of_decide_eq_true (by first | (with_reducible assumption) | assumption)
            obtain ⟨ad153, e153, hx153_0⟩ := Kd.at_int HR0.out x5_1 p153 q153
            cases e153
            replace p153 := eq_true p153
            replace q153 := eq_true q153
            go_wp2
            go_ret
            exact ⟨by first | rfl | (simp; done) | (simp [*]; done), by repeat (first | exact Drawn0.refl _ | apply Drawn0.step)⟩
        · rw [if_neg c4] at H
          exact absurd H (by simp)
      · rw [if_neg c3] at H
        have c3b0 : decide (x5_1 < (l0.length : Int)) = false := decide_eq_false c3
        clear c3
        obtain rfl := Option.some.inj H
        go_wp2
        go_ret
        exact ⟨by first | rfl | (simp; done) | (simp [*]; done), by repeat (first | exact Drawn0.refl _ | apply Drawn0.step)⟩

/-! ### laws_heldSpace: function 42 -/
def laws_heldSpace.f (k : Nat) (l0_0 : List Int) (a1 : Int) : Option (Int) := (laws_heldInt64S.f k l0_0 a1).bind fun t155 => (if t155 < 0 then (some (-1)) else (some t155))
theorem laws_heldSpace.mono : ∀ a0 a1 k, LeO (laws_heldSpace.f k a0 a1) (laws_heldSpace.f (k + 1) a0 a1) := by
  intro a0 a1 k
  unfold laws_heldSpace.f
  repeat' first
      | (with_reducible exact laws_heldInt64S.mono _ _ _)
      | (with_reducible exact LeO.refl _)
      | (with_reducible exact LeO.none _)
      | (with_reducible refine LeO.ite ?_ ?_)
      | (with_reducible refine LeO.bind ?_ (fun _ => ?_))
      | exact laws_heldInt64S.mono _ _ _
      | exact LeO.none _
      | refine LeO.ite ?_ ?_
      | refine LeO.bind ?_ (fun _ => ?_)
set_option maxHeartbeats 8000000 in
set_option maxRecDepth 100000 in
theorem laws_heldSpace.calls (k : Nat) (A0_0 : Option Addr) (c0_0 : Nat) (l0_0 : List Int) (a1 : Int) (r : Int) (w : World) (hr0_0 : Kd.C (Kd.int .i64) w A0_0 l0_0.length l0_0) (hc0_0 : l0_0.length ≤ c0_0) (h : laws_heldSpace.f k l0_0 a1 = some r) :
    Calls Try.prog 42 #[.agg #[.slice A0_0 l0_0.length c0_0], .int .i64 a1] w fun e w' => e = .returned (.int .i64 r) ∧ Below w.heap.size w w' := by
  have hu28 := Try.underlying28
  have HR0_0 := Aside0.mk hr0_0
  have HC0_0 := Aside0.mk hc0_0
  clear hr0_0 hc0_0
  have HB := Aside0.mk (Below.refl w.heap.size w)
  have H : ((laws_heldInt64S.f k l0_0 a1).bind fun t155 => (if t155 < 0 then (some (-1)) else (some t155))) = some r := h
  clear h
  replace H := Option.bind_eq_some_iff.mp H
  obtain ⟨t155, A30, H⟩ := H
  replace H : (if t155 < 0 then (some (-1)) else (some t155)) = some r := H
  have A3 := Aside0.mk A30
  clear A30
  by_cases c4 : t155 < 0
  · rw [if_pos c4] at H
    have c4b0 : decide (t155 < 0) = true := decide_eq_true c4
    clear c4
    obtain rfl := Option.some.inj H
    go_enter Try.func42, Try.ntmps42
    go_wp2_with (first | ((with_reducible refine gate_dst (N := 2) rfl ?_); refine box_event ?hg (N := 2) ?hd (cs := #[.slice A0_0 l0_0.length c0_0]) (t := 28) ?hr ?_; (case hd => rfl); (case hg => rfl); (case hr => first | (go_simp; done) | (go_simp; rfl)); intro gb154 hg w5 hbox hb; have n0_ := Aside0.mk (below_step (by repeat (first | (with_reducible first | exact HB.out | apply below_alloc | apply pw_below_drewN | apply below_drew1) | exact HB.out)) hb); have n1_ := Aside0.mk (hbox); have n2_ := Aside0.mk ((by rw [hg]; exact (below_size (by repeat (first | (with_reducible first | exact HB.out | apply below_alloc | apply pw_below_drewN | apply below_drew1) | exact HB.out))) : w.heap.size ≤ gb154)); have n3_ := Aside0.mk ((by rw [hg]; exact (below_size (by repeat (first | (with_reducible first | exact HB.out | apply below_alloc | apply pw_below_drewN | apply below_drew1) | exact HB.out))) : w.heap.size ≤ gb154)); clear HB; have HB := n0_; have BK154 := n1_; have GW154 := n2_; have GE154 := n3_; clear n0_ n1_ n2_ n3_; clear hb hbox hg; have hcz6_0 : w5.cell? ⟨gb154, 0, none⟩ = some (.slice A0_0 l0_0.length c0_0) := (blk_cell BK154.out 0).trans rfl; have hfz6_0 := blk_frozen BK154.out 0) | ((with_reducible refine gate_callee (f := 43) rfl ?_); refine goesL_ (some 8) rfl rfl Try.func43 (by kernel_rfl) rfl #[.slice A0_0 l0_0.length c0_0, .int .i64 a1] rfl (by (try simp only [List.map_toArray, List.map_cons, List.map_nil]); first | done | rfl | (simp only [List.length_drop, List.length_take]; rfl)) ?_; (with_reducible refine (laws_heldInt64S.calls k _ _ l0_0 a1 t155 _ ?side1 ?side2 A3.out).mono ?_); (case side1 => repeat (first | exact (Kd.C_below HR0_0.out HB.out) | (with_reducible refine Kd.C_alloc ?_ _) | (with_reducible refine Kd.C_drewN ?_ _) | (with_reducible refine Kd.C_drew ?_))); (case side2 => exact HC0_0.out); rintro e w' ⟨rfl, ⟨nd, rfl⟩⟩; refine ⟨_, rfl, ?_⟩))
    go_ret
    exact ⟨by first | rfl | (simp [errW_none, errW_some] <;> rfl) | (simp [*, errW_none, errW_some] <;> rfl), by repeat (first | (with_reducible first | exact HB.out | apply below_alloc | apply pw_below_drewN | apply below_drew1 | refine below_set ?_ GE154.out) | exact HB.out)⟩
  · rw [if_neg c4] at H
    have c4b0 : decide (t155 < 0) = false := decide_eq_false c4
    clear c4
    obtain rfl := Option.some.inj H
    go_enter Try.func42, Try.ntmps42
    go_wp2_with (first | ((with_reducible refine gate_dst (N := 2) rfl ?_); refine box_event ?hg (N := 2) ?hd (cs := #[.slice A0_0 l0_0.length c0_0]) (t := 28) ?hr ?_; (case hd => rfl); (case hg => rfl); (case hr => first | (go_simp; done) | (go_simp; rfl)); intro gb154 hg w7 hbox hb; have n0_ := Aside0.mk (below_step (by repeat (first | (with_reducible first | exact HB.out | apply below_alloc | apply pw_below_drewN | apply below_drew1) | exact HB.out)) hb); have n1_ := Aside0.mk (hbox); have n2_ := Aside0.mk ((by rw [hg]; exact (below_size (by repeat (first | (with_reducible first | exact HB.out | apply below_alloc | apply pw_below_drewN | apply below_drew1) | exact HB.out))) : w.heap.size ≤ gb154)); have n3_ := Aside0.mk ((by rw [hg]; exact (below_size (by repeat (first | (with_reducible first | exact HB.out | apply below_alloc | apply pw_below_drewN | apply below_drew1) | exact HB.out))) : w.heap.size ≤ gb154)); clear HB; have HB := n0_; have BK154 := n1_; have GW154 := n2_; have GE154 := n3_; clear n0_ n1_ n2_ n3_; clear hb hbox hg; have hcz8_0 : w7.cell? ⟨gb154, 0, none⟩ = some (.slice A0_0 l0_0.length c0_0) := (blk_cell BK154.out 0).trans rfl; have hfz8_0 := blk_frozen BK154.out 0) | ((with_reducible refine gate_callee (f := 43) rfl ?_); refine goesL_ (some 8) rfl rfl Try.func43 (by kernel_rfl) rfl #[.slice A0_0 l0_0.length c0_0, .int .i64 a1] rfl (by (try simp only [List.map_toArray, List.map_cons, List.map_nil]); first | done | rfl | (simp only [List.length_drop, List.length_take]; rfl)) ?_; (with_reducible refine (laws_heldInt64S.calls k _ _ l0_0 a1 t155 _ ?side1 ?side2 A3.out).mono ?_); (case side1 => repeat (first | exact (Kd.C_below HR0_0.out HB.out) | (with_reducible refine Kd.C_alloc ?_ _) | (with_reducible refine Kd.C_drewN ?_ _) | (with_reducible refine Kd.C_drew ?_))); (case side2 => exact HC0_0.out); rintro e w' ⟨rfl, ⟨nd, rfl⟩⟩; refine ⟨_, rfl, ?_⟩))
    go_ret
    exact ⟨by first | rfl | (simp [errW_none, errW_some] <;> rfl) | (simp [*, errW_none, errW_some] <;> rfl), by repeat (first | (with_reducible first | exact HB.out | apply below_alloc | apply pw_below_drewN | apply below_drew1 | refine below_set ?_ GE154.out) | exact HB.out)⟩

end Go.Proofs.Ythjkdnneagnejaa.PFnExactPairRows
