-- WALKS, by a program and by hand
import Derived.Test.YtchlbkcladfloaaPFnGuaranteesx0
import Derived.Test.YtchlbkcladfloaaPFnGuaranteesx1
namespace Go.Proofs.Ytchlbkcladfloaa.PFnGuarantees
open Go.RowKit Go.Proofs.Ytchlbkcladfloaa.DG Go.Proofs.YtchlbkcladfloaaW.PrintWords Go.Proofs.YtchlbkcladfloaaW.PrintLast Go.Proofs.YtchlbkcladfloaaW.PrintMore
attribute [local go_sem] max2_int min2_int max_two min_two max_three min_three max_four min_four   -- for this text's walks alone
set_option linter.unusedVariables false
set_option linter.unusedSimpArgs false

mutual
def spec_GreedyTickets.l0 : Nat → List Int → List Int → List Int → Int → Int → Int → Int → Option (List Int × Int)
 | 0, _, _, _, _, _, _, _ => none
 | k + 1, x4, x5, x6, x157000, x157001, x157002, x157003 => if (x5.length : Int) > 0 then (if (x6.length : Int) = 200 then (some (([] : List Int), 3)) else (spec_GreedyTickets.l1 k x4 x5 x6 0 0 0 x157000 x157001 x157002 x157003)) else (some (x6, 0))
def spec_GreedyTickets.l1 : Nat → List Int → List Int → List Int → Int → Int → Int → Int → Int → Int → Int → Option (List Int × Int)
 | 0, _, _, _, _, _, _, _, _, _, _ => none
 | k + 1, x4, x5, x6, x7, x8, x9, x157000, x157001, x157002, x157003 => if x9 < (x4.length : Int) then (spec_GreedyTickets.l2 k x4 x5 x6 x7 x8 x9 0 0 x157000 x157001 x157002 x157003) else ((spec_l01Put.f k x6 x7).bind fun t100 => (spec_GreedyTickets.l3 k x4 x5 t100 x7 (([] : List Int)) 0 x157000 x157001 x157002 x157003))
def spec_GreedyTickets.l2 : Nat → List Int → List Int → List Int → Int → Int → Int → Int → Int → Int → Int → Int → Int → Option (List Int × Int)
 | 0, _, _, _, _, _, _, _, _, _, _, _, _ => none
 | k + 1, x4, x5, x6, x7, x8, x9, x10, x11, x157000, x157001, x157002, x157003 => if x11 < (x5.length : Int) then (if 0 ≤ x9 then (if x9 < (x4.length : Int) then (if 0 ≤ x11 then ((spec_l08Size.f k (Go.bits .and .i64 (rd x4 x9) (rd x5 x11))).bind fun t101 => (if t101 ≥ x157003 then (spec_GreedyTickets.l2 k x4 x5 x6 x7 x8 x9 (wrap64 (x10 + 1)) (wrap64 (x11 + 1)) x157000 x157001 x157002 x157003) else (spec_GreedyTickets.l2 k x4 x5 x6 x7 x8 x9 x10 (wrap64 (x11 + 1)) x157000 x157001 x157002 x157003))) else (none)) else (none)) else (none)) else (if x10 > x8 then (if 0 ≤ x9 then (if x9 < (x4.length : Int) then (spec_GreedyTickets.l1 k x4 x5 x6 (rd x4 x9) x10 (wrap64 (x9 + 1)) x157000 x157001 x157002 x157003) else (none)) else (none)) else (spec_GreedyTickets.l1 k x4 x5 x6 x7 x8 (wrap64 (x9 + 1)) x157000 x157001 x157002 x157003))
def spec_GreedyTickets.l3 : Nat → List Int → List Int → List Int → Int → List Int → Int → Int → Int → Int → Int → Option (List Int × Int)
 | 0, _, _, _, _, _, _, _, _, _, _ => none
 | k + 1, x4, x5, x6, x7, x12, x13, x157000, x157001, x157002, x157003 => if x13 < (x5.length : Int) then (if 0 ≤ x13 then ((spec_l08Size.f k (Go.bits .and .i64 x7 (rd x5 x13))).bind fun t102 => (if t102 < x157003 then (if x12.length < 17592186044416 then (spec_GreedyTickets.l3 k x4 x5 x6 x7 (x12 ++ [rd x5 x13]) (wrap64 (x13 + 1)) x157000 x157001 x157002 x157003) else (none)) else (spec_GreedyTickets.l3 k x4 x5 x6 x7 x12 (wrap64 (x13 + 1)) x157000 x157001 x157002 x157003))) else (none)) else (spec_GreedyTickets.l0 k x4 x12 x6 x157000 x157001 x157002 x157003)
end
def spec_GreedyTickets.f (k : Nat) (a0_0 : Int) (a0_1 : Int) (a0_2 : Int) (a0_3 : Int) : Option (List Int × Int) := (spec_l08Is.f a0_0 a0_1 a0_2 a0_3).bind fun t103 => (if t103 = true then ((spec_l08Sets.f k a0_0 a0_1 a0_2 a0_3 a0_1).bind fun t104 => ((spec_l08Sets.f k a0_0 a0_1 a0_2 a0_3 a0_2).bind fun t105 => (spec_GreedyTickets.l0 k t104 t105 (([] : List Int)) a0_0 a0_1 a0_2 a0_3))) else (some (([] : List Int), 1)))
def spec_GreedyTickets.T3 : Bool × List (List Nat × List Nat) := (true, [([], []), ([], []), ([1], [1]), ([0, 2], [0, 2]), ([], []), ([], []), ([5], [5]), ([4, 6, 3], [4, 6]), ([], []), ([3, 7, 0, 1, 2, 3], [3]), ([7, 9, 0, 1, 2, 3, 4, 5, 6, 7, 9], [7]), ([8, 10, 0, 1, 2, 3, 4, 5, 6, 7, 8, 9, 10], [8])])
def spec_GreedyTickets.B3 : List Nat := [0, 0, 2, 7, 0, 0, 32, 127, 0, 255, 767, 2047]
theorem spec_GreedyTickets.tab3 : rtab .any (opsOf Try.f7 3) = spec_GreedyTickets.T3 := by kernel_rfl
theorem spec_GreedyTickets.bits3 : waitsOk spec_GreedyTickets.T3.2 spec_GreedyTickets.B3 = true := by kernel_rfl
def spec_GreedyTickets.T15 : Bool × List (List Nat × List Nat) := (true, [([], []), ([], []), ([0, 1], [0, 1]), ([2], [2]), ([], []), ([], []), ([4, 5], [4, 5]), ([6], [6]), ([3, 7], [3, 7]), ([8], [8]), ([], []), ([10], [10]), ([9, 11], [9, 11])])
def spec_GreedyTickets.B15 : List Nat := [0, 0, 3, 7, 0, 0, 48, 112, 255, 511, 0, 1024, 4095]
theorem spec_GreedyTickets.tab15 : rtab .any (opsOf Try.f7 15) = spec_GreedyTickets.T15 := by kernel_rfl
theorem spec_GreedyTickets.bits15 : waitsOk spec_GreedyTickets.T15.2 spec_GreedyTickets.B15 = true := by kernel_rfl
def spec_GreedyTickets.T25 : Bool × List (List Nat × List Nat) := (true, [([], []), ([], []), ([], []), ([1, 2], [1, 2]), ([3], [3]), ([0, 4], [0, 4]), ([5], [5]), ([], []), ([7], [7]), ([6, 8], [6, 8])])
def spec_GreedyTickets.B25 : List Nat := [0, 0, 0, 6, 14, 31, 63, 0, 128, 511]
theorem spec_GreedyTickets.tab25 : rtab .any (opsOf Try.f7 25) = spec_GreedyTickets.T25 := by kernel_rfl
theorem spec_GreedyTickets.bits25 : waitsOk spec_GreedyTickets.T25.2 spec_GreedyTickets.B25 = true := by kernel_rfl
namespace spec_GreedyTicketsA
structure AP3 (w : World) (a b c : Value) (p q r : Bool) : Prop where
 la : p = true → ∀ k, a.ownBlock = some k → k < w.heap.size
 lb : q = true → ∀ k, b.ownBlock = some k → k < w.heap.size
 lc : r = true → ∀ k, c.ownBlock = some k → k < w.heap.size
 ab : p = true → q = true → ∀ k, a.ownBlock = some k → b.ownBlock ≠ some k
 ac : p = true → r = true → ∀ k, a.ownBlock = some k → c.ownBlock ≠ some k
 bc : q = true → r = true → ∀ k, b.ownBlock = some k → c.ownBlock ≠ some k
theorem AP3.start {w : World} {a b c : Value} : AP3 w a b c false false false :=
 ⟨fun h => absurd h (by decide), fun h => absurd h (by decide), fun h => absurd h (by decide), fun h => absurd h (by decide), fun h => absurd h (by decide), fun h => absurd h (by decide)⟩
theorem AP3.s1 {w w9 : World} {a a' b c : Value} {p q r : Bool} (h : AP3 w a b c p q r) (hb : Below w.heap.size w w9) (h1 : ∀ k, a'.ownBlock = some k → w.heap.size ≤ k) (h2 : ∀ k, a'.ownBlock = some k → k < w9.heap.size) : AP3 w9 a' b c true q r := by
 have hs := hb.size
 exact ⟨fun _ => h2, fun hq k hk => Nat.lt_of_lt_of_le (h.lb hq k hk) hs, fun hr k hk => Nat.lt_of_lt_of_le (h.lc hr k hk) hs, fun _ hq k hk he => by have := h1 k hk; have := h.lb hq k he; omega, fun _ hr k hk he => by have := h1 k hk; have := h.lc hr k he; omega, h.bc⟩
theorem AP3.s2 {w w9 : World} {a b b' c : Value} {p q r : Bool} (h : AP3 w a b c p q r) (hb : Below w.heap.size w w9) (h1 : ∀ k, b'.ownBlock = some k → w.heap.size ≤ k) (h2 : ∀ k, b'.ownBlock = some k → k < w9.heap.size) : AP3 w9 a b' c p true r := by
 have hs := hb.size
 exact ⟨fun hp k hk => Nat.lt_of_lt_of_le (h.la hp k hk) hs, fun _ => h2, fun hr k hk => Nat.lt_of_lt_of_le (h.lc hr k hk) hs, fun hp _ k hk he => by have := h1 k he; have := h.la hp k hk; omega, h.ac, fun _ hr k hk he => by have := h1 k hk; have := h.lc hr k he; omega⟩
theorem AP3.s3 {w w9 : World} {a b c c' : Value} {p q r : Bool} (h : AP3 w a b c p q r) (hb : Below w.heap.size w w9) (h1 : ∀ k, c'.ownBlock = some k → w.heap.size ≤ k) (h2 : ∀ k, c'.ownBlock = some k → k < w9.heap.size) : AP3 w9 a b c' p q true := by
 have hs := hb.size
 exact ⟨fun hp k hk => Nat.lt_of_lt_of_le (h.la hp k hk) hs, fun hq k hk => Nat.lt_of_lt_of_le (h.lb hq k hk) hs, fun _ => h2, h.ab, fun hp _ k hk he => by have := h1 k he; have := h.la hp k hk; omega, fun hq _ k hk he => by have := h1 k he; have := h.lb hq k hk; omega⟩
theorem AP3.r1 {w : World} {a b c : Value} {e H : Nat} {ok : Nat → Prop} {xs : List Int} (h : AP3 w a b c true true true) (hR : Kd.R (Kd.int .i64) e w H ok a xs) : Kd.R (Kd.int .i64) e w H (fun k => some k ≠ b.ownBlock ∧ some k ≠ c.ownBlock) a xs :=
 ⟨fun k hk => ⟨fun he => h.ab rfl rfl k hk he.symm, fun he => h.ac rfl rfl k hk he.symm⟩, hR.2⟩
theorem AP3.r2 {w : World} {a b c : Value} {e H : Nat} {ok : Nat → Prop} {xs : List Int} (h : AP3 w a b c true true true) (hR : Kd.R (Kd.int .i64) e w H ok b xs) : Kd.R (Kd.int .i64) e w H (fun k => some k ≠ a.ownBlock ∧ some k ≠ c.ownBlock) b xs :=
 ⟨fun k hk => ⟨fun he => h.ab rfl rfl k he.symm hk, fun he => h.bc rfl rfl k hk he.symm⟩, hR.2⟩
theorem AP3.r3 {w : World} {a b c : Value} {e H : Nat} {ok : Nat → Prop} {xs : List Int} (h : AP3 w a b c true true true) (hR : Kd.R (Kd.int .i64) e w H ok c xs) : Kd.R (Kd.int .i64) e w H (fun k => some k ≠ a.ownBlock ∧ some k ≠ b.ownBlock) c xs :=
 ⟨fun k hk => ⟨fun he => h.ac rfl rfl k he.symm hk, fun he => h.bc rfl rfl k he.symm hk⟩, hR.2⟩
end spec_GreedyTicketsA
open spec_GreedyTicketsA
set_option maxHeartbeats 8000000 in
set_option maxRecDepth 100000 in
theorem spec_GreedyTickets.calls (k : Nat) (a0_0 : Int) (a0_1 : Int) (a0_2 : Int) (a0_3 : Int) (r1 : List Int) (r2 : Int) (w : World) (h : spec_GreedyTickets.f k a0_0 a0_1 a0_2 a0_3 = some (r1, r2)) :
  Calls Try.prog 7 #[.agg #[.int .i64 a0_0, .int .i64 a0_1, .int .i64 a0_2, .int .i64 a0_3]] w fun e w' => ∃ v0_ : Value, e = .returned (.tuple #[v0_, .int .i64 r2]) ∧ Kd.R (Kd.int .i64) 2 w' w.heap.size (fun _ => True) v0_ r1 ∧ Below w.heap.size w w' := by
 have hu27 := Try.underlying27
 have HB := zA (Below.refl w.heap.size w)
 have H := h
 unfold spec_GreedyTickets.f at H
 (try dsimp -simprocs only at H)
 clear h
 replace H := zi H
 obtain ⟨t103, A20, H⟩ := H
 (try dsimp -simprocs only at H)
 have A2 := zA A20
 clear A20
 by_cases c3 : t103 = true
 ·subst c3
  have H1 : ((spec_l08Sets.f k a0_0 a0_1 a0_2 a0_3 a0_1).bind fun t104 => ((spec_l08Sets.f k a0_0 a0_1 a0_2 a0_3 a0_2).bind fun t105 => (spec_GreedyTickets.l0 k t104 t105 (([] : List Int)) a0_0 a0_1 a0_2 a0_3))) = some (r1, r2) := by rw [if_pos rfl] at H; exact H
  clear H
  have H := H1
  clear H1
  replace H := zi H
  obtain ⟨t104, A40, H⟩ := H
  (try dsimp -simprocs only at H)
  have A4 := zA A40
  clear A40
  replace H := zi H
  obtain ⟨t105, A50, H⟩ := H
  (try dsimp -simprocs only at H)
  have A5 := zA A50
  clear A50
  obtain ⟨y106, hy106⟩ : ∃ y_ : List Int, y_ = (([] : List Int)) := ⟨_, rfl⟩
  replace H : (spec_GreedyTickets.l0 k t104 t105 y106 a0_0 a0_1 a0_2 a0_3) = some (r1, r2) := by first | (rw [hy106]; with_reducible exact H) | (have H2_ := (Option.bind_some _ _).symm.trans H; rw [hy106]; with_reducible exact H2_) | (have H2_ := (Option.bind_some _ _).symm.trans H; with_reducible exact H2_) | with_reducible exact H | (rw [hy106]; exact H) | exact H
  have Ny106 := zA hy106
  clear hy106
  have H' := zA H
  clear H
  go_enter Try.func7, Try.ntmps7
  try go_wp2_with (first | ((with_reducible refine gate_dst (N := 1) rfl ?_); refine zbox (N := 1) (cs := #[.int .i64 a0_0, .int .i64 a0_1, .int .i64 a0_2, .int .i64 a0_3]) (t := 27) ?_; intro gb107 hg w6 hbox hb; have BK107 := zA (hbox); have GW107 := zA ((z151 : w.heap.size ≤ gb107)); have GE107 := zA ((z151 : w.heap.size ≤ gb107)); replace HB := zA (below_step z1 hb); clear hb hbox hg; obtain ⟨hcz7_0, hcz7_1, hcz7_2, hcz7_3, hfz7_0, hfz7_1, hfz7_2, hfz7_3⟩ := zC4 BK107.out) | ((with_reducible refine gate_callee (f := 58) rfl ?_); refine goesL_ (some 15) rfl rfl Try.func58 (by kernel_rfl) rfl #[.agg #[.int .i64 a0_0, .int .i64 a0_1, .int .i64 a0_2, .int .i64 a0_3]] rfl z3 ?_; (with_reducible refine (spec_l08Is.calls a0_0 a0_1 a0_2 a0_3 true _ A2.out).mono ?_); rintro e w8 ⟨rfl, hb⟩; refine ⟨_, rfl, ?_⟩; replace BK107 := zBB BK107 hb; replace HB := zA (below_step z19 hb); (try clear hb); (try clear hb2); (try clear hk); (try clear hi)))
  have n0_ := zA (blk_drew BK107.out)
  have n1_ := zA (below_drew1 HB.out)
  clear BK107 HB
  have BK107 := n0_
  have HB := n1_
  clear n0_ n1_
  refine start_ (n := 12) (S := fun w' => True) (ds := []) #[false, false, false, false, false, false, false, false, false, false, false, false] (by kernel_rfl) rfl rfl trivial (fun hHeld => ?_); refine with_tabW spec_GreedyTickets.tab3 spec_GreedyTickets.bits3 (fun HT_ HW_ => ?_)
  generalize w8.drew = w9 at BK107 HB hHeld ⊢
  refine zpu 1 (some 18) #[false, true, false, false, false, false, false, false, false, false, false, false] ?_
  refine zpu 5 (some 22) #[false, true, false, false, false, true, false, false, false, false, false, false] ?_
  refine inv_at [0, 2, 3, 4, 6, 7, 8, 9, 10, 11] (fun a0_ b a w' => ∃ (v108 : Value) (v109 : Value) (v110 : Value) (m9_ : Value) (m10_ : Value) (m11_ : Value), a = putSel a0_ b [(0, 17, .agg #[.int .i64 a0_0, .int .i64 a0_1, .int .i64 a0_2, .int .i64 a0_3]), (2, 19, .int .i64 a0_1), (3, 20, v108), (4, 21, .agg #[.int .i64 a0_0, .int .i64 a0_1, .int .i64 a0_2, .int .i64 a0_3]), (6, 23, .int .i64 a0_2), (7, 24, v109), (8, 25, v110), (9, 4, m9_), (10, 5, m10_), (11, 6, m11_)] ∧ (w'.heap[gb107]? = some (.cells #[.int .i64 a0_0, .int .i64 a0_1, .int .i64 a0_2, .int .i64 a0_3] 27 (0, 0))) ∧ (Below w.heap.size w w') ∧ (b 3 = true → Kd.R (Kd.int .i64) 2 w' w.heap.size (fun _ => True) v108 t104) ∧ (b 7 = true → Kd.R (Kd.int .i64) 2 w' w.heap.size (fun _ => True) v109 t105) ∧ (b 8 = true → Kd.R (Kd.int .i64) 2 w' w.heap.size (fun _ => True) v110 y106) ∧ (b 9 = true → (m9_ : Value) = v108) ∧ (b 10 = true → (m10_ : Value) = v109) ∧ (b 11 = true → (m11_ : Value) = v110) ∧ AP3 w' v108 v109 v110 (b 3) (b 7) (b 8)) HT_.out HW_.out (by kernel_rfl) (by kernel_rfl) ?_ ?_ ?_
  ·exact ⟨.bool false, .bool false, .bool false, .bool false, .bool false, .bool false, z142, BK107.out, HB.out, fun h_ => absurd h_ (by decide), fun h_ => absurd h_ (by decide), fun h_ => absurd h_ (by decide), fun h_ => absurd h_ (by decide), fun h_ => absurd h_ (by decide), fun h_ => absurd h_ (by decide), AP3.start⟩
  ·skip
   clear BK107 HB
   refine steps_cons ?_ ?_
   ·rintro b a w' ⟨v108, v109, v110, m9_, m10_, m11_, ha, Q_BK156, Q_HB, Q_HO160, Q_HO163, Q_HO166, Q_X9_, Q_X10_, Q_X11_, Q_AP⟩ hb_ hon hoff
    refine ⟨_, rfl, fun K hK => ?_⟩
    have e1 : a.tmps[1]? = some (.pointer (some ⟨gb107, 0, none⟩)) := by rw [ha]; exact (putSel_off rfl).trans rfl
    replace ha := zA ha
    have BK107 := zA Q_BK156
    have HB := zA Q_HB
    have hc0_ : w'.cell? ⟨gb107, 0, none⟩ = some (.int .i64 a0_0) := (blk_cell BK107.out 0).trans rfl
    have hc1_ : w'.cell? ⟨gb107, 1, none⟩ = some (.int .i64 a0_1) := (blk_cell BK107.out 1).trans rfl
    have hc2_ : w'.cell? ⟨gb107, 2, none⟩ = some (.int .i64 a0_2) := (blk_cell BK107.out 2).trans rfl
    have hc3_ : w'.cell? ⟨gb107, 3, none⟩ = some (.int .i64 a0_3) := (blk_cell BK107.out 3).trans rfl
    refine value_ (w1 := w') (v := .agg #[.int .i64 a0_0, .int .i64 a0_1, .int .i64 a0_2, .int .i64 a0_3]) (by rfl) rfl ?_ ?_
    ·go_simp
     (try simp only [i64_w])
     try rfl
    refine hK.out _ _ ⟨v108, v109, v110, m9_, m10_, m11_, z143, Q_BK156, Q_HB, zo (hoff 3 (by kernel_rfl)), zo (hoff 7 (by kernel_rfl)), Q_HO166, zo (hoff 9 (by kernel_rfl)), zo (hoff 10 (by kernel_rfl)), zo (hoff 11 (by kernel_rfl)), Q_AP⟩
   refine steps_cons ?_ ?_
   ·rintro b a w' ⟨v108, v109, v110, m9_, m10_, m11_, ha, Q_BK156, Q_HB, Q_HO160, Q_HO163, Q_HO166, Q_X9_, Q_X10_, Q_X11_, Q_AP⟩ hb_ hon hoff
    refine ⟨_, rfl, fun K hK => ?_⟩
    have e18 : a.tmps[18]? = some (.pointer (some ⟨gb107, 1, none⟩)) := by rw [ha]; exact (putSel_off rfl).trans rfl
    replace ha := zA ha
    have BK107 := zA Q_BK156
    have HB := zA Q_HB
    have hc0_ : w'.cell? ⟨gb107, 0, none⟩ = some (.int .i64 a0_0) := (blk_cell BK107.out 0).trans rfl
    have hc1_ : w'.cell? ⟨gb107, 1, none⟩ = some (.int .i64 a0_1) := (blk_cell BK107.out 1).trans rfl
    have hc2_ : w'.cell? ⟨gb107, 2, none⟩ = some (.int .i64 a0_2) := (blk_cell BK107.out 2).trans rfl
    have hc3_ : w'.cell? ⟨gb107, 3, none⟩ = some (.int .i64 a0_3) := (blk_cell BK107.out 3).trans rfl
    refine value_ (w1 := w') (v := .int .i64 a0_1) (by rfl) rfl ?_ ?_
    ·go_simp
     (try simp only [i64_w])
     try rfl
    refine hK.out _ _ ⟨v108, v109, v110, m9_, m10_, m11_, z144, Q_BK156, Q_HB, zo (hoff 3 (by kernel_rfl)), zo (hoff 7 (by kernel_rfl)), Q_HO166, zo (hoff 9 (by kernel_rfl)), zo (hoff 10 (by kernel_rfl)), zo (hoff 11 (by kernel_rfl)), Q_AP⟩
   refine steps_cons ?_ ?_
   ·rintro b a w' ⟨v108, v109, v110, m9_, m10_, m11_, ha, Q_BK156, Q_HB, Q_HO160, Q_HO163, Q_HO166, Q_X9_, Q_X10_, Q_X11_, Q_AP⟩ hb_ hon hoff
    refine ⟨_, rfl, fun K hK => ?_⟩
    have e17 : a.tmps[17]? = some (.agg #[.int .i64 a0_0, .int .i64 a0_1, .int .i64 a0_2, .int .i64 a0_3]) := by rw [ha]; exact putSel_on (e := (0, 17, .agg #[.int .i64 a0_0, .int .i64 a0_1, .int .i64 a0_2, .int .i64 a0_3])) 0 rfl rfl (hon 0 (by kernel_rfl)) rfl
    have e19 : a.tmps[19]? = some (.int .i64 a0_1) := by rw [ha]; exact putSel_on (e := (2, 19, .int .i64 a0_1)) 1 rfl rfl (hon 2 (by kernel_rfl)) rfl
    replace ha := zA ha
    have BK107 := zA Q_BK156
    have HB := zA Q_HB
    refine goes_ Try.func59 (by kernel_rfl) rfl #[.agg #[.int .i64 a0_0, .int .i64 a0_1, .int .i64 a0_2, .int .i64 a0_3], .int .i64 a0_1] (by rfl) rfl rfl (by first | (simp only [List.map_toArray, List.map_cons, List.map_nil, Act.eval, Array.getD_eq_getD_getElem?, Option.getD_some, e17, e19]; done) | (simp only [List.map_toArray, List.map_cons, List.map_nil, Act.eval, Array.getD_eq_getD_getElem?, Option.getD_some, e17, e19]; rfl)) ?_
    with_reducible refine (spec_l08Sets.calls k a0_0 a0_1 a0_2 a0_3 a0_1 t104 _ A4.out).mono ?_
    rintro e w10 ⟨v108, rfl, ho0, hb⟩
    have q_ap := AP3.s1 Q_AP hb (Kd.R_base ho0) (Kd.R_lt ho0)
    refine ⟨_, rfl, ?_⟩
    have n0_ := zA (Kd.R_lower ho0 (below_size z19))
    have n1_ := zBB BK107 hb
    have n2_ := zA (below_step z19 hb)
    have z_HO166 := fun (h0_ : b 8 = true) => (show Kd.R (Kd.int .i64) 2 w10 w.heap.size (fun _ => True) v110 y106 from by first | exact (Kd.R_elder' z92 (Kd.R_base ho0) hb) | exact Kd.R_mono (Kd.R_elder' z92 (Kd.R_base ho0) hb) (fun _ h_ => by first | trivial | exact h_ | exact h_.1))
    clear BK107 HB
    have HO111 := n0_
    have BK107 := n1_
    have HB := n2_
    clear n0_ n1_ n2_
    (try clear hb)
    (try clear hb2)
    (try clear hk)
    (try clear hi)
    (try clear ho0)
    refine hK.out _ _ ⟨v108, v109, v110, m9_, m10_, m11_, z145, z43, z19, fun _ => z60, zo (hoff 7 (by kernel_rfl)), z_HO166, zo (hoff 9 (by kernel_rfl)), zo (hoff 10 (by kernel_rfl)), zo (hoff 11 (by kernel_rfl)), q_ap⟩
   refine steps_cons ?_ ?_
   ·rintro b a w' ⟨v108, v109, v110, m9_, m10_, m11_, ha, Q_BK156, Q_HB, Q_HO160, Q_HO163, Q_HO166, Q_X9_, Q_X10_, Q_X11_, Q_AP⟩ hb_ hon hoff
    refine ⟨_, rfl, fun K hK => ?_⟩
    have e1 : a.tmps[1]? = some (.pointer (some ⟨gb107, 0, none⟩)) := by rw [ha]; exact (putSel_off rfl).trans rfl
    replace ha := zA ha
    have BK107 := zA Q_BK156
    have HB := zA Q_HB
    have hc0_ : w'.cell? ⟨gb107, 0, none⟩ = some (.int .i64 a0_0) := (blk_cell BK107.out 0).trans rfl
    have hc1_ : w'.cell? ⟨gb107, 1, none⟩ = some (.int .i64 a0_1) := (blk_cell BK107.out 1).trans rfl
    have hc2_ : w'.cell? ⟨gb107, 2, none⟩ = some (.int .i64 a0_2) := (blk_cell BK107.out 2).trans rfl
    have hc3_ : w'.cell? ⟨gb107, 3, none⟩ = some (.int .i64 a0_3) := (blk_cell BK107.out 3).trans rfl
    refine value_ (w1 := w') (v := .agg #[.int .i64 a0_0, .int .i64 a0_1, .int .i64 a0_2, .int .i64 a0_3]) (by rfl) rfl ?_ ?_
    ·go_simp
     (try simp only [i64_w])
     try rfl
    refine hK.out _ _ ⟨v108, v109, v110, m9_, m10_, m11_, z146, Q_BK156, Q_HB, Q_HO160, zo (hoff 7 (by kernel_rfl)), Q_HO166, zo (hoff 9 (by kernel_rfl)), zo (hoff 10 (by kernel_rfl)), zo (hoff 11 (by kernel_rfl)), Q_AP⟩
   refine steps_cons ?_ ?_
   ·rintro b a w' ⟨v108, v109, v110, m9_, m10_, m11_, ha, Q_BK156, Q_HB, Q_HO160, Q_HO163, Q_HO166, Q_X9_, Q_X10_, Q_X11_, Q_AP⟩ hb_ hon hoff
    refine ⟨_, rfl, fun K hK => ?_⟩
    have e22 : a.tmps[22]? = some (.pointer (some ⟨gb107, 2, none⟩)) := by rw [ha]; exact (putSel_off rfl).trans rfl
    replace ha := zA ha
    have BK107 := zA Q_BK156
    have HB := zA Q_HB
    have hc0_ : w'.cell? ⟨gb107, 0, none⟩ = some (.int .i64 a0_0) := (blk_cell BK107.out 0).trans rfl
    have hc1_ : w'.cell? ⟨gb107, 1, none⟩ = some (.int .i64 a0_1) := (blk_cell BK107.out 1).trans rfl
    have hc2_ : w'.cell? ⟨gb107, 2, none⟩ = some (.int .i64 a0_2) := (blk_cell BK107.out 2).trans rfl
    have hc3_ : w'.cell? ⟨gb107, 3, none⟩ = some (.int .i64 a0_3) := (blk_cell BK107.out 3).trans rfl
    refine value_ (w1 := w') (v := .int .i64 a0_2) (by rfl) rfl ?_ ?_
    ·go_simp
     (try simp only [i64_w])
     try rfl
    refine hK.out _ _ ⟨v108, v109, v110, m9_, m10_, m11_, z147, Q_BK156, Q_HB, Q_HO160, zo (hoff 7 (by kernel_rfl)), Q_HO166, zo (hoff 9 (by kernel_rfl)), zo (hoff 10 (by kernel_rfl)), zo (hoff 11 (by kernel_rfl)), Q_AP⟩
   refine steps_cons ?_ ?_
   ·rintro b a w' ⟨v108, v109, v110, m9_, m10_, m11_, ha, Q_BK156, Q_HB, Q_HO160, Q_HO163, Q_HO166, Q_X9_, Q_X10_, Q_X11_, Q_AP⟩ hb_ hon hoff
    refine ⟨_, rfl, fun K hK => ?_⟩
    have e21 : a.tmps[21]? = some (.agg #[.int .i64 a0_0, .int .i64 a0_1, .int .i64 a0_2, .int .i64 a0_3]) := by rw [ha]; exact putSel_on (e := (4, 21, .agg #[.int .i64 a0_0, .int .i64 a0_1, .int .i64 a0_2, .int .i64 a0_3])) 3 rfl rfl (hon 4 (by kernel_rfl)) rfl
    have e23 : a.tmps[23]? = some (.int .i64 a0_2) := by rw [ha]; exact putSel_on (e := (6, 23, .int .i64 a0_2)) 4 rfl rfl (hon 6 (by kernel_rfl)) rfl
    replace ha := zA ha
    have BK107 := zA Q_BK156
    have HB := zA Q_HB
    have HO111 := zA (Q_HO160 (hon 3 (by kernel_rfl)))
    refine goes_ Try.func59 (by kernel_rfl) rfl #[.agg #[.int .i64 a0_0, .int .i64 a0_1, .int .i64 a0_2, .int .i64 a0_3], .int .i64 a0_2] (by rfl) rfl rfl (by first | (simp only [List.map_toArray, List.map_cons, List.map_nil, Act.eval, Array.getD_eq_getD_getElem?, Option.getD_some, e21, e23]; done) | (simp only [List.map_toArray, List.map_cons, List.map_nil, Act.eval, Array.getD_eq_getD_getElem?, Option.getD_some, e21, e23]; rfl)) ?_
    with_reducible refine (spec_l08Sets.calls k a0_0 a0_1 a0_2 a0_3 a0_2 t105 _ A5.out).mono ?_
    rintro e w12 ⟨v109, rfl, ho0, hb⟩
    have q_ap := AP3.s2 Q_AP hb (Kd.R_base ho0) (Kd.R_lt ho0)
    refine ⟨_, rfl, ?_⟩
    have n0_ := zA (Kd.R_elder' z60 (Kd.R_base ho0) hb)
    have n1_ := zA (Kd.R_lower (Kd.R_new' ho0 (Kd.R_lt z60)) (below_size z19))
    have n2_ := zBB BK107 hb
    have n3_ := zA (below_step z19 hb)
    have z_HO166 := fun (h0_ : b 8 = true) => (show Kd.R (Kd.int .i64) 2 w12 w.heap.size (fun _ => True) v110 y106 from by first | exact (Kd.R_elder' z92 (Kd.R_base ho0) hb) | exact Kd.R_mono (Kd.R_elder' z92 (Kd.R_base ho0) hb) (fun _ h_ => by first | trivial | exact h_ | exact h_.1))
    clear HO111 BK107 HB
    have HO111 := n0_
    have HO112 := n1_
    have BK107 := n2_
    have HB := n3_
    clear n0_ n1_ n2_ n3_
    (try clear hb)
    (try clear hb2)
    (try clear hk)
    (try clear hi)
    (try clear ho0)
    refine hK.out _ _ ⟨v108, v109, v110, m9_, m10_, m11_, z148, z43, z19, fun _ => (by (with_reducible repeat (first | apply Kd.R_alloc | apply Kd.R_drewN | apply Kd.R_drew)); exact Kd.R_mono HO111.out (fun _ hk => by first | exact hk.2 | simp only [hk, ne_eq, not_false_eq_true, and_self])), fun _ => (by (with_reducible repeat (first | apply Kd.R_alloc | apply Kd.R_drewN | apply Kd.R_drew)); exact Kd.R_mono HO112.out (fun _ hk => by first | exact hk.2 | simp only [hk, ne_eq, not_false_eq_true, and_self])), z_HO166, zo (hoff 9 (by kernel_rfl)), zo (hoff 10 (by kernel_rfl)), zo (hoff 11 (by kernel_rfl)), q_ap⟩
   refine steps_cons ?_ ?_
   ·rintro b a w' ⟨v108, v109, v110, m9_, m10_, m11_, ha, Q_BK156, Q_HB, Q_HO160, Q_HO163, Q_HO166, Q_X9_, Q_X10_, Q_X11_, Q_AP⟩ hb_ hon hoff
    refine ⟨_, rfl, fun K hK => ?_⟩
    replace ha := zA ha
    have BK107 := zA Q_BK156
    have HB := zA Q_HB
    refine Kd.R_lit_step (Kd.int .i64) _ 2 ?hg (N := 25) ?hd (xs := ([] : List Int)) (inner := []) (ok := fun _ => True) (okp := fun _ => True) ?hr ?hp (fun _ hk => hk) trivial (Below.refl _ _) (Nat.le_refl _) (by simp) ?_; (case hd => rfl); (case hg => rfl); (case hr => first | (go_simp; done) | (go_simp; rfl)); (case hp => exact (Reps.none _ _))
    intro v110 w10 ho11 hb hg_ hnew_
    have q_ap := AP3.s3 Q_AP hb (Kd.R_base ho11) (Kd.R_lt ho11)
    clear hg_ hnew_
    (first | rw [← Ny106.out] at ho11 | (simp only [Int.reduceToNat] at ho11; rw [← Ny106.out] at ho11))
    have n0_ := zA (Kd.R_lower ho11 (below_size z19))
    have n1_ := zBB BK107 hb
    have n2_ := zA (below_step z19 hb)
    have z_HO160 := fun (h0_ : b 3 = true) => (show Kd.R (Kd.int .i64) 2 w10 w.heap.size (fun _ => True) v108 t104 from by first | exact (Kd.R_elder' z131 (Kd.R_base ho11) hb) | exact Kd.R_mono (Kd.R_elder' z131 (Kd.R_base ho11) hb) (fun _ h_ => by first | trivial | exact h_ | exact h_.1))
    have z_HO163 := fun (h0_ : b 7 = true) => (show Kd.R (Kd.int .i64) 2 w10 w.heap.size (fun _ => True) v109 t105 from by first | exact (Kd.R_elder' z132 (Kd.R_base ho11) hb) | exact Kd.R_mono (Kd.R_elder' z132 (Kd.R_base ho11) hb) (fun _ h_ => by first | trivial | exact h_ | exact h_.1))
    clear BK107 HB
    have HO113 := n0_
    have BK107 := n1_
    have HB := n2_
    clear n0_ n1_ n2_
    clear hb ho11
    refine hK.out _ _ ⟨v108, v109, v110, m9_, m10_, m11_, (by rw [ha.out]; exact putSel_upk 6 hb_ rfl rfl rfl), z43, z19, z_HO160, z_HO163, fun _ => z54, Q_X9_, Q_X10_, zo (hoff 11 (by kernel_rfl)), q_ap⟩
   refine steps_cons ?_ ?_
   ·rintro b a w' ⟨v108, v109, v110, m9_, m10_, m11_, ha, Q_BK156, Q_HB, Q_HO160, Q_HO163, Q_HO166, Q_X9_, Q_X10_, Q_X11_, Q_AP⟩ hb_ hon hoff
    refine ⟨_, rfl, fun K hK => ?_⟩
    have e20 : a.tmps[20]? = some (v108) := by rw [ha]; exact putSel_on (e := (3, 20, v108)) 2 rfl rfl (hon 3 (by kernel_rfl)) rfl
    replace ha := zA ha
    have BK107 := zA Q_BK156
    have HB := zA Q_HB
    have HO111 := zA (Q_HO160 (hon 3 (by kernel_rfl)))
    have HO112 := zA (Q_HO163 (hon 7 (by kernel_rfl)))
    refine value_ (w1 := w') (v := v108) (by rfl) rfl ?_ ?_
    ·go_simp
     (try simp only [i64_w])
     try rfl
    refine hK.out _ _ ⟨v108, v109, v110, (v108), m10_, m11_, (by rw [ha.out]; exact putSel_upk 7 hb_ rfl rfl rfl), Q_BK156, Q_HB, Q_HO160, Q_HO163, Q_HO166, fun _ => rfl, zo (hoff 10 (by kernel_rfl)), zo (hoff 11 (by kernel_rfl)), Q_AP⟩
   refine steps_cons ?_ ?_
   ·rintro b a w' ⟨v108, v109, v110, m9_, m10_, m11_, ha, Q_BK156, Q_HB, Q_HO160, Q_HO163, Q_HO166, Q_X9_, Q_X10_, Q_X11_, Q_AP⟩ hb_ hon hoff
    refine ⟨_, rfl, fun K hK => ?_⟩
    have e24 : a.tmps[24]? = some (v109) := by rw [ha]; exact putSel_on (e := (7, 24, v109)) 5 rfl rfl (hon 7 (by kernel_rfl)) rfl
    replace ha := zA ha
    have BK107 := zA Q_BK156
    have HB := zA Q_HB
    have HO111 := zA (Q_HO160 (hon 3 (by kernel_rfl)))
    have HO112 := zA (Q_HO163 (hon 7 (by kernel_rfl)))
    refine value_ (w1 := w') (v := v109) (by rfl) rfl ?_ ?_
    ·go_simp
     (try simp only [i64_w])
     try rfl
    refine hK.out _ _ ⟨v108, v109, v110, m9_, (v109), m11_, (by rw [ha.out]; exact putSel_upk 8 hb_ rfl rfl rfl), Q_BK156, Q_HB, Q_HO160, Q_HO163, Q_HO166, Q_X9_, fun _ => rfl, zo (hoff 11 (by kernel_rfl)), Q_AP⟩
   refine steps_cons ?_ ?_
   ·rintro b a w' ⟨v108, v109, v110, m9_, m10_, m11_, ha, Q_BK156, Q_HB, Q_HO160, Q_HO163, Q_HO166, Q_X9_, Q_X10_, Q_X11_, Q_AP⟩ hb_ hon hoff
    refine ⟨_, rfl, fun K hK => ?_⟩
    have e25 : a.tmps[25]? = some (v110) := by rw [ha]; exact putSel_on (e := (8, 25, v110)) 6 rfl rfl (hon 8 (by kernel_rfl)) rfl
    replace ha := zA ha
    have BK107 := zA Q_BK156
    have HB := zA Q_HB
    have HO111 := zA (Q_HO160 (hon 3 (by kernel_rfl)))
    have HO112 := zA (Q_HO163 (hon 7 (by kernel_rfl)))
    have HO113 := zA (Q_HO166 (hon 8 (by kernel_rfl)))
    refine value_ (w1 := w') (v := v110) (by rfl) rfl ?_ ?_
    ·go_simp
     (try simp only [i64_w])
     try rfl
    refine hK.out _ _ ⟨v108, v109, v110, m9_, m10_, (v110), (by rw [ha.out]; exact putSel_upk 9 hb_ rfl rfl rfl), Q_BK156, Q_HB, Q_HO160, Q_HO163, Q_HO166, Q_X9_, Q_X10_, fun _ => rfl, Q_AP⟩
   exact steps_nil
  rintro b a w14 hall ⟨v108, v109, v110, m9_, m10_, m11_, ha, Q_BK156, Q_HB, Q_HO160, Q_HO163, Q_HO166, Q_X9_, Q_X10_, Q_X11_, Q_AP⟩
  clear BK107 HB
  have hb0_ := hall 0 (by kernel_rfl)
  have hb2_ := hall 2 (by kernel_rfl)
  have hb3_ := hall 3 (by kernel_rfl)
  have hb4_ := hall 4 (by kernel_rfl)
  have hb6_ := hall 6 (by kernel_rfl)
  have hb7_ := hall 7 (by kernel_rfl)
  have hb8_ := hall 8 (by kernel_rfl)
  have hb9_ := hall 9 (by kernel_rfl)
  have hb10_ := hall 10 (by kernel_rfl)
  have hb11_ := hall 11 (by kernel_rfl)
  subst ha
  have qx9_ := Q_X9_ hb9_
  subst m9_
  have qx10_ := Q_X10_ hb10_
  subst m10_
  have qx11_ := Q_X11_ hb11_
  subst m11_
  rw [hb3_, hb7_, hb8_] at Q_AP
  simp only [putSel, hb0_, hb2_, hb3_, hb4_, hb6_, hb7_, hb8_, hb9_, hb10_, hb11_, if_true, Act.put, List.setIfInBounds_toArray, List.set_cons_zero, List.set_cons_succ]
  have BK107 := zA Q_BK156
  clear Q_BK156
  have HB := zA Q_HB
  clear Q_HB
  have HO111 := zA (AP3.r1 Q_AP (Q_HO160 hb3_))
  clear Q_HO160
  have HO112 := zA (AP3.r2 Q_AP (Q_HO163 hb7_))
  clear Q_HO163
  have HO113 := zA (AP3.r3 Q_AP (Q_HO166 hb8_))
  clear Q_HO166
  clear hall hb0_ hb2_ hb3_ hb4_ hb6_ hb7_ hb8_ hb9_ hb10_ hb11_
  try go_wp2
  go_loopg [5, 6] k (fun kq v5 v6 w' => ∃ (x5_1 : List Int) (x6_1 : List Int), Aside0 (spec_GreedyTickets.l0 kq t104 x5_1 x6_1 a0_0 a0_1 a0_2 a0_3 = some (r1, r2)) ∧ Aside0 (kq ≤ k) ∧ Aside0 (Kd.R (Kd.int .i64) 2 w' w.heap.size (fun k_ => some k_ ≠ (v5 : Value).ownBlock ∧ some k_ ≠ (v6 : Value).ownBlock) v108 t104) ∧ Aside0 (Kd.R (Kd.int .i64) 2 w' w.heap.size (fun k_ => some k_ ≠ (v108 : Value).ownBlock ∧ some k_ ≠ (v6 : Value).ownBlock) v5 x5_1) ∧ Aside0 (Kd.R (Kd.int .i64) 2 w' w.heap.size (fun k_ => some k_ ≠ (v108 : Value).ownBlock ∧ some k_ ≠ (v5 : Value).ownBlock) v6 x6_1) ∧ Aside0 (w'.heap[gb107]? = some (.cells #[.int .i64 a0_0, .int .i64 a0_1, .int .i64 a0_2, .int .i64 a0_3] 27 (0, 0))) ∧ Aside0 (Below w.heap.size w w'))
  case atStart => exact ⟨(t105), (y106), H', ⟨Nat.le_refl _⟩, ⟨z60⟩, ⟨(zr HO112.out)⟩, ⟨z54⟩, ⟨z43⟩, ⟨z19⟩⟩
  case round =>
   clear H'
   (try clear c1); (try clear c2); (try clear p2); (try clear c3); (try clear c5); (try clear c7); (try clear hcz7_0); (try clear hcz7_1); (try clear hcz7_2); (try clear hcz7_3); (try clear hfz7_0); (try clear hfz7_1); (try clear hfz7_2); (try clear hfz7_3)
   obtain ⟨x5_1, x6_1, HA, HK1, HO_4, HO_5, HO_6, BK107, HB⟩ := hrel
   cases gk with
   | zero => exact absurd HA.out (by simp [spec_GreedyTickets.l0])
   | succ k1 =>
    have H := HA.out
    clear HA
    simp only [spec_GreedyTickets.l0] at H
    by_cases c15 : (x5_1.length : Int) > 0
    ·rw [if_pos c15] at H
     have c15b0 : decide (0 < (x5_1.length : Int)) = true := decide_eq_true c15
     have c15b1 : decide (0 < x5_1.length) = true := decide_eq_true (by omega)
     clear c15
     by_cases c16 : (x6_1.length : Int) = 200
     ·rw [if_pos c16] at H
      have c16b0 : ((x6_1.length : Int) == 200) = true := beq_iff_eq.mpr c16
      have c16b1 : ((x6_1.length : Int) != 200) = false := bne_eq_false_iff_eq.mpr c16
      clear c16
      simp only [Option.some.injEq, Prod.mk.injEq] at H
      obtain ⟨rfl, rfl⟩ := H
      obtain ⟨Ao17, co17, eo17⟩ := Kd.R_slice HO_5.out
      subst eo17
      obtain ⟨Ao18, co18, eo18⟩ := Kd.R_slice HO_6.out
      subst eo18
      go_wp2
      go_ret2
      exact ⟨_, z8, z37, z19⟩
     ·rw [if_neg c16] at H
      have c16b0 : ((x6_1.length : Int) == 200) = false := beq_eq_false_iff_ne.mpr c16
      have c16b1 : ((x6_1.length : Int) != 200) = true := bne_iff_ne.mpr c16
      have H' := zA H
      clear H
      obtain ⟨Ao19, co19, eo19⟩ := Kd.R_slice HO_5.out
      subst eo19
      obtain ⟨Ao20, co20, eo20⟩ := Kd.R_slice HO_6.out
      subst eo20
      go_wp2
      go_loopg [7, 8, 9] k1 (fun kq v7 v8 v9 w' => ∃ (x7_2 : Int) (x8_2 : Int) (x9_2 : Int), v7 = .int .i64 x7_2 ∧ v8 = .int .i64 x8_2 ∧ v9 = .int .i64 x9_2 ∧ Aside0 (spec_GreedyTickets.l1 kq t104 x5_1 x6_1 x7_2 x8_2 x9_2 a0_0 a0_1 a0_2 a0_3 = some (r1, r2)) ∧ Aside0 (kq ≤ k1) ∧ Aside0 (Kd.R (Kd.int .i64) 2 w' w.heap.size (fun k_ => some k_ ≠ ((.slice Ao19 x5_1.length co19) : Value).ownBlock ∧ some k_ ≠ ((.slice Ao20 x6_1.length co20) : Value).ownBlock) v108 t104) ∧ Aside0 (Kd.R (Kd.int .i64) 2 w' w.heap.size (fun k_ => some k_ ≠ (v108 : Value).ownBlock ∧ some k_ ≠ ((.slice Ao20 x6_1.length co20) : Value).ownBlock) (.slice Ao19 x5_1.length co19) x5_1) ∧ Aside0 (Kd.R (Kd.int .i64) 2 w' w.heap.size (fun k_ => some k_ ≠ (v108 : Value).ownBlock ∧ some k_ ≠ ((.slice Ao19 x5_1.length co19) : Value).ownBlock) (.slice Ao20 x6_1.length co20) x6_1) ∧ Aside0 (w'.heap[gb107]? = some (.cells #[.int .i64 a0_0, .int .i64 a0_1, .int .i64 a0_2, .int .i64 a0_3] 27 (0, 0))) ∧ Aside0 (Below w.heap.size w w'))
      case atStart => exact ⟨(0), (0), (0), z11, z11, z11, H', ⟨Nat.le_refl _⟩, ⟨z29⟩, ⟨z27⟩, ⟨z34⟩, ⟨z43⟩, ⟨z19⟩⟩
      case round =>
       clear H'
       (try clear c1); (try clear c2); (try clear p2); (try clear c3); (try clear c5); (try clear c7); (try clear c15); (try clear c15b0); (try clear c15b1); (try clear c16); (try clear c16b0); (try clear c16b1); (try clear hcz7_0); (try clear hcz7_1); (try clear hcz7_2); (try clear hcz7_3); (try clear hfz7_0); (try clear hfz7_1); (try clear hfz7_2); (try clear hfz7_3); (try clear p2)
       obtain ⟨x7_2, x8_2, x9_2, rfl, rfl, rfl, HA, HK2, HO_4, HO_5, HO_6, BK107, HB⟩ := hrel
       cases gk with
       | zero => exact absurd HA.out (by simp [spec_GreedyTickets.l1])
       | succ k2 =>
        have H := HA.out
        clear HA
        simp only [spec_GreedyTickets.l1] at H
        by_cases c21 : x9_2 < (t104.length : Int)
        ·rw [if_pos c21] at H
         have c21b0 : decide (x9_2 < (t104.length : Int)) = true := decide_eq_true c21
         clear c21
         have H' := zA H
         clear H
         obtain ⟨Ao22, co22, eo22⟩ := Kd.R_slice HO_4.out
         subst eo22
         go_wp2
         go_loopg [10, 11] k2 (fun kq v10 v11 w' => ∃ (x10_3 : Int) (x11_3 : Int), v10 = .int .i64 x10_3 ∧ v11 = .int .i64 x11_3 ∧ Aside0 (spec_GreedyTickets.l2 kq t104 x5_1 x6_1 x7_2 x8_2 x9_2 x10_3 x11_3 a0_0 a0_1 a0_2 a0_3 = some (r1, r2)) ∧ Aside0 (kq ≤ k2) ∧ Aside0 (Kd.R (Kd.int .i64) 2 w' w.heap.size (fun k_ => some k_ ≠ ((.slice Ao19 x5_1.length co19) : Value).ownBlock ∧ some k_ ≠ ((.slice Ao20 x6_1.length co20) : Value).ownBlock) (.slice Ao22 t104.length co22) t104) ∧ Aside0 (Kd.R (Kd.int .i64) 2 w' w.heap.size (fun k_ => some k_ ≠ ((.slice Ao22 t104.length co22) : Value).ownBlock ∧ some k_ ≠ ((.slice Ao20 x6_1.length co20) : Value).ownBlock) (.slice Ao19 x5_1.length co19) x5_1) ∧ Aside0 (Kd.R (Kd.int .i64) 2 w' w.heap.size (fun k_ => some k_ ≠ ((.slice Ao22 t104.length co22) : Value).ownBlock ∧ some k_ ≠ ((.slice Ao19 x5_1.length co19) : Value).ownBlock) (.slice Ao20 x6_1.length co20) x6_1) ∧ Aside0 (w'.heap[gb107]? = some (.cells #[.int .i64 a0_0, .int .i64 a0_1, .int .i64 a0_2, .int .i64 a0_3] 27 (0, 0))) ∧ Aside0 (Below w.heap.size w w'))
         case atStart => exact ⟨(0), (0), z11, z11, H', ⟨Nat.le_refl _⟩, ⟨z29⟩, ⟨z27⟩, ⟨z34⟩, ⟨z43⟩, ⟨z19⟩⟩
         case round =>
          clear H'
          (try clear c1); (try clear c2); (try clear p2); (try clear c3); (try clear c5); (try clear c7); (try clear c15); (try clear c15b0); (try clear c15b1); (try clear c16); (try clear c16b0); (try clear c16b1); (try clear c21); (try clear c21b0); (try clear hcz7_0); (try clear hcz7_1); (try clear hcz7_2); (try clear hcz7_3); (try clear hfz7_0); (try clear hfz7_1); (try clear hfz7_2); (try clear hfz7_3); (try clear p2)
          obtain ⟨x10_3, x11_3, rfl, rfl, HA, HK3, HO_4, HO_5, HO_6, BK107, HB⟩ := hrel
          cases gk with
          | zero => exact absurd HA.out (by simp [spec_GreedyTickets.l2])
          | succ k3 =>
           have H := HA.out
           clear HA
           simp only [spec_GreedyTickets.l2] at H
           by_cases c23 : x11_3 < (x5_1.length : Int)
           ·rw [if_pos c23] at H
            have c23b0 : decide (x11_3 < (x5_1.length : Int)) = true := decide_eq_true c23
            clear c23
            by_cases c24 : 0 ≤ x9_2
            ·rw [if_pos c24] at H
             have c24b0 : decide (0 ≤ x9_2) = true := decide_eq_true c24
             clear c24
             by_cases c25 : x9_2 < (t104.length : Int)
             ·rw [if_pos c25] at H
              have c25b0 : decide (x9_2 < (t104.length : Int)) = true := decide_eq_true c25
              clear c25
              by_cases c26 : 0 ≤ x11_3
              ·rw [if_pos c26] at H
               have c26b0 : decide (0 ≤ x11_3) = true := decide_eq_true c26
               clear c26
               replace H := zi H
               obtain ⟨t101, A270, H⟩ := H
               (try dsimp -simprocs only at H)
               have A27 := zA A270
               clear A270
               by_cases c28 : t101 ≥ a0_3
               ·rw [if_pos c28] at H
                have c28b0 : decide (a0_3 ≤ t101) = true := decide_eq_true c28
                clear c28
                have H' := zA H
                clear H
                try go_wp2
                have n0_ := zA (Kd.R_drew HO_4.out)
                have n1_ := zA (Kd.R_drew HO_5.out)
                have n2_ := zA (Kd.R_drew HO_6.out)
                have n3_ := zA (blk_drew BK107.out)
                have n4_ := zA (below_drew1 HB.out)
                clear HO_4 HO_5 HO_6 BK107 HB
                have HO_4 := n0_
                have HO_5 := n1_
                have HO_6 := n2_
                have BK107 := n3_
                have HB := n4_
                clear n0_ n1_ n2_ n3_ n4_
                have p167 : 0 ≤ (x9_2 : Int) := of_decide_eq_true z7
                have q167 : x9_2 < (t104.length : Int) := of_decide_eq_true z7
                obtain ⟨ad167, e167, hx167_0⟩ := Kd.at_int (Kd.R_reads' HO_4.out).2.2 x9_2 p167 q167
                cases e167
                replace p167 := eq_true p167
                replace q167 := eq_true q167
                have p168 : 0 ≤ (x11_3 : Int) := of_decide_eq_true z7
                have q168 : x11_3 < (x5_1.length : Int) := of_decide_eq_true z7
                obtain ⟨ad168, e168, hx168_0⟩ := Kd.at_int (Kd.R_reads' HO_5.out).2.2 x11_3 p168 q168
                cases e168
                replace p168 := eq_true p168
                replace q168 := eq_true q168
                refine start_ (n := 13) (S := fun w' => w'.cell? ⟨gb107, 0, none⟩ = some (.int .i64 a0_0) ∧ w'.cell? ⟨gb107, 1, none⟩ = some (.int .i64 a0_1) ∧ w'.cell? ⟨gb107, 2, none⟩ = some (.int .i64 a0_2) ∧ w'.cell? ⟨gb107, 3, none⟩ = some (.int .i64 a0_3) ∧ w'.cell? (ad167.add (x9_2).toNat) = some (.int .i64 (rd t104 x9_2)) ∧ w'.cell? (ad168.add (x11_3).toNat) = some (.int .i64 (rd x5_1 x11_3))) (ds := []) #[false, false, false, false, false, false, false, false, false, false, false, false, false] (by kernel_rfl) rfl rfl ⟨(blk_cell BK107.out 0).trans rfl, (blk_cell BK107.out 1).trans rfl, (blk_cell BK107.out 2).trans rfl, (blk_cell BK107.out 3).trans rfl, hx167_0, hx168_0⟩ (fun hHeld => ?_); refine with_tabW spec_GreedyTickets.tab15 spec_GreedyTickets.bits15 (fun HT_ HW_ => ?_)
                generalize wr.drew = w29 at HO_4 HO_5 HO_6 BK107 HB hx167_0 hx168_0 hHeld ⊢
                refine zpu 0 (some 44) #[true, false, false, false, false, false, false, false, false, false, false, false, false] ?_
                refine zpu 1 (some 45) #[true, true, false, false, false, false, false, false, false, false, false, false, false] ?_
                refine zpu 2 (some 46) #[true, true, true, false, false, false, false, false, false, false, false, false, false] ?_
                refine zpu 4 (some 48) #[true, true, true, false, true, false, false, false, false, false, false, false, false] ?_
                refine zpu 5 (some 49) #[true, true, true, false, true, true, false, false, false, false, false, false, false] ?_
                refine zpu 6 (some 50) #[true, true, true, false, true, true, true, false, false, false, false, false, false] ?_
                refine zpu 10 (some 54) #[true, true, true, false, true, true, true, false, false, false, true, false, false] ?_
                refine zt6 3 (some 47) #[true, true, true, true, true, true, true, false, false, false, true, false, false] ?_
                refine zt6 7 (some 51) #[true, true, true, true, true, true, true, true, false, false, true, false, false] ?_
                refine zpu 8 (some 52) #[true, true, true, true, true, true, true, true, true, false, true, false, false] ?_
                refine zt6 11 (some 55) #[true, true, true, true, true, true, true, true, true, false, true, true, false] ?_
                refine one_ (i := 9) (N := some 53) #[true, true, true, true, true, true, true, true, true, true, true, true, false] rfl rfl (one_of HT_.out (by kernel_rfl)) (by decide) (fun K hK => ?_)
                refine goes_ Try.func60 (by kernel_rfl) rfl #[.int .i64 (Go.bits .and .i64 (rd t104 x9_2) (rd x5_1 x11_3))] (by rfl) rfl rfl z3 ?_
                with_reducible refine (spec_l08Size.calls k3 (Go.bits .and .i64 (rd t104 x9_2) (rd x5_1 x11_3)) t101 _ A27.out).mono ?_
                rintro e w' ⟨rfl, ⟨nd, rfl⟩⟩
                refine ⟨_, rfl, ?_⟩
                refine hK.out _ _ ⟨(blk_cell BK107.out 0).trans rfl, (blk_cell BK107.out 1).trans rfl, (blk_cell BK107.out 2).trans rfl, (blk_cell BK107.out 3).trans rfl, hHeld.2.2.2.2.1, hHeld.2.2.2.2.2⟩ (fun hHeld => ?_)
                clear hK K
                refine norm_ (a' := ?_) ?_ ?_
                rotate_left
                ·show Act.put _ (some 53) _ = _
                 simp only [Act.put, List.setIfInBounds_toArray, List.set_cons_zero, List.set_cons_succ, i64_w, i32_w]
                 rfl
                refine zpu 12 (some 56) #[true, true, true, true, true, true, true, true, true, true, true, true, true] ?_
                refine done_ (done_of HT_.out (by kernel_rfl)) ?_
                try go_wp2
                go_roundg k3
                case measure => have := HK1.out; have := HK2.out; have := HK3.out; omega
                case rel => exact ⟨(wrap64 (x10_3 + 1)), (wrap64 (x11_3 + 1)), z11, z11, H', ⟨z78⟩, ⟨z29⟩, ⟨z27⟩, ⟨z34⟩, ⟨z43⟩, ⟨z19⟩⟩
               ·rw [if_neg c28] at H
                have c28b0 : decide (a0_3 ≤ t101) = false := decide_eq_false c28
                clear c28
                have H' := zA H
                clear H
                try go_wp2
                have n0_ := zA (Kd.R_drew HO_4.out)
                have n1_ := zA (Kd.R_drew HO_5.out)
                have n2_ := zA (Kd.R_drew HO_6.out)
                have n3_ := zA (blk_drew BK107.out)
                have n4_ := zA (below_drew1 HB.out)
                clear HO_4 HO_5 HO_6 BK107 HB
                have HO_4 := n0_
                have HO_5 := n1_
                have HO_6 := n2_
                have BK107 := n3_
                have HB := n4_
                clear n0_ n1_ n2_ n3_ n4_
                have p167 : 0 ≤ (x9_2 : Int) := of_decide_eq_true z7
                have q167 : x9_2 < (t104.length : Int) := of_decide_eq_true z7
                obtain ⟨ad167, e167, hx167_0⟩ := Kd.at_int (Kd.R_reads' HO_4.out).2.2 x9_2 p167 q167
                cases e167
                replace p167 := eq_true p167
                replace q167 := eq_true q167
                have p168 : 0 ≤ (x11_3 : Int) := of_decide_eq_true z7
                have q168 : x11_3 < (x5_1.length : Int) := of_decide_eq_true z7
                obtain ⟨ad168, e168, hx168_0⟩ := Kd.at_int (Kd.R_reads' HO_5.out).2.2 x11_3 p168 q168
                cases e168
                replace p168 := eq_true p168
                replace q168 := eq_true q168
                refine start_ (n := 13) (S := fun w' => w'.cell? ⟨gb107, 0, none⟩ = some (.int .i64 a0_0) ∧ w'.cell? ⟨gb107, 1, none⟩ = some (.int .i64 a0_1) ∧ w'.cell? ⟨gb107, 2, none⟩ = some (.int .i64 a0_2) ∧ w'.cell? ⟨gb107, 3, none⟩ = some (.int .i64 a0_3) ∧ w'.cell? (ad167.add (x9_2).toNat) = some (.int .i64 (rd t104 x9_2)) ∧ w'.cell? (ad168.add (x11_3).toNat) = some (.int .i64 (rd x5_1 x11_3))) (ds := []) #[false, false, false, false, false, false, false, false, false, false, false, false, false] (by kernel_rfl) rfl rfl ⟨(blk_cell BK107.out 0).trans rfl, (blk_cell BK107.out 1).trans rfl, (blk_cell BK107.out 2).trans rfl, (blk_cell BK107.out 3).trans rfl, hx167_0, hx168_0⟩ (fun hHeld => ?_); refine with_tabW spec_GreedyTickets.tab15 spec_GreedyTickets.bits15 (fun HT_ HW_ => ?_)
                generalize wr.drew = w30 at HO_4 HO_5 HO_6 BK107 HB hx167_0 hx168_0 hHeld ⊢
                refine zpu 0 (some 44) #[true, false, false, false, false, false, false, false, false, false, false, false, false] ?_
                refine zpu 1 (some 45) #[true, true, false, false, false, false, false, false, false, false, false, false, false] ?_
                refine zpu 2 (some 46) #[true, true, true, false, false, false, false, false, false, false, false, false, false] ?_
                refine zpu 4 (some 48) #[true, true, true, false, true, false, false, false, false, false, false, false, false] ?_
                refine zpu 5 (some 49) #[true, true, true, false, true, true, false, false, false, false, false, false, false] ?_
                refine zpu 6 (some 50) #[true, true, true, false, true, true, true, false, false, false, false, false, false] ?_
                refine zpu 10 (some 54) #[true, true, true, false, true, true, true, false, false, false, true, false, false] ?_
                refine zt6 3 (some 47) #[true, true, true, true, true, true, true, false, false, false, true, false, false] ?_
                refine zt6 7 (some 51) #[true, true, true, true, true, true, true, true, false, false, true, false, false] ?_
                refine zpu 8 (some 52) #[true, true, true, true, true, true, true, true, true, false, true, false, false] ?_
                refine zt6 11 (some 55) #[true, true, true, true, true, true, true, true, true, false, true, true, false] ?_
                refine one_ (i := 9) (N := some 53) #[true, true, true, true, true, true, true, true, true, true, true, true, false] rfl rfl (one_of HT_.out (by kernel_rfl)) (by decide) (fun K hK => ?_)
                refine goes_ Try.func60 (by kernel_rfl) rfl #[.int .i64 (Go.bits .and .i64 (rd t104 x9_2) (rd x5_1 x11_3))] (by rfl) rfl rfl z3 ?_
                with_reducible refine (spec_l08Size.calls k3 (Go.bits .and .i64 (rd t104 x9_2) (rd x5_1 x11_3)) t101 _ A27.out).mono ?_
                rintro e w' ⟨rfl, ⟨nd, rfl⟩⟩
                refine ⟨_, rfl, ?_⟩
                refine hK.out _ _ ⟨(blk_cell BK107.out 0).trans rfl, (blk_cell BK107.out 1).trans rfl, (blk_cell BK107.out 2).trans rfl, (blk_cell BK107.out 3).trans rfl, hHeld.2.2.2.2.1, hHeld.2.2.2.2.2⟩ (fun hHeld => ?_)
                clear hK K
                refine norm_ (a' := ?_) ?_ ?_
                rotate_left
                ·show Act.put _ (some 53) _ = _
                 simp only [Act.put, List.setIfInBounds_toArray, List.set_cons_zero, List.set_cons_succ, i64_w, i32_w]
                 rfl
                refine zpu 12 (some 56) #[true, true, true, true, true, true, true, true, true, true, true, true, true] ?_
                refine done_ (done_of HT_.out (by kernel_rfl)) ?_
                try go_wp2
                go_roundg k3
                case measure => have := HK1.out; have := HK2.out; have := HK3.out; omega
                case rel => exact ⟨(x10_3), (wrap64 (x11_3 + 1)), z11, z11, H', ⟨z78⟩, ⟨z29⟩, ⟨z27⟩, ⟨z34⟩, ⟨z43⟩, ⟨z19⟩⟩
              ·rw [if_neg c26] at H
               exact absurd H (by simp)
             ·rw [if_neg c25] at H
              exact absurd H (by simp)
            ·rw [if_neg c24] at H
             exact absurd H (by simp)
           ·rw [if_neg c23] at H
            have c23b0 : decide (x11_3 < (x5_1.length : Int)) = false := decide_eq_false c23
            clear c23
            by_cases c31 : x10_3 > x8_2
            ·rw [if_pos c31] at H
             have c31b0 : decide (x8_2 < x10_3) = true := decide_eq_true c31
             clear c31
             by_cases c32 : 0 ≤ x9_2
             ·rw [if_pos c32] at H
              have c32b0 : decide (0 ≤ x9_2) = true := decide_eq_true c32
              clear c32
              by_cases c33 : x9_2 < (t104.length : Int)
              ·rw [if_pos c33] at H
               have c33b0 : decide (x9_2 < (t104.length : Int)) = true := decide_eq_true c33
               clear c33
               have H' := zA H
               clear H
               have p170 : 0 ≤ (x9_2 : Int) := of_decide_eq_true z7
               have q170 : x9_2 < (t104.length : Int) := of_decide_eq_true z7
               obtain ⟨ad170, e170, hx170_0⟩ := Kd.at_int (Kd.R_reads' HO_4.out).2.2 x9_2 p170 q170
               cases e170
               replace p170 := eq_true p170
               replace q170 := eq_true q170
               go_wp2
               go_roundg k3
               case measure => have := HK1.out; have := HK2.out; have := HK3.out; omega
               case rel => exact ⟨(rd t104 x9_2), (x10_3), (wrap64 (x9_2 + 1)), z11, z11, z11, H', ⟨z78⟩, ⟨z29⟩, ⟨z27⟩, ⟨z34⟩, ⟨z43⟩, ⟨z19⟩⟩
              ·rw [if_neg c33] at H
               exact absurd H (by simp)
             ·rw [if_neg c32] at H
              exact absurd H (by simp)
            ·rw [if_neg c31] at H
             have c31b0 : decide (x8_2 < x10_3) = false := decide_eq_false c31
             clear c31
             have H' := zA H
             clear H
             go_wp2
             go_roundg k3
             case measure => have := HK1.out; have := HK2.out; have := HK3.out; omega
             case rel => exact ⟨(x7_2), (x8_2), (wrap64 (x9_2 + 1)), z11, z11, z11, H', ⟨z78⟩, ⟨z29⟩, ⟨z27⟩, ⟨z34⟩, ⟨z43⟩, ⟨z19⟩⟩
        ·rw [if_neg c21] at H
         have c21b0 : decide (x9_2 < (t104.length : Int)) = false := decide_eq_false c21
         clear c21
         replace H := zi H
         obtain ⟨t100, A340, H⟩ := H
         (try dsimp -simprocs only at H)
         have A34 := zA A340
         clear A340
         obtain ⟨y114, hy114⟩ : ∃ y_ : List Int, y_ = (([] : List Int)) := ⟨_, rfl⟩
         replace H : (spec_GreedyTickets.l3 k2 t104 x5_1 t100 x7_2 y114 0 a0_0 a0_1 a0_2 a0_3) = some (r1, r2) := by first | (rw [hy114]; with_reducible exact H) | (have H2_ := (Option.bind_some _ _).symm.trans H; rw [hy114]; with_reducible exact H2_) | (have H2_ := (Option.bind_some _ _).symm.trans H; with_reducible exact H2_) | with_reducible exact H | (rw [hy114]; exact H) | exact H
         have Ny114 := zA hy114
         clear hy114
         have H' := zA H
         clear H
         obtain ⟨Ao35, co35, eo35⟩ := Kd.R_slice HO_4.out
         subst eo35
         go_wp2_with (first | ((with_reducible refine gate_callee (f := 61) rfl ?_); refine goesL_ (some 69) rfl rfl Try.func61 (by kernel_rfl) rfl #[.slice Ao20 x6_1.length co20, .int .i64 x7_2] rfl z3 ?_; (with_reducible refine (spec_l01Put.calls k2 (fun k_ => some k_ = (.slice Ao20 x6_1.length co20 : Value).ownBlock) (.slice Ao20 x6_1.length co20) x6_1 x7_2 t100 w _ ?side1 ?side2 A34.out).mono ?_); (case side1 => exact z19); (case side2 => exact Kd.R_tight rfl HO_6.out); rintro e w36 ⟨v115, rfl, ho0, hb, hkp⟩; refine ⟨_, rfl, ?_⟩; replace BK107 := zA (blk_kept z43 hkp (fun hs_ => (fun e_ => (Kd.R_ne HO_6.out BK107.out (by decide)) e_) hs_)); have HO116 := zA (Kd.R_mono (ok' := fun k_ => some k_ ≠ (.slice Ao35 t104.length co35 : Value).ownBlock ∧ some k_ ≠ (.slice Ao19 x5_1.length co19 : Value).ownBlock) ho0 (fun k_ hk_ => ⟨Or.elim hk_ (fun hs_ => fun e_ => (((HO_4.out).1 k_ e_.symm).2) hs_) (fun hn_ => (Kd.fresh' (Kd.R_lt z29) k_ hn_)), Or.elim hk_ (fun hs_ => fun e_ => (((HO_5.out).1 k_ e_.symm).2) hs_) (fun hn_ => (Kd.fresh' (Kd.R_lt z27) k_ hn_))⟩)); replace HO_4 := zA (Kd.R_mono (ok' := fun k_ => some k_ ≠ (.slice Ao19 x5_1.length co19 : Value).ownBlock ∧ some k_ ≠ (v115 : Value).ownBlock) (Kd.R_keptB (HO_4.out) hkp (fun k_ hk_ hs_ => (hk_.2) hs_)) (fun k_ hk_ => ⟨hk_.1.1, fun e_ => Or.elim (ho0.1 k_ e_.symm) (fun hs_ => hk_.2.1 hs_) (fun hn_ => Nat.not_le.2 hk_.2.2 hn_)⟩)); replace HO_5 := zA (Kd.R_mono (ok' := fun k_ => some k_ ≠ (.slice Ao35 t104.length co35 : Value).ownBlock ∧ some k_ ≠ (v115 : Value).ownBlock) (Kd.R_keptB (HO_5.out) hkp (fun k_ hk_ hs_ => (hk_.2) hs_)) (fun k_ hk_ => ⟨hk_.1.1, fun e_ => Or.elim (ho0.1 k_ e_.symm) (fun hs_ => hk_.2.1 hs_) (fun hn_ => Nat.not_le.2 hk_.2.2 hn_)⟩)); replace HB := zA (hb); clear HO_6; (try clear hb); (try clear hkp); (try clear ho0)) | ((with_reducible refine gate_dst (N := 70) rfl ?_); refine Kd.R_lit (Kd.int .i64) _ 2 ?hg (N := 70) ?hd (xs := ([] : List Int)) (inner := []) (ok := fun _ => True) (okp := fun _ => True) ?hr ?hp (fun _ hk => hk) trivial (Below.refl _ _) (Nat.le_refl _) (by simp) ?_; (case hd => rfl); (case hg => rfl); (case hr => first | (go_simp; done) | (go_simp; rfl)); (case hp => exact (Reps.none _ _)); intro v117 w37 ho38 hb hg_ hnew_; clear hg_ hnew_; (first | rw [← Ny114.out] at ho38 | (simp only [Int.reduceToNat] at ho38; rw [← Ny114.out] at ho38)); have HO118 := zA (Kd.R_lower (Kd.R_new' (Kd.R_new' (Kd.R_new' ho38 (Kd.R_lt z29)) (Kd.R_lt z27)) (Kd.R_lt z62)) (below_size z19)); replace HO_4 := zA (Kd.R_elder' z29 (Kd.R_base ho38) hb); replace HO_5 := zA (Kd.R_elder' z27 (Kd.R_base ho38) hb); replace HO116 := zA (Kd.R_elder' z62 (Kd.R_base ho38) hb); replace BK107 := zBB BK107 hb; replace HB := zA (below_step z19 hb); clear hb ho38))
         go_loopg [12, 13] k2 (fun kq v12 v13 w' => ∃ (x12_3 : List Int) (x13_3 : Int), v13 = .int .i64 x13_3 ∧ Aside0 (spec_GreedyTickets.l3 kq t104 x5_1 t100 x7_2 x12_3 x13_3 a0_0 a0_1 a0_2 a0_3 = some (r1, r2)) ∧ Aside0 (kq ≤ k2) ∧ Aside0 (Kd.R (Kd.int .i64) 2 w' w.heap.size (fun k_ => some k_ ≠ ((.slice Ao19 x5_1.length co19) : Value).ownBlock ∧ some k_ ≠ (v115 : Value).ownBlock ∧ some k_ ≠ (v12 : Value).ownBlock) (.slice Ao35 t104.length co35) t104) ∧ Aside0 (Kd.R (Kd.int .i64) 2 w' w.heap.size (fun k_ => some k_ ≠ ((.slice Ao35 t104.length co35) : Value).ownBlock ∧ some k_ ≠ (v115 : Value).ownBlock ∧ some k_ ≠ (v12 : Value).ownBlock) (.slice Ao19 x5_1.length co19) x5_1) ∧ Aside0 (Kd.R (Kd.int .i64) 2 w' w.heap.size (fun k_ => some k_ ≠ ((.slice Ao35 t104.length co35) : Value).ownBlock ∧ some k_ ≠ ((.slice Ao19 x5_1.length co19) : Value).ownBlock ∧ some k_ ≠ (v12 : Value).ownBlock) v115 t100) ∧ Aside0 (Kd.R (Kd.int .i64) 2 w' w.heap.size (fun k_ => some k_ ≠ ((.slice Ao35 t104.length co35) : Value).ownBlock ∧ some k_ ≠ ((.slice Ao19 x5_1.length co19) : Value).ownBlock ∧ some k_ ≠ (v115 : Value).ownBlock) v12 x12_3) ∧ Aside0 (w'.heap[gb107]? = some (.cells #[.int .i64 a0_0, .int .i64 a0_1, .int .i64 a0_2, .int .i64 a0_3] 27 (0, 0))) ∧ Aside0 (Below w.heap.size w w'))
         case atStart => exact ⟨(y114), (0), z11, H', ⟨Nat.le_refl _⟩, ⟨z90⟩, ⟨z91⟩, ⟨(by (with_reducible repeat (first | apply Kd.R_alloc | apply Kd.R_drewN | apply Kd.R_drew)); exact Kd.R_mono HO116.out (fun _ hk => by first | exact ⟨hk.1.1, ⟨hk.1.2, hk.2⟩⟩ | simp only [hk, ne_eq, not_false_eq_true, and_self]))⟩, ⟨(by (with_reducible repeat (first | apply Kd.R_alloc | apply Kd.R_drewN | apply Kd.R_drew)); exact Kd.R_mono HO118.out (fun _ hk => by first | exact ⟨hk.1.1.2, ⟨hk.1.2, hk.2⟩⟩ | simp only [hk, ne_eq, not_false_eq_true, and_self]))⟩, ⟨z43⟩, ⟨z19⟩⟩
         case round =>
          clear H'
          (try clear c1); (try clear p1); (try clear q1); (try clear hx1); (try clear c2); (try clear p2); (try clear c3); (try clear c5); (try clear c6); (try clear p6); (try clear c7); (try clear c15); (try clear c15b0); (try clear c15b1); (try clear c16); (try clear c16b0); (try clear c16b1); (try clear p16); (try clear q16); (try clear hx16); (try clear p17); (try clear q17); (try clear hx17); (try clear c21); (try clear c21b0); (try clear c23); (try clear c23b0); (try clear c24); (try clear c24b0); (try clear c25); (try clear c25b0); (try clear c26); (try clear c26b0); (try clear c28); (try clear c28b0); (try clear c31); (try clear c31b0); (try clear c32); (try clear c32b0); (try clear c33); (try clear c33b0); (try clear hcz7_0); (try clear hcz7_1); (try clear hcz7_2); (try clear hcz7_3); (try clear hfz7_0); (try clear hfz7_1); (try clear hfz7_2); (try clear hfz7_3); (try clear hx167_0); (try clear hx168_0); (try clear hx170_0); (try clear p167); (try clear p168); (try clear p170); (try clear p2); (try clear q167); (try clear q168); (try clear q170)
          obtain ⟨x12_3, x13_3, rfl, HA, HK3, HO_4, HO_5, HO_6, HO_12, BK107, HB⟩ := hrel
          cases gk with
          | zero => exact absurd HA.out (by simp [spec_GreedyTickets.l3])
          | succ k3 =>
           have H := HA.out
           clear HA
           simp only [spec_GreedyTickets.l3] at H
           by_cases c39 : x13_3 < (x5_1.length : Int)
           ·rw [if_pos c39] at H
            have c39b0 : decide (x13_3 < (x5_1.length : Int)) = true := decide_eq_true c39
            clear c39
            by_cases c40 : 0 ≤ x13_3
            ·rw [if_pos c40] at H
             have c40b0 : decide (0 ≤ x13_3) = true := decide_eq_true c40
             clear c40
             replace H := zi H
             obtain ⟨t102, A410, H⟩ := H
             (try dsimp -simprocs only at H)
             have A41 := zA A410
             clear A410
             by_cases c42 : t102 < a0_3
             ·rw [if_pos c42] at H
              have c42b0 : decide (t102 < a0_3) = true := decide_eq_true c42
              clear c42
              by_cases c43 : x12_3.length < 17592186044416
              ·rw [if_pos c43] at H
               have LMc43 := zA c43
               clear c43
               obtain ⟨y119, hy119⟩ : ∃ y_ : List Int, y_ = (x12_3 ++ [rd x5_1 x13_3]) := ⟨_, rfl⟩
               replace H : (spec_GreedyTickets.l3 k3 t104 x5_1 t100 x7_2 y119 (wrap64 (x13_3 + 1)) a0_0 a0_1 a0_2 a0_3) = some (r1, r2) := by first | (rw [hy119]; with_reducible exact H) | (have H2_ := (Option.bind_some _ _).symm.trans H; rw [hy119]; with_reducible exact H2_) | (have H2_ := (Option.bind_some _ _).symm.trans H; with_reducible exact H2_) | with_reducible exact H | (rw [hy119]; exact H) | exact H
               have Ny119 := zA hy119
               clear hy119
               have H' := zA H
               clear H
               try go_wp2
               have n0_ := zA (Kd.R_drew HO_4.out)
               have n1_ := zA (Kd.R_drew HO_5.out)
               have n2_ := zA (Kd.R_drew HO_6.out)
               have n3_ := zA (Kd.R_drew HO_12.out)
               have n4_ := zA (blk_drew BK107.out)
               have n5_ := zA (below_drew1 HB.out)
               clear HO_4 HO_5 HO_6 HO_12 BK107 HB
               have HO_4 := n0_
               have HO_5 := n1_
               have HO_6 := n2_
               have HO_12 := n3_
               have BK107 := n4_
               have HB := n5_
               clear n0_ n1_ n2_ n3_ n4_ n5_
               have p177 : 0 ≤ (x13_3 : Int) := of_decide_eq_true z7
               have q177 : x13_3 < (x5_1.length : Int) := of_decide_eq_true z7
               obtain ⟨ad177, e177, hx177_0⟩ := Kd.at_int (Kd.R_reads' HO_5.out).2.2 x13_3 p177 q177
               cases e177
               replace p177 := eq_true p177
               replace q177 := eq_true q177
               refine start_ (n := 10) (S := fun w' => w'.cell? ⟨gb107, 0, none⟩ = some (.int .i64 a0_0) ∧ w'.cell? ⟨gb107, 1, none⟩ = some (.int .i64 a0_1) ∧ w'.cell? ⟨gb107, 2, none⟩ = some (.int .i64 a0_2) ∧ w'.cell? ⟨gb107, 3, none⟩ = some (.int .i64 a0_3) ∧ w'.cell? (ad177.add (x13_3).toNat) = some (.int .i64 (rd x5_1 x13_3))) (ds := []) #[false, false, false, false, false, false, false, false, false, false] (by kernel_rfl) rfl rfl ⟨(blk_cell BK107.out 0).trans rfl, (blk_cell BK107.out 1).trans rfl, (blk_cell BK107.out 2).trans rfl, (blk_cell BK107.out 3).trans rfl, hx177_0⟩ (fun hHeld => ?_); refine with_tabW spec_GreedyTickets.tab25 spec_GreedyTickets.bits25 (fun HT_ HW_ => ?_)
               generalize wr.drew = w44 at HO_4 HO_5 HO_6 HO_12 BK107 HB hx177_0 hHeld ⊢
               refine zpu 0 (some 77) #[true, false, false, false, false, false, false, false, false, false] ?_
               refine zpu 1 (some 78) #[true, true, false, false, false, false, false, false, false, false] ?_
               refine zpu 2 (some 79) #[true, true, true, false, false, false, false, false, false, false] ?_
               refine zpu 3 (some 80) #[true, true, true, true, false, false, false, false, false, false] ?_
               refine zpu 7 (some 84) #[true, true, true, true, false, false, false, true, false, false] ?_
               refine zt5 4 (some 81) #[true, true, true, true, true, false, false, true, false, false] ?_
               refine zpu 5 (some 82) #[true, true, true, true, true, true, false, true, false, false] ?_
               refine zt5 8 (some 85) #[true, true, true, true, true, true, false, true, true, false] ?_
               refine one_ (i := 6) (N := some 83) #[true, true, true, true, true, true, true, true, true, false] rfl rfl (one_of HT_.out (by kernel_rfl)) (by decide) (fun K hK => ?_)
               refine goes_ Try.func60 (by kernel_rfl) rfl #[.int .i64 (Go.bits .and .i64 x7_2 (rd x5_1 x13_3))] (by rfl) rfl rfl z3 ?_
               with_reducible refine (spec_l08Size.calls k3 (Go.bits .and .i64 x7_2 (rd x5_1 x13_3)) t102 _ A41.out).mono ?_
               rintro e w' ⟨rfl, ⟨nd, rfl⟩⟩
               refine ⟨_, rfl, ?_⟩
               refine hK.out _ _ ⟨(blk_cell BK107.out 0).trans rfl, (blk_cell BK107.out 1).trans rfl, (blk_cell BK107.out 2).trans rfl, (blk_cell BK107.out 3).trans rfl, hHeld.2.2.2.2⟩ (fun hHeld => ?_)
               clear hK K
               refine norm_ (a' := ?_) ?_ ?_
               rotate_left
               ·show Act.put _ (some 83) _ = _
                simp only [Act.put, List.setIfInBounds_toArray, List.set_cons_zero, List.set_cons_succ, i64_w, i32_w]
                rfl
               refine zpu 9 (some 86) #[true, true, true, true, true, true, true, true, true, true] ?_
               refine done_ (done_of HT_.out (by kernel_rfl)) ?_
               have p179 : 0 ≤ (x13_3 : Int) := of_decide_eq_true z7
               have q179 : x13_3 < (x5_1.length : Int) := of_decide_eq_true z7
               obtain ⟨ad179, e179, hx179_0⟩ := Kd.at_int (Kd.R_reads' HO_5.out).2.2 x13_3 p179 q179
               obtain rfl : ad177 = ad179 := (by injection e179)
               replace p179 := eq_true p179
               replace q179 := eq_true q179
               try go_wp2_with (first | ((with_reducible refine gate_builtin (b := .append) (xs := #[.tmp 87, .tmp 92]) rfl ?_); at_builtin; refine Kd.R_append (Kd.int .i64) (w0 := w) w.heap.size rfl (.tmp 87) (.tmp 92) 24 2 (.int .i64 0) 8 rfl Try.underlying24 info2 rfl (by decide) (by omega) u12 x12_3 (rd x5_1 x13_3) [.int .i64 (rd x5_1 x13_3)] (fun k_ => some k_ ≠ (.slice Ao35 t104.length co35 : Value).ownBlock ∧ some k_ ≠ (.slice (some ad177) x5_1.length co19 : Value).ownBlock ∧ some k_ ≠ (v115 : Value).ownBlock) (fun _ => False) rfl rfl ?aP (fun _ hk => hk.elim) ?aF ?aO ?aB ?aS ?aL ?_; (case aP => exact rfl); (case aB => exact z19); (case aF => exact (fun k_ hk => ⟨Kd.fresh' (Kd.R_lt z29) k_ hk, Kd.fresh' (Kd.R_lt z27) k_ hk, Kd.fresh' (Kd.R_lt z34) k_ hk⟩)); (case aO => exact z135); (case aS => exact (below_size z19)); (case aL => have := LMc43.out; omega); intro v120 w45 ho hb hg hat; rw [← Ny119.out] at ho; replace HO_4 := zA (Kd.R_after (ok := (fun k_ => some k_ ≠ (.slice (some ad177) x5_1.length co19 : Value).ownBlock ∧ some k_ ≠ (v115 : Value).ownBlock)) (by (with_reducible repeat (first | apply Kd.R_alloc | apply Kd.R_drewN | apply Kd.R_drew)); exact Kd.R_mono HO_4.out (fun _ hk => by first | exact ⟨⟨hk.1, hk.2.1⟩, hk.2.2⟩ | simp only [hk, ne_eq, not_false_eq_true, and_self])) hg hat); replace HO_5 := zA (Kd.R_after (ok := (fun k_ => some k_ ≠ (.slice Ao35 t104.length co35 : Value).ownBlock ∧ some k_ ≠ (v115 : Value).ownBlock)) (by (with_reducible repeat (first | apply Kd.R_alloc | apply Kd.R_drewN | apply Kd.R_drew)); exact Kd.R_mono HO_5.out (fun _ hk => by first | exact ⟨⟨hk.1, hk.2.1⟩, hk.2.2⟩ | simp only [hk, ne_eq, not_false_eq_true, and_self])) hg hat); replace HO_6 := zA (Kd.R_after (ok := (fun k_ => some k_ ≠ (.slice Ao35 t104.length co35 : Value).ownBlock ∧ some k_ ≠ (.slice (some ad177) x5_1.length co19 : Value).ownBlock)) (by (with_reducible repeat (first | apply Kd.R_alloc | apply Kd.R_drewN | apply Kd.R_drew)); exact Kd.R_mono HO_6.out (fun _ hk => by first | exact ⟨⟨hk.1, hk.2.1⟩, hk.2.2⟩ | simp only [hk, ne_eq, not_false_eq_true, and_self])) hg hat); replace BK107 := zA (blk_grown (g := gb107) (o := .cells #[.int .i64 a0_0, .int .i64 a0_1, .int .i64 a0_2, .int .i64 a0_3] 27 (0, 0)) z43 hg (Kd.R_ne HO_12.out BK107.out (by decide))); replace HB := zA (hb); have HO121 := zA (ho); clear HO_12; clear ho hb hg hat))
               go_roundg k3
               case measure => have := HK1.out; have := HK2.out; have := HK3.out; omega
               case rel => exact ⟨(y119), (wrap64 (x13_3 + 1)), z11, H', ⟨z78⟩, ⟨z90⟩, ⟨z91⟩, ⟨(by (with_reducible repeat (first | apply Kd.R_alloc | apply Kd.R_drewN | apply Kd.R_drew)); exact Kd.R_mono HO_6.out (fun _ hk => by first | exact ⟨hk.1.1, ⟨hk.1.2, hk.2⟩⟩ | simp only [hk, ne_eq, not_false_eq_true, and_self]))⟩, ⟨(zr HO121.out)⟩, ⟨z43⟩, ⟨z19⟩⟩
              ·rw [if_neg c43] at H
               exact absurd H (by simp)
             ·rw [if_neg c42] at H
              have c42b0 : decide (t102 < a0_3) = false := decide_eq_false c42
              clear c42
              have H' := zA H
              clear H
              try go_wp2
              have n0_ := zA (Kd.R_drew HO_4.out)
              have n1_ := zA (Kd.R_drew HO_5.out)
              have n2_ := zA (Kd.R_drew HO_6.out)
              have n3_ := zA (Kd.R_drew HO_12.out)
              have n4_ := zA (blk_drew BK107.out)
              have n5_ := zA (below_drew1 HB.out)
              clear HO_4 HO_5 HO_6 HO_12 BK107 HB
              have HO_4 := n0_
              have HO_5 := n1_
              have HO_6 := n2_
              have HO_12 := n3_
              have BK107 := n4_
              have HB := n5_
              clear n0_ n1_ n2_ n3_ n4_ n5_
              have p177 : 0 ≤ (x13_3 : Int) := of_decide_eq_true z7
              have q177 : x13_3 < (x5_1.length : Int) := of_decide_eq_true z7
              obtain ⟨ad177, e177, hx177_0⟩ := Kd.at_int (Kd.R_reads' HO_5.out).2.2 x13_3 p177 q177
              cases e177
              replace p177 := eq_true p177
              replace q177 := eq_true q177
              refine start_ (n := 10) (S := fun w' => w'.cell? ⟨gb107, 0, none⟩ = some (.int .i64 a0_0) ∧ w'.cell? ⟨gb107, 1, none⟩ = some (.int .i64 a0_1) ∧ w'.cell? ⟨gb107, 2, none⟩ = some (.int .i64 a0_2) ∧ w'.cell? ⟨gb107, 3, none⟩ = some (.int .i64 a0_3) ∧ w'.cell? (ad177.add (x13_3).toNat) = some (.int .i64 (rd x5_1 x13_3))) (ds := []) #[false, false, false, false, false, false, false, false, false, false] (by kernel_rfl) rfl rfl ⟨(blk_cell BK107.out 0).trans rfl, (blk_cell BK107.out 1).trans rfl, (blk_cell BK107.out 2).trans rfl, (blk_cell BK107.out 3).trans rfl, hx177_0⟩ (fun hHeld => ?_); refine with_tabW spec_GreedyTickets.tab25 spec_GreedyTickets.bits25 (fun HT_ HW_ => ?_)
              generalize wr.drew = w46 at HO_4 HO_5 HO_6 HO_12 BK107 HB hx177_0 hHeld ⊢
              refine zpu 0 (some 77) #[true, false, false, false, false, false, false, false, false, false] ?_
              refine zpu 1 (some 78) #[true, true, false, false, false, false, false, false, false, false] ?_
              refine zpu 2 (some 79) #[true, true, true, false, false, false, false, false, false, false] ?_
              refine zpu 3 (some 80) #[true, true, true, true, false, false, false, false, false, false] ?_
              refine zpu 7 (some 84) #[true, true, true, true, false, false, false, true, false, false] ?_
              refine zt5 4 (some 81) #[true, true, true, true, true, false, false, true, false, false] ?_
              refine zpu 5 (some 82) #[true, true, true, true, true, true, false, true, false, false] ?_
              refine zt5 8 (some 85) #[true, true, true, true, true, true, false, true, true, false] ?_
              refine one_ (i := 6) (N := some 83) #[true, true, true, true, true, true, true, true, true, false] rfl rfl (one_of HT_.out (by kernel_rfl)) (by decide) (fun K hK => ?_)
              refine goes_ Try.func60 (by kernel_rfl) rfl #[.int .i64 (Go.bits .and .i64 x7_2 (rd x5_1 x13_3))] (by rfl) rfl rfl z3 ?_
              with_reducible refine (spec_l08Size.calls k3 (Go.bits .and .i64 x7_2 (rd x5_1 x13_3)) t102 _ A41.out).mono ?_
              rintro e w' ⟨rfl, ⟨nd, rfl⟩⟩
              refine ⟨_, rfl, ?_⟩
              refine hK.out _ _ ⟨(blk_cell BK107.out 0).trans rfl, (blk_cell BK107.out 1).trans rfl, (blk_cell BK107.out 2).trans rfl, (blk_cell BK107.out 3).trans rfl, hHeld.2.2.2.2⟩ (fun hHeld => ?_)
              clear hK K
              refine norm_ (a' := ?_) ?_ ?_
              rotate_left
              ·show Act.put _ (some 83) _ = _
               simp only [Act.put, List.setIfInBounds_toArray, List.set_cons_zero, List.set_cons_succ, i64_w, i32_w]
               rfl
              refine zpu 9 (some 86) #[true, true, true, true, true, true, true, true, true, true] ?_
              refine done_ (done_of HT_.out (by kernel_rfl)) ?_
              try go_wp2
              go_roundg k3
              case measure => have := HK1.out; have := HK2.out; have := HK3.out; omega
              case rel => exact ⟨(x12_3), (wrap64 (x13_3 + 1)), z11, H', ⟨z78⟩, ⟨z29⟩, ⟨z27⟩, ⟨z34⟩, ⟨z135⟩, ⟨z43⟩, ⟨z19⟩⟩
            ·rw [if_neg c40] at H
             exact absurd H (by simp)
           ·rw [if_neg c39] at H
            have c39b0 : decide (x13_3 < (x5_1.length : Int)) = false := decide_eq_false c39
            clear c39
            have H' := zA H
            clear H
            go_wp2
            go_roundg k3
            case measure => have := HK1.out; have := HK2.out; have := HK3.out; omega
            case rel => exact ⟨(x12_3), (t100), H', ⟨z78⟩, ⟨(by (with_reducible repeat (first | apply Kd.R_alloc | apply Kd.R_drewN | apply Kd.R_drew)); exact Kd.R_mono HO_4.out (fun _ hk => by first | exact ⟨hk.2.2, hk.2.1⟩ | simp only [hk, ne_eq, not_false_eq_true, and_self]))⟩, ⟨(by (with_reducible repeat (first | apply Kd.R_alloc | apply Kd.R_drewN | apply Kd.R_drew)); exact Kd.R_mono HO_12.out (fun _ hk => by first | exact ⟨hk.1, hk.2.2⟩ | simp only [hk, ne_eq, not_false_eq_true, and_self]))⟩, ⟨(by (with_reducible repeat (first | apply Kd.R_alloc | apply Kd.R_drewN | apply Kd.R_drew)); exact Kd.R_mono HO_6.out (fun _ hk => by first | exact ⟨hk.1, hk.2.2⟩ | simp only [hk, ne_eq, not_false_eq_true, and_self]))⟩, ⟨z43⟩, ⟨z19⟩⟩
    ·rw [if_neg c15] at H
     have c15b0 : decide (0 < (x5_1.length : Int)) = false := decide_eq_false c15
     have c15b1 : decide (0 < x5_1.length) = false := decide_eq_false (by omega)
     clear c15
     simp only [Option.some.injEq, Prod.mk.injEq] at H
     obtain ⟨rfl, rfl⟩ := H
     obtain ⟨Ao47, co47, eo47⟩ := Kd.R_slice HO_5.out
     subst eo47
     go_wp2
     go_ret2
     exact ⟨_, z8, z102, z19⟩
 ·replace c3 := Bool.eq_false_iff.mpr c3
  subst c3
  have H1 : (some (([] : List Int), 1)) = some (r1, r2) := by rw [if_neg (show ¬ (false = true) by decide)] at H; exact H
  clear H
  have H := H1
  clear H1
  simp only [Option.some.injEq, Prod.mk.injEq] at H
  obtain ⟨rfl, rfl⟩ := H
  go_enter Try.func7, Try.ntmps7
  go_wp2_with (first | ((with_reducible refine gate_dst (N := 1) rfl ?_); refine zbox (N := 1) (cs := #[.int .i64 a0_0, .int .i64 a0_1, .int .i64 a0_2, .int .i64 a0_3]) (t := 27) ?_; intro gb107 hg w48 hbox hb; have BK107 := zA (hbox); have GW107 := zA ((z151 : w.heap.size ≤ gb107)); have GE107 := zA ((z151 : w.heap.size ≤ gb107)); replace HB := zA (below_step z1 hb); clear hb hbox hg; obtain ⟨hcz49_0, hcz49_1, hcz49_2, hcz49_3, hfz49_0, hfz49_1, hfz49_2, hfz49_3⟩ := zC4 BK107.out) | ((with_reducible refine gate_callee (f := 58) rfl ?_); refine goesL_ (some 15) rfl rfl Try.func58 (by kernel_rfl) rfl #[.agg #[.int .i64 a0_0, .int .i64 a0_1, .int .i64 a0_2, .int .i64 a0_3]] rfl z3 ?_; (with_reducible refine (spec_l08Is.calls a0_0 a0_1 a0_2 a0_3 false _ A2.out).mono ?_); rintro e w50 ⟨rfl, hb⟩; refine ⟨_, rfl, ?_⟩; replace BK107 := zBB BK107 hb; replace HB := zA (below_step z19 hb); (try clear hb); (try clear hb2); (try clear hk); (try clear hi)))
  go_ret2
  exact ⟨_, z8, z37, z19⟩

end Go.Proofs.Ytchlbkcladfloaa.PFnGuarantees
