-- WALKS, by a program and by hand
import Derived.Test.YtchlbkcladfloaaPFnGuaranteesx0
import Derived.Test.YtchlbkcladfloaaPFnGuaranteesx3
import Derived.Test.YtchlbkcladfloaaPFnGuaranteesx4
namespace Go.Proofs.Ytchlbkcladfloaa.PFnGuarantees
open Go.RowKit Go.Proofs.Ytchlbkcladfloaa.DG Go.Proofs.YtchlbkcladfloaaW.PrintWords Go.Proofs.YtchlbkcladfloaaW.PrintLast Go.Proofs.YtchlbkcladfloaaW.PrintMore
attribute [local go_sem] max2_int min2_int max_two min_two max_three min_three max_four min_four   -- for this text's walks alone
set_option linter.unusedVariables false
set_option linter.unusedSimpArgs false

mutual
def impl_GreedyTickets.l0 : Nat → List Int → List Int → List Int → List Int → Int → Int → Int → Int → Option (List Int × Int)
 | 0, _, _, _, _, _, _, _, _ => none
 | k + 1, x4, x5, x6, x7, x211000, x211001, x211002, x211003 => if (x5.length : Int) > 0 then (impl_GreedyTickets.l1 k x4 x5 x6 x7 0 x7 (x7.length : Int) 0 x211000 x211001 x211002 x211003) else ((slices_Sort_int64_int64.f k x6).bind fun t100 => (some (t100, 0)))
def impl_GreedyTickets.l1 : Nat → List Int → List Int → List Int → List Int → Int → List Int → Int → Int → Int → Int → Int → Int → Option (List Int × Int)
 | 0, _, _, _, _, _, _, _, _, _, _, _, _ => none
 | k + 1, x4, x5, x6, x7, x8, x33, x34, x35, x211000, x211001, x211002, x211003 => if x35 < x34 then (if 0 ≤ x35 then (if x35 < (x33.length : Int) then (if 0 ≤ x8 then (if x8 < (x7.length : Int) then (if (rd x33 x35) > (rd x7 x8) then (impl_GreedyTickets.l1 k x4 x5 x6 x7 x35 x33 x34 (wrap64 (x35 + 1)) x211000 x211001 x211002 x211003) else (impl_GreedyTickets.l1 k x4 x5 x6 x7 x8 x33 x34 (wrap64 (x35 + 1)) x211000 x211001 x211002 x211003)) else (none)) else (none)) else (none)) else (none)) else (if (x6.length : Int) = 200 then (some (([] : List Int), 3)) else (if 0 ≤ x8 then (if x8 < (x4.length : Int) then (if x6.length < 17592186044416 then (impl_GreedyTickets.l2 k x4 (x6 ++ [rd x4 x8]) x7 x8 (([] : List Int)) x5 (x5.length : Int) 0 x211000 x211001 x211002 x211003) else (none)) else (none)) else (none)))
def impl_GreedyTickets.l2 : Nat → List Int → List Int → List Int → Int → List Int → List Int → Int → Int → Int → Int → Int → Int → Option (List Int × Int)
 | 0, _, _, _, _, _, _, _, _, _, _, _, _ => none
 | k + 1, x4, x6, x7, x8, x11, x59, x60, x61, x211000, x211001, x211002, x211003 => if x61 < x60 then (if 0 ≤ x61 then (if x61 < (x59.length : Int) then (if 0 ≤ x8 then (if x8 < (x4.length : Int) then ((impl_hits.f x211000 x211001 x211002 x211003 (rd x4 x8) (rd x59 x61)).bind fun t101 => (if t101 = true then (impl_GreedyTickets.l3 k x4 x6 x7 x8 x11 (rd x59 x61) x59 x60 x61 x4 (x4.length : Int) 0 x211000 x211001 x211002 x211003) else (if x11.length < 17592186044416 then (impl_GreedyTickets.l2 k x4 x6 x7 x8 (x11 ++ [rd x59 x61]) x59 x60 (wrap64 (x61 + 1)) x211000 x211001 x211002 x211003) else (none)))) else (none)) else (none)) else (none)) else (none)) else (impl_GreedyTickets.l0 k x4 x11 x6 x7 x211000 x211001 x211002 x211003)
def impl_GreedyTickets.l3 : Nat → List Int → List Int → List Int → Int → List Int → Int → List Int → Int → Int → List Int → Int → Int → Int → Int → Int → Int → Option (List Int × Int)
 | 0, _, _, _, _, _, _, _, _, _, _, _, _, _, _, _, _ => none
 | k + 1, x4, x6, x7, x8, x11, x13, x59, x60, x61, x77, x78, x79, x211000, x211001, x211002, x211003 => if x79 < x78 then (if 0 ≤ x79 then (if x79 < (x77.length : Int) then ((impl_hits.f x211000 x211001 x211002 x211003 (rd x77 x79) x13).bind fun t102 => (if t102 = true then (if x79 < (x7.length : Int) then (impl_GreedyTickets.l3 k x4 x6 (x7.set (x79 : Int).toNat (wrap64 ((rd x7 x79) - 1))) x8 x11 x13 x59 x60 x61 x77 x78 (wrap64 (x79 + 1)) x211000 x211001 x211002 x211003) else (none)) else (impl_GreedyTickets.l3 k x4 x6 x7 x8 x11 x13 x59 x60 x61 x77 x78 (wrap64 (x79 + 1)) x211000 x211001 x211002 x211003))) else (none)) else (none)) else (impl_GreedyTickets.l2 k x4 x6 x7 x8 x11 x59 x60 (wrap64 (x61 + 1)) x211000 x211001 x211002 x211003)
end
def impl_GreedyTickets.f (k : Nat) (a0_0 : Int) (a0_1 : Int) (a0_2 : Int) (a0_3 : Int) : Option (List Int × Int) := (impl_IsLottery.f a0_0 a0_1 a0_2 a0_3).bind fun t103 => (if t103 = true then ((impl_allTickets.f k a0_0 a0_1 a0_2 a0_3).bind fun t104 => ((impl_allDraws.f k a0_0 a0_1 a0_2 a0_3).bind fun t105 => ((impl_drawsHit.f k a0_0 a0_1 a0_2 a0_3).bind fun t106 => ((slices_Repeat_int64_int64.f k (([t106] : List Int)) (t104.length : Int)).bind fun t107 => (impl_GreedyTickets.l0 k t104 t105 (([] : List Int)) t107 a0_0 a0_1 a0_2 a0_3))))) else (some (([] : List Int), 1)))
def impl_GreedyTickets.T3 : Bool × List (List Nat × List Nat) := (true, [([], []), ([0], [0]), ([], []), ([2, 1], [2]), ([], []), ([1, 3, 0, 1], [1]), ([3, 5, 0, 1, 2, 3, 5], [3]), ([4, 6, 0, 1, 2, 3, 4, 5, 6], [4])])
def impl_GreedyTickets.B3 : List Nat := [0, 1, 0, 7, 0, 15, 47, 127]
theorem impl_GreedyTickets.tab3 : rtab .any (opsOf Try.f9 3) = impl_GreedyTickets.T3 := by kernel_rfl
theorem impl_GreedyTickets.bits3 : waitsOk impl_GreedyTickets.T3.2 impl_GreedyTickets.B3 = true := by kernel_rfl
def impl_GreedyTickets.T20 : Bool × List (List Nat × List Nat) := (true, [([], []), ([], []), ([], []), ([1, 2], [1, 2]), ([3], [3]), ([], []), ([0, 4, 5], [0, 4, 5]), ([6], [6])])
def impl_GreedyTickets.B20 : List Nat := [0, 0, 0, 6, 14, 0, 63, 127]
theorem impl_GreedyTickets.tab20 : rtab .any (opsOf Try.f9 20) = impl_GreedyTickets.T20 := by kernel_rfl
theorem impl_GreedyTickets.bits20 : waitsOk impl_GreedyTickets.T20.2 impl_GreedyTickets.B20 = true := by kernel_rfl
namespace impl_GreedyTicketsA
structure AP3 (w : World) (a b c : Value) (p q r : Bool) : Prop where
 la : p = true → ∀ k, a.ownBlock = some k → k < w.heap.size
 lb : q = true → ∀ k, b.ownBlock = some k → k < w.heap.size
 lc : r = true → ∀ k, c.ownBlock = some k → k < w.heap.size
 ab : p = true → q = true → ∀ k, a.ownBlock = some k → b.ownBlock ≠ some k
 ac : p = true → r = true → ∀ k, a.ownBlock = some k → c.ownBlock ≠ some k
 bc : q = true → r = true → ∀ k, b.ownBlock = some k → c.ownBlock ≠ some k
theorem AP3.start {w : World} {a b c : Value} : AP3 w a b c false false false :=
 ⟨fun h => absurd h (by decide), fun h => absurd h (by decide), fun h => absurd h (by decide), fun h => absurd h (by decide), fun h => absurd h (by decide), fun h => absurd h (by decide)⟩
theorem AP3.s1 {w w9 : World} {a a' b c : Value} {p q r : Bool} (h : AP3 w a b c p q r) (hb : Below w.heap.size w w9) (h1 : ∀ k, a'.ownBlock = some k → w.heap.size ≤ k) (h2 : ∀ k, a'.ownBlock = some k → k < w9.heap.size) : AP3 w9 a' b c true q r := by
 have hs := hb.size
 exact ⟨fun _ => h2, fun hq k hk => Nat.lt_of_lt_of_le (h.lb hq k hk) hs, fun hr k hk => Nat.lt_of_lt_of_le (h.lc hr k hk) hs, fun _ hq k hk he => by have := h1 k hk; have := h.lb hq k he; omega, fun _ hr k hk he => by have := h1 k hk; have := h.lc hr k he; omega, h.bc⟩
theorem AP3.s2 {w w9 : World} {a b b' c : Value} {p q r : Bool} (h : AP3 w a b c p q r) (hb : Below w.heap.size w w9) (h1 : ∀ k, b'.ownBlock = some k → w.heap.size ≤ k) (h2 : ∀ k, b'.ownBlock = some k → k < w9.heap.size) : AP3 w9 a b' c p true r := by
 have hs := hb.size
 exact ⟨fun hp k hk => Nat.lt_of_lt_of_le (h.la hp k hk) hs, fun _ => h2, fun hr k hk => Nat.lt_of_lt_of_le (h.lc hr k hk) hs, fun hp _ k hk he => by have := h1 k he; have := h.la hp k hk; omega, h.ac, fun _ hr k hk he => by have := h1 k hk; have := h.lc hr k he; omega⟩
theorem AP3.s3 {w w9 : World} {a b c c' : Value} {p q r : Bool} (h : AP3 w a b c p q r) (hb : Below w.heap.size w w9) (h1 : ∀ k, c'.ownBlock = some k → w.heap.size ≤ k) (h2 : ∀ k, c'.ownBlock = some k → k < w9.heap.size) : AP3 w9 a b c' p q true := by
 have hs := hb.size
 exact ⟨fun hp k hk => Nat.lt_of_lt_of_le (h.la hp k hk) hs, fun hq k hk => Nat.lt_of_lt_of_le (h.lb hq k hk) hs, fun _ => h2, h.ab, fun hp _ k hk he => by have := h1 k he; have := h.la hp k hk; omega, fun hq _ k hk he => by have := h1 k he; have := h.lb hq k hk; omega⟩
theorem AP3.r1 {w : World} {a b c : Value} {e H : Nat} {ok : Nat → Prop} {xs : List Int} (h : AP3 w a b c true true true) (hR : Kd.R (Kd.int .i64) e w H ok a xs) : Kd.R (Kd.int .i64) e w H (fun k => some k ≠ b.ownBlock ∧ some k ≠ c.ownBlock) a xs :=
 ⟨fun k hk => ⟨fun he => h.ab rfl rfl k hk he.symm, fun he => h.ac rfl rfl k hk he.symm⟩, hR.2⟩
theorem AP3.r2 {w : World} {a b c : Value} {e H : Nat} {ok : Nat → Prop} {xs : List Int} (h : AP3 w a b c true true true) (hR : Kd.R (Kd.int .i64) e w H ok b xs) : Kd.R (Kd.int .i64) e w H (fun k => some k ≠ a.ownBlock ∧ some k ≠ c.ownBlock) b xs :=
 ⟨fun k hk => ⟨fun he => h.ab rfl rfl k he.symm hk, fun he => h.bc rfl rfl k hk he.symm⟩, hR.2⟩
theorem AP3.r3 {w : World} {a b c : Value} {e H : Nat} {ok : Nat → Prop} {xs : List Int} (h : AP3 w a b c true true true) (hR : Kd.R (Kd.int .i64) e w H ok c xs) : Kd.R (Kd.int .i64) e w H (fun k => some k ≠ a.ownBlock ∧ some k ≠ b.ownBlock) c xs :=
 ⟨fun k hk => ⟨fun he => h.ac rfl rfl k he.symm hk, fun he => h.bc rfl rfl k he.symm hk⟩, hR.2⟩
end impl_GreedyTicketsA
open impl_GreedyTicketsA
set_option maxHeartbeats 8000000 in
set_option maxRecDepth 100000 in
theorem impl_GreedyTickets.calls (k : Nat) (a0_0 : Int) (a0_1 : Int) (a0_2 : Int) (a0_3 : Int) (r1 : List Int) (r2 : Int) (w : World) (h : impl_GreedyTickets.f k a0_0 a0_1 a0_2 a0_3 = some (r1, r2)) :
  Calls Try.prog 9 #[.agg #[.int .i64 a0_0, .int .i64 a0_1, .int .i64 a0_2, .int .i64 a0_3]] w fun e w' => ∃ v0_ : Value, e = .returned (.tuple #[v0_, .int .i64 r2]) ∧ Kd.R (Kd.int .i64) 2 w' w.heap.size (fun _ => True) v0_ r1 ∧ Below w.heap.size w w' := by
 have hu27 := Try.underlying27
 have HB := zA (Below.refl w.heap.size w)
 have H := h
 unfold impl_GreedyTickets.f at H
 (try dsimp -simprocs only at H)
 clear h
 replace H := zi H
 obtain ⟨t103, A20, H⟩ := H
 (try dsimp -simprocs only at H)
 have A2 := zA A20
 clear A20
 by_cases c3 : t103 = true
 ·subst c3
  have H1 : ((impl_allTickets.f k a0_0 a0_1 a0_2 a0_3).bind fun t104 => ((impl_allDraws.f k a0_0 a0_1 a0_2 a0_3).bind fun t105 => ((impl_drawsHit.f k a0_0 a0_1 a0_2 a0_3).bind fun t106 => ((slices_Repeat_int64_int64.f k (([t106] : List Int)) (t104.length : Int)).bind fun t107 => (impl_GreedyTickets.l0 k t104 t105 (([] : List Int)) t107 a0_0 a0_1 a0_2 a0_3))))) = some (r1, r2) := by rw [if_pos rfl] at H; exact H
  clear H
  have H := H1
  clear H1
  replace H := zi H
  obtain ⟨t104, A40, H⟩ := H
  (try dsimp -simprocs only at H)
  have A4 := zA A40
  clear A40
  replace H := zi H
  obtain ⟨t105, A50, H⟩ := H
  (try dsimp -simprocs only at H)
  have A5 := zA A50
  clear A50
  obtain ⟨y108, hy108⟩ : ∃ y_ : List Int, y_ = (([] : List Int)) := ⟨_, rfl⟩
  replace H : ((impl_drawsHit.f k a0_0 a0_1 a0_2 a0_3).bind fun t106 => ((slices_Repeat_int64_int64.f k (([t106] : List Int)) (t104.length : Int)).bind fun t107 => (impl_GreedyTickets.l0 k t104 t105 y108 t107 a0_0 a0_1 a0_2 a0_3))) = some (r1, r2) := by first | (rw [hy108]; with_reducible exact H) | (have H2_ := (Option.bind_some _ _).symm.trans H; rw [hy108]; with_reducible exact H2_) | (have H2_ := (Option.bind_some _ _).symm.trans H; with_reducible exact H2_) | with_reducible exact H | (rw [hy108]; exact H) | exact H
  have Ny108 := zA hy108
  clear hy108
  replace H := zi H
  obtain ⟨t106, A60, H⟩ := H
  (try dsimp -simprocs only at H)
  have A6 := zA A60
  clear A60
  obtain ⟨y109, hy109⟩ : ∃ y_ : List Int, y_ = (([t106] : List Int)) := ⟨_, rfl⟩
  replace H : ((slices_Repeat_int64_int64.f k y109 (t104.length : Int)).bind fun t107 => (impl_GreedyTickets.l0 k t104 t105 y108 t107 a0_0 a0_1 a0_2 a0_3)) = some (r1, r2) := by first | (rw [hy109]; with_reducible exact H) | (have H2_ := (Option.bind_some _ _).symm.trans H; rw [hy109]; with_reducible exact H2_) | (have H2_ := (Option.bind_some _ _).symm.trans H; with_reducible exact H2_) | with_reducible exact H | (rw [hy109]; exact H) | exact H
  have Ny109 := zA hy109
  clear hy109
  replace H := zi H
  obtain ⟨t107, A70, H⟩ := H
  (try dsimp -simprocs only at H)
  have A7 := zA A70
  clear A70
  have H' := zA H
  clear H
  go_enter Try.func9, Try.ntmps9
  try go_wp2_with (first | ((with_reducible refine gate_dst (N := 1) rfl ?_); refine zbox (N := 1) (cs := #[.int .i64 a0_0, .int .i64 a0_1, .int .i64 a0_2, .int .i64 a0_3]) (t := 27) ?_; intro gb110 hg w8 hbox hb; have BK110 := zA (hbox); have GW110 := zA ((z151 : w.heap.size ≤ gb110)); have GE110 := zA ((z151 : w.heap.size ≤ gb110)); replace HB := zA (below_step z1 hb); clear hb hbox hg; obtain ⟨hcz9_0, hcz9_1, hcz9_2, hcz9_3, hfz9_0, hfz9_1, hfz9_2, hfz9_3⟩ := zC4 BK110.out) | ((with_reducible refine gate_callee (f := 37) rfl ?_); refine goesL_ (some 17) rfl rfl Try.func37 (by kernel_rfl) rfl #[.agg #[.int .i64 a0_0, .int .i64 a0_1, .int .i64 a0_2, .int .i64 a0_3]] rfl z3 ?_; (with_reducible refine (impl_IsLottery.calls a0_0 a0_1 a0_2 a0_3 true _ A2.out).mono ?_); rintro e w10 ⟨rfl, hb⟩; refine ⟨_, rfl, ?_⟩; replace BK110 := zBB BK110 hb; replace HB := zA (below_step z13 hb); (try clear hb); (try clear hb2); (try clear hk); (try clear hi)))
  have n0_ := zA (blk_drew BK110.out)
  have n1_ := zA (below_drew1 HB.out)
  clear BK110 HB
  have BK110 := n0_
  have HB := n1_
  clear n0_ n1_
  refine start_ (n := 8) (S := fun w' => True) (ds := []) #[false, false, false, false, false, false, false, false] (by kernel_rfl) rfl rfl trivial (fun hHeld => ?_); refine with_tabW impl_GreedyTickets.tab3 impl_GreedyTickets.bits3 (fun HT_ HW_ => ?_)
  generalize w10.drew = w11 at BK110 HB hHeld ⊢
  refine inv_at [0, 1, 2, 3, 4, 5, 6, 7] (fun a0_ b a w' => ∃ (v111 : Value) (v112 : Value) (v113 : Value) (m5_ : Value) (m6_ : Value) (m7_ : Value), a = putSel a0_ b [(0, 19, .agg #[.int .i64 a0_0, .int .i64 a0_1, .int .i64 a0_2, .int .i64 a0_3]), (1, 20, v111), (2, 21, .agg #[.int .i64 a0_0, .int .i64 a0_1, .int .i64 a0_2, .int .i64 a0_3]), (3, 22, v112), (4, 23, v113), (5, 4, m5_), (6, 5, m6_), (7, 6, m7_)] ∧ (w'.heap[gb110]? = some (.cells #[.int .i64 a0_0, .int .i64 a0_1, .int .i64 a0_2, .int .i64 a0_3] 27 (0, 0))) ∧ (Below w.heap.size w w') ∧ (b 1 = true → Kd.R (Kd.int .i64) 2 w' w.heap.size (fun _ => True) v111 t104) ∧ (b 3 = true → Kd.R (Kd.int .i64) 2 w' w.heap.size (fun _ => True) v112 t105) ∧ (b 4 = true → Kd.R (Kd.int .i64) 2 w' w.heap.size (fun _ => True) v113 y108) ∧ (b 5 = true → (m5_ : Value) = v111) ∧ (b 6 = true → (m6_ : Value) = v112) ∧ (b 7 = true → (m7_ : Value) = v113) ∧ AP3 w' v111 v112 v113 (b 1) (b 3) (b 4)) HT_.out HW_.out (by kernel_rfl) (by kernel_rfl) ?_ ?_ ?_
  ·exact ⟨.bool false, .bool false, .bool false, .bool false, .bool false, .bool false, z142, BK110.out, HB.out, fun h_ => absurd h_ (by decide), fun h_ => absurd h_ (by decide), fun h_ => absurd h_ (by decide), fun h_ => absurd h_ (by decide), fun h_ => absurd h_ (by decide), fun h_ => absurd h_ (by decide), AP3.start⟩
  ·skip
   clear BK110 HB
   refine steps_cons ?_ ?_
   ·rintro b a w' ⟨v111, v112, v113, m5_, m6_, m7_, ha, Q_BK210, Q_HB, Q_HO214, Q_HO217, Q_HO220, Q_X5_, Q_X6_, Q_X7_, Q_AP⟩ hb_ hon hoff
    refine ⟨_, rfl, fun K hK => ?_⟩
    have e1 : a.tmps[1]? = some (.pointer (some ⟨gb110, 0, none⟩)) := by rw [ha]; exact (putSel_off rfl).trans rfl
    replace ha := zA ha
    have BK110 := zA Q_BK210
    have HB := zA Q_HB
    have hc0_ : w'.cell? ⟨gb110, 0, none⟩ = some (.int .i64 a0_0) := (blk_cell BK110.out 0).trans rfl
    have hc1_ : w'.cell? ⟨gb110, 1, none⟩ = some (.int .i64 a0_1) := (blk_cell BK110.out 1).trans rfl
    have hc2_ : w'.cell? ⟨gb110, 2, none⟩ = some (.int .i64 a0_2) := (blk_cell BK110.out 2).trans rfl
    have hc3_ : w'.cell? ⟨gb110, 3, none⟩ = some (.int .i64 a0_3) := (blk_cell BK110.out 3).trans rfl
    refine value_ (w1 := w') (v := .agg #[.int .i64 a0_0, .int .i64 a0_1, .int .i64 a0_2, .int .i64 a0_3]) (by rfl) rfl ?_ ?_
    ·go_simp
     (try simp only [i64_w])
     try rfl
    refine hK.out _ _ ⟨v111, v112, v113, m5_, m6_, m7_, z143, Q_BK210, Q_HB, zo (hoff 1 (by kernel_rfl)), zo (hoff 3 (by kernel_rfl)), Q_HO220, zo (hoff 5 (by kernel_rfl)), zo (hoff 6 (by kernel_rfl)), zo (hoff 7 (by kernel_rfl)), Q_AP⟩
   refine steps_cons ?_ ?_
   ·rintro b a w' ⟨v111, v112, v113, m5_, m6_, m7_, ha, Q_BK210, Q_HB, Q_HO214, Q_HO217, Q_HO220, Q_X5_, Q_X6_, Q_X7_, Q_AP⟩ hb_ hon hoff
    refine ⟨_, rfl, fun K hK => ?_⟩
    have e19 : a.tmps[19]? = some (.agg #[.int .i64 a0_0, .int .i64 a0_1, .int .i64 a0_2, .int .i64 a0_3]) := by rw [ha]; exact putSel_on (e := (0, 19, .agg #[.int .i64 a0_0, .int .i64 a0_1, .int .i64 a0_2, .int .i64 a0_3])) 0 rfl rfl (hon 0 (by kernel_rfl)) rfl
    replace ha := zA ha
    have BK110 := zA Q_BK210
    have HB := zA Q_HB
    refine goes_ Try.func62 (by kernel_rfl) rfl #[.agg #[.int .i64 a0_0, .int .i64 a0_1, .int .i64 a0_2, .int .i64 a0_3]] (by rfl) rfl rfl (by first | (simp only [List.map_toArray, List.map_cons, List.map_nil, Act.eval, Array.getD_eq_getD_getElem?, Option.getD_some, e19]; done) | (simp only [List.map_toArray, List.map_cons, List.map_nil, Act.eval, Array.getD_eq_getD_getElem?, Option.getD_some, e19]; rfl)) ?_
    with_reducible refine (impl_allTickets.calls k a0_0 a0_1 a0_2 a0_3 t104 _ A4.out).mono ?_
    rintro e w12 ⟨v111, rfl, ho0, hb⟩
    have q_ap := AP3.s1 Q_AP hb (Kd.R_base ho0) (Kd.R_lt ho0)
    refine ⟨_, rfl, ?_⟩
    have n0_ := zA (Kd.R_lower ho0 (below_size z13))
    have n1_ := zBB BK110 hb
    have n2_ := zA (below_step z13 hb)
    have z_HO220 := fun (h0_ : b 4 = true) => (show Kd.R (Kd.int .i64) 2 w12 w.heap.size (fun _ => True) v113 y108 from by first | exact (Kd.R_elder' z93 (Kd.R_base ho0) hb) | exact Kd.R_mono (Kd.R_elder' z93 (Kd.R_base ho0) hb) (fun _ h_ => by first | trivial | exact h_ | exact h_.1))
    clear BK110 HB
    have HO114 := n0_
    have BK110 := n1_
    have HB := n2_
    clear n0_ n1_ n2_
    (try clear hb)
    (try clear hb2)
    (try clear hk)
    (try clear hi)
    (try clear ho0)
    refine hK.out _ _ ⟨v111, v112, v113, m5_, m6_, m7_, z144, z32, z13, fun _ => z63, zo (hoff 3 (by kernel_rfl)), z_HO220, zo (hoff 5 (by kernel_rfl)), zo (hoff 6 (by kernel_rfl)), zo (hoff 7 (by kernel_rfl)), q_ap⟩
   refine steps_cons ?_ ?_
   ·rintro b a w' ⟨v111, v112, v113, m5_, m6_, m7_, ha, Q_BK210, Q_HB, Q_HO214, Q_HO217, Q_HO220, Q_X5_, Q_X6_, Q_X7_, Q_AP⟩ hb_ hon hoff
    refine ⟨_, rfl, fun K hK => ?_⟩
    have e1 : a.tmps[1]? = some (.pointer (some ⟨gb110, 0, none⟩)) := by rw [ha]; exact (putSel_off rfl).trans rfl
    replace ha := zA ha
    have BK110 := zA Q_BK210
    have HB := zA Q_HB
    have hc0_ : w'.cell? ⟨gb110, 0, none⟩ = some (.int .i64 a0_0) := (blk_cell BK110.out 0).trans rfl
    have hc1_ : w'.cell? ⟨gb110, 1, none⟩ = some (.int .i64 a0_1) := (blk_cell BK110.out 1).trans rfl
    have hc2_ : w'.cell? ⟨gb110, 2, none⟩ = some (.int .i64 a0_2) := (blk_cell BK110.out 2).trans rfl
    have hc3_ : w'.cell? ⟨gb110, 3, none⟩ = some (.int .i64 a0_3) := (blk_cell BK110.out 3).trans rfl
    refine value_ (w1 := w') (v := .agg #[.int .i64 a0_0, .int .i64 a0_1, .int .i64 a0_2, .int .i64 a0_3]) (by rfl) rfl ?_ ?_
    ·go_simp
     (try simp only [i64_w])
     try rfl
    refine hK.out _ _ ⟨v111, v112, v113, m5_, m6_, m7_, z145, Q_BK210, Q_HB, Q_HO214, zo (hoff 3 (by kernel_rfl)), Q_HO220, zo (hoff 5 (by kernel_rfl)), zo (hoff 6 (by kernel_rfl)), zo (hoff 7 (by kernel_rfl)), Q_AP⟩
   refine steps_cons ?_ ?_
   ·rintro b a w' ⟨v111, v112, v113, m5_, m6_, m7_, ha, Q_BK210, Q_HB, Q_HO214, Q_HO217, Q_HO220, Q_X5_, Q_X6_, Q_X7_, Q_AP⟩ hb_ hon hoff
    refine ⟨_, rfl, fun K hK => ?_⟩
    have e21 : a.tmps[21]? = some (.agg #[.int .i64 a0_0, .int .i64 a0_1, .int .i64 a0_2, .int .i64 a0_3]) := by rw [ha]; exact putSel_on (e := (2, 21, .agg #[.int .i64 a0_0, .int .i64 a0_1, .int .i64 a0_2, .int .i64 a0_3])) 2 rfl rfl (hon 2 (by kernel_rfl)) rfl
    replace ha := zA ha
    have BK110 := zA Q_BK210
    have HB := zA Q_HB
    have HO114 := zA (Q_HO214 (hon 1 (by kernel_rfl)))
    refine goes_ Try.func63 (by kernel_rfl) rfl #[.agg #[.int .i64 a0_0, .int .i64 a0_1, .int .i64 a0_2, .int .i64 a0_3]] (by rfl) rfl rfl (by first | (simp only [List.map_toArray, List.map_cons, List.map_nil, Act.eval, Array.getD_eq_getD_getElem?, Option.getD_some, e21]; done) | (simp only [List.map_toArray, List.map_cons, List.map_nil, Act.eval, Array.getD_eq_getD_getElem?, Option.getD_some, e21]; rfl)) ?_
    with_reducible refine (impl_allDraws.calls k a0_0 a0_1 a0_2 a0_3 t105 _ A5.out).mono ?_
    rintro e w14 ⟨v112, rfl, ho0, hb⟩
    have q_ap := AP3.s2 Q_AP hb (Kd.R_base ho0) (Kd.R_lt ho0)
    refine ⟨_, rfl, ?_⟩
    have n0_ := zA (Kd.R_elder' z63 (Kd.R_base ho0) hb)
    have n1_ := zA (Kd.R_lower (Kd.R_new' ho0 (Kd.R_lt z63)) (below_size z13))
    have n2_ := zBB BK110 hb
    have n3_ := zA (below_step z13 hb)
    have z_HO220 := fun (h0_ : b 4 = true) => (show Kd.R (Kd.int .i64) 2 w14 w.heap.size (fun _ => True) v113 y108 from by first | exact (Kd.R_elder' z93 (Kd.R_base ho0) hb) | exact Kd.R_mono (Kd.R_elder' z93 (Kd.R_base ho0) hb) (fun _ h_ => by first | trivial | exact h_ | exact h_.1))
    clear HO114 BK110 HB
    have HO114 := n0_
    have HO115 := n1_
    have BK110 := n2_
    have HB := n3_
    clear n0_ n1_ n2_ n3_
    (try clear hb)
    (try clear hb2)
    (try clear hk)
    (try clear hi)
    (try clear ho0)
    refine hK.out _ _ ⟨v111, v112, v113, m5_, m6_, m7_, z146, z32, z13, fun _ => (by (with_reducible repeat (first | apply Kd.R_alloc | apply Kd.R_drewN | apply Kd.R_drew)); exact Kd.R_mono HO114.out (fun _ hk => by first | exact hk.2 | simp only [hk, ne_eq, not_false_eq_true, and_self])), fun _ => (by (with_reducible repeat (first | apply Kd.R_alloc | apply Kd.R_drewN | apply Kd.R_drew)); exact Kd.R_mono HO115.out (fun _ hk => by first | exact hk.2 | simp only [hk, ne_eq, not_false_eq_true, and_self])), z_HO220, zo (hoff 5 (by kernel_rfl)), zo (hoff 6 (by kernel_rfl)), zo (hoff 7 (by kernel_rfl)), q_ap⟩
   refine steps_cons ?_ ?_
   ·rintro b a w' ⟨v111, v112, v113, m5_, m6_, m7_, ha, Q_BK210, Q_HB, Q_HO214, Q_HO217, Q_HO220, Q_X5_, Q_X6_, Q_X7_, Q_AP⟩ hb_ hon hoff
    refine ⟨_, rfl, fun K hK => ?_⟩
    replace ha := zA ha
    have BK110 := zA Q_BK210
    have HB := zA Q_HB
    refine Kd.R_lit_step (Kd.int .i64) _ 2 ?hg (N := 23) ?hd (xs := ([] : List Int)) (inner := []) (ok := fun _ => True) (okp := fun _ => True) ?hr ?hp (fun _ hk => hk) trivial (Below.refl _ _) (Nat.le_refl _) (by simp) ?_; (case hd => rfl); (case hg => rfl); (case hr => first | (go_simp; done) | (go_simp; rfl)); (case hp => exact (Reps.none _ _))
    intro v113 w12 ho13 hb hg_ hnew_
    have q_ap := AP3.s3 Q_AP hb (Kd.R_base ho13) (Kd.R_lt ho13)
    clear hg_ hnew_
    (first | rw [← Ny108.out] at ho13 | (simp only [Int.reduceToNat] at ho13; rw [← Ny108.out] at ho13))
    have n0_ := zA (Kd.R_lower ho13 (below_size z13))
    have n1_ := zBB BK110 hb
    have n2_ := zA (below_step z13 hb)
    have z_HO214 := fun (h0_ : b 1 = true) => (show Kd.R (Kd.int .i64) 2 w12 w.heap.size (fun _ => True) v111 t104 from by first | exact (Kd.R_elder' z133 (Kd.R_base ho13) hb) | exact Kd.R_mono (Kd.R_elder' z133 (Kd.R_base ho13) hb) (fun _ h_ => by first | trivial | exact h_ | exact h_.1))
    have z_HO217 := fun (h0_ : b 3 = true) => (show Kd.R (Kd.int .i64) 2 w12 w.heap.size (fun _ => True) v112 t105 from by first | exact (Kd.R_elder' z134 (Kd.R_base ho13) hb) | exact Kd.R_mono (Kd.R_elder' z134 (Kd.R_base ho13) hb) (fun _ h_ => by first | trivial | exact h_ | exact h_.1))
    clear BK110 HB
    have HO116 := n0_
    have BK110 := n1_
    have HB := n2_
    clear n0_ n1_ n2_
    clear hb ho13
    refine hK.out _ _ ⟨v111, v112, v113, m5_, m6_, m7_, z147, z32, z13, z_HO214, z_HO217, fun _ => z62, Q_X5_, Q_X6_, zo (hoff 7 (by kernel_rfl)), q_ap⟩
   refine steps_cons ?_ ?_
   ·rintro b a w' ⟨v111, v112, v113, m5_, m6_, m7_, ha, Q_BK210, Q_HB, Q_HO214, Q_HO217, Q_HO220, Q_X5_, Q_X6_, Q_X7_, Q_AP⟩ hb_ hon hoff
    refine ⟨_, rfl, fun K hK => ?_⟩
    have e20 : a.tmps[20]? = some (v111) := by rw [ha]; exact putSel_on (e := (1, 20, v111)) 1 rfl rfl (hon 1 (by kernel_rfl)) rfl
    replace ha := zA ha
    have BK110 := zA Q_BK210
    have HB := zA Q_HB
    have HO114 := zA (Q_HO214 (hon 1 (by kernel_rfl)))
    have HO115 := zA (Q_HO217 (hon 3 (by kernel_rfl)))
    refine value_ (w1 := w') (v := v111) (by rfl) rfl ?_ ?_
    ·go_simp
     (try simp only [i64_w])
     try rfl
    refine hK.out _ _ ⟨v111, v112, v113, (v111), m6_, m7_, z148, Q_BK210, Q_HB, Q_HO214, Q_HO217, Q_HO220, fun _ => rfl, zo (hoff 6 (by kernel_rfl)), zo (hoff 7 (by kernel_rfl)), Q_AP⟩
   refine steps_cons ?_ ?_
   ·rintro b a w' ⟨v111, v112, v113, m5_, m6_, m7_, ha, Q_BK210, Q_HB, Q_HO214, Q_HO217, Q_HO220, Q_X5_, Q_X6_, Q_X7_, Q_AP⟩ hb_ hon hoff
    refine ⟨_, rfl, fun K hK => ?_⟩
    have e22 : a.tmps[22]? = some (v112) := by rw [ha]; exact putSel_on (e := (3, 22, v112)) 3 rfl rfl (hon 3 (by kernel_rfl)) rfl
    replace ha := zA ha
    have BK110 := zA Q_BK210
    have HB := zA Q_HB
    have HO114 := zA (Q_HO214 (hon 1 (by kernel_rfl)))
    have HO115 := zA (Q_HO217 (hon 3 (by kernel_rfl)))
    refine value_ (w1 := w') (v := v112) (by rfl) rfl ?_ ?_
    ·go_simp
     (try simp only [i64_w])
     try rfl
    refine hK.out _ _ ⟨v111, v112, v113, m5_, (v112), m7_, (by rw [ha.out]; exact putSel_upk 6 hb_ rfl rfl rfl), Q_BK210, Q_HB, Q_HO214, Q_HO217, Q_HO220, Q_X5_, fun _ => rfl, zo (hoff 7 (by kernel_rfl)), Q_AP⟩
   refine steps_cons ?_ ?_
   ·rintro b a w' ⟨v111, v112, v113, m5_, m6_, m7_, ha, Q_BK210, Q_HB, Q_HO214, Q_HO217, Q_HO220, Q_X5_, Q_X6_, Q_X7_, Q_AP⟩ hb_ hon hoff
    refine ⟨_, rfl, fun K hK => ?_⟩
    have e23 : a.tmps[23]? = some (v113) := by rw [ha]; exact putSel_on (e := (4, 23, v113)) 4 rfl rfl (hon 4 (by kernel_rfl)) rfl
    replace ha := zA ha
    have BK110 := zA Q_BK210
    have HB := zA Q_HB
    have HO114 := zA (Q_HO214 (hon 1 (by kernel_rfl)))
    have HO115 := zA (Q_HO217 (hon 3 (by kernel_rfl)))
    have HO116 := zA (Q_HO220 (hon 4 (by kernel_rfl)))
    refine value_ (w1 := w') (v := v113) (by rfl) rfl ?_ ?_
    ·go_simp
     (try simp only [i64_w])
     try rfl
    refine hK.out _ _ ⟨v111, v112, v113, m5_, m6_, (v113), (by rw [ha.out]; exact putSel_upk 7 hb_ rfl rfl rfl), Q_BK210, Q_HB, Q_HO214, Q_HO217, Q_HO220, Q_X5_, Q_X6_, fun _ => rfl, Q_AP⟩
   exact steps_nil
  rintro b a w16 hall ⟨v111, v112, v113, m5_, m6_, m7_, ha, Q_BK210, Q_HB, Q_HO214, Q_HO217, Q_HO220, Q_X5_, Q_X6_, Q_X7_, Q_AP⟩
  clear BK110 HB
  have hb0_ := hall 0 (by kernel_rfl)
  have hb1_ := hall 1 (by kernel_rfl)
  have hb2_ := hall 2 (by kernel_rfl)
  have hb3_ := hall 3 (by kernel_rfl)
  have hb4_ := hall 4 (by kernel_rfl)
  have hb5_ := hall 5 (by kernel_rfl)
  have hb6_ := hall 6 (by kernel_rfl)
  have hb7_ := hall 7 (by kernel_rfl)
  subst ha
  have qx5_ := Q_X5_ hb5_
  subst m5_
  have qx6_ := Q_X6_ hb6_
  subst m6_
  have qx7_ := Q_X7_ hb7_
  subst m7_
  rw [hb1_, hb3_, hb4_] at Q_AP
  simp only [putSel, hb0_, hb1_, hb2_, hb3_, hb4_, hb5_, hb6_, hb7_, if_true, Act.put, List.setIfInBounds_toArray, List.set_cons_zero, List.set_cons_succ]
  have BK110 := zA Q_BK210
  clear Q_BK210
  have HB := zA Q_HB
  clear Q_HB
  have HO114 := zA (AP3.r1 Q_AP (Q_HO214 hb1_))
  clear Q_HO214
  have HO115 := zA (AP3.r2 Q_AP (Q_HO217 hb3_))
  clear Q_HO217
  have HO116 := zA (AP3.r3 Q_AP (Q_HO220 hb4_))
  clear Q_HO220
  clear hall hb0_ hb1_ hb2_ hb3_ hb4_ hb5_ hb6_ hb7_
  obtain ⟨hcz17_0, hcz17_1, hcz17_2, hcz17_3, hfz17_0, hfz17_1, hfz17_2, hfz17_3⟩ := zC4 BK110.out
  try go_wp2_with (first | ((with_reducible refine gate_callee (f := 65) rfl ?_); refine goesL_ (some 25) rfl rfl Try.func65 (by kernel_rfl) rfl #[.agg #[.int .i64 a0_0, .int .i64 a0_1, .int .i64 a0_2, .int .i64 a0_3]] rfl z3 ?_; (with_reducible refine (impl_drawsHit.calls k a0_0 a0_1 a0_2 a0_3 t106 _ A6.out).mono ?_); rintro e w18 ⟨rfl, hb⟩; refine ⟨_, rfl, ?_⟩; replace HO114 := zA (Kd.R_below z63 hb); replace HO115 := zA (Kd.R_below z66 hb); replace HO116 := zA (Kd.R_below z62 hb); replace BK110 := zBB BK110 hb; replace HB := zA (below_step z13 hb); (try clear hb); (try clear hb2); (try clear hk); (try clear hi)) | ((with_reducible refine gate_dst (N := 26) rfl ?_); refine Kd.R_lit (Kd.int .i64) _ 2 ?hg (N := 26) ?hd (xs := ([t106] : List Int)) (inner := [.int .i64 t106]) (ok := fun _ => True) (okp := fun _ => True) ?hr ?hp (fun _ hk => hk) trivial (Below.refl _ _) (Nat.le_refl _) (by simp) ?_; (case hd => rfl); (case hg => rfl); (case hr => first | (go_simp; done) | (go_simp; rfl)); (case hp => exact (Reps.one (show Kd.M (Kd.int .i64) _ _ _ t106 [.int .i64 t106] from rfl) (Reps.none _ _))); intro v117 w19 ho20 hb hg_ hnew_; clear hg_ hnew_; (first | rw [← Ny109.out] at ho20 | (simp only [Int.reduceToNat] at ho20; rw [← Ny109.out] at ho20)); have HO118 := zA (Kd.R_lower (Kd.R_new' (Kd.R_new' (Kd.R_new' ho20 (Kd.R_lt z63)) (Kd.R_lt z66)) (Kd.R_lt z62)) (below_size z13)); replace HO114 := zA (Kd.R_elder' z63 (Kd.R_base ho20) hb); replace HO115 := zA (Kd.R_elder' z66 (Kd.R_base ho20) hb); replace HO116 := zA (Kd.R_elder' z62 (Kd.R_base ho20) hb); replace BK110 := zBB BK110 hb; replace HB := zA (below_step z13 hb); clear hb ho20; obtain ⟨Ao21, co21, eo21⟩ := Kd.R_slice HO114.out; subst eo21; obtain ⟨Ao22, co22, eo22⟩ := Kd.R_slice HO118.out; subst eo22) | ((with_reducible refine gate_callee (f := 64) rfl ?_); refine goesL_ (some 29) rfl rfl Try.func64 (by kernel_rfl) rfl #[.slice Ao22 y109.length co22, .int .i64 (t104.length : Int)] rfl z3 ?_; (with_reducible refine (slices_Repeat_int64_int64.calls k _ _ y109 (t104.length : Int) t107 _ ?side1 ?side2 A7.out).mono ?_); (case side1 => exact z108); (case side2 => exact (Kd.R_reads' HO118.out).2.1); rintro e w23 ⟨v119, rfl, ho0, hb⟩; refine ⟨_, rfl, ?_⟩; have HO120 := zA (Kd.R_lower (Kd.R_new' (Kd.R_new' (Kd.R_new' (Kd.R_new' ho0 (Kd.R_lt z63)) (Kd.R_lt z66)) (Kd.R_lt z62)) (Kd.R_lt z119)) (below_size z13)); replace HO114 := zA (Kd.R_elder' z63 (Kd.R_base ho0) hb); replace HO115 := zA (Kd.R_elder' z66 (Kd.R_base ho0) hb); replace HO116 := zA (Kd.R_elder' z62 (Kd.R_base ho0) hb); replace HO118 := zA (Kd.R_elder' z119 (Kd.R_base ho0) hb); replace BK110 := zBB BK110 hb; replace HB := zA (below_step z13 hb); (try clear hb); (try clear hb2); (try clear hk); (try clear hi); (try clear ho0)))
  go_loopg [5, 6] k (fun kq v5 v6 w' => ∃ (x5_1 : List Int) (x6_1 : List Int) (x7_1 : List Int), Aside0 (impl_GreedyTickets.l0 kq t104 x5_1 x6_1 x7_1 a0_0 a0_1 a0_2 a0_3 = some (r1, r2)) ∧ Aside0 (kq ≤ k) ∧ Aside0 (Kd.R (Kd.int .i64) 2 w' w.heap.size (fun k_ => some k_ ≠ (v5 : Value).ownBlock ∧ some k_ ≠ (v6 : Value).ownBlock ∧ some k_ ≠ (v119 : Value).ownBlock) (.slice Ao21 t104.length co21) t104) ∧ Aside0 (Kd.R (Kd.int .i64) 2 w' w.heap.size (fun k_ => some k_ ≠ ((.slice Ao21 t104.length co21) : Value).ownBlock ∧ some k_ ≠ (v6 : Value).ownBlock ∧ some k_ ≠ (v119 : Value).ownBlock) v5 x5_1) ∧ Aside0 (Kd.R (Kd.int .i64) 2 w' w.heap.size (fun k_ => some k_ ≠ ((.slice Ao21 t104.length co21) : Value).ownBlock ∧ some k_ ≠ (v5 : Value).ownBlock ∧ some k_ ≠ (v119 : Value).ownBlock) v6 x6_1) ∧ Aside0 (Kd.R (Kd.int .i64) 2 w' w.heap.size (fun k_ => some k_ ≠ ((.slice Ao21 t104.length co21) : Value).ownBlock ∧ some k_ ≠ (v5 : Value).ownBlock ∧ some k_ ≠ (v6 : Value).ownBlock) v119 x7_1) ∧ Aside0 (w'.heap[gb110]? = some (.cells #[.int .i64 a0_0, .int .i64 a0_1, .int .i64 a0_2, .int .i64 a0_3] 27 (0, 0))) ∧ Aside0 (Below w.heap.size w w'))
  case atStart => exact ⟨(t105), (y108), (t107), H', ⟨Nat.le_refl _⟩, ⟨(by (with_reducible repeat (first | apply Kd.R_alloc | apply Kd.R_drewN | apply Kd.R_drew)); exact Kd.R_mono HO114.out (fun _ hk => by first | exact ⟨hk.1.1.1, ⟨hk.1.1.2, hk.2⟩⟩ | simp only [hk, ne_eq, not_false_eq_true, and_self]))⟩, ⟨(by (with_reducible repeat (first | apply Kd.R_alloc | apply Kd.R_drewN | apply Kd.R_drew)); exact Kd.R_mono HO115.out (fun _ hk => by first | exact ⟨hk.1.1.1, ⟨hk.1.1.2, hk.2⟩⟩ | simp only [hk, ne_eq, not_false_eq_true, and_self]))⟩, ⟨(by (with_reducible repeat (first | apply Kd.R_alloc | apply Kd.R_drewN | apply Kd.R_drew)); exact Kd.R_mono HO116.out (fun _ hk => by first | exact ⟨hk.1.1.1, ⟨hk.1.1.2, hk.2⟩⟩ | simp only [hk, ne_eq, not_false_eq_true, and_self]))⟩, ⟨(by (with_reducible repeat (first | apply Kd.R_alloc | apply Kd.R_drewN | apply Kd.R_drew)); exact Kd.R_mono HO120.out (fun _ hk => by first | exact ⟨hk.1.1.1.2, ⟨hk.1.1.2, hk.1.2⟩⟩ | simp only [hk, ne_eq, not_false_eq_true, and_self]))⟩, ⟨z32⟩, ⟨z13⟩⟩
  case round =>
   clear H'
   (try clear c1); (try clear c2); (try clear p2); (try clear c3); (try clear c6); (try clear c9); (try clear hcz17_0); (try clear hcz17_1); (try clear hcz17_2); (try clear hcz17_3); (try clear hcz9_0); (try clear hcz9_1); (try clear hcz9_2); (try clear hcz9_3); (try clear hfz17_0); (try clear hfz17_1); (try clear hfz17_2); (try clear hfz17_3); (try clear hfz9_0); (try clear hfz9_1); (try clear hfz9_2); (try clear hfz9_3)
   obtain ⟨x5_1, x6_1, x7_1, HA, HK1, HO_4, HO_5, HO_6, HO_7, BK110, HB⟩ := hrel
   cases gk with
   | zero => exact absurd HA.out (by simp [impl_GreedyTickets.l0])
   | succ k1 =>
    have H := HA.out
    clear HA
    simp only [impl_GreedyTickets.l0] at H
    by_cases c24 : (x5_1.length : Int) > 0
    ·rw [if_pos c24] at H
     have c24b0 : decide (0 < (x5_1.length : Int)) = true := decide_eq_true c24
     have c24b1 : decide (0 < x5_1.length) = true := decide_eq_true (by omega)
     clear c24
     have H' := zA H
     clear H
     obtain ⟨Ao25, co25, eo25⟩ := Kd.R_slice HO_5.out
     subst eo25
     obtain ⟨Ao26, co26, eo26⟩ := Kd.R_slice HO_7.out
     subst eo26
     go_wp2
     go_loopg [8, 35] k1 (fun kq v8 v35 w' => ∃ (x8_2 : Int) (x35_2 : Int), v8 = .int .i64 x8_2 ∧ v35 = .int .i64 x35_2 ∧ Aside0 (impl_GreedyTickets.l1 kq t104 x5_1 x6_1 x7_1 x8_2 x7_1 (x7_1.length : Int) x35_2 a0_0 a0_1 a0_2 a0_3 = some (r1, r2)) ∧ Aside0 (kq ≤ k1) ∧ Aside0 (Kd.R (Kd.int .i64) 2 w' w.heap.size (fun k_ => some k_ ≠ ((.slice Ao25 x5_1.length co25) : Value).ownBlock ∧ some k_ ≠ (u6 : Value).ownBlock ∧ some k_ ≠ ((.slice Ao26 x7_1.length co26) : Value).ownBlock ∧ some k_ ≠ ((.slice Ao26 x7_1.length co26) : Value).ownBlock) (.slice Ao21 t104.length co21) t104) ∧ Aside0 (Kd.R (Kd.int .i64) 2 w' w.heap.size (fun k_ => some k_ ≠ ((.slice Ao21 t104.length co21) : Value).ownBlock ∧ some k_ ≠ (u6 : Value).ownBlock ∧ some k_ ≠ ((.slice Ao26 x7_1.length co26) : Value).ownBlock ∧ some k_ ≠ ((.slice Ao26 x7_1.length co26) : Value).ownBlock) (.slice Ao25 x5_1.length co25) x5_1) ∧ Aside0 (Kd.R (Kd.int .i64) 2 w' w.heap.size (fun k_ => some k_ ≠ ((.slice Ao21 t104.length co21) : Value).ownBlock ∧ some k_ ≠ ((.slice Ao25 x5_1.length co25) : Value).ownBlock ∧ some k_ ≠ ((.slice Ao26 x7_1.length co26) : Value).ownBlock ∧ some k_ ≠ ((.slice Ao26 x7_1.length co26) : Value).ownBlock) u6 x6_1) ∧ Aside0 (Kd.R (Kd.int .i64) 2 w' w.heap.size (fun k_ => some k_ ≠ ((.slice Ao21 t104.length co21) : Value).ownBlock ∧ some k_ ≠ ((.slice Ao25 x5_1.length co25) : Value).ownBlock ∧ some k_ ≠ (u6 : Value).ownBlock) (.slice Ao26 x7_1.length co26) x7_1) ∧ Aside0 (Kd.R (Kd.int .i64) 2 w' w.heap.size (fun k_ => some k_ ≠ ((.slice Ao21 t104.length co21) : Value).ownBlock ∧ some k_ ≠ ((.slice Ao25 x5_1.length co25) : Value).ownBlock ∧ some k_ ≠ (u6 : Value).ownBlock) (.slice Ao26 x7_1.length co26) x7_1) ∧ Aside0 (w'.heap[gb110]? = some (.cells #[.int .i64 a0_0, .int .i64 a0_1, .int .i64 a0_2, .int .i64 a0_3] 27 (0, 0))) ∧ Aside0 (Below w.heap.size w w'))
     case atStart => exact ⟨(0), (0), z11, z11, H', ⟨Nat.le_refl _⟩, ⟨(by (with_reducible repeat (first | apply Kd.R_alloc | apply Kd.R_drewN | apply Kd.R_drew)); exact Kd.R_mono HO_4.out (fun _ hk => by first | exact ⟨hk.1, ⟨hk.2.1, ⟨hk.2.2, hk.2.2⟩⟩⟩ | simp only [hk, ne_eq, not_false_eq_true, and_self]))⟩, ⟨(by (with_reducible repeat (first | apply Kd.R_alloc | apply Kd.R_drewN | apply Kd.R_drew)); exact Kd.R_mono HO_5.out (fun _ hk => by first | exact ⟨hk.1, ⟨hk.2.1, ⟨hk.2.2, hk.2.2⟩⟩⟩ | simp only [hk, ne_eq, not_false_eq_true, and_self]))⟩, ⟨(by (with_reducible repeat (first | apply Kd.R_alloc | apply Kd.R_drewN | apply Kd.R_drew)); exact Kd.R_mono HO_6.out (fun _ hk => by first | exact ⟨hk.1, ⟨hk.2.1, ⟨hk.2.2, hk.2.2⟩⟩⟩ | simp only [hk, ne_eq, not_false_eq_true, and_self]))⟩, ⟨z16⟩, ⟨z16⟩, ⟨z32⟩, ⟨z13⟩⟩
     case round =>
      clear H'
      (try clear c1); (try clear c2); (try clear p2); (try clear c3); (try clear c6); (try clear c9); (try clear c24); (try clear c24b0); (try clear c24b1); (try clear hcz17_0); (try clear hcz17_1); (try clear hcz17_2); (try clear hcz17_3); (try clear hcz9_0); (try clear hcz9_1); (try clear hcz9_2); (try clear hcz9_3); (try clear hfz17_0); (try clear hfz17_1); (try clear hfz17_2); (try clear hfz17_3); (try clear hfz9_0); (try clear hfz9_1); (try clear hfz9_2); (try clear hfz9_3); (try clear p2)
      obtain ⟨x8_2, x35_2, rfl, rfl, HA, HK2, HO_4, HO_5, HO_6, HO_7, HO_33, BK110, HB⟩ := hrel
      cases gk with
      | zero => exact absurd HA.out (by simp [impl_GreedyTickets.l1])
      | succ k2 =>
       have H := HA.out
       clear HA
       simp only [impl_GreedyTickets.l1] at H
       by_cases c27 : x35_2 < (x7_1.length : Int)
       ·rw [if_pos c27] at H
        have c27b0 : decide (x35_2 < (x7_1.length : Int)) = true := decide_eq_true c27
        clear c27
        by_cases c28 : 0 ≤ x35_2
        ·rw [if_pos c28] at H
         have c28b0 : decide (0 ≤ x35_2) = true := decide_eq_true c28
         clear c28
         by_cases c29 : x35_2 < (x7_1.length : Int)
         ·rw [if_pos c29] at H
          have c29b0 : decide (x35_2 < (x7_1.length : Int)) = true := decide_eq_true c29
          clear c29
          by_cases c30 : 0 ≤ x8_2
          ·rw [if_pos c30] at H
           have c30b0 : decide (0 ≤ x8_2) = true := decide_eq_true c30
           clear c30
           by_cases c31 : x8_2 < (x7_1.length : Int)
           ·rw [if_pos c31] at H
            have c31b0 : decide (x8_2 < (x7_1.length : Int)) = true := decide_eq_true c31
            clear c31
            by_cases c32 : (rd x7_1 x35_2) > (rd x7_1 x8_2)
            ·rw [if_pos c32] at H
             have c32b0 : decide ((rd x7_1 x8_2) < (rd x7_1 x35_2)) = true := decide_eq_true c32
             clear c32
             have H' := zA H
             clear H
             have p229 : 0 ≤ (x35_2 : Int) := of_decide_eq_true z7
             have q229 : x35_2 < (x7_1.length : Int) := of_decide_eq_true z7
             obtain ⟨ad229, e229, hx229_0⟩ := Kd.at_int (Kd.R_reads' HO_33.out).2.2 x35_2 p229 q229
             cases e229
             replace p229 := eq_true p229
             replace q229 := eq_true q229
             have p230 : 0 ≤ (x8_2 : Int) := of_decide_eq_true z7
             have q230 : x8_2 < (x7_1.length : Int) := of_decide_eq_true z7
             obtain ⟨ad230, e230, hx230_0⟩ := Kd.at_int (Kd.R_reads' HO_7.out).2.2 x8_2 p230 q230
             obtain rfl : ad229 = ad230 := (by injection e230)
             replace p230 := eq_true p230
             replace q230 := eq_true q230
             go_wp2
             go_roundg k2
             case measure => have := HK1.out; have := HK2.out; omega
             case rel => exact ⟨(x35_2), (wrap64 (x35_2 + 1)), z11, z11, H', ⟨z76⟩, ⟨z29⟩, ⟨z27⟩, ⟨z34⟩, ⟨z16⟩, ⟨z79⟩, ⟨z32⟩, ⟨z13⟩⟩
            ·rw [if_neg c32] at H
             have c32b0 : decide ((rd x7_1 x8_2) < (rd x7_1 x35_2)) = false := decide_eq_false c32
             clear c32
             have H' := zA H
             clear H
             have p229 : 0 ≤ (x35_2 : Int) := of_decide_eq_true z7
             have q229 : x35_2 < (x7_1.length : Int) := of_decide_eq_true z7
             obtain ⟨ad229, e229, hx229_0⟩ := Kd.at_int (Kd.R_reads' HO_33.out).2.2 x35_2 p229 q229
             cases e229
             replace p229 := eq_true p229
             replace q229 := eq_true q229
             have p230 : 0 ≤ (x8_2 : Int) := of_decide_eq_true z7
             have q230 : x8_2 < (x7_1.length : Int) := of_decide_eq_true z7
             obtain ⟨ad230, e230, hx230_0⟩ := Kd.at_int (Kd.R_reads' HO_7.out).2.2 x8_2 p230 q230
             obtain rfl : ad229 = ad230 := (by injection e230)
             replace p230 := eq_true p230
             replace q230 := eq_true q230
             go_wp2
             go_roundg k2
             case measure => have := HK1.out; have := HK2.out; omega
             case rel => exact ⟨(x8_2), (wrap64 (x35_2 + 1)), z11, z11, H', ⟨z76⟩, ⟨z29⟩, ⟨z27⟩, ⟨z34⟩, ⟨z16⟩, ⟨z79⟩, ⟨z32⟩, ⟨z13⟩⟩
           ·rw [if_neg c31] at H
            exact absurd H (by simp)
          ·rw [if_neg c30] at H
           exact absurd H (by simp)
         ·rw [if_neg c29] at H
          exact absurd H (by simp)
        ·rw [if_neg c28] at H
         exact absurd H (by simp)
       ·rw [if_neg c27] at H
        have c27b0 : decide (x35_2 < (x7_1.length : Int)) = false := decide_eq_false c27
        clear c27
        by_cases c33 : (x6_1.length : Int) = 200
        ·rw [if_pos c33] at H
         have c33b0 : ((x6_1.length : Int) == 200) = true := beq_iff_eq.mpr c33
         have c33b1 : ((x6_1.length : Int) != 200) = false := bne_eq_false_iff_eq.mpr c33
         clear c33
         simp only [Option.some.injEq, Prod.mk.injEq] at H
         obtain ⟨rfl, rfl⟩ := H
         obtain ⟨Ao34, co34, eo34⟩ := Kd.R_slice HO_6.out
         subst eo34
         go_wp2
         go_ret2
         exact ⟨_, z8, z37, z13⟩
        ·rw [if_neg c33] at H
         have c33b0 : ((x6_1.length : Int) == 200) = false := beq_eq_false_iff_ne.mpr c33
         have c33b1 : ((x6_1.length : Int) != 200) = true := bne_iff_ne.mpr c33
         by_cases c35 : 0 ≤ x8_2
         ·rw [if_pos c35] at H
          have c35b0 : decide (0 ≤ x8_2) = true := decide_eq_true c35
          clear c35
          by_cases c36 : x8_2 < (t104.length : Int)
          ·rw [if_pos c36] at H
           have c36b0 : decide (x8_2 < (t104.length : Int)) = true := decide_eq_true c36
           clear c36
           by_cases c37 : x6_1.length < 17592186044416
           ·rw [if_pos c37] at H
            have LMc37 := zA c37
            clear c37
            obtain ⟨y121, hy121⟩ : ∃ y_ : List Int, y_ = (x6_1 ++ [rd t104 x8_2]) := ⟨_, rfl⟩
            replace H : (impl_GreedyTickets.l2 k2 t104 y121 x7_1 x8_2 (([] : List Int)) x5_1 (x5_1.length : Int) 0 a0_0 a0_1 a0_2 a0_3) = some (r1, r2) := by first | (rw [hy121]; with_reducible exact H) | (have H2_ := (Option.bind_some _ _).symm.trans H; rw [hy121]; with_reducible exact H2_) | (have H2_ := (Option.bind_some _ _).symm.trans H; with_reducible exact H2_) | with_reducible exact H | (rw [hy121]; exact H) | exact H
            have Ny121 := zA hy121
            clear hy121
            obtain ⟨y122, hy122⟩ : ∃ y_ : List Int, y_ = (([] : List Int)) := ⟨_, rfl⟩
            replace H : (impl_GreedyTickets.l2 k2 t104 y121 x7_1 x8_2 y122 x5_1 (x5_1.length : Int) 0 a0_0 a0_1 a0_2 a0_3) = some (r1, r2) := by first | (rw [hy122]; with_reducible exact H) | (have H2_ := (Option.bind_some _ _).symm.trans H; rw [hy122]; with_reducible exact H2_) | (have H2_ := (Option.bind_some _ _).symm.trans H; with_reducible exact H2_) | with_reducible exact H | (rw [hy122]; exact H) | exact H
            have Ny122 := zA hy122
            clear hy122
            have H' := zA H
            clear H
            obtain ⟨Ao38, co38, eo38⟩ := Kd.R_slice HO_6.out
            subst eo38
            have p231 : 0 ≤ (x8_2 : Int) := of_decide_eq_true z7
            have q231 : x8_2 < (t104.length : Int) := of_decide_eq_true z7
            obtain ⟨ad231, e231, hx231_0⟩ := Kd.at_int (Kd.R_reads' HO_4.out).2.2 x8_2 p231 q231
            cases e231
            replace p231 := eq_true p231
            replace q231 := eq_true q231
            go_wp2_with (first | ((with_reducible refine gate_builtin (b := .append) (xs := #[.tmp 51, .tmp 56]) rfl ?_); at_builtin; refine Kd.R_append (Kd.int .i64) (w0 := w) w.heap.size rfl (.tmp 51) (.tmp 56) 24 2 (.int .i64 0) 8 rfl Try.underlying24 info2 rfl (by decide) (by omega) (.slice Ao38 x6_1.length co38) x6_1 (rd t104 x8_2) [.int .i64 (rd t104 x8_2)] (fun k_ => some k_ ≠ (.slice (some ad231) t104.length co21 : Value).ownBlock ∧ some k_ ≠ (.slice Ao25 x5_1.length co25 : Value).ownBlock ∧ some k_ ≠ (.slice Ao26 x7_1.length co26 : Value).ownBlock ∧ some k_ ≠ (.slice Ao26 x7_1.length co26 : Value).ownBlock) (fun _ => False) rfl rfl ?aP (fun _ hk => hk.elim) ?aF ?aO ?aB ?aS ?aL ?_; (case aP => exact rfl); (case aB => exact z13); (case aF => exact (fun k_ hk => ⟨Kd.fresh' (Kd.R_lt z29) k_ hk, Kd.fresh' (Kd.R_lt z27) k_ hk, Kd.fresh' (Kd.R_lt z16) k_ hk, Kd.fresh' (Kd.R_lt z79) k_ hk⟩)); (case aO => exact z34); (case aS => exact (below_size z13)); (case aL => have := LMc37.out; omega); intro v123 w39 ho hb hg hat; rw [← Ny121.out] at ho; replace HO_4 := zA (Kd.R_after (ok := (fun k_ => some k_ ≠ (.slice Ao25 x5_1.length co25 : Value).ownBlock ∧ some k_ ≠ (.slice Ao26 x7_1.length co26 : Value).ownBlock ∧ some k_ ≠ (.slice Ao26 x7_1.length co26 : Value).ownBlock)) z88 hg hat); replace HO_5 := zA (Kd.R_after (ok := (fun k_ => some k_ ≠ (.slice (some ad231) t104.length co21 : Value).ownBlock ∧ some k_ ≠ (.slice Ao26 x7_1.length co26 : Value).ownBlock ∧ some k_ ≠ (.slice Ao26 x7_1.length co26 : Value).ownBlock)) (by (with_reducible repeat (first | apply Kd.R_alloc | apply Kd.R_drewN | apply Kd.R_drew)); exact Kd.R_mono HO_5.out (fun _ hk => by first | exact ⟨⟨hk.1, ⟨hk.2.2.1, hk.2.2.2⟩⟩, hk.2.1⟩ | simp only [hk, ne_eq, not_false_eq_true, and_self])) hg hat); replace HO_7 := zA (Kd.R_after (ok := (fun k_ => some k_ ≠ (.slice (some ad231) t104.length co21 : Value).ownBlock ∧ some k_ ≠ (.slice Ao25 x5_1.length co25 : Value).ownBlock)) (by (with_reducible repeat (first | apply Kd.R_alloc | apply Kd.R_drewN | apply Kd.R_drew)); exact Kd.R_mono HO_7.out (fun _ hk => by first | exact ⟨⟨hk.1, hk.2.1⟩, hk.2.2⟩ | simp only [hk, ne_eq, not_false_eq_true, and_self])) hg hat); replace HO_33 := zA (Kd.R_after (ok := (fun k_ => some k_ ≠ (.slice (some ad231) t104.length co21 : Value).ownBlock ∧ some k_ ≠ (.slice Ao25 x5_1.length co25 : Value).ownBlock)) (by (with_reducible repeat (first | apply Kd.R_alloc | apply Kd.R_drewN | apply Kd.R_drew)); exact Kd.R_mono HO_33.out (fun _ hk => by first | exact ⟨⟨hk.1, hk.2.1⟩, hk.2.2⟩ | simp only [hk, ne_eq, not_false_eq_true, and_self])) hg hat); replace BK110 := zA (blk_grown (g := gb110) (o := .cells #[.int .i64 a0_0, .int .i64 a0_1, .int .i64 a0_2, .int .i64 a0_3] 27 (0, 0)) z32 hg (Kd.R_ne HO_6.out BK110.out (by decide))); replace HB := zA (hb); have HO124 := zA (ho); clear HO_6; clear ho hb hg hat) | ((with_reducible refine gate_dst (N := 58) rfl ?_); refine Kd.R_lit (Kd.int .i64) _ 2 ?hg (N := 58) ?hd (xs := ([] : List Int)) (inner := []) (ok := fun _ => True) (okp := fun _ => True) ?hr ?hp (fun _ hk => hk) trivial (Below.refl _ _) (Nat.le_refl _) (by simp) ?_; (case hd => rfl); (case hg => rfl); (case hr => first | (go_simp; done) | (go_simp; rfl)); (case hp => exact (Reps.none _ _)); intro v125 w40 ho41 hb hg_ hnew_; clear hg_ hnew_; (first | rw [← Ny122.out] at ho41 | (simp only [Int.reduceToNat] at ho41; rw [← Ny122.out] at ho41)); have HO126 := zA (Kd.R_lower (Kd.R_new' (Kd.R_new' (Kd.R_new' (Kd.R_new' (Kd.R_new' ho41 (Kd.R_lt z29)) (Kd.R_lt z27)) (Kd.R_lt z16)) (Kd.R_lt z79)) (Kd.R_lt z136)) (below_size z13)); replace HO_4 := zA (Kd.R_elder' z29 (Kd.R_base ho41) hb); replace HO_5 := zA (Kd.R_elder' z27 (Kd.R_base ho41) hb); replace HO_7 := zA (Kd.R_elder' z16 (Kd.R_base ho41) hb); replace HO_33 := zA (Kd.R_elder' z79 (Kd.R_base ho41) hb); replace HO124 := zA (Kd.R_elder' z136 (Kd.R_base ho41) hb); replace BK110 := zBB BK110 hb; replace HB := zA (below_step z13 hb); clear hb ho41))
            go_loopg [11, 61] k2 (fun kq v11 v61 w' => ∃ (x7_3 : List Int) (x11_3 : List Int) (x61_3 : Int), v61 = .int .i64 x61_3 ∧ Aside0 (impl_GreedyTickets.l2 kq t104 y121 x7_3 x8_2 x11_3 x5_1 (x5_1.length : Int) x61_3 a0_0 a0_1 a0_2 a0_3 = some (r1, r2)) ∧ Aside0 (kq ≤ k2) ∧ Aside0 (Kd.R (Kd.int .i64) 2 w' w.heap.size (fun k_ => some k_ ≠ (v123 : Value).ownBlock ∧ some k_ ≠ ((.slice Ao26 x7_1.length co26) : Value).ownBlock ∧ some k_ ≠ (v11 : Value).ownBlock ∧ some k_ ≠ ((.slice Ao25 x5_1.length co25) : Value).ownBlock) (.slice (some ad231) t104.length co21) t104) ∧ Aside0 (Kd.R (Kd.int .i64) 2 w' w.heap.size (fun k_ => some k_ ≠ ((.slice (some ad231) t104.length co21) : Value).ownBlock ∧ some k_ ≠ ((.slice Ao26 x7_1.length co26) : Value).ownBlock ∧ some k_ ≠ (v11 : Value).ownBlock ∧ some k_ ≠ ((.slice Ao25 x5_1.length co25) : Value).ownBlock) v123 y121) ∧ Aside0 (Kd.R (Kd.int .i64) 2 w' w.heap.size (fun k_ => some k_ ≠ ((.slice (some ad231) t104.length co21) : Value).ownBlock ∧ some k_ ≠ (v123 : Value).ownBlock ∧ some k_ ≠ (v11 : Value).ownBlock ∧ some k_ ≠ ((.slice Ao25 x5_1.length co25) : Value).ownBlock) (.slice Ao26 x7_1.length co26) x7_3) ∧ Aside0 (Kd.R (Kd.int .i64) 2 w' w.heap.size (fun k_ => some k_ ≠ ((.slice (some ad231) t104.length co21) : Value).ownBlock ∧ some k_ ≠ (v123 : Value).ownBlock ∧ some k_ ≠ ((.slice Ao26 x7_1.length co26) : Value).ownBlock ∧ some k_ ≠ ((.slice Ao25 x5_1.length co25) : Value).ownBlock) v11 x11_3) ∧ Aside0 (Kd.R (Kd.int .i64) 2 w' w.heap.size (fun k_ => some k_ ≠ ((.slice (some ad231) t104.length co21) : Value).ownBlock ∧ some k_ ≠ (v123 : Value).ownBlock ∧ some k_ ≠ ((.slice Ao26 x7_1.length co26) : Value).ownBlock ∧ some k_ ≠ (v11 : Value).ownBlock) (.slice Ao25 x5_1.length co25) x5_1) ∧ Aside0 (w'.heap[gb110]? = some (.cells #[.int .i64 a0_0, .int .i64 a0_1, .int .i64 a0_2, .int .i64 a0_3] 27 (0, 0))) ∧ Aside0 (Below w.heap.size w w'))
            case atStart => exact ⟨(x7_1), (y122), (0), z11, H', ⟨Nat.le_refl _⟩, ⟨(by (with_reducible repeat (first | apply Kd.R_alloc | apply Kd.R_drewN | apply Kd.R_drew)); exact Kd.R_mono HO_4.out (fun _ hk => by first | exact ⟨hk.1.2, ⟨hk.1.1.2.1, ⟨hk.2, hk.1.1.1⟩⟩⟩ | simp only [hk, ne_eq, not_false_eq_true, and_self]))⟩, ⟨(by (with_reducible repeat (first | apply Kd.R_alloc | apply Kd.R_drewN | apply Kd.R_drew)); exact Kd.R_mono HO124.out (fun _ hk => by first | exact ⟨hk.1.1, ⟨hk.1.2.2.1, ⟨hk.2, hk.1.2.1⟩⟩⟩ | simp only [hk, ne_eq, not_false_eq_true, and_self]))⟩, ⟨(by (with_reducible repeat (first | apply Kd.R_alloc | apply Kd.R_drewN | apply Kd.R_drew)); exact Kd.R_mono HO_7.out (fun _ hk => by first | exact ⟨hk.1.1.1, ⟨hk.1.2, ⟨hk.2, hk.1.1.2⟩⟩⟩ | simp only [hk, ne_eq, not_false_eq_true, and_self]))⟩, ⟨(by (with_reducible repeat (first | apply Kd.R_alloc | apply Kd.R_drewN | apply Kd.R_drew)); exact Kd.R_mono HO126.out (fun _ hk => by first | exact ⟨hk.1.1.1.1.2, ⟨hk.2, ⟨hk.1.1.2, hk.1.1.1.2⟩⟩⟩ | simp only [hk, ne_eq, not_false_eq_true, and_self]))⟩, ⟨(by (with_reducible repeat (first | apply Kd.R_alloc | apply Kd.R_drewN | apply Kd.R_drew)); exact Kd.R_mono HO_5.out (fun _ hk => by first | exact ⟨hk.1.1.1, ⟨hk.1.2, ⟨hk.1.1.2.1, hk.2⟩⟩⟩ | simp only [hk, ne_eq, not_false_eq_true, and_self]))⟩, ⟨z32⟩, ⟨z13⟩⟩
            case round =>
             clear H'
             (try clear c1); (try clear c2); (try clear p2); (try clear q2); (try clear hx2); (try clear c3); (try clear c6); (try clear p6); (try clear c9); (try clear p22); (try clear q22); (try clear hx22); (try clear p23); (try clear q23); (try clear hx23); (try clear c24); (try clear c24b0); (try clear c24b1); (try clear c27); (try clear c27b0); (try clear c28); (try clear c28b0); (try clear c29); (try clear c29b0); (try clear c30); (try clear c30b0); (try clear c31); (try clear c31b0); (try clear c32); (try clear c32b0); (try clear c33); (try clear c33b0); (try clear c33b1); (try clear c35); (try clear c35b0); (try clear c36); (try clear c36b0); (try clear c37); (try clear hcz17_0); (try clear hcz17_1); (try clear hcz17_2); (try clear hcz17_3); (try clear hcz9_0); (try clear hcz9_1); (try clear hcz9_2); (try clear hcz9_3); (try clear hfz17_0); (try clear hfz17_1); (try clear hfz17_2); (try clear hfz17_3); (try clear hfz9_0); (try clear hfz9_1); (try clear hfz9_2); (try clear hfz9_3); (try clear hx229_0); (try clear hx230_0); (try clear hx231_0); (try clear p2); (try clear p229); (try clear p230); (try clear p231); (try clear q229); (try clear q230); (try clear q231)
             obtain ⟨x7_3, x11_3, x61_3, rfl, HA, HK3, HO_4, HO_6, HO_7, HO_11, HO_59, BK110, HB⟩ := hrel
             have hl7_3 := (Kd.R_reads' HO_7.out).1
             rw [hl7_3] at HO_7
             (try simp only [hl7_3])
             (try simp only [hl7_3] at BK110)
             (try simp only [hl7_3] at HO_4)
             (try simp only [hl7_3] at HO_6)
             (try simp only [hl7_3] at HO_11)
             (try simp only [hl7_3] at HO_59)
             cases gk with
             | zero => exact absurd HA.out (by simp [impl_GreedyTickets.l2])
             | succ k3 =>
              have H := HA.out
              clear HA
              simp only [impl_GreedyTickets.l2] at H
              by_cases c42 : x61_3 < (x5_1.length : Int)
              ·rw [if_pos c42] at H
               have c42b0 : decide (x61_3 < (x5_1.length : Int)) = true := decide_eq_true c42
               clear c42
               by_cases c43 : 0 ≤ x61_3
               ·rw [if_pos c43] at H
                have c43b0 : decide (0 ≤ x61_3) = true := decide_eq_true c43
                clear c43
                by_cases c44 : x61_3 < (x5_1.length : Int)
                ·rw [if_pos c44] at H
                 have c44b0 : decide (x61_3 < (x5_1.length : Int)) = true := decide_eq_true c44
                 clear c44
                 by_cases c45 : 0 ≤ x8_2
                 ·rw [if_pos c45] at H
                  have c45b0 : decide (0 ≤ x8_2) = true := decide_eq_true c45
                  clear c45
                  by_cases c46 : x8_2 < (t104.length : Int)
                  ·rw [if_pos c46] at H
                   have c46b0 : decide (x8_2 < (t104.length : Int)) = true := decide_eq_true c46
                   clear c46
                   replace H := zi H
                   obtain ⟨t101, A470, H⟩ := H
                   (try dsimp -simprocs only at H)
                   have A47 := zA A470
                   clear A470
                   by_cases c48 : t101 = true
                   ·subst c48
                    have H1 : (impl_GreedyTickets.l3 k3 t104 y121 x7_3 x8_2 x11_3 (rd x5_1 x61_3) x5_1 (x5_1.length : Int) x61_3 t104 (t104.length : Int) 0 a0_0 a0_1 a0_2 a0_3) = some (r1, r2) := by rw [if_pos rfl] at H; exact H
                    clear H
                    have H := H1
                    clear H1
                    have H' := zA H
                    clear H
                    have p238 : 0 ≤ (x61_3 : Int) := of_decide_eq_true z7
                    have q238 : x61_3 < (x5_1.length : Int) := of_decide_eq_true z7
                    obtain ⟨ad238, e238, hx238_0⟩ := Kd.at_int (Kd.R_reads' HO_59.out).2.2 x61_3 p238 q238
                    cases e238
                    replace p238 := eq_true p238
                    replace q238 := eq_true q238
                    try go_wp2
                    have n0_ := zA (Kd.R_drew HO_4.out)
                    have n1_ := zA (Kd.R_drew HO_6.out)
                    have n2_ := zA (Kd.R_drew HO_7.out)
                    have n3_ := zA (Kd.R_drew HO_11.out)
                    have n4_ := zA (Kd.R_drew HO_59.out)
                    have n5_ := zA (blk_drew BK110.out)
                    have n6_ := zA (below_drew1 HB.out)
                    clear HO_4 HO_6 HO_7 HO_11 HO_59 BK110 HB
                    have HO_4 := n0_
                    have HO_6 := n1_
                    have HO_7 := n2_
                    have HO_11 := n3_
                    have HO_59 := n4_
                    have BK110 := n5_
                    have HB := n6_
                    clear n0_ n1_ n2_ n3_ n4_ n5_ n6_
                    have p239 : 0 ≤ (x8_2 : Int) := of_decide_eq_true z7
                    have q239 : x8_2 < (t104.length : Int) := of_decide_eq_true z7
                    obtain ⟨ad239, e239, hx239_0⟩ := Kd.at_int (Kd.R_reads' HO_4.out).2.2 x8_2 p239 q239
                    obtain rfl : ad231 = ad239 := (by injection e239)
                    replace p239 := eq_true p239
                    replace q239 := eq_true q239
                    refine start_ (n := 8) (S := fun w' => w'.cell? ⟨gb110, 0, none⟩ = some (.int .i64 a0_0) ∧ w'.cell? ⟨gb110, 1, none⟩ = some (.int .i64 a0_1) ∧ w'.cell? ⟨gb110, 2, none⟩ = some (.int .i64 a0_2) ∧ w'.cell? ⟨gb110, 3, none⟩ = some (.int .i64 a0_3) ∧ w'.cell? (ad231.add (x8_2).toNat) = some (.int .i64 (rd t104 x8_2))) (ds := []) #[false, false, false, false, false, false, false, false] (by kernel_rfl) rfl rfl ⟨(blk_cell BK110.out 0).trans rfl, (blk_cell BK110.out 1).trans rfl, (blk_cell BK110.out 2).trans rfl, (blk_cell BK110.out 3).trans rfl, hx239_0⟩ (fun hHeld => ?_); refine with_tabW impl_GreedyTickets.tab20 impl_GreedyTickets.bits20 (fun HT_ HW_ => ?_)
                    generalize wr.drew = w49 at HO_4 HO_6 HO_7 HO_11 HO_59 BK110 HB hx239_0 hHeld ⊢
                    refine zpu 1 (some 66) #[false, true, false, false, false, false, false, false] ?_
                    refine zpu 2 (some 67) #[false, true, true, false, false, false, false, false] ?_
                    refine zpu 3 (some 68) #[false, true, true, true, false, false, false, false] ?_
                    refine zpu 5 (some 70) #[false, true, true, true, false, true, false, false] ?_
                    refine zt5 0 (some 65) #[true, true, true, true, false, true, false, false] ?_
                    refine zt5 4 (some 69) #[true, true, true, true, true, true, false, false] ?_
                    refine one_ (i := 6) (N := some 71) #[true, true, true, true, true, true, true, false] rfl rfl (one_of HT_.out (by kernel_rfl)) (by decide) (fun K hK => ?_)
                    refine goes_ Try.func66 (by kernel_rfl) rfl #[.agg #[.int .i64 a0_0, .int .i64 a0_1, .int .i64 a0_2, .int .i64 a0_3], .int .i64 (rd t104 x8_2), .int .i64 (rd x5_1 x61_3)] (by rfl) rfl rfl z3 ?_
                    with_reducible refine (impl_hits.calls a0_0 a0_1 a0_2 a0_3 (rd t104 x8_2) (rd x5_1 x61_3) true _ A47.out).mono ?_
                    rintro e w50 ⟨rfl, hb⟩
                    have HS4_ := (hb.cell (World.block_lt_of_cell? _ _ (hHeld.2.2.2.2))).trans (hHeld.2.2.2.2)
                    refine ⟨_, rfl, ?_⟩
                    have n0_ := zA (Kd.R_below z29 hb)
                    have n1_ := zA (Kd.R_below z34 hb)
                    have n2_ := zA (Kd.R_below z16 hb)
                    have n3_ := zA (Kd.R_below z80 hb)
                    have n4_ := zA (Kd.R_below z81 hb)
                    have n5_ := zBB BK110 hb
                    have n6_ := zA (below_step z13 hb)
                    clear HO_4 HO_6 HO_7 HO_11 HO_59 BK110 HB
                    have HO_4 := n0_
                    have HO_6 := n1_
                    have HO_7 := n2_
                    have HO_11 := n3_
                    have HO_59 := n4_
                    have BK110 := n5_
                    have HB := n6_
                    clear n0_ n1_ n2_ n3_ n4_ n5_ n6_
                    (try clear hb)
                    (try clear hb2)
                    (try clear hk)
                    (try clear hi)
                    refine hK.out _ _ ⟨(blk_cell BK110.out 0).trans rfl, (blk_cell BK110.out 1).trans rfl, (blk_cell BK110.out 2).trans rfl, (blk_cell BK110.out 3).trans rfl, HS4_⟩ (fun hHeld => ?_)
                    clear hK K
                    refine norm_ (a' := ?_) ?_ ?_
                    rotate_left
                    ·show Act.put _ (some 71) _ = _
                     simp only [Act.put, List.setIfInBounds_toArray, List.set_cons_zero, List.set_cons_succ, i64_w, i32_w]
                     rfl
                    refine zpu 7 (some 72) #[true, true, true, true, true, true, true, true] ?_
                    refine done_ (done_of HT_.out (by kernel_rfl)) ?_
                    try go_wp2
                    go_loopg [79] k3 (fun kq v79 w' => ∃ (x7_4 : List Int) (x79_4 : Int), v79 = .int .i64 x79_4 ∧ Aside0 (impl_GreedyTickets.l3 kq t104 y121 x7_4 x8_2 x11_3 (rd x5_1 x61_3) x5_1 (x5_1.length : Int) x61_3 t104 (t104.length : Int) x79_4 a0_0 a0_1 a0_2 a0_3 = some (r1, r2)) ∧ Aside0 (kq ≤ k3) ∧ Aside0 (Kd.R (Kd.int .i64) 2 w' w.heap.size (fun k_ => some k_ ≠ (v123 : Value).ownBlock ∧ some k_ ≠ ((.slice Ao26 x7_3.length co26) : Value).ownBlock ∧ some k_ ≠ (u11 : Value).ownBlock ∧ some k_ ≠ ((.slice (some ad238) x5_1.length co25) : Value).ownBlock) (.slice (some ad231) t104.length co21) t104) ∧ Aside0 (Kd.R (Kd.int .i64) 2 w' w.heap.size (fun k_ => some k_ ≠ ((.slice (some ad231) t104.length co21) : Value).ownBlock ∧ some k_ ≠ ((.slice Ao26 x7_3.length co26) : Value).ownBlock ∧ some k_ ≠ (u11 : Value).ownBlock ∧ some k_ ≠ ((.slice (some ad238) x5_1.length co25) : Value).ownBlock ∧ some k_ ≠ ((.slice (some ad231) t104.length co21) : Value).ownBlock) v123 y121) ∧ Aside0 (Kd.R (Kd.int .i64) 2 w' w.heap.size (fun k_ => some k_ ≠ ((.slice (some ad231) t104.length co21) : Value).ownBlock ∧ some k_ ≠ (v123 : Value).ownBlock ∧ some k_ ≠ (u11 : Value).ownBlock ∧ some k_ ≠ ((.slice (some ad238) x5_1.length co25) : Value).ownBlock ∧ some k_ ≠ ((.slice (some ad231) t104.length co21) : Value).ownBlock) (.slice Ao26 x7_3.length co26) x7_4) ∧ Aside0 (Kd.R (Kd.int .i64) 2 w' w.heap.size (fun k_ => some k_ ≠ ((.slice (some ad231) t104.length co21) : Value).ownBlock ∧ some k_ ≠ (v123 : Value).ownBlock ∧ some k_ ≠ ((.slice Ao26 x7_3.length co26) : Value).ownBlock ∧ some k_ ≠ ((.slice (some ad238) x5_1.length co25) : Value).ownBlock ∧ some k_ ≠ ((.slice (some ad231) t104.length co21) : Value).ownBlock) u11 x11_3) ∧ Aside0 (Kd.R (Kd.int .i64) 2 w' w.heap.size (fun k_ => some k_ ≠ ((.slice (some ad231) t104.length co21) : Value).ownBlock ∧ some k_ ≠ (v123 : Value).ownBlock ∧ some k_ ≠ ((.slice Ao26 x7_3.length co26) : Value).ownBlock ∧ some k_ ≠ (u11 : Value).ownBlock ∧ some k_ ≠ ((.slice (some ad231) t104.length co21) : Value).ownBlock) (.slice (some ad238) x5_1.length co25) x5_1) ∧ Aside0 (Kd.R (Kd.int .i64) 2 w' w.heap.size (fun k_ => some k_ ≠ (v123 : Value).ownBlock ∧ some k_ ≠ ((.slice Ao26 x7_3.length co26) : Value).ownBlock ∧ some k_ ≠ (u11 : Value).ownBlock ∧ some k_ ≠ ((.slice (some ad238) x5_1.length co25) : Value).ownBlock) (.slice (some ad231) t104.length co21) t104) ∧ Aside0 (w'.heap[gb110]? = some (.cells #[.int .i64 a0_0, .int .i64 a0_1, .int .i64 a0_2, .int .i64 a0_3] 27 (0, 0))) ∧ Aside0 (Below w.heap.size w w'))
                    case atStart => exact ⟨(x7_3), (0), z11, H', ⟨Nat.le_refl _⟩, ⟨z126⟩, ⟨(by (try simp only [hl7_3]); (with_reducible repeat (first | apply Kd.R_alloc | apply Kd.R_drewN | apply Kd.R_drew)); exact Kd.R_mono HO_6.out (fun _ hk => by first | exact ⟨hk.1, ⟨hk.2.1, ⟨hk.2.2.1, ⟨hk.2.2.2, hk.1⟩⟩⟩⟩ | simp only [hk, ne_eq, not_false_eq_true, and_self]))⟩, ⟨(by (try simp only [hl7_3]); (with_reducible repeat (first | apply Kd.R_alloc | apply Kd.R_drewN | apply Kd.R_drew)); exact Kd.R_mono HO_7.out (fun _ hk => by first | exact ⟨hk.1, ⟨hk.2.1, ⟨hk.2.2.1, ⟨hk.2.2.2, hk.1⟩⟩⟩⟩ | simp only [hk, ne_eq, not_false_eq_true, and_self]))⟩, ⟨(by (try simp only [hl7_3]); (with_reducible repeat (first | apply Kd.R_alloc | apply Kd.R_drewN | apply Kd.R_drew)); exact Kd.R_mono HO_11.out (fun _ hk => by first | exact ⟨hk.1, ⟨hk.2.1, ⟨hk.2.2.1, ⟨hk.2.2.2, hk.1⟩⟩⟩⟩ | simp only [hk, ne_eq, not_false_eq_true, and_self]))⟩, ⟨(by (try simp only [hl7_3]); (with_reducible repeat (first | apply Kd.R_alloc | apply Kd.R_drewN | apply Kd.R_drew)); exact Kd.R_mono HO_59.out (fun _ hk => by first | exact ⟨hk.1, ⟨hk.2.1, ⟨hk.2.2.1, ⟨hk.2.2.2, hk.1⟩⟩⟩⟩ | simp only [hk, ne_eq, not_false_eq_true, and_self]))⟩, ⟨z126⟩, ⟨z95⟩, ⟨z13⟩⟩
                    case round =>
                     clear H'
                     (try clear c1); (try clear c2); (try clear p2); (try clear q2); (try clear hx2); (try clear c3); (try clear c4); (try clear c6); (try clear p6); (try clear c9); (try clear p22); (try clear q22); (try clear hx22); (try clear p23); (try clear q23); (try clear hx23); (try clear c24); (try clear c24b0); (try clear c24b1); (try clear c27); (try clear c27b0); (try clear c28); (try clear c28b0); (try clear c29); (try clear c29b0); (try clear c30); (try clear c30b0); (try clear c31); (try clear c31b0); (try clear c32); (try clear c32b0); (try clear c33); (try clear c33b0); (try clear c33b1); (try clear c35); (try clear c35b0); (try clear c36); (try clear c36b0); (try clear c37); (try clear c42); (try clear c42b0); (try clear c43); (try clear c43b0); (try clear c44); (try clear c44b0); (try clear c45); (try clear c45b0); (try clear c46); (try clear c46b0); (try clear c48); (try clear hcz17_0); (try clear hcz17_1); (try clear hcz17_2); (try clear hcz17_3); (try clear hcz9_0); (try clear hcz9_1); (try clear hcz9_2); (try clear hcz9_3); (try clear hfz17_0); (try clear hfz17_1); (try clear hfz17_2); (try clear hfz17_3); (try clear hfz9_0); (try clear hfz9_1); (try clear hfz9_2); (try clear hfz9_3); (try clear hx229_0); (try clear hx230_0); (try clear hx231_0); (try clear hx238_0); (try clear hx239_0); (try clear p2); (try clear p22); (try clear p229); (try clear p23); (try clear p230); (try clear p231); (try clear p238); (try clear p239); (try clear p6); (try clear q2); (try clear q22); (try clear q229); (try clear q23); (try clear q230); (try clear q231); (try clear q238); (try clear q239)
                     obtain ⟨x7_4, x79_4, rfl, HA, HK4, HO_4, HO_6, HO_7, HO_11, HO_59, HO_77, BK110, HB⟩ := hrel
                     have hl7_4 := (Kd.R_reads' HO_7.out).1
                     rw [hl7_4] at HO_7
                     (try simp only [hl7_4])
                     (try simp only [hl7_4] at BK110)
                     (try simp only [hl7_4] at HO_4)
                     (try simp only [hl7_4] at HO_6)
                     (try simp only [hl7_4] at HO_11)
                     (try simp only [hl7_4] at HO_59)
                     (try simp only [hl7_4] at HO_77)
                     cases gk with
                     | zero => exact absurd HA.out (by simp [impl_GreedyTickets.l3])
                     | succ k4 =>
                      have H := HA.out
                      clear HA
                      simp only [impl_GreedyTickets.l3] at H
                      by_cases c51 : x79_4 < (t104.length : Int)
                      ·rw [if_pos c51] at H
                       have c51b0 : decide (x79_4 < (t104.length : Int)) = true := decide_eq_true c51
                       clear c51
                       by_cases c52 : 0 ≤ x79_4
                       ·rw [if_pos c52] at H
                        have c52b0 : decide (0 ≤ x79_4) = true := decide_eq_true c52
                        clear c52
                        by_cases c53 : x79_4 < (t104.length : Int)
                        ·rw [if_pos c53] at H
                         have c53b0 : decide (x79_4 < (t104.length : Int)) = true := decide_eq_true c53
                         clear c53
                         replace H := zi H
                         obtain ⟨t102, A540, H⟩ := H
                         (try dsimp -simprocs only at H)
                         have A54 := zA A540
                         clear A540
                         by_cases c55 : t102 = true
                         ·subst c55
                          have H1 : (if x79_4 < (x7_4.length : Int) then (impl_GreedyTickets.l3 k4 t104 y121 (x7_4.set (x79_4 : Int).toNat (wrap64 ((rd x7_4 x79_4) - 1))) x8_2 x11_3 (rd x5_1 x61_3) x5_1 (x5_1.length : Int) x61_3 t104 (t104.length : Int) (wrap64 (x79_4 + 1)) a0_0 a0_1 a0_2 a0_3) else (none)) = some (r1, r2) := by rw [if_pos rfl] at H; exact H
                          clear H
                          have H := H1
                          clear H1
                          by_cases c56 : x79_4 < (x7_4.length : Int)
                          ·rw [if_pos c56] at H
                           have c56b0 : decide (x79_4 < (x7_4.length : Int)) = true := decide_eq_true c56
                           clear c56
                           obtain ⟨y127, hy127⟩ : ∃ y_ : List Int, y_ = (x7_4.set (x79_4 : Int).toNat (wrap64 ((rd x7_4 x79_4) - 1))) := ⟨_, rfl⟩
                           replace H : (impl_GreedyTickets.l3 k4 t104 y121 y127 x8_2 x11_3 (rd x5_1 x61_3) x5_1 (x5_1.length : Int) x61_3 t104 (t104.length : Int) (wrap64 (x79_4 + 1)) a0_0 a0_1 a0_2 a0_3) = some (r1, r2) := by first | (rw [hy127]; with_reducible exact H) | (have H2_ := (Option.bind_some _ _).symm.trans H; rw [hy127]; with_reducible exact H2_) | (have H2_ := (Option.bind_some _ _).symm.trans H; with_reducible exact H2_) | with_reducible exact H | (rw [hy127]; exact H) | exact H
                           have Ny127 := zA hy127
                           clear hy127
                           have H' := zA H
                           clear H
                           have p244 : 0 ≤ (x79_4 : Int) := of_decide_eq_true z7
                           have q244 : x79_4 < (t104.length : Int) := of_decide_eq_true z7
                           obtain ⟨ad244, e244, hx244_0⟩ := Kd.at_int (Kd.R_reads' HO_77.out).2.2 x79_4 p244 q244
                           obtain rfl : ad231 = ad244 := (by injection e244)
                           replace p244 := eq_true p244
                           replace q244 := eq_true q244
                           obtain ⟨hcz58_0, hcz58_1, hcz58_2, hcz58_3, hfz58_0, hfz58_1, hfz58_2, hfz58_3⟩ := zC4 BK110.out
                           go_wp2_with (first | ((with_reducible refine gate_callee (f := 66) rfl ?_); refine goesL_ (some 87) rfl rfl Try.func66 (by kernel_rfl) rfl #[.agg #[.int .i64 a0_0, .int .i64 a0_1, .int .i64 a0_2, .int .i64 a0_3], .int .i64 (rd t104 x79_4), .int .i64 (rd x5_1 x61_3)] rfl z3 ?_; (with_reducible refine (impl_hits.calls a0_0 a0_1 a0_2 a0_3 (rd t104 x79_4) (rd x5_1 x61_3) true _ A54.out).mono ?_); rintro e w59 ⟨rfl, hb⟩; refine ⟨_, rfl, ?_⟩; replace HO_4 := zA (Kd.R_below z29 hb); replace HO_6 := zA (Kd.R_below z34 hb); replace HO_7 := zA (Kd.R_below z16 hb); replace HO_11 := zA (Kd.R_below z80 hb); replace HO_59 := zA (Kd.R_below z81 hb); replace HO_77 := zA (Kd.R_below z137 hb); replace BK110 := zBB BK110 hb; replace HB := zA (below_step z13 hb); (try clear hb); (try clear hb2); (try clear hk); (try clear hi); have p246 : 0 ≤ (x79_4 : Int) := of_decide_eq_true z7; have q246 : x79_4 < (x7_4.length : Int) := of_decide_eq_true z7; obtain ⟨ad246, e246, hx246_0⟩ := Kd.at_int (Kd.R_reads' HO_7.out).2.2 x79_4 p246 q246; cases e246; replace p246 := eq_true p246; replace q246 := eq_true q246; have p57 : 0 ≤ (x79_4 : Int) := of_decide_eq_true z7; have q57 : (x79_4 : Int) < ((x7_4.length : Int) : Int) := of_decide_eq_true z7; obtain ⟨go57, co57, eo57, gb57, gl57, cl57, HG57⟩ := Kd.R_form HO_7.out (by omega); (first | cases eo57 | (injection eo57 with ea_ en_ ec_; (first | subst ea_ | (injection ea_ with ea_; subst ea_)); subst ec_; clear en_)); have GB57 := zA gb57; have GG57 := zA HG57; clear gb57 gl57 HG57; (first | simp only [add_plain] at hx246_0 | skip); obtain ⟨hx57_0, hf57_0⟩ := Kd.R_celln 0 HO_7.out (x79_4 : Int) p57 q57; replace p57 := eq_true p57; replace q57 := eq_true q57; obtain ⟨hy60_, hz60_⟩ := Kd.R_celln 0 HO_7.out (x79_4 : Int) (of_decide_eq_true z7) (of_decide_eq_true z7); have HP60 := Kd.R_putg HO_7.out (x79_4 : Int) (wrap64 ((rd x7_4 x79_4) - 1))) | ((with_reducible refine gate_store (t := 2) (p := 93) rfl ?_); refine store_event (t := 2) (p := 93) (v := ?vo_w61) (w1 := (w59.setCell ⟨go57, (x79_4 : Int).toNat, none⟩ (.int .i64 (wrap64 ((rd x7_4 x79_4) - 1))))) ?hg ?ho ?hn ?hr ?_; (case ho => rfl); (case hg => rfl); (case hn => rfl); (case hr => first | (go_simp; done) | (go_simp; rfl)); intro w61 hw; have hg : w59.grownBy w61 (some go57) := (by rw [hw]; exact HP60.2); have hp_ : Kd.R (Kd.int .i64) 2 w61 w.heap.size (fun k_ => some k_ ≠ (.slice (some ad231) t104.length co21 : Value).ownBlock ∧ some k_ ≠ (v123 : Value).ownBlock ∧ some k_ ≠ (u11 : Value).ownBlock ∧ some k_ ≠ (.slice (some ad238) x5_1.length co25 : Value).ownBlock ∧ some k_ ≠ (.slice (some ad231) t104.length co21 : Value).ownBlock) (.slice (some ⟨go57, 0, none⟩) x7_4.length co26) y127 := (by rw [hw, Ny127.out]; exact HP60.1); clear HP60; replace HO_4 := zA (Kd.R_after (v := (.slice (some ⟨go57, 0, none⟩) x7_4.length co26)) (v1 := (.slice (some ⟨go57, 0, none⟩) x7_4.length co26)) (ok := (fun k_ => some k_ ≠ (v123 : Value).ownBlock ∧ some k_ ≠ (u11 : Value).ownBlock ∧ some k_ ≠ (.slice (some ad238) x5_1.length co25 : Value).ownBlock)) z88 hg (.inl rfl)); replace HO_6 := zA (Kd.R_after (v := (.slice (some ⟨go57, 0, none⟩) x7_4.length co26)) (v1 := (.slice (some ⟨go57, 0, none⟩) x7_4.length co26)) (ok := (fun k_ => some k_ ≠ (.slice (some ad231) t104.length co21 : Value).ownBlock ∧ some k_ ≠ (u11 : Value).ownBlock ∧ some k_ ≠ (.slice (some ad238) x5_1.length co25 : Value).ownBlock ∧ some k_ ≠ (.slice (some ad231) t104.length co21 : Value).ownBlock)) (by (with_reducible repeat (first | apply Kd.R_alloc | apply Kd.R_drewN | apply Kd.R_drew)); exact Kd.R_mono HO_6.out (fun _ hk => by first | exact ⟨⟨hk.1, ⟨hk.2.2.1, ⟨hk.2.2.2.1, hk.2.2.2.2⟩⟩⟩, hk.2.1⟩ | simp only [hk, ne_eq, not_false_eq_true, and_self])) hg (.inl rfl)); replace HO_11 := zA (Kd.R_after (v := (.slice (some ⟨go57, 0, none⟩) x7_4.length co26)) (v1 := (.slice (some ⟨go57, 0, none⟩) x7_4.length co26)) (ok := (fun k_ => some k_ ≠ (.slice (some ad231) t104.length co21 : Value).ownBlock ∧ some k_ ≠ (v123 : Value).ownBlock ∧ some k_ ≠ (.slice (some ad238) x5_1.length co25 : Value).ownBlock ∧ some k_ ≠ (.slice (some ad231) t104.length co21 : Value).ownBlock)) (by (with_reducible repeat (first | apply Kd.R_alloc | apply Kd.R_drewN | apply Kd.R_drew)); exact Kd.R_mono HO_11.out (fun _ hk => by first | exact ⟨⟨hk.1, ⟨hk.2.1, ⟨hk.2.2.2.1, hk.2.2.2.2⟩⟩⟩, hk.2.2.1⟩ | simp only [hk, ne_eq, not_false_eq_true, and_self])) hg (.inl rfl)); replace HO_59 := zA (Kd.R_after (v := (.slice (some ⟨go57, 0, none⟩) x7_4.length co26)) (v1 := (.slice (some ⟨go57, 0, none⟩) x7_4.length co26)) (ok := (fun k_ => some k_ ≠ (.slice (some ad231) t104.length co21 : Value).ownBlock ∧ some k_ ≠ (v123 : Value).ownBlock ∧ some k_ ≠ (u11 : Value).ownBlock ∧ some k_ ≠ (.slice (some ad231) t104.length co21 : Value).ownBlock)) (by (with_reducible repeat (first | apply Kd.R_alloc | apply Kd.R_drewN | apply Kd.R_drew)); exact Kd.R_mono HO_59.out (fun _ hk => by first | exact ⟨⟨hk.1, ⟨hk.2.1, ⟨hk.2.2.2.1, hk.2.2.2.2⟩⟩⟩, hk.2.2.1⟩ | simp only [hk, ne_eq, not_false_eq_true, and_self])) hg (.inl rfl)); replace HO_77 := zA (Kd.R_after (v := (.slice (some ⟨go57, 0, none⟩) x7_4.length co26)) (v1 := (.slice (some ⟨go57, 0, none⟩) x7_4.length co26)) (ok := (fun k_ => some k_ ≠ (v123 : Value).ownBlock ∧ some k_ ≠ (u11 : Value).ownBlock ∧ some k_ ≠ (.slice (some ad238) x5_1.length co25 : Value).ownBlock)) (by (with_reducible repeat (first | apply Kd.R_alloc | apply Kd.R_drewN | apply Kd.R_drew)); exact Kd.R_mono HO_77.out (fun _ hk => by first | exact ⟨⟨hk.1, ⟨hk.2.2.1, hk.2.2.2⟩⟩, hk.2.1⟩ | simp only [hk, ne_eq, not_false_eq_true, and_self])) hg (.inl rfl)); replace BK110 := zA (blk_grown (g := gb110) (o := .cells #[.int .i64 a0_0, .int .i64 a0_1, .int .i64 a0_2, .int .i64 a0_3] 27 (0, 0)) z32 hg (Kd.R_ne HO_7.out BK110.out (by decide))); replace HO_7 := zA (hp_); replace HB := zA (((by rw [hw]; exact below_set (HB.out) GB57.out) : Below w.heap.size w w61)); clear hg hw hp_))
                           (try simp only [← hl7_4])
                           go_roundg k4
                           case measure => have := HK1.out; have := HK2.out; have := HK3.out; have := HK4.out; omega
                           case rel => exact ⟨(y127), (wrap64 (x79_4 + 1)), z11, H', ⟨z130⟩, ⟨(by (try simp only [hl7_3]); (try simp only [hl7_4]); (with_reducible repeat (first | apply Kd.R_alloc | apply Kd.R_drewN | apply Kd.R_drew)); exact Kd.R_mono HO_4.out (fun _ hk => by first | exact ⟨hk.1.1, ⟨hk.2, ⟨hk.1.2.1, hk.1.2.2⟩⟩⟩ | simp only [hk, ne_eq, not_false_eq_true, and_self]))⟩, ⟨(by (try simp only [hl7_3]); (try simp only [hl7_4]); (with_reducible repeat (first | apply Kd.R_alloc | apply Kd.R_drewN | apply Kd.R_drew)); exact Kd.R_mono HO_6.out (fun _ hk => by first | exact ⟨hk.1.1, ⟨hk.2, ⟨hk.1.2.1, ⟨hk.1.2.2.1, hk.1.2.2.2⟩⟩⟩⟩ | simp only [hk, ne_eq, not_false_eq_true, and_self]))⟩, ⟨z122⟩, ⟨(by (try simp only [hl7_3]); (try simp only [hl7_4]); (with_reducible repeat (first | apply Kd.R_alloc | apply Kd.R_drewN | apply Kd.R_drew)); exact Kd.R_mono HO_11.out (fun _ hk => by first | exact ⟨hk.1.1, ⟨hk.1.2.1, ⟨hk.2, ⟨hk.1.2.2.1, hk.1.2.2.2⟩⟩⟩⟩ | simp only [hk, ne_eq, not_false_eq_true, and_self]))⟩, ⟨(by (try simp only [hl7_3]); (try simp only [hl7_4]); (with_reducible repeat (first | apply Kd.R_alloc | apply Kd.R_drewN | apply Kd.R_drew)); exact Kd.R_mono HO_59.out (fun _ hk => by first | exact ⟨hk.1.1, ⟨hk.1.2.1, ⟨hk.2, ⟨hk.1.2.2.1, hk.1.2.2.2⟩⟩⟩⟩ | simp only [hk, ne_eq, not_false_eq_true, and_self]))⟩, ⟨(by (try simp only [hl7_3]); (try simp only [hl7_4]); (with_reducible repeat (first | apply Kd.R_alloc | apply Kd.R_drewN | apply Kd.R_drew)); exact Kd.R_mono HO_77.out (fun _ hk => by first | exact ⟨hk.1.1, ⟨hk.2, ⟨hk.1.2.1, hk.1.2.2⟩⟩⟩ | simp only [hk, ne_eq, not_false_eq_true, and_self]))⟩, ⟨z86⟩, ⟨z13⟩⟩
                          ·rw [if_neg c56] at H
                           exact absurd H (by simp)
                         ·replace c55 := Bool.eq_false_iff.mpr c55
                          subst c55
                          have H1 : (impl_GreedyTickets.l3 k4 t104 y121 x7_4 x8_2 x11_3 (rd x5_1 x61_3) x5_1 (x5_1.length : Int) x61_3 t104 (t104.length : Int) (wrap64 (x79_4 + 1)) a0_0 a0_1 a0_2 a0_3) = some (r1, r2) := by rw [if_neg (show ¬ (false = true) by decide)] at H; exact H
                          clear H
                          have H := H1
                          clear H1
                          have H' := zA H
                          clear H
                          have p244 : 0 ≤ (x79_4 : Int) := of_decide_eq_true z7
                          have q244 : x79_4 < (t104.length : Int) := of_decide_eq_true z7
                          obtain ⟨ad244, e244, hx244_0⟩ := Kd.at_int (Kd.R_reads' HO_77.out).2.2 x79_4 p244 q244
                          obtain rfl : ad231 = ad244 := (by injection e244)
                          replace p244 := eq_true p244
                          replace q244 := eq_true q244
                          obtain ⟨hcz62_0, hcz62_1, hcz62_2, hcz62_3, hfz62_0, hfz62_1, hfz62_2, hfz62_3⟩ := zC4 BK110.out
                          go_wp2_with (first | ((with_reducible refine gate_callee (f := 66) rfl ?_); refine goesL_ (some 87) rfl rfl Try.func66 (by kernel_rfl) rfl #[.agg #[.int .i64 a0_0, .int .i64 a0_1, .int .i64 a0_2, .int .i64 a0_3], .int .i64 (rd t104 x79_4), .int .i64 (rd x5_1 x61_3)] rfl z3 ?_; (with_reducible refine (impl_hits.calls a0_0 a0_1 a0_2 a0_3 (rd t104 x79_4) (rd x5_1 x61_3) false _ A54.out).mono ?_); rintro e w63 ⟨rfl, hb⟩; refine ⟨_, rfl, ?_⟩; replace HO_4 := zA (Kd.R_below z29 hb); replace HO_6 := zA (Kd.R_below z34 hb); replace HO_7 := zA (Kd.R_below z16 hb); replace HO_11 := zA (Kd.R_below z80 hb); replace HO_59 := zA (Kd.R_below z81 hb); replace HO_77 := zA (Kd.R_below z137 hb); replace BK110 := zBB BK110 hb; replace HB := zA (below_step z13 hb); (try clear hb); (try clear hb2); (try clear hk); (try clear hi)))
                          (try simp only [← hl7_4])
                          go_roundg k4
                          case measure => have := HK1.out; have := HK2.out; have := HK3.out; have := HK4.out; omega
                          case rel => exact ⟨(x7_4), (wrap64 (x79_4 + 1)), z11, H', ⟨z130⟩, ⟨z123⟩, ⟨(by (try simp only [hl7_3]); (try simp only [hl7_4]); (with_reducible repeat (first | apply Kd.R_alloc | apply Kd.R_drewN | apply Kd.R_drew)); exact HO_6.out)⟩, ⟨z122⟩, ⟨(by (try simp only [hl7_3]); (try simp only [hl7_4]); (with_reducible repeat (first | apply Kd.R_alloc | apply Kd.R_drewN | apply Kd.R_drew)); exact HO_11.out)⟩, ⟨(by (try simp only [hl7_3]); (try simp only [hl7_4]); (with_reducible repeat (first | apply Kd.R_alloc | apply Kd.R_drewN | apply Kd.R_drew)); exact HO_59.out)⟩, ⟨(by (try simp only [hl7_3]); (try simp only [hl7_4]); (with_reducible repeat (first | apply Kd.R_alloc | apply Kd.R_drewN | apply Kd.R_drew)); exact HO_77.out)⟩, ⟨z86⟩, ⟨z13⟩⟩
                        ·rw [if_neg c53] at H
                         exact absurd H (by simp)
                       ·rw [if_neg c52] at H
                        exact absurd H (by simp)
                      ·rw [if_neg c51] at H
                       have c51b0 : decide (x79_4 < (t104.length : Int)) = false := decide_eq_false c51
                       clear c51
                       have H' := zA H
                       clear H
                       go_wp2
                       (try simp only [← hl7_3, ← hl7_4])
                       go_roundg k4
                       case measure => have := HK1.out; have := HK2.out; have := HK3.out; have := HK4.out; omega
                       case rel => exact ⟨(x7_4), (x11_3), (wrap64 (x61_3 + 1)), z11, H', ⟨z130⟩, ⟨z123⟩, ⟨(by (try simp only [hl7_3]); (try simp only [hl7_4]); (with_reducible repeat (first | apply Kd.R_alloc | apply Kd.R_drewN | apply Kd.R_drew)); exact Kd.R_mono HO_6.out (fun _ hk => by first | exact ⟨hk.1, ⟨hk.2.1, ⟨hk.2.2.1, hk.2.2.2.1⟩⟩⟩ | simp only [hk, ne_eq, not_false_eq_true, and_self]))⟩, ⟨(by (try simp only [hl7_3]); (try simp only [hl7_4]); (with_reducible repeat (first | apply Kd.R_alloc | apply Kd.R_drewN | apply Kd.R_drew)); exact Kd.R_mono HO_7.out (fun _ hk => by first | exact ⟨hk.1, ⟨hk.2.1, ⟨hk.2.2.1, hk.2.2.2.1⟩⟩⟩ | simp only [hk, ne_eq, not_false_eq_true, and_self]))⟩, ⟨(by (try simp only [hl7_3]); (try simp only [hl7_4]); (with_reducible repeat (first | apply Kd.R_alloc | apply Kd.R_drewN | apply Kd.R_drew)); exact Kd.R_mono HO_11.out (fun _ hk => by first | exact ⟨hk.1, ⟨hk.2.1, ⟨hk.2.2.1, hk.2.2.2.1⟩⟩⟩ | simp only [hk, ne_eq, not_false_eq_true, and_self]))⟩, ⟨(by (try simp only [hl7_3]); (try simp only [hl7_4]); (with_reducible repeat (first | apply Kd.R_alloc | apply Kd.R_drewN | apply Kd.R_drew)); exact Kd.R_mono HO_59.out (fun _ hk => by first | exact ⟨hk.1, ⟨hk.2.1, ⟨hk.2.2.1, hk.2.2.2.1⟩⟩⟩ | simp only [hk, ne_eq, not_false_eq_true, and_self]))⟩, ⟨z86⟩, ⟨z13⟩⟩
                   ·replace c48 := Bool.eq_false_iff.mpr c48
                    subst c48
                    have H1 : (if x11_3.length < 17592186044416 then (impl_GreedyTickets.l2 k3 t104 y121 x7_3 x8_2 (x11_3 ++ [rd x5_1 x61_3]) x5_1 (x5_1.length : Int) (wrap64 (x61_3 + 1)) a0_0 a0_1 a0_2 a0_3) else (none)) = some (r1, r2) := by rw [if_neg (show ¬ (false = true) by decide)] at H; exact H
                    clear H
                    have H := H1
                    clear H1
                    by_cases c64 : x11_3.length < 17592186044416
                    ·rw [if_pos c64] at H
                     have LMc64 := zA c64
                     clear c64
                     obtain ⟨y128, hy128⟩ : ∃ y_ : List Int, y_ = (x11_3 ++ [rd x5_1 x61_3]) := ⟨_, rfl⟩
                     replace H : (impl_GreedyTickets.l2 k3 t104 y121 x7_3 x8_2 y128 x5_1 (x5_1.length : Int) (wrap64 (x61_3 + 1)) a0_0 a0_1 a0_2 a0_3) = some (r1, r2) := by first | (rw [hy128]; with_reducible exact H) | (have H2_ := (Option.bind_some _ _).symm.trans H; rw [hy128]; with_reducible exact H2_) | (have H2_ := (Option.bind_some _ _).symm.trans H; with_reducible exact H2_) | with_reducible exact H | (rw [hy128]; exact H) | exact H
                     have Ny128 := zA hy128
                     clear hy128
                     have H' := zA H
                     clear H
                     have p238 : 0 ≤ (x61_3 : Int) := of_decide_eq_true z7
                     have q238 : x61_3 < (x5_1.length : Int) := of_decide_eq_true z7
                     obtain ⟨ad238, e238, hx238_0⟩ := Kd.at_int (Kd.R_reads' HO_59.out).2.2 x61_3 p238 q238
                     cases e238
                     replace p238 := eq_true p238
                     replace q238 := eq_true q238
                     try go_wp2
                     have n0_ := zA (Kd.R_drew HO_4.out)
                     have n1_ := zA (Kd.R_drew HO_6.out)
                     have n2_ := zA (Kd.R_drew HO_7.out)
                     have n3_ := zA (Kd.R_drew HO_11.out)
                     have n4_ := zA (Kd.R_drew HO_59.out)
                     have n5_ := zA (blk_drew BK110.out)
                     have n6_ := zA (below_drew1 HB.out)
                     clear HO_4 HO_6 HO_7 HO_11 HO_59 BK110 HB
                     have HO_4 := n0_
                     have HO_6 := n1_
                     have HO_7 := n2_
                     have HO_11 := n3_
                     have HO_59 := n4_
                     have BK110 := n5_
                     have HB := n6_
                     clear n0_ n1_ n2_ n3_ n4_ n5_ n6_
                     have p239 : 0 ≤ (x8_2 : Int) := of_decide_eq_true z7
                     have q239 : x8_2 < (t104.length : Int) := of_decide_eq_true z7
                     obtain ⟨ad239, e239, hx239_0⟩ := Kd.at_int (Kd.R_reads' HO_4.out).2.2 x8_2 p239 q239
                     obtain rfl : ad231 = ad239 := (by injection e239)
                     replace p239 := eq_true p239
                     replace q239 := eq_true q239
                     refine start_ (n := 8) (S := fun w' => w'.cell? ⟨gb110, 0, none⟩ = some (.int .i64 a0_0) ∧ w'.cell? ⟨gb110, 1, none⟩ = some (.int .i64 a0_1) ∧ w'.cell? ⟨gb110, 2, none⟩ = some (.int .i64 a0_2) ∧ w'.cell? ⟨gb110, 3, none⟩ = some (.int .i64 a0_3) ∧ w'.cell? (ad231.add (x8_2).toNat) = some (.int .i64 (rd t104 x8_2))) (ds := []) #[false, false, false, false, false, false, false, false] (by kernel_rfl) rfl rfl ⟨(blk_cell BK110.out 0).trans rfl, (blk_cell BK110.out 1).trans rfl, (blk_cell BK110.out 2).trans rfl, (blk_cell BK110.out 3).trans rfl, hx239_0⟩ (fun hHeld => ?_); refine with_tabW impl_GreedyTickets.tab20 impl_GreedyTickets.bits20 (fun HT_ HW_ => ?_)
                     generalize wr.drew = w65 at HO_4 HO_6 HO_7 HO_11 HO_59 BK110 HB hx239_0 hHeld ⊢
                     refine zpu 1 (some 66) #[false, true, false, false, false, false, false, false] ?_
                     refine zpu 2 (some 67) #[false, true, true, false, false, false, false, false] ?_
                     refine zpu 3 (some 68) #[false, true, true, true, false, false, false, false] ?_
                     refine zpu 5 (some 70) #[false, true, true, true, false, true, false, false] ?_
                     refine zt5 0 (some 65) #[true, true, true, true, false, true, false, false] ?_
                     refine zt5 4 (some 69) #[true, true, true, true, true, true, false, false] ?_
                     refine one_ (i := 6) (N := some 71) #[true, true, true, true, true, true, true, false] rfl rfl (one_of HT_.out (by kernel_rfl)) (by decide) (fun K hK => ?_)
                     refine goes_ Try.func66 (by kernel_rfl) rfl #[.agg #[.int .i64 a0_0, .int .i64 a0_1, .int .i64 a0_2, .int .i64 a0_3], .int .i64 (rd t104 x8_2), .int .i64 (rd x5_1 x61_3)] (by rfl) rfl rfl z3 ?_
                     with_reducible refine (impl_hits.calls a0_0 a0_1 a0_2 a0_3 (rd t104 x8_2) (rd x5_1 x61_3) false _ A47.out).mono ?_
                     rintro e w66 ⟨rfl, hb⟩
                     have HS4_ := (hb.cell (World.block_lt_of_cell? _ _ (hHeld.2.2.2.2))).trans (hHeld.2.2.2.2)
                     refine ⟨_, rfl, ?_⟩
                     have n0_ := zA (Kd.R_below z29 hb)
                     have n1_ := zA (Kd.R_below z34 hb)
                     have n2_ := zA (Kd.R_below z16 hb)
                     have n3_ := zA (Kd.R_below z80 hb)
                     have n4_ := zA (Kd.R_below z81 hb)
                     have n5_ := zBB BK110 hb
                     have n6_ := zA (below_step z13 hb)
                     clear HO_4 HO_6 HO_7 HO_11 HO_59 BK110 HB
                     have HO_4 := n0_
                     have HO_6 := n1_
                     have HO_7 := n2_
                     have HO_11 := n3_
                     have HO_59 := n4_
                     have BK110 := n5_
                     have HB := n6_
                     clear n0_ n1_ n2_ n3_ n4_ n5_ n6_
                     (try clear hb)
                     (try clear hb2)
                     (try clear hk)
                     (try clear hi)
                     refine hK.out _ _ ⟨(blk_cell BK110.out 0).trans rfl, (blk_cell BK110.out 1).trans rfl, (blk_cell BK110.out 2).trans rfl, (blk_cell BK110.out 3).trans rfl, HS4_⟩ (fun hHeld => ?_)
                     clear hK K
                     refine norm_ (a' := ?_) ?_ ?_
                     rotate_left
                     ·show Act.put _ (some 71) _ = _
                      simp only [Act.put, List.setIfInBounds_toArray, List.set_cons_zero, List.set_cons_succ, i64_w, i32_w]
                      rfl
                     refine zpu 7 (some 72) #[true, true, true, true, true, true, true, true] ?_
                     refine done_ (done_of HT_.out (by kernel_rfl)) ?_
                     try go_wp2_with (first | ((with_reducible refine gate_builtin (b := .append) (xs := #[.tmp 73, .tmp 75]) rfl ?_); at_builtin; refine Kd.R_append (Kd.int .i64) (w0 := w) w.heap.size rfl (.tmp 73) (.tmp 75) 24 2 (.int .i64 0) 8 rfl Try.underlying24 info2 rfl (by decide) (by omega) u11 x11_3 (rd x5_1 x61_3) [.int .i64 (rd x5_1 x61_3)] (fun k_ => some k_ ≠ (.slice (some ad231) t104.length co21 : Value).ownBlock ∧ some k_ ≠ (v123 : Value).ownBlock ∧ some k_ ≠ (.slice Ao26 x7_3.length co26 : Value).ownBlock ∧ some k_ ≠ (.slice (some ad238) x5_1.length co25 : Value).ownBlock) (fun _ => False) rfl rfl ?aP (fun _ hk => hk.elim) ?aF ?aO ?aB ?aS ?aL ?_; (case aP => exact rfl); (case aB => exact z13); (case aF => exact (fun k_ hk => ⟨Kd.fresh' (Kd.R_lt z29) k_ hk, Kd.fresh' (Kd.R_lt z34) k_ hk, Kd.fresh' (Kd.R_lt z16) k_ hk, Kd.fresh' (Kd.R_lt z81) k_ hk⟩)); (case aO => exact z80); (case aS => exact (below_size z13)); (case aL => have := LMc64.out; omega); intro v129 w67 ho hb hg hat; rw [← Ny128.out] at ho; replace HO_4 := zA (Kd.R_after (ok := (fun k_ => some k_ ≠ (v123 : Value).ownBlock ∧ some k_ ≠ (.slice Ao26 x7_3.length co26 : Value).ownBlock ∧ some k_ ≠ (.slice (some ad238) x5_1.length co25 : Value).ownBlock)) (by (with_reducible repeat (first | apply Kd.R_alloc | apply Kd.R_drewN | apply Kd.R_drew)); exact Kd.R_mono HO_4.out (fun _ hk => by first | exact ⟨⟨hk.1, ⟨hk.2.1, hk.2.2.2⟩⟩, hk.2.2.1⟩ | simp only [hk, ne_eq, not_false_eq_true, and_self])) hg hat); replace HO_6 := zA (Kd.R_after (ok := (fun k_ => some k_ ≠ (.slice (some ad231) t104.length co21 : Value).ownBlock ∧ some k_ ≠ (.slice Ao26 x7_3.length co26 : Value).ownBlock ∧ some k_ ≠ (.slice (some ad238) x5_1.length co25 : Value).ownBlock)) (by (with_reducible repeat (first | apply Kd.R_alloc | apply Kd.R_drewN | apply Kd.R_drew)); exact Kd.R_mono HO_6.out (fun _ hk => by first | exact ⟨⟨hk.1, ⟨hk.2.1, hk.2.2.2⟩⟩, hk.2.2.1⟩ | simp only [hk, ne_eq, not_false_eq_true, and_self])) hg hat); replace HO_7 := zA (Kd.R_after (ok := (fun k_ => some k_ ≠ (.slice (some ad231) t104.length co21 : Value).ownBlock ∧ some k_ ≠ (v123 : Value).ownBlock ∧ some k_ ≠ (.slice (some ad238) x5_1.length co25 : Value).ownBlock)) (by (with_reducible repeat (first | apply Kd.R_alloc | apply Kd.R_drewN | apply Kd.R_drew)); exact Kd.R_mono HO_7.out (fun _ hk => by first | exact ⟨⟨hk.1, ⟨hk.2.1, hk.2.2.2⟩⟩, hk.2.2.1⟩ | simp only [hk, ne_eq, not_false_eq_true, and_self])) hg hat); replace HO_59 := zA (Kd.R_after (ok := (fun k_ => some k_ ≠ (.slice (some ad231) t104.length co21 : Value).ownBlock ∧ some k_ ≠ (v123 : Value).ownBlock ∧ some k_ ≠ (.slice Ao26 x7_3.length co26 : Value).ownBlock)) (by (with_reducible repeat (first | apply Kd.R_alloc | apply Kd.R_drewN | apply Kd.R_drew)); exact Kd.R_mono HO_59.out (fun _ hk => by first | exact ⟨⟨hk.1, ⟨hk.2.1, hk.2.2.1⟩⟩, hk.2.2.2⟩ | simp only [hk, ne_eq, not_false_eq_true, and_self])) hg hat); replace BK110 := zA (blk_grown (g := gb110) (o := .cells #[.int .i64 a0_0, .int .i64 a0_1, .int .i64 a0_2, .int .i64 a0_3] 27 (0, 0)) z32 hg (Kd.R_ne HO_11.out BK110.out (by decide))); replace HB := zA (hb); have HO130 := zA (ho); clear HO_11; clear ho hb hg hat))
                     (try simp only [← hl7_3])
                     go_roundg k3
                     case measure => have := HK1.out; have := HK2.out; have := HK3.out; omega
                     case rel => exact ⟨(x7_3), (y128), (wrap64 (x61_3 + 1)), z11, H', ⟨z78⟩, ⟨(by (try simp only [hl7_3]); (with_reducible repeat (first | apply Kd.R_alloc | apply Kd.R_drewN | apply Kd.R_drew)); exact Kd.R_mono HO_4.out (fun _ hk => by first | exact ⟨hk.1.1, ⟨hk.1.2.1, ⟨hk.2, hk.1.2.2⟩⟩⟩ | simp only [hk, ne_eq, not_false_eq_true, and_self]))⟩, ⟨(by (try simp only [hl7_3]); (with_reducible repeat (first | apply Kd.R_alloc | apply Kd.R_drewN | apply Kd.R_drew)); exact Kd.R_mono HO_6.out (fun _ hk => by first | exact ⟨hk.1.1, ⟨hk.1.2.1, ⟨hk.2, hk.1.2.2⟩⟩⟩ | simp only [hk, ne_eq, not_false_eq_true, and_self]))⟩, ⟨(by (try simp only [hl7_3]); (with_reducible repeat (first | apply Kd.R_alloc | apply Kd.R_drewN | apply Kd.R_drew)); exact Kd.R_mono HO_7.out (fun _ hk => by first | exact ⟨hk.1.1, ⟨hk.1.2.1, ⟨hk.2, hk.1.2.2⟩⟩⟩ | simp only [hk, ne_eq, not_false_eq_true, and_self]))⟩, ⟨(by (try simp only [hl7_3]); (with_reducible repeat (first | apply Kd.R_alloc | apply Kd.R_drewN | apply Kd.R_drew)); exact HO130.out)⟩, ⟨(by (try simp only [hl7_3]); (with_reducible repeat (first | apply Kd.R_alloc | apply Kd.R_drewN | apply Kd.R_drew)); exact Kd.R_mono HO_59.out (fun _ hk => by first | exact ⟨hk.1.1, ⟨hk.1.2.1, ⟨hk.1.2.2, hk.2⟩⟩⟩ | simp only [hk, ne_eq, not_false_eq_true, and_self]))⟩, ⟨z95⟩, ⟨z13⟩⟩
                    ·rw [if_neg c64] at H
                     exact absurd H (by simp)
                  ·rw [if_neg c46] at H
                   exact absurd H (by simp)
                 ·rw [if_neg c45] at H
                  exact absurd H (by simp)
                ·rw [if_neg c44] at H
                 exact absurd H (by simp)
               ·rw [if_neg c43] at H
                exact absurd H (by simp)
              ·rw [if_neg c42] at H
               have c42b0 : decide (x61_3 < (x5_1.length : Int)) = false := decide_eq_false c42
               clear c42
               have H' := zA H
               clear H
               go_wp2
               (try simp only [← hl7_3])
               go_roundg k3
               case measure => have := HK1.out; have := HK2.out; have := HK3.out; omega
               case rel => exact ⟨(x11_3), (y121), (x7_3), H', ⟨z78⟩, ⟨(by (try simp only [hl7_3]); (with_reducible repeat (first | apply Kd.R_alloc | apply Kd.R_drewN | apply Kd.R_drew)); exact Kd.R_mono HO_4.out (fun _ hk => by first | exact ⟨hk.2.2.1, ⟨hk.1, hk.2.1⟩⟩ | simp only [hk, ne_eq, not_false_eq_true, and_self]))⟩, ⟨(by (try simp only [hl7_3]); (with_reducible repeat (first | apply Kd.R_alloc | apply Kd.R_drewN | apply Kd.R_drew)); exact Kd.R_mono HO_11.out (fun _ hk => by first | exact ⟨hk.1, ⟨hk.2.1, hk.2.2.1⟩⟩ | simp only [hk, ne_eq, not_false_eq_true, and_self]))⟩, ⟨(by (try simp only [hl7_3]); (with_reducible repeat (first | apply Kd.R_alloc | apply Kd.R_drewN | apply Kd.R_drew)); exact Kd.R_mono HO_6.out (fun _ hk => by first | exact ⟨hk.1, ⟨hk.2.2.1, hk.2.1⟩⟩ | simp only [hk, ne_eq, not_false_eq_true, and_self]))⟩, ⟨(by (try simp only [hl7_3]); (with_reducible repeat (first | apply Kd.R_alloc | apply Kd.R_drewN | apply Kd.R_drew)); exact Kd.R_mono HO_7.out (fun _ hk => by first | exact ⟨hk.1, ⟨hk.2.2.1, hk.2.1⟩⟩ | simp only [hk, ne_eq, not_false_eq_true, and_self]))⟩, ⟨z95⟩, ⟨z13⟩⟩
           ·rw [if_neg c37] at H
            exact absurd H (by simp)
          ·rw [if_neg c36] at H
           exact absurd H (by simp)
         ·rw [if_neg c35] at H
          exact absurd H (by simp)
    ·rw [if_neg c24] at H
     have c24b0 : decide (0 < (x5_1.length : Int)) = false := decide_eq_false c24
     have c24b1 : decide (0 < x5_1.length) = false := decide_eq_false (by omega)
     clear c24
     replace H := zi H
     obtain ⟨t100, A680, H⟩ := H
     replace H : (some (t100, 0)) = some (r1, r2) := H
     have A68 := zA A680
     clear A680
     simp only [Option.some.injEq, Prod.mk.injEq] at H
     obtain ⟨rfl, rfl⟩ := H
     obtain ⟨Ao69, co69, eo69⟩ := Kd.R_slice HO_5.out
     subst eo69
     obtain ⟨Ao70, co70, eo70⟩ := Kd.R_slice HO_6.out
     subst eo70
     go_wp2_with (first | ((with_reducible refine gate_callee (f := 67) rfl ?_); refine goesL_ (some 98) rfl rfl Try.func67 (by kernel_rfl) rfl #[.slice Ao70 x6_1.length co70] rfl z3 ?_; (with_reducible refine (slices_Sort_int64_int64.calls k1 (fun k_ => some k_ = (.slice Ao70 x6_1.length co70 : Value).ownBlock) (.slice Ao70 x6_1.length co70) x6_1 t100 w _ ?side1 ?side2 A68.out).mono ?_); (case side1 => exact z13); (case side2 => exact Kd.R_tight rfl HO_6.out); rintro e w71 ⟨rfl, hy0, hb, hkp⟩; refine ⟨_, rfl, ?_⟩; replace HO_4 := zA (Kd.R_mono (ok' := fun k_ => some k_ ≠ (.slice Ao69 x5_1.length co69 : Value).ownBlock ∧ some k_ ≠ (.slice Ao70 x6_1.length co70 : Value).ownBlock ∧ some k_ ≠ (v119 : Value).ownBlock) (Kd.R_keptB (HO_4.out) hkp (fun k_ hk_ hs_ => (hk_.2.1) hs_)) (fun k_ hk_ => ⟨hk_.1.1, hk_.1.2.1, hk_.1.2.2⟩)); replace HO_5 := zA (Kd.R_mono (ok' := fun k_ => some k_ ≠ (.slice Ao21 t104.length co21 : Value).ownBlock ∧ some k_ ≠ (.slice Ao70 x6_1.length co70 : Value).ownBlock ∧ some k_ ≠ (v119 : Value).ownBlock) (Kd.R_keptB (HO_5.out) hkp (fun k_ hk_ hs_ => (hk_.2.1) hs_)) (fun k_ hk_ => ⟨hk_.1.1, hk_.1.2.1, hk_.1.2.2⟩)); replace HO_7 := zA (Kd.R_mono (ok' := fun k_ => some k_ ≠ (.slice Ao21 t104.length co21 : Value).ownBlock ∧ some k_ ≠ (.slice Ao69 x5_1.length co69 : Value).ownBlock ∧ some k_ ≠ (.slice Ao70 x6_1.length co70 : Value).ownBlock) (Kd.R_keptB (HO_7.out) hkp (fun k_ hk_ hs_ => (hk_.2.2) hs_)) (fun k_ hk_ => ⟨hk_.1.1, hk_.1.2.1, hk_.1.2.2⟩)); replace BK110 := zA (blk_kept z32 hkp (fun hs_ => (fun e_ => (Kd.R_ne HO_6.out BK110.out (by decide)) e_) hs_)); replace HO_6 := zA (Kd.R_reok rfl hy0 (fun k_ e_ => HO_6.out.1 k_ e_)); replace HB := zA (hb); (try clear hb); (try clear hkp); (try clear hy0)))
     go_ret2
     exact ⟨_, z8, z102, z13⟩
 ·replace c3 := Bool.eq_false_iff.mpr c3
  subst c3
  have H1 : (some (([] : List Int), 1)) = some (r1, r2) := by rw [if_neg (show ¬ (false = true) by decide)] at H; exact H
  clear H
  have H := H1
  clear H1
  simp only [Option.some.injEq, Prod.mk.injEq] at H
  obtain ⟨rfl, rfl⟩ := H
  go_enter Try.func9, Try.ntmps9
  go_wp2_with (first | ((with_reducible refine gate_dst (N := 1) rfl ?_); refine zbox (N := 1) (cs := #[.int .i64 a0_0, .int .i64 a0_1, .int .i64 a0_2, .int .i64 a0_3]) (t := 27) ?_; intro gb110 hg w72 hbox hb; have BK110 := zA (hbox); have GW110 := zA ((z151 : w.heap.size ≤ gb110)); have GE110 := zA ((z151 : w.heap.size ≤ gb110)); replace HB := zA (below_step z1 hb); clear hb hbox hg; obtain ⟨hcz73_0, hcz73_1, hcz73_2, hcz73_3, hfz73_0, hfz73_1, hfz73_2, hfz73_3⟩ := zC4 BK110.out) | ((with_reducible refine gate_callee (f := 37) rfl ?_); refine goesL_ (some 17) rfl rfl Try.func37 (by kernel_rfl) rfl #[.agg #[.int .i64 a0_0, .int .i64 a0_1, .int .i64 a0_2, .int .i64 a0_3]] rfl z3 ?_; (with_reducible refine (impl_IsLottery.calls a0_0 a0_1 a0_2 a0_3 false _ A2.out).mono ?_); rintro e w74 ⟨rfl, hb⟩; refine ⟨_, rfl, ?_⟩; replace BK110 := zBB BK110 hb; replace HB := zA (below_step z13 hb); (try clear hb); (try clear hb2); (try clear hk); (try clear hi)))
  go_ret2
  exact ⟨_, z8, z37, z13⟩

end Go.Proofs.Ytchlbkcladfloaa.PFnGuarantees
