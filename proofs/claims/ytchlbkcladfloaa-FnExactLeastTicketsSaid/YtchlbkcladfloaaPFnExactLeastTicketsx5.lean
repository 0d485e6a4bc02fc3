-- WALKS, by a program and by hand
import Derived.Test.YtchlbkcladfloaaPFnExactLeastTicketsx0
import Derived.Test.YtchlbkcladfloaaPFnExactLeastTicketsx1
import Derived.Test.YtchlbkcladfloaaPFnExactLeastTicketsx4
namespace Go.Proofs.Ytchlbkcladfloaa.PFnExactLeastTickets
open Go.RowKit Go.Proofs.Ytchlbkcladfloaa.DG Go.Proofs.YtchlbkcladfloaaW.PrintWords Go.Proofs.YtchlbkcladfloaaW.PrintLast Go.Proofs.YtchlbkcladfloaaW.PrintMore
attribute [local go_sem] max2_int min2_int max_two min_two max_three min_three max_four min_four   -- for this text's walks alone
set_option linter.unusedVariables false
set_option linter.unusedSimpArgs false

/-! ### impl_LeastTickets: function 14 -/
def hitB (a b c d t x : Int) : Bool := (impl_hits.f a b c d t x).getD false
def setOf (a b c d : Int) (D : List Int) (t : Int) : Int := nearF (hitB a b c d t) D 0 0
def allU (n : Nat) : Int := IntKind.u64.wrap (IntKind.u64.wrap (2 ^ n) - 1)
def impl_LeastTickets.f (k : Nat) (a0_0 : Int) (a0_1 : Int) (a0_2 : Int) (a0_3 : Int) : Option (List Int × Int) := (impl_IsLottery.f a0_0 a0_1 a0_2 a0_3).bind fun t => if t = true then ((impl_allTickets.f k a0_0 a0_1 a0_2 a0_3).bind fun T => (impl_allDraws.f k a0_0 a0_1 a0_2 a0_3).bind fun D => if (T.length : Int) > 36 then some ([], 3) else if (D.length : Int) > 36 then some ([], 3) else if (T.all fun t => D.all fun x => (impl_hits.f a0_0 a0_1 a0_2 a0_3 t x).isSome) = true then some (fstI (fun m => srch (allU D.length) (T.zip (T.map (setOf a0_0 a0_1 a0_2 a0_3 D))) m 0) 4 1) else none) else some ([], 1)
theorem impl_LeastTickets.mono : ∀ a0_0 a0_1 a0_2 a0_3 k, LeO (impl_LeastTickets.f k a0_0 a0_1 a0_2 a0_3) (impl_LeastTickets.f (k + 1) a0_0 a0_1 a0_2 a0_3) := by
  intro a0_0 a0_1 a0_2 a0_3 k
  unfold impl_LeastTickets.f
  refine LeO.bind (LeO.refl _) (fun _ => LeO.ite ?_ (LeO.refl _))
  exact LeO.bind (impl_allTickets.mono _ _ _ _ _) (fun _ => LeO.bind (impl_allDraws.mono _ _ _ _ _) (fun _ => LeO.refl _))
def LTT3 : Bool × List (List Nat × List Nat) := (true, [([], []), ([0], [0]), ([], []), ([2, 1], [2]), ([], []), ([4, 1, 3, 0, 1, 4], [1, 4]), ([3, 5, 0, 1, 2, 3, 4, 5], [3])])
def LTB3 : List Nat := [0, 1, 0, 7, 0, 31, 63]
theorem lt_tab3 : rtab .any (opsOf Try.f14 3) = LTT3 := by kernel_rfl
theorem lt_bits3 : waitsOk LTT3.2 LTB3 = true := by kernel_rfl
set_option maxHeartbeats 2000000 in
set_option maxRecDepth 100000 in
theorem lt_no (a b c d : Int) (w : World) (h : impl_IsLottery.f a b c d = some false) :
    Calls Try.prog 14 #[.agg #[.int .i64 a, .int .i64 b, .int .i64 c, .int .i64 d]] w fun e w' => ∃ v0_ : Value, e = .returned (.tuple #[v0_, .int .i64 1]) ∧ Kd.R (Kd.int .i64) 2 w' w.heap.size (fun _ => True) v0_ [] ∧ Below w.heap.size w w' := by
  have H := Aside0.mk h
  clear h
  have hu := Try.underlying27
  go_enter Try.func14, Try.ntmps14
  go_wp2_with fail
  have hb1 : Below w.heap.size w (w.alloc (.cells #[.int .i64 a, .int .i64 b, .int .i64 c, .int .i64 d] 27)) := below_alloc (Below.refl _ _) _
  generalize w.alloc (.cells #[.int .i64 a, .int .i64 b, .int .i64 c, .int .i64 d] 27) = W1 at hb1 ⊢
  refine (impl_IsLottery.calls a b c d false W1 H.out).mono ?_
  rintro e w2 ⟨rfl, hb2⟩
  have HB2 := Aside0.mk (below_step hb1 hb2)
  clear hb1 hb2
  go_wp2
  go_ret2
  exact ⟨_, rfl, Kd.R_nil _ _ _ _ _, HB2.out⟩
/-- While the tickets and the draws are made: what stands when these came up. -/
structure LR (W0 w' : World) (q : List Int) (gl : Nat) (T D : List Int) (vT vD : Value) (gx : Nat) (b1 b3 b4 b5 : Bool) : Prop where
  kl : w'.heap[gl]? = some (.cells (q.map (Value.int .i64)).toArray 27 (0, 0))
  hB : Below W0.heap.size W0 w'
  hT : b1 = true → Kd.R (Kd.int .i64) 2 w' W0.heap.size (fun _ => True) vT T
  hD : b3 = true → Kd.R (Kd.int .i64) 2 w' W0.heap.size (fun _ => True) vD D
  kx : b4 = true → w'.heap[gx]? = some (.cells #[if b5 = true then vT else .slice none 0 0] 24 (0, 0)) ∧ W0.heap.size ≤ gx
section
variable {W0 w' w9 : World} {q : List Int} {gl : Nat} {T D : List Int} {vT vD : Value} {gx : Nat} {b1 b3 b4 b5 : Bool}
theorem LR.start (kl : w'.heap[gl]? = some (.cells (q.map (Value.int .i64)).toArray 27 (0, 0))) (hB : Below W0.heap.size W0 w') : LR W0 w' q gl T D vT vD gx false false false b5 :=
  ⟨kl, hB, fun h => absurd h (by decide), fun h => absurd h (by decide), fun h => absurd h (by decide)⟩
theorem LR.callT (h : LR W0 w' q gl T D vT vD gx b1 b3 b4 b5) (h5 : b5 = false) {v : Value} (hb : Below w'.heap.size w' w9) (hR : Kd.R (Kd.int .i64) 2 w9 w'.heap.size (fun _ => True) v T) : LR W0 w9 q gl T D v vD gx true b3 b4 b5 :=
  ⟨blk_below h.kl hb, below_step h.hB hb, fun _ => Kd.R_lower hR h.hB.size, fun h3 => Kd.R_below (h.hD h3) hb, fun h4 => by
    have hx := h.kx h4
    subst h5
    exact ⟨blk_below hx.1 hb, hx.2⟩⟩
theorem LR.callD (h : LR W0 w' q gl T D vT vD gx b1 b3 b4 b5) {v : Value} (hb : Below w'.heap.size w' w9) (hR : Kd.R (Kd.int .i64) 2 w9 w'.heap.size (fun _ => True) v D) : LR W0 w9 q gl T D vT v gx b1 true b4 b5 :=
  ⟨blk_below h.kl hb, below_step h.hB hb, fun h1 => Kd.R_below (h.hT h1) hb, fun _ => Kd.R_lower hR h.hB.size, fun h4 => ⟨blk_below (h.kx h4).1 hb, (h.kx h4).2⟩⟩
theorem LR.box (h : LR W0 w' q gl T D vT vD gx b1 b3 b4 b5) (h5 : b5 = false) : LR W0 (w'.alloc (.cells #[.slice none 0 0] 24)) q gl T D vT vD w'.heap.size b1 b3 true b5 := by
  subst h5
  exact ⟨blk_alloc h.kl _, below_alloc h.hB _, fun h1 => Kd.R_alloc (h.hT h1) _, fun h3 => Kd.R_alloc (h.hD h3) _, fun _ => ⟨blk_new w' _, h.hB.size⟩⟩
theorem LR.put (h : LR W0 w' q gl T D vT vD gx b1 b3 true b5) : LR W0 (w'.setCell ⟨gx, 0, none⟩ vT) q gl T D vT vD gx b1 b3 true true := by
  obtain ⟨hx, hg⟩ := h.kx rfl
  refine ⟨blk_far h.kl (fun he => ?_) _, below_set h.hB hg, fun h1 => Kd.R_set (h.hT h1) hx (by decide) 0 vT, fun h3 => Kd.R_set (h.hD h3) hx (by decide) 0 vT, fun _ => ⟨blk_set hx 0 vT, hg⟩⟩
  have hl := h.kl
  rw [show gl = gx from he, hx] at hl
  injection hl with hl
  injection hl with _ hl
  exact absurd hl (by decide)
end
theorem near_next (f : Int → Bool) (D : List Int) (j : Nat) (hj : j < D.length) (A : Int) : nearF f (D.drop j) j A = nearF f (D.drop (j + 1)) (j + 1) (if f D[j] = true then Go.bits .or .u64 A (IntKind.u64.wrap (2 ^ j)) else A) := by
  rw [List.drop_eq_getElem_cons hj]; rfl
theorem near_end (f : Int → Bool) (D : List Int) (j : Nat) (hj : j = D.length) (A : Int) : nearF f (D.drop j) j A = A := by
  rw [List.drop_eq_nil_of_le (by omega)]; rfl
theorem lt_rcell {w : World} {H : Nat} {ok : Nat → Prop} {ad : Addr} {c : Nat} {l : List Int} {e : Nat} {K : IntKind} (h : Kd.R (Kd.int K) e w H ok (.slice (some ad) l.length c) l) (i : Nat) (hi : i < l.length) : w.cell? (ad.add i) = some (.int K l[i]) := by
  obtain ⟨hn, hc, hr⟩ := Kd.R_reads' h
  obtain ⟨ad', e1, e2⟩ := Kd.at_int hr (i : Int) (by omega) (by omega)
  cases e1
  rw [Int.toNat_natCast, rd_natl l i hi] at e2
  exact e2
attribute [local go_sem] run_store_func
set_option maxHeartbeats 8000000 in
set_option maxRecDepth 100000 in
theorem lt_yes (k : Nat) (a b c d : Int) (T D : List Int) (r1 : List Int) (r2 : Int) (w : World) (h : impl_IsLottery.f a b c d = some true) (hT : impl_allTickets.f k a b c d = some T) (hD : impl_allDraws.f k a b c d = some D)
    (hr : (36 < T.length ∧ r1 = [] ∧ r2 = 3) ∨ (T.length ≤ 36 ∧ 36 < D.length ∧ r1 = [] ∧ r2 = 3) ∨ (T.length ≤ 36 ∧ D.length ≤ 36 ∧ (∀ t ∈ T, ∀ x ∈ D, impl_hits.f a b c d t x = some (hitB a b c d t x)) ∧ fstI (fun m => srch (allU D.length) (T.zip (T.map (setOf a b c d D))) m 0) 4 1 = (r1, r2))) :
    Calls Try.prog 14 #[.agg #[.int .i64 a, .int .i64 b, .int .i64 c, .int .i64 d]] w fun e w' => ∃ v0_ : Value, e = .returned (.tuple #[v0_, .int .i64 r2]) ∧ Kd.R (Kd.int .i64) 2 w' w.heap.size (fun _ => True) v0_ r1 ∧ Below w.heap.size w w' := by
  have H := Aside0.mk h
  have A4 := Aside0.mk hT
  have A5 := Aside0.mk hD
  have HRR := Aside0.mk hr
  clear h hT hD hr
  have hu := Try.underlying27
  go_enter Try.func14, Try.ntmps14
  go_wp2_with fail
  have hb1 : Below w.heap.size w (w.alloc (.cells #[.int .i64 a, .int .i64 b, .int .i64 c, .int .i64 d] 27)) := below_alloc (Below.refl _ _) _
  have hk1 : (w.alloc (.cells #[.int .i64 a, .int .i64 b, .int .i64 c, .int .i64 d] 27)).heap[w.heap.size]? = some (.cells ([a, b, c, d].map (Value.int .i64)).toArray 27 (0, 0)) := blk_new w _
  obtain ⟨gl, hgl⟩ : ∃ gl, gl = w.heap.size := ⟨_, rfl⟩
  rw [← hgl] at hk1
  generalize w.alloc (.cells #[.int .i64 a, .int .i64 b, .int .i64 c, .int .i64 d] 27) = W1 at hb1 hk1 ⊢
  refine (impl_IsLottery.calls a b c d true W1 H.out).mono ?_
  rintro e w2 ⟨rfl, hb2⟩
  have HL0 := Aside0.mk (LR.start (T := T) (D := D) (vT := .bool false) (vD := .bool false) (gx := 0) (b5 := false) (blk_drew (blk_below hk1 hb2)) (below_drew (below_step hb1 hb2)))
  clear hb1 hk1 hb2
  go_wp2
  refine start_ (n := 7) (S := fun w' => True) (ds := []) #[false, false, false, false, false, false, false] (by kernel_rfl) rfl rfl trivial (fun hHeld => ?_); refine with_tabW lt_tab3 lt_bits3 (fun HT_ HW_ => ?_)
  rw [← hgl]
  clear hgl
  generalize w2.drew = w3 at HL0 hHeld ⊢
  refine inv_at [0, 1, 2, 3, 4, 5, 6] (fun a0_ b_ a_ w' => ∃ (vT : Value) (vD : Value) (m6 : Value) (gx : Nat), a_ = putSel a0_ b_ [(0, 19, .agg #[.int .i64 a, .int .i64 b, .int .i64 c, .int .i64 d]), (1, 20, vT), (2, 21, .agg #[.int .i64 a, .int .i64 b, .int .i64 c, .int .i64 d]), (3, 22, vD), (4, 4, .pointer (some ⟨gx, 0, none⟩)), (6, 5, m6)] ∧ LR w w' [a, b, c, d] gl T D vT vD gx (b_ 1) (b_ 3) (b_ 4) (b_ 5) ∧ (b_ 6 = true → m6 = vD)) HT_.out HW_.out (by kernel_rfl) (by kernel_rfl) ?_ ?_ ?_
  · exact ⟨.bool false, .bool false, .bool false, 0, by simp only [putSel, Bool.false_eq_true, if_false], HL0.out, fun h_ => absurd h_ (by decide)⟩
  · clear HL0
    refine steps_cons ?_ ?_
    · rintro b_ a_ w' ⟨vT, vD, m6, gx, ha, Q, Q6⟩ hb_ hon hoff
      refine ⟨_, rfl, fun K hK => ?_⟩
      have e1 : a_.tmps[1]? = some (.pointer (some ⟨gl, 0, none⟩)) := by rw [ha]; exact (putSel_off rfl).trans rfl
      replace ha := Aside0.mk ha
      have hc0_ : w'.cell? ⟨gl, 0, none⟩ = some (.int .i64 a) := (blk_cell Q.kl 0).trans rfl
      have hc1_ : w'.cell? ⟨gl, 1, none⟩ = some (.int .i64 b) := (blk_cell Q.kl 1).trans rfl
      have hc2_ : w'.cell? ⟨gl, 2, none⟩ = some (.int .i64 c) := (blk_cell Q.kl 2).trans rfl
      have hc3_ : w'.cell? ⟨gl, 3, none⟩ = some (.int .i64 d) := (blk_cell Q.kl 3).trans rfl
      refine value_ (w1 := w') (v := .agg #[.int .i64 a, .int .i64 b, .int .i64 c, .int .i64 d]) (by rfl) rfl ?_ ?_
      · go_simp
        (try simp only [i64_w])
        try rfl
      refine hK.out _ _ ⟨vT, vD, m6, gx, (by rw [ha.out]; exact putSel_upk 0 hb_ rfl rfl rfl), Q, Q6⟩
    refine steps_cons ?_ ?_
    · rintro b_ a_ w' ⟨vT, vD, m6, gx, ha, Q, Q6⟩ hb_ hon hoff
      refine ⟨_, rfl, fun K hK => ?_⟩
      have e19 : a_.tmps[19]? = some (.agg #[.int .i64 a, .int .i64 b, .int .i64 c, .int .i64 d]) := by rw [ha]; exact putSel_on (e := (0, 19, .agg #[.int .i64 a, .int .i64 b, .int .i64 c, .int .i64 d])) 0 rfl rfl (hon 0 (by kernel_rfl)) rfl
      replace ha := Aside0.mk ha
      refine goes_ Try.func62 (by kernel_rfl) rfl #[.agg #[.int .i64 a, .int .i64 b, .int .i64 c, .int .i64 d]] (by rfl) rfl rfl (by first | (simp only [List.map_toArray, List.map_cons, List.map_nil, Act.eval, Array.getD_eq_getD_getElem?, Option.getD_some, e19]; done) | (simp only [List.map_toArray, List.map_cons, List.map_nil, Act.eval, Array.getD_eq_getD_getElem?, Option.getD_some, e19]; rfl)) ?_
      with_reducible refine (impl_allTickets.calls k a b c d T _ A4.out).mono ?_
      rintro e w9 ⟨v9, rfl, ho9, hb9⟩
      refine ⟨_, rfl, ?_⟩
      refine hK.out _ _ ⟨v9, vD, m6, gx, (by rw [ha.out]; exact putSel_upk 1 hb_ rfl rfl rfl), Q.callT (hoff 5 (by kernel_rfl)) hb9 ho9, Q6⟩
    refine steps_cons ?_ ?_
    · rintro b_ a_ w' ⟨vT, vD, m6, gx, ha, Q, Q6⟩ hb_ hon hoff
      refine ⟨_, rfl, fun K hK => ?_⟩
      have e1 : a_.tmps[1]? = some (.pointer (some ⟨gl, 0, none⟩)) := by rw [ha]; exact (putSel_off rfl).trans rfl
      replace ha := Aside0.mk ha
      have hc0_ : w'.cell? ⟨gl, 0, none⟩ = some (.int .i64 a) := (blk_cell Q.kl 0).trans rfl
      have hc1_ : w'.cell? ⟨gl, 1, none⟩ = some (.int .i64 b) := (blk_cell Q.kl 1).trans rfl
      have hc2_ : w'.cell? ⟨gl, 2, none⟩ = some (.int .i64 c) := (blk_cell Q.kl 2).trans rfl
      have hc3_ : w'.cell? ⟨gl, 3, none⟩ = some (.int .i64 d) := (blk_cell Q.kl 3).trans rfl
      refine value_ (w1 := w') (v := .agg #[.int .i64 a, .int .i64 b, .int .i64 c, .int .i64 d]) (by rfl) rfl ?_ ?_
      · go_simp
        (try simp only [i64_w])
        try rfl
      refine hK.out _ _ ⟨vT, vD, m6, gx, (by rw [ha.out]; exact putSel_upk 2 hb_ rfl rfl rfl), Q, Q6⟩
    refine steps_cons ?_ ?_
    · rintro b_ a_ w' ⟨vT, vD, m6, gx, ha, Q, Q6⟩ hb_ hon hoff
      refine ⟨_, rfl, fun K hK => ?_⟩
      have e21 : a_.tmps[21]? = some (.agg #[.int .i64 a, .int .i64 b, .int .i64 c, .int .i64 d]) := by rw [ha]; exact putSel_on (e := (2, 21, .agg #[.int .i64 a, .int .i64 b, .int .i64 c, .int .i64 d])) 2 rfl rfl (hon 2 (by kernel_rfl)) rfl
      replace ha := Aside0.mk ha
      refine goes_ Try.func63 (by kernel_rfl) rfl #[.agg #[.int .i64 a, .int .i64 b, .int .i64 c, .int .i64 d]] (by rfl) rfl rfl (by first | (simp only [List.map_toArray, List.map_cons, List.map_nil, Act.eval, Array.getD_eq_getD_getElem?, Option.getD_some, e21]; done) | (simp only [List.map_toArray, List.map_cons, List.map_nil, Act.eval, Array.getD_eq_getD_getElem?, Option.getD_some, e21]; rfl)) ?_
      with_reducible refine (impl_allDraws.calls k a b c d D _ A5.out).mono ?_
      rintro e w9 ⟨v9, rfl, ho9, hb9⟩
      refine ⟨_, rfl, ?_⟩
      refine hK.out _ _ ⟨vT, v9, m6, gx, (by rw [ha.out]; exact putSel_upk 3 hb_ rfl rfl rfl), Q.callD hb9 ho9, fun h0_ => absurd ((hoff 6 (by kernel_rfl)).symm.trans h0_) (by decide)⟩
    refine steps_cons ?_ ?_
    · rintro b_ a_ w' ⟨vT, vD, m6, gx, ha, Q, Q6⟩ hb_ hon hoff
      refine ⟨_, rfl, fun K hK => ?_⟩
      replace ha := Aside0.mk ha
      refine value_ (w1 := w'.alloc (.cells #[.slice none 0 0] 24)) (v := .pointer (some ⟨w'.heap.size, 0, none⟩)) (by rfl) rfl ?_ ?_
      · go_simp
        try rfl
      refine hK.out _ _ ⟨vT, vD, m6, w'.heap.size, (by rw [ha.out]; exact putSel_upk 4 hb_ rfl rfl rfl), Q.box (hoff 5 (by kernel_rfl)), Q6⟩
    refine steps_cons ?_ ?_
    · rintro b_ a_ w' ⟨vT, vD, m6, gx, ha, Q, Q6⟩ hb_ hon hoff
      refine ⟨_, rfl, fun K hK => ?_⟩
      have e4 : a_.tmps[4]? = some (.pointer (some ⟨gx, 0, none⟩)) := by rw [ha]; exact putSel_on (e := (4, 4, .pointer (some ⟨gx, 0, none⟩))) 4 rfl rfl (hon 4 (by kernel_rfl)) rfl
      have e20 : a_.tmps[20]? = some vT := by rw [ha]; exact putSel_on (e := (1, 20, vT)) 1 rfl rfl (hon 1 (by kernel_rfl)) rfl
      replace ha := Aside0.mk ha
      rw [hon 4 (by kernel_rfl)] at Q
      have hkx := (Q.kx rfl).1
      have hcx : w'.cell? ⟨gx, 0, none⟩ = some _ := (blk_cell hkx 0).trans rfl
      have hfx : w'.frozen? ⟨gx, 0, none⟩ = false := blk_frozen hkx 0
      obtain ⟨A9, c9, rfl⟩ := Kd.R_slice (Q.hT (hon 1 (by kernel_rfl)))
      have hQ := Aside0.mk Q.put
      clear Q hkx
      refine skip_ (w1 := w'.setCell ⟨gx, 0, none⟩ (.slice A9 T.length c9)) (by rfl) rfl ?_ ?_
      · go_simp
        try rfl
      refine hK.out _ _ ⟨_, vD, m6, gx, (ha.out.trans (by rfl)), (by have h4 := hon 4 (by kernel_rfl); show LR w _ _ gl T D _ vD gx (b_ 1) (b_ 3) (b_ 4) true; rw [h4]; exact hQ.out), Q6⟩
    refine steps_cons ?_ ?_
    · rintro b_ a_ w' ⟨vT, vD, m6, gx, ha, Q, Q6⟩ hb_ hon hoff
      refine ⟨_, rfl, fun K hK => ?_⟩
      have e22 : a_.tmps[22]? = some vD := by rw [ha]; exact putSel_on (e := (3, 22, vD)) 3 rfl rfl (hon 3 (by kernel_rfl)) rfl
      replace ha := Aside0.mk ha
      refine value_ (w1 := w') (v := vD) (by rfl) rfl ?_ ?_
      · go_simp
        try rfl
      refine hK.out _ _ ⟨vT, vD, vD, gx, (by rw [ha.out]; exact putSel_upk 5 hb_ rfl rfl rfl), Q, fun _ => rfl⟩
    exact steps_nil
  rintro b_ a_ w4 hall ⟨vT, vD, m6, gx, ha, Q, Q6⟩
  clear HL0
  have hb0_ := hall 0 (by kernel_rfl)
  have hb1_ := hall 1 (by kernel_rfl)
  have hb2_ := hall 2 (by kernel_rfl)
  have hb3_ := hall 3 (by kernel_rfl)
  have hb4_ := hall 4 (by kernel_rfl)
  have hb5_ := hall 5 (by kernel_rfl)
  have hb6_ := hall 6 (by kernel_rfl)
  subst ha
  have hm6 := Q6 hb6_
  subst m6
  rw [hb1_, hb3_, hb4_, hb5_] at Q
  simp only [putSel, hb0_, hb1_, hb2_, hb3_, hb4_, hb6_, if_true, Act.put, List.setIfInBounds_toArray, List.set_cons_zero, List.set_cons_succ]
  clear hall hb0_ hb1_ hb2_ hb3_ hb4_ hb5_ hb6_ Q6 HT_ HW_ hHeld
  obtain ⟨AT, cT, rfl⟩ := Kd.R_slice (Q.hT rfl)
  obtain ⟨AD, cD, rfl⟩ := Kd.R_slice (Q.hD rfl)
  have hx : w4.heap[gx]? = some (.cells #[.slice AT T.length cT] 24 (0, 0)) := (Q.kx rfl).1
  have cx : w4.cell? ⟨gx, 0, none⟩ = some (.slice AT T.length cT) := (blk_cell hx 0).trans rfl
  have HB := Aside0.mk Q.hB
  have hsz : w.heap.size ≤ w4.heap.size := Q.hB.size
  have HN0 := Aside0.mk (LN.start Q.kl hx (Q.hT rfl) (Q.hD rfl) hsz)
  have HB0 := Aside0.mk (show Below w.heap.size w ((w4.alloc (.cells #[] 68)).alloc (.cells #[.slice (some ⟨w4.heap.size, 0, none⟩) 0 0] 67)) from below_alloc (below_alloc HB.out _) _)
  clear Q hx
  rcases HRR.out with ⟨g1, rfl, rfl⟩ | ⟨g1, g2, rfl, rfl⟩ | ⟨g1, g2, g3, g4⟩
  · have j1 : (36 : Int) < (T.length : Int) := by omega
    clear HN0 HB0
    go_wp2
    go_ret2
    exact ⟨_, rfl, Kd.R_nil _ _ _ _ _, HB.out⟩
  · have j1 : ¬ (36 : Int) < (T.length : Int) := by omega
    have j2 : (36 : Int) < (D.length : Int) := by omega
    clear HN0 HB0
    go_wp2
    go_ret2
    exact ⟨_, rfl, Kd.R_nil _ _ _ _ _, HB.out⟩
  · have j1 : ¬ (36 : Int) < (T.length : Int) := by omega
    have j2 : ¬ (36 : Int) < (D.length : Int) := by omega
    have G3 := Aside0.mk g3
    have G4 := Aside0.mk g4
    clear g3 g4 HRR
    go_upto_region 7 with fail
    obtain ⟨gn, hgn⟩ : ∃ gn, gn = w4.heap.size + 1 := ⟨_, rfl⟩
    obtain ⟨lo, hlo⟩ : ∃ lo, lo = w4.heap.size := ⟨_, rfl⟩
    generalize (w4.alloc (.cells #[] 68)).alloc (.cells #[.slice (some ⟨w4.heap.size, 0, none⟩) 0 0] 67) = W5 at HN0 HB0 ⊢
    rw [← hgn, ← hlo] at HN0
    rw [← hgn, ← hlo]
    clear hgn hlo hsz cx HB
    have cx : W5.cell? ⟨gx, 0, none⟩ = some (.slice AT T.length cT) := (blk_cell HN0.out.kx 0).trans rfl
    go_wp2
    go_loopg [34] T.length (fun gg s34 wr => ∃ (i : Nat) (AN : Option Addr) (cN : Nat) (NR : List Int), s34 = .int .i64 (i : Int) ∧ i ≤ T.length ∧ T.length - i ≤ gg ∧ Aside0 (NR = (T.take i).map (setOf a b c d D)) ∧ Aside0 (LN wr w.heap.size [a, b, c, d] gl gx gn lo AT cT T AD cD D (.slice AN NR.length cN) NR) ∧ Aside0 (Below w.heap.size w wr))
    case atStart => exact ⟨0, some ⟨lo, 0, none⟩, 0, [], rfl, Nat.zero_le _, by omega, ⟨by simp⟩, HN0, HB0⟩
    case round =>
      clear cx HN0 HB0
      obtain ⟨i, AN, cN, NR, rfl, hi, hgi, HNR, HN, HB⟩ := hrel
      by_cases hiT : i < T.length
      · have hi1 : (i : Int) < (T.length : Int) := by omega
        have hi0 : (0 : Int) ≤ (i : Int) := by omega
        obtain ⟨adT, hadT⟩ := lt_some (Kd.R_reads' HN.out.hT).2.2 (by omega)
        subst hadT
        have ct : wr.cell? (adT.add i) = some (.int .i64 T[i]) := lt_rcell HN.out.hT i hiT
        go_wp2
        clear ct
        go_loopg [9, 40] D.length (fun gj s9 s40 wr => ∃ (j : Nat) (A : Int), s9 = .int .u64 A ∧ s40 = .int .i64 (j : Int) ∧ j ≤ D.length ∧ D.length - j ≤ gj ∧ Aside0 (nearF (hitB a b c d T[i]) (D.drop j) j A = setOf a b c d D T[i]) ∧ Aside0 (LN wr w.heap.size [a, b, c, d] gl gx gn lo (some adT) cT T AD cD D (.slice AN NR.length cN) NR) ∧ Aside0 (Below w.heap.size w wr))
        case atStart => exact ⟨0, 0, rfl, rfl, Nat.zero_le _, by omega, ⟨rfl⟩, HN, HB⟩
        case round =>
          clear HN HB
          obtain ⟨j, A, rfl, rfl, hj, hgj, HA, HN, HB⟩ := hrel
          by_cases hjD : j < D.length
          · have hj1 : (j : Int) < (D.length : Int) := by omega
            have hj0 : (0 : Int) ≤ (j : Int) := by omega
            obtain ⟨adD, hadD⟩ := lt_some (Kd.R_reads' HN.out.hD).2.2 (by omega)
            subst hadD
            have cd : wr.cell? (adD.add j) = some (.int .i64 D[j]) := lt_rcell HN.out.hD j hjD
            have c0 : wr.cell? ⟨gl, 0, none⟩ = some (.int .i64 a) := (blk_cell HN.out.kl 0).trans rfl
            have c1 : wr.cell? ⟨gl, 1, none⟩ = some (.int .i64 b) := (blk_cell HN.out.kl 1).trans rfl
            have c2 : wr.cell? ⟨gl, 2, none⟩ = some (.int .i64 c) := (blk_cell HN.out.kl 2).trans rfl
            have c3 : wr.cell? ⟨gl, 3, none⟩ = some (.int .i64 d) := (blk_cell HN.out.kl 3).trans rfl
            have hA := HA.out
            rw [near_next _ D j hjD A] at hA
            have HA2 := Aside0.mk hA
            clear hA HA
            by_cases hbt : hitB a b c d T[i] D[j] = true
            · have hh : impl_hits.f a b c d T[i] D[j] = some true := by rw [G3.out _ (List.getElem_mem hiT) _ (List.getElem_mem hjD), hbt]
              have HH := Aside0.mk hh
              have HBT := Aside0.mk hbt
              clear hh hbt
              go_wp2_with (go_at_call 66; refine (impl_hits.calls a b c d T[i] D[j] true _ HH.out).mono ?_; rintro e w6 ⟨rfl, hb6⟩; have HN6 := Aside0.mk (HN.out.below hb6); have HB6 := Aside0.mk (below_step HB.out hb6))
              go_roundg (D.length - (j + 1))
              case measure => omega
              case rel =>
                have h9 := HA2.out
                rw [if_pos HBT.out] at h9
                exact ⟨j + 1, Go.bits .or .u64 A (IntKind.u64.wrap (2 ^ j)), by first | rfl | (go_num; done), by first | rfl | (go_num; done), by omega, by omega, ⟨h9⟩, HN6, HB6⟩
            · have hh : impl_hits.f a b c d T[i] D[j] = some false := by rw [G3.out _ (List.getElem_mem hiT) _ (List.getElem_mem hjD)]; simpa using hbt
              have HH := Aside0.mk hh
              have HBT := Aside0.mk hbt
              clear hh hbt
              go_wp2_with (go_at_call 66; refine (impl_hits.calls a b c d T[i] D[j] false _ HH.out).mono ?_; rintro e w6 ⟨rfl, hb6⟩; have HN6 := Aside0.mk (HN.out.below hb6); have HB6 := Aside0.mk (below_step HB.out hb6))
              go_roundg (D.length - (j + 1))
              case measure => omega
              case rel =>
                have h9 := HA2.out
                rw [if_neg HBT.out] at h9
                exact ⟨j + 1, A, rfl, by first | rfl | (go_num; done), by omega, by omega, ⟨h9⟩, HN6, HB6⟩
          · have hj1 : ¬ (j : Int) < (D.length : Int) := by omega
            have hA := HA.out
            rw [near_end _ D j (by omega) A] at hA
            clear HA
            subst hA
            have cn : wr.cell? ⟨gn, 0, none⟩ = some (.slice AN NR.length cN) := (blk_cell HN.out.kn 0).trans rfl
            have hgs := blk_lt HN.out.kn
            have hl3 := HN.out.l3
            have hsz := HB.out.size
            have hlen : NR.length = i := by rw [HNR.out]; simp; omega
            have HLEN := Aside0.mk hlen
            clear hlen
            go_wp2_with (at_builtin; refine Kd.R_append (Kd.int .u64) (w0 := w) w.heap.size rfl (.tmp 54) (.tmp 56) 67 68 (.int .u64 0) 8 rfl Try.underlying67 lt_info8 rfl (by decide) (by omega) (.slice AN NR.length cN) NR (setOf a b c d D T[i]) [.int .u64 (setOf a b c d D T[i])] (fun k => lo ≤ k ∧ k ≠ gn) (fun _ => False) rfl rfl rfl (fun _ h => h.elim) ?aF HN.out.hN HB.out ?aS ?aL ?_; (case aF => exact fun k hk => ⟨by omega, by omega⟩); (case aS => exact hsz); (case aL => rw [HLEN.out]; omega); intro v7 w7 hR7 hb7 hg7 hat7; obtain ⟨A7, c7, rfl⟩ := Kd.R_slice hR7; have hc7 : w7.cell? ⟨gn, 0, none⟩ = some (.slice AN NR.length cN) := (blk_cell (blk_grown HN.out.kn hg7 (fun he => (HN.out.hN.1 _ he.symm).2 rfl)) 0).trans rfl; have hf7 : w7.frozen? ⟨gn, 0, none⟩ = false := blk_frozen (blk_grown HN.out.kn hg7 (fun he => (HN.out.hN.1 _ he.symm).2 rfl)) 0)
            have HN7 := Aside0.mk (HN.out.push hg7 hR7)
            have HB7 := Aside0.mk (show Below w.heap.size w (w7.setCell ⟨gn, 0, none⟩ (.slice A7 (NR ++ [setOf a b c d D T[i]]).length c7)) from below_set hb7 (Nat.le_trans HN.out.l4 HN.out.l3))
            go_roundg (T.length - (i + 1))
            case measure => omega
            case rel =>
              have e8 : (NR ++ [setOf a b c d D T[i]]).length = NR.length + 1 := by simp
              have e9 : NR ++ [setOf a b c d D T[i]] = (T.take (i + 1)).map (setOf a b c d D) := by
                rw [List.take_succ_eq_append_getElem hiT, List.map_append, HNR.out]; rfl
              exact ⟨i + 1, A7, c7, NR ++ [setOf a b c d D T[i]], by first | rfl | (go_num; done), by omega, by omega, ⟨e9⟩, ⟨by rw [← e8]; exact HN7.out⟩, ⟨by rw [← e8]; exact HB7.out⟩⟩
      · have hi1 : ¬ (i : Int) < (T.length : Int) := by omega
        have hiT2 : i = T.length := by omega
        have eN : NR = T.map (setOf a b c d D) := by rw [HNR.out, hiT2, List.take_length]
        have EN := Aside0.mk eN
        clear eN hiT2
        go_wp2
        obtain ⟨hTr, hNr, hkx, hkn⟩ := And.intro HN.out.hT (And.intro HN.out.hN (And.intro HN.out.kx HN.out.kn))
        have HQ := Aside0.mk (show LQ ((wr.alloc (.cells #[.int .u64 (allU D.length)] 68)).alloc (.cells #[.int .i64 1] 3)) w.heap.size gx gn wr.heap.size (allU D.length) AT cT T AN cN NR from ⟨blk_alloc (blk_alloc hkx _) _, blk_alloc (blk_alloc hkn _) _, blk_alloc (blk_new wr _) _, Kd.R_mono (Kd.R_alloc (Kd.R_alloc hTr _) _) (fun _ _ => trivial), Kd.R_mono (Kd.R_alloc (Kd.R_alloc hNr _) _) (fun _ _ => trivial)⟩)
        have HB6 := Aside0.mk (below_alloc (below_alloc HB.out (.cells #[.int .u64 (allU D.length)] 68)) (.cells #[.int .i64 1] 3))
        have HM := Aside0.mk (show ((wr.alloc (.cells #[.int .u64 (allU D.length)] 68)).alloc (.cells #[.int .i64 1] 3)).heap[wr.heap.size + 1]? = some (.cells #[.int .i64 ((1 : Nat) : Int)] 3 (0, 0)) by
          have h1 := blk_new (wr.alloc (.cells #[.int .u64 (allU D.length)] 68)) (.cells #[.int .i64 1] 3)
          rw [show (wr.alloc (.cells #[.int .u64 (allU D.length)] 68)).heap.size = wr.heap.size + 1 by simp] at h1
          exact h1)
        have HS6 := Aside0.mk (show w.heap.size ≤ wr.heap.size + 1 by have := HB.out.size; omega)
        clear hTr hNr hkx hkn
        rw [show IntKind.u64.wrap (IntKind.u64.wrap (2 ^ D.length) - 1) = allU D.length from rfl]
        obtain ⟨ba, hba⟩ : ∃ ba, ba = wr.heap.size := ⟨_, rfl⟩
        obtain ⟨gm0, hgm0⟩ : ∃ gm0, gm0 = wr.heap.size + 1 := ⟨_, rfl⟩
        generalize (wr.alloc (.cells #[.int .u64 (allU D.length)] 68)).alloc (.cells #[.int .i64 1] 3) = W6 at HQ HB6 HM ⊢
        rw [← hgm0] at HM HS6
        rw [← hba] at HQ
        rw [← hgm0, ← hba]
        clear hba hgm0 HN HB
        have HF := Aside0.mk (show fstI (fun m => srch (allU D.length) (T.zip NR) m 0) (5 - 1) 1 = (r1, r2) by rw [EN.out]; exact G4.out)
        go_loopg [13] 5 (fun gg s13 wr => ∃ (j : Nat) (gm : Nat), s13 = .pointer (some ⟨gm, 0, none⟩) ∧ 1 ≤ j ∧ j ≤ 5 ∧ 5 - j ≤ gg ∧ Aside0 (wr.heap[gm]? = some (.cells #[.int .i64 (j : Int)] 3 (0, 0))) ∧ Aside0 (w.heap.size ≤ gm) ∧ Aside0 (LQ wr w.heap.size gx gn ba (allU D.length) AT cT T AN cN NR) ∧ Aside0 (Below w.heap.size w wr) ∧ Aside0 (fstI (fun m => srch (allU D.length) (T.zip NR) m 0) (5 - j) j = (r1, r2)))
        case atStart => exact ⟨1, gm0, rfl, by omega, by omega, by omega, HM, HS6, HQ, HB6, HF⟩
        case round =>
          clear HQ HB6 HM HS6 HF
          obtain ⟨j, gm, rfl, hj1, hj5, hgj, HM, HS, HQ, HB, HF⟩ := hrel
          have cm : wr.cell? ⟨gm, 0, none⟩ = some (.int .i64 (j : Int)) := (blk_cell HM.out 0).trans rfl
          by_cases hj4 : j ≤ 4
          · have hji : (j : Int) ≤ 4 := by omega
            have hsz := HB.out.size
            have HA := Aside0.mk (HQ.out.apart HM.out hsz)
            have HC0 := Aside0.mk (HQ.out.start HM.out hsz)
            clear hsz
            go_upto_region 26 with fail
            obtain ⟨B, hBd⟩ : ∃ B : LB, B = lbOf wr gm ba gx gn := ⟨_, rfl⟩
            have hBf : B.bf = wr.heap.size + 1 + 1 := by rw [hBd]; rfl
            have hBl : B.bl = wr.heap.size + 1 := by rw [hBd]; rfl
            have hBm : B.bm = gm := by rw [hBd]; rfl
            have hBa : B.ba = ba := by rw [hBd]; rfl
            have hBt : B.bt = gx := by rw [hBd]; rfl
            have hBn : B.bn = gn := by rw [hBd]; rfl
            rw [← hBd] at HA HC0
            clear hBd
            have HB8 := Aside0.mk (below_alloc (below_alloc (below_alloc HB.out (.cells #[] 2)) (.cells #[.slice (some ⟨wr.heap.size, 0, none⟩) 0 0] 24)) (.cells #[lsV B] 69))
            have hvv : Value.func (.func 71) #[] #[.pointer (some ⟨wr.heap.size + 1, 0, none⟩), .pointer (some ⟨gm, 0, none⟩), .pointer (some ⟨ba, 0, none⟩), .pointer (some ⟨gx, 0, none⟩), .pointer (some ⟨wr.heap.size + 1 + 1, 0, none⟩), .pointer (some ⟨gn, 0, none⟩)] = lsV B := by
              unfold lsV
              rw [hBf, hBl, hBm, hBa, hBt, hBn]
            rw [hvv]
            generalize ((wr.alloc (.cells #[] 2)).alloc (.cells #[.slice (some ⟨wr.heap.size, 0, none⟩) 0 0] 24)).alloc (.cells #[lsV B] 69) = W8 at HC0 HB8 ⊢
            have hlen : NR.length = T.length := by rw [EN.out]; simp
            have hcl := sl_all w B j (allU D.length) AT cT T AN cN NR HA.out (by omega) (by omega) hlen j _ [] 0 0 W8 HC0.out HB8.out (by simp) (Nat.zero_le _)
            rw [List.drop_zero] at hcl
            obtain ⟨s8, hs8⟩ : ∃ s8, s8 = srch (allU D.length) (T.zip NR) j 0 := ⟨_, rfl⟩
            rw [← hs8] at hcl
            obtain ⟨b8, hb8⟩ : ∃ b8, b8 = s8.isSome := ⟨_, rfl⟩
            rw [← hb8] at hcl
            have HCL := Aside0.mk hcl
            have HS8 := Aside0.mk hs8
            have HBB := Aside0.mk hb8
            have cf : W8.cell? ⟨wr.heap.size + 1 + 1, 0, none⟩ = some (.func (.func 71) #[] #[.pointer (some ⟨B.bl, 0, none⟩), .pointer (some ⟨B.bm, 0, none⟩), .pointer (some ⟨B.ba, 0, none⟩), .pointer (some ⟨B.bt, 0, none⟩), .pointer (some ⟨B.bf, 0, none⟩), .pointer (some ⟨B.bn, 0, none⟩)]) := by
              have h1 := (blk_cell HC0.out.kf 0).trans rfl
              rw [hBf] at h1
              exact h1
            have HBM := Aside0.mk hBm
            have HBT := Aside0.mk (show B.bt = gx ∧ B.bn = gn ∧ B.ba = ba ∧ B.bl = wr.heap.size + 1 from ⟨hBt, hBn, hBa, hBl⟩)
            clear hcl hs8 hb8 hBf hBl hBm hBa hBt hBn hvv hlen cm
            have heg := eg_lt
            go_wp2_with fail
            refine HCL.out.mono ?_
            rintro e w9 ⟨rfl, hB9, vL9, hN9⟩
            cases s8 with
            | some l =>
              have hb8 : b8 = true := HBB.out
              subst hb8
              have hN9 : LC w9 w.heap.size B j (allU D.length) AT cT T AN cN NR vL9 ([] ++ l) := hN9
              rw [List.nil_append] at hN9
              have hF := HF.out
              rw [show 5 - j = (4 - j) + 1 by omega] at hF
              simp only [fstI] at hF
              rw [← HS8.out] at hF
              have hF : ((l, 0) : List Int × Int) = (r1, r2) := hF
              have hF1 : r1 = l := (congrArg Prod.fst hF).symm
              have hF2 : r2 = 0 := (congrArg Prod.snd hF).symm
              subst hF1 hF2
              have cl : w9.cell? ⟨wr.heap.size + 1, 0, none⟩ = some vL9 := by
                have h1 := (blk_cell hN9.kl 0).trans rfl
                rw [HBT.out.2.2.2] at h1
                exact h1
              clear hF HF cf heg
              go_wp2
              go_ret2
              exact ⟨_, rfl, Kd.R_mono hN9.hL (fun _ _ => trivial), hB9⟩
            | none =>
              have hb8 : b8 = false := HBB.out
              subst hb8
              have hQ9 := hN9.back
              rw [HBT.out.1, HBT.out.2.1, HBT.out.2.2.1] at hQ9
              have hm9 := hN9.km
              rw [HBM.out] at hm9
              have cm : w9.cell? ⟨gm, 0, none⟩ = some (.int .i64 (j : Int)) := (blk_cell hm9 0).trans rfl
              have hF := HF.out
              rw [show 5 - j = (5 - (j + 1)) + 1 by omega] at hF
              simp only [fstI] at hF
              rw [← HS8.out] at hF
              have HF1 := Aside0.mk (show fstI (fun m => srch (allU D.length) (T.zip NR) m 0) (5 - (j + 1)) (j + 1) = (r1, r2) from hF)
              clear hF HF cf heg hN9
              have hm10 := blk_new w9 (.cells #[.int .i64 ((j + 1 : Nat) : Int)] 3)
              have HM10 := Aside0.mk hm10
              have HQ10 := Aside0.mk (hQ9.below (below_alloc (Below.refl _ _) (.cells #[.int .i64 ((j + 1 : Nat) : Int)] 3)))
              have HB10 := Aside0.mk (below_alloc hB9 (.cells #[.int .i64 ((j + 1 : Nat) : Int)] 3))
              have hs10 := hB9.size
              clear hm10 hQ9 hm9
              go_wp2
              go_roundg (5 - (j + 1))
              case measure => omega
              case rel =>
                refine ⟨j + 1, w9.heap.size, rfl, by omega, by omega, by omega, ?_, ⟨hs10⟩, ?_, ?_, HF1⟩
                · first | exact HM10 | (refine ⟨?_⟩; simpa using HM10.out)
                · first | exact HQ10 | (refine ⟨?_⟩; simpa using HQ10.out)
                · first | exact HB10 | (refine ⟨?_⟩; simpa using HB10.out)
          · have hji : ¬ (j : Int) ≤ 4 := by omega
            have hF := HF.out
            rw [show 5 - j = 0 by omega] at hF
            have hF : (([], 3) : List Int × Int) = (r1, r2) := hF
            have hF1 : r1 = [] := (congrArg Prod.fst hF).symm
            have hF2 : r2 = 3 := (congrArg Prod.snd hF).symm
            subst hF1 hF2
            clear hF HF
            go_wp2
            go_ret2
            exact ⟨_, rfl, Kd.R_nil _ _ _ _ _, HB.out⟩
theorem impl_LeastTickets.calls (k : Nat) (a0_0 : Int) (a0_1 : Int) (a0_2 : Int) (a0_3 : Int) (r1 : List Int) (r2 : Int) (w : World) (h : impl_LeastTickets.f k a0_0 a0_1 a0_2 a0_3 = some (r1, r2)) :
    Calls Try.prog 14 #[.agg #[.int .i64 a0_0, .int .i64 a0_1, .int .i64 a0_2, .int .i64 a0_3]] w fun e w' => ∃ v0_ : Value, e = .returned (.tuple #[v0_, .int .i64 r2]) ∧ Kd.R (Kd.int .i64) 2 w' w.heap.size (fun _ => True) v0_ r1 ∧ Below w.heap.size w w' := by
  unfold impl_LeastTickets.f at h
  obtain ⟨t, ht, h⟩ := Option.bind_eq_some_iff.1 h
  by_cases e : t = true
  · subst e
    rw [if_pos rfl] at h
    obtain ⟨T, hT, h⟩ := Option.bind_eq_some_iff.1 h
    obtain ⟨D, hD, h⟩ := Option.bind_eq_some_iff.1 h
    refine lt_yes k a0_0 a0_1 a0_2 a0_3 T D r1 r2 w ht hT hD ?_
    by_cases h1 : (T.length : Int) > 36
    · rw [if_pos h1] at h
      injection h with h
      exact .inl ⟨by omega, (congrArg Prod.fst h).symm, (congrArg Prod.snd h).symm⟩
    · rw [if_neg h1] at h
      by_cases h2 : (D.length : Int) > 36
      · rw [if_pos h2] at h
        injection h with h
        exact .inr (.inl ⟨by omega, by omega, (congrArg Prod.fst h).symm, (congrArg Prod.snd h).symm⟩)
      · rw [if_neg h2] at h
        by_cases h3 : (T.all fun t => D.all fun x => (impl_hits.f a0_0 a0_1 a0_2 a0_3 t x).isSome) = true
        · rw [if_pos h3] at h
          injection h with h
          refine .inr (.inr ⟨by omega, by omega, fun t ht x hx => ?_, h⟩)
          have h4 := List.all_eq_true.1 (List.all_eq_true.1 h3 t ht) x hx
          unfold hitB
          cases hq : impl_hits.f a0_0 a0_1 a0_2 a0_3 t x with
          | none => rw [hq] at h4; cases h4
          | some b => rfl
        · rw [if_neg h3] at h; cases h
  · rw [if_neg e] at h
    injection h with h
    have e2 : t = false := by simpa using e
    subst e2
    have h1 : r1 = [] := (congrArg Prod.fst h).symm
    have h2 : r2 = 1 := (congrArg Prod.snd h).symm
    subst h1 h2
    exact lt_no a0_0 a0_1 a0_2 a0_3 w ht

/-! ### laws_FnExactLeastTickets: function 4 -/
mutual
def laws_FnExactLeastTickets.j0 : Nat → List Int → Int → List Int → Bool → Int → Int → Int → Int → Option (Bool)
  | 0, _, _, _, _, _, _, _, _ => none
  | k + 1, x3, x4, x5, x31, x201000, x201001, x201002, x201003 => if x31 = true then (some false) else ((laws_markInt64S.f k x5 1).bind fun bt218 => ((laws_heldInt64S.f k bt218.2 1).bind fun t220 => (if t220 < 0 then (some false) else (if t220 = bt218.1 then ((laws_toLottery.f x201000 x201001 x201002 x201003).bind fun bt221 => ((impl_LeastTickets.f k bt221.1 bt221.2.1 bt221.2.2.1 bt221.2.2.2).bind fun bt225 => ((laws_eqInt64S.f k bt225.1 x3).bind fun t229 => (if t229 = true then (laws_FnExactLeastTickets.j1 k bt218.2 bt218.1 (bt225.2 != x4)) else (laws_FnExactLeastTickets.j1 k bt218.2 bt218.1 true))))) else (some false)))))
def laws_FnExactLeastTickets.j1 : Nat → List Int → Int → Bool → Option (Bool)
  | 0, _, _, _ => none
  | k + 1, x5, x7, x57 => if x57 = true then (some false) else ((laws_heldInt64S.f k x5 1).bind fun t230 => (if t230 < 0 then (some false) else (if t230 = x7 then (some true) else (some false))))
end
def laws_FnExactLeastTickets.f (k : Nat) (a0_0 : Int) (a0_1 : Int) (a0_2 : Int) (a0_3 : Int) : Option (Bool) := (laws_toLottery.f a0_0 a0_1 a0_2 a0_3).bind fun bt201 => ((spec_LeastTickets.f k bt201.1 bt201.2.1 bt201.2.2.1 bt201.2.2.2).bind fun bt205 => ((laws_toLottery.f a0_0 a0_1 a0_2 a0_3).bind fun bt209 => ((impl_LeastTickets.f k bt209.1 bt209.2.1 bt209.2.2.1 bt209.2.2.2).bind fun bt213 => ((laws_eqInt64S.f k bt213.1 bt205.1).bind fun t217 => (if t217 = true then (laws_FnExactLeastTickets.j0 k bt205.1 bt205.2 bt213.1 (bt213.2 != bt205.2) a0_0 a0_1 a0_2 a0_3) else (laws_FnExactLeastTickets.j0 k bt205.1 bt205.2 bt213.1 true a0_0 a0_1 a0_2 a0_3))))))
theorem laws_FnExactLeastTickets.mono_l : ∀ k, (∀ y0 y1 y2 y3 y4 y5 y6 y7, LeO (laws_FnExactLeastTickets.j0 k y0 y1 y2 y3 y4 y5 y6 y7) (laws_FnExactLeastTickets.j0 (k + 1) y0 y1 y2 y3 y4 y5 y6 y7)) ∧ (∀ y0 y1 y2, LeO (laws_FnExactLeastTickets.j1 k y0 y1 y2) (laws_FnExactLeastTickets.j1 (k + 1) y0 y1 y2))
  | 0 => ⟨fun _ _ _ _ _ _ _ _ r h => by simp [laws_FnExactLeastTickets.j0] at h, fun _ _ _ r h => by simp [laws_FnExactLeastTickets.j1] at h⟩
  | k + 1 => by
    obtain ⟨ih0, ih1⟩ := laws_FnExactLeastTickets.mono_l k
    refine ⟨?_, ?_⟩
    · intro y0 y1 y2 y3 y4 y5 y6 y7
      unfold laws_FnExactLeastTickets.j0
      repeat' first
      | (with_reducible exact ih0 _ _ _ _ _ _ _ _)
      | (with_reducible exact ih1 _ _ _)
      | (with_reducible exact impl_LeastTickets.mono _ _ _ _ _)
      | (with_reducible exact laws_eqInt64S.mono _ _ _)
      | (with_reducible exact laws_heldInt64S.mono _ _ _)
      | (with_reducible exact laws_markInt64S.mono _ _ _)
      | (with_reducible exact spec_LeastTickets.mono _ _ _ _ _)
      | (with_reducible exact LeO.refl _)
      | (with_reducible exact LeO.none _)
      | (with_reducible refine LeO.ite ?_ ?_)
      | (with_reducible refine LeO.bind ?_ (fun _ => ?_))
      | exact ih0 _ _ _ _ _ _ _ _
      | exact ih1 _ _ _
      | exact impl_LeastTickets.mono _ _ _ _ _
      | exact laws_eqInt64S.mono _ _ _
      | exact laws_heldInt64S.mono _ _ _
      | exact laws_markInt64S.mono _ _ _
      | exact spec_LeastTickets.mono _ _ _ _ _
      | exact LeO.none _
      | refine LeO.ite ?_ ?_
      | refine LeO.bind ?_ (fun _ => ?_)
    · intro y0 y1 y2
      unfold laws_FnExactLeastTickets.j1
      repeat' first
      | (with_reducible exact ih0 _ _ _ _ _ _ _ _)
      | (with_reducible exact ih1 _ _ _)
      | (with_reducible exact impl_LeastTickets.mono _ _ _ _ _)
      | (with_reducible exact laws_eqInt64S.mono _ _ _)
      | (with_reducible exact laws_heldInt64S.mono _ _ _)
      | (with_reducible exact laws_markInt64S.mono _ _ _)
      | (with_reducible exact spec_LeastTickets.mono _ _ _ _ _)
      | (with_reducible exact LeO.refl _)
      | (with_reducible exact LeO.none _)
      | (with_reducible refine LeO.ite ?_ ?_)
      | (with_reducible refine LeO.bind ?_ (fun _ => ?_))
      | exact ih0 _ _ _ _ _ _ _ _
      | exact ih1 _ _ _
      | exact impl_LeastTickets.mono _ _ _ _ _
      | exact laws_eqInt64S.mono _ _ _
      | exact laws_heldInt64S.mono _ _ _
      | exact laws_markInt64S.mono _ _ _
      | exact spec_LeastTickets.mono _ _ _ _ _
      | exact LeO.none _
      | refine LeO.ite ?_ ?_
      | refine LeO.bind ?_ (fun _ => ?_)
theorem laws_FnExactLeastTickets.mono : ∀ a0 a1 a2 a3 k, LeO (laws_FnExactLeastTickets.f k a0 a1 a2 a3) (laws_FnExactLeastTickets.f (k + 1) a0 a1 a2 a3) := by
  intro a0 a1 a2 a3 k
  obtain ⟨ih0, ih1⟩ := laws_FnExactLeastTickets.mono_l k
  unfold laws_FnExactLeastTickets.f
  repeat' first
      | (with_reducible exact ih0 _ _ _ _ _ _ _ _)
      | (with_reducible exact ih1 _ _ _)
      | (with_reducible exact impl_LeastTickets.mono _ _ _ _ _)
      | (with_reducible exact laws_eqInt64S.mono _ _ _)
      | (with_reducible exact laws_heldInt64S.mono _ _ _)
      | (with_reducible exact laws_markInt64S.mono _ _ _)
      | (with_reducible exact spec_LeastTickets.mono _ _ _ _ _)
      | (with_reducible exact LeO.refl _)
      | (with_reducible exact LeO.none _)
      | (with_reducible refine LeO.ite ?_ ?_)
      | (with_reducible refine LeO.bind ?_ (fun _ => ?_))
      | exact ih0 _ _ _ _ _ _ _ _
      | exact ih1 _ _ _
      | exact impl_LeastTickets.mono _ _ _ _ _
      | exact laws_eqInt64S.mono _ _ _
      | exact laws_heldInt64S.mono _ _ _
      | exact laws_markInt64S.mono _ _ _
      | exact spec_LeastTickets.mono _ _ _ _ _
      | exact LeO.none _
      | refine LeO.ite ?_ ?_
      | refine LeO.bind ?_ (fun _ => ?_)
set_option maxHeartbeats 8000000 in
set_option maxRecDepth 100000 in
theorem laws_FnExactLeastTickets.calls (k : Nat) (a0_0 : Int) (a0_1 : Int) (a0_2 : Int) (a0_3 : Int) (r : Bool) (w : World) (h : laws_FnExactLeastTickets.f k a0_0 a0_1 a0_2 a0_3 = some r) :
    Calls Try.prog 4 #[.agg #[.int .i64 a0_0, .int .i64 a0_1, .int .i64 a0_2, .int .i64 a0_3]] w fun e w' => e = .returned (.bool r) ∧ Below w.heap.size w w' := by
  have hu23 := Try.underlying23
  have HB := Aside0.mk (Below.refl w.heap.size w)
  have H : ((laws_toLottery.f a0_0 a0_1 a0_2 a0_3).bind fun bt201 => ((spec_LeastTickets.f k bt201.1 bt201.2.1 bt201.2.2.1 bt201.2.2.2).bind fun bt205 => ((laws_toLottery.f a0_0 a0_1 a0_2 a0_3).bind fun bt209 => ((impl_LeastTickets.f k bt209.1 bt209.2.1 bt209.2.2.1 bt209.2.2.2).bind fun bt213 => ((laws_eqInt64S.f k bt213.1 bt205.1).bind fun t217 => (if t217 = true then (laws_FnExactLeastTickets.j0 k bt205.1 bt205.2 bt213.1 (bt213.2 != bt205.2) a0_0 a0_1 a0_2 a0_3) else (laws_FnExactLeastTickets.j0 k bt205.1 bt205.2 bt213.1 true a0_0 a0_1 a0_2 a0_3))))))) = some r := h
  clear h
  replace H := Option.bind_eq_some_iff.mp H
  obtain ⟨⟨t201, t202, t203, t204⟩, A20, H⟩ := H
  replace H : ((spec_LeastTickets.f k t201 t202 t203 t204).bind fun bt205 => ((laws_toLottery.f a0_0 a0_1 a0_2 a0_3).bind fun bt209 => ((impl_LeastTickets.f k bt209.1 bt209.2.1 bt209.2.2.1 bt209.2.2.2).bind fun bt213 => ((laws_eqInt64S.f k bt213.1 bt205.1).bind fun t217 => (if t217 = true then (laws_FnExactLeastTickets.j0 k bt205.1 bt205.2 bt213.1 (bt213.2 != bt205.2) a0_0 a0_1 a0_2 a0_3) else (laws_FnExactLeastTickets.j0 k bt205.1 bt205.2 bt213.1 true a0_0 a0_1 a0_2 a0_3)))))) = some r := H
  have A2 := Aside0.mk A20
  clear A20
  replace H := Option.bind_eq_some_iff.mp H
  obtain ⟨⟨t205, t208⟩, A30, H⟩ := H
  replace H : ((laws_toLottery.f a0_0 a0_1 a0_2 a0_3).bind fun bt209 => ((impl_LeastTickets.f k bt209.1 bt209.2.1 bt209.2.2.1 bt209.2.2.2).bind fun bt213 => ((laws_eqInt64S.f k bt213.1 t205).bind fun t217 => (if t217 = true then (laws_FnExactLeastTickets.j0 k t205 t208 bt213.1 (bt213.2 != t208) a0_0 a0_1 a0_2 a0_3) else (laws_FnExactLeastTickets.j0 k t205 t208 bt213.1 true a0_0 a0_1 a0_2 a0_3))))) = some r := H
  have A3 := Aside0.mk A30
  clear A30
  replace H := Option.bind_eq_some_iff.mp H
  obtain ⟨⟨t209, t210, t211, t212⟩, A40, H⟩ := H
  replace H : ((impl_LeastTickets.f k t209 t210 t211 t212).bind fun bt213 => ((laws_eqInt64S.f k bt213.1 t205).bind fun t217 => (if t217 = true then (laws_FnExactLeastTickets.j0 k t205 t208 bt213.1 (bt213.2 != t208) a0_0 a0_1 a0_2 a0_3) else (laws_FnExactLeastTickets.j0 k t205 t208 bt213.1 true a0_0 a0_1 a0_2 a0_3)))) = some r := H
  have A4 := Aside0.mk A40
  clear A40
  replace H := Option.bind_eq_some_iff.mp H
  obtain ⟨⟨t213, t216⟩, A50, H⟩ := H
  replace H : ((laws_eqInt64S.f k t213 t205).bind fun t217 => (if t217 = true then (laws_FnExactLeastTickets.j0 k t205 t208 t213 (t216 != t208) a0_0 a0_1 a0_2 a0_3) else (laws_FnExactLeastTickets.j0 k t205 t208 t213 true a0_0 a0_1 a0_2 a0_3))) = some r := H
  have A5 := Aside0.mk A50
  clear A50
  have HC6 := Aside0.mk H
  clear H
  go_enter Try.func4, Try.ntmps4
  go_upto_region 3 with (first | ((with_reducible refine gate_dst (N := 1) rfl ?_); refine box_event ?hg (N := 1) ?hd (cs := #[.int .i64 a0_0, .int .i64 a0_1, .int .i64 a0_2, .int .i64 a0_3]) (t := 23) ?hr ?_; (case hd => rfl); (case hg => rfl); (case hr => first | (go_simp; done) | (go_simp; rfl)); intro gb200 hg w7 hbox hb; have n0_ := Aside0.mk (below_step (by repeat (first | (with_reducible first | exact HB.out | apply below_alloc | apply pw_below_drewN | apply below_drew1) | exact HB.out)) hb); have n1_ := Aside0.mk (hbox); have n2_ := Aside0.mk ((by rw [hg]; exact (below_size (by repeat (first | (with_reducible first | exact HB.out | apply below_alloc | apply pw_below_drewN | apply below_drew1) | exact HB.out))) : w.heap.size ≤ gb200)); have n3_ := Aside0.mk ((by rw [hg]; exact (below_size (by repeat (first | (with_reducible first | exact HB.out | apply below_alloc | apply pw_below_drewN | apply below_drew1) | exact HB.out))) : w.heap.size ≤ gb200)); clear HB; have HB := n0_; have BK200 := n1_; have GW200 := n2_; have GE200 := n3_; clear n0_ n1_ n2_ n3_; clear hb hbox hg; have hcz8_0 : w7.cell? ⟨gb200, 0, none⟩ = some (.int .i64 a0_0) := (blk_cell BK200.out 0).trans rfl; have hcz8_1 : w7.cell? ⟨gb200, 1, none⟩ = some (.int .i64 a0_1) := (blk_cell BK200.out 1).trans rfl; have hcz8_2 : w7.cell? ⟨gb200, 2, none⟩ = some (.int .i64 a0_2) := (blk_cell BK200.out 2).trans rfl; have hcz8_3 : w7.cell? ⟨gb200, 3, none⟩ = some (.int .i64 a0_3) := (blk_cell BK200.out 3).trans rfl; have hfz8_0 := blk_frozen BK200.out 0; have hfz8_1 := blk_frozen BK200.out 1; have hfz8_2 := blk_frozen BK200.out 2; have hfz8_3 := blk_frozen BK200.out 3) | ((with_reducible refine gate_callee (f := 8) rfl ?_); refine goesL_ (some 13) rfl rfl Try.func8 (by kernel_rfl) rfl #[.agg #[.int .i64 a0_0, .int .i64 a0_1, .int .i64 a0_2, .int .i64 a0_3]] rfl (by (try simp only [List.map_toArray, List.map_cons, List.map_nil]); first | done | rfl | (simp only [List.length_drop, List.length_take]; rfl)) ?_; (with_reducible refine (laws_toLottery.calls a0_0 a0_1 a0_2 a0_3 t201 t202 t203 t204 _ A2.out).mono ?_); rintro e w9 ⟨rfl, hb⟩; refine ⟨_, rfl, ?_⟩; have n0_ := Aside0.mk (blk_below (g := gb200) (o := .cells #[.int .i64 a0_0, .int .i64 a0_1, .int .i64 a0_2, .int .i64 a0_3] 23 (0, 0)) (by (with_reducible repeat (first | refine blk_drewN ?_ _ | refine blk_drew ?_ | refine blk_alloc ?_ _)); exact BK200.out) hb); have n1_ := Aside0.mk (below_step (by repeat (first | (with_reducible first | exact HB.out | apply below_alloc | apply pw_below_drewN | apply below_drew1 | refine below_set ?_ GE200.out) | exact HB.out)) hb); clear BK200; clear HB; have BK200 := n0_; have HB := n1_; clear n0_ n1_; (try clear hb); (try clear hb2); (try clear hk); (try clear hi)) | ((with_reducible refine gate_callee (f := 13) rfl ?_); refine goesL_ (some 14) rfl rfl Try.func13 (by kernel_rfl) rfl #[.agg #[.int .i64 t201, .int .i64 t202, .int .i64 t203, .int .i64 t204]] rfl (by (try simp only [List.map_toArray, List.map_cons, List.map_nil]); first | done | rfl | (simp only [List.length_drop, List.length_take]; rfl)) ?_; (with_reducible refine (spec_LeastTickets.calls k t201 t202 t203 t204 t205 t208 _ A3.out).mono ?_); rintro e w10 ⟨v206, rfl, ho0, hb⟩; refine ⟨_, rfl, ?_⟩; have n0_ := Aside0.mk (Kd.R_lower ho0 (below_size (by repeat (first | (with_reducible first | exact HB.out | apply below_alloc | apply pw_below_drewN | apply below_drew1 | refine below_set ?_ GE200.out) | exact HB.out)))); have n1_ := Aside0.mk (blk_below (g := gb200) (o := .cells #[.int .i64 a0_0, .int .i64 a0_1, .int .i64 a0_2, .int .i64 a0_3] 23 (0, 0)) (by (with_reducible repeat (first | refine blk_drewN ?_ _ | refine blk_drew ?_ | refine blk_alloc ?_ _)); exact BK200.out) hb); have n2_ := Aside0.mk (below_step (by repeat (first | (with_reducible first | exact HB.out | apply below_alloc | apply pw_below_drewN | apply below_drew1 | refine below_set ?_ GE200.out) | exact HB.out)) hb); clear BK200; clear HB; have HO207 := n0_; have BK200 := n1_; have HB := n2_; clear n0_ n1_ n2_; (try clear hb); (try clear hb2); (try clear hk); (try clear hi); (try clear ho0); have hcz11_0 : w10.cell? ⟨gb200, 0, none⟩ = some (.int .i64 a0_0) := (blk_cell BK200.out 0).trans rfl; have hcz11_1 : w10.cell? ⟨gb200, 1, none⟩ = some (.int .i64 a0_1) := (blk_cell BK200.out 1).trans rfl; have hcz11_2 : w10.cell? ⟨gb200, 2, none⟩ = some (.int .i64 a0_2) := (blk_cell BK200.out 2).trans rfl; have hcz11_3 : w10.cell? ⟨gb200, 3, none⟩ = some (.int .i64 a0_3) := (blk_cell BK200.out 3).trans rfl; have hfz11_0 := blk_frozen BK200.out 0; have hfz11_1 := blk_frozen BK200.out 1; have hfz11_2 := blk_frozen BK200.out 2; have hfz11_3 := blk_frozen BK200.out 3) | ((with_reducible refine gate_callee (f := 8) rfl ?_); refine goesL_ (some 19) rfl rfl Try.func8 (by kernel_rfl) rfl #[.agg #[.int .i64 a0_0, .int .i64 a0_1, .int .i64 a0_2, .int .i64 a0_3]] rfl (by (try simp only [List.map_toArray, List.map_cons, List.map_nil]); first | done | rfl | (simp only [List.length_drop, List.length_take]; rfl)) ?_; (with_reducible refine (laws_toLottery.calls a0_0 a0_1 a0_2 a0_3 t209 t210 t211 t212 _ A4.out).mono ?_); rintro e w12 ⟨rfl, hb⟩; refine ⟨_, rfl, ?_⟩; have n0_ := Aside0.mk (Kd.R_below (by (with_reducible repeat (first | apply Kd.R_alloc | apply Kd.R_drewN | apply Kd.R_drew)); exact HO207.out) hb); have n1_ := Aside0.mk (blk_below (g := gb200) (o := .cells #[.int .i64 a0_0, .int .i64 a0_1, .int .i64 a0_2, .int .i64 a0_3] 23 (0, 0)) (by (with_reducible repeat (first | refine blk_drewN ?_ _ | refine blk_drew ?_ | refine blk_alloc ?_ _)); exact BK200.out) hb); have n2_ := Aside0.mk (below_step (by repeat (first | (with_reducible first | exact HB.out | apply below_alloc | apply pw_below_drewN | apply below_drew1 | refine below_set ?_ GE200.out) | exact HB.out)) hb); clear HO207; clear BK200; clear HB; have HO207 := n0_; have BK200 := n1_; have HB := n2_; clear n0_ n1_ n2_; (try clear hb); (try clear hb2); (try clear hk); (try clear hi)) | ((with_reducible refine gate_callee (f := 14) rfl ?_); refine goesL_ (some 20) rfl rfl Try.func14 (by kernel_rfl) rfl #[.agg #[.int .i64 t209, .int .i64 t210, .int .i64 t211, .int .i64 t212]] rfl (by (try simp only [List.map_toArray, List.map_cons, List.map_nil]); first | done | rfl | (simp only [List.length_drop, List.length_take]; rfl)) ?_; (with_reducible refine (impl_LeastTickets.calls k t209 t210 t211 t212 t213 t216 _ A5.out).mono ?_); rintro e w13 ⟨v214, rfl, ho0, hb⟩; refine ⟨_, rfl, ?_⟩; have n0_ := Aside0.mk (Kd.R_elder' (by (with_reducible repeat (first | apply Kd.R_alloc | apply Kd.R_drewN | apply Kd.R_drew)); exact HO207.out) (Kd.R_base ho0) hb); have n1_ := Aside0.mk (Kd.R_lower (Kd.R_new' ho0 (Kd.R_lt (by (with_reducible repeat (first | apply Kd.R_alloc | apply Kd.R_drewN | apply Kd.R_drew)); exact HO207.out))) (below_size (by repeat (first | (with_reducible first | exact HB.out | apply below_alloc | apply pw_below_drewN | apply below_drew1 | refine below_set ?_ GE200.out) | exact HB.out)))); have n2_ := Aside0.mk (blk_below (g := gb200) (o := .cells #[.int .i64 a0_0, .int .i64 a0_1, .int .i64 a0_2, .int .i64 a0_3] 23 (0, 0)) (by (with_reducible repeat (first | refine blk_drewN ?_ _ | refine blk_drew ?_ | refine blk_alloc ?_ _)); exact BK200.out) hb); have n3_ := Aside0.mk (below_step (by repeat (first | (with_reducible first | exact HB.out | apply below_alloc | apply pw_below_drewN | apply below_drew1 | refine below_set ?_ GE200.out) | exact HB.out)) hb); clear HO207; clear BK200; clear HB; have HO207 := n0_; have HO215 := n1_; have BK200 := n2_; have HB := n3_; clear n0_ n1_ n2_ n3_; (try clear hb); (try clear hb2); (try clear hk); (try clear hi); (try clear ho0)))
  (try simp only [Act.put, List.setIfInBounds_toArray, List.set_cons_zero, List.set_cons_succ])
  go_cut [31] (fun v31 wc => ∃ (kq : Nat) (x31_5 : Bool), v31 = .bool x31_5 ∧ Aside0 (laws_FnExactLeastTickets.j0 kq t205 t208 t213 x31_5 a0_0 a0_1 a0_2 a0_3 = some r) ∧ Aside0 (kq ≤ k) ∧ Aside0 (Kd.R (Kd.int .i64) 2 wc w.heap.size (fun k_ => some k_ ≠ (v214 : Value).ownBlock) v206 t205) ∧ Aside0 (Kd.R (Kd.int .i64) 2 wc w.heap.size (fun k_ => some k_ ≠ (v206 : Value).ownBlock) v214 t213) ∧ Aside0 (wc.heap[gb200]? = some (.cells #[.int .i64 a0_0, .int .i64 a0_1, .int .i64 a0_2, .int .i64 a0_3] 23 (0, 0))) ∧ Aside0 (Below w.heap.size w wc))
  case first =>
    have H := HC6.out
    clear HC6
    replace H := Option.bind_eq_some_iff.mp H
    obtain ⟨t217, A140, H⟩ := H
    replace H : (if t217 = true then (laws_FnExactLeastTickets.j0 k t205 t208 t213 (t216 != t208) a0_0 a0_1 a0_2 a0_3) else (laws_FnExactLeastTickets.j0 k t205 t208 t213 true a0_0 a0_1 a0_2 a0_3)) = some r := H
    have A14 := Aside0.mk A140
    clear A140
    by_cases c15 : t217 = true
    · subst c15
      have H1 : (laws_FnExactLeastTickets.j0 k t205 t208 t213 (t216 != t208) a0_0 a0_1 a0_2 a0_3) = some r := by rw [if_pos rfl] at H; exact H
      clear H
      have H := H1
      clear H1
      have H' := Aside0.mk H
      clear H
      obtain ⟨Ao16, co16, eo16⟩ := Kd.R_slice HO215.out
      subst eo16
      obtain ⟨Ao17, co17, eo17⟩ := Kd.R_slice HO207.out
      subst eo17
      go_wp2_with (first | ((with_reducible refine gate_callee (f := 10) rfl ?_); refine goesL_ (some 25) rfl rfl Try.func10 (by kernel_rfl) rfl #[.slice Ao16 t213.length co16, .slice Ao17 t205.length co17] rfl (by (try simp only [List.map_toArray, List.map_cons, List.map_nil]); first | done | rfl | (simp only [List.length_drop, List.length_take]; rfl)) ?_; (with_reducible refine (laws_eqInt64S.calls k _ _ t213 _ _ t205 true _ ?side1 ?side2 ?side3 ?side4 A14.out).mono ?_); (case side1 => repeat (first | exact (Kd.R_reads' HO215.out).2.2 | (with_reducible refine Kd.C_alloc ?_ _) | (with_reducible refine Kd.C_drewN ?_ _) | (with_reducible refine Kd.C_drew ?_))); (case side2 => exact (Kd.R_reads' HO215.out).2.1); (case side3 => repeat (first | exact (Kd.R_reads' HO207.out).2.2 | (with_reducible refine Kd.C_alloc ?_ _) | (with_reducible refine Kd.C_drewN ?_ _) | (with_reducible refine Kd.C_drew ?_))); (case side4 => exact (Kd.R_reads' HO207.out).2.1); rintro e w' ⟨rfl, ⟨nd, rfl⟩⟩; refine ⟨_, rfl, ?_⟩))
      go_meet
      case rel => exact ⟨_, ((t216 != t208)), (by first | rfl | (simp; done) | (simp [*]; done)), H', ⟨by first | omega | exact Nat.le_refl _⟩, ⟨by (with_reducible repeat (first | apply Kd.R_alloc | apply Kd.R_drewN | apply Kd.R_drew)); exact Kd.R_mono HO207.out (fun _ hk => hk.2)⟩, ⟨by (with_reducible repeat (first | apply Kd.R_alloc | apply Kd.R_drewN | apply Kd.R_drew)); exact Kd.R_mono HO215.out (fun _ hk => hk.2)⟩, ⟨by (with_reducible repeat (first | refine blk_drewN ?_ _ | refine blk_drew ?_ | refine blk_alloc ?_ _)); exact BK200.out⟩, ⟨by repeat (first | (with_reducible first | exact HB.out | apply below_alloc | apply pw_below_drewN | apply below_drew1 | refine below_set ?_ GE200.out) | exact HB.out)⟩⟩
    · replace c15 := Bool.eq_false_iff.mpr c15
      subst c15
      have H1 : (laws_FnExactLeastTickets.j0 k t205 t208 t213 true a0_0 a0_1 a0_2 a0_3) = some r := by rw [if_neg (show ¬ (false = true) by decide)] at H; exact H
      clear H
      have H := H1
      clear H1
      have H' := Aside0.mk H
      clear H
      obtain ⟨Ao18, co18, eo18⟩ := Kd.R_slice HO215.out
      subst eo18
      obtain ⟨Ao19, co19, eo19⟩ := Kd.R_slice HO207.out
      subst eo19
      go_wp2_with (first | ((with_reducible refine gate_callee (f := 10) rfl ?_); refine goesL_ (some 25) rfl rfl Try.func10 (by kernel_rfl) rfl #[.slice Ao18 t213.length co18, .slice Ao19 t205.length co19] rfl (by (try simp only [List.map_toArray, List.map_cons, List.map_nil]); first | done | rfl | (simp only [List.length_drop, List.length_take]; rfl)) ?_; (with_reducible refine (laws_eqInt64S.calls k _ _ t213 _ _ t205 false _ ?side1 ?side2 ?side3 ?side4 A14.out).mono ?_); (case side1 => repeat (first | exact (Kd.R_reads' HO215.out).2.2 | (with_reducible refine Kd.C_alloc ?_ _) | (with_reducible refine Kd.C_drewN ?_ _) | (with_reducible refine Kd.C_drew ?_))); (case side2 => exact (Kd.R_reads' HO215.out).2.1); (case side3 => repeat (first | exact (Kd.R_reads' HO207.out).2.2 | (with_reducible refine Kd.C_alloc ?_ _) | (with_reducible refine Kd.C_drewN ?_ _) | (with_reducible refine Kd.C_drew ?_))); (case side4 => exact (Kd.R_reads' HO207.out).2.1); rintro e w' ⟨rfl, ⟨nd, rfl⟩⟩; refine ⟨_, rfl, ?_⟩))
      go_meet
      case rel => exact ⟨_, (true), (by first | rfl | (simp; done) | (simp [*]; done)), H', ⟨by first | omega | exact Nat.le_refl _⟩, ⟨by (with_reducible repeat (first | apply Kd.R_alloc | apply Kd.R_drewN | apply Kd.R_drew)); exact Kd.R_mono HO207.out (fun _ hk => hk.2)⟩, ⟨by (with_reducible repeat (first | apply Kd.R_alloc | apply Kd.R_drewN | apply Kd.R_drew)); exact Kd.R_mono HO215.out (fun _ hk => hk.2)⟩, ⟨by (with_reducible repeat (first | refine blk_drewN ?_ _ | refine blk_drew ?_ | refine blk_alloc ?_ _)); exact BK200.out⟩, ⟨by repeat (first | (with_reducible first | exact HB.out | apply below_alloc | apply pw_below_drewN | apply below_drew1 | refine below_set ?_ GE200.out) | exact HB.out)⟩⟩
  case rest =>
    clear HC6
    try clear c1
    try clear p2
    try clear c4
    try clear c8
    try clear c10
    try clear c13
    try clear c14
    try clear c15
    try clear hcz11_0
    try clear hcz11_1
    try clear hcz11_2
    try clear hcz11_3
    try clear hcz8_0
    try clear hcz8_1
    try clear hcz8_2
    try clear hcz8_3
    try clear hfz11_0
    try clear hfz11_1
    try clear hfz11_2
    try clear hfz11_3
    try clear hfz8_0
    try clear hfz8_1
    try clear hfz8_2
    try clear hfz8_3
    obtain ⟨kq, x31_5, rfl, HA, HJ5, HO_3, HO_5, BK200, HB⟩ := hcut
    cases kq with
    | zero => exact absurd HA.out (by simp [laws_FnExactLeastTickets.j0])
    | succ kj5 =>
      have H := HA.out
      clear HA
      simp only [laws_FnExactLeastTickets.j0] at H
      by_cases c20 : x31_5 = true
      · subst c20
        have H1 : (some false) = some r := by rw [if_pos rfl] at H; exact H
        clear H
        have H := H1
        clear H1
        obtain rfl := Option.some.inj H
        go_wp2
        go_ret
        exact ⟨by first | rfl | (simp [errW_none, errW_some] <;> rfl) | (simp [*, errW_none, errW_some] <;> rfl), by repeat (first | (with_reducible first | exact HB.out | apply below_alloc | apply pw_below_drewN | apply below_drew1 | refine below_set ?_ GE200.out) | exact HB.out)⟩
      · replace c20 := Bool.eq_false_iff.mpr c20
        subst c20
        have H1 : ((laws_markInt64S.f kj5 t213 1).bind fun bt218 => ((laws_heldInt64S.f kj5 bt218.2 1).bind fun t220 => (if t220 < 0 then (some false) else (if t220 = bt218.1 then ((laws_toLottery.f a0_0 a0_1 a0_2 a0_3).bind fun bt221 => ((impl_LeastTickets.f kj5 bt221.1 bt221.2.1 bt221.2.2.1 bt221.2.2.2).bind fun bt225 => ((laws_eqInt64S.f kj5 bt225.1 t205).bind fun t229 => (if t229 = true then (laws_FnExactLeastTickets.j1 kj5 bt218.2 bt218.1 (bt225.2 != t208)) else (laws_FnExactLeastTickets.j1 kj5 bt218.2 bt218.1 true))))) else (some false))))) = some r := by rw [if_neg (show ¬ (false = true) by decide)] at H; exact H
        clear H
        have H := H1
        clear H1
        replace H := Option.bind_eq_some_iff.mp H
        obtain ⟨⟨t218, t219⟩, A210, H⟩ := H
        replace H : ((laws_heldInt64S.f kj5 t219 1).bind fun t220 => (if t220 < 0 then (some false) else (if t220 = t218 then ((laws_toLottery.f a0_0 a0_1 a0_2 a0_3).bind fun bt221 => ((impl_LeastTickets.f kj5 bt221.1 bt221.2.1 bt221.2.2.1 bt221.2.2.2).bind fun bt225 => ((laws_eqInt64S.f kj5 bt225.1 t205).bind fun t229 => (if t229 = true then (laws_FnExactLeastTickets.j1 kj5 t219 t218 (bt225.2 != t208)) else (laws_FnExactLeastTickets.j1 kj5 t219 t218 true))))) else (some false)))) = some r := H
        have A21 := Aside0.mk A210
        clear A210
        replace H := Option.bind_eq_some_iff.mp H
        obtain ⟨t220, A220, H⟩ := H
        replace H : (if t220 < 0 then (some false) else (if t220 = t218 then ((laws_toLottery.f a0_0 a0_1 a0_2 a0_3).bind fun bt221 => ((impl_LeastTickets.f kj5 bt221.1 bt221.2.1 bt221.2.2.1 bt221.2.2.2).bind fun bt225 => ((laws_eqInt64S.f kj5 bt225.1 t205).bind fun t229 => (if t229 = true then (laws_FnExactLeastTickets.j1 kj5 t219 t218 (bt225.2 != t208)) else (laws_FnExactLeastTickets.j1 kj5 t219 t218 true))))) else (some false))) = some r := H
        have A22 := Aside0.mk A220
        clear A220
        by_cases c23 : t220 < 0
        · rw [if_pos c23] at H
          have c23b0 : decide (t220 < 0) = true := decide_eq_true c23
          clear c23
          obtain rfl := Option.some.inj H
          obtain ⟨Ao24, co24, eo24⟩ := Kd.R_slice HO_5.out
          subst eo24
          go_wp2_with (first | ((with_reducible refine gate_callee (f := 11) rfl ?_); refine goesL_ (some 34) rfl rfl Try.func11 (by kernel_rfl) rfl #[.slice Ao24 t213.length co24, .int .i64 1] rfl (by (try simp only [List.map_toArray, List.map_cons, List.map_nil]); first | done | rfl | (simp only [List.length_drop, List.length_take]; rfl)) ?_; (with_reducible refine (laws_markInt64S.calls kj5 (fun k_ => some k_ = (.slice Ao24 t213.length co24 : Value).ownBlock) (.slice Ao24 t213.length co24) t213 1 t218 t219 w _ ?side1 ?side2 A21.out).mono ?_); (case side1 => repeat (first | (with_reducible first | exact HB.out | apply below_alloc | apply pw_below_drewN | apply below_drew1 | refine below_set ?_ GE200.out) | exact HB.out)); (case side2 => exact Kd.R_tight rfl HO_5.out); rintro e w25 ⟨rfl, hy0, hb, hkp⟩; refine ⟨_, rfl, ?_⟩; have n0_ := Aside0.mk (Kd.R_mono (ok' := fun k_ => some k_ ≠ (.slice Ao24 t213.length co24 : Value).ownBlock) (Kd.R_keptB (HO_3.out) hkp (fun k_ hk_ hs_ => (hk_) hs_)) (fun k_ hk_ => hk_.1)); have n1_ := Aside0.mk (Kd.R_reok rfl hy0 (fun k_ e_ => HO_5.out.1 k_ e_)); have n2_ := Aside0.mk (blk_kept (by (with_reducible repeat (first | refine blk_drewN ?_ _ | refine blk_drew ?_ | refine blk_alloc ?_ _)); exact BK200.out) hkp (fun hs_ => (fun e_ => (Kd.R_ne HO_5.out BK200.out (by decide)) e_) hs_)); have n3_ := Aside0.mk (hb); clear HO_3; clear HO_5; clear BK200; clear HB; have HO_3 := n0_; have HO_5 := n1_; have BK200 := n2_; have HB := n3_; clear n0_ n1_ n2_ n3_; (try clear hb); (try clear hkp); (try clear hy0)) | ((with_reducible refine gate_callee (f := 12) rfl ?_); refine goesL_ (some 37) rfl rfl Try.func12 (by kernel_rfl) rfl #[.slice Ao24 t219.length co24, .int .i64 1] rfl (by (try simp only [List.map_toArray, List.map_cons, List.map_nil]); first | done | (rw [show t219.length = t213.length from (Kd.R_reads' HO_5.out).1.symm] <;> rfl) | rfl | (simp only [List.length_drop, List.length_take]; rfl)) ?_; (with_reducible refine (laws_heldInt64S.calls kj5 _ _ t219 1 t220 _ ?side1 ?side2 A22.out).mono ?_); (case side1 => repeat (first | exact (Kd.R_reads' HO_5.out).2.2 | (with_reducible refine Kd.C_alloc ?_ _) | (with_reducible refine Kd.C_drewN ?_ _) | (with_reducible refine Kd.C_drew ?_))); (case side2 => rw [show t219.length = t213.length from (Kd.R_reads' HO_5.out).1.symm]; exact (Kd.R_reads' HO_5.out).2.1); rintro e w' ⟨rfl, ⟨nd, rfl⟩⟩; refine ⟨_, rfl, ?_⟩))
          go_ret
          exact ⟨by first | rfl | (simp [errW_none, errW_some] <;> rfl) | (simp [*, errW_none, errW_some] <;> rfl), by repeat (first | (with_reducible first | exact HB.out | apply below_alloc | apply pw_below_drewN | apply below_drew1 | refine below_set ?_ GE200.out) | exact HB.out)⟩
        · rw [if_neg c23] at H
          have c23b0 : decide (t220 < 0) = false := decide_eq_false c23
          clear c23
          by_cases c26 : t220 = t218
          · rw [if_pos c26] at H
            have c26b0 : (t220 == t218) = true := beq_iff_eq.mpr c26
            have c26b1 : (t220 != t218) = false := bne_eq_false_iff_eq.mpr c26
            clear c26
            replace H := Option.bind_eq_some_iff.mp H
            obtain ⟨⟨t221, t222, t223, t224⟩, A270, H⟩ := H
            replace H : ((impl_LeastTickets.f kj5 t221 t222 t223 t224).bind fun bt225 => ((laws_eqInt64S.f kj5 bt225.1 t205).bind fun t229 => (if t229 = true then (laws_FnExactLeastTickets.j1 kj5 t219 t218 (bt225.2 != t208)) else (laws_FnExactLeastTickets.j1 kj5 t219 t218 true)))) = some r := H
            have A27 := Aside0.mk A270
            clear A270
            replace H := Option.bind_eq_some_iff.mp H
            obtain ⟨⟨t225, t228⟩, A280, H⟩ := H
            replace H : ((laws_eqInt64S.f kj5 t225 t205).bind fun t229 => (if t229 = true then (laws_FnExactLeastTickets.j1 kj5 t219 t218 (t228 != t208)) else (laws_FnExactLeastTickets.j1 kj5 t219 t218 true))) = some r := H
            have A28 := Aside0.mk A280
            clear A280
            have HC29 := Aside0.mk H
            clear H
            obtain ⟨Ao30, co30, eo30⟩ := Kd.R_slice HO_5.out
            subst eo30
            go_upto_region 14 with (first | ((with_reducible refine gate_callee (f := 11) rfl ?_); refine goesL_ (some 34) rfl rfl Try.func11 (by kernel_rfl) rfl #[.slice Ao30 t213.length co30, .int .i64 1] rfl (by (try simp only [List.map_toArray, List.map_cons, List.map_nil]); first | done | rfl | (simp only [List.length_drop, List.length_take]; rfl)) ?_; (with_reducible refine (laws_markInt64S.calls kj5 (fun k_ => some k_ = (.slice Ao30 t213.length co30 : Value).ownBlock) (.slice Ao30 t213.length co30) t213 1 t218 t219 w _ ?side1 ?side2 A21.out).mono ?_); (case side1 => repeat (first | (with_reducible first | exact HB.out | apply below_alloc | apply pw_below_drewN | apply below_drew1 | refine below_set ?_ GE200.out) | exact HB.out)); (case side2 => exact Kd.R_tight rfl HO_5.out); rintro e w31 ⟨rfl, hy0, hb, hkp⟩; refine ⟨_, rfl, ?_⟩; have n0_ := Aside0.mk (Kd.R_mono (ok' := fun k_ => some k_ ≠ (.slice Ao30 t213.length co30 : Value).ownBlock) (Kd.R_keptB (HO_3.out) hkp (fun k_ hk_ hs_ => (hk_) hs_)) (fun k_ hk_ => hk_.1)); have n1_ := Aside0.mk (Kd.R_reok rfl hy0 (fun k_ e_ => HO_5.out.1 k_ e_)); have n2_ := Aside0.mk (blk_kept (by (with_reducible repeat (first | refine blk_drewN ?_ _ | refine blk_drew ?_ | refine blk_alloc ?_ _)); exact BK200.out) hkp (fun hs_ => (fun e_ => (Kd.R_ne HO_5.out BK200.out (by decide)) e_) hs_)); have n3_ := Aside0.mk (hb); clear HO_3; clear HO_5; clear BK200; clear HB; have HO_3 := n0_; have HO_5 := n1_; have BK200 := n2_; have HB := n3_; clear n0_ n1_ n2_ n3_; (try clear hb); (try clear hkp); (try clear hy0)) | ((with_reducible refine gate_callee (f := 12) rfl ?_); refine goesL_ (some 37) rfl rfl Try.func12 (by kernel_rfl) rfl #[.slice Ao30 t219.length co30, .int .i64 1] rfl (by (try simp only [List.map_toArray, List.map_cons, List.map_nil]); first | done | (rw [show t219.length = t213.length from (Kd.R_reads' HO_5.out).1.symm] <;> rfl) | rfl | (simp only [List.length_drop, List.length_take]; rfl)) ?_; (with_reducible refine (laws_heldInt64S.calls kj5 _ _ t219 1 t220 _ ?side1 ?side2 A22.out).mono ?_); (case side1 => repeat (first | exact (Kd.R_reads' HO_5.out).2.2 | (with_reducible refine Kd.C_alloc ?_ _) | (with_reducible refine Kd.C_drewN ?_ _) | (with_reducible refine Kd.C_drew ?_))); (case side2 => rw [show t219.length = t213.length from (Kd.R_reads' HO_5.out).1.symm]; exact (Kd.R_reads' HO_5.out).2.1); rintro e w' ⟨rfl, ⟨nd, rfl⟩⟩; refine ⟨_, rfl, ?_⟩; have hcz32_0 : w31.cell? ⟨gb200, 0, none⟩ = some (.int .i64 a0_0) := (blk_cell BK200.out 0).trans rfl; have hcz32_1 : w31.cell? ⟨gb200, 1, none⟩ = some (.int .i64 a0_1) := (blk_cell BK200.out 1).trans rfl; have hcz32_2 : w31.cell? ⟨gb200, 2, none⟩ = some (.int .i64 a0_2) := (blk_cell BK200.out 2).trans rfl; have hcz32_3 : w31.cell? ⟨gb200, 3, none⟩ = some (.int .i64 a0_3) := (blk_cell BK200.out 3).trans rfl; have hfz32_0 := blk_frozen BK200.out 0; have hfz32_1 := blk_frozen BK200.out 1; have hfz32_2 := blk_frozen BK200.out 2; have hfz32_3 := blk_frozen BK200.out 3) | ((with_reducible refine gate_callee (f := 8) rfl ?_); refine goesL_ (some 45) rfl rfl Try.func8 (by kernel_rfl) rfl #[.agg #[.int .i64 a0_0, .int .i64 a0_1, .int .i64 a0_2, .int .i64 a0_3]] rfl (by (try simp only [List.map_toArray, List.map_cons, List.map_nil]); first | done | rfl | (simp only [List.length_drop, List.length_take]; rfl)) ?_; (with_reducible refine (laws_toLottery.calls a0_0 a0_1 a0_2 a0_3 t221 t222 t223 t224 _ A27.out).mono ?_); rintro e w33 ⟨rfl, hb⟩; refine ⟨_, rfl, ?_⟩; have n0_ := Aside0.mk (Kd.R_below (by (with_reducible repeat (first | apply Kd.R_alloc | apply Kd.R_drewN | apply Kd.R_drew)); exact HO_3.out) hb); have n1_ := Aside0.mk (Kd.R_below (by (with_reducible repeat (first | apply Kd.R_alloc | apply Kd.R_drewN | apply Kd.R_drew)); exact HO_5.out) hb); have n2_ := Aside0.mk (blk_below (g := gb200) (o := .cells #[.int .i64 a0_0, .int .i64 a0_1, .int .i64 a0_2, .int .i64 a0_3] 23 (0, 0)) (by (with_reducible repeat (first | refine blk_drewN ?_ _ | refine blk_drew ?_ | refine blk_alloc ?_ _)); exact BK200.out) hb); have n3_ := Aside0.mk (below_step (by repeat (first | (with_reducible first | exact HB.out | apply below_alloc | apply pw_below_drewN | apply below_drew1 | refine below_set ?_ GE200.out) | exact HB.out)) hb); clear HO_3; clear HO_5; clear BK200; clear HB; have HO_3 := n0_; have HO_5 := n1_; have BK200 := n2_; have HB := n3_; clear n0_ n1_ n2_ n3_; (try clear hb); (try clear hb2); (try clear hk); (try clear hi)) | ((with_reducible refine gate_callee (f := 14) rfl ?_); refine goesL_ (some 46) rfl rfl Try.func14 (by kernel_rfl) rfl #[.agg #[.int .i64 t221, .int .i64 t222, .int .i64 t223, .int .i64 t224]] rfl (by (try simp only [List.map_toArray, List.map_cons, List.map_nil]); first | done | rfl | (simp only [List.length_drop, List.length_take]; rfl)) ?_; (with_reducible refine (impl_LeastTickets.calls kj5 t221 t222 t223 t224 t225 t228 _ A28.out).mono ?_); rintro e w34 ⟨v226, rfl, ho0, hb⟩; refine ⟨_, rfl, ?_⟩; have n0_ := Aside0.mk (Kd.R_elder' (by (with_reducible repeat (first | apply Kd.R_alloc | apply Kd.R_drewN | apply Kd.R_drew)); exact HO_3.out) (Kd.R_base ho0) hb); have n1_ := Aside0.mk (Kd.R_elder' (by (with_reducible repeat (first | apply Kd.R_alloc | apply Kd.R_drewN | apply Kd.R_drew)); exact HO_5.out) (Kd.R_base ho0) hb); have n2_ := Aside0.mk (Kd.R_lower (Kd.R_new' (Kd.R_new' ho0 (Kd.R_lt (by (with_reducible repeat (first | apply Kd.R_alloc | apply Kd.R_drewN | apply Kd.R_drew)); exact HO_3.out))) (Kd.R_lt (by (with_reducible repeat (first | apply Kd.R_alloc | apply Kd.R_drewN | apply Kd.R_drew)); exact HO_5.out))) (below_size (by repeat (first | (with_reducible first | exact HB.out | apply below_alloc | apply pw_below_drewN | apply below_drew1 | refine below_set ?_ GE200.out) | exact HB.out)))); have n3_ := Aside0.mk (blk_below (g := gb200) (o := .cells #[.int .i64 a0_0, .int .i64 a0_1, .int .i64 a0_2, .int .i64 a0_3] 23 (0, 0)) (by (with_reducible repeat (first | refine blk_drewN ?_ _ | refine blk_drew ?_ | refine blk_alloc ?_ _)); exact BK200.out) hb); have n4_ := Aside0.mk (below_step (by repeat (first | (with_reducible first | exact HB.out | apply below_alloc | apply pw_below_drewN | apply below_drew1 | refine below_set ?_ GE200.out) | exact HB.out)) hb); clear HO_3; clear HO_5; clear BK200; clear HB; have HO_3 := n0_; have HO_5 := n1_; have HO227 := n2_; have BK200 := n3_; have HB := n4_; clear n0_ n1_ n2_ n3_ n4_; (try clear hb); (try clear hb2); (try clear hk); (try clear hi); (try clear ho0)))
            (try simp only [Act.put, List.setIfInBounds_toArray, List.set_cons_zero, List.set_cons_succ])
            go_cut [57] (fun v57 wc => ∃ (kq : Nat) (x57_28 : Bool), v57 = .bool x57_28 ∧ Aside0 (laws_FnExactLeastTickets.j1 kq t219 t218 x57_28 = some r) ∧ Aside0 (kq ≤ kj5) ∧ Aside0 (Kd.R (Kd.int .i64) 2 wc w.heap.size (fun _ => True) (.slice Ao30 t213.length co30) t219) ∧ Aside0 (wc.heap[gb200]? = some (.cells #[.int .i64 a0_0, .int .i64 a0_1, .int .i64 a0_2, .int .i64 a0_3] 23 (0, 0))) ∧ Aside0 (Below w.heap.size w wc))
            case first =>
              have H := HC29.out
              clear HC29
              replace H := Option.bind_eq_some_iff.mp H
              obtain ⟨t229, A350, H⟩ := H
              replace H : (if t229 = true then (laws_FnExactLeastTickets.j1 kj5 t219 t218 (t228 != t208)) else (laws_FnExactLeastTickets.j1 kj5 t219 t218 true)) = some r := H
              have A35 := Aside0.mk A350
              clear A350
              by_cases c36 : t229 = true
              · subst c36
                have H1 : (laws_FnExactLeastTickets.j1 kj5 t219 t218 (t228 != t208)) = some r := by rw [if_pos rfl] at H; exact H
                clear H
                have H := H1
                clear H1
                have H' := Aside0.mk H
                clear H
                obtain ⟨Ao37, co37, eo37⟩ := Kd.R_slice HO227.out
                subst eo37
                obtain ⟨Ao38, co38, eo38⟩ := Kd.R_slice HO_3.out
                subst eo38
                go_wp2_with (first | ((with_reducible refine gate_callee (f := 10) rfl ?_); refine goesL_ (some 51) rfl rfl Try.func10 (by kernel_rfl) rfl #[.slice Ao37 t225.length co37, .slice Ao38 t205.length co38] rfl (by (try simp only [List.map_toArray, List.map_cons, List.map_nil]); first | done | rfl | (simp only [List.length_drop, List.length_take]; rfl)) ?_; (with_reducible refine (laws_eqInt64S.calls kj5 _ _ t225 _ _ t205 true _ ?side1 ?side2 ?side3 ?side4 A35.out).mono ?_); (case side1 => repeat (first | exact (Kd.R_reads' HO227.out).2.2 | (with_reducible refine Kd.C_alloc ?_ _) | (with_reducible refine Kd.C_drewN ?_ _) | (with_reducible refine Kd.C_drew ?_))); (case side2 => exact (Kd.R_reads' HO227.out).2.1); (case side3 => repeat (first | exact (Kd.R_reads' HO_3.out).2.2 | (with_reducible refine Kd.C_alloc ?_ _) | (with_reducible refine Kd.C_drewN ?_ _) | (with_reducible refine Kd.C_drew ?_))); (case side4 => exact (Kd.R_reads' HO_3.out).2.1); rintro e w' ⟨rfl, ⟨nd, rfl⟩⟩; refine ⟨_, rfl, ?_⟩))
                go_meet
                case rel => exact ⟨_, ((t228 != t208)), (by first | rfl | (simp; done) | (simp [*]; done)), H', ⟨by have := HJ5.out; first | omega | exact Nat.le_refl _⟩, ⟨by (with_reducible repeat (first | apply Kd.R_alloc | apply Kd.R_drewN | apply Kd.R_drew)); exact Kd.R_mono HO_5.out (fun _ hk => trivial)⟩, ⟨by (with_reducible repeat (first | refine blk_drewN ?_ _ | refine blk_drew ?_ | refine blk_alloc ?_ _)); exact BK200.out⟩, ⟨by repeat (first | (with_reducible first | exact HB.out | apply below_alloc | apply pw_below_drewN | apply below_drew1 | refine below_set ?_ GE200.out) | exact HB.out)⟩⟩
              · replace c36 := Bool.eq_false_iff.mpr c36
                subst c36
                have H1 : (laws_FnExactLeastTickets.j1 kj5 t219 t218 true) = some r := by rw [if_neg (show ¬ (false = true) by decide)] at H; exact H
                clear H
                have H := H1
                clear H1
                have H' := Aside0.mk H
                clear H
                obtain ⟨Ao39, co39, eo39⟩ := Kd.R_slice HO227.out
                subst eo39
                obtain ⟨Ao40, co40, eo40⟩ := Kd.R_slice HO_3.out
                subst eo40
                go_wp2_with (first | ((with_reducible refine gate_callee (f := 10) rfl ?_); refine goesL_ (some 51) rfl rfl Try.func10 (by kernel_rfl) rfl #[.slice Ao39 t225.length co39, .slice Ao40 t205.length co40] rfl (by (try simp only [List.map_toArray, List.map_cons, List.map_nil]); first | done | rfl | (simp only [List.length_drop, List.length_take]; rfl)) ?_; (with_reducible refine (laws_eqInt64S.calls kj5 _ _ t225 _ _ t205 false _ ?side1 ?side2 ?side3 ?side4 A35.out).mono ?_); (case side1 => repeat (first | exact (Kd.R_reads' HO227.out).2.2 | (with_reducible refine Kd.C_alloc ?_ _) | (with_reducible refine Kd.C_drewN ?_ _) | (with_reducible refine Kd.C_drew ?_))); (case side2 => exact (Kd.R_reads' HO227.out).2.1); (case side3 => repeat (first | exact (Kd.R_reads' HO_3.out).2.2 | (with_reducible refine Kd.C_alloc ?_ _) | (with_reducible refine Kd.C_drewN ?_ _) | (with_reducible refine Kd.C_drew ?_))); (case side4 => exact (Kd.R_reads' HO_3.out).2.1); rintro e w' ⟨rfl, ⟨nd, rfl⟩⟩; refine ⟨_, rfl, ?_⟩))
                go_meet
                case rel => exact ⟨_, (true), (by first | rfl | (simp; done) | (simp [*]; done)), H', ⟨by have := HJ5.out; first | omega | exact Nat.le_refl _⟩, ⟨by (with_reducible repeat (first | apply Kd.R_alloc | apply Kd.R_drewN | apply Kd.R_drew)); exact Kd.R_mono HO_5.out (fun _ hk => trivial)⟩, ⟨by (with_reducible repeat (first | refine blk_drewN ?_ _ | refine blk_drew ?_ | refine blk_alloc ?_ _)); exact BK200.out⟩, ⟨by repeat (first | (with_reducible first | exact HB.out | apply below_alloc | apply pw_below_drewN | apply below_drew1 | refine below_set ?_ GE200.out) | exact HB.out)⟩⟩
            case rest =>
              clear HC29
              try clear c1
              try clear c2
              try clear p2
              try clear c3
              try clear c4
              try clear c8
              try clear c10
              try clear c11
              try clear c12
              try clear c13
              try clear c14
              try clear c15
              try clear c20
              try clear c23
              try clear c23b0
              try clear c26
              try clear c26b0
              try clear c26b1
              try clear c36
              try clear hcz11_0
              try clear hcz11_1
              try clear hcz11_2
              try clear hcz11_3
              try clear hcz32_0
              try clear hcz32_1
              try clear hcz32_2
              try clear hcz32_3
              try clear hcz8_0
              try clear hcz8_1
              try clear hcz8_2
              try clear hcz8_3
              try clear hfz11_0
              try clear hfz11_1
              try clear hfz11_2
              try clear hfz11_3
              try clear hfz32_0
              try clear hfz32_1
              try clear hfz32_2
              try clear hfz32_3
              try clear hfz8_0
              try clear hfz8_1
              try clear hfz8_2
              try clear hfz8_3
              try clear p2
              obtain ⟨kq, x57_28, rfl, HA, HJ28, HO_5, BK200, HB⟩ := hcut
              have hl5_28 := (Kd.R_reads' HO_5.out).1
              rw [hl5_28] at HO_5
              (try simp only [hl5_28])
              (try simp only [hl5_28] at BK200)
              cases kq with
              | zero => exact absurd HA.out (by simp [laws_FnExactLeastTickets.j1])
              | succ kj28 =>
                have H := HA.out
                clear HA
                simp only [laws_FnExactLeastTickets.j1] at H
                by_cases c41 : x57_28 = true
                · subst c41
                  have H1 : (some false) = some r := by rw [if_pos rfl] at H; exact H
                  clear H
                  have H := H1
                  clear H1
                  obtain rfl := Option.some.inj H
                  go_wp2
                  go_ret
                  exact ⟨by first | rfl | (simp [errW_none, errW_some] <;> rfl) | (simp [*, errW_none, errW_some] <;> rfl), by repeat (first | (with_reducible first | exact HB.out | apply below_alloc | apply pw_below_drewN | apply below_drew1 | refine below_set ?_ GE200.out) | exact HB.out)⟩
                · replace c41 := Bool.eq_false_iff.mpr c41
                  subst c41
                  have H1 : ((laws_heldInt64S.f kj28 t219 1).bind fun t230 => (if t230 < 0 then (some false) else (if t230 = t218 then (some true) else (some false)))) = some r := by rw [if_neg (show ¬ (false = true) by decide)] at H; exact H
                  clear H
                  have H := H1
                  clear H1
                  replace H := Option.bind_eq_some_iff.mp H
                  obtain ⟨t230, A420, H⟩ := H
                  replace H : (if t230 < 0 then (some false) else (if t230 = t218 then (some true) else (some false))) = some r := H
                  have A42 := Aside0.mk A420
                  clear A420
                  by_cases c43 : t230 < 0
                  · rw [if_pos c43] at H
                    have c43b0 : decide (t230 < 0) = true := decide_eq_true c43
                    clear c43
                    obtain rfl := Option.some.inj H
                    go_wp2_with (first | ((with_reducible refine gate_callee (f := 12) rfl ?_); refine goesL_ (some 60) rfl rfl Try.func12 (by kernel_rfl) rfl #[.slice Ao30 t219.length co30, .int .i64 1] rfl (by (try simp only [List.map_toArray, List.map_cons, List.map_nil]); first | done | rfl | (simp only [List.length_drop, List.length_take]; rfl)) ?_; (with_reducible refine (laws_heldInt64S.calls kj28 _ _ t219 1 t230 _ ?side1 ?side2 A42.out).mono ?_); (case side1 => repeat (first | exact (Kd.R_reads' HO_5.out).2.2 | (with_reducible refine Kd.C_alloc ?_ _) | (with_reducible refine Kd.C_drewN ?_ _) | (with_reducible refine Kd.C_drew ?_))); (case side2 => exact (Kd.R_reads' HO_5.out).2.1); rintro e w' ⟨rfl, ⟨nd, rfl⟩⟩; refine ⟨_, rfl, ?_⟩))
                    go_ret
                    exact ⟨by first | rfl | (simp [errW_none, errW_some] <;> rfl) | (simp [*, errW_none, errW_some] <;> rfl), by repeat (first | (with_reducible first | exact HB.out | apply below_alloc | apply pw_below_drewN | apply below_drew1 | refine below_set ?_ GE200.out) | exact HB.out)⟩
                  · rw [if_neg c43] at H
                    have c43b0 : decide (t230 < 0) = false := decide_eq_false c43
                    clear c43
                    by_cases c44 : t230 = t218
                    · rw [if_pos c44] at H
                      have c44b0 : (t230 == t218) = true := beq_iff_eq.mpr c44
                      have c44b1 : (t230 != t218) = false := bne_eq_false_iff_eq.mpr c44
                      clear c44
                      obtain rfl := Option.some.inj H
                      go_wp2_with (first | ((with_reducible refine gate_callee (f := 12) rfl ?_); refine goesL_ (some 60) rfl rfl Try.func12 (by kernel_rfl) rfl #[.slice Ao30 t219.length co30, .int .i64 1] rfl (by (try simp only [List.map_toArray, List.map_cons, List.map_nil]); first | done | rfl | (simp only [List.length_drop, List.length_take]; rfl)) ?_; (with_reducible refine (laws_heldInt64S.calls kj28 _ _ t219 1 t230 _ ?side1 ?side2 A42.out).mono ?_); (case side1 => repeat (first | exact (Kd.R_reads' HO_5.out).2.2 | (with_reducible refine Kd.C_alloc ?_ _) | (with_reducible refine Kd.C_drewN ?_ _) | (with_reducible refine Kd.C_drew ?_))); (case side2 => exact (Kd.R_reads' HO_5.out).2.1); rintro e w' ⟨rfl, ⟨nd, rfl⟩⟩; refine ⟨_, rfl, ?_⟩))
                      go_ret
                      exact ⟨by first | rfl | (simp [errW_none, errW_some] <;> rfl) | (simp [*, errW_none, errW_some] <;> rfl), by repeat (first | (with_reducible first | exact HB.out | apply below_alloc | apply pw_below_drewN | apply below_drew1 | refine below_set ?_ GE200.out) | exact HB.out)⟩
                    · rw [if_neg c44] at H
                      have c44b0 : (t230 == t218) = false := beq_eq_false_iff_ne.mpr c44
                      have c44b1 : (t230 != t218) = true := bne_iff_ne.mpr c44
                      obtain rfl := Option.some.inj H
                      go_wp2_with (first | ((with_reducible refine gate_callee (f := 12) rfl ?_); refine goesL_ (some 60) rfl rfl Try.func12 (by kernel_rfl) rfl #[.slice Ao30 t219.length co30, .int .i64 1] rfl (by (try simp only [List.map_toArray, List.map_cons, List.map_nil]); first | done | rfl | (simp only [List.length_drop, List.length_take]; rfl)) ?_; (with_reducible refine (laws_heldInt64S.calls kj28 _ _ t219 1 t230 _ ?side1 ?side2 A42.out).mono ?_); (case side1 => repeat (first | exact (Kd.R_reads' HO_5.out).2.2 | (with_reducible refine Kd.C_alloc ?_ _) | (with_reducible refine Kd.C_drewN ?_ _) | (with_reducible refine Kd.C_drew ?_))); (case side2 => exact (Kd.R_reads' HO_5.out).2.1); rintro e w' ⟨rfl, ⟨nd, rfl⟩⟩; refine ⟨_, rfl, ?_⟩))
                      go_ret
                      exact ⟨by first | rfl | (simp [errW_none, errW_some] <;> rfl) | (simp [*, errW_none, errW_some] <;> rfl), by repeat (first | (with_reducible first | exact HB.out | apply below_alloc | apply pw_below_drewN | apply below_drew1 | refine below_set ?_ GE200.out) | exact HB.out)⟩
          · rw [if_neg c26] at H
            have c26b0 : (t220 == t218) = false := beq_eq_false_iff_ne.mpr c26
            have c26b1 : (t220 != t218) = true := bne_iff_ne.mpr c26
            obtain rfl := Option.some.inj H
            obtain ⟨Ao45, co45, eo45⟩ := Kd.R_slice HO_5.out
            subst eo45
            go_wp2_with (first | ((with_reducible refine gate_callee (f := 11) rfl ?_); refine goesL_ (some 34) rfl rfl Try.func11 (by kernel_rfl) rfl #[.slice Ao45 t213.length co45, .int .i64 1] rfl (by (try simp only [List.map_toArray, List.map_cons, List.map_nil]); first | done | rfl | (simp only [List.length_drop, List.length_take]; rfl)) ?_; (with_reducible refine (laws_markInt64S.calls kj5 (fun k_ => some k_ = (.slice Ao45 t213.length co45 : Value).ownBlock) (.slice Ao45 t213.length co45) t213 1 t218 t219 w _ ?side1 ?side2 A21.out).mono ?_); (case side1 => repeat (first | (with_reducible first | exact HB.out | apply below_alloc | apply pw_below_drewN | apply below_drew1 | refine below_set ?_ GE200.out) | exact HB.out)); (case side2 => exact Kd.R_tight rfl HO_5.out); rintro e w46 ⟨rfl, hy0, hb, hkp⟩; refine ⟨_, rfl, ?_⟩; have n0_ := Aside0.mk (Kd.R_mono (ok' := fun k_ => some k_ ≠ (.slice Ao45 t213.length co45 : Value).ownBlock) (Kd.R_keptB (HO_3.out) hkp (fun k_ hk_ hs_ => (hk_) hs_)) (fun k_ hk_ => hk_.1)); have n1_ := Aside0.mk (Kd.R_reok rfl hy0 (fun k_ e_ => HO_5.out.1 k_ e_)); have n2_ := Aside0.mk (blk_kept (by (with_reducible repeat (first | refine blk_drewN ?_ _ | refine blk_drew ?_ | refine blk_alloc ?_ _)); exact BK200.out) hkp (fun hs_ => (fun e_ => (Kd.R_ne HO_5.out BK200.out (by decide)) e_) hs_)); have n3_ := Aside0.mk (hb); clear HO_3; clear HO_5; clear BK200; clear HB; have HO_3 := n0_; have HO_5 := n1_; have BK200 := n2_; have HB := n3_; clear n0_ n1_ n2_ n3_; (try clear hb); (try clear hkp); (try clear hy0)) | ((with_reducible refine gate_callee (f := 12) rfl ?_); refine goesL_ (some 37) rfl rfl Try.func12 (by kernel_rfl) rfl #[.slice Ao45 t219.length co45, .int .i64 1] rfl (by (try simp only [List.map_toArray, List.map_cons, List.map_nil]); first | done | (rw [show t219.length = t213.length from (Kd.R_reads' HO_5.out).1.symm] <;> rfl) | rfl | (simp only [List.length_drop, List.length_take]; rfl)) ?_; (with_reducible refine (laws_heldInt64S.calls kj5 _ _ t219 1 t220 _ ?side1 ?side2 A22.out).mono ?_); (case side1 => repeat (first | exact (Kd.R_reads' HO_5.out).2.2 | (with_reducible refine Kd.C_alloc ?_ _) | (with_reducible refine Kd.C_drewN ?_ _) | (with_reducible refine Kd.C_drew ?_))); (case side2 => rw [show t219.length = t213.length from (Kd.R_reads' HO_5.out).1.symm]; exact (Kd.R_reads' HO_5.out).2.1); rintro e w' ⟨rfl, ⟨nd, rfl⟩⟩; refine ⟨_, rfl, ?_⟩))
            go_ret
            exact ⟨by first | rfl | (simp [errW_none, errW_some] <;> rfl) | (simp [*, errW_none, errW_some] <;> rfl), by repeat (first | (with_reducible first | exact HB.out | apply below_alloc | apply pw_below_drewN | apply below_drew1 | refine below_set ?_ GE200.out) | exact HB.out)⟩

end Go.Proofs.Ytchlbkcladfloaa.PFnExactLeastTickets
