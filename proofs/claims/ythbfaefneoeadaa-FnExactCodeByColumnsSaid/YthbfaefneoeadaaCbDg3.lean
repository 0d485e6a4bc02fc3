/- Walks over a space's columns: isPlain, areLed, and the library's Clone at []int64. Spaces of at most 8 places of sizes 2 to 4. -/
import Derived.Test.YthbfaefneoeadaaCbDg2
import Derived.Test.YthbfaefneoeadaaCbFw
import Derived.Laws.CopyOwn
import Derived.Shelf.Abstract
namespace Go.Proofs.Ythbfaefneoeadaa.DG
open Go Go.RowKit Go.Proofs.YthbfaefneoeadaaW.PrintWords Go.Proofs.YthbfaefneoeadaaW.PrintLast Go.Proofs.YthbfaefneoeadaaW.PrintMore Go.Proofs.Ythbfaefneoeadaa.FW
set_option linter.unusedVariables false
set_option linter.unusedSimpArgs false
theorem egPlain : ∀ args w, (callFunc 89 args).run Try.prog w = .ok (.enter 89 args) w := enters_of Try.func89 (by kernel_rfl) rfl
set_option maxHeartbeats 1000000 in
set_option maxRecDepth 100000 in
theorem isPlain_asks (q n : Int) (b : Nat) (W : World) (h : W.heap[b]? = some (.cells #[.int .i64 q] 2 (0, 0))) :
    Calls Try.prog 89 #[.int .i64 n, .pointer (some ⟨b, 0, none⟩)] W fun e w' => e = .returned (.bool (n != q)) ∧ Below W.heap.size W w' := by
  have h0 : W.cell? ⟨b, 0, none⟩ = some (.int .i64 q) := (blk_cell h 0).trans rfl
  go_enter Try.func89, Try.ntmps89
  go_wp2
  go_ret
  exact ⟨rfl, Below.refl _ _⟩
def impl_isPlain.f (k : Nat) (l0 : List Int) : Option Bool := if 1 ≤ l0.length then some (decide (rd l0 0 ≤ 3) && !(l0.any fun n => n != rd l0 0)) else none
theorem impl_isPlain.mono : ∀ a0 k, LeO (impl_isPlain.f k a0) (impl_isPlain.f (k + 1) a0) := fun _ _ => LeO.refl _
set_option maxHeartbeats 1000000 in
set_option maxRecDepth 100000 in
theorem isPlain_walk (A0 : Option Addr) (c0 : Nat) (l0 : List Int) (w : World) (hr0 : Kd.C (Kd.int .i64) w A0 l0.length l0) (hc0 : l0.length ≤ c0) (hl : 1 ≤ l0.length) :
    Calls Try.prog 84 #[.agg #[.slice A0 l0.length c0]] w fun e w' => e = .returned (.bool (decide (rd l0 0 ≤ 3) && !(l0.any fun n => n != rd l0 0))) ∧ Below w.heap.size w w' := by
  have hm := hr0.2.1
  obtain ⟨ad, rfl, hx⟩ := Kd.at_int hr0 0 (by omega) (by omega)
  have hl0 : (0 : Int) < (l0.length : Int) := by omega
  have hx0 : w.cell? ad = some (.int .i64 (rd l0 0)) := by
    have h : w.cell? (ad.add 0) = some (.int .i64 (rd l0 0)) := hx
    simpa [Addr.add] using h
  have HR0 := Aside0.mk hr0
  have hx1 : (w.alloc (.cells #[.slice (some ad) l0.length c0] 30)).cell? ad = some (.int .i64 (rd l0 0)) := (World.cell?_alloc_lt _ _ _ (World.block_lt_of_cell? _ _ hx0)).trans hx0
  have HQ : Aside0 (∀ W : World, Below w.heap.size w W → ∀ q b, W.heap[b]? = some (.cells #[.int .i64 q] 2 (0, 0)) → Calls Try.prog 39 #[.slice (some ad) l0.length c0, .func (.func 89) #[] #[.pointer (some ⟨b, 0, none⟩)]] W fun e w' => e = .returned (.bool (l0.any fun n => n != q)) ∧ Below W.heap.size W w') := ⟨fun W hb q b hq =>
    containsFunc (fun n => n != q) 89 #[.pointer (some ⟨b, 0, none⟩)] egPlain (some ad) c0 l0 W (Kd.C_below hr0 hb) hm (fun wr x hb2 => isPlain_asks q x b wr (blk_below hq hb2))⟩
  obtain ⟨q, hq⟩ : ∃ q, q = rd l0 0 := ⟨_, rfl⟩
  rw [← hq] at hx1 ⊢
  clear hr0 hx hx0 hm hq
  by_cases h3 : q ≤ 3
  · have h3d : decide (q ≤ 3) = true := decide_eq_true h3
    have HB2 := Aside0.mk (show Below w.heap.size w ((w.alloc (.cells #[.slice (some ad) l0.length c0] 30)).alloc (.cells #[.int .i64 q] 2)) from below_alloc (below_alloc (Below.refl _ _) _) _)
    have h := Aside0.mk (HQ.out _ HB2.out q (w.heap.size + 1) (by
      have h := blk_new (w.alloc (.cells #[.slice (some ad) l0.length c0] 30)) (.cells #[.int .i64 q] 2)
      rw [World.size_alloc] at h
      exact h))
    clear HQ
    go_enter Try.func84, Try.ntmps84
    go_wp2_with (go_at_call 39; refine h.out.mono ?_; rintro e w' ⟨rfl, hb⟩)
    go_ret
    exact ⟨by simp [h3], below_step HB2.out hb⟩
  · clear HQ
    have h3d : decide (q ≤ 3) = false := decide_eq_false h3
    have HB2 := Aside0.mk (show Below w.heap.size w ((w.alloc (.cells #[.slice (some ad) l0.length c0] 30)).alloc (.cells #[.int .i64 q] 2)) from below_alloc (below_alloc (Below.refl _ _) _) _)
    go_enter Try.func84, Try.ntmps84
    go_wp2
    go_ret
    exact ⟨by simp [h3], HB2.out⟩
theorem impl_isPlain.calls (k : Nat) (A0_0 : Option Addr) (c0_0 : Nat) (l0_0 : List Int) (r : Bool) (w : World) (hr0_0 : Kd.C (Kd.int .i64) w A0_0 l0_0.length l0_0) (hc0_0 : l0_0.length ≤ c0_0) (h : impl_isPlain.f k l0_0 = some r) :
    Calls Try.prog 84 #[.agg #[.slice A0_0 l0_0.length c0_0]] w fun e w' => e = .returned (.bool r) ∧ Below w.heap.size w w' := by
  unfold impl_isPlain.f at h
  by_cases h1 : 1 ≤ l0_0.length
  · rw [if_pos h1] at h
    obtain rfl := Option.some.inj h
    exact isPlain_walk A0_0 c0_0 l0_0 w hr0_0 hc0_0 h1
  · rw [if_neg h1] at h; cases h
/-- The digits of a place's unit. -/
def e1 (i j : Nat) : Int := if i = j then 1 else 0
def unitL (i : Nat) : List Int := [e1 i 0, e1 i 1, e1 i 2, e1 i 3, e1 i 4, e1 i 5, e1 i 6, e1 i 7]
theorem unit_set (i : Nat) (h : i < 8) : ([Value.int .u8 0, .int .u8 0, .int .u8 0, .int .u8 0, .int .u8 0, .int .u8 0, .int .u8 0, .int .u8 0].set i (.int .u8 1)).toArray = ag8 (e1 i 0) (e1 i 1) (e1 i 2) (e1 i 3) (e1 i 4) (e1 i 5) (e1 i 6) (e1 i 7) := by
  match i, h with
  | 0, _ => rfl
  | 1, _ => rfl
  | 2, _ => rfl
  | 3, _ => rfl
  | 4, _ => rfl
  | 5, _ => rfl
  | 6, _ => rfl
  | 7, _ => rfl
theorem zero_get (i : Nat) (h : i < 8) : ([Value.int .u8 0, .int .u8 0, .int .u8 0, .int .u8 0, .int .u8 0, .int .u8 0, .int .u8 0, .int .u8 0])[i]? = some (.int .u8 0) := by
  match i, h with
  | 0, _ => rfl
  | 1, _ => rfl
  | 2, _ => rfl
  | 3, _ => rfl
  | 4, _ => rfl
  | 5, _ => rfl
  | 6, _ => rfl
  | 7, _ => rfl
theorem unit_ok (i : Nat) : ∀ x ∈ unitL i, 0 ≤ x ∧ x ≤ 255 := by
  intro x hx
  simp only [unitL, List.mem_cons, List.not_mem_nil, or_false] at hx
  rcases hx with rfl | rfl | rfl | rfl | rfl | rfl | rfl | rfl <;> (unfold e1; split <;> omega)
def ledB (l0 l1 : List Int) : Bool := decide (l0.length ≤ l1.length) && (List.range l0.length).all fun i => rd l1 (i : Int) == wordI 0 l0 (unitL i)
def impl_areLed.f (k : Nat) (l0 l1 : List Int) : Option Bool := if okS l0 = true then some (ledB l0 l1) else none
theorem impl_areLed.mono : ∀ a0 a1 k, LeO (impl_areLed.f k a0 a1) (impl_areLed.f (k + 1) a0 a1) := fun _ _ _ => LeO.refl _
set_option maxHeartbeats 4000000 in
set_option maxRecDepth 100000 in
theorem areLed_walk (A0 : Option Addr) (c0 : Nat) (l0 : List Int) (A1 : Option Addr) (c1 : Nat) (l1 : List Int) (w : World) (hr0 : Kd.C (Kd.int .i64) w A0 l0.length l0) (hr1 : Kd.C (Kd.int .i64) w A1 l1.length l1) (h8 : l0.length ≤ 8) (hq : ∀ q ∈ l0, 2 ≤ q ∧ q ≤ 4) :
    Calls Try.prog 62 #[.agg #[.slice A0 l0.length c0], .slice A1 l1.length c1] w fun e w' => e = .returned (.bool (ledB l0 l1)) ∧ Below w.heap.size w w' := by
  have HR0 := Aside0.mk hr0
  have HR1 := Aside0.mk hr1
  have HQ := Aside0.mk hq
  clear hr0 hr1 hq
  by_cases hlen : l1.length < l0.length
  · have hlz : (l1.length : Int) < (l0.length : Int) := by omega
    go_enter Try.func62, Try.ntmps62
    go_wp2
    go_ret
    refine ⟨?_, below_alloc (Below.refl _ _) _⟩
    have : decide (l0.length ≤ l1.length) = false := by simp; omega
    unfold ledB
    rw [this]; rfl
  have hlz : ¬ (l1.length : Int) < (l0.length : Int) := by omega
  go_enter Try.func62, Try.ntmps62
  go_wp2
  go_loopg [16] l0.length (fun gg s16 wr => ∃ (i : Nat), s16 = .int .i64 i ∧ i ≤ l0.length ∧ l0.length - i ≤ gg ∧ Aside0 (∀ j, j < i → (rd l1 (j : Int) == wordI 0 l0 (unitL j)) = true) ∧ Aside0 (wr.heap[w.heap.size]? = some (.cells #[.slice A0 l0.length c0] 30 (0, 0))) ∧ Aside0 (Below w.heap.size w wr))
  case atStart => exact ⟨0, rfl, by omega, by omega, ⟨fun j hj => by omega⟩, ⟨blk_new _ _⟩, ⟨below_alloc (Below.refl _ _) _⟩⟩
  case round =>
    obtain ⟨i, rfl, hi, hgg, HA, HS, HB⟩ := hrel
    by_cases hlt : i < l0.length
    · have hlt1 : (i : Int) < (l0.length : Int) := by omega
      have hlt2 : (i : Int) < (l1.length : Int) := by omega
      have hi8 : (i : Int) < 8 := by omega
      have hi0 : (0 : Int) ≤ (i : Int) := by omega
      obtain ⟨ad, e, hx⟩ := Kd.at_int HR1.out (i : Int) (by omega) hlt2
      cases e
      rw [Int.toNat_natCast] at hx
      have HX := Aside0.mk hx
      clear hx
      have hz8 := zero_get i (by omega)
      go_wp2
      rw [unit_set i (by omega)]
      have hb7 : Below wr.heap.size wr (wr.alloc (.cells (ag8 (DG.e1 i 0) (DG.e1 i 1) (DG.e1 i 2) (DG.e1 i 3) (DG.e1 i 4) (DG.e1 i 5) (DG.e1 i 6) (DG.e1 i 7)) 82)) := below_alloc (Below.refl _ _) _
      have HD7 := Aside0.mk (blk_new wr (.cells (ag8 (DG.e1 i 0) (DG.e1 i 1) (DG.e1 i 2) (DG.e1 i 3) (DG.e1 i 4) (DG.e1 i 5) (DG.e1 i 6) (DG.e1 i 7)) 82))
      have HB7 := Aside0.mk (below_step HB.out hb7)
      have HS7 := Aside0.mk (blk_below HS.out hb7)
      clear hb7
      generalize wr.heap.size = bd at HD7 ⊢
      generalize wr.alloc (.cells (ag8 (DG.e1 i 0) (DG.e1 i 1) (DG.e1 i 2) (DG.e1 i 3) (DG.e1 i 4) (DG.e1 i 5) (DG.e1 i 6) (DG.e1 i 7)) 82) = W7 at HD7 HB7 HS7 ⊢
      have hs0 : W7.cell? ⟨w.heap.size, 0, none⟩ = some (.slice A0 l0.length c0) := (blk_cell HS7.out 0).trans rfl
      have hxc : W7.cell? (ad.add i) = some (.int .i64 (rd l1 (i : Int))) := (HB7.out.cell (World.block_lt_of_cell? _ _ HX.out)).trans HX.out
      refine start_ (n := 8) (S := fun w' => w'.cell? ⟨w.heap.size, 0, none⟩ = some (.slice A0 l0.length c0) ∧ w'.cell? (ad.add i) = some (.int .i64 (rd l1 (i : Int))) ∧ w'.heap[bd]? = some (.cells (ag8 (DG.e1 i 0) (DG.e1 i 1) (DG.e1 i 2) (DG.e1 i 3) (DG.e1 i 4) (DG.e1 i 5) (DG.e1 i 6) (DG.e1 i 7)) 82 (0, 0))) (ds := []) #[false, false, false, false, false, false, false, false] (by kernel_rfl) rfl rfl ⟨hs0, hxc, HD7.out⟩ (fun hHeld => ?_)
      refine pure_ (i := 0) (N := some 22) (v := ?_) (a' := ?_) #[true, false, false, false, false, false, false, false] rfl rfl (by kernel_rfl) (fun _ _ _ h => h) (Or.inl ⟨by rfl, ?_⟩) ?_ ?_
      rotate_left
      · intro w'
        go_simp
        with_reducible rfl
      rotate_left
      · simp only [Act.put, List.setIfInBounds_toArray, List.set_cons_zero, List.set_cons_succ, i64_w, i32_w]
        rfl
      refine pure_ (i := 1) (N := some 23) (v := ?_) (a' := ?_) #[true, true, false, false, false, false, false, false] rfl rfl (by kernel_rfl) (fun _ _ _ h => h) (Or.inl ⟨by rfl, ?_⟩) ?_ ?_
      rotate_left
      · intro w'
        go_simp
        with_reducible rfl
      rotate_left
      · simp only [Act.put, List.setIfInBounds_toArray, List.set_cons_zero, List.set_cons_succ, i64_w, i32_w]
        rfl
      refine pure_ (i := 2) (N := some 24) (v := ?_) (a' := ?_) #[true, true, true, false, false, false, false, false] rfl rfl (by kernel_rfl) (fun _ _ _ h => h) (Or.inl ⟨by rfl, ?_⟩) ?_ ?_
      rotate_left
      · intro w'
        go_simp
        with_reducible rfl
      rotate_left
      · simp only [Act.put, List.setIfInBounds_toArray, List.set_cons_zero, List.set_cons_succ, i64_w, i32_w]
        rfl
      refine take_ (i := 3) (N := some 25) (v := ?_) (a' := ?_) #[true, true, true, true, false, false, false, false] rfl rfl (by kernel_rfl) (fun _ _ _ h => h) (Or.inl ⟨by rfl, ?_⟩) hHeld ?_ ?_
      rotate_left
      · rintro w' ⟨s0, s1, s2⟩
        go_simp
        with_reducible rfl
      rotate_left
      · simp only [Act.put, List.setIfInBounds_toArray, List.set_cons_zero, List.set_cons_succ, i64_w, i32_w]
        rfl
      refine take_ (i := 4) (N := some 26) (v := ?_) (a' := ?_) #[true, true, true, true, true, false, false, false] rfl rfl (by kernel_rfl) (fun _ _ _ h => h) (Or.inl ⟨by rfl, ?_⟩) hHeld ?_ ?_
      rotate_left
      · rintro w' ⟨s0, s1, s2⟩
        go_simp
        with_reducible rfl
      rotate_left
      · simp only [Act.put, List.setIfInBounds_toArray, List.set_cons_zero, List.set_cons_succ, i64_w, i32_w]
        rfl
      refine take_ (i := 5) (N := some 27) (v := ?_) (a' := ?_) #[true, true, true, true, true, true, false, false] rfl rfl (by kernel_rfl) (fun _ _ _ h => h) (Or.inl ⟨by rfl, ?_⟩) hHeld ?_ ?_
      rotate_left
      · rintro w' ⟨s0, s1, s2⟩
        have c0 : w'.cell? ⟨bd, 0, none⟩ = some (.int .u8 (DG.e1 i 0)) := (blk_cell s2 0).trans rfl
        have c1 : w'.cell? ⟨bd, 1, none⟩ = some (.int .u8 (DG.e1 i 1)) := (blk_cell s2 1).trans rfl
        have c2 : w'.cell? ⟨bd, 2, none⟩ = some (.int .u8 (DG.e1 i 2)) := (blk_cell s2 2).trans rfl
        have c3 : w'.cell? ⟨bd, 3, none⟩ = some (.int .u8 (DG.e1 i 3)) := (blk_cell s2 3).trans rfl
        have c4 : w'.cell? ⟨bd, 4, none⟩ = some (.int .u8 (DG.e1 i 4)) := (blk_cell s2 4).trans rfl
        have c5 : w'.cell? ⟨bd, 5, none⟩ = some (.int .u8 (DG.e1 i 5)) := (blk_cell s2 5).trans rfl
        have c6 : w'.cell? ⟨bd, 6, none⟩ = some (.int .u8 (DG.e1 i 6)) := (blk_cell s2 6).trans rfl
        have c7 : w'.cell? ⟨bd, 7, none⟩ = some (.int .u8 (DG.e1 i 7)) := (blk_cell s2 7).trans rfl
        go_simp
        with_reducible rfl
      rotate_left
      · simp only [Act.put, List.setIfInBounds_toArray, List.set_cons_zero, List.set_cons_succ, i64_w, i32_w]
        rfl
      refine one_ (i := 6) (N := some 28) #[true, true, true, true, true, true, true, false] rfl rfl (by kernel_rfl) (by decide) (fun K hK => ?_)
      refine goes_ Try.func68 (by kernel_rfl) rfl #[.agg #[.slice A0 l0.length c0], .agg (ag8 (DG.e1 i 0) (DG.e1 i 1) (DG.e1 i 2) (DG.e1 i 3) (DG.e1 i 4) (DG.e1 i 5) (DG.e1 i 6) (DG.e1 i 7))] (by rfl) rfl rfl (by (try simp only [List.map_toArray, List.map_cons, List.map_nil]); first | done | rfl) ?_
      refine (wordOf_walk A0 c0 l0 (DG.e1 i 0) (DG.e1 i 1) (DG.e1 i 2) (DG.e1 i 3) (DG.e1 i 4) (DG.e1 i 5) (DG.e1 i 6) (DG.e1 i 7) _ ?side1 h8 HQ.out (unit_ok i)).mono ?_
      (case side1 => exact Kd.C_below HR0.out (below_drew HB7.out))
      rintro e w8 ⟨rfl, hb⟩
      refine ⟨_, rfl, ?_⟩
      have HB8 := Aside0.mk (below_step (below_drew HB7.out) hb)
      have HS8 := Aside0.mk (blk_below (blk_drew HS7.out) hb)
      refine hK.out _ _ ⟨(hb.cell (World.block_lt_of_cell? _ _ hHeld.1)).trans hHeld.1, (hb.cell (World.block_lt_of_cell? _ _ hHeld.2.1)).trans hHeld.2.1, blk_below hHeld.2.2 hb⟩ (fun hHeld => ?_)
      clear hK K
      refine norm_ (a' := ?_) ?_ ?_
      rotate_left
      · show Act.put _ (some 28) _ = _
        simp only [Act.put, List.setIfInBounds_toArray, List.set_cons_zero, List.set_cons_succ, i64_w, i32_w]
        rfl
      refine pure_ (i := 7) (N := some 29) (v := ?_) (a' := ?_) #[true, true, true, true, true, true, true, true] rfl rfl (by kernel_rfl) (fun _ _ _ h => h) (Or.inl ⟨by rfl, ?_⟩) ?_ ?_
      rotate_left
      · intro w'
        go_simp
        with_reducible rfl
      rotate_left
      · simp only [Act.put, List.setIfInBounds_toArray, List.set_cons_zero, List.set_cons_succ, i64_w, i32_w]
        rfl
      refine done_ (by kernel_rfl) ?_
      by_cases hxy : rd l1 (i : Int) = wordI 0 l0 (unitL i)
      · have e1 : (rd l1 (i : Int) != wordI 0 l0 [DG.e1 i 0, DG.e1 i 1, DG.e1 i 2, DG.e1 i 3, DG.e1 i 4, DG.e1 i 5, DG.e1 i 6, DG.e1 i 7]) = false := by
          rw [hxy]; simp [unitL]
        have HXY := Aside0.mk hxy
        clear hxy
        go_wp2
        go_roundg (l0.length - (i + 1))
        case measure => omega
        case rel =>
          refine ⟨i + 1, by go_num, by omega, by omega, ⟨fun j hj => ?_⟩, HS8, HB8⟩
          by_cases hji : j = i
          · subst hji; rw [HXY.out]; simp
          · exact HA.out j (by omega)
      · have e1 : (rd l1 (i : Int) != wordI 0 l0 [DG.e1 i 0, DG.e1 i 1, DG.e1 i 2, DG.e1 i 3, DG.e1 i 4, DG.e1 i 5, DG.e1 i 6, DG.e1 i 7]) = true := by
          rw [bne_iff_ne]; exact hxy
        have HXY := Aside0.mk hxy
        clear hxy
        go_wp2
        go_ret
        refine ⟨?_, HB8.out⟩
        have h2 : ((List.range l0.length).all fun i => rd l1 (i : Int) == wordI 0 l0 (unitL i)) = false := by
          rw [List.all_eq_false]
          exact ⟨i, List.mem_range.2 hlt, by simpa using HXY.out⟩
        unfold ledB
        rw [h2, Bool.and_false]; rfl
    · obtain rfl : i = l0.length := by omega
      have hlt1 : ¬ (l0.length : Int) < (l0.length : Int) := by omega
      go_wp2
      go_ret
      refine ⟨?_, HB.out⟩
      have h2 : ((List.range l0.length).all fun i => rd l1 (i : Int) == wordI 0 l0 (unitL i)) = true := by
        rw [List.all_eq_true]
        exact fun j hj => HA.out j (List.mem_range.1 hj)
      unfold ledB
      rw [h2, decide_eq_true (by omega)]; rfl
theorem impl_areLed.calls (k : Nat) (A0_0 : Option Addr) (c0_0 : Nat) (l0_0 : List Int) (A1 : Option Addr) (c1 : Nat) (l1 : List Int) (r : Bool) (w : World) (hr0_0 : Kd.C (Kd.int .i64) w A0_0 l0_0.length l0_0) (hc0_0 : l0_0.length ≤ c0_0) (hr1 : Kd.C (Kd.int .i64) w A1 l1.length l1) (hc1 : l1.length ≤ c1) (h : impl_areLed.f k l0_0 l1 = some r) :
    Calls Try.prog 62 #[.agg #[.slice A0_0 l0_0.length c0_0], .slice A1 l1.length c1] w fun e w' => e = .returned (.bool r) ∧ Below w.heap.size w w' := by
  unfold impl_areLed.f at h
  by_cases h1 : okS l0_0 = true
  · rw [if_pos h1] at h
    obtain rfl := Option.some.inj h
    obtain ⟨h8, hq⟩ := (okS_iff l0_0).1 h1
    exact areLed_walk A0_0 c0_0 l0_0 A1 c1 l1 w hr0_0 hr1 h8 hq
  · rw [if_neg h1] at h; cases h
end Go.Proofs.Ythbfaefneoeadaa.DG
