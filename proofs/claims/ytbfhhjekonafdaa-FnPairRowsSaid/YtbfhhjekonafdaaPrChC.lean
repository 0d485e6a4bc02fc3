/- newChoices walked. Spaces of at most 8 places of sizes 2 to 4, at most 3 places. -/
import Derived.Test.YtbfhhjekonafdaaPrChN
namespace Go.Proofs.Ytbfhhjekonafdaa.DG
open Go Go.RowKit Go.Proofs.YtbfhhjekonafdaaW.PrintWords Go.Proofs.YtbfhhjekonafdaaW.PrintLast Go.Proofs.YtbfhhjekonafdaaW.PrintMore
set_option linter.unusedVariables false
set_option linter.unusedSimpArgs false
theorem run_store_func {P : Program} {w : World} {a : Addr} {m : Mode} (f : Fn) (x y : Array Value) : (store a (.func f x y) m).run P w = stored P w a (.func f x y) m := run_store P w a _ m rfl
attribute [local go_sem] run_store_func
theorem prod_le4 : ∀ (z : List Int), (∀ q ∈ z, 2 ≤ q ∧ q ≤ 4) → prodI z ≤ ob4 z.length
  | [], _ => by simp [prodI, ob4]
  | q :: z, h => by
    have h1 := prod_le4 z (fun x hx => h x (by simp [hx]))
    have h2 := prodI_pos z (fun x hx => h x (by simp [hx]))
    have hq := h q (by simp)
    simp only [prodI, List.length_cons, ob4]
    exact Int.mul_le_mul hq.2 h1 (by omega) (by omega)
theorem many_le (s : List Int) (hq : ∀ q ∈ s, 2 ≤ q ∧ q ≤ 4) : ∀ (P : List (List Int)), (∀ p ∈ P, p.length ≤ 3 ∧ PlOk s.length p) → manyC s P ≤ 64 * P.length
  | [], _ => by simp [manyC]
  | p :: P, h => by
    have ih := many_le s hq P (fun x hx => h x (by simp [hx]))
    obtain ⟨h3, hk⟩ := h p (by simp)
    have h1 := prod_le4 _ (szs_ok s hq p hk)
    have h2 := ob4_le (szs s p).length (by simp [szs]; exact h3)
    simp only [manyC, List.length_cons]
    omega
theorem plc_bound : ∀ n, n ≤ 8 → ∀ t, t ≤ 3 → (plc n t 0).length ≤ 56 := by decide
theorem nc_make (W : World) : (Instr.makeSlice 25 (.int .i64 0) (.int .i64 3)).run Try.prog W = .ok (.slice (some ⟨W.heap.size, 0, none⟩) 0 3) (W.alloc (.cells #[.int .i64 0, .int .i64 0, .int .i64 0] 2)) := by
  kernel_rfl
theorem nc_call (A : Option Addr) (c : Nat) (s : List Int) (tt : Nat) (w W6 : World) (hs : Kd.C (Kd.int .i64) w A s.length s) (h8 : s.length ≤ 8) (hq : ∀ q ∈ s, 2 ≤ q ∧ q ≤ 4) (ht : tt ≤ 3)
    (ks : W6.heap[w.heap.size]? = some (.cells #[.slice A s.length c] 27 (0, 0))) (kt : W6.heap[w.heap.size + 1]? = some (.cells #[.int .i64 (tt : Int)] 2 (0, 0))) (kg : W6.heap[w.heap.size + 1 + 1]? = some (.cells #[.slice A s.length c, .slice none 0 0, .slice none 0 0, .int .i64 0] 82 (0, 0))) (kc : W6.heap[w.heap.size + 1 + 1 + 1]? = some (.cells #[.pointer (some ⟨w.heap.size + 1 + 1, 0, none⟩)] 69 (0, 0))) (kf : W6.heap[w.heap.size + 1 + 1 + 1 + 1]? = some (.cells #[(.func (.func 82) #[] #[.pointer (some ⟨w.heap.size + 1, 0, none⟩), .pointer (some ⟨w.heap.size, 0, none⟩), .pointer (some ⟨w.heap.size + 1 + 1 + 1, 0, none⟩), .pointer (some ⟨w.heap.size + 1 + 1 + 1 + 1, 0, none⟩)])] 95 (0, 0))) (hb : Below w.heap.size w W6) (hs6 : W6.heap.size = w.heap.size + 1 + 1 + 1 + 1 + 1) :
    Calls Try.prog 82 #[.slice (some ⟨W6.drew.heap.size, 0, none⟩) 0 3, .pointer (some ⟨w.heap.size + 1, 0, none⟩), .pointer (some ⟨w.heap.size, 0, none⟩), .pointer (some ⟨w.heap.size + 1 + 1 + 1, 0, none⟩), .pointer (some ⟨w.heap.size + 1 + 1 + 1 + 1, 0, none⟩)] (W6.drew.alloc (.cells #[.int .i64 0, .int .i64 0, .int .i64 0] 2)) fun e W' => e = .returned (.tuple #[]) ∧ ∃ vP' vF', NC W' w.heap.size { bt := w.heap.size + 1, bs := w.heap.size, bc := w.heap.size + 1 + 1 + 1, bf := w.heap.size + 1 + 1 + 1 + 1, gC := w.heap.size + 1 + 1, B := W6.heap.size, lo := W6.heap.size + 1 } tt A c s vP' vF' (plc s.length tt 0) (firsts s 0 (plc s.length tt 0)) (manyC s (plc s.length tt 0)) [] ∧ Below w.heap.size w W' := by
  have hA : NA w.heap.size { bt := w.heap.size + 1, bs := w.heap.size, bc := w.heap.size + 1 + 1 + 1, bf := w.heap.size + 1 + 1 + 1 + 1, gC := w.heap.size + 1 + 1, B := W6.heap.size, lo := W6.heap.size + 1 } := by
    constructor <;> dsimp only <;> omega
  have hN : NC (W6.drew.alloc (.cells #[.int .i64 0, .int .i64 0, .int .i64 0] 2)) w.heap.size { bt := w.heap.size + 1, bs := w.heap.size, bc := w.heap.size + 1 + 1 + 1, bf := w.heap.size + 1 + 1 + 1 + 1, gC := w.heap.size + 1 + 1, B := W6.heap.size, lo := W6.heap.size + 1 } tt A c s (.slice none 0 0) (.slice none 0 0) [] [] 0 [] :=
    ⟨blk_alloc (blk_drew kt) _, blk_alloc (blk_drew ks) _, blk_alloc (blk_drew kc) _, blk_alloc (blk_drew kf) _, blk_alloc (blk_drew kg) _, ⟨_, blk_new W6.drew _, rfl, fun j h => absurd h (Nat.not_lt_zero _)⟩, Kd.R_nil _ _ _ _ _, Kd.R_nil _ _ _ _ _⟩
  have e1 : ((plc s.length tt (frm [])).map fun p => ([] : List Int) ++ p) = plc s.length tt 0 := by simp [frm]
  have hpb := plc_bound s.length h8 tt ht
  have hmany : manyC s (plc s.length tt 0) ≤ 64 * (plc s.length tt 0).length := many_le s hq _ (fun p hp => by
    have := plc_ok s.length tt 0 p hp
    exact ⟨by omega, this.2⟩)
  have h := sw_all { bt := w.heap.size + 1, bs := w.heap.size, bc := w.heap.size + 1 + 1 + 1, bf := w.heap.size + 1 + 1 + 1 + 1, gC := w.heap.size + 1 + 1, B := W6.heap.size, lo := W6.heap.size + 1 } tt A c s w hs hA h8 hq ht tt (.slice none 0 0) (.slice none 0 0) [] [] 0 [] _ hN (below_alloc (below_drew hb) _) (by
    show W6.heap.size + 1 ≤ _
    rw [World.size_alloc]
    exact Nat.le_refl _) (by simp) (fun i hi => by simp at hi) (by simp [frm]) (by rw [e1]; simp; omega) rfl (by omega) (by rw [e1]; omega)
  rw [e1, List.nil_append, List.nil_append, Int.zero_add] at h
  exact h
set_option maxHeartbeats 4000000 in
set_option maxRecDepth 100000 in
theorem newChoices_walk (A : Option Addr) (c : Nat) (s : List Int) (tt : Nat) (w : World) (hs : Kd.C (Kd.int .i64) w A s.length s) (hc : s.length ≤ c) (h8 : s.length ≤ 8) (hq : ∀ q ∈ s, 2 ≤ q ∧ q ≤ 4) (ht : tt ≤ 3) :
    Calls Try.prog 51 #[.agg #[.slice A s.length c], .int .i64 (tt : Int)] w fun e w' => ∃ (g : Nat) (AP : Option Addr) (cP : Nat) (AF : Option Addr) (cF : Nat), e = .returned (.pointer (some ⟨g, 0, none⟩)) ∧ ChAt w' g A c s AP cP (plc s.length tt 0) AF cF (firsts s 0 (plc s.length tt 0)) (manyC s (plc s.length tt 0)) ∧ Below w.heap.size w w' := by
  have HS := Aside0.mk hs
  have HQ := Aside0.mk hq
  have HC := Aside0.mk hc
  clear hs hq hc
  obtain ⟨W4, hW4⟩ : ∃ W4, W4 = ((((w.alloc (.cells #[.slice A s.length c] 27)).alloc (.cells #[.int .i64 (tt : Int)] 2)).alloc (.cells #[.slice A s.length c, .slice none 0 0, .slice none 0 0, .int .i64 0] 82)).alloc (.cells #[.pointer (some ⟨w.heap.size + 1 + 1, 0, none⟩)] 69)) := ⟨_, rfl⟩
  have hs4 : W4.heap.size = w.heap.size + 1 + 1 + 1 + 1 := by rw [hW4]; simp
  have k5 := blk_new W4 (.cells #[.nilFunc] 95)
  have ks0 := blk_alloc (blk_alloc (blk_alloc (blk_new w (.cells #[.slice A s.length c] 27)) (.cells #[.int .i64 (tt : Int)] 2)) (.cells #[.slice A s.length c, .slice none 0 0, .slice none 0 0, .int .i64 0] 82)) (.cells #[.pointer (some ⟨w.heap.size + 1 + 1, 0, none⟩)] 69)
  have kt0 := blk_alloc (blk_alloc (blk_new (w.alloc (.cells #[.slice A s.length c] 27)) (.cells #[.int .i64 (tt : Int)] 2)) (.cells #[.slice A s.length c, .slice none 0 0, .slice none 0 0, .int .i64 0] 82)) (.cells #[.pointer (some ⟨w.heap.size + 1 + 1, 0, none⟩)] 69)
  have kg0 := blk_alloc (blk_new ((w.alloc (.cells #[.slice A s.length c] 27)).alloc (.cells #[.int .i64 (tt : Int)] 2)) (.cells #[.slice A s.length c, .slice none 0 0, .slice none 0 0, .int .i64 0] 82)) (.cells #[.pointer (some ⟨w.heap.size + 1 + 1, 0, none⟩)] 69)
  have kc0 := blk_new (((w.alloc (.cells #[.slice A s.length c] 27)).alloc (.cells #[.int .i64 (tt : Int)] 2)).alloc (.cells #[.slice A s.length c, .slice none 0 0, .slice none 0 0, .int .i64 0] 82)) (.cells #[.pointer (some ⟨w.heap.size + 1 + 1, 0, none⟩)] 69)
  have hb4 : Below w.heap.size w W4 := by rw [hW4]; exact below_alloc (below_alloc (below_alloc (below_alloc (Below.refl _ _) _) _) _) _
  simp only [World.size_alloc] at ks0 kt0 kg0 kc0
  rw [← hW4] at ks0 kt0 kg0 kc0
  rw [hs4] at k5
  have hk5 : (W4.alloc (.cells #[.nilFunc] 95)).heap[w.heap.size]? = _ ∧ (W4.alloc (.cells #[.nilFunc] 95)).heap[w.heap.size + 1]? = _ ∧ (W4.alloc (.cells #[.nilFunc] 95)).heap[w.heap.size + 1 + 1]? = _ ∧ (W4.alloc (.cells #[.nilFunc] 95)).heap[w.heap.size + 1 + 1 + 1]? = _ ∧ (W4.alloc (.cells #[.nilFunc] 95)).heap[w.heap.size + 1 + 1 + 1 + 1]? = _ ∧ Below w.heap.size w (W4.alloc (.cells #[.nilFunc] 95)) ∧ (W4.alloc (.cells #[.nilFunc] 95)).heap.size = w.heap.size + 1 + 1 + 1 + 1 + 1 := ⟨blk_alloc ks0 _, blk_alloc kt0 _, blk_alloc kg0 _, blk_alloc kc0 _, k5, below_alloc hb4 _, by simp [hs4]⟩
  have HK := Aside0.mk hk5
  clear ks0 kt0 kg0 kc0 k5 hb4 hs4 hk5
  subst hW4
  go_enter Try.func51, Try.ntmps51
  go_upto_region 3 with fail
  generalize ((((w.alloc (.cells #[.slice A s.length c] 27)).alloc (.cells #[.int .i64 (tt : Int)] 2)).alloc (.cells #[.slice A s.length c, .slice none 0 0, .slice none 0 0, .int .i64 0] 82)).alloc (.cells #[.pointer (some ⟨w.heap.size + 1 + 1, 0, none⟩)] 69)).alloc (.cells #[.nilFunc] 95) = W5 at HK ⊢
  have hcf : W5.cell? ⟨w.heap.size + 1 + 1 + 1 + 1, 0, none⟩ = some .nilFunc := (blk_cell HK.out.2.2.2.2.1 0).trans rfl
  have hff : W5.frozen? ⟨w.heap.size + 1 + 1 + 1 + 1, 0, none⟩ = false := blk_frozen HK.out.2.2.2.2.1 0
  go_wp2
  have kf6 := blk_set HK.out.2.2.2.2.1 0 (.func (.func 82) #[] #[.pointer (some ⟨w.heap.size + 1, 0, none⟩), .pointer (some ⟨w.heap.size, 0, none⟩), .pointer (some ⟨w.heap.size + 1 + 1 + 1, 0, none⟩), .pointer (some ⟨w.heap.size + 1 + 1 + 1 + 1, 0, none⟩)])
  have ks6 := blk_far (p := ⟨w.heap.size + 1 + 1 + 1 + 1, 0, none⟩) HK.out.1 (show w.heap.size ≠ w.heap.size + 1 + 1 + 1 + 1 by omega) (.func (.func 82) #[] #[.pointer (some ⟨w.heap.size + 1, 0, none⟩), .pointer (some ⟨w.heap.size, 0, none⟩), .pointer (some ⟨w.heap.size + 1 + 1 + 1, 0, none⟩), .pointer (some ⟨w.heap.size + 1 + 1 + 1 + 1, 0, none⟩)])
  have kt6 := blk_far (p := ⟨w.heap.size + 1 + 1 + 1 + 1, 0, none⟩) HK.out.2.1 (show w.heap.size + 1 ≠ w.heap.size + 1 + 1 + 1 + 1 by omega) (.func (.func 82) #[] #[.pointer (some ⟨w.heap.size + 1, 0, none⟩), .pointer (some ⟨w.heap.size, 0, none⟩), .pointer (some ⟨w.heap.size + 1 + 1 + 1, 0, none⟩), .pointer (some ⟨w.heap.size + 1 + 1 + 1 + 1, 0, none⟩)])
  have kg6 := blk_far (p := ⟨w.heap.size + 1 + 1 + 1 + 1, 0, none⟩) HK.out.2.2.1 (show w.heap.size + 1 + 1 ≠ w.heap.size + 1 + 1 + 1 + 1 by omega) (.func (.func 82) #[] #[.pointer (some ⟨w.heap.size + 1, 0, none⟩), .pointer (some ⟨w.heap.size, 0, none⟩), .pointer (some ⟨w.heap.size + 1 + 1 + 1, 0, none⟩), .pointer (some ⟨w.heap.size + 1 + 1 + 1 + 1, 0, none⟩)])
  have kc6 := blk_far (p := ⟨w.heap.size + 1 + 1 + 1 + 1, 0, none⟩) HK.out.2.2.2.1 (show w.heap.size + 1 + 1 + 1 ≠ w.heap.size + 1 + 1 + 1 + 1 by omega) (.func (.func 82) #[] #[.pointer (some ⟨w.heap.size + 1, 0, none⟩), .pointer (some ⟨w.heap.size, 0, none⟩), .pointer (some ⟨w.heap.size + 1 + 1 + 1, 0, none⟩), .pointer (some ⟨w.heap.size + 1 + 1 + 1 + 1, 0, none⟩)])
  have hb6 : Below w.heap.size w (W5.setCell ⟨w.heap.size + 1 + 1 + 1 + 1, 0, none⟩ (.func (.func 82) #[] #[.pointer (some ⟨w.heap.size + 1, 0, none⟩), .pointer (some ⟨w.heap.size, 0, none⟩), .pointer (some ⟨w.heap.size + 1 + 1 + 1, 0, none⟩), .pointer (some ⟨w.heap.size + 1 + 1 + 1 + 1, 0, none⟩)])) := below_set HK.out.2.2.2.2.2.1 (by omega)
  have hs6 : (W5.setCell ⟨w.heap.size + 1 + 1 + 1 + 1, 0, none⟩ (.func (.func 82) #[] #[.pointer (some ⟨w.heap.size + 1, 0, none⟩), .pointer (some ⟨w.heap.size, 0, none⟩), .pointer (some ⟨w.heap.size + 1 + 1 + 1, 0, none⟩), .pointer (some ⟨w.heap.size + 1 + 1 + 1 + 1, 0, none⟩)])).heap.size = w.heap.size + 1 + 1 + 1 + 1 + 1 := by
    have h := HK.out.2.2.2.2.2.2
    simpa using h
  have HK6 := Aside0.mk (And.intro ks6 (And.intro kt6 (And.intro kg6 (And.intro kc6 (And.intro kf6 (And.intro hb6 hs6))))))
  clear kf6 ks6 kt6 kg6 kc6 hb6 hs6 hcf hff
  generalize W5.setCell ⟨w.heap.size + 1 + 1 + 1 + 1, 0, none⟩ (.func (.func 82) #[] #[.pointer (some ⟨w.heap.size + 1, 0, none⟩), .pointer (some ⟨w.heap.size, 0, none⟩), .pointer (some ⟨w.heap.size + 1 + 1 + 1, 0, none⟩), .pointer (some ⟨w.heap.size + 1 + 1 + 1 + 1, 0, none⟩)]) = W6 at HK6 ⊢
  have HCALL := Aside0.mk (nc_call A c s tt w W6 HS.out h8 HQ.out ht HK6.out.1 HK6.out.2.1 HK6.out.2.2.1 HK6.out.2.2.2.1 HK6.out.2.2.2.2.1 HK6.out.2.2.2.2.2.1 HK6.out.2.2.2.2.2.2)
  have hbf : W6.drew.cell? ⟨w.heap.size + 1 + 1 + 1 + 1, 0, none⟩ = some (.func (.func 82) #[] #[.pointer (some ⟨w.heap.size + 1, 0, none⟩), .pointer (some ⟨w.heap.size, 0, none⟩), .pointer (some ⟨w.heap.size + 1 + 1 + 1, 0, none⟩), .pointer (some ⟨w.heap.size + 1 + 1 + 1 + 1, 0, none⟩)]) := (blk_cell HK6.out.2.2.2.2.1 0).trans rfl
  have hmk := nc_make W6.drew
  refine start_ (n := 3) (S := fun w' => w'.cell? ⟨w.heap.size + 1 + 1 + 1 + 1, 0, none⟩ = some (.func (.func 82) #[] #[.pointer (some ⟨w.heap.size + 1, 0, none⟩), .pointer (some ⟨w.heap.size, 0, none⟩), .pointer (some ⟨w.heap.size + 1 + 1 + 1, 0, none⟩), .pointer (some ⟨w.heap.size + 1 + 1 + 1 + 1, 0, none⟩)])) (ds := []) #[false, false, false] (by kernel_rfl) rfl rfl hbf (fun hHeld => ?_)
  refine take_ (i := 0) (N := some 11) (v := ?_) (a' := ?_) #[true, false, false] rfl rfl (by kernel_rfl) (fun _ _ _ h => h) (Or.inl ⟨by rfl, ?_⟩) hHeld ?_ ?_
  rotate_left
  · intro w' s0
    go_simp
    with_reducible rfl
  rotate_left
  · simp only [Act.put, List.setIfInBounds_toArray, List.set_cons_zero, List.set_cons_succ, i64_w, i32_w]
    rfl
  refine one_ (i := 1) (N := some 12) #[true, true, false] rfl rfl (by kernel_rfl) (by decide) (fun K hK => ?_)
  refine value_ (w1 := W6.drew.alloc (.cells #[.int .i64 0, .int .i64 0, .int .i64 0] 2)) (v := .slice (some ⟨W6.drew.heap.size, 0, none⟩) 0 3) (by rfl) rfl (by first | (go_simp; done) | exact hmk) ?_
  refine hK.out _ _ ((World.cell?_alloc_lt _ _ _ (World.block_lt_of_cell? _ _ hHeld)).trans hHeld) (fun hHeld => ?_)
  clear hK K
  refine norm_ (a' := ?_) ?_ ?_
  rotate_left
  · show Act.put _ (some 12) _ = _
    simp only [Act.put, List.setIfInBounds_toArray, List.set_cons_zero, List.set_cons_succ, i64_w, i32_w]
    rfl
  refine one_ (i := 2) (N := some 13) #[true, true, true] rfl rfl (by kernel_rfl) (by decide) (fun K hK => ?_)
  refine goesV Try.func82 (by kernel_rfl) rfl #[.slice (some ⟨W6.drew.heap.size, 0, none⟩) 0 3, .pointer (some ⟨w.heap.size + 1, 0, none⟩), .pointer (some ⟨w.heap.size, 0, none⟩), .pointer (some ⟨w.heap.size + 1 + 1 + 1, 0, none⟩), .pointer (some ⟨w.heap.size + 1 + 1 + 1 + 1, 0, none⟩)] (by rfl) rfl rfl (by rfl) (by first | rfl | (simp; rfl) | (simp [List.append_toArray]; done)) ?_
  refine HCALL.out.mono ?_
  rintro e w4 ⟨rfl, vP2, vF2, hN4, hB4⟩
  refine ⟨_, rfl, ?_⟩
  refine hK.out _ _ ((blk_cell hN4.kf 0).trans rfl) (fun hHeld => ?_)
  clear hK K
  refine norm_ (a' := ?_) ?_ ?_
  rotate_left
  · show Act.put _ (some 13) _ = _
    simp only [Act.put, List.setIfInBounds_toArray, List.set_cons_zero, List.set_cons_succ, i64_w, i32_w]
    rfl
  refine done_ (by kernel_rfl) ?_
  have hc5 : w4.cell? ⟨w.heap.size + 1 + 1 + 1, 0, none⟩ = some (.pointer (some ⟨w.heap.size + 1 + 1, 0, none⟩)) := (blk_cell hN4.kc 0).trans rfl
  go_wp2
  go_ret
  obtain ⟨AP, cP, hP1, hP2, hP3⟩ := Kd.R_reads hN4.hP
  obtain ⟨AF, cF, hF1, hF2, hF3⟩ := Kd.R_reads hN4.hF
  subst hP1 hF1
  exact ⟨w.heap.size + 1 + 1, AP, cP, AF, cF, rfl, ⟨hN4.kg, Kd.C_below HS.out hB4, hP3, hF3, HC.out⟩, hB4⟩
end Go.Proofs.Ytbfhhjekonafdaa.DG
