-- WALKS, by a program and by hand
import Derived.Test.YthbfaefneoeadaaPFnExactGreedyRowsx0
import Derived.Test.YthbfaefneoeadaaPFnExactGreedyRowsx6
import Derived.Test.YthbfaefneoeadaaPFnExactGreedyRowsx7
namespace Go.Proofs.Ythbfaefneoeadaa.PFnExactGreedyRows
open Go.RowKit Go.Proofs.Ythbfaefneoeadaa.DG Go.Proofs.YthbfaefneoeadaaW.PrintWords Go.Proofs.YthbfaefneoeadaaW.PrintLast Go.Proofs.YthbfaefneoeadaaW.PrintMore
attribute [local go_sem] max2_int min2_int max_two min_two max_three min_three max_four min_four   -- for this text's walks alone
set_option linter.unusedVariables false
set_option linter.unusedSimpArgs false

/-! ### impl_GreedyRows: function 25 -/
def impl_GreedyRows.f (k : Nat) (l0 : List Int) (a1 : Int) : Option (List Int × Int) := (impl_rowsCode.f k l0 [] a1).bind fun c => if c = 0 then (if okS l0 = true then (if 0 ≤ a1 then (if a1 ≤ 3 then (impl_count.f k l0).bind fun n => if 0 < n then (if n ≤ 1000000 then greedyG ((List.range n.toNat).map fun (x : Nat) => ofT l0 a1.toNat (x : Int)) 201 (List.replicate (manyC l0 (plc l0.length a1.toNat 0)).toNat false) (manyC l0 (plc l0.length a1.toNat 0)) [] else none) else none else none) else none) else none) else some ([], c)
theorem impl_GreedyRows.mono : ∀ a0 a1 k, LeO (impl_GreedyRows.f k a0 a1) (impl_GreedyRows.f (k + 1) a0 a1) := by
  intro a0 a1 k
  unfold impl_GreedyRows.f
  refine LeO.bind (impl_rowsCode.mono _ _ _ k) (fun c => ?_)
  by_cases h0 : c = 0
  · rw [if_pos h0, if_pos h0]
    by_cases h1 : okS a0 = true
    · rw [if_pos h1, if_pos h1]
      by_cases h2 : 0 ≤ a1
      · rw [if_pos h2, if_pos h2]
        by_cases h3 : a1 ≤ 3
        · rw [if_pos h3, if_pos h3]
          exact LeO.bind (impl_count.mono _ k) (fun _ => LeO.refl _)
        · rw [if_neg h3, if_neg h3]; exact LeO.refl _
      · rw [if_neg h2, if_neg h2]; exact LeO.refl _
    · rw [if_neg h1, if_neg h1]; exact LeO.refl _
  · rw [if_neg h0, if_neg h0]; exact LeO.refl _
theorem nil_G (w : World) : Kd.C (Kd.int .i64) w none ([] : List Int).length [] := Kd.C_of_reads (d := (0 : Int)) (h1 := fun _ => rfl) ⟨rfl, by simp, fun h => by simp at h⟩
set_option maxHeartbeats 1000000 in
set_option maxRecDepth 100000 in
theorem gr_code (k : Nat) (A0 : Option Addr) (c0 : Nat) (l0 : List Int) (a : Int) (w : World) (hr0 : Kd.C (Kd.int .i64) w A0 l0.length l0) (hc0 : l0.length ≤ c0) (c : Int) (hw : impl_rowsCode.f k l0 [] a = some c) (hn : c ≠ 0) :
    Calls Try.prog 25 #[.agg #[.slice A0 l0.length c0], .int .i64 a] w fun e w' => ∃ v0_ : Value, e = .returned (.tuple #[v0_, .int .i64 c]) ∧ Kd.R (Kd.int .i64) 2 w' w.heap.size (fun _ => True) v0_ [] ∧ Below w.heap.size w w' := by
  have HR0 := Aside0.mk hr0
  have HC0 := Aside0.mk hc0
  have HWE := Aside0.mk hw
  clear hr0 hc0 hw
  go_enter Try.func25, Try.ntmps25
  go_wp2_with fail
  have hb1 : Below w.heap.size w (w.alloc (.cells #[.slice A0 l0.length c0] 30)) := below_alloc (Below.refl _ _) _
  generalize w.alloc (.cells #[.slice A0 l0.length c0] 30) = W1 at hb1 ⊢
  refine (impl_rowsCode.calls k A0 c0 l0 none 0 [] a c W1 (Kd.C_below HR0.out hb1) HC0.out (nil_G _) (Nat.le_refl _) HWE.out).mono ?_
  rintro e w2 ⟨rfl, hb2⟩
  have HB2 := Aside0.mk (below_step hb1 hb2)
  clear hb1 hb2
  have hne : (c != 0) = true := bne_iff_ne.2 hn
  go_wp2
  go_ret2
  exact ⟨_, rfl, Kd.R_nil _ _ _ _ _, HB2.out⟩
theorem R_own_b {w : World} {base : Nat} {ok : Nat → Prop} {v : Value} {xs : List Bool} (h : Kd.R Kd.bool 4 w base ok v xs) : Kd.R Kd.bool 4 w base (fun k => v.ownBlock = some k) v xs := Kd.R_of_own (Kd.own_of_R h) (fun _ hk => hk)
theorem out_R (W : World) (base : Nat) (hb : base ≤ W.heap.size) : Kd.R (Kd.int .i64) 2 (W.alloc (.cells #[] 2)) base (fun k => k = W.heap.size) (.slice (some ⟨W.heap.size, 0, none⟩) 0 0) [] := ⟨fun k hk => by
  have : W.heap.size = k := by simpa [Value.ownBlock] using hk
  exact this.symm, OwnRow.lit W base (Reps.none _ _) hb (by simp)⟩
theorem gr_rows (s : List Int) (h8 : s.length ≤ 8) (hq : ∀ q ∈ s, 2 ≤ q ∧ q ≤ 4) (t : Nat) (ht : t ≤ 3) (n : Nat) : ((List.range n).map fun (x : Nat) => ofT s t (x : Int)).length = n ∧ ∀ i, i < n → (rdL ((List.range n).map fun (x : Nat) => ofT s t (x : Int)) i).length ≤ 56 ∧ ∀ x ∈ rdL ((List.range n).map fun (x : Nat) => ofT s t (x : Int)) i, 0 ≤ x ∧ x < manyC s (plc s.length t 0) := by
  refine ⟨by simp, fun i hi => ?_⟩
  rw [rdL_eq _ i (by simpa using hi)]
  simp only [List.getElem_map, List.getElem_range]
  exact ⟨ofT_len s h8 t ht _, ofT_in s hq t _⟩
theorem markA_drop (L : List Int) (i : Nat) (hi : i < L.length) (h : List Bool) : markA h (L.drop i) = markA (h.set (rd L (i : Int)).toNat true) (L.drop (i + 1)) := by
  unfold markA
  rw [List.drop_eq_getElem_cons hi, List.foldl_cons, rd_nat' L i hi]
theorem gr_get {w9 : World} {base gh go N0 i cA : Nat} {adA : Addr} {all : List (List Int)} (HA9 : Kd.R (Kd.slice 2 (Kd.int .i64)) 22 w9 base (fun k => (k ≠ gh ∧ k ≠ go) ∧ k < N0) (.slice (some adA) i cA) all) (b : Nat) (hb : b < i) (L : List Int) (hLe : L = rdL all b) : ∃ AL cL, w9.cell? (adA.add b) = some (.slice AL L.length cL) ∧ Kd.R (Kd.int .i64) 2 w9 base (fun k => k ≠ gh) (.slice AL L.length cL) L := by
  obtain ⟨cs9, hcs9, hM9, hcl9⟩ := Kd.R_get HA9 ([] : List Int) (b : Int) (by omega) (by omega)
  obtain ⟨vL, hvL, hRL⟩ := hM9
  subst hvL
  have hcb : w9.cell? (adA.add b) = some vL := by
    have h1 := hcl9 0 vL rfl
    rw [Int.toNat_natCast] at h1
    have h2 : w9.cell? (adA.add (b * 1 + 0)) = some vL := h1
    rwa [Nat.mul_one, Nat.add_zero] at h2
  rw [Int.toNat_natCast] at hRL
  rw [show all.getD b [] = L from hLe.symm] at hRL
  obtain ⟨AL, cL, hvL⟩ := Kd.R_slice hRL
  subst hvL
  exact ⟨AL, cL, hcb, Kd.R_mono hRL (fun k hk => hk.1.1.1)⟩
theorem gr_no {k gh go N0 : Nat} (h1 : k ≠ gh ∧ (k = go ∨ N0 ≤ k)) (h2 : (k ≠ gh ∧ k ≠ go) ∧ k < N0) : False := by omega
/-- The two new rows, in either order. -/
theorem had_first (w3 : World) (n : Nat) (Z : Array Value) (hZ : Z = madeCells (Value.bool false).cells n) (hm : n ≤ maxLen) : Kd.R Kd.bool 4 ((w3.alloc (.cells Z 4)).alloc (.cells #[] 2)).drew w3.heap.size (fun _ => True) (.slice (some ⟨w3.heap.size, 0, none⟩) n n) (List.replicate n false) ∧ Kd.R (Kd.int .i64) 2 ((w3.alloc (.cells Z 4)).alloc (.cells #[] 2)).drew w3.heap.size (fun k => some k ≠ (Value.slice (some ⟨w3.heap.size, 0, none⟩) n n).ownBlock) (.slice (some ⟨w3.heap.size + 1, 0, none⟩) 0 0) [] ∧ Below w3.heap.size w3 ((w3.alloc (.cells Z 4)).alloc (.cells #[] 2)).drew := by
  subst hZ
  have e := World.size_alloc w3 (.cells (madeCells (Value.bool false).cells n) 4)
  refine ⟨Kd.R_drew (Kd.R_below (had_R n w3 w3.heap.size _ (Nat.le_refl _) trivial hm) (below_alloc (Below.refl _ _) _)), Kd.R_drew ?_, below_drew (below_alloc (below_alloc (Below.refl _ _) _) _)⟩
  have h := out_R (w3.alloc (.cells (madeCells (Value.bool false).cells n) 4)) w3.heap.size (by omega)
  rw [e] at h
  exact Kd.R_mono h (fun k hk he => by
    have : k = w3.heap.size := by simpa [Value.ownBlock] using he
    omega)
theorem out_first (w3 : World) (n : Nat) (Z : Array Value) (hZ : Z = madeCells (Value.bool false).cells n) (hm : n ≤ maxLen) : Kd.R Kd.bool 4 ((w3.alloc (.cells #[] 2)).alloc (.cells Z 4)).drew w3.heap.size (fun _ => True) (.slice (some ⟨w3.heap.size + 1, 0, none⟩) n n) (List.replicate n false) ∧ Kd.R (Kd.int .i64) 2 ((w3.alloc (.cells #[] 2)).alloc (.cells Z 4)).drew w3.heap.size (fun k => some k ≠ (Value.slice (some ⟨w3.heap.size + 1, 0, none⟩) n n).ownBlock) (.slice (some ⟨w3.heap.size, 0, none⟩) 0 0) [] ∧ Below w3.heap.size w3 ((w3.alloc (.cells #[] 2)).alloc (.cells Z 4)).drew := by
  subst hZ
  have e := World.size_alloc w3 (.cells #[] 2)
  refine ⟨Kd.R_drew ?_, Kd.R_drew (Kd.R_mono (Kd.R_below (out_R w3 w3.heap.size (Nat.le_refl _)) (below_alloc (Below.refl _ _) _)) (fun k hk he => by
    have : k = w3.heap.size + 1 := by simpa [Value.ownBlock] using he
    omega)), below_drew (below_alloc (below_alloc (Below.refl _ _) _) _)⟩
  have h := had_R n (w3.alloc (.cells #[] 2)) w3.heap.size (fun _ => True) (by omega) trivial hm
  rw [e] at h
  exact h
set_option maxHeartbeats 4000000 in
set_option maxRecDepth 100000 in
theorem gr_good (k : Nat) (A0 : Option Addr) (c0 : Nat) (l0 : List Int) (tt : Nat) (w : World) (hr0 : Kd.C (Kd.int .i64) w A0 l0.length l0) (hc0 : l0.length ≤ c0) (hw : impl_rowsCode.f k l0 [] (tt : Int) = some 0) (n : Nat) (hcn : impl_count.f k l0 = some (n : Int)) (hn0 : 0 < n) (hn1 : n ≤ 1000000) (r1 : List Int) (r2 : Int) (hgr : greedyG ((List.range n).map fun (x : Nat) => ofT l0 tt (x : Int)) 201 (List.replicate (manyC l0 (plc l0.length tt 0)).toNat false) (manyC l0 (plc l0.length tt 0)) [] = some (r1, r2)) (h8 : l0.length ≤ 8) (hq : ∀ q ∈ l0, 2 ≤ q ∧ q ≤ 4) (ht : tt ≤ 3) :
    Calls Try.prog 25 #[.agg #[.slice A0 l0.length c0], .int .i64 (tt : Int)] w fun e w' => ∃ v0_ : Value, e = .returned (.tuple #[v0_, .int .i64 r2]) ∧ Kd.R (Kd.int .i64) 2 w' w.heap.size (fun _ => True) v0_ r1 ∧ Below w.heap.size w w' := by
  have HR0 := Aside0.mk hr0
  have HC0 := Aside0.mk hc0
  have HWE := Aside0.mk hw
  have HQ := Aside0.mk hq
  have HCN := Aside0.mk hcn
  have HGR := Aside0.mk hgr
  clear hr0 hc0 hw hq hcn hgr
  go_enter Try.func25, Try.ntmps25
  go_wp2_with fail
  have hb1 : Below w.heap.size w (w.alloc (.cells #[.slice A0 l0.length c0] 30)) := below_alloc (Below.refl _ _) _
  have hk1 := blk_new w (.cells #[.slice A0 l0.length c0] 30)
  generalize w.alloc (.cells #[.slice A0 l0.length c0] 30) = W1 at hb1 hk1 ⊢
  refine (impl_rowsCode.calls k A0 c0 l0 none 0 [] (tt : Int) 0 W1 (Kd.C_below HR0.out hb1) HC0.out (nil_G _) (Nat.le_refl _) HWE.out).mono ?_
  rintro e w2 ⟨rfl, hb2⟩
  have HB2 := Aside0.mk (below_step hb1 hb2)
  have hk2 := blk_below hk1 hb2
  have hbx : w2.cell? ⟨w.heap.size, 0, none⟩ = some (.slice A0 l0.length c0) := (blk_cell (blk_below hk1 hb2) 0).trans rfl
  clear hb1 hk1 hb2
  go_wp2_with fail
  refine (newChoices_walk A0 c0 l0 tt w2 (Kd.C_below HR0.out HB2.out) HC0.out h8 HQ.out ht).mono ?_
  rintro e w3 ⟨g, AP, cP, AF, cF, rfl, hch, hb3⟩
  obtain ⟨m, hm⟩ : ∃ m, m = manyC l0 (plc l0.length tt 0) := ⟨_, rfl⟩
  obtain ⟨hm0, hm1⟩ := plc_many l0 h8 HQ.out tt ht
  have HB3 := Aside0.mk (below_step HB2.out hb3)
  have HCH := Aside0.mk hch
  have HK3 := Aside0.mk (blk_below hk2 hb3)
  have hg3 : w3.cell? ⟨g, 3, none⟩ = some (.int .i64 m) := by rw [hm]; exact (blk_cell hch.cell 3).trans rfl
  rw [← hm] at hm0 hm1 HGR
  have HM := Aside0.mk hm
  clear hch hb3 hbx hm hk2
  go_upto_region 5 with fail
  obtain ⟨i0, hi0, hi1⟩ := Option.map_eq_some_iff.1 bool_info
  simp only [Prod.mk.injEq] at hi1
  obtain ⟨hiz, his, hib⟩ := hi1
  obtain ⟨Z, hZ⟩ : ∃ Z : Array Value, Z = madeCells (Value.bool false).cells (m.toNat * i0.size) := ⟨_, rfl⟩
  have hmk : ∀ W : World, (Instr.makeSlice 54 (.int .i64 m) (.int .i64 m)).run Try.prog W = .ok (.slice (some ⟨W.heap.size, 0, none⟩) m.toNat m.toNat) (W.alloc (.cells Z 4)) := fun W => by
    rw [hZ]
    exact run_make (P := Try.prog) W 54 4 i0 (.bool false) Try.underlying54 hi0 hiz .i64 .i64 m m hm0 (Int.le_refl _) (by rw [hib]; omega) (by omega)
  have hg4 : ∀ o, (w3.alloc o).cell? ⟨g, 3, none⟩ = some (.int .i64 m) := fun o => (World.cell?_alloc_lt _ _ _ (World.block_lt_of_cell? _ _ hg3)).trans hg3
  have hg6 : ∀ o o2, ((w3.alloc o).alloc o2).cell? ⟨g, 3, none⟩ = some (.int .i64 m) := fun o o2 => (World.cell?_alloc_lt _ _ _ (World.block_lt_of_cell? _ _ (hg4 o))).trans (hg4 o)
  have hg5 : ∀ o, (w3.drew.alloc o).cell? ⟨g, 3, none⟩ = some (.int .i64 m) := fun o => (World.cell?_alloc_lt _ _ _ (World.block_lt_of_cell? _ _ hg3)).trans hg3
  have HZZ := Aside0.mk (show Z = madeCells (Value.bool false).cells m.toNat by rw [hZ, his, Nat.mul_one])
  clear hZ hi0 hiz his hib
  go_region
  rotate_left
  have h5 := out_first w3 m.toNat Z HZZ.out (by unfold maxLen; omega)
  generalize ((w3.alloc (.cells #[] 2)).alloc (.cells Z 4)).drew = W5 at h5 ⊢
  generalize hvh : Value.slice (some ⟨w3.heap.size + 1, 0, none⟩) m.toNat m.toNat = vh at h5 ⊢
  generalize hvo : Value.slice (some ⟨w3.heap.size, 0, none⟩) 0 0 = vo at h5 ⊢
  obtain ⟨gh, hgh⟩ : ∃ gh, vh = .slice (some ⟨gh, 0, none⟩) m.toNat m.toNat := ⟨_, hvh.symm⟩
  obtain ⟨go, hgo⟩ : ∃ go, vo = .slice (some ⟨go, 0, none⟩) 0 0 := ⟨_, hvo.symm⟩
  clear hvh hvo
  subst hgh hgo
  rotate_left
  have h5 := had_first w3 m.toNat Z HZZ.out (by unfold maxLen; omega)
  generalize ((w3.alloc (.cells Z 4)).alloc (.cells #[] 2)).drew = W5 at h5 ⊢
  generalize hvh : Value.slice (some ⟨w3.heap.size, 0, none⟩) m.toNat m.toNat = vh at h5 ⊢
  generalize hvo : Value.slice (some ⟨w3.heap.size + 1, 0, none⟩) 0 0 = vo at h5 ⊢
  obtain ⟨gh, hgh⟩ : ∃ gh, vh = .slice (some ⟨gh, 0, none⟩) m.toNat m.toNat := ⟨_, hvh.symm⟩
  obtain ⟨go, hgo⟩ : ∃ go, vo = .slice (some ⟨go, 0, none⟩) 0 0 := ⟨_, hvo.symm⟩
  clear hvh hvo
  subst hgh hgo
  all_goals
    obtain ⟨hh5, ho5, hb5⟩ := h5
    have hlen := World.size_alloc W5 (.cells #[] 22)
    have hgl := (R_blk hh5 gh rfl).1
    have hgo1 := (R_blk ho5 go rfl).1
    have hgg : go ≠ gh := fun he => (R_blk ho5 go rfl).2.2 (by rw [he]; rfl)
    have hb6 := below_alloc hb5 (.cells #[] 22)
    have HK6 := Aside0.mk (blk_alloc (blk_below HK3.out hb5) (.cells #[] 22))
    have HBW6 := Aside0.mk (below_step HB3.out hb6)
    have HA6 := Aside0.mk (show Kd.R (Kd.slice 2 (Kd.int .i64)) 22 (W5.alloc (.cells #[] 22)) w3.heap.size (fun k => k ≠ gh ∧ k ≠ go) (.slice (some ⟨W5.heap.size, 0, none⟩) 0 0) [] from ⟨fun k hk => by
      have : W5.heap.size = k := by simpa [Value.ownBlock] using hk
      omega, OwnRow.lit W5 w3.heap.size (Reps.none _ _) hb5.size (by simp)⟩)
    have HH6 := Aside0.mk (Kd.R_below hh5 (below_alloc (Below.refl _ _) (.cells #[] 22)))
    have HO6 := Aside0.mk (show Kd.R (Kd.int .i64) 2 (W5.alloc (.cells #[] 22)) w3.heap.size (fun k => k ≠ gh) (.slice (some ⟨go, 0, none⟩) 0 0) [] from Kd.R_mono (Kd.R_below ho5 (below_alloc (Below.refl _ _) (.cells #[] 22))) (fun k hk he => hk (by rw [he]; rfl)))
    have HB6 := Aside0.mk hb6
    have hbx6 : (W5.alloc (.cells #[] 22)).cell? ⟨w.heap.size, 0, none⟩ = some (.slice A0 l0.length c0) := (blk_cell HK6.out 0).trans rfl
    clear hh5 ho5 hb5 hb6 hlen hgl hgo1 hg4 hg6 hg5 hg3 hmk
    have HCALL := Aside0.mk (impl_count.calls k A0 c0 l0 (n : Int) (W5.alloc (.cells #[] 22)) (Kd.C_below HR0.out HBW6.out) HC0.out HCN.out)
    go_wp2_with fail
    refine HCALL.out.mono ?_
    rintro e w7 ⟨rfl, hb7⟩
    have HA7 := Aside0.mk (show Kd.R (Kd.slice 2 (Kd.int .i64)) 22 w7 w3.heap.size (fun k => k ≠ gh ∧ k ≠ go) (.slice (some ⟨W5.heap.size, 0, none⟩) 0 0) ((List.range 0).map fun (x : Nat) => ofT l0 tt (x : Int)) from Kd.R_below HA6.out hb7)
    have HH7 := Aside0.mk (Kd.R_below HH6.out hb7)
    have HO7 := Aside0.mk (Kd.R_below HO6.out hb7)
    have HB7 := Aside0.mk (below_step HB6.out hb7)
    clear hb7 hbx6 HCALL
    have hn31 : (n : Int) ≤ 1000000 := by omega
    go_wp2
    go_loopg [11, 44] n (fun gg s11 s44 wr => ∃ (j : Nat) (v : Value), s11 = v ∧ s44 = .int .i64 j ∧ j ≤ n ∧ n - j ≤ gg ∧ Aside0 (Kd.R (Kd.slice 2 (Kd.int .i64)) 22 wr w3.heap.size (fun k => k ≠ gh ∧ k ≠ go) v ((List.range j).map fun (x : Nat) => ofT l0 tt (x : Int))) ∧ Aside0 (Kd.R Kd.bool 4 wr w3.heap.size (fun _ => True) (.slice (some ⟨gh, 0, none⟩) m.toNat m.toNat) (List.replicate m.toNat false)) ∧ Aside0 (Kd.R (Kd.int .i64) 2 wr w3.heap.size (fun k => k ≠ gh) (.slice (some ⟨go, 0, none⟩) 0 0) []) ∧ Aside0 (Below w3.heap.size w3 wr))
    case atStart => exact ⟨0, _, rfl, rfl, by omega, by omega, HA7, HH7, HO7, HB7⟩
    case round =>
      obtain ⟨j, v, rfl, rfl, hj, hgq, HA, HH, HO, HB⟩ := hrel
      by_cases hlt : j < n
      · have hlt1 : (j : Int) < (n : Int) := by omega
        have hj0 : (0 : Int) ≤ (j : Int) := by omega
        have HW := Aside0.mk (of_plc g A0 c0 l0 tt AP cP AF cF (j : Int) wr (HCH.out.below HB.out) h8 HQ.out ht hj0 (by omega))
        have HRN := Aside0.mk (show ((List.range (j + 1)).map fun (x : Nat) => ofT l0 tt (x : Int)) = ((List.range j).map fun (x : Nat) => ofT l0 tt (x : Int)) ++ [ofT l0 tt (j : Int)] by rw [List.range_succ, List.map_append]; rfl)
        have HRL := Aside0.mk (show ((List.range j).map fun (x : Nat) => ofT l0 tt (x : Int)).length = j by simp)
        obtain ⟨al, hal⟩ : ∃ al, al = ((List.range j).map fun (x : Nat) => ofT l0 tt (x : Int)) := ⟨_, rfl⟩
        obtain ⟨T, hT⟩ : ∃ T, T = ofT l0 tt (j : Int) := ⟨_, rfl⟩
        rw [← hT] at HW HRN
        rw [← hal] at HA HRN HRL
        have hall := HRL.out
        clear hal hT
        go_wp2_with fail
        refine HW.out.mono ?_
        rintro e w4 ⟨v4, rfl, hR4, hb4⟩
        obtain ⟨A4, c4, rfl⟩ := Kd.R_slice hR4
        have HSZ : ∀ k, u11.ownBlock = some k → k < wr.heap.size := fun k hk => (R_blk HA.out k hk).1
        have hs1 : gh < wr.heap.size := (R_blk HH.out gh rfl).1
        have hs2 : go < wr.heap.size := (R_blk HO.out go rfl).1
        have hsz4 := hb4.size
        have HR4 := Aside0.mk hR4
        have HA4 := Aside0.mk (Kd.R_below HA.out hb4)
        have HH4 := Aside0.mk (Kd.R_below HH.out hb4)
        have HO4 := Aside0.mk (Kd.R_below HO.out hb4)
        have HB4 := Aside0.mk (below_step HB.out hb4)
        have hbw := HB.out.size
        clear hR4 hb4 HW
        go_wp2_with (at_builtin; refine Kd.R_append (Kd.slice 2 (Kd.int .i64)) (w0 := w3) w3.heap.size rfl (.tmp 47) (.tmp 51) 25 22 (.slice none 0 0) 24 rfl Try.underlying25 nc_info22 rfl (by decide) (by omega) u11 al T [.slice A4 T.length c4] (fun k => k ≠ gh ∧ k ≠ go) (fun k => wr.heap.size ≤ k) rfl rfl (nc_m HR4.out hbw) (fun k hk => ⟨by omega, fun he => by have := HSZ k he.symm; omega⟩) (fun k hk => by omega) HA4.out HB4.out HB4.out.size (by omega) ?_; intro v9 w9 ho hb hg hat)
        have HH9 := Aside0.mk (show Kd.R Kd.bool 4 w9 w3.heap.size (fun _ => True) (.slice (some ⟨gh, 0, none⟩) m.toNat m.toNat) (List.replicate m.toNat false) from Kd.R_mono (Kd.R_grown (R_own_b HH4.out) hg (fun k hk he => (HA4.out.1 k he.symm).1 (by simpa [Value.ownBlock] using hk.symm))) (fun _ _ => trivial))
        have HO9 := Aside0.mk (show Kd.R (Kd.int .i64) 2 w9 w3.heap.size (fun k => k ≠ gh) (.slice (some ⟨go, 0, none⟩) 0 0) [] from Kd.R_mono (Kd.R_grown (R_own HO4.out) hg (fun k hk he => (HA4.out.1 k he.symm).2 (by simpa [Value.ownBlock] using hk.symm))) (fun k hk => HO4.out.1 k hk))
        have HA9 := Aside0.mk ho
        have HB9 := Aside0.mk hb
        clear ho hb hg hat
        go_roundg (n - (j + 1))
        case measure => omega
        case rel =>
          refine ⟨j + 1, v9, rfl, by go_num, by omega, by omega, ⟨?_⟩, HH9, HO9, HB9⟩
          rw [HRN.out]; exact HA9.out
      · obtain rfl : j = n := by omega
        have hlt1 : ¬ (j : Int) < (j : Int) := by omega
        have HAL := Aside0.mk (gr_rows l0 h8 HQ.out tt ht j)
        rw [← HM.out] at HAL
        obtain ⟨all, hall⟩ : ∃ all, all = ((List.range j).map fun (x : Nat) => ofT l0 tt (x : Int)) := ⟨_, rfl⟩
        have HGG := Aside0.mk HGR.out
        rw [← hall] at HA HAL HGG
        clear hall
        obtain ⟨N0, hN0⟩ : ∃ N0, N0 = wr.heap.size := ⟨_, rfl⟩
        have hs1 : gh < N0 := by rw [hN0]; exact (R_blk HH.out gh rfl).1
        have hs2 : go < N0 := by rw [hN0]; exact (R_blk HO.out go rfl).1
        have HA2 := Aside0.mk (show Kd.R (Kd.slice 2 (Kd.int .i64)) 22 wr w3.heap.size (fun k => (k ≠ gh ∧ k ≠ go) ∧ k < N0) u11 all from Kd.R_mono (Kd.R_bound HA.out) (fun k hk => ⟨hk.1, by rw [hN0]; exact hk.2.2.1⟩))
        have HO2 := Aside0.mk (show Kd.R (Kd.int .i64) 2 wr w3.heap.size (fun k => k ≠ gh ∧ (k = go ∨ N0 ≤ k)) (.slice (some ⟨go, 0, none⟩) 0 0) [] from Kd.R_mono (R_own HO.out) (fun k hk => by
          have : go = k := by simpa [Value.ownBlock] using hk
          omega))
        have HN0 := Aside0.mk (show N0 ≤ wr.heap.size by omega)
        obtain ⟨AA, cA, hva⟩ := Kd.R_slice HA2.out
        obtain ⟨ua, hua⟩ : ∃ ua, ua = u11 := ⟨_, rfl⟩
        rw [HAL.out.1] at hva
        rw [hva] at HA2
        have hlr : (List.replicate m.toNat false).length = m.toNat := by simp
        obtain ⟨hs0, hhs0⟩ : ∃ hs0, hs0 = List.replicate m.toNat false := ⟨_, rfl⟩
        rw [← hhs0] at HH HGG hlr
        clear HA HO hua hN0 hhs0
        subst hva
        go_wp2
        go_loopg [9, 10] 201 (fun gg s9 s10 wr => ∃ (q : Nat) (h : List Bool) (left : Int) (v : Value) (out : List Int), s9 = .int .i64 left ∧ s10 = v ∧ q ≤ gg ∧ out.length + q = 201 ∧ h.length = m.toNat ∧ left ≤ 3584 ∧ -(56 * (out.length : Int)) ≤ left ∧ Aside0 (greedyG all q h left out = some (r1, r2)) ∧ Aside0 (Kd.R (Kd.slice 2 (Kd.int .i64)) 22 wr w3.heap.size (fun k => (k ≠ gh ∧ k ≠ go) ∧ k < N0) (.slice AA j cA) all) ∧ Aside0 (Kd.R Kd.bool 4 wr w3.heap.size (fun _ => True) (.slice (some ⟨gh, 0, none⟩) m.toNat m.toNat) h) ∧ Aside0 (Kd.R (Kd.int .i64) 2 wr w3.heap.size (fun k => k ≠ gh ∧ (k = go ∨ N0 ≤ k)) v out) ∧ Aside0 (N0 ≤ wr.heap.size) ∧ Aside0 (Below w3.heap.size w3 wr))
        case atStart => exact ⟨201, hs0, m, _, [], rfl, rfl, by omega, rfl, hlr, hm1, by simp; omega, HGG, HA2, HH, HO2, HN0, HB⟩
        case round =>
          obtain ⟨q, h, left, v, out, rfl, rfl, hq, hoq, hhl, hle1, hle2, HG, HA, HH, HO, HN, HB⟩ := hrel
          by_cases hl0 : left > 0
          · have hl1 : decide (left > 0) = true := decide_eq_true hl0
            obtain ⟨q, rfl⟩ : ∃ p, q = p + 1 := ⟨q - 1, by
              rcases Nat.eq_zero_or_pos q with h0 | h0
              · have h1 := HG.out
                rw [h0] at h1
                cases h1
              · omega⟩
            have HG1 := Aside0.mk (show _ = some (r1, r2) from HG.out)
            clear HG
            unfold greedyG at HG1
            rw [if_pos hl0] at HG1
            obtain ⟨hja, hcA, hCA⟩ := Kd.R_reads' HA.out
            clear hja
            have HCA := Aside0.mk hCA
            rw [HAL.out.1] at HCA
            have HBS := Aside0.mk (show bestB h (all.drop 0) ((0 : Nat) : Int) ((0 : Nat) : Int) 0 = bestB h all 0 0 0 from rfl)
            clear hCA
            go_wp2
            go_loopg [13, 14, 58] j (fun gi s13 s14 s58 wi => ∃ (i b : Nat) (mo : Int), s13 = .int .i64 b ∧ s14 = .int .i64 mo ∧ s58 = .int .i64 i ∧ i ≤ j ∧ j - i ≤ gi ∧ b < j ∧ 0 ≤ mo ∧ mo ≤ 56 ∧ Aside0 (bestB h (all.drop i) (i : Int) (b : Int) mo = bestB h all 0 0 0) ∧ wi = wr)
            case atStart => exact ⟨0, 0, 0, rfl, rfl, rfl, by omega, by omega, hn0, by omega, by omega, HBS, rfl⟩
            case round =>
              obtain ⟨i, b, mo, rfl, rfl, rfl, hi, hgi, hbj, hmo0, hmo1, HBi, hwi⟩ := hrel
              subst hwi
              by_cases hij : i < j
              · have hij1 : (i : Int) < (j : Int) := by omega
                have hi0 : (0 : Int) ≤ (i : Int) := by omega
                obtain ⟨ad, Ap, cp, e, hx, hlp, hCp⟩ := at_rows HCA.out i hij
                cases e
                have HBN := Aside0.mk (bestB_next h all i (by rw [HAL.out.1]; exact hij) (i : Int) (b : Int) mo)
                have hLi := HAL.out.2 i hij
                obtain ⟨L, hLe⟩ : ∃ L, L = rdL all i := ⟨_, rfl⟩
                rw [← hLe] at hx hlp hCp HBN hLi
                obtain ⟨hLl, hLn⟩ := hLi
                have HLN := Aside0.mk hLn
                have HCp := Aside0.mk hCp
                have HC0 := Aside0.mk (show (0 : Int) + cntB h (L.drop 0) = cntB h L by rw [Int.zero_add]; rfl)
                clear hLe hCp hLn
                go_wp2
                go_loopg [17, 65] L.length (fun ge s17 s65 wi => ∃ (e : Nat) (c : Int), s17 = .int .i64 c ∧ s65 = .int .i64 e ∧ e ≤ L.length ∧ L.length - e ≤ ge ∧ 0 ≤ c ∧ c ≤ (e : Int) ∧ Aside0 (c + cntB h (L.drop e) = cntB h L) ∧ wi = wr)
                case atStart => exact ⟨0, 0, rfl, rfl, by omega, by omega, by omega, by omega, HC0, rfl⟩
                case round =>
                  obtain ⟨e, c, rfl, rfl, he, hge, hc1_, hc2_, HC, hwi⟩ := hrel
                  subst hwi
                  by_cases hel : e < L.length
                  · have hel1 : (e : Int) < (L.length : Int) := by omega
                    have he0 : (0 : Int) ≤ (e : Int) := by omega
                    obtain ⟨ad2, e2, hx2⟩ := Kd.at_int HCp.out (e : Int) he0 hel1
                    cases e2
                    rw [Int.toNat_natCast] at hx2
                    have hn_ := HLN.out (rd L (e : Int)) (by rw [rd_nat' L e hel]; exact List.getElem_mem hel)
                    have HCN2 := Aside0.mk (cntB_next L e hel h)
                    obtain ⟨nn, hne⟩ : ∃ nn, nn = rd L (e : Int) := ⟨_, rfl⟩
                    rw [← hne] at hx2 hn_ HCN2
                    clear hne
                    obtain ⟨hnn0, hnn1⟩ := hn_
                    have hnn2 : nn < (m.toNat : Int) := by omega
                    obtain ⟨hx9, hf9⟩ := Kd.R_celln false HH.out nn hnn0 hnn2
                    change _ = some (Value.bool (rdB h nn)) at hx9
                    by_cases hbt : rdB h nn = true
                    · rw [if_pos hbt] at HCN2
                      rw [hbt] at hx9
                      clear hbt
                      go_wp2
                      go_roundg (L.length - (e + 1))
                      case measure => omega
                      case rel => exact ⟨e + 1, c, rfl, by go_num, by omega, by omega, by omega, by omega, ⟨by have h1 := HC.out; have h2 := HCN2.out; omega⟩, rfl⟩
                    · rw [if_neg hbt] at HCN2
                      have hbf : rdB h nn = false := by simpa using hbt
                      rw [hbf] at hx9
                      clear hbt hbf
                      go_wp2
                      go_roundg (L.length - (e + 1))
                      case measure => omega
                      case rel => exact ⟨e + 1, c + 1, by go_num, by go_num, by omega, by omega, by omega, by omega, ⟨by have h1 := HC.out; have h2 := HCN2.out; omega⟩, rfl⟩
                  · obtain rfl : e = L.length := by omega
                    have hel1 : ¬ (L.length : Int) < (L.length : Int) := by omega
                    have hce : c = cntB h L := by
                      have h1 := HC.out
                      rw [List.drop_of_length_le (Nat.le_refl _)] at h1
                      simpa [cntB] using h1
                    rw [← hce] at HBN
                    clear hce
                    by_cases hcm : c > mo
                    · have hcm1 : decide (c > mo) = true := decide_eq_true hcm
                      rw [if_pos hcm] at HBN
                      go_wp2
                      go_roundg (j - (i + 1))
                      case measure => omega
                      case rel => exact ⟨i + 1, i, c, by go_num, by go_num, by go_num, by omega, by omega, by omega, by omega, by omega, ⟨by rw [← HBi.out, HBN.out]; rfl⟩, rfl⟩
                    · have hcm1 : decide (c > mo) = false := decide_eq_false hcm
                      rw [if_neg hcm] at HBN
                      go_wp2
                      go_roundg (j - (i + 1))
                      case measure => omega
                      case rel => exact ⟨i + 1, b, mo, by go_num, by go_num, by go_num, by omega, by omega, by omega, by omega, by omega, ⟨by rw [← HBi.out, HBN.out]; rfl⟩, rfl⟩
              · obtain rfl : i = j := by omega
                have hij1 : ¬ (i : Int) < (i : Int) := by omega
                have HBE := Aside0.mk (show bestB h all 0 0 0 = ((b : Int), mo) by
                  rw [← HBi.out, List.drop_of_length_le (by rw [HAL.out.1]; omega)]; rfl)
                rw [HBE.out] at HG1
                have hbi : (b : Int) < (i : Int) := by omega
                have hb0 : (0 : Int) ≤ (b : Int) := by omega
                obtain ⟨adA, _, _, eA, _, _, _⟩ := at_rows HCA.out b (by omega)
                cases eA
                obtain ⟨A10, c10, hv10⟩ := Kd.R_slice HO.out
                rw [hv10] at HO
                subst hv10
                by_cases h200 : out.length = 200
                · have h201 : ((out.length : Int) == 200) = true := beq_iff_eq.2 (by omega)
                  have HG2 := Aside0.mk (show (([] : List Int), (3 : Int)) = (r1, r2) by
                    have h1 := HG1.out
                    rw [if_pos h200] at h1
                    exact Option.some.inj h1)
                  clear h200 HG1
                  go_wp2
                  go_ret2
                  have h1 := HG2.out
                  injection h1 with e1 e2
                  subst e1 e2
                  exact ⟨_, rfl, Kd.R_nil _ _ _ _ _, below_step HB3.out HB.out⟩
                · have h201 : ((out.length : Int) == 200) = false := beq_eq_false_iff_ne.2 (by omega)
                  rw [if_neg h200] at HG1
                  have hol2 : out.length ≤ 199 := by omega
                  clear h200
                  have hbt : ((b : Int)).toNat = b := Int.toNat_natCast b
                  rw [hbt] at HG1
                  clear hbt
                  have hLi := HAL.out.2 b (by omega)
                  obtain ⟨L, hLe⟩ : ∃ L, L = rdL all b := ⟨_, rfl⟩
                  rw [← hLe] at hLi HG1
                  obtain ⟨hLl, hLn⟩ := hLi
                  have HLN := Aside0.mk hLn
                  have HLE := Aside0.mk hLe
                  have HMK := Aside0.mk (show markA h (L.drop 0) = markA h L from rfl)
                  have hbj : b < i := by omega
                  clear hLe hLn
                  go_wp2_with (at_builtin; refine Kd.R_append (Kd.int .i64) (w0 := w3) w3.heap.size rfl (.tmp 86) (.tmp 88) 22 2 (.int .i64 0) 8 rfl Try.underlying22 of_info rfl (by decide) (by omega) (.slice A10 out.length c10) out (b : Int) [.int .i64 (b : Int)] (fun k => k ≠ gh ∧ (k = go ∨ N0 ≤ k)) (fun _ => False) rfl rfl rfl (fun _ h => h.elim) ?aF HO.out HB.out ?aS ?aL ?_; (case aF => exact fun k hk => by have := HN.out; omega); (case aS => exact HB.out.size); (case aL => omega); intro v9 w9 ho hb hg hat; have HA9 := Aside0.mk (show Kd.R (Kd.slice 2 (Kd.int .i64)) 22 w9 w3.heap.size (fun k => (k ≠ gh ∧ k ≠ go) ∧ k < N0) (.slice (some adA) i cA) all from Kd.R_grown HA.out hg (fun k hk he => gr_no (HO.out.1 k he.symm) hk)); have HH9 := Aside0.mk (show Kd.R Kd.bool 4 w9 w3.heap.size (fun _ => True) (.slice (some ⟨gh, 0, none⟩) m.toNat m.toNat) h from Kd.R_mono (Kd.R_grown (R_own_b HH.out) hg (fun k hk he => (HO.out.1 k he.symm).1 (by simpa [Value.ownBlock] using hk.symm))) (fun _ _ => trivial)); have HO9 := Aside0.mk ho; have HB9 := Aside0.mk hb; have HN9 := Aside0.mk (show N0 ≤ w9.heap.size from Nat.le_trans HN.out hg.size); obtain ⟨AL, cL, hcb, hRL⟩ := gr_get HA9.out b hbj L HLE.out; have HRL := Aside0.mk hRL; clear ho hb hg hat hRL)
                  go_loopg [95] L.length (fun ge s95 wi => ∃ (e : Nat) (h' : List Bool), s95 = .int .i64 e ∧ e ≤ L.length ∧ L.length - e ≤ ge ∧ h'.length = m.toNat ∧ Aside0 (markA h' (L.drop e) = markA h L) ∧ Aside0 (Kd.R (Kd.slice 2 (Kd.int .i64)) 22 wi w3.heap.size (fun k => (k ≠ gh ∧ k ≠ go) ∧ k < N0) (.slice (some adA) i cA) all) ∧ Aside0 (Kd.R Kd.bool 4 wi w3.heap.size (fun _ => True) (.slice (some ⟨gh, 0, none⟩) m.toNat m.toNat) h') ∧ Aside0 (Kd.R (Kd.int .i64) 2 wi w3.heap.size (fun k => k ≠ gh ∧ (k = go ∨ N0 ≤ k)) v9 (out ++ [(b : Int)])) ∧ Aside0 (Kd.R (Kd.int .i64) 2 wi w3.heap.size (fun k => k ≠ gh) (.slice AL L.length cL) L) ∧ Aside0 (N0 ≤ wi.heap.size) ∧ Aside0 (Below w3.heap.size w3 wi))
                  case atStart => exact ⟨0, h, rfl, by omega, by omega, hhl, HMK, HA9, HH9, HO9, HRL, HN9, HB9⟩
                  case round =>
                    obtain ⟨e, h', rfl, he, hge, hhl', HM', HA', HH', HO', HL', HN', HB'⟩ := hrel
                    by_cases hel : e < L.length
                    · have hel1 : (e : Int) < (L.length : Int) := by omega
                      have he0 : (0 : Int) ≤ (e : Int) := by omega
                      obtain ⟨ad2, e2, hx2⟩ := Kd.at_int (Kd.R_reads' HL'.out).2.2 (e : Int) he0 hel1
                      cases e2
                      rw [Int.toNat_natCast] at hx2
                      have hn_ := HLN.out (rd L (e : Int)) (by rw [rd_nat' L e hel]; exact List.getElem_mem hel)
                      have HMN := Aside0.mk ((markA_drop L e hel h').symm.trans HM'.out)
                      obtain ⟨nn, hne⟩ : ∃ nn, nn = rd L (e : Int) := ⟨_, rfl⟩
                      rw [← hne] at hx2 hn_ HMN
                      clear hne
                      obtain ⟨hnn0, hnn1⟩ := hn_
                      have hnn2 : nn < (m.toNat : Int) := by omega
                      obtain ⟨hx9, hf9⟩ := Kd.R_celln false HH'.out nn hnn0 hnn2
                      have HP := Aside0.mk (Kd.R_putg HH'.out nn true).1
                      have hgb : w3.heap.size ≤ gh := (R_blk HH'.out gh rfl).2.1
                      go_wp2
                      go_roundg (L.length - (e + 1))
                      case measure => omega
                      case rel =>
                        refine ⟨e + 1, h'.set nn.toNat true, by go_num, by omega, by omega, by rw [List.length_set]; exact hhl', HMN, ⟨Kd.R_far (p := ⟨gh, nn.toNat, none⟩) HA'.out (fun k hk => hk.1.1) _⟩, HP, ⟨Kd.R_far (p := ⟨gh, nn.toNat, none⟩) HO'.out (fun k hk => hk.1) _⟩, ⟨Kd.R_far (p := ⟨gh, nn.toNat, none⟩) HL'.out (fun k hk => hk) _⟩, ⟨by simpa using HN'.out⟩, ⟨below_set HB'.out hgb⟩⟩
                    · obtain rfl : e = L.length := by omega
                      have hel1 : ¬ (L.length : Int) < (L.length : Int) := by omega
                      have HME := Aside0.mk (show h' = markA h L by
                        have h1 := HM'.out
                        rw [List.drop_of_length_le (Nat.le_refl _)] at h1
                        exact h1)
                      rw [← HME.out] at HG1
                      go_wp2
                      go_roundg q
                      case measure => omega
                      case rel =>
                        exact ⟨q, h', left - mo, v9, out ++ [(b : Int)], by go_num, rfl, by omega, by simp; omega, hhl', by omega, by simp; omega, ⟨HG1.out⟩, HA', HH', HO', HN', HB'⟩
          · have hl1 : decide (left > 0) = false := decide_eq_false hl0
            have HG1 := Aside0.mk (show (out, (0 : Int)) = (r1, r2) by
              have h1 := HG.out
              cases q with
              | zero => cases h1
              | succ q =>
                unfold greedyG at h1
                rw [if_neg hl0] at h1
                exact Option.some.inj h1)
            go_wp2
            go_ret2
            have h1 := HG1.out
            injection h1 with e1 e2
            subst e1 e2
            exact ⟨_, rfl, by exact Kd.R_mono (Kd.R_lower HO.out HB3.out.size) (fun _ _ => trivial), below_step HB3.out HB.out⟩
theorem impl_GreedyRows.calls (k : Nat) (A0_0 : Option Addr) (c0_0 : Nat) (l0_0 : List Int) (a1 : Int) (r1 : List Int) (r2 : Int) (w : World) (hr0_0 : Kd.C (Kd.int .i64) w A0_0 l0_0.length l0_0) (hc0_0 : l0_0.length ≤ c0_0) (h : impl_GreedyRows.f k l0_0 a1 = some (r1, r2)) :
    Calls Try.prog 25 #[.agg #[.slice A0_0 l0_0.length c0_0], .int .i64 a1] w fun e w' => ∃ v0_ : Value, e = .returned (.tuple #[v0_, .int .i64 r2]) ∧ Kd.R (Kd.int .i64) 2 w' w.heap.size (fun _ => True) v0_ r1 ∧ Below w.heap.size w w' := by
  unfold impl_GreedyRows.f at h
  rw [Option.bind_eq_some_iff] at h
  obtain ⟨c, hc, h⟩ := h
  by_cases h0 : c = 0
  · rw [if_pos h0] at h
    subst h0
    by_cases h1 : okS l0_0 = true
    · rw [if_pos h1] at h
      by_cases h3 : 0 ≤ a1
      · rw [if_pos h3] at h
        by_cases h4 : a1 ≤ 3
        · rw [if_pos h4] at h
          rw [Option.bind_eq_some_iff] at h
          obtain ⟨n, hn, h⟩ := h
          by_cases h5 : 0 < n
          · rw [if_pos h5] at h
            by_cases h6 : n ≤ 1000000
            · rw [if_pos h6] at h
              obtain ⟨h8, hq⟩ := (okS_iff l0_0).1 h1
              obtain ⟨tt, rfl⟩ : ∃ tt : Nat, a1 = tt := ⟨a1.toNat, by omega⟩
              obtain ⟨nn, rfl⟩ : ∃ nn : Nat, n = nn := ⟨n.toNat, by omega⟩
              rw [Int.toNat_natCast, Int.toNat_natCast] at h
              exact gr_good k A0_0 c0_0 l0_0 tt w hr0_0 hc0_0 hc nn hn (by omega) (by omega) r1 r2 h h8 hq (by omega)
            · rw [if_neg h6] at h; cases h
          · rw [if_neg h5] at h; cases h
        · rw [if_neg h4] at h; cases h
      · rw [if_neg h3] at h; cases h
    · rw [if_neg h1] at h; cases h
  · rw [if_neg h0] at h
    injection h with h
    injection h with e1 e2
    subst e1 e2
    exact gr_code k A0_0 c0_0 l0_0 a1 w hr0_0 hc0_0 c hc h0

end Go.Proofs.Ythbfaefneoeadaa.PFnExactGreedyRows
