-- WALKS, by a program and by hand
import Derived.Test.YtchlbkcladfloaaPFnGuaranteesx0
import Derived.Test.YtchlbkcladfloaaPFnGuaranteesx1
import Derived.Test.YtchlbkcladfloaaPFnGuaranteesx10
namespace Go.Proofs.Ytchlbkcladfloaa.PFnGuarantees
open Go.RowKit Go.Proofs.Ytchlbkcladfloaa.DG Go.Proofs.YtchlbkcladfloaaW.PrintWords Go.Proofs.YtchlbkcladfloaaW.PrintLast Go.Proofs.YtchlbkcladfloaaW.PrintMore
attribute [local go_sem] max2_int min2_int max_two min_two max_three min_three max_four min_four   -- for this text's walks alone
set_option linter.unusedVariables false
set_option linter.unusedSimpArgs false

def spec_l01DrawOrder.l0 : Nat → List Int → Int → List Int → Int → Int → Int → Option (List Int × Int × Int)
 | 0, _, _, _, _, _, _ => none
 | k + 1, s0, n, out, i, p, hs => if i < n then ((spec_l01Next.f s0 p hs (wrap64 (i + 1))).bind fun b => (if 0 ≤ b.1 then (if b.1 ≤ (out.length : Int) then (if out.length < 1000000 then (spec_l01DrawOrder.l0 k s0 n (out.take b.1.toNat ++ [i] ++ out.drop b.1.toNat) (wrap64 (i + 1)) b.2.1 b.2.2) else (none)) else (none)) else (none))) else (some (out, p, hs))
def spec_l01DrawOrder.f (k : Nat) (s0_0 : List Int) (s0_1 : Int) (s0_2 : Int) (a1 : Int) : Option (List Int × Int × Int) := spec_l01DrawOrder.l0 k s0_0 a1 [] 0 s0_1 s0_2
set_option maxHeartbeats 4000000 in
set_option maxRecDepth 100000 in
theorem spec_l01DrawOrder.calls (k : Nat) (g : Nat) (s0_0 : List Int) (s0_1 : Int) (s0_2 : Int) (a1 : Int) (r1 : List Int) (r2 : Int) (r3 : Int) (w0 w : World) (hI : IsS93 w0 w g s0_0 s0_1 s0_2) (hB : Below w0.heap.size w0 w) (h : spec_l01DrawOrder.f k s0_0 s0_1 s0_2 a1 = some (r1, r2, r3)) :
  Calls Try.prog 102 #[.pointer (some ⟨g, 0, none⟩), .int .i64 a1] w fun e w' => ∃ v0_ : Value, e = .returned (v0_) ∧ Kd.R (Kd.int .i64) 2 w' w.heap.size (fun _ => True) v0_ r1 ∧ IsS93 w0 w' g s0_0 r2 r3 ∧ Below w0.heap.size w0 w' ∧ KeepBut w w' g none := by
 have HI := zA hI
 have HB := zA hB
 have HH := zA h
 clear hI hB h
 go_enter Try.func102, Try.ntmps102
 go_wp2
 have hfr := HI.out.fresh w.heap.size (Nat.le_refl _)
 have HR0 := zA (show Kd.R (Kd.int .i64) 2 (w.alloc (.cells #[] 2)) w.heap.size (fun k => k ≠ g) (.slice (some ⟨w.heap.size, 0, none⟩) ([] : List Int).length 0) [] from ⟨fun q hq => (Option.some.inj hq) ▸ hfr, OwnRow.lit w w.heap.size (Reps.none _ _) (Nat.le_refl _) (by simp)⟩)
 have HI0 := zA (HI.out.alloc (.cells #[] 2))
 have HB0 := zA (below_alloc HB.out (.cells #[] 2))
 have HK0 := zA (keep_alloc (KeepBut.refl w g none) (.cells #[] 2))
 clear hfr
 go_loopg [5, 6] k (fun kq v5 v6 wr => ∃ (out : List Int) (A : Option Addr) (c : Nat) (i p hs : Int), v5 = .slice A out.length c ∧ v6 = .int .i64 i ∧ Aside0 (spec_l01DrawOrder.l0 kq s0_0 a1 out i p hs = some (r1, r2, r3)) ∧ Aside0 (Kd.R (Kd.int .i64) 2 wr w.heap.size (fun k => k ≠ g) (.slice A out.length c) out) ∧ Aside0 (IsS93 w0 wr g s0_0 p hs) ∧ Aside0 (Below w0.heap.size w0 wr) ∧ Aside0 (KeepBut w wr g none))
 case atStart => exact ⟨[], some ⟨w.heap.size, 0, none⟩, 0, 0, s0_1, s0_2, rfl, rfl, HH, HR0, HI0, HB0, HK0⟩
 case round =>
  clear HR0 HI0 HB0 HK0 HI HB HH
  obtain ⟨out, A, c, i, p, hs, rfl, rfl, HH, HR, HI, HB, HK⟩ := hrel
  cases gk with
  | zero => exact absurd HH.out (by simp [spec_l01DrawOrder.l0])
  | succ gk =>
  have hH := HH.out
  simp only [spec_l01DrawOrder.l0] at hH
  by_cases hi : i < a1
  ·rw [if_pos hi] at hH
   obtain ⟨b, hb, hH⟩ := Option.bind_eq_some_iff.1 hH
   obtain ⟨b1, b2, b3⟩ := b
   by_cases hb0 : 0 ≤ b1
   ·rw [if_pos hb0] at hH
    by_cases hb1 : b1 ≤ (out.length : Int)
    ·rw [if_pos hb1] at hH
     by_cases hol : out.length < 1000000
     ·rw [if_pos hol] at hH
      have HH2 := zA hH
      have HN := zA hb
      clear hH hb HH
      go_wp2_with (go_at_call 75; refine (spec_l01Next.calls g s0_0 p hs _ b1 b2 b3 w0 _ HI.out HB.out HN.out).mono ?_; rintro e w6 ⟨rfl, hI6, hB6, hK6⟩; have HI6 := zA hI6; have HB6 := zA hB6; have HK6 := zA (HK.out.trans hK6 (.inl rfl)); have HR6 := zA (Kd.R_keep HR.out hK6 (fun _ h => h)); clear hI6 hB6 hK6)
      obtain ⟨hln, hcap, hrd⟩ := Kd.R_reads' HR6.out
      obtain ⟨ii1, hi1, hi2⟩ := lt_int
      obtain ⟨A', hdc, hdr, hdl⟩ := print_drop_of (P := Try.prog) (Value.int .i64) (0 : Int) 24 2 .i64 Try.underlying24 hi1 hi2 A c out b1 hb0 hb1 hcap
      obtain ⟨hcut, hcr, hcl⟩ := print_take_int (P := Try.prog) (k := .i64) 24 2 Try.underlying24 hi1 hi2 A c out b1 hb0 hb1 hcap
      refine start_ (n := 12) (S := fun w' => True) (ds := []) #[false, false, false, false, false, false, false, false, false, false, false, false] (by kernel_rfl) rfl rfl trivial (fun hHeld => ?_)
      have HI7 := zA (HI6.out.drew)
      have HR7 := zA (Kd.R_drew HR6.out)
      have HB7 := zA (below_drew HB6.out)
      have HK7 := zA (HK6.out.trans (KeepBut.of_below (below_drew (Below.refl _ _)) g none) (.inl rfl))
      generalize w6.drew = wd at HI7 HR7 HB7 HK7 hHeld ⊢
      clear HI6 HR6 HB6 HK6
      refine pure_ (i := 0) (N := some 18) (v := ?_) (a' := ?_) #[true, false, false, false, false, false, false, false, false, false, false, false] rfl rfl (by kernel_rfl) (fun _ _ _ h => h) (Or.inl ⟨(by rfl), ?_⟩) ?_ ?_
      rotate_left
      ·exact z9
      rotate_left
      ·exact z2
      refine pure_ (i := 1) (N := some 19) (v := ?_) (a' := ?_) #[true, true, false, false, false, false, false, false, false, false, false, false] rfl rfl (by kernel_rfl) (fun _ _ _ h => h) (Or.inl ⟨(by rfl), ?_⟩) ?_ ?_
      rotate_left
      ·exact z9
      rotate_left
      ·exact z2
      refine pure_ (i := 2) (N := some 20) (v := ?_) (a' := ?_) #[true, true, true, false, false, false, false, false, false, false, false, false] rfl rfl (by kernel_rfl) (fun _ _ _ h => h) (Or.inl ⟨(by rfl), ?_⟩) ?_ ?_
      rotate_left
      ·exact z9
      rotate_left
      ·exact z2
      refine pure_ (i := 4) (N := some 22) (v := ?_) (a' := ?_) #[true, true, true, false, true, false, false, false, false, false, false, false] rfl rfl (by kernel_rfl) (fun _ _ _ h => h) (Or.inl ⟨(by rfl), ?_⟩) ?_ ?_
      rotate_left
      ·exact z9
      rotate_left
      ·exact z2
      refine pure_ (i := 7) (N := some 25) (v := ?_) (a' := ?_) #[true, true, true, false, true, false, false, true, false, false, false, false] rfl rfl (by kernel_rfl) (fun _ _ _ h => h) (Or.inl ⟨(by rfl), ?_⟩) ?_ ?_
      rotate_left
      ·exact z9
      rotate_left
      ·exact z2
      refine pure_ (i := 8) (N := some 26) (v := ?_) (a' := ?_) #[true, true, true, false, true, false, false, true, true, false, false, false] rfl rfl (by kernel_rfl) (fun _ _ _ h => h) (Or.inl ⟨(by rfl), ?_⟩) ?_ ?_
      rotate_left
      ·exact z9
      rotate_left
      ·exact z2
      refine pure_ (i := 9) (N := some 27) (v := ?_) (a' := ?_) #[true, true, true, false, true, false, false, true, true, true, false, false] rfl rfl (by kernel_rfl) (fun _ _ _ h => h) (Or.inl ⟨(by rfl), ?_⟩) ?_ ?_
      rotate_left
      ·exact z9
      rotate_left
      ·exact z2
      have hsz7 := HB7.out.size
      have hwz7 := HK7.out.1
      have hlt7 : (out.take b1.toNat).length < 1000000 := by rw [List.length_take]; omega
      have HOWN := zA (show spec_l01Own.f (out.take b1.toNat) = some (out.take b1.toNat) by
       have f4 : ([] : List Int).length + (out.take b1.toNat).length < 17592186044416 := by
        rw [List.length_nil]
        exact Nat.lt_of_le_of_lt (show 0 + (out.take b1.toNat).length ≤ 1000000 by omega) (by decide)
       unfold spec_l01Own.f
       rw [Option.bind_some, if_pos f4, List.nil_append])
      have HCT := zA (Kd.C_take (m := b1.toNat) (Kd.R_reads' HR7.out).2.2 (by omega))
      have HCL := zA hcl
      have HLN := zA (show (out.take b1.toNat).length = b1.toNat by rw [List.length_take]; omega)
      clear hcr hcl hrd
      refine join_ (σ := Value × Nat) 3 #[true, true, true, true, true, true, false, true, true, true, false, false] (fun s => [(21, s.1), (23, .slice (some ⟨s.2, 0, none⟩) 1 1)]) (fun s w' => w'.heap[s.2]? = some (.cells #[.int .i64 i] 2) ∧ Kd.R (Kd.int .i64) 2 w' w.heap.size (fun q => q ≠ s.2 ∧ wd.heap.size ≤ q) s.1 (out.take b1.toNat) ∧ wd.heap.size ≤ s.2 ∧ Below wd.heap.size wd w') ?_ (fun HJ => ?_)
      rotate_left
      ·refine two_ (i := 3) (j := 5) (Ni := some 21) (Nj := some 23) #[true, true, true, true, true, false, false, true, true, true, false, false] #[true, true, true, false, true, true, false, true, true, true, false, false] rfl rfl rfl rfl (by kernel_rfl) (by decide) (by decide) (fun K hK => ?_) (fun K hK => ?_)
       ·refine goes_ Try.func97 (by kernel_rfl) rfl #[.slice A b1.toNat c] (by rfl) rfl rfl z139 ?_
        have hcalls := spec_l01Own.calls A c (out.take b1.toNat) (out.take b1.toNat) wd HCT.out HCL.out HOWN.out
        rw [HLN.out] at hcalls
        refine hcalls.mono ?_
        clear hcalls
        rintro e w5 ⟨v5, rfl, hR5, hb5⟩
        refine ⟨_, rfl, ?_⟩
        refine hK.out _ _ trivial (fun hHeld5 => ?_)
        clear hK K
        refine norm_ (a' := ?_) ?_ ?_
        rotate_left
        ·show Act.put _ (some 21) _ = _
         simp only [Act.put, List.setIfInBounds_toArray, List.set_cons_zero, List.set_cons_succ, i64_w, i32_w]
         rfl
        refine one_ (i := 5) (N := some 23) #[true, true, true, true, true, true, false, true, true, true, false, false] rfl rfl (by kernel_rfl) (by decide) (fun K hK => ?_)
        refine value_ (w1 := w5.alloc (.cells #[.int .i64 i] 2)) (v := .slice (some ⟨w5.heap.size, 0, none⟩) 1 1) (by rfl) rfl (by go_simp) ?_
        refine hK.out _ _ trivial (fun _ => ?_)
        clear hK K
        exact HJ (v5, w5.heap.size) _ ⟨blk_new _ _, Kd.R_mono (Kd.R_lower (Kd.R_alloc (Kd.R_bound hR5) _) hwz7) (fun q hq => ⟨(by have := hq.2.2.1; show q ≠ w5.heap.size; omega), hq.2.1⟩), hb5.size, below_alloc hb5 _⟩
       ·refine value_ (w1 := wd.alloc (.cells #[.int .i64 i] 2)) (v := .slice (some ⟨wd.heap.size, 0, none⟩) 1 1) (by rfl) rfl (by go_simp) ?_
        have hBa := below_alloc (Below.refl wd.heap.size wd) (.cells #[.int .i64 i] 2)
        refine hK.out _ _ trivial (fun hHeld5 => ?_)
        clear hK K
        refine norm_ (a' := ?_) ?_ ?_
        rotate_left
        ·show Act.put _ (some 23) _ = _
         simp only [Act.put, List.setIfInBounds_toArray, List.set_cons_zero, List.set_cons_succ, i64_w, i32_w]
         rfl
        refine one_ (i := 3) (N := some 21) #[true, true, true, true, true, true, false, true, true, true, false, false] rfl rfl (by kernel_rfl) (by decide) (fun K hK => ?_)
        refine goes_ Try.func97 (by kernel_rfl) rfl #[.slice A b1.toNat c] (by rfl) rfl rfl z139 ?_
        have hcalls := spec_l01Own.calls A c (out.take b1.toNat) (out.take b1.toNat) (wd.alloc (.cells #[.int .i64 i] 2)) (Kd.C_alloc HCT.out _) HCL.out HOWN.out
        rw [HLN.out] at hcalls
        refine hcalls.mono ?_
        clear hcalls
        rintro e w5 ⟨v5, rfl, hR5, hb5⟩
        refine ⟨_, rfl, ?_⟩
        have hsa := World.size_alloc wd (.cells #[.int .i64 i] 2)
        refine hK.out _ _ trivial (fun _ => ?_)
        clear hK K
        exact HJ (v5, wd.heap.size) _ ⟨blk_below (blk_new wd _) hb5, Kd.R_mono (Kd.R_lower (Kd.R_bound hR5) (by omega)) (fun q hq => ⟨(by have := hq.2.1; show q ≠ wd.heap.size; omega), (by have := hq.2.1; omega)⟩), Nat.le_refl _, below_step hBa hb5⟩
      ·rintro ⟨v5, gq⟩ we ⟨hkq, hR5, hgq, hBe⟩
       dsimp only at hkq hR5 hgq ⊢
       refine norm_ (a' := ?_) ?_ ?_
       rotate_left
       ·simp only [putAll, Act.put, List.setIfInBounds_toArray, List.set_cons_zero, List.set_cons_succ, i64_w, i32_w]
        rfl
       obtain ⟨A5, c5, rfl⟩ := Kd.R_slice hR5
       have HRi : Kd.C (Kd.int .i64) we (some ⟨gq, 0, none⟩) [i].length [i] := Kd.C_of_reads (d := (0 : Int)) (h1 := fun _ => rfl) ⟨rfl, (by simp), fun _ => ⟨_, rfl, fun j hj => by
        have hj0 : j = 0 := by simpa using hj
        subst hj0
        rw [add_plain, blk_cell hkq 0]
        rfl⟩⟩
       have hBw : Below w0.heap.size w0 we := below_step HB7.out hBe
       have hwe := hBe.size
       have hgl := blk_lt hkq
       refine one_ (i := 6) (N := some 24) #[true, true, true, true, true, true, true, true, true, true, false, false] rfl rfl (by kernel_rfl) (by decide) (fun K hK => ?_)
       refine Kd.R_append_rows_step (Kd.int .i64) (w0 := we) w.heap.size (by rfl) (.tmp 21) (.tmp 23) 24 2 (.int .i64 0) 8 (by rfl) Try.underlying24 lt_info2 rfl (by decide) (by omega) (.slice A5 (out.take b1.toNat).length c5) (out.take b1.toNat) [i] (some ⟨gq, 0, none⟩) 1 1 (fun q => q ≠ gq ∧ wd.heap.size ≤ q) (fun _ => False) (by rfl) (by rfl) hR5 HRi (fun _ _ h => h) (fun _ h => h.elim) (fun q hq => ⟨(by omega), (by omega)⟩) (Below.refl _ _) (by omega) (by omega) ?_
       intro v8 w8 hR8 hb8 hg8 hat8
       refine hK.out _ _ trivial (fun _ => ?_)
       clear hK K
       refine norm_ (a' := ?_) ?_ ?_
       rotate_left
       ·show Act.put _ (some 24) _ = _
        simp only [Act.put, List.setIfInBounds_toArray, List.set_cons_zero, List.set_cons_succ, i64_w, i32_w]
        rfl
       have hRo := Kd.R_grown (Kd.R_below (Kd.R_mono (Kd.R_bound HR7.out) (fun q hq => (⟨hq.1, hq.2.2.1⟩ : q ≠ g ∧ q < wd.heap.size))) hBe) hg8 (fun q hq he => by have := (hR5.1 q he.symm).2; omega)
       have hCd : Kd.C (Kd.int .i64) w8 A' (out.drop b1.toNat).length (out.drop b1.toNat) := Kd.C_of_reads (d := (0 : Int)) (h1 := fun _ => rfl) (hdr _ (Kd.reads_of_C (d := (0 : Int)) (h1 := fun _ => rfl) (Kd.R_reads' hRo).2.2))
       rw [List.length_drop] at hCd
       have hv8 : ∀ q, v8.ownBlock = some q → wd.heap.size ≤ q := fun q hq => by
        rcases hat8 with h1 | ⟨q2, h1, h2⟩
        ·rw [h1] at hq; exact (hR5.1 q hq).2
        ·rw [h1] at hq; have := Option.some.inj hq; omega
       have hws := hg8.size
       refine one_ (i := 10) (N := some 28) #[true, true, true, true, true, true, true, true, true, true, true, false] rfl rfl (by kernel_rfl) (by decide) (fun K hK => ?_)
       refine Kd.R_append_rows_step (Kd.int .i64) (w0 := we) w.heap.size (by rfl) (.tmp 24) (.tmp 27) 24 2 (.int .i64 0) 8 (by rfl) Try.underlying24 lt_info2 rfl (by decide) (by omega) v8 (out.take b1.toNat ++ [i]) (out.drop b1.toNat) A' (out.length - b1.toNat) (c - b1.toNat) (fun q => q ≠ gq ∧ wd.heap.size ≤ q) (fun _ => False) (by rfl) (by rfl) hR8 hCd (fun _ _ h => h) (fun _ h => h.elim) (fun q hq => ⟨(by omega), (by omega)⟩) hb8 (by omega) (by rw [List.length_append, List.length_singleton]; omega) ?_
       intro v9 w9 hR9 hb9 hg9 hat9
       refine hK.out _ _ trivial (fun hHeld => ?_)
       clear hK K
       refine norm_ (a' := ?_) ?_ ?_
       rotate_left
       ·show Act.put _ (some 28) _ = _
        simp only [Act.put, List.setIfInBounds_toArray, List.set_cons_zero, List.set_cons_succ, i64_w, i32_w]
        rfl
       refine pure_ (i := 11) (N := some 5) (v := ?_) (a' := ?_) #[true, true, true, true, true, true, true, true, true, true, true, true] rfl rfl (by kernel_rfl) (fun _ _ _ h => h) (Or.inl ⟨(by rfl), ?_⟩) ?_ ?_
       rotate_left
       ·exact z9
       rotate_left
       ·exact z2
       refine done_ (by kernel_rfl) ?_
       obtain ⟨A9, c9, rfl⟩ := Kd.R_slice hR9
       have hgw := HI7.out.lt
       have HI9 := zA (((HI7.out.below hBe).grown hg8 (fun he => by have := (hR5.1 _ he.symm).2; omega)).grown hg9 (fun he => by have := hv8 _ he.symm; omega))
       have hwd := HK7.out.1
       have HK9 := zA (((HK7.out.trans (KeepBut.of_below hBe g none) (.inl rfl)).trans (KeepBut.of_grown hg8 g) (by
        cases hq : (Value.slice A5 (out.take b1.toNat).length c5).ownBlock with
        | none => exact .inl rfl
        | some q => exact .inr ⟨q, rfl, (by have := (hR5.1 q hq).2; omega)⟩)).trans (KeepBut.of_grown hg9 g) (by
        cases hq : v8.ownBlock with
        | none => exact .inl rfl
        | some q => exact .inr ⟨q, rfl, (by have := hv8 q hq; omega)⟩))
       have HR9 := zA (Kd.R_mono hR9 (fun q hq => (show q ≠ g by have := hq.2; omega)))
       have HB9 := zA ((hBw.grown hg8 hBw.size (fun q hq => by have := (hR5.1 q hq).2; have := HB7.out.size; omega)).grown hg9 (by have := hBw.size; omega) (fun q hq => by have := hv8 q hq; have := HB7.out.size; omega))
       clear hgw hwd hg9 hR9 hb9 hat9 hHeld hg8 hR8 hb8 hat8 hRo hCd hws hv8 HRi hBw hwe hgl hkq hR5 hBe hgq
       go_wp2
       go_roundg gk
       case measure => omega
       case rel => exact ⟨out.take b1.toNat ++ [i] ++ out.drop b1.toNat, A9, c9, wrap64 (i + 1), b2, b3, (by have e : (out.take b1.toNat ++ [i] ++ out.drop b1.toNat).length = b1.toNat + (out.length - b1.toNat + 1) := by { rw [List.length_append, List.length_append, List.length_take, List.length_drop, List.length_singleton]; omega }; rw [e]), z140, HH2, HR9, HI9, HB9, HK9⟩
     ·rw [if_neg hol] at hH; cases hH
    ·rw [if_neg hb1] at hH; cases hH
   ·rw [if_neg hb0] at hH; cases hH
  ·rw [if_neg hi] at hH
   injection hH with hH
   have h1 : r1 = out := (congrArg Prod.fst hH).symm
   have h2 : r2 = p := (congrArg (fun x => x.2.1) hH).symm
   have h3 : r3 = hs := (congrArg (fun x => x.2.2) hH).symm
   subst h1 h2 h3
   clear hH HH
   go_wp2
   go_ret
   exact ⟨_, rfl, Kd.R_mono HR.out (fun _ _ => trivial), HI.out, HB.out, HK.out⟩

def spec_l08DrawSet.l0 : Nat → Int → Int → List Int → Int → List Int → Int → Int → Option (Int × Int × Int)
 | 0, _, _, _, _, _, _, _ => none
 | k + 1, x2, x7, x8, x9, x1000, x1001, x1002 => if x9 < x2 then (if 0 ≤ x9 then (if x9 < (x8.length : Int) then (if 0 ≤ (IntKind.u64.wrap (rd x8 x9)) then (spec_l08DrawSet.l0 k x2 (Go.bits .or .i64 x7 (shl .i64 1 (IntKind.u64.wrap (rd x8 x9)))) x8 (wrap64 (x9 + 1)) x1000 x1001 x1002) else (none)) else (none)) else (none)) else (some (x7, x1001, x1002))
def spec_l08DrawSet.f (k : Nat) (s0_0 : List Int) (s0_1 : Int) (s0_2 : Int) (a1 : Int) (a2 : Int) : Option (Int × Int × Int) := (spec_l01DrawOrder.f k s0_0 s0_1 s0_2 a1).bind fun bt100 => (spec_l08DrawSet.l0 k a2 0 bt100.1 0 s0_0 bt100.2.1 bt100.2.2)
set_option maxHeartbeats 8000000 in
set_option maxRecDepth 100000 in
theorem spec_l08DrawSet.calls (k : Nat) (g : Nat) (s0_0 : List Int) (s0_1 : Int) (s0_2 : Int) (a1 : Int) (a2 : Int) (r1 : Int) (r2 : Int) (r3 : Int) (w0 w : World) (hI : IsS93 w0 w g s0_0 s0_1 s0_2) (hB : Below w0.heap.size w0 w) (h : spec_l08DrawSet.f k s0_0 s0_1 s0_2 a1 a2 = some (r1, r2, r3)) :
  Calls Try.prog 74 #[.pointer (some ⟨g, 0, none⟩), .int .i64 a1, .int .i64 a2] w fun e w' => e = .returned (.int .i64 r1) ∧ IsS93 w0 w' g s0_0 r2 r3 ∧ Below w0.heap.size w0 w' ∧ KeepBut w w' g none := by
 have HI0 := zA hI
 have HK := zA (KeepBut.refl w g none)
 have HL := zA hB.size
 clear hI
 have HW0 := zA hB.size
 have HB := zA hB
 clear hB
 have H : ((spec_l01DrawOrder.f k s0_0 s0_1 s0_2 a1).bind fun bt100 => (spec_l08DrawSet.l0 k a2 0 bt100.1 0 s0_0 bt100.2.1 bt100.2.2)) = some (r1, r2, r3) := h
 clear h
 replace H := zi H
 obtain ⟨⟨t100, t101, t102⟩, A40, H⟩ := H
 (try dsimp -simprocs only at H)
 have A4 := zA A40
 clear A40
 have H' := zA H
 clear H
 go_enter Try.func74, Try.ntmps74
 go_wp2_with (first | ((with_reducible refine gate_callee (f := 102) rfl ?_); refine goesL_ (some 12) rfl rfl Try.func102 (by kernel_rfl) rfl #[.pointer (some ⟨g, 0, none⟩), .int .i64 a1] rfl z3 ?_; (with_reducible refine (spec_l01DrawOrder.calls k g s0_0 s0_1 s0_2 a1 t100 t101 t102 w0 _ ?side1 ?side2 A4.out).mono ?_); (case side1 => exact z22); (case side2 => exact z33); rintro e w5 ⟨v103, rfl, ho0, hi, hb, hk⟩; refine ⟨_, rfl, ?_⟩; have HO104 := zA (Kd.R_lower ho0 (keep_size (w := w) (g := g) (row := none) z24)); replace HK := zA (KeepBut.trans z24 hk (.inl rfl)); replace HB := zA (hb); replace HI0 := zA (hi); (try clear hb); (try clear hb2); (try clear hk); (try clear hi); (try clear ho0)))
 go_loopg [7, 9] k (fun kq v7 v9 w' => ∃ (x7_1 : Int) (x9_1 : Int), v7 = .int .i64 x7_1 ∧ v9 = .int .i64 x9_1 ∧ Aside0 (spec_l08DrawSet.l0 kq a2 x7_1 t100 x9_1 s0_0 t101 t102 = some (r1, r2, r3)) ∧ Aside0 (kq ≤ k) ∧ Aside0 (Kd.R (Kd.int .i64) 2 w' w.heap.size (fun _ => True) v103 t100) ∧ Aside0 (IsS93 w0 w' g s0_0 t101 t102) ∧ Aside0 (KeepBut w w' g none) ∧ Aside0 (Below w0.heap.size w0 w'))
 case atStart => exact ⟨(0), (0), z11, z11, H', ⟨Nat.le_refl _⟩, ⟨z118⟩, ⟨z22⟩, ⟨z24⟩, ⟨z33⟩⟩
 case round =>
  clear H'
  (try clear c1); (try clear p2)
  obtain ⟨x7_1, x9_1, rfl, rfl, HA, HK1, HO_8, HI0, HK, HB⟩ := hrel
  cases gk with
  | zero => exact absurd HA.out (by simp [spec_l08DrawSet.l0])
  | succ k1 =>
   have H := HA.out
   clear HA
   simp only [spec_l08DrawSet.l0] at H
   by_cases c6 : x9_1 < a2
   ·rw [if_pos c6] at H
    have c6b0 : decide (x9_1 < a2) = true := decide_eq_true c6
    clear c6
    by_cases c7 : 0 ≤ x9_1
    ·rw [if_pos c7] at H
     have c7b0 : decide (0 ≤ x9_1) = true := decide_eq_true c7
     clear c7
     by_cases c8 : x9_1 < (t100.length : Int)
     ·rw [if_pos c8] at H
      have c8b0 : decide (x9_1 < (t100.length : Int)) = true := decide_eq_true c8
      clear c8
      obtain ⟨ji9, hji9⟩ : ∃ j_ : Int, (IntKind.u64.wrap (rd t100 x9_1)) = j_ := ⟨_, rfl⟩
      replace H : (if 0 ≤ (ji9) then (spec_l08DrawSet.l0 k1 a2 (Go.bits .or .i64 x7_1 (shl .i64 1 (ji9))) t100 (wrap64 (x9_1 + 1)) s0_0 t101 t102) else (none)) = some (r1, r2, r3) := by first | (rw [hji9] at H; exact H) | (simp only [hji9] at H ⊢; exact H)
      by_cases c10 : 0 ≤ (ji9)
      ·rw [if_pos c10] at H
       have c10b0 := eq_true c10
       have c10b1 : decide (0 ≤ (ji9)) = true := decide_eq_true c10
       clear c10
       obtain ⟨ji11, hji11⟩ : ∃ j_ : Int, (shl .i64 1 (ji9)) = j_ := ⟨_, rfl⟩
       replace H : (spec_l08DrawSet.l0 k1 a2 (Go.bits .or .i64 x7_1 (ji11)) t100 (wrap64 (x9_1 + 1)) s0_0 t101 t102) = some (r1, r2, r3) := by first | (rw [hji11] at H; exact H) | (simp only [hji11] at H ⊢; exact H)
       have hji11_ : (IntKind.i64.wrap (1 * 2 ^ min (ji9).toNat 64)) = ji11 := hji11
       have hji11z : (ji9) ≤ 64 → (IntKind.i64.wrap (1 * 2 ^ (ji9).toNat)) = ji11 := shl_small hji11
       have hji11u : (IntKind.i64.wrap (2 ^ min (ji9).toNat 64)) = ji11 := by have h_ := hji11_; rw [Int.one_mul] at h_; exact h_
       have hji11v : (ji9) ≤ 64 → (IntKind.i64.wrap (2 ^ (ji9).toNat)) = ji11 := fun hle_ => by have h_ := hji11z hle_; rw [Int.one_mul] at h_; exact h_
       have hji11y : (wrap64 (1 * 2 ^ min (ji9).toNat 64)) = ji11 := (i64_w _).symm.trans hji11_
       have hji11x : (ji9) ≤ 64 → (wrap64 (1 * 2 ^ (ji9).toNat)) = ji11 := fun h_ => (i64_w _).symm.trans (hji11z h_)
       have H' := zA H
       clear H
       obtain ⟨Ao12, co12, eo12⟩ := Kd.R_slice HO_8.out
       subst eo12
       have p348 : 0 ≤ (x9_1 : Int) := of_decide_eq_true z7
       have q348 : x9_1 < (t100.length : Int) := of_decide_eq_true z7
       obtain ⟨ad348, e348, hx348_0⟩ := Kd.at_int (Kd.R_reads' HO_8.out).2.2 x9_1 p348 q348
       cases e348
       replace p348 := eq_true p348
       replace q348 := eq_true q348
       go_wp2
       go_roundg k1
       case measure => have := HK1.out; omega
       case rel => exact ⟨(Go.bits .or .i64 x7_1 (ji11)), (wrap64 (x9_1 + 1)), (by first | rfl | (simp; done) | (simp only [← hji11] <;> (first | rfl | simp)) | (simp [*]; done)), z11, H', ⟨z73⟩, ⟨z48⟩, ⟨z22⟩, ⟨z24⟩, ⟨z33⟩⟩
      ·rw [if_neg c10] at H
       exact absurd H (by simp)
     ·rw [if_neg c8] at H
      exact absurd H (by simp)
    ·rw [if_neg c7] at H
     exact absurd H (by simp)
   ·rw [if_neg c6] at H
    have c6b0 : decide (x9_1 < a2) = false := decide_eq_false c6
    clear c6
    simp only [Option.some.injEq, Prod.mk.injEq] at H
    obtain ⟨rfl, rfl, rfl⟩ := H
    go_wp2
    go_ret
    exact ⟨z8, z22, z33, z24⟩

def spec_l01Pick.f (s0_0 : List Int) (s0_1 : Int) (s0_2 : Int) (l1 : List Int) : Option (Int × Int × Int) := (spec_l01Next.f s0_0 s0_1 s0_2 (l1.length : Int)).bind fun bt100 => (if 0 ≤ bt100.1 then (if bt100.1 < (l1.length : Int) then (some (rd l1 bt100.1, bt100.2.1, bt100.2.2)) else (none)) else (none))
set_option maxHeartbeats 8000000 in
set_option maxRecDepth 100000 in
theorem spec_l01Pick.calls (g : Nat) (s0_0 : List Int) (s0_1 : Int) (s0_2 : Int) (A1 : Option Addr) (c1 : Nat) (l1 : List Int) (r1 : Int) (r2 : Int) (r3 : Int) (w0 w : World) (hI : IsS93 w0 w g s0_0 s0_1 s0_2) (hB : Below w0.heap.size w0 w) (hr1 : Kd.C (Kd.int .i64) w A1 l1.length l1) (hc1 : l1.length ≤ c1) (hf1 : ∀ ad, A1 = some ad → 0 < l1.length → ad.block ≠ g) (h : spec_l01Pick.f s0_0 s0_1 s0_2 l1 = some (r1, r2, r3)) :
  Calls Try.prog 76 #[.pointer (some ⟨g, 0, none⟩), .slice A1 l1.length c1] w fun e w' => e = .returned (.int .i64 r1) ∧ IsS93 w0 w' g s0_0 r2 r3 ∧ Below w0.heap.size w0 w' ∧ KeepBut w w' g none := by
 have HR1 := zA hr1
 have HC1 := zA hc1
 clear hr1 hc1
 have HI0 := zA hI
 have HK := zA (KeepBut.refl w g none)
 have HL := zA hB.size
 clear hI
 have HW0 := zA hB.size
 have HB := zA hB
 clear hB
 have H := h
 unfold spec_l01Pick.f at H
 (try dsimp -simprocs only at H)
 clear h
 replace H := zi H
 obtain ⟨⟨t100, t101, t102⟩, A30, H⟩ := H
 (try dsimp -simprocs only at H)
 have A3 := zA A30
 clear A30
 by_cases c4 : 0 ≤ t100
 ·rw [if_pos c4] at H
  have c4b0 : decide (0 ≤ t100) = true := decide_eq_true c4
  clear c4
  by_cases c5 : t100 < (l1.length : Int)
  ·rw [if_pos c5] at H
   have c5b0 : decide (t100 < (l1.length : Int)) = true := decide_eq_true c5
   clear c5
   simp only [Option.some.injEq, Prod.mk.injEq] at H
   obtain ⟨rfl, rfl, rfl⟩ := H
   go_enter Try.func76, Try.ntmps76
   go_wp2_with (first | ((with_reducible refine gate_callee (f := 75) rfl ?_); refine goesL_ (some 9) rfl rfl Try.func75 (by kernel_rfl) rfl #[.pointer (some ⟨g, 0, none⟩), .int .i64 (l1.length : Int)] rfl z3 ?_; (with_reducible refine (spec_l01Next.calls g s0_0 s0_1 s0_2 (l1.length : Int) t100 t101 t102 w0 _ ?side1 ?side2 A3.out).mono ?_); (case side1 => exact z22); (case side2 => exact z33); rintro e w6 ⟨rfl, hi, hb, hk⟩; refine ⟨_, rfl, ?_⟩; replace HK := zA (KeepBut.trans z24 hk (.inl rfl)); replace HB := zA (hb); replace HI0 := zA (hi); (try clear hb); (try clear hb2); (try clear hk); (try clear hi); have p352 : 0 ≤ (t100 : Int) := of_decide_eq_true z7; have q352 : t100 < (l1.length : Int) := of_decide_eq_true z7; obtain ⟨ad352, e352, hx352_0⟩ := Kd.at_int HR1.out t100 p352 q352; cases e352; replace hx352_0 := keep_cell HK.out hx352_0 (by first | (rw [add_block]; exact hf1 _ rfl (by omega)) | exact hf1 _ rfl (by omega) | exact hf1 ad352 rfl (by omega)); replace p352 := eq_true p352; replace q352 := eq_true q352))
   go_ret
   exact ⟨z8, z22, z33, z24⟩
  ·rw [if_neg c5] at H
   exact absurd H (by simp)
 ·rw [if_neg c4] at H
  exact absurd H (by simp)

def spec_l08Bad.f (s0_0 : List Int) (s0_1 : Int) (s0_2 : Int) (a1_0 : Int) (a1_1 : Int) (a1_2 : Int) (a1_3 : Int) : Option (Int × Int × Int × Int × Int × Int) := (spec_l01Next.f s0_0 s0_1 s0_2 40).bind fun bt100 => (if bt100.1 = 0 then ((spec_l01Pick.f s0_0 bt100.2.1 bt100.2.2 (([0, 13, (-1)] : List Int))).bind fun bt101 => (some (bt101.1, a1_1, a1_2, a1_3, bt101.2.1, bt101.2.2))) else (if bt100.1 = 1 then ((spec_l01Pick.f s0_0 bt100.2.1 bt100.2.2 (([0, 13, wrap64 (a1_0 + 1)] : List Int))).bind fun bt102 => (some (a1_0, bt102.1, a1_2, a1_3, bt102.2.1, bt102.2.2))) else (if bt100.1 = 2 then ((spec_l01Pick.f s0_0 bt100.2.1 bt100.2.2 (([0, 13] : List Int))).bind fun bt103 => (some (a1_0, a1_1, bt103.1, a1_3, bt103.2.1, bt103.2.2))) else (if bt100.1 = 3 then ((spec_l01Pick.f s0_0 bt100.2.1 bt100.2.2 (([0, 13] : List Int))).bind fun bt104 => (some (a1_0, a1_1, a1_2, bt104.1, bt104.2.1, bt104.2.2))) else (some (a1_0, a1_1, a1_2, a1_3, bt100.2.1, bt100.2.2))))))
set_option maxHeartbeats 8000000 in
set_option maxRecDepth 100000 in
theorem spec_l08Bad.calls (g : Nat) (s0_0 : List Int) (s0_1 : Int) (s0_2 : Int) (a1_0 : Int) (a1_1 : Int) (a1_2 : Int) (a1_3 : Int) (r1 : Int) (r2 : Int) (r3 : Int) (r4 : Int) (r5 : Int) (r6 : Int) (w0 w : World) (hI : IsS93 w0 w g s0_0 s0_1 s0_2) (hB : Below w0.heap.size w0 w) (h : spec_l08Bad.f s0_0 s0_1 s0_2 a1_0 a1_1 a1_2 a1_3 = some (r1, r2, r3, r4, r5, r6)) :
  Calls Try.prog 77 #[.pointer (some ⟨g, 0, none⟩), .agg #[.int .i64 a1_0, .int .i64 a1_1, .int .i64 a1_2, .int .i64 a1_3]] w fun e w' => e = .returned (.agg #[.int .i64 r1, .int .i64 r2, .int .i64 r3, .int .i64 r4]) ∧ IsS93 w0 w' g s0_0 r5 r6 ∧ Below w0.heap.size w0 w' ∧ KeepBut w w' g none := by
 have hu27 := Try.underlying27
 have HI0 := zA hI
 have HK := zA (KeepBut.refl w g none)
 have HL := zA hB.size
 clear hI
 have HW0 := zA hB.size
 have HB := zA hB
 clear hB
 have H := h
 unfold spec_l08Bad.f at H
 (try dsimp -simprocs only at H)
 clear h
 replace H := zi H
 obtain ⟨⟨t100, t105, t106⟩, A30, H⟩ := H
 (try dsimp -simprocs only at H)
 have A3 := zA A30
 clear A30
 by_cases c4 : t100 = 0
 ·rw [if_pos c4] at H
  have c4b0 : (t100 == 0) = true := beq_iff_eq.mpr c4
  have c4b1 : (t100 != 0) = false := bne_eq_false_iff_eq.mpr c4
  clear c4
  obtain ⟨y107, hy107⟩ : ∃ y_ : List Int, y_ = (([0, 13, (-1)] : List Int)) := ⟨_, rfl⟩
  replace H : ((spec_l01Pick.f s0_0 t105 t106 y107).bind fun bt101 => (some (bt101.1, a1_1, a1_2, a1_3, bt101.2.1, bt101.2.2))) = some (r1, r2, r3, r4, r5, r6) := by first | (rw [hy107]; with_reducible exact H) | (have H2_ := (Option.bind_some _ _).symm.trans H; rw [hy107]; with_reducible exact H2_) | (have H2_ := (Option.bind_some _ _).symm.trans H; with_reducible exact H2_) | with_reducible exact H | (rw [hy107]; exact H) | exact H
  have Ny107 := zA hy107
  clear hy107
  replace H := zi H
  obtain ⟨⟨t101, t108, t109⟩, A50, H⟩ := H
  (try dsimp -simprocs only at H)
  have A5 := zA A50
  clear A50
  simp only [Option.some.injEq, Prod.mk.injEq] at H
  obtain ⟨rfl, rfl, rfl, rfl, rfl, rfl⟩ := H
  go_enter Try.func77, Try.ntmps77
  go_wp2_with (first | ((with_reducible refine gate_dst (N := 3) rfl ?_); refine zbox (N := 3) (cs := #[.int .i64 a1_0, .int .i64 a1_1, .int .i64 a1_2, .int .i64 a1_3]) (t := 27) ?_; intro gb110 hg w6 hbox hb; replace HB := zA (below_step z33 hb); have BK110 := zA (hbox); have GW110 := zA ((z153 : w.heap.size ≤ gb110)); have GE110 := zA ((Nat.le_trans HW0.out (z153 : w.heap.size ≤ gb110) : w0.heap.size ≤ gb110)); replace HK := zA (KeepBut.trans z24 (KeepBut.of_below hb g none) (.inl rfl)); have NB0_353 := zA ((z157 : g ≠ gb110)); have NB353_0 := zA ((z158 : gb110 ≠ g)); replace HI0 := zA (IsS93.below z22 hb); clear hb hbox hg) | ((with_reducible refine gate_dst (N := 4) rfl ?_); refine zbox (N := 4) (cs := #[.int .i64 0, .int .i64 0, .int .i64 0, .int .i64 0]) (t := 27) ?_; intro gb111 hg w7 hbox hb; replace HB := zA (below_step z59 hb); have BK111 := zA (hbox); have GW111 := zA ((z156 : w.heap.size ≤ gb111)); have GE111 := zA ((Nat.le_trans HW0.out (z156 : w.heap.size ≤ gb111) : w0.heap.size ≤ gb111)); replace HK := zA (KeepBut.trans z31 (KeepBut.of_below hb g none) (.inl rfl)); have NB110_111 := zA ((z154 : gb110 ≠ gb111)); have NB111_110 := zA ((z155 : gb111 ≠ gb110)); replace BK110 := zBB BK110 hb; have NB0_354 := zA ((z160 : g ≠ gb111)); have NB354_0 := zA ((z161 : gb111 ≠ g)); replace HI0 := zA (IsS93.below z26 hb); clear hb hbox hg) | ((with_reducible refine gate_callee (f := 75) rfl ?_); refine goesL_ (some 6) rfl rfl Try.func75 (by kernel_rfl) rfl #[.pointer (some ⟨g, 0, none⟩), .int .i64 40] rfl z3 ?_; (with_reducible refine (spec_l01Next.calls g s0_0 s0_1 s0_2 40 t100 t105 t106 w0 _ ?side1 ?side2 A3.out).mono ?_); (case side1 => exact z18); (case side2 => exact z23); rintro e w8 ⟨rfl, hi, hb, hk⟩; refine ⟨_, rfl, ?_⟩; replace BK110 := zKB BK110 hk NB353_0; replace BK111 := zKB BK111 hk NB354_0; replace HK := zA (KeepBut.trans z20 hk (.inl rfl)); replace HB := zA (hb); replace HI0 := zA (hi); (try clear hb); (try clear hb2); (try clear hk); (try clear hi)) | ((with_reducible refine gate_dst (N := 10) rfl ?_); refine Kd.R_lit (Kd.int .i64) _ 2 ?hg (N := 10) ?hd (xs := ([0, 13, (-1)] : List Int)) (inner := [.int .i64 0, .int .i64 13, .int .i64 (-1)]) (ok := fun _ => True) (okp := fun _ => True) ?hr ?hp (fun _ hk => hk) trivial (Below.refl _ _) (Nat.le_refl _) (by simp) ?_; (case hd => rfl); (case hg => rfl); (case hr => first | (go_simp; done) | (go_simp; rfl)); (case hp => exact (Reps.one (show Kd.M (Kd.int .i64) _ _ _ 0 [.int .i64 0] from rfl) (Reps.one (show Kd.M (Kd.int .i64) _ _ _ 13 [.int .i64 13] from rfl) (Reps.one (show Kd.M (Kd.int .i64) _ _ _ (-1) [.int .i64 (-1)] from rfl) (Reps.none _ _))))); intro v112 w9 ho10 hb hg_ hnew_; clear hg_ hnew_; (first | rw [← Ny107.out] at ho10 | (simp only [Int.reduceToNat] at ho10; rw [← Ny107.out] at ho10)); have HO113 := zA (Kd.R_lower ho10 (keep_size (w := w) (g := g) (row := none) z20)); replace BK110 := zBB BK110 hb; replace BK111 := zBB BK111 hb; replace HK := zA (KeepBut.trans z20 (KeepBut.of_below hb g none) (.inl rfl)); replace HB := zA (below_step z23 hb); replace HI0 := zA (IsS93.below z18 hb); clear hb ho10; obtain ⟨Ao11, co11, eo11⟩ := Kd.R_slice HO113.out; subst eo11) | ((with_reducible refine gate_callee (f := 76) rfl ?_); refine goesL_ (some 11) rfl rfl Try.func76 (by kernel_rfl) rfl #[.pointer (some ⟨g, 0, none⟩), .slice Ao11 y107.length co11] rfl z3 ?_; (with_reducible refine (spec_l01Pick.calls g s0_0 t105 t106 _ _ y107 t101 t108 t109 w0 _ ?side1 ?side2 ?side3 ?side4 ?side5 A5.out).mono ?_); (case side1 => exact z18); (case side2 => exact z23); (case side3 => exact (by repeat (first | exact (Kd.R_reads' HO113.out).2.2 | (with_reducible refine Kd.C_alloc ?_ _) | (with_reducible refine Kd.C_drewN ?_ _) | (with_reducible refine Kd.C_drew ?_)))); (case side4 => exact (Kd.R_reads' HO113.out).2.1); (case side5 => exact far_slice (IsS93.own_ne HI0.out HO113.out (by decide))); rintro e w12 ⟨rfl, hi, hb, hk⟩; refine ⟨_, rfl, ?_⟩; replace BK110 := zKB BK110 hk NB353_0; replace BK111 := zKB BK111 hk NB354_0; replace HO113 := zA (Kd.R_mono (Kd.R_keep (IsS93.apart (show IsS93 w0 _ g s0_0 t105 t106 from z18) z54 (by decide)) hk (fun _ h => h.2)) (fun _ h => h.1)); replace HK := zA (KeepBut.trans z20 hk (.inl rfl)); replace HB := zA (hb); replace HI0 := zA (hi); (try clear hb); (try clear hb2); (try clear hk); (try clear hi); have hnb13 := NB110_111.out; have hnc13 := NB111_110.out; have hnb14 := NB353_0.out; have hnc14 := NB0_353.out; obtain ⟨hcz15_0, hcz15_1, hcz15_2, hcz15_3, hfz15_0, hfz15_1, hfz15_2, hfz15_3⟩ := zC4 BK110.out; have hnb16 := NB354_0.out; have hnc16 := NB0_354.out; obtain ⟨hcz17_0, hcz17_1, hcz17_2, hcz17_3, hfz17_0, hfz17_1, hfz17_2, hfz17_3⟩ := zC4 BK111.out))
  refine bodyPost_ret (results_cell_row rfl _ _ gb111 27 #[.int .i64 t101, .int .i64 a1_1, .int .i64 a1_2, .int .i64 a1_3] (0, 0) _ rfl (by (with_reducible repeat (first | refine blk_drewN ?_ _ | refine blk_drew ?_ | refine blk_alloc ?_ _)); refine blk_put (cs := #[.int .i64 t101, .int .i64 a1_1, .int .i64 a1_2, .int .i64 0]) ?_ 3 _ rfl; (with_reducible repeat (first | refine blk_drewN ?_ _ | refine blk_drew ?_ | refine blk_alloc ?_ _)); refine blk_put (cs := #[.int .i64 t101, .int .i64 a1_1, .int .i64 0, .int .i64 0]) ?_ 2 _ rfl; (with_reducible repeat (first | refine blk_drewN ?_ _ | refine blk_drew ?_ | refine blk_alloc ?_ _)); refine blk_put (cs := #[.int .i64 t101, .int .i64 0, .int .i64 0, .int .i64 0]) ?_ 1 _ rfl; (with_reducible repeat (first | refine blk_drewN ?_ _ | refine blk_drew ?_ | refine blk_alloc ?_ _)); refine blk_put (cs := #[.int .i64 0, .int .i64 0, .int .i64 0, .int .i64 0]) ?_ 0 _ rfl; (with_reducible repeat (first | refine blk_drewN ?_ _ | refine blk_drew ?_ | refine blk_alloc ?_ _)); refine blk_far ?_ NB111_110.out _; (with_reducible repeat (first | refine blk_drewN ?_ _ | refine blk_drew ?_ | refine blk_alloc ?_ _)); exact BK111.out) Try.underlying27 rfl (by kernel_rfl)) rfl ?_
  exact ⟨z8, z18, z23, z20⟩
 ·rw [if_neg c4] at H
  have c4b0 : (t100 == 0) = false := beq_eq_false_iff_ne.mpr c4
  have c4b1 : (t100 != 0) = true := bne_iff_ne.mpr c4
  by_cases c18 : t100 = 1
  ·rw [if_pos c18] at H
   have c18b0 : (t100 == 1) = true := beq_iff_eq.mpr c18
   have c18b1 : (t100 != 1) = false := bne_eq_false_iff_eq.mpr c18
   clear c18
   obtain ⟨y114, hy114⟩ : ∃ y_ : List Int, y_ = (([0, 13, wrap64 (a1_0 + 1)] : List Int)) := ⟨_, rfl⟩
   replace H : ((spec_l01Pick.f s0_0 t105 t106 y114).bind fun bt102 => (some (a1_0, bt102.1, a1_2, a1_3, bt102.2.1, bt102.2.2))) = some (r1, r2, r3, r4, r5, r6) := by first | (rw [hy114]; with_reducible exact H) | (have H2_ := (Option.bind_some _ _).symm.trans H; rw [hy114]; with_reducible exact H2_) | (have H2_ := (Option.bind_some _ _).symm.trans H; with_reducible exact H2_) | with_reducible exact H | (rw [hy114]; exact H) | exact H
   have Ny114 := zA hy114
   clear hy114
   replace H := zi H
   obtain ⟨⟨t102, t115, t116⟩, A190, H⟩ := H
   (try dsimp -simprocs only at H)
   have A19 := zA A190
   clear A190
   simp only [Option.some.injEq, Prod.mk.injEq] at H
   obtain ⟨rfl, rfl, rfl, rfl, rfl, rfl⟩ := H
   go_enter Try.func77, Try.ntmps77
   go_wp2_with (first | ((with_reducible refine gate_dst (N := 3) rfl ?_); refine zbox (N := 3) (cs := #[.int .i64 a1_0, .int .i64 a1_1, .int .i64 a1_2, .int .i64 a1_3]) (t := 27) ?_; intro gb110 hg w20 hbox hb; replace HB := zA (below_step z33 hb); have BK110 := zA (hbox); have GW110 := zA ((z153 : w.heap.size ≤ gb110)); have GE110 := zA ((Nat.le_trans HW0.out (z153 : w.heap.size ≤ gb110) : w0.heap.size ≤ gb110)); replace HK := zA (KeepBut.trans z24 (KeepBut.of_below hb g none) (.inl rfl)); have NB0_353 := zA ((z157 : g ≠ gb110)); have NB353_0 := zA ((z158 : gb110 ≠ g)); replace HI0 := zA (IsS93.below z22 hb); clear hb hbox hg) | ((with_reducible refine gate_dst (N := 4) rfl ?_); refine zbox (N := 4) (cs := #[.int .i64 0, .int .i64 0, .int .i64 0, .int .i64 0]) (t := 27) ?_; intro gb111 hg w21 hbox hb; replace HB := zA (below_step z59 hb); have BK111 := zA (hbox); have GW111 := zA ((z156 : w.heap.size ≤ gb111)); have GE111 := zA ((Nat.le_trans HW0.out (z156 : w.heap.size ≤ gb111) : w0.heap.size ≤ gb111)); replace HK := zA (KeepBut.trans z31 (KeepBut.of_below hb g none) (.inl rfl)); have NB110_111 := zA ((z154 : gb110 ≠ gb111)); have NB111_110 := zA ((z155 : gb111 ≠ gb110)); replace BK110 := zBB BK110 hb; have NB0_354 := zA ((z160 : g ≠ gb111)); have NB354_0 := zA ((z161 : gb111 ≠ g)); replace HI0 := zA (IsS93.below z26 hb); clear hb hbox hg) | ((with_reducible refine gate_callee (f := 75) rfl ?_); refine goesL_ (some 6) rfl rfl Try.func75 (by kernel_rfl) rfl #[.pointer (some ⟨g, 0, none⟩), .int .i64 40] rfl z3 ?_; (with_reducible refine (spec_l01Next.calls g s0_0 s0_1 s0_2 40 t100 t105 t106 w0 _ ?side1 ?side2 A3.out).mono ?_); (case side1 => exact z18); (case side2 => exact z23); rintro e w22 ⟨rfl, hi, hb, hk⟩; refine ⟨_, rfl, ?_⟩; replace BK110 := zKB BK110 hk NB353_0; replace BK111 := zKB BK111 hk NB354_0; replace HK := zA (KeepBut.trans z20 hk (.inl rfl)); replace HB := zA (hb); replace HI0 := zA (hi); (try clear hb); (try clear hb2); (try clear hk); (try clear hi); have hnb23 := NB110_111.out; have hnc23 := NB111_110.out; have hnb24 := NB353_0.out; have hnc24 := NB0_353.out; obtain ⟨hcz25_0, hcz25_1, hcz25_2, hcz25_3, hfz25_0, hfz25_1, hfz25_2, hfz25_3⟩ := zC4 BK110.out) | ((with_reducible refine gate_dst (N := 19) rfl ?_); refine Kd.R_lit (Kd.int .i64) _ 2 ?hg (N := 19) ?hd (xs := ([0, 13, wrap64 (a1_0 + 1)] : List Int)) (inner := [.int .i64 0, .int .i64 13, .int .i64 (wrap64 (a1_0 + 1))]) (ok := fun _ => True) (okp := fun _ => True) ?hr ?hp (fun _ hk => hk) trivial (Below.refl _ _) (Nat.le_refl _) (by simp) ?_; (case hd => rfl); (case hg => rfl); (case hr => first | (go_simp; done) | (go_simp; rfl)); (case hp => exact (Reps.one (show Kd.M (Kd.int .i64) _ _ _ 0 [.int .i64 0] from rfl) (Reps.one (show Kd.M (Kd.int .i64) _ _ _ 13 [.int .i64 13] from rfl) (Reps.one (show Kd.M (Kd.int .i64) _ _ _ (wrap64 (a1_0 + 1)) [.int .i64 (wrap64 (a1_0 + 1))] from rfl) (Reps.none _ _))))); intro v117 w26 ho27 hb hg_ hnew_; clear hg_ hnew_; (first | rw [← Ny114.out] at ho27 | (simp only [Int.reduceToNat] at ho27; rw [← Ny114.out] at ho27)); have HO118 := zA (Kd.R_lower ho27 (keep_size (w := w) (g := g) (row := none) z20)); replace BK110 := zBB BK110 hb; replace BK111 := zBB BK111 hb; replace HK := zA (KeepBut.trans z20 (KeepBut.of_below hb g none) (.inl rfl)); replace HB := zA (below_step z23 hb); replace HI0 := zA (IsS93.below z18 hb); clear hb ho27; obtain ⟨Ao28, co28, eo28⟩ := Kd.R_slice HO118.out; subst eo28) | ((with_reducible refine gate_callee (f := 76) rfl ?_); refine goesL_ (some 20) rfl rfl Try.func76 (by kernel_rfl) rfl #[.pointer (some ⟨g, 0, none⟩), .slice Ao28 y114.length co28] rfl z3 ?_; (with_reducible refine (spec_l01Pick.calls g s0_0 t105 t106 _ _ y114 t102 t115 t116 w0 _ ?side1 ?side2 ?side3 ?side4 ?side5 A19.out).mono ?_); (case side1 => exact z18); (case side2 => exact z23); (case side3 => exact z108); (case side4 => exact (Kd.R_reads' HO118.out).2.1); (case side5 => exact far_slice (IsS93.own_ne HI0.out HO118.out (by decide))); rintro e w29 ⟨rfl, hi, hb, hk⟩; refine ⟨_, rfl, ?_⟩; replace BK110 := zKB BK110 hk NB353_0; replace BK111 := zKB BK111 hk NB354_0; replace HO118 := zA (Kd.R_mono (Kd.R_keep (IsS93.apart (show IsS93 w0 _ g s0_0 t105 t106 from z18) z119 (by decide)) hk (fun _ h => h.2)) (fun _ h => h.1)); replace HK := zA (KeepBut.trans z20 hk (.inl rfl)); replace HB := zA (hb); replace HI0 := zA (hi); (try clear hb); (try clear hb2); (try clear hk); (try clear hi); obtain ⟨hcz30_0, hcz30_1, hcz30_2, hcz30_3, hfz30_0, hfz30_1, hfz30_2, hfz30_3⟩ := zC4 BK110.out; have hnb31 := NB354_0.out; have hnc31 := NB0_354.out; obtain ⟨hcz32_0, hcz32_1, hcz32_2, hcz32_3, hfz32_0, hfz32_1, hfz32_2, hfz32_3⟩ := zC4 BK111.out))
   refine bodyPost_ret (results_cell_row rfl _ _ gb111 27 #[.int .i64 a1_0, .int .i64 t102, .int .i64 a1_2, .int .i64 a1_3] (0, 0) _ rfl (by (with_reducible repeat (first | refine blk_drewN ?_ _ | refine blk_drew ?_ | refine blk_alloc ?_ _)); refine blk_put (cs := #[.int .i64 a1_0, .int .i64 t102, .int .i64 a1_2, .int .i64 0]) ?_ 3 _ rfl; (with_reducible repeat (first | refine blk_drewN ?_ _ | refine blk_drew ?_ | refine blk_alloc ?_ _)); refine blk_put (cs := #[.int .i64 a1_0, .int .i64 t102, .int .i64 0, .int .i64 0]) ?_ 2 _ rfl; (with_reducible repeat (first | refine blk_drewN ?_ _ | refine blk_drew ?_ | refine blk_alloc ?_ _)); refine blk_put (cs := #[.int .i64 a1_0, .int .i64 0, .int .i64 0, .int .i64 0]) ?_ 1 _ rfl; (with_reducible repeat (first | refine blk_drewN ?_ _ | refine blk_drew ?_ | refine blk_alloc ?_ _)); refine blk_put (cs := #[.int .i64 0, .int .i64 0, .int .i64 0, .int .i64 0]) ?_ 0 _ rfl; (with_reducible repeat (first | refine blk_drewN ?_ _ | refine blk_drew ?_ | refine blk_alloc ?_ _)); refine blk_far ?_ NB111_110.out _; (with_reducible repeat (first | refine blk_drewN ?_ _ | refine blk_drew ?_ | refine blk_alloc ?_ _)); exact BK111.out) Try.underlying27 rfl (by kernel_rfl)) rfl ?_
   exact ⟨z8, z18, z23, z20⟩
  ·rw [if_neg c18] at H
   have c18b0 : (t100 == 1) = false := beq_eq_false_iff_ne.mpr c18
   have c18b1 : (t100 != 1) = true := bne_iff_ne.mpr c18
   by_cases c33 : t100 = 2
   ·rw [if_pos c33] at H
    have c33b0 : (t100 == 2) = true := beq_iff_eq.mpr c33
    have c33b1 : (t100 != 2) = false := bne_eq_false_iff_eq.mpr c33
    clear c33
    obtain ⟨y119, hy119⟩ : ∃ y_ : List Int, y_ = (([0, 13] : List Int)) := ⟨_, rfl⟩
    replace H : ((spec_l01Pick.f s0_0 t105 t106 y119).bind fun bt103 => (some (a1_0, a1_1, bt103.1, a1_3, bt103.2.1, bt103.2.2))) = some (r1, r2, r3, r4, r5, r6) := by first | (rw [hy119]; with_reducible exact H) | (have H2_ := (Option.bind_some _ _).symm.trans H; rw [hy119]; with_reducible exact H2_) | (have H2_ := (Option.bind_some _ _).symm.trans H; with_reducible exact H2_) | with_reducible exact H | (rw [hy119]; exact H) | exact H
    have Ny119 := zA hy119
    clear hy119
    replace H := zi H
    obtain ⟨⟨t103, t120, t121⟩, A340, H⟩ := H
    (try dsimp -simprocs only at H)
    have A34 := zA A340
    clear A340
    simp only [Option.some.injEq, Prod.mk.injEq] at H
    obtain ⟨rfl, rfl, rfl, rfl, rfl, rfl⟩ := H
    go_enter Try.func77, Try.ntmps77
    go_wp2_with (first | ((with_reducible refine gate_dst (N := 3) rfl ?_); refine zbox (N := 3) (cs := #[.int .i64 a1_0, .int .i64 a1_1, .int .i64 a1_2, .int .i64 a1_3]) (t := 27) ?_; intro gb110 hg w35 hbox hb; replace HB := zA (below_step z33 hb); have BK110 := zA (hbox); have GW110 := zA ((z153 : w.heap.size ≤ gb110)); have GE110 := zA ((Nat.le_trans HW0.out (z153 : w.heap.size ≤ gb110) : w0.heap.size ≤ gb110)); replace HK := zA (KeepBut.trans z24 (KeepBut.of_below hb g none) (.inl rfl)); have NB0_353 := zA ((z157 : g ≠ gb110)); have NB353_0 := zA ((z158 : gb110 ≠ g)); replace HI0 := zA (IsS93.below z22 hb); clear hb hbox hg) | ((with_reducible refine gate_dst (N := 4) rfl ?_); refine zbox (N := 4) (cs := #[.int .i64 0, .int .i64 0, .int .i64 0, .int .i64 0]) (t := 27) ?_; intro gb111 hg w36 hbox hb; replace HB := zA (below_step z59 hb); have BK111 := zA (hbox); have GW111 := zA ((z156 : w.heap.size ≤ gb111)); have GE111 := zA ((Nat.le_trans HW0.out (z156 : w.heap.size ≤ gb111) : w0.heap.size ≤ gb111)); replace HK := zA (KeepBut.trans z31 (KeepBut.of_below hb g none) (.inl rfl)); have NB110_111 := zA ((z154 : gb110 ≠ gb111)); have NB111_110 := zA ((z155 : gb111 ≠ gb110)); replace BK110 := zBB BK110 hb; have NB0_354 := zA ((z160 : g ≠ gb111)); have NB354_0 := zA ((z161 : gb111 ≠ g)); replace HI0 := zA (IsS93.below z26 hb); clear hb hbox hg) | ((with_reducible refine gate_callee (f := 75) rfl ?_); refine goesL_ (some 6) rfl rfl Try.func75 (by kernel_rfl) rfl #[.pointer (some ⟨g, 0, none⟩), .int .i64 40] rfl z3 ?_; (with_reducible refine (spec_l01Next.calls g s0_0 s0_1 s0_2 40 t100 t105 t106 w0 _ ?side1 ?side2 A3.out).mono ?_); (case side1 => exact z18); (case side2 => exact z23); rintro e w37 ⟨rfl, hi, hb, hk⟩; refine ⟨_, rfl, ?_⟩; replace BK110 := zKB BK110 hk NB353_0; replace BK111 := zKB BK111 hk NB354_0; replace HK := zA (KeepBut.trans z20 hk (.inl rfl)); replace HB := zA (hb); replace HI0 := zA (hi); (try clear hb); (try clear hb2); (try clear hk); (try clear hi)) | ((with_reducible refine gate_dst (N := 25) rfl ?_); refine Kd.R_lit (Kd.int .i64) _ 2 ?hg (N := 25) ?hd (xs := ([0, 13] : List Int)) (inner := [.int .i64 0, .int .i64 13]) (ok := fun _ => True) (okp := fun _ => True) ?hr ?hp (fun _ hk => hk) trivial (Below.refl _ _) (Nat.le_refl _) (by simp) ?_; (case hd => rfl); (case hg => rfl); (case hr => first | (go_simp; done) | (go_simp; rfl)); (case hp => exact (Reps.one (show Kd.M (Kd.int .i64) _ _ _ 0 [.int .i64 0] from rfl) (Reps.one (show Kd.M (Kd.int .i64) _ _ _ 13 [.int .i64 13] from rfl) (Reps.none _ _)))); intro v122 w38 ho39 hb hg_ hnew_; clear hg_ hnew_; (first | rw [← Ny119.out] at ho39 | (simp only [Int.reduceToNat] at ho39; rw [← Ny119.out] at ho39)); have HO123 := zA (Kd.R_lower ho39 (keep_size (w := w) (g := g) (row := none) z20)); replace BK110 := zBB BK110 hb; replace BK111 := zBB BK111 hb; replace HK := zA (KeepBut.trans z20 (KeepBut.of_below hb g none) (.inl rfl)); replace HB := zA (below_step z23 hb); replace HI0 := zA (IsS93.below z18 hb); clear hb ho39; obtain ⟨Ao40, co40, eo40⟩ := Kd.R_slice HO123.out; subst eo40) | ((with_reducible refine gate_callee (f := 76) rfl ?_); refine goesL_ (some 26) rfl rfl Try.func76 (by kernel_rfl) rfl #[.pointer (some ⟨g, 0, none⟩), .slice Ao40 y119.length co40] rfl z3 ?_; (with_reducible refine (spec_l01Pick.calls g s0_0 t105 t106 _ _ y119 t103 t120 t121 w0 _ ?side1 ?side2 ?side3 ?side4 ?side5 A34.out).mono ?_); (case side1 => exact z18); (case side2 => exact z23); (case side3 => exact (by repeat (first | exact (Kd.R_reads' HO123.out).2.2 | (with_reducible refine Kd.C_alloc ?_ _) | (with_reducible refine Kd.C_drewN ?_ _) | (with_reducible refine Kd.C_drew ?_)))); (case side4 => exact (Kd.R_reads' HO123.out).2.1); (case side5 => exact far_slice (IsS93.own_ne HI0.out HO123.out (by decide))); rintro e w41 ⟨rfl, hi, hb, hk⟩; refine ⟨_, rfl, ?_⟩; replace BK110 := zKB BK110 hk NB353_0; replace BK111 := zKB BK111 hk NB354_0; replace HO123 := zA (Kd.R_mono (Kd.R_keep (IsS93.apart (show IsS93 w0 _ g s0_0 t105 t106 from z18) (zr HO123.out) (by decide)) hk (fun _ h => h.2)) (fun _ h => h.1)); replace HK := zA (KeepBut.trans z20 hk (.inl rfl)); replace HB := zA (hb); replace HI0 := zA (hi); (try clear hb); (try clear hb2); (try clear hk); (try clear hi); have hnb42 := NB110_111.out; have hnc42 := NB111_110.out; have hnb43 := NB353_0.out; have hnc43 := NB0_353.out; obtain ⟨hcz44_0, hcz44_1, hcz44_2, hcz44_3, hfz44_0, hfz44_1, hfz44_2, hfz44_3⟩ := zC4 BK110.out; have hnb45 := NB354_0.out; have hnc45 := NB0_354.out; obtain ⟨hcz46_0, hcz46_1, hcz46_2, hcz46_3, hfz46_0, hfz46_1, hfz46_2, hfz46_3⟩ := zC4 BK111.out))
    refine bodyPost_ret (results_cell_row rfl _ _ gb111 27 #[.int .i64 a1_0, .int .i64 a1_1, .int .i64 t103, .int .i64 a1_3] (0, 0) _ rfl (by (with_reducible repeat (first | refine blk_drewN ?_ _ | refine blk_drew ?_ | refine blk_alloc ?_ _)); refine blk_put (cs := #[.int .i64 a1_0, .int .i64 a1_1, .int .i64 t103, .int .i64 0]) ?_ 3 _ rfl; (with_reducible repeat (first | refine blk_drewN ?_ _ | refine blk_drew ?_ | refine blk_alloc ?_ _)); refine blk_put (cs := #[.int .i64 a1_0, .int .i64 a1_1, .int .i64 0, .int .i64 0]) ?_ 2 _ rfl; (with_reducible repeat (first | refine blk_drewN ?_ _ | refine blk_drew ?_ | refine blk_alloc ?_ _)); refine blk_put (cs := #[.int .i64 a1_0, .int .i64 0, .int .i64 0, .int .i64 0]) ?_ 1 _ rfl; (with_reducible repeat (first | refine blk_drewN ?_ _ | refine blk_drew ?_ | refine blk_alloc ?_ _)); refine blk_put (cs := #[.int .i64 0, .int .i64 0, .int .i64 0, .int .i64 0]) ?_ 0 _ rfl; (with_reducible repeat (first | refine blk_drewN ?_ _ | refine blk_drew ?_ | refine blk_alloc ?_ _)); refine blk_far ?_ NB111_110.out _; (with_reducible repeat (first | refine blk_drewN ?_ _ | refine blk_drew ?_ | refine blk_alloc ?_ _)); exact BK111.out) Try.underlying27 rfl (by kernel_rfl)) rfl ?_
    exact ⟨z8, z18, z23, z20⟩
   ·rw [if_neg c33] at H
    have c33b0 : (t100 == 2) = false := beq_eq_false_iff_ne.mpr c33
    have c33b1 : (t100 != 2) = true := bne_iff_ne.mpr c33
    by_cases c47 : t100 = 3
    ·rw [if_pos c47] at H
     have c47b0 : (t100 == 3) = true := beq_iff_eq.mpr c47
     have c47b1 : (t100 != 3) = false := bne_eq_false_iff_eq.mpr c47
     clear c47
     obtain ⟨y124, hy124⟩ : ∃ y_ : List Int, y_ = (([0, 13] : List Int)) := ⟨_, rfl⟩
     replace H : ((spec_l01Pick.f s0_0 t105 t106 y124).bind fun bt104 => (some (a1_0, a1_1, a1_2, bt104.1, bt104.2.1, bt104.2.2))) = some (r1, r2, r3, r4, r5, r6) := by first | (rw [hy124]; with_reducible exact H) | (have H2_ := (Option.bind_some _ _).symm.trans H; rw [hy124]; with_reducible exact H2_) | (have H2_ := (Option.bind_some _ _).symm.trans H; with_reducible exact H2_) | with_reducible exact H | (rw [hy124]; exact H) | exact H
     have Ny124 := zA hy124
     clear hy124
     replace H := zi H
     obtain ⟨⟨t104, t125, t126⟩, A480, H⟩ := H
     (try dsimp -simprocs only at H)
     have A48 := zA A480
     clear A480
     simp only [Option.some.injEq, Prod.mk.injEq] at H
     obtain ⟨rfl, rfl, rfl, rfl, rfl, rfl⟩ := H
     go_enter Try.func77, Try.ntmps77
     go_wp2_with (first | ((with_reducible refine gate_dst (N := 3) rfl ?_); refine zbox (N := 3) (cs := #[.int .i64 a1_0, .int .i64 a1_1, .int .i64 a1_2, .int .i64 a1_3]) (t := 27) ?_; intro gb110 hg w49 hbox hb; replace HB := zA (below_step z33 hb); have BK110 := zA (hbox); have GW110 := zA ((z153 : w.heap.size ≤ gb110)); have GE110 := zA ((Nat.le_trans HW0.out (z153 : w.heap.size ≤ gb110) : w0.heap.size ≤ gb110)); replace HK := zA (KeepBut.trans z24 (KeepBut.of_below hb g none) (.inl rfl)); have NB0_353 := zA ((z157 : g ≠ gb110)); have NB353_0 := zA ((z158 : gb110 ≠ g)); replace HI0 := zA (IsS93.below z22 hb); clear hb hbox hg) | ((with_reducible refine gate_dst (N := 4) rfl ?_); refine zbox (N := 4) (cs := #[.int .i64 0, .int .i64 0, .int .i64 0, .int .i64 0]) (t := 27) ?_; intro gb111 hg w50 hbox hb; replace HB := zA (below_step z59 hb); have BK111 := zA (hbox); have GW111 := zA ((z156 : w.heap.size ≤ gb111)); have GE111 := zA ((Nat.le_trans HW0.out (z156 : w.heap.size ≤ gb111) : w0.heap.size ≤ gb111)); replace HK := zA (KeepBut.trans z31 (KeepBut.of_below hb g none) (.inl rfl)); have NB110_111 := zA ((z154 : gb110 ≠ gb111)); have NB111_110 := zA ((z155 : gb111 ≠ gb110)); replace BK110 := zBB BK110 hb; have NB0_354 := zA ((z160 : g ≠ gb111)); have NB354_0 := zA ((z161 : gb111 ≠ g)); replace HI0 := zA (IsS93.below z26 hb); clear hb hbox hg) | ((with_reducible refine gate_callee (f := 75) rfl ?_); refine goesL_ (some 6) rfl rfl Try.func75 (by kernel_rfl) rfl #[.pointer (some ⟨g, 0, none⟩), .int .i64 40] rfl z3 ?_; (with_reducible refine (spec_l01Next.calls g s0_0 s0_1 s0_2 40 t100 t105 t106 w0 _ ?side1 ?side2 A3.out).mono ?_); (case side1 => exact z18); (case side2 => exact z23); rintro e w51 ⟨rfl, hi, hb, hk⟩; refine ⟨_, rfl, ?_⟩; replace BK110 := zKB BK110 hk NB353_0; replace BK111 := zKB BK111 hk NB354_0; replace HK := zA (KeepBut.trans z20 hk (.inl rfl)); replace HB := zA (hb); replace HI0 := zA (hi); (try clear hb); (try clear hb2); (try clear hk); (try clear hi)) | ((with_reducible refine gate_dst (N := 31) rfl ?_); refine Kd.R_lit (Kd.int .i64) _ 2 ?hg (N := 31) ?hd (xs := ([0, 13] : List Int)) (inner := [.int .i64 0, .int .i64 13]) (ok := fun _ => True) (okp := fun _ => True) ?hr ?hp (fun _ hk => hk) trivial (Below.refl _ _) (Nat.le_refl _) (by simp) ?_; (case hd => rfl); (case hg => rfl); (case hr => first | (go_simp; done) | (go_simp; rfl)); (case hp => exact (Reps.one (show Kd.M (Kd.int .i64) _ _ _ 0 [.int .i64 0] from rfl) (Reps.one (show Kd.M (Kd.int .i64) _ _ _ 13 [.int .i64 13] from rfl) (Reps.none _ _)))); intro v127 w52 ho53 hb hg_ hnew_; clear hg_ hnew_; (first | rw [← Ny124.out] at ho53 | (simp only [Int.reduceToNat] at ho53; rw [← Ny124.out] at ho53)); have HO128 := zA (Kd.R_lower ho53 (keep_size (w := w) (g := g) (row := none) z20)); replace BK110 := zBB BK110 hb; replace BK111 := zBB BK111 hb; replace HK := zA (KeepBut.trans z20 (KeepBut.of_below hb g none) (.inl rfl)); replace HB := zA (below_step z23 hb); replace HI0 := zA (IsS93.below z18 hb); clear hb ho53; obtain ⟨Ao54, co54, eo54⟩ := Kd.R_slice HO128.out; subst eo54) | ((with_reducible refine gate_callee (f := 76) rfl ?_); refine goesL_ (some 32) rfl rfl Try.func76 (by kernel_rfl) rfl #[.pointer (some ⟨g, 0, none⟩), .slice Ao54 y124.length co54] rfl z3 ?_; (with_reducible refine (spec_l01Pick.calls g s0_0 t105 t106 _ _ y124 t104 t125 t126 w0 _ ?side1 ?side2 ?side3 ?side4 ?side5 A48.out).mono ?_); (case side1 => exact z18); (case side2 => exact z23); (case side3 => exact (by repeat (first | exact (Kd.R_reads' HO128.out).2.2 | (with_reducible refine Kd.C_alloc ?_ _) | (with_reducible refine Kd.C_drewN ?_ _) | (with_reducible refine Kd.C_drew ?_)))); (case side4 => exact (Kd.R_reads' HO128.out).2.1); (case side5 => exact far_slice (IsS93.own_ne HI0.out HO128.out (by decide))); rintro e w55 ⟨rfl, hi, hb, hk⟩; refine ⟨_, rfl, ?_⟩; replace BK110 := zKB BK110 hk NB353_0; replace BK111 := zKB BK111 hk NB354_0; replace HO128 := zA (Kd.R_mono (Kd.R_keep (IsS93.apart (show IsS93 w0 _ g s0_0 t105 t106 from z18) (zr HO128.out) (by decide)) hk (fun _ h => h.2)) (fun _ h => h.1)); replace HK := zA (KeepBut.trans z20 hk (.inl rfl)); replace HB := zA (hb); replace HI0 := zA (hi); (try clear hb); (try clear hb2); (try clear hk); (try clear hi); have hnb56 := NB110_111.out; have hnc56 := NB111_110.out; have hnb57 := NB353_0.out; have hnc57 := NB0_353.out; obtain ⟨hcz58_0, hcz58_1, hcz58_2, hcz58_3, hfz58_0, hfz58_1, hfz58_2, hfz58_3⟩ := zC4 BK110.out; have hnb59 := NB354_0.out; have hnc59 := NB0_354.out; obtain ⟨hcz60_0, hcz60_1, hcz60_2, hcz60_3, hfz60_0, hfz60_1, hfz60_2, hfz60_3⟩ := zC4 BK111.out))
     refine bodyPost_ret (results_cell_row rfl _ _ gb111 27 #[.int .i64 a1_0, .int .i64 a1_1, .int .i64 a1_2, .int .i64 t104] (0, 0) _ rfl (by (with_reducible repeat (first | refine blk_drewN ?_ _ | refine blk_drew ?_ | refine blk_alloc ?_ _)); refine blk_put (cs := #[.int .i64 a1_0, .int .i64 a1_1, .int .i64 a1_2, .int .i64 0]) ?_ 3 _ rfl; (with_reducible repeat (first | refine blk_drewN ?_ _ | refine blk_drew ?_ | refine blk_alloc ?_ _)); refine blk_put (cs := #[.int .i64 a1_0, .int .i64 a1_1, .int .i64 0, .int .i64 0]) ?_ 2 _ rfl; (with_reducible repeat (first | refine blk_drewN ?_ _ | refine blk_drew ?_ | refine blk_alloc ?_ _)); refine blk_put (cs := #[.int .i64 a1_0, .int .i64 0, .int .i64 0, .int .i64 0]) ?_ 1 _ rfl; (with_reducible repeat (first | refine blk_drewN ?_ _ | refine blk_drew ?_ | refine blk_alloc ?_ _)); refine blk_put (cs := #[.int .i64 0, .int .i64 0, .int .i64 0, .int .i64 0]) ?_ 0 _ rfl; (with_reducible repeat (first | refine blk_drewN ?_ _ | refine blk_drew ?_ | refine blk_alloc ?_ _)); refine blk_far ?_ NB111_110.out _; (with_reducible repeat (first | refine blk_drewN ?_ _ | refine blk_drew ?_ | refine blk_alloc ?_ _)); exact BK111.out) Try.underlying27 rfl (by kernel_rfl)) rfl ?_
     exact ⟨z8, z18, z23, z20⟩
    ·rw [if_neg c47] at H
     have c47b0 : (t100 == 3) = false := beq_eq_false_iff_ne.mpr c47
     have c47b1 : (t100 != 3) = true := bne_iff_ne.mpr c47
     simp only [Option.some.injEq, Prod.mk.injEq] at H
     obtain ⟨rfl, rfl, rfl, rfl, rfl, rfl⟩ := H
     go_enter Try.func77, Try.ntmps77
     go_wp2_with (first | ((with_reducible refine gate_dst (N := 3) rfl ?_); refine zbox (N := 3) (cs := #[.int .i64 a1_0, .int .i64 a1_1, .int .i64 a1_2, .int .i64 a1_3]) (t := 27) ?_; intro gb110 hg w61 hbox hb; replace HB := zA (below_step z33 hb); have BK110 := zA (hbox); have GW110 := zA ((z153 : w.heap.size ≤ gb110)); have GE110 := zA ((Nat.le_trans HW0.out (z153 : w.heap.size ≤ gb110) : w0.heap.size ≤ gb110)); replace HK := zA (KeepBut.trans z24 (KeepBut.of_below hb g none) (.inl rfl)); have NB0_353 := zA ((z157 : g ≠ gb110)); have NB353_0 := zA ((z158 : gb110 ≠ g)); replace HI0 := zA (IsS93.below z22 hb); clear hb hbox hg) | ((with_reducible refine gate_dst (N := 4) rfl ?_); refine zbox (N := 4) (cs := #[.int .i64 0, .int .i64 0, .int .i64 0, .int .i64 0]) (t := 27) ?_; intro gb111 hg w62 hbox hb; replace HB := zA (below_step z59 hb); have BK111 := zA (hbox); have GW111 := zA ((z156 : w.heap.size ≤ gb111)); have GE111 := zA ((Nat.le_trans HW0.out (z156 : w.heap.size ≤ gb111) : w0.heap.size ≤ gb111)); replace HK := zA (KeepBut.trans z31 (KeepBut.of_below hb g none) (.inl rfl)); have NB110_111 := zA ((z154 : gb110 ≠ gb111)); have NB111_110 := zA ((z155 : gb111 ≠ gb110)); replace BK110 := zBB BK110 hb; have NB0_354 := zA ((z160 : g ≠ gb111)); have NB354_0 := zA ((z161 : gb111 ≠ g)); replace HI0 := zA (IsS93.below z26 hb); clear hb hbox hg) | ((with_reducible refine gate_callee (f := 75) rfl ?_); refine goesL_ (some 6) rfl rfl Try.func75 (by kernel_rfl) rfl #[.pointer (some ⟨g, 0, none⟩), .int .i64 40] rfl z3 ?_; (with_reducible refine (spec_l01Next.calls g s0_0 s0_1 s0_2 40 t100 t105 t106 w0 _ ?side1 ?side2 A3.out).mono ?_); (case side1 => exact z18); (case side2 => exact z23); rintro e w63 ⟨rfl, hi, hb, hk⟩; refine ⟨_, rfl, ?_⟩; replace BK110 := zKB BK110 hk NB353_0; replace BK111 := zKB BK111 hk NB354_0; replace HK := zA (KeepBut.trans z20 hk (.inl rfl)); replace HB := zA (hb); replace HI0 := zA (hi); (try clear hb); (try clear hb2); (try clear hk); (try clear hi); have hnb64 := NB110_111.out; have hnc64 := NB111_110.out; have hnb65 := NB353_0.out; have hnc65 := NB0_353.out; obtain ⟨hcz66_0, hcz66_1, hcz66_2, hcz66_3, hfz66_0, hfz66_1, hfz66_2, hfz66_3⟩ := zC4 BK110.out; have hnb67 := NB354_0.out; have hnc67 := NB0_354.out; obtain ⟨hcz68_0, hcz68_1, hcz68_2, hcz68_3, hfz68_0, hfz68_1, hfz68_2, hfz68_3⟩ := zC4 BK111.out))
     refine bodyPost_ret (results_cell_row rfl _ _ gb111 27 #[.int .i64 a1_0, .int .i64 a1_1, .int .i64 a1_2, .int .i64 a1_3] (0, 0) _ rfl (by (with_reducible repeat (first | refine blk_drewN ?_ _ | refine blk_drew ?_ | refine blk_alloc ?_ _)); refine blk_put (cs := #[.int .i64 a1_0, .int .i64 a1_1, .int .i64 a1_2, .int .i64 0]) ?_ 3 _ rfl; (with_reducible repeat (first | refine blk_drewN ?_ _ | refine blk_drew ?_ | refine blk_alloc ?_ _)); refine blk_put (cs := #[.int .i64 a1_0, .int .i64 a1_1, .int .i64 0, .int .i64 0]) ?_ 2 _ rfl; (with_reducible repeat (first | refine blk_drewN ?_ _ | refine blk_drew ?_ | refine blk_alloc ?_ _)); refine blk_put (cs := #[.int .i64 a1_0, .int .i64 0, .int .i64 0, .int .i64 0]) ?_ 1 _ rfl; (with_reducible repeat (first | refine blk_drewN ?_ _ | refine blk_drew ?_ | refine blk_alloc ?_ _)); refine blk_put (cs := #[.int .i64 0, .int .i64 0, .int .i64 0, .int .i64 0]) ?_ 0 _ rfl; (with_reducible repeat (first | refine blk_drewN ?_ _ | refine blk_drew ?_ | refine blk_alloc ?_ _)); exact BK111.out) Try.underlying27 rfl (by kernel_rfl)) rfl ?_
     exact ⟨z8, z18, z23, z20⟩

end Go.Proofs.Ytchlbkcladfloaa.PFnGuarantees
