-- WALKS, by a program and by hand
import Derived.Test.YthjkdnneagnejaaPFnExactLeanRowsx0
import Derived.Test.YthjkdnneagnejaaPFnExactLeanRowsx7
namespace Go.Proofs.Ythjkdnneagnejaa.PFnExactLeanRows
open Go.RowKit Go.Proofs.Ythjkdnneagnejaa.DG Go.Proofs.YthjkdnneagnejaaW.PrintWords Go.Proofs.YthjkdnneagnejaaW.PrintLast Go.Proofs.YthjkdnneagnejaaW.PrintMore
attribute [local go_sem] max2_int min2_int max_two min_two max_three min_three max_four min_four   -- for this text's walks alone
set_option linter.unusedVariables false
set_option linter.unusedSimpArgs false

/-! ### impl_LeanRows: function 55 -/
def impl_LeanRows.f (k : Nat) (l0 : List Int) (l1 : List Int) (a2 : Int) : Option (List Int × Int) := (impl_rowsCode.f k l0 l1 a2).bind fun c => if c = 0 then (if okS l0 = true then (if okRows l1 = true then (if 0 ≤ a2 then (if a2 ≤ 3 then some (leanT l0 l1 a2.toNat, 0) else none) else none) else none) else none) else some ([], c)
theorem impl_LeanRows.mono : ∀ a0 a1 a2 k, LeO (impl_LeanRows.f k a0 a1 a2) (impl_LeanRows.f (k + 1) a0 a1 a2) := by
  intro a0 a1 a2 k
  unfold impl_LeanRows.f
  exact LeO.bind (impl_rowsCode.mono _ _ _ k) (fun _ => LeO.refl _)
set_option maxHeartbeats 1000000 in
set_option maxRecDepth 100000 in
theorem ln_code (k : Nat) (A0 : Option Addr) (c0 : Nat) (l0 : List Int) (A1 : Option Addr) (c1 : Nat) (l1 : List Int) (a : Int) (w : World) (hr0 : Kd.C (Kd.int .i64) w A0 l0.length l0) (hc0 : l0.length ≤ c0) (hr1 : Kd.C (Kd.int .i64) w A1 l1.length l1) (hc1 : l1.length ≤ c1) (c : Int) (hw : impl_rowsCode.f k l0 l1 a = some c) (hn : c ≠ 0) :
    Calls Try.prog 55 #[.agg #[.slice A0 l0.length c0], .slice A1 l1.length c1, .int .i64 a] w fun e w' => ∃ v0_ : Value, e = .returned (.tuple #[v0_, .int .i64 c]) ∧ Kd.R (Kd.int .i64) 2 w' w.heap.size (fun _ => True) v0_ [] ∧ Below w.heap.size w w' := by
  have HR0 := Aside0.mk hr0
  have HC0 := Aside0.mk hc0
  have HR1 := Aside0.mk hr1
  have HC1 := Aside0.mk hc1
  have HWE := Aside0.mk hw
  clear hr0 hc0 hr1 hc1 hw
  go_enter Try.func55, Try.ntmps55
  go_wp2_with fail
  have hb1 : Below w.heap.size w (w.alloc (.cells #[.slice A0 l0.length c0] 28)) := below_alloc (Below.refl _ _) _
  generalize w.alloc (.cells #[.slice A0 l0.length c0] 28) = W1 at hb1 ⊢
  refine (impl_rowsCode.calls k A0 c0 l0 A1 c1 l1 a c W1 (Kd.C_below HR0.out hb1) HC0.out (Kd.C_below HR1.out hb1) HC1.out HWE.out).mono ?_
  rintro e w2 ⟨rfl, hb2⟩
  have HB2 := Aside0.mk (below_step hb1 hb2)
  clear hb1 hb2
  have hne : (c != 0) = true := bne_iff_ne.2 hn
  go_wp2
  go_ret2
  exact ⟨_, rfl, Kd.R_nil _ _ _ _ _, HB2.out⟩
set_option maxHeartbeats 4000000 in
set_option maxRecDepth 100000 in
theorem ln_good (k : Nat) (A0 : Option Addr) (c0 : Nat) (l0 : List Int) (A1 : Option Addr) (c1 : Nat) (l1 : List Int) (tt : Nat) (w : World) (hr0 : Kd.C (Kd.int .i64) w A0 l0.length l0) (hc0 : l0.length ≤ c0) (hr1 : Kd.C (Kd.int .i64) w A1 l1.length l1) (hc1 : l1.length ≤ c1) (hw : impl_rowsCode.f k l0 l1 (tt : Int) = some 0) (h8 : l0.length ≤ 8) (hq : ∀ q ∈ l0, 2 ≤ q ∧ q ≤ 4) (hrl : l1.length ≤ 1000000) (hrr : ∀ r ∈ l1, 0 ≤ r ∧ r ≤ 1073741824) (ht : tt ≤ 3) :
    Calls Try.prog 55 #[.agg #[.slice A0 l0.length c0], .slice A1 l1.length c1, .int .i64 (tt : Int)] w fun e w' => ∃ v0_ : Value, e = .returned (.tuple #[v0_, .int .i64 0]) ∧ Kd.R (Kd.int .i64) 2 w' w.heap.size (fun _ => True) v0_ (leanT l0 l1 tt) ∧ Below w.heap.size w w' := by
  have HR0 := Aside0.mk hr0
  have HC0 := Aside0.mk hc0
  have HR1 := Aside0.mk hr1
  have HC1 := Aside0.mk hc1
  have HWE := Aside0.mk hw
  have HQ := Aside0.mk hq
  have HRR := Aside0.mk hrr
  clear hr0 hc0 hr1 hc1 hw hq hrr
  go_enter Try.func55, Try.ntmps55
  go_wp2_with fail
  have hb1 : Below w.heap.size w (w.alloc (.cells #[.slice A0 l0.length c0] 28)) := below_alloc (Below.refl _ _) _
  have hk1 := blk_new w (.cells #[.slice A0 l0.length c0] 28)
  generalize w.alloc (.cells #[.slice A0 l0.length c0] 28) = W1 at hb1 hk1 ⊢
  refine (impl_rowsCode.calls k A0 c0 l0 A1 c1 l1 (tt : Int) 0 W1 (Kd.C_below HR0.out hb1) HC0.out (Kd.C_below HR1.out hb1) HC1.out HWE.out).mono ?_
  rintro e w2 ⟨rfl, hb2⟩
  have HB2 := Aside0.mk (below_step hb1 hb2)
  have hbx : w2.cell? ⟨w.heap.size, 0, none⟩ = some (.slice A0 l0.length c0) := (blk_cell (blk_below hk1 hb2) 0).trans rfl
  clear hb1 hk1 hb2
  go_wp2_with fail
  refine (newChoices_walk A0 c0 l0 tt w2 (Kd.C_below HR0.out HB2.out) HC0.out h8 HQ.out ht).mono ?_
  rintro e w3 ⟨g, AP, cP, AF, cF, rfl, hch, hb3⟩
  have HB3 := Aside0.mk (below_step HB2.out hb3)
  have HCH := Aside0.mk hch
  have HB4 := Aside0.mk (below_alloc (Below.refl w3.heap.size w3) (.cells #[] 2))
  have HO4 := Aside0.mk (show Kd.R (Kd.int .i64) 2 (w3.alloc (.cells #[] 2)) w3.heap.size (fun _ => True) (.slice (some ⟨w3.heap.size, 0, none⟩) 0 0) [] from ⟨fun _ _ => trivial, OwnRow.lit w3 w3.heap.size (Reps.none _ _) (Nat.le_refl _) (by simp)⟩)
  have HW4 := Aside0.mk (often_plc g A0 c0 l0 tt AP cP AF cF A1 c1 l1 (w3.alloc (.cells #[] 2)) (hch.below HB4.out) h8 HQ.out ht (Kd.C_below HR1.out (below_step HB3.out HB4.out)) hrl HRR.out)
  have hz4 : (w3.alloc (.cells #[] 2)).heap.size = w3.heap.size + 1 := World.size_alloc _ _
  clear hch hb3 hbx
  go_wp2_with (go_at_call 114; refine HW4.out.mono ?_; rintro e w5 ⟨v5, rfl, hR5, hb5⟩; obtain ⟨A5, c5, rfl⟩ := Kd.R_slice hR5; have HR5 := Aside0.mk hR5; have HB5 := Aside0.mk hb5; clear hR5 hb5)
  have HW4z := Aside0.mk hz4
  have HB6 := Aside0.mk (below_alloc (below_step HB4.out HB5.out) (.cells #[.slice A5 (oftT l0 tt l1).length c5] 22))
  have HK6 := Aside0.mk (blk_new w5 (.cells #[.slice A5 (oftT l0 tt l1).length c5] 22))
  have hbs5 := HB5.out.size
  rw [hz4] at hbs5
  have HBB := Aside0.mk (show w3.heap.size ≤ w5.heap.size by omega)
  have HOF6 := Aside0.mk (show Kd.R (Kd.int .i64) 2 (w5.alloc (.cells #[.slice A5 (oftT l0 tt l1).length c5] 22)) w3.heap.size (fun k => k ≠ w5.heap.size) (.slice A5 (oftT l0 tt l1).length c5) (oftT l0 tt l1) from Kd.R_mono (Kd.R_lower (Kd.R_alloc (Kd.R_bound HR5.out) _) (by rw [hz4]; omega)) (fun k hk => by have := hk.2.2.1; omega))
  have HO6 := Aside0.mk (show Kd.R (Kd.int .i64) 2 (w5.alloc (.cells #[.slice A5 (oftT l0 tt l1).length c5] 22)) w3.heap.size (fun k => some k ≠ (Value.slice A5 (oftT l0 tt l1).length c5).ownBlock ∧ k ≠ w5.heap.size) (.slice (some ⟨w3.heap.size, 0, none⟩) 0 0) [] from Kd.R_mono (Kd.R_alloc (Kd.R_below (Kd.R_bound HO4.out) HB5.out) _) (fun k hk => ⟨fun he => by
    have h1 := Kd.R_base HR5.out k he.symm
    have h2 := hk.2.2.1
    omega, by have := hk.2.2.1; omega⟩))
  have HLN := Aside0.mk (show ([] : List Int) ++ leanV (ofT l0 tt) (oftT l0 tt l1) (l1.drop 0) = leanT l0 l1 tt from rfl)
  have HXA := Aside0.mk (show ∀ x ∈ oftT l0 tt l1, -(100 * ((0 : Nat) : Int)) ≤ x ∧ x ≤ 100000000 from fun x hx => by have := oftT_all l0 h8 tt ht l1 x hx; omega)
  obtain ⟨hm0, hm1⟩ := plc_many l0 h8 HQ.out tt ht
  have HML := Aside0.mk (oftT_len l0 tt l1)
  clear HR5 HB5 HO4 HW4 HW4z hz4 hbs5
  obtain ⟨M, hM⟩ : ∃ M, M = (oftT l0 tt l1).length := ⟨_, rfl⟩
  have HMM := Aside0.mk (show (oftT l0 tt l1).length = M from hM.symm)
  rw [← hM] at HB6 HK6 HOF6 HO6 HML ⊢
  clear hM
  generalize w5.heap.size = b at HK6 HBB HOF6 HO6 ⊢
  generalize w5.alloc (.cells #[.slice A5 M c5] 22) = w6 at HB6 HK6 HOF6 HO6 ⊢
  go_loopg [10, 33] l1.length (fun gg s10 s33 wr => ∃ (j : Nat) (v : Value) (out o : List Int), s10 = v ∧ s33 = .int .i64 j ∧ j ≤ l1.length ∧ l1.length - j ≤ gg ∧ out.length ≤ j ∧ o.length = M ∧ Aside0 (out ++ leanV (ofT l0 tt) o (l1.drop j) = leanT l0 l1 tt) ∧ Aside0 (∀ x ∈ o, -(100 * (j : Int)) ≤ x ∧ x ≤ 100000000) ∧ Aside0 (Kd.R (Kd.int .i64) 2 wr w3.heap.size (fun k => some k ≠ (Value.slice A5 M c5).ownBlock ∧ k ≠ b) v out) ∧ Aside0 (Kd.R (Kd.int .i64) 2 wr w3.heap.size (fun k => k ≠ b) (.slice A5 M c5) o) ∧ Aside0 (wr.heap[b]? = some (.cells #[.slice A5 M c5] 22 (0, 0))) ∧ Aside0 (Below w3.heap.size w3 wr))
  case atStart => exact ⟨0, _, [], oftT l0 tt l1, rfl, rfl, by omega, by omega, by simp, HMM.out, HLN, HXA, HO6, HOF6, HK6, HB6⟩
  case round =>
    obtain ⟨j, v, out, o, rfl, rfl, hj, hgg, hol, hoM, HV, HX, HO, HOF, HK, HB⟩ := hrel
    by_cases hlt : j < l1.length
    · have hlt1 : (j : Int) < (l1.length : Int) := by omega
      have hj0 : (0 : Int) ≤ (j : Int) := by omega
      obtain ⟨adR, eR, hxR⟩ := Kd.at_int (Kd.C_below HR1.out HB3.out) (j : Int) hj0 hlt1
      cases eR
      rw [Int.toNat_natCast] at hxR
      replace hxR := cell_blk_ne hxR HB.out
      have HNX := Aside0.mk (lean_next (ofT l0 tt) l1 j hlt o)
      have hrj := HRR.out (rd l1 (j : Int)) (by rw [rd_nat' l1 j hlt]; exact List.getElem_mem hlt)
      obtain ⟨row, hrow⟩ : ∃ row, row = rd l1 (j : Int) := ⟨_, rfl⟩
      rw [← hrow] at hxR HNX hrj
      clear hrow
      have HW := Aside0.mk (of_plc g A0 c0 l0 tt AP cP AF cF row wr (HCH.out.below HB.out) h8 HQ.out ht hrj.1 hrj.2)
      have hLl := ofT_len l0 h8 tt ht row
      have HIN := Aside0.mk (ofT_in l0 HQ.out tt row)
      obtain ⟨L, hLe⟩ : ∃ L, L = ofT l0 tt row := ⟨_, rfl⟩
      rw [← hLe] at HW hLl HIN HNX
      clear hLe hrj
      go_wp2_with fail
      refine HW.out.mono ?_
      rintro e w7 ⟨v7, rfl, hR7, hb7⟩
      obtain ⟨A7, c7, rfl⟩ := Kd.R_slice hR7
      have HSZ : ∀ k, (Value.slice A5 M c5).ownBlock = some k → k < wr.heap.size := fun k hk => (Kd.R_bound HOF.out).1 k hk |>.2.2.1
      have hbl := blk_lt HK.out
      have HL7 := Aside0.mk (show Kd.R (Kd.int .i64) 2 w7 wr.heap.size (fun k => some k ≠ (Value.slice A5 M c5).ownBlock) (.slice A7 L.length c7) L from Kd.R_mono (Kd.R_bound hR7) (fun k hk he => by have h1 := HSZ k he.symm; have h2 := hk.2.1; omega))
      have HO7 := Aside0.mk (Kd.R_below HO.out hb7)
      have HOF7 := Aside0.mk (Kd.R_below HOF.out hb7)
      have HK7 := Aside0.mk (blk_below HK.out hb7)
      have HB7 := Aside0.mk (below_step HB.out hb7)
      have HCF := Aside0.mk (containsFuncOn (fun n => rd o n == 1) 120 #[.pointer (some ⟨b, 0, none⟩)] egLean A7 c7 L w7 (Kd.R_reads' HL7.out).2.2 (by unfold maxLen; omega) (fun wx x hx hbx => lean_asks x b A5 M c5 o wx (blk_below HK7.out hbx) hoM (Kd.C_below (Kd.R_reads' HOF7.out).2.2 hbx) (HIN.out x hx).1 (by have := (HIN.out x hx).2; have := HML.out; omega)))
      clear hR7 hb7 hxR HW
      by_cases hany : (L.any fun n => rd o n == 1) = true
      · rw [if_pos hany] at HNX
        rw [hany] at HCF
        clear hany
        go_wp2_with fail
        refine HCF.out.mono ?_
        rintro e w8 ⟨rfl, hb8⟩
        have HO8 := Aside0.mk (Kd.R_below HO7.out hb8)
        have HOF8 := Aside0.mk (Kd.R_below HOF7.out hb8)
        have HK8 := Aside0.mk (blk_below HK7.out hb8)
        have HB8 := Aside0.mk (below_step HB7.out hb8)
        have HS8 : ∀ k, (Value.slice A5 M c5).ownBlock = some k → k < w8.heap.size := fun k hk => (Kd.R_bound HOF8.out).1 k hk |>.2.2.1
        have hbl8 := blk_lt HK8.out
        clear hb8
        go_wp2_with (at_builtin; refine Kd.R_append (Kd.int .i64) (w0 := w3) w3.heap.size rfl (.tmp 43) (.tmp 45) 22 2 (.int .i64 0) 8 rfl Try.underlying22 of_info rfl (by decide) (by omega) u10 out row [.int .i64 row] (fun k => some k ≠ (Value.slice A5 M c5).ownBlock ∧ k ≠ b) (fun _ => False) rfl rfl rfl (fun _ h => h.elim) ?aF HO8.out HB8.out ?aS ?aL ?_; (case aF => exact fun k hk => ⟨fun he => by have := HS8 k he.symm; omega, by omega⟩); (case aS => exact HB8.out.size); (case aL => omega); intro v9 w9 ho hb hg hat)
        have HOF9 := Aside0.mk (show Kd.R (Kd.int .i64) 2 w9 w3.heap.size (fun k => k ≠ b) (.slice A5 M c5) o from Kd.R_mono (Kd.R_grown (R_own HOF8.out) hg (fun k hk he => (HO8.out.1 k he.symm).1 hk.symm)) (fun k hk => HOF8.out.1 k hk))
        have HK9 := Aside0.mk (blk_grown HK8.out hg (fun he => (HO8.out.1 b he.symm).2 rfl))
        have HO9 := Aside0.mk ho
        have HB9 := Aside0.mk hb
        clear ho hb hg hat
        go_roundg (l1.length - (j + 1))
        case measure => omega
        case rel =>
          refine ⟨j + 1, v9, out ++ [row], o, by first | rfl | simp, by first | go_num | simp, by omega, by omega, by simp; omega, hoM, ⟨?_⟩, ⟨fun x hx => by have := HX.out x hx; omega⟩, HO9, HOF9, HK9, HB9⟩
          rw [← HV.out, HNX.out, List.append_assoc]; rfl
      · rw [if_neg hany] at HNX
        have hanf : (L.any fun n => rd o n == 1) = false := by simpa using hany
        rw [hanf] at HCF
        clear hany hanf
        go_wp2_with fail
        refine HCF.out.mono ?_
        rintro e w8 ⟨rfl, hb8⟩
        have HO8 := Aside0.mk (Kd.R_below HO7.out hb8)
        have HOF8 := Aside0.mk (Kd.R_below HOF7.out hb8)
        have HL8 := Aside0.mk (Kd.R_below HL7.out hb8)
        have HK8 := Aside0.mk (blk_below HK7.out hb8)
        have HB8 := Aside0.mk (below_step HB7.out hb8)
        have HU8 := Aside0.mk (show (L.drop 0).foldl unt o = L.foldl unt o from rfl)
        have HX8 := Aside0.mk (show ∀ x ∈ o, -(100 * (j : Int) + ((0 : Nat) : Int)) ≤ x ∧ x ≤ 100000000 from fun x hx => by have := HX.out x hx; omega)
        clear hb8
        go_wp2
        go_loopg [49] L.length (fun gi s49 wi => ∃ (i : Nat) (o' : List Int), s49 = .int .i64 i ∧ i ≤ L.length ∧ L.length - i ≤ gi ∧ o'.length = M ∧ Aside0 ((L.drop i).foldl unt o' = L.foldl unt o) ∧ Aside0 (∀ x ∈ o', -(100 * (j : Int) + (i : Int)) ≤ x ∧ x ≤ 100000000) ∧ Aside0 (Kd.R (Kd.int .i64) 2 wi w3.heap.size (fun k => some k ≠ (Value.slice A5 M c5).ownBlock ∧ k ≠ b) u10 out) ∧ Aside0 (Kd.R (Kd.int .i64) 2 wi w3.heap.size (fun k => k ≠ b) (.slice A5 M c5) o') ∧ Aside0 (Kd.R (Kd.int .i64) 2 wi wr.heap.size (fun k => some k ≠ (Value.slice A5 M c5).ownBlock) (.slice A7 L.length c7) L) ∧ Aside0 (wi.heap[b]? = some (.cells #[.slice A5 M c5] 22 (0, 0))) ∧ Aside0 (Below w3.heap.size w3 wi))
        case atStart => exact ⟨0, o, rfl, by omega, by omega, hoM, HU8, HX8, HO8, HOF8, HL8, HK8, HB8⟩
        case round =>
          obtain ⟨i, o', rfl, hi, hgi, hoM', HUi, HXi, HOi, HOFi, HLi, HKi, HBi⟩ := hrel
          by_cases hil : i < L.length
          · have hil1 : (i : Int) < (L.length : Int) := by omega
            have hi0 : (0 : Int) ≤ (i : Int) := by omega
            obtain ⟨ad2, e2, hx2⟩ := Kd.at_int (Kd.R_reads' HLi.out).2.2 (i : Int) hi0 hil1
            cases e2
            rw [Int.toNat_natCast] at hx2
            have hn := HIN.out (rd L (i : Int)) (by rw [rd_nat' L i hil]; exact List.getElem_mem hil)
            have HUN := Aside0.mk ((untNext L i hil o').symm.trans HUi.out)
            obtain ⟨n, hne⟩ : ∃ n, n = rd L (i : Int) := ⟨_, rfl⟩
            rw [← hne] at hx2 hn HUN
            clear hne
            obtain ⟨hn0, hn1⟩ := hn
            have hn2 : n < (M : Int) := by have := HML.out; omega
            have hbx : wr.cell? ⟨b, 0, none⟩ = some (.slice A5 M c5) := (blk_cell HKi.out 0).trans rfl
            obtain ⟨go9, co9, eo9, gb9, gl9, cl9, HG9⟩ := Kd.R_form HOFi.out (by omega)
            injection eo9 with ea_ en_ ec_
            subst ea_
            clear en_ ec_
            have GB9 := Aside0.mk gb9
            have HNB := Aside0.mk (show go9 ≠ b from HOFi.out.1 go9 rfl)
            clear gb9 gl9 HG9
            obtain ⟨hx9, hf9⟩ := Kd.R_celln 0 HOFi.out n hn0 hn2
            change _ = some (Value.int .i64 (rd o' n)) at hx9
            have HP := Aside0.mk (Kd.R_putg HOFi.out n (rd o' n - 1)).1
            have hxv : -1000000000 ≤ rd o' n ∧ rd o' n ≤ 1000000000 := by
              have h1 := HXi.out (rd o' n) (by
                unfold rd
                rw [List.getD_eq_getElem?_getD, List.getElem?_eq_getElem (show n.toNat < o'.length by omega)]
                exact List.getElem_mem _)
              omega
            have HXN := Aside0.mk (unt_all o' n (-(100 * (j : Int) + (i : Int))) 100000000 (by omega) (by omega) HXi.out)
            have HUL := Aside0.mk ((unt_len o' n).trans hoM')
            rw [show unt o' n = o'.set n.toNat (rd o' n - 1) from rfl] at HUN HXN HUL
            obtain ⟨x, hxe⟩ : ∃ x, x = rd o' n := ⟨_, rfl⟩
            rw [← hxe] at hx9 HP hxv HUN HXN HUL
            clear hxe
            have hxw : IntKind.i64.wrap (x - 1) = x - 1 := by rw [IntKind.wrap_i64]; omega
            go_wp2
            go_roundg (L.length - (i + 1))
            case measure => omega
            case rel =>
              refine ⟨i + 1, o'.set n.toNat (x - 1), by go_num, by omega, by omega, HUL.out, HUN, ⟨fun y hy => by have := HXN.out y hy; omega⟩, ⟨Kd.R_far (p := ⟨go9, n.toNat, none⟩) HOi.out (fun k hk he => hk.1 (by rw [he]; rfl)) _⟩, HP, ⟨Kd.R_far (p := ⟨go9, n.toNat, none⟩) HLi.out (fun k hk he => hk (by rw [he]; rfl)) _⟩, ⟨blk_far (p := ⟨go9, n.toNat, none⟩) HKi.out (Ne.symm HNB.out) _⟩, ⟨below_set HBi.out GB9.out⟩⟩
          · obtain rfl : i = L.length := by omega
            have hil1 : ¬ (L.length : Int) < (L.length : Int) := by omega
            have HUE := Aside0.mk (show o' = L.foldl unt o by
              rw [← HUi.out, List.drop_of_length_le (Nat.le_refl _)]; rfl)
            go_wp2
            go_roundg (l1.length - (j + 1))
            case measure => omega
            case rel =>
              refine ⟨j + 1, u10, out, o', by first | rfl | simp, by first | go_num | simp, by omega, by omega, by omega, hoM', ⟨?_⟩, ⟨fun x hx => by have := HXi.out x hx; omega⟩, HOi, HOFi, HKi, HBi⟩
              rw [HUE.out, ← HV.out, HNX.out]
    · obtain rfl : j = l1.length := by omega
      have hlt1 : ¬ (l1.length : Int) < (l1.length : Int) := by omega
      have HVE := Aside0.mk (show out = leanT l0 l1 tt by
        rw [← HV.out, List.drop_of_length_le (Nat.le_refl _)]; simp [leanV])
      go_wp2
      go_ret2
      exact ⟨_, rfl, by rw [← HVE.out]; exact Kd.R_mono (Kd.R_lower HO.out HB3.out.size) (fun _ _ => trivial), below_step HB3.out HB.out⟩
theorem impl_LeanRows.calls (k : Nat) (A0_0 : Option Addr) (c0_0 : Nat) (l0_0 : List Int) (A1 : Option Addr) (c1 : Nat) (l1 : List Int) (a2 : Int) (r1 : List Int) (r2 : Int) (w : World) (hr0_0 : Kd.C (Kd.int .i64) w A0_0 l0_0.length l0_0) (hc0_0 : l0_0.length ≤ c0_0) (hr1 : Kd.C (Kd.int .i64) w A1 l1.length l1) (hc1 : l1.length ≤ c1) (h : impl_LeanRows.f k l0_0 l1 a2 = some (r1, r2)) :
    Calls Try.prog 55 #[.agg #[.slice A0_0 l0_0.length c0_0], .slice A1 l1.length c1, .int .i64 a2] w fun e w' => ∃ v0_ : Value, e = .returned (.tuple #[v0_, .int .i64 r2]) ∧ Kd.R (Kd.int .i64) 2 w' w.heap.size (fun _ => True) v0_ r1 ∧ Below w.heap.size w w' := by
  unfold impl_LeanRows.f at h
  rw [Option.bind_eq_some_iff] at h
  obtain ⟨c, hc, h⟩ := h
  by_cases h0 : c = 0
  · rw [if_pos h0] at h
    subst h0
    by_cases h1 : okS l0_0 = true
    · rw [if_pos h1] at h
      by_cases h2 : okRows l1 = true
      · rw [if_pos h2] at h
        by_cases h3 : 0 ≤ a2
        · rw [if_pos h3] at h
          by_cases h4 : a2 ≤ 3
          · rw [if_pos h4] at h
            obtain ⟨h8, hq⟩ := (okS_iff l0_0).1 h1
            obtain ⟨hrl, hrr⟩ := (okRows_iff l1).1 h2
            obtain ⟨tt, rfl⟩ : ∃ tt : Nat, a2 = tt := ⟨a2.toNat, by omega⟩
            injection h with h
            injection h with e1 e2
            subst e1 e2
            exact ln_good k A0_0 c0_0 l0_0 A1 c1 l1 tt w hr0_0 hc0_0 hr1 hc1 hc h8 hq hrl hrr (by omega)
          · rw [if_neg h4] at h; cases h
        · rw [if_neg h3] at h; cases h
      · rw [if_neg h2] at h; cases h
    · rw [if_neg h1] at h; cases h
  · rw [if_neg h0] at h
    injection h with h
    injection h with e1 e2
    subst e1 e2
    exact ln_code k A0_0 c0_0 l0_0 A1 c1 l1 a2 w hr0_0 hc0_0 hr1 hc1 c hc h0

end Go.Proofs.Ythjkdnneagnejaa.PFnExactLeanRows
