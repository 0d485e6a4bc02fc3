/- Walks over the choices of a space: often. Spaces of at most 8 places of sizes 2 to 4, rows of at most 1073741824. -/
import Derived.Test.YtbfhhjekonafdaaPrChC
namespace Go.Proofs.Ytbfhhjekonafdaa.DG
open Go Go.RowKit Go.Proofs.YtbfhhjekonafdaaW.PrintWords Go.Proofs.YtbfhhjekonafdaaW.PrintLast Go.Proofs.YtbfhhjekonafdaaW.PrintMore
set_option linter.unusedVariables false
set_option linter.unusedSimpArgs false
/-- The numbers of a row's choices. -/
def ofR (s F : List Int) (P : List (List Int)) (row : Int) : List Int := ofZ s (digL s row) F P
theorem tick_all (o : List Int) (n B : Int) (hB : 0 ≤ B) (h : ∀ x ∈ o, 0 ≤ x ∧ x ≤ B) : ∀ x ∈ tick o n, 0 ≤ x ∧ x ≤ B + 1 := by
  intro x hx
  have hr : 0 ≤ rd o n ∧ rd o n ≤ B := by
    unfold rd
    by_cases hl : n.toNat < o.length
    · rw [List.getD_eq_getElem?_getD, List.getElem?_eq_getElem hl]
      exact h _ (List.getElem_mem hl)
    · rw [List.getD_eq_getElem?_getD, List.getElem?_eq_none (by omega)]
      exact ⟨Int.le_refl _, hB⟩
  rcases List.mem_or_eq_of_mem_set hx with h1 | rfl
  · have := h x h1; omega
  · omega
theorem tick_next (L o : List Int) (i : Nat) (hi : i < L.length) : (L.take (i + 1)).foldl tick o = tick ((L.take i).foldl tick o) (rd L (i : Int)) := by
  rw [List.take_succ_eq_append_getElem hi, List.foldl_append, rd_nat' L i hi]; rfl
theorem oftZ_next (m : Nat) (rows : List Int) (f : Int → List Int) (j : Nat) (hj : j < rows.length) : oftZ m ((rows.take (j + 1)).map f) = (f (rd rows (j : Int))).foldl tick (oftZ m ((rows.take j).map f)) := by
  unfold oftZ
  rw [List.take_succ_eq_append_getElem hj, List.map_append, List.foldl_append, rd_nat' rows j hj]; rfl
theorem oftZ_len (m : Nat) : ∀ (ofs : List (List Int)), (oftZ m ofs).length = m := by
  have key : ∀ (ofs : List (List Int)) (o : List Int), (ofs.foldl (fun o l => l.foldl tick o) o).length = o.length := by
    intro ofs
    induction ofs with
    | nil => intro o; rfl
    | cons l ofs ih => intro o; rw [List.foldl_cons, ih, ticks_len]
  intro ofs
  unfold oftZ
  rw [key]; simp
theorem ofZ_len (s d F : List Int) (P : List (List Int)) (hl : F.length = P.length) : (ofZ s d F P).length = P.length := by simp [ofZ, hl]
set_option maxHeartbeats 2000000 in
set_option maxRecDepth 100000 in
theorem often_walk (g : Nat) (A : Option Addr) (c : Nat) (s : List Int) (AP : Option Addr) (cP : Nat) (P : List (List Int)) (AF : Option Addr) (cF : Nat) (F : List Int) (m : Int) (AR : Option Addr) (cR : Nat) (rows : List Int) (w : World) (hch : ChAt w g A c s AP cP P AF cF F m) (hok : ChOk s P F) (hm0 : 0 ≤ m) (hm1 : m ≤ 100000)
    (hR : Kd.C (Kd.int .i64) w AR rows.length rows) (hRl : rows.length ≤ 1000000) (hr : ∀ r ∈ rows, 0 ≤ r ∧ r ≤ 1073741824) (hof : ∀ r ∈ rows, ∀ n ∈ ofR s F P r, 0 ≤ n ∧ n < m) :
    Calls Try.prog 52 #[.pointer (some ⟨g, 0, none⟩), .slice AR rows.length cR] w fun e w' => ∃ v0_ : Value, e = .returned v0_ ∧ Kd.R (Kd.int .i64) 2 w' w.heap.size (fun _ => True) v0_ (oftZ m.toNat (rows.map (ofR s F P))) ∧ Below w.heap.size w w' := by
  have HCH := Aside0.mk hch
  have HOK := Aside0.mk hok
  have HR := Aside0.mk hR
  have HROW := Aside0.mk hr
  have HOF := Aside0.mk hof
  have hl := hok.hl
  have hPl := hok.hPl
  have hc3 : w.cell? ⟨g, 3, none⟩ = some (.int .i64 m) := (blk_cell hch.cell 3).trans rfl
  clear hch hok hR hr hof
  go_enter Try.func52, Try.ntmps52
  go_wp2_with ((with_reducible refine gate_dst (N := 14) rfl ?_); refine Kd.R_make (Kd.int .i64) w.heap.size 2 rfl (N := 14) rfl 25 _ _ rfl m rfl rfl Try.underlying25 (.int .i64 0) 8 of_info rfl (by decide) (by omega) 0 (ok := fun _ => True) (okp := fun _ => True) rfl (fun _ hk => hk) trivial hm0 (by omega) (Below.refl _ _) (Nat.le_refl _) ?_; intro v1 w1 ho hb hg_ hnew_; clear hg_ hnew_; have HO1 := Aside0.mk ho; have HB1 := Aside0.mk hb; clear ho hb)
  go_loopg [17] rows.length (fun gg s17 wr => ∃ (j : Nat), s17 = .int .i64 j ∧ j ≤ rows.length ∧ rows.length - j ≤ gg ∧ Aside0 (Kd.R (Kd.int .i64) 2 wr w.heap.size (fun _ => True) v1 (oftZ m.toNat ((rows.take j).map (ofR s F P)))) ∧ Aside0 (∀ x ∈ oftZ m.toNat ((rows.take j).map (ofR s F P)), 0 ≤ x ∧ x ≤ 100 * (j : Int)) ∧ Aside0 (Below w.heap.size w wr))
  case atStart => exact ⟨0, rfl, by omega, by omega, ⟨by simpa [oftZ] using HO1.out⟩, ⟨fun x hx => by simp [oftZ] at hx; omega⟩, HB1⟩
  case round =>
    obtain ⟨j, rfl, hj, hgg, HO, HX, HB⟩ := hrel
    by_cases hlt : j < rows.length
    · have hlt1 : (j : Int) < (rows.length : Int) := by omega
      have hj0 : (0 : Int) ≤ (j : Int) := by omega
      obtain ⟨adR, eR, hxR⟩ := Kd.at_int HR.out (j : Int) hj0 hlt1
      cases eR
      rw [Int.toNat_natCast] at hxR
      replace hxR := cell_blk_ne hxR HB.out
      have HNX := Aside0.mk (oftZ_next m.toNat rows (ofR s F P) j hlt)
      have hrj := HROW.out (rd rows (j : Int)) (by rw [rd_nat' rows j hlt]; exact List.getElem_mem hlt)
      have HOFJ := Aside0.mk (HOF.out (rd rows (j : Int)) (by rw [rd_nat' rows j hlt]; exact List.getElem_mem hlt))
      obtain ⟨row, hrow⟩ : ∃ row, row = rd rows (j : Int) := ⟨_, rfl⟩
      rw [← hrow] at hxR HNX hrj HOFJ
      clear hrow
      have HLN := Aside0.mk (oftZ_len m.toNat ((rows.take j).map (ofR s F P)))
      obtain ⟨o, hoe⟩ : ∃ o, o = oftZ m.toNat ((rows.take j).map (ofR s F P)) := ⟨_, rfl⟩
      rw [← hoe] at HO HX HNX HLN
      clear hoe
      have HW := Aside0.mk (of_walk g A c s AP cP P AF cF F m row wr (HCH.out.below HB.out) HOK.out hrj.1 hrj.2)
      have HLL := Aside0.mk (ofZ_len s (digL s row) F P hl)
      obtain ⟨L, hLe⟩ : ∃ L, L = ofZ s (digL s row) F P := ⟨_, rfl⟩
      have e2 : ofR s F P row = L := hLe.symm
      rw [← hLe] at HW HLL
      rw [e2] at HNX HOFJ
      have hLl : L.length ≤ 100 := by have := HLL.out; omega
      clear hLe e2 hrj
      go_wp2_with (go_at_call 62; refine HW.out.mono ?_; rintro e w2 ⟨v2, rfl, hR2, hb2⟩; obtain ⟨A2, c2, rfl⟩ := Kd.R_slice hR2; have HR2 := Aside0.mk hR2; have HB2 := Aside0.mk hb2; clear hR2 hb2)
      have HSZ : ∀ k, v1.ownBlock = some k → k < wr.heap.size := fun k hk => (Kd.R_bound HO.out).1 k hk |>.2.2.1
      have HLI0 := Aside0.mk (show Kd.R (Kd.int .i64) 2 w2 wr.heap.size (fun k => some k ≠ v1.ownBlock) (.slice A2 L.length c2) L from Kd.R_mono (Kd.R_bound HR2.out) (fun k hk he => by have h1 := HSZ k he.symm; have h2 := hk.2.1; omega))
      have HO2 := Aside0.mk (Kd.R_below HO.out HB2.out)
      have HBW := Aside0.mk (below_step HB.out HB2.out)
      have HX2 := Aside0.mk (show ∀ x ∈ o, 0 ≤ x ∧ x ≤ 100 * (j : Int) + ((0 : Nat) : Int) from fun x hx => by have := HX.out x hx; omega)
      clear hxR
      go_loopg [25] L.length (fun gi s25 wi => ∃ (i : Nat), s25 = .int .i64 i ∧ i ≤ L.length ∧ L.length - i ≤ gi ∧ Aside0 (Kd.R (Kd.int .i64) 2 wi w.heap.size (fun _ => True) v1 ((L.take i).foldl tick o)) ∧ Aside0 (∀ x ∈ (L.take i).foldl tick o, 0 ≤ x ∧ x ≤ 100 * (j : Int) + (i : Int)) ∧ Aside0 (Kd.R (Kd.int .i64) 2 wi wr.heap.size (fun k => some k ≠ v1.ownBlock) (.slice A2 L.length c2) L) ∧ Aside0 (Below w.heap.size w wi))
      case atStart => exact ⟨0, rfl, by omega, by omega, HO2, HX2, HLI0, HBW⟩
      case round =>
        obtain ⟨i, rfl, hi, hgi, HOi, HXi, HLi, HBi⟩ := hrel
        by_cases hil : i < L.length
        · have hil1 : (i : Int) < (L.length : Int) := by omega
          have hi0 : (0 : Int) ≤ (i : Int) := by omega
          obtain ⟨ad2, e2, hx2⟩ := Kd.at_int (Kd.R_reads' HLi.out).2.2 (i : Int) hi0 hil1
          cases e2
          rw [Int.toNat_natCast] at hx2
          have hn := HOFJ.out (rd L (i : Int)) (by rw [rd_nat' L i hil]; exact List.getElem_mem hil)
          have HTN := Aside0.mk (tick_next L o i hil)
          have HTL := Aside0.mk ((ticks_len (L.take i) o).trans HLN.out)
          obtain ⟨n, hne⟩ : ∃ n, n = rd L (i : Int) := ⟨_, rfl⟩
          obtain ⟨o', hoe⟩ : ∃ o', o' = (L.take i).foldl tick o := ⟨_, rfl⟩
          rw [← hne] at hx2 hn HTN
          rw [← hoe] at HOi HXi HTN HTL
          clear hne hoe
          obtain ⟨hn0, hn1⟩ := hn
          have hn2 : n < (o'.length : Int) := by have := HTL.out; omega
          obtain ⟨go9, co9, eo9, gb9, gl9, cl9, HG9⟩ := Kd.R_form HOi.out (by omega)
          cases eo9
          have GB9 := Aside0.mk gb9
          clear gb9 gl9 HG9
          obtain ⟨hx9, hf9⟩ := Kd.R_celln 0 HOi.out n hn0 hn2
          have HP := Aside0.mk (Kd.R_putg HOi.out n (rd o' n + 1)).1
          have hxv : 0 ≤ rd o' n ∧ rd o' n ≤ 1000000000 := by
            have h1 := HXi.out (rd o' n) (by
              unfold rd
              rw [List.getD_eq_getElem?_getD, List.getElem?_eq_getElem (show n.toNat < o'.length by omega)]
              exact List.getElem_mem _)
            omega
          have HXN := Aside0.mk (tick_all o' n (100 * (j : Int) + (i : Int)) (by omega) HXi.out)
          rw [show tick o' n = o'.set n.toNat (rd o' n + 1) from rfl] at HTN HXN
          change _ = some (Value.int .i64 (rd o' n)) at hx9
          obtain ⟨x, hxe⟩ : ∃ x, x = rd o' n := ⟨_, rfl⟩
          rw [← hxe] at hx9 HP hxv HTN HXN
          clear hxe
          have hxw : IntKind.i64.wrap (x + 1) = x + 1 := by rw [IntKind.wrap_i64]; omega
          go_wp2
          go_roundg (L.length - (i + 1))
          case measure => omega
          case rel =>
            refine ⟨i + 1, by go_num, by omega, by omega, ⟨?_⟩, ⟨?_⟩, ⟨?_⟩, ⟨below_set HBi.out GB9.out⟩⟩
            · rw [HTN.out]
              exact HP.out
            · rw [HTN.out]
              intro y hy
              have := HXN.out y hy
              omega
            · exact Kd.R_far (p := ⟨go9, n.toNat, none⟩) HLi.out (fun k hk he => hk (by rw [he]; rfl)) _
        · obtain rfl : i = L.length := by omega
          have hil1 : ¬ (L.length : Int) < (L.length : Int) := by omega
          go_wp2
          go_roundg (rows.length - (j + 1))
          case measure => omega
          case rel =>
            refine ⟨j + 1, by go_num, by omega, by omega, ⟨?_⟩, ⟨?_⟩, HBi⟩
            · rw [HNX.out]
              have h := HOi.out
              rwa [List.take_length] at h
            · rw [HNX.out]
              have h := HXi.out
              rw [List.take_length] at h
              intro x hx
              have := h x hx
              omega
    · obtain rfl : j = rows.length := by omega
      have hlt1 : ¬ (rows.length : Int) < (rows.length : Int) := by omega
      go_wp2
      go_ret
      refine ⟨_, rfl, ?_, HB.out⟩
      have h := HO.out
      rwa [List.take_length] at h
theorem key_rd : ∀ (s d : List Int), Within s d → ∀ j, j < s.length → 0 ≤ d.getD j 0 ∧ d.getD j 0 < s.getD j 0
  | [], _, _, j, hj => by simp at hj
  | q :: s, [], h, _, _ => h.elim
  | q :: s, x :: d, h, 0, _ => by simpa using h.1
  | q :: s, x :: d, h, j + 1, hj => by simpa using key_rd s d h.2 j (by simpa using hj)
theorem within_map (s d : List Int) (hd : Within s d) : ∀ (p : List Int), PlOk s.length p → Within (szs s p) (p.map (rd d))
  | [], _ => trivial
  | i :: p, hk => by
    obtain ⟨h0, h1⟩ := hk i (by simp)
    exact ⟨key_rd s d hd i.toNat (by omega), within_map s d hd p fun j hj => hk j (by simp [hj])⟩
theorem ofL_in (s d : List Int) (hs : ∀ q ∈ s, 2 ≤ q ∧ q ≤ 4) (hd : Within s d) : ∀ (P : List (List Int)) (a : Int), (∀ p ∈ P, PlOk s.length p) → ∀ x ∈ ofL s d a P, a ≤ x ∧ x < a + manyC s P
  | [], a, _, x, hx => by simp [ofL] at hx
  | p :: P, a, h, x, hx => by
    have hP := fun y hy => h y (List.mem_cons_of_mem p hy)
    have hz := szs_ok s hs p (h p (by simp))
    have hpp := prodI_pos _ hz
    obtain ⟨b0, b1⟩ := word_bound _ _ hz (within_map s d hd p (h p (by simp)))
    have hm := manyC_nonneg s hs P hP
    simp only [ofL, List.mem_cons] at hx
    simp only [manyC]
    rcases hx with rfl | hx
    · omega
    · have := ofL_in s d hs hd P _ hP x hx
      omega
theorem firsts_in (s : List Int) (hs : ∀ q ∈ s, 2 ≤ q ∧ q ≤ 4) : ∀ (P : List (List Int)) (a : Int), (∀ p ∈ P, PlOk s.length p) → ∀ x ∈ firsts s a P, a ≤ x ∧ x ≤ a + manyC s P
  | [], a, _, x, hx => by simp [firsts] at hx
  | p :: P, a, h, x, hx => by
    have hP := fun y hy => h y (List.mem_cons_of_mem p hy)
    have hpp := prodI_pos _ (szs_ok s hs p (h p (by simp)))
    have hm := manyC_nonneg s hs P hP
    simp only [firsts, List.mem_cons] at hx
    simp only [manyC]
    rcases hx with rfl | hx
    · omega
    · have := firsts_in s hs P _ hP x hx
      omega
theorem plc_many (s : List Int) (h8 : s.length ≤ 8) (hs : ∀ q ∈ s, 2 ≤ q ∧ q ≤ 4) (t : Nat) (ht : t ≤ 3) : 0 ≤ manyC s (plc s.length t 0) ∧ manyC s (plc s.length t 0) ≤ 3584 := by
  have h1 := plc_bound s.length h8 t ht
  have h2 := many_le s hs (plc s.length t 0) (fun p hp => by have := plc_ok s.length t 0 p hp; exact ⟨by omega, this.2⟩)
  have h3 := manyC_nonneg s hs (plc s.length t 0) (fun p hp => (plc_ok s.length t 0 p hp).2)
  omega
theorem plc_chok (s : List Int) (h8 : s.length ≤ 8) (hs : ∀ q ∈ s, 2 ≤ q ∧ q ≤ 4) (t : Nat) (ht : t ≤ 3) : ChOk s (plc s.length t 0) (firsts s 0 (plc s.length t 0)) := by
  have h1 := plc_bound s.length h8 t ht
  obtain ⟨h2, h3⟩ := plc_many s h8 hs t ht
  refine ⟨h8, hs, firsts_len s _ _, fun p hp => ?_, by omega, fun x hx => ?_⟩
  · have := plc_ok s.length t 0 p hp
    exact ⟨by omega, this.2⟩
  · have := firsts_in s hs _ 0 (fun p hp => (plc_ok s.length t 0 p hp).2) x hx
    omega
/-- The numbers of a row's choices of t places. -/
def ofT (s : List Int) (t : Nat) (row : Int) : List Int := ofL s (digL s row) 0 (plc s.length t 0)
theorem ofR_eq (s : List Int) (t : Nat) (row : Int) : ofR s (firsts s 0 (plc s.length t 0)) (plc s.length t 0) row = ofT s t row := ofZ_firsts s (digL s row) _ 0
theorem ofT_in (s : List Int) (hs : ∀ q ∈ s, 2 ≤ q ∧ q ≤ 4) (t : Nat) (row : Int) : ∀ n ∈ ofT s t row, 0 ≤ n ∧ n < manyC s (plc s.length t 0) := by
  intro n hn
  have := ofL_in s (digL s row) hs (within_dig s hs row) (plc s.length t 0) 0 (fun p hp => (plc_ok s.length t 0 p hp).2) n hn
  omega
/-- How often rows have each choice of t places. -/
def oftT (s : List Int) (t : Nat) (rows : List Int) : List Int := oftZ (manyC s (plc s.length t 0)).toNat (rows.map (ofT s t))
theorem often_plc (g : Nat) (A : Option Addr) (c : Nat) (s : List Int) (t : Nat) (AP : Option Addr) (cP : Nat) (AF : Option Addr) (cF : Nat) (AR : Option Addr) (cR : Nat) (rows : List Int) (w : World) (hch : ChAt w g A c s AP cP (plc s.length t 0) AF cF (firsts s 0 (plc s.length t 0)) (manyC s (plc s.length t 0))) (h8 : s.length ≤ 8) (hs : ∀ q ∈ s, 2 ≤ q ∧ q ≤ 4) (ht : t ≤ 3)
    (hR : Kd.C (Kd.int .i64) w AR rows.length rows) (hRl : rows.length ≤ 1000000) (hr : ∀ r ∈ rows, 0 ≤ r ∧ r ≤ 1073741824) :
    Calls Try.prog 52 #[.pointer (some ⟨g, 0, none⟩), .slice AR rows.length cR] w fun e w' => ∃ v0_ : Value, e = .returned v0_ ∧ Kd.R (Kd.int .i64) 2 w' w.heap.size (fun _ => True) v0_ (oftT s t rows) ∧ Below w.heap.size w w' := by
  obtain ⟨m0, m1⟩ := plc_many s h8 hs t ht
  have h := often_walk g A c s AP cP _ AF cF _ _ AR cR rows w hch (plc_chok s h8 hs t ht) m0 (by omega) hR hRl hr (fun r _ n hn => by
    rw [ofR_eq] at hn
    exact ofT_in s hs t r n hn)
  have e : ofR s (firsts s 0 (plc s.length t 0)) (plc s.length t 0) = ofT s t := funext fun r => ofR_eq s t r
  rw [e] at h
  exact h
set_option maxHeartbeats 1000000 in
set_option maxRecDepth 100000 in
theorem index_walk (A : Option Addr) (c : Nat) (l : List Int) (a : Int) (w : World) (hl : Kd.C (Kd.int .i64) w A l.length l) (hm : l.length ≤ 1000000000) :
    Calls Try.prog 81 #[.slice A l.length c, .int .i64 a] w fun e w' => ∃ r : Int, e = .returned (.int .i64 r) ∧ decide (r ≥ 0) = decide (a ∈ l) ∧ Below w.heap.size w w' := by
  have HL := Aside0.mk hl
  clear hl
  go_enter Try.func81, Try.ntmps81
  go_wp2
  go_loopg [8] l.length (fun gg s8 wr => ∃ (j : Nat), s8 = .int .i64 j ∧ j ≤ l.length ∧ l.length - j ≤ gg ∧ Aside0 (a ∉ l.take j) ∧ Aside0 (Below w.heap.size w wr))
  case atStart => exact ⟨0, rfl, by omega, by omega, ⟨by simp⟩, ⟨Below.refl _ _⟩⟩
  case round =>
    obtain ⟨j, rfl, hj, hgg, HN, HB⟩ := hrel
    by_cases hlt : j < l.length
    · have hlt1 : (j : Int) < (l.length : Int) := by omega
      have hj0 : (0 : Int) ≤ (j : Int) := by omega
      obtain ⟨ad, e, hx⟩ := Kd.at_int HL.out (j : Int) hj0 hlt1
      cases e
      rw [Int.toNat_natCast] at hx
      replace hx := cell_blk_ne hx HB.out
      by_cases hv : a = rd l (j : Int)
      · have hv1 : (a == rd l (j : Int)) = true := beq_iff_eq.2 hv
        have HM := Aside0.mk (show a ∈ l by rw [hv, rd_nat' l j hlt]; exact List.getElem_mem hlt)
        clear hv
        go_wp2
        go_ret
        exact ⟨j, rfl, by have h := HM.out; simp [h], HB.out⟩
      · have hv1 : (a == rd l (j : Int)) = false := beq_eq_false_iff_ne.2 hv
        have HM := Aside0.mk (show a ∉ l.take (j + 1) by
          rw [List.take_succ_eq_append_getElem hlt, List.mem_append, List.mem_singleton]
          rintro (h | h)
          · exact HN.out h
          · exact hv (by rw [rd_nat' l j hlt]; exact h))
        clear hv
        go_wp2
        go_roundg (l.length - (j + 1))
        case measure => omega
        case rel => exact ⟨j + 1, by go_num, by omega, by omega, HM, HB⟩
    · obtain rfl : j = l.length := by omega
      have hlt1 : ¬ (l.length : Int) < (l.length : Int) := by omega
      have HM := Aside0.mk (show a ∉ l by have h := HN.out; rwa [List.take_length] at h)
      go_wp2
      go_ret
      exact ⟨-1, rfl, by have h := HM.out; simp [h], HB.out⟩
set_option maxHeartbeats 1000000 in
set_option maxRecDepth 100000 in
theorem contains_walk (A : Option Addr) (c : Nat) (l : List Int) (a : Int) (w : World) (hl : Kd.C (Kd.int .i64) w A l.length l) (hm : l.length ≤ 1000000000) :
    Calls Try.prog 50 #[.slice A l.length c, .int .i64 a] w fun e w' => e = .returned (.bool (decide (a ∈ l))) ∧ Below w.heap.size w w' := by
  have HW := Aside0.mk (index_walk A c l a w hl hm)
  clear hl
  go_enter Try.func50, Try.ntmps50
  go_wp2_with (go_at_call 81; refine HW.out.mono ?_; rintro e w2 ⟨r, rfl, hr, hb2⟩)
  go_ret
  exact ⟨by rw [← hr]; rfl, hb2⟩
/-- Rows short enough, each small enough. -/
def okRows (l : List Int) : Bool := decide (l.length ≤ 1000000) && l.all fun r => decide (0 ≤ r) && decide (r ≤ 1073741824)
theorem okRows_iff (l : List Int) : okRows l = true ↔ l.length ≤ 1000000 ∧ ∀ r ∈ l, 0 ≤ r ∧ r ≤ 1073741824 := by simp [okRows]
/-- The greatest t, of some behind t, at which rows have all choices. -/
def strV (s rows : List Int) : Nat → Nat → Int → Int
  | 0, _, b => b
  | d + 1, t, b => strV s rows d (t + 1) (if (0 : Int) ∈ oftT s t rows then b else (t : Int))
theorem oftT_len (s : List Int) (t : Nat) (rows : List Int) : (oftT s t rows).length = (manyC s (plc s.length t 0)).toNat := oftZ_len _ _
/-- Numbers seen for the first time are marked and counted. -/
def rdB (h : List Bool) (n : Int) : Bool := h.getD n.toNat false
def markB : List Bool → Int → List Int → List Bool × Int
  | h, c, [] => (h, c)
  | h, c, n :: l => if rdB h n = true then markB h c l else markB (h.set n.toNat true) (c + 1) l
end Go.Proofs.Ytbfhhjekonafdaa.DG
