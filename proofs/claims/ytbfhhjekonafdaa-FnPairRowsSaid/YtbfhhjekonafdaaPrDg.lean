/- Walks over the digits of words: digitsOf, far, wordOf, sumOf. Spaces of at most 8 places of sizes 2 to 4. -/
import Derived.Test.YtbfhhjekonafdaaProg
import Derived.Below
import Derived.Deep.Draws
import Derived.Deep.AppendLies
import Derived.Maps.AppendAt
import Derived.OwnWalk
import Derived.Laws.BytesArg
import Derived.Laws.MakeOwn
import Derived.Laws.OwnMore
import Derived.Deep.OwnRows
import Derived.Tactics
import Derived.Lib.ConvBytes
import Derived.Laws.Slices
import Derived.WalkKit
import Derived.KernelRfl
import Derived.RowKit3
import Derived.Deep.LoopGhost
import Derived.Deep.QuietTactic
import Derived.BigQuiet
import Derived.WideLaws
import Derived.Deep.DeepCutAuto
import Derived.Deep.CutBlock
import Derived.Deep.RegionHeld3
import Derived.Laws.Rows
import Derived.Lib.AppendStr
import Derived.ArgAppend
import Derived.Laws.IdiomCopy
import Derived.OrdersHeld
import Derived.Laws.BitsLemmas
import Derived.RowKit
import Derived.Laws.CopyOwn
import Derived.RegionTactic
import Derived.BigRegion
import Derived.ChangeAlike
import Derived.StillTailTactics
import Derived.Test.YtbfhhjekonafdaaPrWWords
import Derived.Test.YtbfhhjekonafdaaPrWLast
import Derived.Test.YtbfhhjekonafdaaPrWTab
import Derived.Test.YtbfhhjekonafdaaPrWQPut
import Derived.Test.YtbfhhjekonafdaaPrWApart
import Derived.Test.YtbfhhjekonafdaaPrWFoot
import Derived.Test.YtbfhhjekonafdaaPrWKept
import Derived.Test.YtbfhhjekonafdaaPrWShare
import Derived.Test.YtbfhhjekonafdaaPrWN
import Derived.Test.YtbfhhjekonafdaaPrWGuard
import Derived.Test.YtbfhhjekonafdaaPrWNEv
import Derived.Test.YtbfhhjekonafdaaPrWMore
namespace Go.Proofs.Ytbfhhjekonafdaa.DG
open Go Go.RowKit Go.Proofs.YtbfhhjekonafdaaW.PrintWords Go.Proofs.YtbfhhjekonafdaaW.PrintLast Go.Proofs.YtbfhhjekonafdaaW.PrintMore
set_option linter.unusedVariables false
set_option linter.unusedSimpArgs false
/-- The product of a list. -/
def prodI : List Int → Int
  | [] => 1
  | q :: r => q * prodI r
/-- The digits of a number over sizes. -/
def digL : List Int → Int → List Int
  | [], _ => []
  | q :: r, w => (w / prodI r % q) :: digL r w
def okS (l : List Int) : Bool := decide (l.length ≤ 8) && l.all fun q => decide (2 ≤ q) && decide (q ≤ 4)
def tup8 (d : List Int) : Int × Int × Int × Int × Int × Int × Int × Int := (d.getD 0 0, d.getD 1 0, d.getD 2 0, d.getD 3 0, d.getD 4 0, d.getD 5 0, d.getD 6 0, d.getD 7 0)
def impl_digitsOf.f (k : Nat) (l0_0 : List Int) (a1 : Int) : Option (Int × Int × Int × Int × Int × Int × Int × Int) := if okS l0_0 = true then (if 0 ≤ a1 then (if a1 ≤ 1073741824 then some (tup8 (digL l0_0 a1)) else none) else none) else none
theorem digL_len : ∀ (l : List Int) (a : Int), (digL l a).length = l.length
  | [], _ => rfl
  | _ :: r, a => by simp [digL, digL_len r a]
theorem prodI_pos : ∀ (l : List Int), (∀ q ∈ l, 2 ≤ q ∧ q ≤ 4) → 1 ≤ prodI l
  | [], _ => by simp [prodI]
  | q :: r, h => by
    have h1 := prodI_pos r (fun x hx => h x (by simp [hx]))
    have h2 := h q (by simp)
    have := Int.mul_le_mul (show (1 : Int) ≤ q by omega) h1 (by omega) (by omega)
    simpa [prodI] using this
/-- The cells while the digits are reckoned, from the last place on. -/
def dl (l : List Int) (a : Int) (k : Nat) : List Int := List.replicate k 0 ++ (digL (l.drop k) a ++ List.replicate (8 - l.length) 0)
def cellsU8 (d : List Int) : Array Value := (d.map (Value.int .u8)).toArray
theorem dl_len (l : List Int) (a : Int) (k : Nat) (hk : k ≤ l.length) (h8 : l.length ≤ 8) : (dl l a k).length = 8 := by
  unfold dl
  simp [digL_len]; omega
theorem dl_all (l : List Int) (a : Int) : dl l a l.length = List.replicate l.length 0 ++ List.replicate (8 - l.length) 0 := by
  unfold dl; simp [digL]
theorem dl_step (l : List Int) (a : Int) (m : Nat) (hm : m < l.length) : (cellsU8 (dl l a (m + 1))).setIfInBounds m (.int .u8 (a / prodI (l.drop (m + 1)) % rd l (m : Int))) = cellsU8 (dl l a m) := by
  unfold cellsU8
  rw [List.setIfInBounds_toArray, ← List.map_set]
  congr 2
  unfold dl
  rw [List.drop_eq_getElem_cons hm]
  have e : rd l (m : Int) = l[m] := by simp [rd, List.getElem?_eq_getElem hm]
  rw [e]
  simp only [digL]
  rw [List.replicate_succ', List.append_assoc, List.set_append]
  simp
theorem div_prod (l : List Int) (a : Int) (m : Nat) (hm : m < l.length) (hq : ∀ q ∈ l, 2 ≤ q ∧ q ≤ 4) : a / prodI (l.drop (m + 1)) / rd l (m : Int) = a / prodI (l.drop m) := by
  have e : rd l (m : Int) = l[m] := by simp [rd, List.getElem?_eq_getElem hm]
  rw [e, List.drop_eq_getElem_cons hm]
  simp only [prodI]
  have := prodI_pos (l.drop (m + 1)) (fun q h => hq q (List.mem_of_mem_drop h))
  rw [Int.mul_comm, Int.ediv_ediv_of_nonneg (by omega)]
theorem eight (l : List Int) (h : l.length = 8) : ∃ d0 d1 d2 d3 d4 d5 d6 d7, l = [d0, d1, d2, d3, d4, d5, d6, d7] := by
  match l, h with
  | [d0, d1, d2, d3, d4, d5, d6, d7], _ => exact ⟨d0, d1, d2, d3, d4, d5, d6, d7, rfl⟩
set_option maxHeartbeats 1000000 in
set_option maxRecDepth 100000 in
theorem digitsOf_walk (A : Option Addr) (c : Nat) (l : List Int) (a : Int) (w : World) (hr : Kd.C (Kd.int .i64) w A l.length l) (h8 : l.length ≤ 8) (hq : ∀ q ∈ l, 2 ≤ q ∧ q ≤ 4) (ha : 0 ≤ a) (ha2 : a ≤ 1073741824) (d0 d1 d2 d3 d4 d5 d6 d7 : Int) (hd : dl l a 0 = [d0, d1, d2, d3, d4, d5, d6, d7]) :
    Calls Try.prog 72 #[.agg #[.slice A l.length c], .int .i64 a] w fun e w' => e = .returned (.agg #[.int .u8 d0, .int .u8 d1, .int .u8 d2, .int .u8 d3, .int .u8 d4, .int .u8 d5, .int .u8 d6, .int .u8 d7]) ∧ Below w.heap.size w w' := by
  have HR := Aside0.mk hr
  have HQ := Aside0.mk hq
  have HD := Aside0.mk hd
  clear hr hq hd
  go_enter Try.func72, Try.ntmps72
  go_wp2
  go_loopg [1, 6] l.length (fun gg s1 s6 wr => ∃ (i v : Int), s1 = .int .i64 v ∧ s6 = .int .i64 i ∧ -1 ≤ i ∧ i < (l.length : Int) ∧ (i + 1).toNat ≤ gg ∧ Aside0 (v = a / prodI (l.drop (i + 1).toNat)) ∧ 0 ≤ v ∧ v ≤ 1073741824 ∧ Aside0 (wr.heap[w.heap.size]? = some (.cells #[.slice A l.length c] 27 (0, 0))) ∧ Aside0 (wr.heap[w.heap.size + 1]? = some (.cells (cellsU8 (List.replicate 8 0)) 60 (0, 0))) ∧ Aside0 (wr.heap[w.heap.size + 1 + 1]? = some (.cells (cellsU8 (dl l a (i + 1).toNat)) 60 (0, 0))) ∧ Aside0 (Below w.heap.size w wr))
  case atStart =>
    have hb : Below w.heap.size w (((w.alloc (.cells #[.slice A l.length c] 27)).alloc (.cells #[.int .u8 0, .int .u8 0, .int .u8 0, .int .u8 0, .int .u8 0, .int .u8 0, .int .u8 0, .int .u8 0] 60)).alloc (.cells #[.int .u8 0, .int .u8 0, .int .u8 0, .int .u8 0, .int .u8 0, .int .u8 0, .int .u8 0, .int .u8 0] 60)) := below_alloc (below_alloc (below_alloc (Below.refl _ _) _) _) _
    refine ⟨(l.length : Int) - 1, a, rfl, rfl, by omega, by omega, by omega, ⟨?_⟩, ha, ha2, ⟨?_⟩, ⟨?_⟩, ⟨?_⟩, ⟨hb⟩⟩
    · rw [show ((l.length : Int) - 1 + 1).toNat = l.length by omega, List.drop_length]; simp [prodI]
    · exact blk_alloc (blk_alloc (blk_new w _) _) _
    · have h := blk_alloc (blk_new (w.alloc (.cells #[.slice A l.length c] 27)) (.cells #[.int .u8 0, .int .u8 0, .int .u8 0, .int .u8 0, .int .u8 0, .int .u8 0, .int .u8 0, .int .u8 0] 60)) (.cells #[.int .u8 0, .int .u8 0, .int .u8 0, .int .u8 0, .int .u8 0, .int .u8 0, .int .u8 0, .int .u8 0] 60)
      rw [World.size_alloc] at h
      exact h
    · have h := blk_new ((w.alloc (.cells #[.slice A l.length c] 27)).alloc (.cells #[.int .u8 0, .int .u8 0, .int .u8 0, .int .u8 0, .int .u8 0, .int .u8 0, .int .u8 0, .int .u8 0] 60)) (.cells #[.int .u8 0, .int .u8 0, .int .u8 0, .int .u8 0, .int .u8 0, .int .u8 0, .int .u8 0, .int .u8 0] 60)
      rw [World.size_alloc, World.size_alloc] at h
      rw [show ((l.length : Int) - 1 + 1).toNat = l.length by omega, dl_all, List.replicate_append_replicate, show l.length + (8 - l.length) = 8 by omega]
      exact h
  case round =>
    obtain ⟨i, v, rfl, rfl, hi1, hi2, hgg, HV, hv0, hv1, H0, H1, H2, HB⟩ := hrel
    by_cases hi : 0 ≤ i
    · obtain ⟨m, rfl⟩ : ∃ m : Nat, i = m := ⟨i.toNat, by omega⟩
      obtain ⟨ad, e, hx⟩ := Kd.at_int HR.out (m : Int) (by omega) hi2
      cases e
      rw [Int.toNat_natCast] at hx
      have hlt := World.block_lt_of_cell? w _ hx
      replace hx := (HB.out.cell hlt).trans hx
      have hc0 : wr.cell? ⟨w.heap.size, 0, none⟩ = some (.slice (some ad) l.length c) := (blk_cell H0.out 0).trans rfl
      have hqm := HQ.out (rd l (m : Int)) (by
        have : m < l.length := by omega
        have e : rd l (m : Int) = l[m] := by simp [rd, List.getElem?_eq_getElem this]
        rw [e]; exact List.getElem_mem this)
      obtain ⟨old, hold⟩ : ∃ old, wr.cell? ⟨w.heap.size + 1 + 1, m, none⟩ = some old := by
        rw [blk_cell H2.out m]
        refine ⟨_, Array.getElem?_eq_getElem ?_⟩
        unfold cellsU8
        rw [List.size_toArray, List.length_map, dl_len l a _ (by omega) h8]; omega
      have hfz : wr.frozen? ⟨w.heap.size + 1 + 1, m, none⟩ = false := blk_frozen H2.out m
      obtain ⟨q, hqq⟩ : ∃ q, q = rd l (m : Int) := ⟨_, rfl⟩
      rw [← hqq] at hx hqm
      have HQQ := Aside0.mk hqq
      clear hqq
      have hx2 : ∀ u, (wr.setCell ⟨w.heap.size + 1 + 1, m, none⟩ u).cell? (ad.add m) = some (.int .i64 q) := fun u => (cell_far (p := ⟨w.heap.size + 1 + 1, m, none⟩) (show (ad.add m).block ≠ w.heap.size + 1 + 1 by omega) u).trans hx
      clear hlt
      obtain ⟨hqm1, hqm2⟩ := hqm
      have hmod1 := Int.emod_nonneg v (b := q) (by omega)
      have hmod2 := Int.emod_lt_of_pos v (b := q) (by omega)
      have hd1 : 0 ≤ v / q := Int.ediv_nonneg hv0 (by omega)
      have hd2 : v / q ≤ v := Int.ediv_le_self _ hv0
      have hm8 : (m : Int) < 8 := by omega
      go_wp2
      go_roundg m
      case measure => omega
      case rel =>
        have hml : m < l.length := by omega
        have hv := HV.out
        rw [show ((m : Int) + 1).toNat = m + 1 by omega] at hv
        have h2 := H2.out
        rw [show ((m : Int) + 1).toNat = m + 1 by omega] at h2
        refine ⟨(m : Int) - 1, v / q, rfl, rfl, by omega, by omega, by omega, ⟨?_⟩, hd1, by omega, ⟨blk_far H0.out (show w.heap.size ≠ w.heap.size + 1 + 1 by omega) _⟩, ⟨blk_far H1.out (show w.heap.size + 1 ≠ w.heap.size + 1 + 1 by omega) _⟩, ⟨?_⟩, ⟨below_set HB.out (by omega)⟩⟩
        · rw [show ((m : Int) - 1 + 1).toNat = m by omega, hv, HQQ.out]
          exact div_prod l a m hml HQ.out
        · rw [show ((m : Int) - 1 + 1).toNat = m by omega]
          refine blk_put h2 m _ ?_
          rw [hv, HQQ.out]
          exact dl_step l a m hml
    · obtain rfl : i = -1 := by omega
      have H2' := Aside0.mk (show wr.heap[w.heap.size + 1 + 1]? = some (.cells #[.int .u8 d0, .int .u8 d1, .int .u8 d2, .int .u8 d3, .int .u8 d4, .int .u8 d5, .int .u8 d6, .int .u8 d7] 60 (0, 0)) by
        have h := H2.out
        rw [show ((-1 : Int) + 1).toNat = 0 from rfl, HD.out] at h
        exact h)
      have H1' := Aside0.mk (show wr.heap[w.heap.size + 1]? = some (.cells #[.int .u8 0, .int .u8 0, .int .u8 0, .int .u8 0, .int .u8 0, .int .u8 0, .int .u8 0, .int .u8 0] 60 (0, 0)) from H1.out)
      have l0 : wr.cell? ⟨w.heap.size + 1 + 1, 0, none⟩ = some (.int .u8 d0) := (blk_cell H2'.out 0).trans rfl
      have l1 : wr.cell? ⟨w.heap.size + 1 + 1, 1, none⟩ = some (.int .u8 d1) := (blk_cell H2'.out 1).trans rfl
      have l2 : wr.cell? ⟨w.heap.size + 1 + 1, 2, none⟩ = some (.int .u8 d2) := (blk_cell H2'.out 2).trans rfl
      have l3 : wr.cell? ⟨w.heap.size + 1 + 1, 3, none⟩ = some (.int .u8 d3) := (blk_cell H2'.out 3).trans rfl
      have l4 : wr.cell? ⟨w.heap.size + 1 + 1, 4, none⟩ = some (.int .u8 d4) := (blk_cell H2'.out 4).trans rfl
      have l5 : wr.cell? ⟨w.heap.size + 1 + 1, 5, none⟩ = some (.int .u8 d5) := (blk_cell H2'.out 5).trans rfl
      have l6 : wr.cell? ⟨w.heap.size + 1 + 1, 6, none⟩ = some (.int .u8 d6) := (blk_cell H2'.out 6).trans rfl
      have l7 : wr.cell? ⟨w.heap.size + 1 + 1, 7, none⟩ = some (.int .u8 d7) := (blk_cell H2'.out 7).trans rfl
      have c0 : wr.cell? ⟨w.heap.size + 1, 0, none⟩ = some (.int .u8 0) := (blk_cell H1'.out 0).trans rfl
      have c1 : wr.cell? ⟨w.heap.size + 1, 1, none⟩ = some (.int .u8 0) := (blk_cell H1'.out 1).trans rfl
      have c2 : wr.cell? ⟨w.heap.size + 1, 2, none⟩ = some (.int .u8 0) := (blk_cell H1'.out 2).trans rfl
      have c3 : wr.cell? ⟨w.heap.size + 1, 3, none⟩ = some (.int .u8 0) := (blk_cell H1'.out 3).trans rfl
      have c4 : wr.cell? ⟨w.heap.size + 1, 4, none⟩ = some (.int .u8 0) := (blk_cell H1'.out 4).trans rfl
      have c5 : wr.cell? ⟨w.heap.size + 1, 5, none⟩ = some (.int .u8 0) := (blk_cell H1'.out 5).trans rfl
      have c6 : wr.cell? ⟨w.heap.size + 1, 6, none⟩ = some (.int .u8 0) := (blk_cell H1'.out 6).trans rfl
      have c7 : wr.cell? ⟨w.heap.size + 1, 7, none⟩ = some (.int .u8 0) := (blk_cell H1'.out 7).trans rfl
      have f : ∀ j, wr.frozen? ⟨w.heap.size + 1, j, none⟩ = false := fun j => blk_frozen H1'.out j
      go_wp2
      refine bodyPost_ret (results_cell_row rfl _ _ (w.heap.size + 1) 60 #[.int .u8 d0, .int .u8 d1, .int .u8 d2, .int .u8 d3, .int .u8 d4, .int .u8 d5, .int .u8 d6, .int .u8 d7] (0, 0) _ rfl ?_ Try.underlying60 rfl (by kernel_rfl)) rfl ⟨rfl, ?_⟩
      · exact blk_put (blk_put (blk_put (blk_put (blk_put (blk_put (blk_put (blk_put H1'.out 0 _ rfl) 1 _ rfl) 2 _ rfl) 3 _ rfl) 4 _ rfl) 5 _ rfl) 6 _ rfl) 7 _ rfl
      · exact below_set (below_set (below_set (below_set (below_set (below_set (below_set (below_set HB.out (by omega)) (by omega)) (by omega)) (by omega)) (by omega)) (by omega)) (by omega)) (by omega)
theorem getD_zeros (d : List Int) (n j : Nat) : (d ++ List.replicate n 0).getD j 0 = d.getD j 0 := by
  rw [List.getD_eq_getElem?_getD, List.getD_eq_getElem?_getD]
  by_cases h : j < d.length
  · rw [List.getElem?_append_left h]
  · rw [List.getElem?_append_right (by omega), List.getElem?_eq_none (l := d) (by omega), List.getElem?_replicate]
    split <;> rfl
theorem tup8_dl (l : List Int) (a : Int) (d0 d1 d2 d3 d4 d5 d6 d7 : Int) (h : tup8 (digL l a) = (d0, d1, d2, d3, d4, d5, d6, d7)) (h8 : l.length ≤ 8) : dl l a 0 = [d0, d1, d2, d3, d4, d5, d6, d7] := by
  obtain ⟨e0, e1, e2, e3, e4, e5, e6, e7, he⟩ := eight (dl l a 0) (dl_len l a 0 (by omega) h8)
  rw [he]
  have hz : dl l a 0 = digL l a ++ List.replicate (8 - l.length) 0 := by simp [dl]
  have g : ∀ j, (digL l a).getD j 0 = [e0, e1, e2, e3, e4, e5, e6, e7].getD j 0 := fun j => by rw [← he, hz, getD_zeros]
  unfold tup8 at h
  rw [g, g, g, g, g, g, g, g] at h
  simpa using h
theorem okS_iff (l : List Int) : okS l = true ↔ l.length ≤ 8 ∧ ∀ q ∈ l, 2 ≤ q ∧ q ≤ 4 := by simp [okS]
theorem impl_digitsOf.mono : ∀ a0 a1 k, LeO (impl_digitsOf.f k a0 a1) (impl_digitsOf.f (k + 1) a0 a1) := fun _ _ _ => LeO.refl _
theorem impl_digitsOf.calls (k : Nat) (A0_0 : Option Addr) (c0_0 : Nat) (l0_0 : List Int) (a1 : Int) (r1 r2 r3 r4 r5 r6 r7 r8 : Int) (w : World) (hr0_0 : Kd.C (Kd.int .i64) w A0_0 l0_0.length l0_0) (hc0_0 : l0_0.length ≤ c0_0) (h : impl_digitsOf.f k l0_0 a1 = some (r1, r2, r3, r4, r5, r6, r7, r8)) :
    Calls Try.prog 72 #[.agg #[.slice A0_0 l0_0.length c0_0], .int .i64 a1] w fun e w' => e = .returned (.agg #[.int .u8 r1, .int .u8 r2, .int .u8 r3, .int .u8 r4, .int .u8 r5, .int .u8 r6, .int .u8 r7, .int .u8 r8]) ∧ Below w.heap.size w w' := by
  unfold impl_digitsOf.f at h
  by_cases h1 : okS l0_0 = true
  · rw [if_pos h1] at h
    by_cases h2 : 0 ≤ a1
    · rw [if_pos h2] at h
      by_cases h3 : a1 ≤ 1073741824
      · rw [if_pos h3] at h
        obtain ⟨h8, hq⟩ := (okS_iff l0_0).1 h1
        exact digitsOf_walk A0_0 c0_0 l0_0 a1 w hr0_0 h8 hq h2 h3 r1 r2 r3 r4 r5 r6 r7 r8 (tup8_dl l0_0 a1 _ _ _ _ _ _ _ _ (Option.some.inj h) h8)
      · rw [if_neg h3] at h; cases h
    · rw [if_neg h2] at h; cases h
  · rw [if_neg h1] at h; cases h
end Go.Proofs.Ytbfhhjekonafdaa.DG
