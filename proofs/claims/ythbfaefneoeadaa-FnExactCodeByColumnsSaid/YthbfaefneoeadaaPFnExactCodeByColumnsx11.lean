-- WALKS, by a program and by hand
import Derived.Test.YthbfaefneoeadaaProg
import Derived.Below
import Derived.Deep.Draws
import Derived.Deep.AppendLies
import Derived.Maps.AppendAt
import Derived.OwnWalk
import Derived.Laws.BytesArg
import Derived.Laws.MakeOwn
import Derived.Laws.OwnMore
import Derived.Deep.OwnRows
import Derived.Tactics
import Derived.Lib.ConvBytes
import Derived.Laws.Slices
import Derived.WalkKit
import Derived.KernelRfl
import Derived.RowKit3
import Derived.Deep.LoopGhost
import Derived.Deep.QuietTactic
import Derived.BigQuiet
import Derived.WideLaws
import Derived.Deep.DeepCutAuto
import Derived.Deep.CutBlock
import Derived.Deep.RegionHeld3
import Derived.Laws.Rows
import Derived.Lib.AppendStr
import Derived.ArgAppend
import Derived.Laws.IdiomCopy
import Derived.OrdersHeld
import Derived.Laws.BitsLemmas
import Derived.RowKit
import Derived.Outline
import Derived.Laws.CopyOwn
import Derived.Test.YthbfaefneoeadaaCbDg
import Derived.Test.YthbfaefneoeadaaCbDg2
import Derived.Test.YthbfaefneoeadaaCbFw
import Derived.Test.YthbfaefneoeadaaCbDg3
import Derived.Test.YthbfaefneoeadaaCbCh
import Derived.Test.YthbfaefneoeadaaCbChA
import Derived.Test.YthbfaefneoeadaaCbChN
import Derived.Test.YthbfaefneoeadaaCbChC
import Derived.Test.YthbfaefneoeadaaCbGrowL
import Derived.Test.YthbfaefneoeadaaCbWWords
import Derived.Test.YthbfaefneoeadaaCbWLast
import Derived.Test.YthbfaefneoeadaaCbWTab
import Derived.Test.YthbfaefneoeadaaCbWQPut
import Derived.Test.YthbfaefneoeadaaCbWApart
import Derived.Test.YthbfaefneoeadaaCbWFoot
import Derived.Test.YthbfaefneoeadaaCbWKept
import Derived.Test.YthbfaefneoeadaaCbWShare
import Derived.Test.YthbfaefneoeadaaCbWN
import Derived.Laws.StructEq
import Derived.Test.YthbfaefneoeadaaCbWRepsOne
import Derived.Test.YthbfaefneoeadaaCbWInv
import Derived.Test.YthbfaefneoeadaaCbWGuard
import Derived.Test.YthbfaefneoeadaaCbWMore
import Derived.Test.YthbfaefneoeadaaPFnExactCodeByColumnsx7
import Derived.Test.YthbfaefneoeadaaPFnExactCodeByColumnsx9
import Derived.Test.YthbfaefneoeadaaPFnExactCodeByColumnsx10
namespace Go.Proofs.Ythbfaefneoeadaa.PFnExactCodeByColumns
open Go.RowKit Go.Proofs.YthbfaefneoeadaaW.PrintWords Go.Proofs.YthbfaefneoeadaaW.PrintLast Go.Proofs.YthbfaefneoeadaaW.PrintMore Go.Proofs.Ythbfaefneoeadaa.DG
attribute [local go_sem] max2_int min2_int max_two min_two max_three min_three max_four min_four
set_option linter.unusedVariables false
set_option linter.unusedSimpArgs false
/-- The words whose digits p takes. -/
def thoseV (p : S82 → Bool) (D : List S82) (n : Nat) : List Int := ((List.range n).filter fun i : Nat => p (rd_T82 D (i : Int))).map Int.ofNat
theorem thoseV_succ (p : S82 → Bool) (D : List S82) (n : Nat) : thoseV p D (n + 1) = thoseV p D n ++ if p (rd_T82 D (n : Int)) = true then [(n : Int)] else [] := by
  unfold thoseV
  rw [List.range_succ, List.filter_append, List.map_append]
  congr 1
  cases h : p (rd_T82 D (n : Int)) <;> simp [h]
theorem thoseV_len (p : S82 → Bool) (D : List S82) (n : Nat) : (thoseV p D n).length ≤ n := by
  unfold thoseV
  rw [List.length_map]
  have := List.length_filter_le (fun i : Nat => p (rd_T82 D (i : Int))) (List.range n)
  rw [List.length_range] at this
  exact this
set_option maxHeartbeats 2000000 in
set_option maxRecDepth 100000 in
theorem those_walk (k : Nat) (p : S82 → Bool) (g : Nat) (lb : Array Value) (eg : ∀ args w, (callFunc g args).run Try.prog w = .ok (.enter g args) w) (A0 : Option Addr) (c0 : Nat) (l0 : List Int) (D : List S82) (w : World) (hr0 : Kd.C (Kd.int .i64) w A0 l0.length l0) (hc0 : l0.length ≤ c0) (hD : impl_allDigits.f k l0 = some D) (hm : D.length ≤ 1000000)
    (hp : ∀ (wr : World) (j : Nat) (d : S82), j < D.length → d = rd_T82 D (j : Int) → Below w.heap.size w wr → Calls Try.prog g (#[.agg #[.int .u8 d.f0, .int .u8 d.f1, .int .u8 d.f2, .int .u8 d.f3, .int .u8 d.f4, .int .u8 d.f5, .int .u8 d.f6, .int .u8 d.f7]] ++ lb) wr fun e w' => e = .returned (.bool (p d)) ∧ Below wr.heap.size wr w') :
    Calls Try.prog 65 #[.agg #[.slice A0 l0.length c0], .func (.func g) #[] lb] w fun e w' => ∃ v0_ : Value, e = .returned v0_ ∧ Kd.R (Kd.int .i64) 2 w' w.heap.size (fun _ => True) v0_ (thoseV p D D.length) ∧ Below w.heap.size w w' := by
  have HP := Aside0.mk hp
  have HR0 := Aside0.mk hr0
  have HC0 := Aside0.mk hc0
  have HD := Aside0.mk hD
  clear hr0 hc0 hD hp
  go_enter Try.func65, Try.ntmps65
  go_wp2_with fail
  have hb1 := below_alloc (Below.refl w.heap.size w) (.cells #[.slice A0 l0.length c0] 30)
  have hs1 := World.size_alloc w (.cells #[.slice A0 l0.length c0] 30)
  generalize w.alloc (.cells #[.slice A0 l0.length c0] 30) = w1 at hb1 hs1 ⊢
  have HO1 := Aside0.mk (show Kd.R (Kd.int .i64) 2 (w1.alloc (.cells #[] 2)) w.heap.size (fun k => k = w1.heap.size) (.slice (some ⟨w1.heap.size, 0, none⟩) ([] : List Int).length 0) [] from ⟨fun q hq => (Option.some.inj hq).symm, OwnRow.lit w1 w.heap.size (Reps.none _ _) hb1.size (by simp)⟩)
  have hb2 := below_alloc hb1 (.cells #[] 2)
  have hs2 := World.size_alloc w1 (.cells #[] 2)
  generalize w1.alloc (.cells #[] 2) = w2 at HO1 hb2 hs2 ⊢
  refine (impl_allDigits.calls k A0 c0 l0 D w2 (Kd.C_below HR0.out hb2) HC0.out HD.out).mono ?_
  rintro e w3 ⟨v3, rfl, hD3, hb3⟩
  obtain ⟨A3, c3, rfl⟩ := Kd.R_slice hD3
  obtain ⟨go, hgo⟩ : ∃ go, go = w1.heap.size := ⟨_, rfl⟩
  obtain ⟨N0, hN0⟩ : ∃ N0, N0 = w3.heap.size := ⟨_, rfl⟩
  have HD3 := Aside0.mk (show Kd.R k82 82 w3 w.heap.size (fun k => go < k ∧ k < N0) (.slice A3 D.length c3) D from Kd.R_mono (Kd.R_lower (Kd.R_bound hD3) hb2.size) (fun q hq => ⟨by have := hq.2.1; omega, by have := hq.2.2.1; omega⟩))
  have HO3 := Aside0.mk (show Kd.R (Kd.int .i64) 2 w3 w.heap.size (fun k => k = go ∨ N0 ≤ k) (.slice (some ⟨w1.heap.size, 0, none⟩) ([] : List Int).length 0) [] from Kd.R_mono (Kd.R_below HO1.out hb3) (fun q hq => .inl (by omega)))
  have HB3 := Aside0.mk (below_step hb2 hb3)
  have HN := Aside0.mk (show N0 ≤ w3.heap.size by omega)
  rw [hs1] at HO3
  clear hb1 hb2 hb3 hs1 hs2 hD3 HO1 hgo hN0
  go_wp2
  go_loopg [5, 12] D.length (fun gg s5 s12 wr => ∃ (j : Nat) (v : Value), s5 = v ∧ s12 = .int .i64 j ∧ j ≤ D.length ∧ D.length - j ≤ gg ∧ Aside0 (Kd.R (Kd.int .i64) 2 wr w.heap.size (fun k => k = go ∨ N0 ≤ k) v (thoseV p D j)) ∧ Aside0 (Kd.R k82 82 wr w.heap.size (fun k => go < k ∧ k < N0) (.slice A3 D.length c3) D) ∧ Aside0 (Below w.heap.size w wr) ∧ Aside0 (N0 ≤ wr.heap.size))
  case atStart => exact ⟨0, _, rfl, rfl, by omega, by omega, HO3, HD3, HB3, HN⟩
  case round =>
    obtain ⟨j, v, e5, rfl, hj, hgg, HO, HDr, HB, HNr⟩ := hrel
    replace e5 := e5.symm
    subst e5
    by_cases hlt : j < D.length
    · have hlt1 : (j : Int) < (D.length : Int) := by omega
      obtain ⟨add, e, hd0, hd1, hd2, hd3, hd4, hd5, hd6, hd7⟩ := at_T82 (Kd.R_reads' HDr.out).2.2 (j : Int) (by omega) hlt1
      cases e
      rw [Int.toNat_natCast] at hd0 hd1 hd2 hd3 hd4 hd5 hd6 hd7
      have HSU := Aside0.mk (thoseV_succ p D j)
      have hll : (thoseV p D j).length ≤ 1000000 := by have := thoseV_len p D j; omega
      obtain ⟨q, hq⟩ : ∃ q, q = rd_T82 D (j : Int) := ⟨_, rfl⟩
      rw [← hq] at hd0 hd1 hd2 hd3 hd4 hd5 hd6 hd7 HSU
      have HQ := Aside0.mk hq
      clear hq
      obtain ⟨out, hout⟩ : ∃ out, out = thoseV p D j := ⟨_, rfl⟩
      rw [← hout] at HO HSU hll
      clear hout
      have hbq := below_alloc (Below.refl wr.heap.size wr) (.cells #[.int .u8 q.f0, .int .u8 q.f1, .int .u8 q.f2, .int .u8 q.f3, .int .u8 q.f4, .int .u8 q.f5, .int .u8 q.f6, .int .u8 q.f7] 82)
      have HCALL := Aside0.mk (HP.out _ j q hlt HQ.out (below_step HB.out hbq))
      have HOq := Aside0.mk (Kd.R_below HO.out hbq)
      have HDq := Aside0.mk (Kd.R_below HDr.out hbq)
      have HBq := Aside0.mk (below_step HB.out hbq)
      have HNq := Aside0.mk (Nat.le_trans HNr.out hbq.size)
      clear hbq
      cases hpq : p q with
      | true =>
        rw [hpq] at HCALL
        rw [hpq, if_pos rfl] at HSU
        clear hpq
        go_wp2_with fail
        refine HCALL.out.mono ?_
        rintro e w5 ⟨rfl, hb⟩
        have HO5 := Aside0.mk (Kd.R_below HOq.out hb)
        have HD5 := Aside0.mk (Kd.R_below HDq.out hb)
        have HB5 := Aside0.mk (below_step HBq.out hb)
        have HN5 := Aside0.mk (Nat.le_trans HNq.out hb.size)
        clear hb HCALL HOq HDq HBq HNq HO HDr HB HNr hd0 hd1 hd2 hd3 hd4 hd5 hd6 hd7
        go_wp2_with (at_builtin; refine Kd.R_append (Kd.int .i64) (w0 := w) w.heap.size rfl (.tmp 20) (.tmp 22) 22 2 (.int .i64 0) 8 rfl Try.underlying22 of_info rfl (by decide) (by omega) v out (j : Int) [.int .i64 (j : Int)] (fun k => k = go ∨ N0 ≤ k) (fun _ => False) rfl rfl rfl (fun _ h => h.elim) ?aF HO5.out HB5.out ?aS ?aL ?_; (case aF => exact fun k hk => .inr (by have := HN5.out; omega)); (case aS => exact HB5.out.size); (case aL => omega); intro v9 w9 ho hb hg hat)
        have HO9 := Aside0.mk ho
        have HB9 := Aside0.mk hb
        have HN9 := Aside0.mk (Nat.le_trans HN5.out hg.size)
        have HD9 := Aside0.mk (show Kd.R k82 82 w9 w.heap.size (fun k => go < k ∧ k < N0) (.slice (some add) D.length c3) D from Kd.R_grown HD5.out hg (fun k hk he => by rcases HO5.out.1 k he.symm with h | h <;> obtain ⟨h1, h2⟩ := hk <;> omega))
        clear ho hb hg hat
        go_roundg (D.length - (j + 1))
        case measure => omega
        case rel => exact ⟨j + 1, _, rfl, by go_num, by omega, by omega, ⟨by rw [HSU.out]; exact HO9.out⟩, HD9, HB9, HN9⟩
      | false =>
        rw [hpq] at HCALL
        rw [hpq, if_neg (by decide), List.append_nil] at HSU
        clear hpq
        go_wp2_with fail
        refine HCALL.out.mono ?_
        rintro e w5 ⟨rfl, hb⟩
        have HO5 := Aside0.mk (Kd.R_below HOq.out hb)
        have HD5 := Aside0.mk (Kd.R_below HDq.out hb)
        have HB5 := Aside0.mk (below_step HBq.out hb)
        have HN5 := Aside0.mk (Nat.le_trans HNq.out hb.size)
        clear hb HCALL HOq HDq HBq HNq HO HDr HB HNr hd0 hd1 hd2 hd3 hd4 hd5 hd6 hd7
        go_wp2
        go_roundg (D.length - (j + 1))
        case measure => omega
        case rel => exact ⟨j + 1, _, rfl, by go_num, by omega, by omega, ⟨by rw [HSU.out]; exact HO5.out⟩, HD5, HB5, HN5⟩
    · obtain rfl : j = D.length := by omega
      have hlt1 : ¬ (D.length : Int) < (D.length : Int) := by omega
      go_wp2
      go_ret
      exact ⟨_, rfl, Kd.R_mono HO.out (fun _ _ => trivial), HB.out⟩
def cAdd (k : Nat) (l0 : List Int) (c : S82) : Nat → S82 → Option S82
  | 0, a => some a
  | n + 1, a => (impl_sumOf.f k l0 a.f0 a.f1 a.f2 a.f3 a.f4 a.f5 a.f6 a.f7 c.f0 c.f1 c.f2 c.f3 c.f4 c.f5 c.f6 c.f7).bind fun t => cAdd k l0 c n ⟨t.1, t.2.1, t.2.2.1, t.2.2.2.1, t.2.2.2.2.1, t.2.2.2.2.2.1, t.2.2.2.2.2.2.1, t.2.2.2.2.2.2.2⟩
def cAll (k : Nat) (l0 dl : List Int) : List S82 → Nat → S82 → Option S82
  | [], _, a => some a
  | c :: L, i, a => (cAdd k l0 c (rd dl (i : Int)).toNat a).bind fun b => cAll k l0 dl L (i + 1) b
def dlist (d : S82) : List Int := [d.f0, d.f1, d.f2, d.f3, d.f4, d.f5, d.f6, d.f7]
def colF (k : Nat) (l0 : List Int) (L : List S82) (I : List Bool) (d : S82) : Option Bool :=
  (cAll k l0 (dlist d) L 0 ⟨0, 0, 0, 0, 0, 0, 0, 0⟩).bind fun a => (impl_wordOf.f k l0 a.f0 a.f1 a.f2 a.f3 a.f4 a.f5 a.f6 a.f7).bind fun n => if 0 ≤ n ∧ n < (I.length : Int) then some (rdOf false I n) else none
/-- The cells of a box of digits. -/
def dcells (d : S82) : Array Value := #[.int .u8 d.f0, .int .u8 d.f1, .int .u8 d.f2, .int .u8 d.f3, .int .u8 d.f4, .int .u8 d.f5, .int .u8 d.f6, .int .u8 d.f7]
theorem dcell_at (d : S82) (j : Nat) (hj : j < 8) : (dcells d)[j]? = some (.int .u8 (rd (dlist d) (j : Int))) := by
  match j, hj with
  | 0, _ => rfl
  | 1, _ => rfl
  | 2, _ => rfl
  | 3, _ => rfl
  | 4, _ => rfl
  | 5, _ => rfl
  | 6, _ => rfl
  | 7, _ => rfl
theorem cAll_at (k : Nat) (l0 dl : List Int) (L : List S82) (j : Nat) (hj : j < L.length) (a z : S82) (h : cAll k l0 dl (L.drop j) j a = some z) : ∃ b, cAdd k l0 (rd_T82 L (j : Int)) (rd dl (j : Int)).toNat a = some b ∧ cAll k l0 dl (L.drop (j + 1)) (j + 1) b = some z := by
  rw [List.drop_eq_getElem_cons hj] at h
  have e : rd_T82 L (j : Int) = L[j] := by simp [rd_T82, List.getElem?_eq_getElem hj]
  rw [e]
  exact Option.bind_eq_some_iff.1 h
theorem dbox {W : World} {g : Nat} {t : TypeId} {x : S82} (h : W.heap[g]? = some (.cells (dcells x) t (0, 0))) : W.cell? ⟨g, 0, none⟩ = some (.int .u8 x.f0) ∧ W.cell? ⟨g, 1, none⟩ = some (.int .u8 x.f1) ∧ W.cell? ⟨g, 2, none⟩ = some (.int .u8 x.f2) ∧ W.cell? ⟨g, 3, none⟩ = some (.int .u8 x.f3) ∧ W.cell? ⟨g, 4, none⟩ = some (.int .u8 x.f4) ∧ W.cell? ⟨g, 5, none⟩ = some (.int .u8 x.f5) ∧ W.cell? ⟨g, 6, none⟩ = some (.int .u8 x.f6) ∧ W.cell? ⟨g, 7, none⟩ = some (.int .u8 x.f7) := ⟨(blk_cell h 0).trans rfl, (blk_cell h 1).trans rfl, (blk_cell h 2).trans rfl, (blk_cell h 3).trans rfl, (blk_cell h 4).trans rfl, (blk_cell h 5).trans rfl, (blk_cell h 6).trans rfl, (blk_cell h 7).trans rfl⟩
theorem dset (x : S82) (y0 y1 y2 y3 y4 y5 y6 y7 : Int) : (((((((((dcells x).setIfInBounds 0 (.int .u8 y0)).setIfInBounds 1 (.int .u8 y1)).setIfInBounds 2 (.int .u8 y2)).setIfInBounds 3 (.int .u8 y3)).setIfInBounds 4 (.int .u8 y4)).setIfInBounds 5 (.int .u8 y5)).setIfInBounds 6 (.int .u8 y6)).setIfInBounds 7 (.int .u8 y7)) = dcells (S82.mk y0 y1 y2 y3 y4 y5 y6 y7) := by
  simp only [dcells, List.setIfInBounds_toArray, List.set_cons_zero, List.set_cons_succ]
theorem dput {W : World} {g : Nat} {t : TypeId} {x : S82} (h : W.heap[g]? = some (.cells (dcells x) t (0, 0))) (y0 y1 y2 y3 y4 y5 y6 y7 : Int) : ((((((((W.setCell ⟨g, 0, none⟩ (.int .u8 y0)).setCell ⟨g, 1, none⟩ (.int .u8 y1)).setCell ⟨g, 2, none⟩ (.int .u8 y2)).setCell ⟨g, 3, none⟩ (.int .u8 y3)).setCell ⟨g, 4, none⟩ (.int .u8 y4)).setCell ⟨g, 5, none⟩ (.int .u8 y5)).setCell ⟨g, 6, none⟩ (.int .u8 y6)).setCell ⟨g, 7, none⟩ (.int .u8 y7)).heap[g]? = some (.cells (dcells (S82.mk y0 y1 y2 y3 y4 y5 y6 y7)) t (0, 0)) := by
  rw [← dset x]
  exact (blk_set (blk_set (blk_set (blk_set (blk_set (blk_set (blk_set (blk_set h 0 (.int .u8 y0)) 1 (.int .u8 y1)) 2 (.int .u8 y2)) 3 (.int .u8 y3)) 4 (.int .u8 y4)) 5 (.int .u8 y5)) 6 (.int .u8 y6)) 7 (.int .u8 y7))
theorem dfar {W : World} {g g' : Nat} {t' : TypeId} {cs : Array Value} (h : W.heap[g']? = some (.cells cs t' (0, 0))) (hne : g' ≠ g) (y0 y1 y2 y3 y4 y5 y6 y7 : Int) : ((((((((W.setCell ⟨g, 0, none⟩ (.int .u8 y0)).setCell ⟨g, 1, none⟩ (.int .u8 y1)).setCell ⟨g, 2, none⟩ (.int .u8 y2)).setCell ⟨g, 3, none⟩ (.int .u8 y3)).setCell ⟨g, 4, none⟩ (.int .u8 y4)).setCell ⟨g, 5, none⟩ (.int .u8 y5)).setCell ⟨g, 6, none⟩ (.int .u8 y6)).setCell ⟨g, 7, none⟩ (.int .u8 y7)).heap[g']? = some (.cells cs t' (0, 0)) := (blk_far (blk_far (blk_far (blk_far (blk_far (blk_far (blk_far (blk_far h hne _) hne _) hne _) hne _) hne _) hne _) hne _) hne _)
theorem dbel {w W : World} {g : Nat} (h : Below w.heap.size w W) (hg : w.heap.size ≤ g) (y0 y1 y2 y3 y4 y5 y6 y7 : Int) : Below w.heap.size w ((((((((W.setCell ⟨g, 0, none⟩ (.int .u8 y0)).setCell ⟨g, 1, none⟩ (.int .u8 y1)).setCell ⟨g, 2, none⟩ (.int .u8 y2)).setCell ⟨g, 3, none⟩ (.int .u8 y3)).setCell ⟨g, 4, none⟩ (.int .u8 y4)).setCell ⟨g, 5, none⟩ (.int .u8 y5)).setCell ⟨g, 6, none⟩ (.int .u8 y6)).setCell ⟨g, 7, none⟩ (.int .u8 y7)) := (below_set (below_set (below_set (below_set (below_set (below_set (below_set (below_set h hg) hg) hg) hg) hg) hg) hg) hg)
set_option maxHeartbeats 4000000 in
set_option maxRecDepth 100000 in
theorem col_calls (k : Nat) (A0 : Option Addr) (c0 : Nat) (l0 : List Int) (AL : Option Addr) (cL : Nat) (L : List S82) (AI : Option Addr) (cI : Nat) (I : List Bool) (gl gx gi : Nat) (d : S82) (b : Bool) (w : World)
    (kl : w.heap[gl]? = some (.cells #[.slice AL L.length cL] 78 (0, 0))) (kx : w.heap[gx]? = some (.cells #[.slice A0 l0.length c0] 30 (0, 0))) (ki : w.heap[gi]? = some (.cells #[.slice AI I.length cI] 54 (0, 0)))
    (hr0 : Kd.C (Kd.int .i64) w A0 l0.length l0) (hc0 : l0.length ≤ c0) (hrL : Kd.C k82 w AL L.length L) (hrI : Kd.C Kd.bool w AI I.length I) (hL : L.length ≤ 8) (hd : ∀ j : Nat, j < 8 → 0 ≤ rd (dlist d) (j : Int) ∧ rd (dlist d) (j : Int) ≤ 255) (h : colF k l0 L I d = some b) :
    Calls Try.prog 66 #[.agg #[.int .u8 d.f0, .int .u8 d.f1, .int .u8 d.f2, .int .u8 d.f3, .int .u8 d.f4, .int .u8 d.f5, .int .u8 d.f6, .int .u8 d.f7], .pointer (some ⟨gl, 0, none⟩), .pointer (some ⟨gx, 0, none⟩), .pointer (some ⟨gi, 0, none⟩)] w fun e w' => e = .returned (.bool b) ∧ Below w.heap.size w w' := by
  obtain ⟨z, hz, h⟩ := Option.bind_eq_some_iff.1 h
  obtain ⟨n, hn, h⟩ := Option.bind_eq_some_iff.1 h
  have KL := Aside0.mk kl
  have KX := Aside0.mk kx
  have KI := Aside0.mk ki
  have HR0 := Aside0.mk hr0
  have HC0 := Aside0.mk hc0
  have HRL := Aside0.mk hrL
  have HRI := Aside0.mk hrI
  have HD := Aside0.mk hd
  have HZ := Aside0.mk hz
  have HN := Aside0.mk hn
  have HH := Aside0.mk h
  clear kl kx ki hr0 hc0 hrL hrI hd hz hn h
  go_enter Try.func66, Try.ntmps66
  go_upto_region 2 with (fail)
  have hb1 := below_alloc (Below.refl w.heap.size w) (.cells #[.int .u8 d.f0, .int .u8 d.f1, .int .u8 d.f2, .int .u8 d.f3, .int .u8 d.f4, .int .u8 d.f5, .int .u8 d.f6, .int .u8 d.f7] 82)
  have hk1 := blk_new w (.cells #[.int .u8 d.f0, .int .u8 d.f1, .int .u8 d.f2, .int .u8 d.f3, .int .u8 d.f4, .int .u8 d.f5, .int .u8 d.f6, .int .u8 d.f7] 82)
  have hs1 := World.size_alloc w (.cells #[.int .u8 d.f0, .int .u8 d.f1, .int .u8 d.f2, .int .u8 d.f3, .int .u8 d.f4, .int .u8 d.f5, .int .u8 d.f6, .int .u8 d.f7] 82)
  generalize w.alloc (.cells #[.int .u8 d.f0, .int .u8 d.f1, .int .u8 d.f2, .int .u8 d.f3, .int .u8 d.f4, .int .u8 d.f5, .int .u8 d.f6, .int .u8 d.f7] 82) = w1 at hb1 hk1 hs1 ⊢
  have hb2 := below_alloc hb1 (.cells #[.int .u8 0, .int .u8 0, .int .u8 0, .int .u8 0, .int .u8 0, .int .u8 0, .int .u8 0, .int .u8 0] 82)
  have hk2 := blk_new w1 (.cells #[.int .u8 0, .int .u8 0, .int .u8 0, .int .u8 0, .int .u8 0, .int .u8 0, .int .u8 0, .int .u8 0] 82)
  have hk3 := blk_alloc hk1 (.cells #[.int .u8 0, .int .u8 0, .int .u8 0, .int .u8 0, .int .u8 0, .int .u8 0, .int .u8 0, .int .u8 0] 82)
  generalize w1.alloc (.cells #[.int .u8 0, .int .u8 0, .int .u8 0, .int .u8 0, .int .u8 0, .int .u8 0, .int .u8 0, .int .u8 0] 82) = w2 at hb2 hk2 hk3 ⊢
  rw [hs1] at hk2
  have KD := Aside0.mk (show w2.heap[w.heap.size]? = some (.cells (dcells d) 82 (0, 0)) from hk3)
  have KA := Aside0.mk (show w2.heap[w.heap.size + 1]? = some (.cells (dcells ⟨0, 0, 0, 0, 0, 0, 0, 0⟩) 82 (0, 0)) from hk2)
  have HB2 := Aside0.mk hb2
  have hcl : w2.cell? ⟨gl, 0, none⟩ = some (.slice AL L.length cL) := (blk_cell (blk_below KL.out hb2) 0).trans rfl
  clear hb1 hk1 hs1 hb2 hk2 hk3
  go_wp2
  clear hcl
  go_loopg [12] L.length (fun gg s12 wr => ∃ (j : Nat) (a : S82), s12 = .int .i64 j ∧ j ≤ L.length ∧ L.length - j ≤ gg ∧ Aside0 (cAll k l0 (dlist d) (L.drop j) j a = some z) ∧ Aside0 (wr.heap[w.heap.size]? = some (.cells (dcells d) 82 (0, 0))) ∧ Aside0 (wr.heap[w.heap.size + 1]? = some (.cells (dcells a) 82 (0, 0))) ∧ Aside0 (Below w.heap.size w wr))
  case atStart => exact ⟨0, _, rfl, by omega, by omega, HZ, KD, KA, HB2⟩
  case round =>
    obtain ⟨j, a, rfl, hj, hgg, HA, KDr, KAr, HB⟩ := hrel
    by_cases hlt : j < L.length
    · have hlt1 : (j : Int) < (L.length : Int) := by omega
      obtain ⟨b2, hb2, hz2⟩ := cAll_at k l0 (dlist d) L j hlt a z HA.out
      obtain ⟨add, e, hd0, hd1, hd2, hd3, hd4, hd5, hd6, hd7⟩ := at_T82 (Kd.C_below HRL.out HB.out) (j : Int) (by omega) hlt1
      cases e
      rw [Int.toNat_natCast] at hd0 hd1 hd2 hd3 hd4 hd5 hd6 hd7
      obtain ⟨q, hq⟩ : ∃ q, q = rd_T82 L (j : Int) := ⟨_, rfl⟩
      rw [← hq] at hd0 hd1 hd2 hd3 hd4 hd5 hd6 hd7 hb2
      have HDB := Aside0.mk (HD.out j (by omega))
      have hcd := fun (o : Obj) => (blk_cell (blk_alloc KDr.out o) j).trans (dcell_at d j (by omega))
      obtain ⟨m, hm⟩ : ∃ m, m = rd (dlist d) (j : Int) := ⟨_, rfl⟩
      rw [← hm] at hb2 HDB hcd
      have HB2q := Aside0.mk hb2
      have HZ2 := Aside0.mk hz2
      have hj8 : (j : Int) < 8 := by omega
      have hj0 : (0 : Int) ≤ (j : Int) := by omega
      clear hq hb2 hz2 HA hm
      go_upto_block 2 with (fail)
      have hbq := below_alloc (Below.refl wr.heap.size wr) (.cells #[.int .u8 q.f0, .int .u8 q.f1, .int .u8 q.f2, .int .u8 q.f3, .int .u8 q.f4, .int .u8 q.f5, .int .u8 q.f6, .int .u8 q.f7] 82)
      have hkq := blk_new wr (.cells #[.int .u8 q.f0, .int .u8 q.f1, .int .u8 q.f2, .int .u8 q.f3, .int .u8 q.f4, .int .u8 q.f5, .int .u8 q.f6, .int .u8 q.f7] 82)
      have hgw := HB.out.size
      generalize wr.alloc (.cells #[.int .u8 q.f0, .int .u8 q.f1, .int .u8 q.f2, .int .u8 q.f3, .int .u8 q.f4, .int .u8 q.f5, .int .u8 q.f6, .int .u8 q.f7] 82) = w5 at hbq hkq ⊢
      have KD5 := Aside0.mk (blk_below KDr.out hbq)
      have KA5 := Aside0.mk (blk_below KAr.out hbq)
      have KC5 := Aside0.mk (show w5.heap[wr.heap.size]? = some (.cells (dcells q) 82 (0, 0)) from hkq)
      have HB5 := Aside0.mk (below_step HB.out hbq)
      have HA1 := Aside0.mk (show w.heap.size + 1 < wr.heap.size from blk_lt KAr.out)
      have HC5 := Aside0.mk (show cAdd k l0 q (m.toNat - 0) a = some b2 from HB2q.out)
      clear hbq hkq hgw KDr KAr HB hd0 hd1 hd2 hd3 hd4 hd5 hd6 hd7 hcd HB2q
      obtain ⟨gc, hgc⟩ : ∃ gc, gc = wr.heap.size := ⟨_, rfl⟩
      rw [← hgc] at KC5 HA1 ⊢
      clear hgc
      go_wp2
      go_loopg [20] m.toNat (fun gg s20 wi => ∃ (i : Nat) (x : S82), s20 = .int .u8 i ∧ i ≤ m.toNat ∧ m.toNat - i ≤ gg ∧ Aside0 (cAdd k l0 q (m.toNat - i) x = some b2) ∧ Aside0 (wi.heap[w.heap.size]? = some (.cells (dcells d) 82 (0, 0))) ∧ Aside0 (wi.heap[w.heap.size + 1]? = some (.cells (dcells x) 82 (0, 0))) ∧ Aside0 (wi.heap[gc]? = some (.cells (dcells q) 82 (0, 0))) ∧ Aside0 (Below w.heap.size w wi))
      case atStart => exact ⟨0, a, rfl, by omega, by omega, HC5, KD5, KA5, KC5, HB5⟩
      case round =>
        obtain ⟨i, x, rfl, hi, hgi, HX, KDi, KAi, KCi, HBi⟩ := hrel
        have hm0 := HDB.out
        by_cases hli : i < m.toNat
        · have hli1 : (i : Int) < m := by omega
          have hiw : IntKind.u8.wrap ((i : Int) + 1) = ((i + 1 : Nat) : Int) := by
            have e : IntKind.u8.wrap ((i : Int) + 1) = ((i : Int) + 1) % 256 := by simp [IntKind.wrap, IntKind.bits, IntKind.signed]
            rw [e]; omega
          have hX := HX.out
          rw [show m.toNat - i = (m.toNat - (i + 1)) + 1 by omega] at hX
          obtain ⟨⟨r0, r1, r2, r3, r4, r5, r6, r7⟩, hr, hX2⟩ := Option.bind_eq_some_iff.1 hX
          have HX2 := Aside0.mk hX2
          have hcx : wr.cell? ⟨gx, 0, none⟩ = some (.slice A0 l0.length c0) := (blk_cell (blk_below KX.out HBi.out) 0).trans rfl
          obtain ⟨ha0, ha1, ha2, ha3, ha4, ha5, ha6, ha7⟩ := dbox KAi.out
          obtain ⟨hb0, hb1, hb2, hb3, hb4, hb5, hb6, hb7⟩ := dbox KCi.out
          have HCA := Aside0.mk (impl_sumOf.calls k A0 c0 l0 x.f0 x.f1 x.f2 x.f3 x.f4 x.f5 x.f6 x.f7 q.f0 q.f1 q.f2 q.f3 q.f4 q.f5 q.f6 q.f7 r0 r1 r2 r3 r4 r5 r6 r7 wr (Kd.C_below HR0.out HBi.out) HC0.out hr)
          clear hX hX2 hr hm0
          go_wp2_with fail
          refine HCA.out.mono ?_
          rintro e w9 ⟨rfl, hb9⟩
          have KD9 := Aside0.mk (blk_below KDi.out hb9)
          have KA9 := Aside0.mk (blk_below KAi.out hb9)
          have KC9 := Aside0.mk (blk_below KCi.out hb9)
          have HB9 := Aside0.mk (below_step HBi.out hb9)
          have hf := fun n => blk_frozen KA9.out n
          obtain ⟨hs0, hs1, hs2, hs3, hs4, hs5, hs6, hs7⟩ := dbox KA9.out
          clear hb9 HCA KDi KAi KCi HBi HX hcx ha0 ha1 ha2 ha3 ha4 ha5 ha6 ha7 hb0 hb1 hb2 hb3 hb4 hb5 hb6 hb7
          go_wp2
          go_roundg (m.toNat - (i + 1))
          case measure => omega
          case rel => exact ⟨i + 1, S82.mk r0 r1 r2 r3 r4 r5 r6 r7, by go_num, by omega, by omega, HX2, ⟨dfar KD9.out (by omega) r0 r1 r2 r3 r4 r5 r6 r7⟩, ⟨dput KA9.out r0 r1 r2 r3 r4 r5 r6 r7⟩, ⟨dfar KC9.out (by have := HA1.out; omega) r0 r1 r2 r3 r4 r5 r6 r7⟩, ⟨dbel HB9.out (by omega) r0 r1 r2 r3 r4 r5 r6 r7⟩⟩
        · have hli1 : ¬ (i : Int) < m := by omega
          have hX := HX.out
          rw [show m.toNat - i = 0 by omega] at hX
          have hxb : x = b2 := Option.some.inj hX
          subst hxb
          clear hX hm0 HX
          go_wp2
          go_roundg (L.length - (j + 1))
          case measure => omega
          case rel => exact ⟨j + 1, x, by go_num, by omega, by omega, HZ2, KDi, KAi, HBi⟩
    · obtain rfl : j = L.length := by omega
      have hz : a = z := by have h := HA.out; rw [List.drop_length] at h; exact Option.some.inj h
      subst hz
      have hlt1 : ¬ (L.length : Int) < (L.length : Int) := by omega
      have hcond : (0 ≤ n ∧ n < (I.length : Int)) ∧ rdOf false I n = b := by
        have h := HH.out
        split at h
        · rename_i hc; exact ⟨hc, Option.some.inj h⟩
        · cases h
      obtain ⟨⟨hn0, hn1⟩, hb⟩ := hcond
      obtain ⟨ai, e, hbc⟩ := Kd.at_bool HRI.out n hn0 hn1
      cases e
      have hci : wr.drew.cell? ⟨gi, 0, none⟩ = some (.slice (some ai) I.length cI) := (blk_cell (blk_drew (blk_below KI.out HB.out)) 0).trans rfl
      have hcx : wr.drew.cell? ⟨gx, 0, none⟩ = some (.slice A0 l0.length c0) := (blk_cell (blk_drew (blk_below KX.out HB.out)) 0).trans rfl
      obtain ⟨ha0, ha1, ha2, ha3, ha4, ha5, ha6, ha7⟩ := dbox (blk_drew KAr.out)
      have KA5 := Aside0.mk (blk_drew KAr.out)
      go_wp2
      refine start_ (n := 7) (S := fun w' => w'.cell? ⟨gi, 0, none⟩ = some (.slice (some ai) I.length cI) ∧ w'.cell? ⟨gx, 0, none⟩ = some (.slice A0 l0.length c0) ∧ w'.cell? ⟨w.heap.size + 1, 0, none⟩ = some (.int .u8 a.f0) ∧ w'.cell? ⟨w.heap.size + 1, 1, none⟩ = some (.int .u8 a.f1) ∧ w'.cell? ⟨w.heap.size + 1, 2, none⟩ = some (.int .u8 a.f2) ∧ w'.cell? ⟨w.heap.size + 1, 3, none⟩ = some (.int .u8 a.f3) ∧ w'.cell? ⟨w.heap.size + 1, 4, none⟩ = some (.int .u8 a.f4) ∧ w'.cell? ⟨w.heap.size + 1, 5, none⟩ = some (.int .u8 a.f5) ∧ w'.cell? ⟨w.heap.size + 1, 6, none⟩ = some (.int .u8 a.f6) ∧ w'.cell? ⟨w.heap.size + 1, 7, none⟩ = some (.int .u8 a.f7)) (ds := []) #[false, false, false, false, false, false, false] (by kernel_rfl) rfl rfl ⟨hci, hcx, ha0, ha1, ha2, ha3, ha4, ha5, ha6, ha7⟩ (fun hHeld => ?_)
      have hbd := below_drew (Below.refl wr.heap.size wr)
      generalize wr.drew = w5 at hbd hHeld KA5 ⊢
      have HB5 := Aside0.mk (below_step HB.out hbd)
      clear hbd
      refine take_ (i := 0) (N := some 28) (v := ?_) (a' := ?_) #[true, false, false, false, false, false, false] rfl rfl (by kernel_rfl) (fun _ _ _ h => h) (Or.inl ⟨by rfl, ?_⟩) hHeld ?_ ?_
      rotate_left
      · rintro w' ⟨s0, s1, s2, s3, s4, s5, s6, s7, s8, s9⟩
        go_simp
        with_reducible rfl
      rotate_left
      · simp only [Act.put, List.setIfInBounds_toArray, List.set_cons_zero, List.set_cons_succ, i64_w, i32_w]
        rfl
      refine take_ (i := 1) (N := some 29) (v := ?_) (a' := ?_) #[true, true, false, false, false, false, false] rfl rfl (by kernel_rfl) (fun _ _ _ h => h) (Or.inl ⟨by rfl, ?_⟩) hHeld ?_ ?_
      rotate_left
      · rintro w' ⟨s0, s1, s2, s3, s4, s5, s6, s7, s8, s9⟩
        go_simp
        with_reducible rfl
      rotate_left
      · simp only [Act.put, List.setIfInBounds_toArray, List.set_cons_zero, List.set_cons_succ, i64_w, i32_w]
        rfl
      refine take_ (i := 2) (N := some 30) (v := ?_) (a' := ?_) #[true, true, true, false, false, false, false] rfl rfl (by kernel_rfl) (fun _ _ _ h => h) (Or.inl ⟨by rfl, ?_⟩) hHeld ?_ ?_
      rotate_left
      · rintro w' ⟨s0, s1, s2, s3, s4, s5, s6, s7, s8, s9⟩
        go_simp
        with_reducible rfl
      rotate_left
      · simp only [Act.put, List.setIfInBounds_toArray, List.set_cons_zero, List.set_cons_succ, i64_w, i32_w]
        rfl
      refine one_ (i := 3) (N := some 31) #[true, true, true, true, false, false, false] rfl rfl (by kernel_rfl) (by decide) (fun K hK => ?_)
      refine goes_ Try.func68 (by kernel_rfl) rfl #[.agg #[.slice A0 l0.length c0], .agg #[.int .u8 a.f0, .int .u8 a.f1, .int .u8 a.f2, .int .u8 a.f3, .int .u8 a.f4, .int .u8 a.f5, .int .u8 a.f6, .int .u8 a.f7]] (by rfl) rfl rfl (by (try simp only [List.map_toArray, List.map_cons, List.map_nil]); first | done | rfl) ?_
      refine (impl_wordOf.calls k A0 c0 l0 a.f0 a.f1 a.f2 a.f3 a.f4 a.f5 a.f6 a.f7 n w5 (Kd.C_below HR0.out HB5.out) HC0.out HN.out).mono ?_
      rintro e w6 ⟨rfl, hb6⟩
      refine ⟨_, rfl, ?_⟩
      have HB6 := Aside0.mk (below_step HB5.out hb6)
      have KA6 := Aside0.mk (blk_below (KA5.out) hb6)
      clear hb6
      obtain ⟨he0, he1, he2, he3, he4, he5, he6, he7⟩ := dbox KA6.out
      have hci6 : w6.cell? ⟨gi, 0, none⟩ = some (.slice (some ai) I.length cI) := (blk_cell (blk_below KI.out HB6.out) 0).trans rfl
      have hcx6 : w6.cell? ⟨gx, 0, none⟩ = some (.slice A0 l0.length c0) := (blk_cell (blk_below KX.out HB6.out) 0).trans rfl
      refine hK.out _ _ ⟨hci6, hcx6, he0, he1, he2, he3, he4, he5, he6, he7⟩ (fun hHeld => ?_)
      clear hK K
      refine norm_ (a' := ?_) ?_ ?_
      rotate_left
      · show Act.put _ (some 31) _ = _
        simp only [Act.put, List.setIfInBounds_toArray, List.set_cons_zero, List.set_cons_succ, i64_w, i32_w]
        rfl
      refine pure_ (i := 4) (N := some 32) (v := ?_) (a' := ?_) #[true, true, true, true, true, false, false] rfl rfl (by kernel_rfl) (fun _ _ _ h => h) (Or.inl ⟨by rfl, ?_⟩) ?_ ?_
      rotate_left
      · intro w'
        go_simp
        with_reducible rfl
      rotate_left
      · simp only [Act.put, List.setIfInBounds_toArray, List.set_cons_zero, List.set_cons_succ, i64_w, i32_w]
        rfl
      have hbc6 := (HB6.out.cell (World.block_lt_of_cell? w _ hbc)).trans hbc
      refine one_ (i := 5) (N := some 33) #[true, true, true, true, true, true, false] rfl rfl (by kernel_rfl) (by decide) (fun K hK => ?_)
      refine value_ (w1 := w6) (v := .bool (rdOf false I n)) (by rfl) rfl (by go_simp) ?_
      refine hK.out _ _ ⟨hci6, hcx6, he0, he1, he2, he3, he4, he5, he6, he7⟩ (fun hHeld => ?_)
      clear hK K
      refine norm_ (a' := ?_) ?_ ?_
      rotate_left
      · show Act.put _ (some 33) _ = _
        simp only [Act.put, List.setIfInBounds_toArray, List.set_cons_zero, List.set_cons_succ, i64_w, i32_w]
        rfl
      refine pure_ (i := 6) (N := some 5) (v := ?_) (a' := ?_) #[true, true, true, true, true, true, true] rfl rfl (by kernel_rfl) (fun _ _ _ h => h) (Or.inl ⟨by rfl, ?_⟩) ?_ ?_
      rotate_left
      · intro w'
        go_simp
        with_reducible rfl
      rotate_left
      · simp only [Act.put, List.setIfInBounds_toArray, List.set_cons_zero, List.set_cons_succ, i64_w, i32_w]
        rfl
      refine done_ (by kernel_rfl) ?_
      go_wp2
      go_ret
      exact ⟨by rw [← hb]; rfl, HB6.out⟩
def impl_CodeByColumns.f (k : Nat) (l0 l1 l2 : List Int) : Option (List Int × List Int × Int) :=
  (impl_columnCode.f k l0 l2 l1 0).bind fun e => if e = 0 then
    (impl_areLed.f k l0 l2).bind fun t => if t = true then
      (if 0 < (l0.length : Int) then (slices_Repeat_int64_int64.f k [rd l0 0] (l2.length : Int)).bind fun ss => (impl_limitedSpace.f k ss).bind fun y => if y.2 = true then
        (impl_marks.f k l0 l1).bind fun I => (impl_digitsOfAll.f k l0 l2).bind fun L => (impl_allDigits.f k y.1).bind fun D =>
          if L.length ≤ 8 ∧ D.length ≤ 1000000 ∧ ∀ j, j < D.length → (colF k l0 L I (rd_T82 D (j : Int))).isSome = true ∧ ∀ i : Nat, i < 8 → 0 ≤ rd (dlist (rd_T82 D (j : Int))) (i : Int) ∧ rd (dlist (rd_T82 D (j : Int))) (i : Int) ≤ 255 then
            some (y.1, thoseV (fun d => (colF k l0 L I d).getD false) D D.length, 0) else none
      else some ([], [], 3) else none) else some ([], [], 5) else some ([], [], e)
theorem one_row (W : World) (x : Int) : Kd.C (Kd.int .i64) (W.alloc (.cells #[.int .i64 x] 2)) (some ⟨W.heap.size, 0, none⟩) ([x] : List Int).length [x] := by
  refine Kd.C_of_reads (d := (0 : Int)) (h1 := fun _ => rfl) ⟨rfl, by simp, fun _ => ⟨_, rfl, fun j hj => ?_⟩⟩
  have hj0 : j = 0 := by simpa using hj
  subst hj0
  rw [add_plain, blk_cell (blk_new W _) 0]
  rfl
/-- While the marks and the digits are made: what stands when these came up. -/
structure CR (W0 w' : World) (I : List Bool) (L : List S82) (vI vL : Value) (gi gl : Nat) (b2 b5 b6 b7 b8 b9 : Bool) : Prop where
  hB : Below W0.heap.size W0 w'
  hI : b2 = true → Kd.R Kd.bool 4 w' W0.heap.size (fun _ => True) vI I
  hL : b5 = true → Kd.R k82 82 w' W0.heap.size (fun _ => True) vL L
  ki : b6 = true → w'.heap[gi]? = some (.cells #[if b8 = true then vI else .slice none 0 0] 54 (0, 0)) ∧ W0.heap.size ≤ gi
  kl : b7 = true → w'.heap[gl]? = some (.cells #[if b9 = true then vL else .slice none 0 0] 78 (0, 0)) ∧ W0.heap.size ≤ gl
section
variable {W0 w' w9 : World} {I : List Bool} {L : List S82} {vI vL : Value} {gi gl : Nat} {b2 b5 b6 b7 b8 b9 : Bool}
theorem CR.start (W0 : World) : CR W0 W0 I L vI vL gi gl false false false false b8 b9 :=
  ⟨Below.refl _ _, fun h => absurd h (by decide), fun h => absurd h (by decide), fun h => absurd h (by decide), fun h => absurd h (by decide)⟩
theorem CR.callI (h : CR W0 w' I L vI vL gi gl b2 b5 b6 b7 b8 b9) (h8 : b8 = false) {v : Value} (hb : Below w'.heap.size w' w9) (hR : Kd.R Kd.bool 4 w9 w'.heap.size (fun _ => True) v I) : CR W0 w9 I L v vL gi gl true b5 b6 b7 b8 b9 :=
  ⟨below_step h.hB hb, fun _ => Kd.R_lower hR h.hB.size, fun h5 => Kd.R_below (h.hL h5) hb, fun h6 => by
    have hx := h.ki h6
    subst h8
    exact ⟨blk_below hx.1 hb, hx.2⟩, fun h7 => ⟨blk_below (h.kl h7).1 hb, (h.kl h7).2⟩⟩
theorem CR.callL (h : CR W0 w' I L vI vL gi gl b2 b5 b6 b7 b8 b9) (h9 : b9 = false) {v : Value} (hb : Below w'.heap.size w' w9) (hR : Kd.R k82 82 w9 w'.heap.size (fun _ => True) v L) : CR W0 w9 I L vI v gi gl b2 true b6 b7 b8 b9 :=
  ⟨below_step h.hB hb, fun h2 => Kd.R_below (h.hI h2) hb, fun _ => Kd.R_lower hR h.hB.size, fun h6 => ⟨blk_below (h.ki h6).1 hb, (h.ki h6).2⟩, fun h7 => by
    have hx := h.kl h7
    subst h9
    exact ⟨blk_below hx.1 hb, hx.2⟩⟩
theorem CR.boxI (h : CR W0 w' I L vI vL gi gl b2 b5 b6 b7 b8 b9) (h8 : b8 = false) : CR W0 (w'.alloc (.cells #[.slice none 0 0] 54)) I L vI vL w'.heap.size gl b2 b5 true b7 b8 b9 := by
  subst h8
  exact ⟨below_alloc h.hB _, fun h2 => Kd.R_alloc (h.hI h2) _, fun h5 => Kd.R_alloc (h.hL h5) _, fun _ => ⟨blk_new w' _, h.hB.size⟩, fun h7 => ⟨blk_alloc (h.kl h7).1 _, (h.kl h7).2⟩⟩
theorem CR.boxL (h : CR W0 w' I L vI vL gi gl b2 b5 b6 b7 b8 b9) (h9 : b9 = false) : CR W0 (w'.alloc (.cells #[.slice none 0 0] 78)) I L vI vL gi w'.heap.size b2 b5 b6 true b8 b9 := by
  subst h9
  exact ⟨below_alloc h.hB _, fun h2 => Kd.R_alloc (h.hI h2) _, fun h5 => Kd.R_alloc (h.hL h5) _, fun h6 => ⟨blk_alloc (h.ki h6).1 _, (h.ki h6).2⟩, fun _ => ⟨blk_new w' _, h.hB.size⟩⟩
theorem CR.ne (h : CR W0 w' I L vI vL gi gl b2 b5 true true b8 b9) : gl ≠ gi := fun he => by
  have hl := (h.kl rfl).1
  rw [he, (h.ki rfl).1] at hl
  injection hl with hl
  injection hl with _ hl
  exact absurd hl (by decide)
theorem CR.putI (h : CR W0 w' I L vI vL gi gl b2 b5 true true b8 b9) : CR W0 (w'.setCell ⟨gi, 0, none⟩ vI) I L vI vL gi gl b2 b5 true true true b9 := by
  obtain ⟨hx, hg⟩ := h.ki rfl
  exact ⟨below_set h.hB hg, fun h1 => Kd.R_set (h.hI h1) hx (by decide) 0 vI, fun h3 => Kd.R_set (h.hL h3) hx (by decide) 0 vI, fun _ => ⟨blk_set hx 0 vI, hg⟩, fun _ => ⟨blk_far (h.kl rfl).1 h.ne _, (h.kl rfl).2⟩⟩
theorem CR.putL (h : CR W0 w' I L vI vL gi gl b2 b5 true true b8 b9) : CR W0 (w'.setCell ⟨gl, 0, none⟩ vL) I L vI vL gi gl b2 b5 true true b8 true := by
  obtain ⟨hx, hg⟩ := h.kl rfl
  exact ⟨below_set h.hB hg, fun h1 => Kd.R_set (h.hI h1) hx (by decide) 0 vL, fun h3 => Kd.R_set (h.hL h3) hx (by decide) 0 vL, fun _ => ⟨blk_far (h.ki rfl).1 (Ne.symm h.ne) _, (h.ki rfl).2⟩, fun _ => ⟨blk_set hx 0 vL, hg⟩⟩
end
def cbcT9 : Bool × List (List Nat × List Nat) := (true, [([], []), ([], []), ([0, 1], [0, 1]), ([], []), ([], []), ([3, 4, 2], [3, 4]), ([], []), ([], []), ([6, 2, 5, 0, 1, 2, 6, 7], [2, 6]), ([7, 5, 8, 0, 1, 2, 3, 4, 5, 6, 7, 8], [5, 7])])
def cbcB9 : List Nat := [0, 0, 3, 0, 0, 31, 0, 0, 255, 511]
theorem cbc_tab9 : rtab .any (opsOf Try.f31 9) = cbcT9 := by kernel_rfl
theorem cbc_bits9 : waitsOk cbcT9.2 cbcB9 = true := by kernel_rfl
set_option maxHeartbeats 8000000 in
set_option maxRecDepth 100000 in
theorem cbc_walk (k : Nat) (A0 : Option Addr) (c0 : Nat) (l0 : List Int) (A1 : Option Addr) (c1 : Nat) (l1 : List Int) (A2 : Option Addr) (c2 : Nat) (l2 : List Int) (r1 r2 : List Int) (r3 : Int) (w : World)
    (hr0 : Kd.C (Kd.int .i64) w A0 l0.length l0) (hc0 : l0.length ≤ c0) (hr1 : Kd.C (Kd.int .i64) w A1 l1.length l1) (hc1 : l1.length ≤ c1) (hr2 : Kd.C (Kd.int .i64) w A2 l2.length l2) (hc2 : l2.length ≤ c2) (h : impl_CodeByColumns.f k l0 l1 l2 = some (r1, r2, r3)) :
    Calls Try.prog 31 #[.agg #[.slice A0 l0.length c0], .slice A1 l1.length c1, .slice A2 l2.length c2] w fun e w' => ∃ v0_ v1_ : Value, e = .returned (.tuple #[.agg #[v0_], v1_, .int .i64 r3]) ∧ Kd.R (Kd.int .i64) 2 w' w.heap.size (fun k_ => some k_ ≠ (v1_ : Value).ownBlock) v0_ r1 ∧ Kd.R (Kd.int .i64) 2 w' w.heap.size (fun k_ => some k_ ≠ (v0_ : Value).ownBlock) v1_ r2 ∧ Below w.heap.size w w' := by
  have HR0 := Aside0.mk hr0
  have HC0 := Aside0.mk hc0
  have HR1 := Aside0.mk hr1
  have HC1 := Aside0.mk hc1
  have HR2 := Aside0.mk hr2
  have HC2 := Aside0.mk hc2
  clear hr0 hc0 hr1 hc1 hr2 hc2
  obtain ⟨e, he, h⟩ := Option.bind_eq_some_iff.1 h
  have HE := Aside0.mk he
  have H := Aside0.mk h
  clear he h
  go_enter Try.func31, Try.ntmps31
  go_wp2_with fail
  have hb1 := below_alloc (Below.refl w.heap.size w) (.cells #[.slice A0 l0.length c0] 30)
  have hk1 := blk_new w (.cells #[.slice A0 l0.length c0] 30)
  have hs1 := World.size_alloc w (.cells #[.slice A0 l0.length c0] 30)
  generalize w.alloc (.cells #[.slice A0 l0.length c0] 30) = w1 at hb1 hk1 hs1 ⊢
  have hb2 := below_alloc hb1 (.cells #[.slice none 0 0] 30)
  have hk2 := blk_new w1 (.cells #[.slice none 0 0] 30)
  have hk3 := blk_alloc hk1 (.cells #[.slice none 0 0] 30)
  generalize w1.alloc (.cells #[.slice none 0 0] 30) = w2 at hb2 hk2 hk3 ⊢
  rw [hs1] at hk2
  have KX2 := Aside0.mk hk3
  have K62 := Aside0.mk hk2
  have HB2 := Aside0.mk hb2
  clear hb1 hk1 hs1 hb2 hk2 hk3
  refine (impl_columnCode.calls k A0 c0 l0 A2 c2 l2 A1 c1 l1 0 e w2 (Kd.C_below HR0.out HB2.out) HC0.out (Kd.C_below HR2.out HB2.out) HC2.out (Kd.C_below HR1.out HB2.out) HC1.out HE.out).mono ?_
  rintro e_ w3 ⟨rfl, hb3⟩
  have KX3 := Aside0.mk (blk_below KX2.out hb3)
  have K63 := Aside0.mk (blk_below K62.out hb3)
  have HB3 := Aside0.mk (below_step HB2.out hb3)
  clear hb3 KX2 K62 HB2 HE
  have c6 : w3.cell? ⟨w.heap.size + 1, 0, none⟩ = some (.slice none 0 0) := (blk_cell K63.out 0).trans rfl
  have f6 : w3.frozen? ⟨w.heap.size + 1, 0, none⟩ = false := blk_frozen K63.out 0
  by_cases he0 : e = 0
  · subst he0
    have h := H.out
    rw [if_pos rfl] at h
    obtain ⟨t, ht, h⟩ := Option.bind_eq_some_iff.1 h
    replace H := Aside0.mk h
    have HT := Aside0.mk ht
    clear h ht c6 f6
    have cx3 : w3.cell? ⟨w.heap.size, 0, none⟩ = some (.slice A0 l0.length c0) := (blk_cell KX3.out 0).trans rfl
    go_wp2_with fail
    clear cx3
    refine (impl_areLed.calls k A0 c0 l0 A2 c2 l2 t w3 (Kd.C_below HR0.out HB3.out) HC0.out (Kd.C_below HR2.out HB3.out) HC2.out HT.out).mono ?_
    rintro e_ w4 ⟨rfl, hb4⟩
    have KX4 := Aside0.mk (blk_below KX3.out hb4)
    have K64 := Aside0.mk (blk_below K63.out hb4)
    have HB4 := Aside0.mk (below_step HB3.out hb4)
    clear hb4 KX3 K63 HB3 HT
    have c6 : w4.cell? ⟨w.heap.size + 1, 0, none⟩ = some (.slice none 0 0) := (blk_cell K64.out 0).trans rfl
    have f6 : w4.frozen? ⟨w.heap.size + 1, 0, none⟩ = false := blk_frozen K64.out 0
    cases t with
    | false =>
      have h := H.out
      rw [if_neg (by decide)] at h
      cases h
      go_wp2
      refine bodyPost_ret (results_ctt rfl _ _ (w.heap.size + 1) 30 #[.slice none 0 0] (0, 0) _ rfl (blk_set K64.out 0 (.slice none 0 0)) Try.underlying30 rfl (by kernel_rfl)) rfl ?_
      exact ⟨_, _, rfl, Kd.R_nil _ _ _ _ _, Kd.R_nil _ _ _ _ _, below_set HB4.out (by omega)⟩
    | true =>
      clear c6 f6
      have h := H.out
      rw [if_pos rfl] at h
      by_cases hl0 : 0 < (l0.length : Int)
      · rw [if_pos hl0] at h
        obtain ⟨ss, hss, h⟩ := Option.bind_eq_some_iff.1 h
        obtain ⟨⟨yl, yb⟩, hy, h⟩ := Option.bind_eq_some_iff.1 h
        dsimp only at h
        replace H := Aside0.mk h
        have HSS := Aside0.mk hss
        have HY := Aside0.mk hy
        clear h hss hy
        have cx4 : w4.cell? ⟨w.heap.size, 0, none⟩ = some (.slice A0 l0.length c0) := (blk_cell KX4.out 0).trans rfl
        have hz := Kd.at_int (Kd.C_below HR0.out HB4.out) 0 (by omega) hl0
        obtain ⟨ad, hA, hcell⟩ := hz
        subst hA
        rw [show ad.add (0 : Int).toNat = ad from rfl] at hcell
        go_wp2_with fail
        clear cx4 hcell
        have hbq := below_alloc (Below.refl w4.heap.size w4) (.cells #[.int .i64 (rd l0 0)] 2)
        have hrq := one_row w4 (rd l0 0)
        generalize w4.alloc (.cells #[.int .i64 (rd l0 0)] 2) = w5 at hbq hrq ⊢
        refine (slices_Repeat_int64_int64.calls k (some ⟨w4.heap.size, 0, none⟩) 1 [rd l0 0] (l2.length : Int) ss w5 hrq (by simp) HSS.out).mono ?_
        rintro e_ w6 ⟨vS, rfl, hS, hb6⟩
        have HS6 := Aside0.mk (Kd.R_lower hS hbq.size)
        have HB6 := Aside0.mk (below_step hbq hb6)
        clear hbq hrq hS hb6 HSS
        go_wp2_with fail
        refine (impl_limitedSpace.calls k (fun _ => True) vS ss yl yb w4 w6 HB6.out HS6.out HY.out).mono ?_
        rintro e_ w7 ⟨vY, rfl, hY, hb7, hk7⟩
        obtain ⟨AY, cY, rfl⟩ := Kd.R_slice hY
        have HY7 := Aside0.mk (show Kd.R (Kd.int .i64) 2 w7 w4.heap.size (fun _ => True) (.slice AY yl.length cY) yl from Kd.R_mono hY (fun _ _ => trivial))
        have HB7 := Aside0.mk hb7
        have KX7 := Aside0.mk (blk_below KX4.out hb7)
        have K67 := Aside0.mk (blk_below K64.out hb7)
        have HS4 := Aside0.mk (blk_lt K64.out)
        clear hY hb7 hk7 HS6 HB6 HY KX4 K64
        cases yb with
        | false =>
          have h := H.out
          rw [if_neg (by decide)] at h
          cases h
          have c6 : (w7.alloc (.cells #[.slice AY yl.length cY] 30)).cell? ⟨w.heap.size + 1, 0, none⟩ = some (.slice none 0 0) := (blk_cell (blk_alloc K67.out _) 0).trans rfl
          have f6 : (w7.alloc (.cells #[.slice AY yl.length cY] 30)).frozen? ⟨w.heap.size + 1, 0, none⟩ = false := blk_frozen (blk_alloc K67.out _) 0
          go_wp2
          refine bodyPost_ret (results_ctt rfl _ _ (w.heap.size + 1) 30 #[.slice none 0 0] (0, 0) _ rfl (blk_set (blk_alloc K67.out _) 0 (.slice none 0 0)) Try.underlying30 rfl (by kernel_rfl)) rfl ?_
          exact ⟨_, _, rfl, Kd.R_nil _ _ _ _ _, Kd.R_nil _ _ _ _ _, below_set (below_alloc (below_step HB4.out HB7.out) _) (by omega)⟩
        | true =>
          have h := H.out
          rw [if_pos rfl] at h
          obtain ⟨I, hI, h⟩ := Option.bind_eq_some_iff.1 h
          obtain ⟨L, hL, h⟩ := Option.bind_eq_some_iff.1 h
          obtain ⟨D, hD, h⟩ := Option.bind_eq_some_iff.1 h
          replace H := Aside0.mk h
          have HI := Aside0.mk hI
          have HL := Aside0.mk hL
          have HD := Aside0.mk hD
          clear h hI hL hD
          go_upto_region 9 with (fail)
          have hb8 := below_alloc (below_step HB4.out HB7.out) (.cells #[.slice AY yl.length cY] 30)
          have hk8 := blk_new w7 (.cells #[.slice AY yl.length cY] 30)
          have HY8 := Aside0.mk (Kd.R_drew (Kd.R_alloc HY7.out (.cells #[.slice AY yl.length cY] 30)))
          have HN := Aside0.mk (Nat.lt_of_lt_of_le HS4.out HB7.out.size)
          obtain ⟨gy, hgy⟩ : ∃ gy, gy = w7.heap.size := ⟨_, rfl⟩
          rw [← hgy] at hk8 HN ⊢
          have KX8 := blk_alloc KX7.out (.cells #[.slice AY yl.length cY] 30)
          have K68 := blk_alloc K67.out (.cells #[.slice AY yl.length cY] 30)
          generalize w7.alloc (.cells #[.slice AY yl.length cY] 30) = w8 at hb8 hk8 HY8 KX8 K68 ⊢
          have KX9 := Aside0.mk (blk_drew KX8)
          have K69 := Aside0.mk (blk_drew K68)
          have KY9 := Aside0.mk (blk_drew hk8)
          have HB9 := Aside0.mk (below_drew hb8)
          clear hb8 hk8 KX8 K68 KX7 K67 HB7 HY7 hgy
          refine start_ (n := 10) (S := fun w' => True) (ds := []) #[false, false, false, false, false, false, false, false, false, false] (by kernel_rfl) rfl rfl trivial (fun hHeld => ?_); refine with_tabW cbc_tab9 cbc_bits9 (fun HT_ HW_ => ?_)
          generalize w8.drew = w9 at KX9 K69 KY9 HB9 HY8 hHeld ⊢
          refine inv_at [0, 1, 2, 3, 4, 5, 6, 7, 8, 9] (fun a0_ b_ a_ w' => ∃ (vI : Value) (vL : Value) (gi : Nat) (gl : Nat), a_ = putSel a0_ b_ [(0, 42, .agg #[.slice (some ad) l0.length c0]), (1, 43, .slice A1 l1.length c1), (2, 44, vI), (3, 45, .agg #[.slice (some ad) l0.length c0]), (4, 46, .slice A2 l2.length c2), (5, 47, vL), (6, 12, .pointer (some ⟨gi, 0, none⟩)), (7, 13, .pointer (some ⟨gl, 0, none⟩))] ∧ CR w9 w' I L vI vL gi gl (b_ 2) (b_ 5) (b_ 6) (b_ 7) (b_ 8) (b_ 9)) HT_.out HW_.out (by kernel_rfl) (by kernel_rfl) ?_ ?_ ?_
          · exact ⟨.bool false, .bool false, 0, 0, by simp only [putSel, Bool.false_eq_true, if_false], CR.start w9⟩
          · refine steps_cons ?_ ?_
            · rintro b_ a_ w' ⟨vI, vL, gi, gl, ha, Q⟩ hb_ hon hoff
              refine ⟨_, rfl, fun K hK => ?_⟩
              have e3 : a_.tmps[3]? = some (.pointer (some ⟨w.heap.size, 0, none⟩)) := by rw [ha]; exact (putSel_off rfl).trans rfl
              replace ha := Aside0.mk ha
              have hc_ : w'.cell? ⟨w.heap.size, 0, none⟩ = some (.slice (some ad) l0.length c0) := (blk_cell (blk_below KX9.out Q.hB) 0).trans rfl
              refine value_ (w1 := w') (v := .agg #[.slice (some ad) l0.length c0]) (by rfl) rfl ?_ ?_
              · go_simp
                (try simp only [i64_w])
                try rfl
              refine hK.out _ _ ⟨vI, vL, gi, gl, (by rw [ha.out]; exact putSel_upk 0 hb_ rfl rfl rfl), Q⟩
            refine steps_cons ?_ ?_
            · rintro b_ a_ w' ⟨vI, vL, gi, gl, ha, Q⟩ hb_ hon hoff
              refine ⟨_, rfl, fun K hK => ?_⟩
              have e1 : a_.tmps[1]? = some (.slice A1 l1.length c1) := by rw [ha]; exact (putSel_off rfl).trans rfl
              replace ha := Aside0.mk ha
              refine value_ (w1 := w') (v := .slice A1 l1.length c1) (by rfl) rfl ?_ ?_
              · go_simp
                try rfl
              refine hK.out _ _ ⟨vI, vL, gi, gl, (by rw [ha.out]; exact putSel_upk 1 hb_ rfl rfl rfl), Q⟩
            refine steps_cons ?_ ?_
            · rintro b_ a_ w' ⟨vI, vL, gi, gl, ha, Q⟩ hb_ hon hoff
              refine ⟨_, rfl, fun K hK => ?_⟩
              have e42 : a_.tmps[42]? = some (.agg #[.slice (some ad) l0.length c0]) := by rw [ha]; exact putSel_on (e := (0, 42, .agg #[.slice (some ad) l0.length c0])) 0 rfl rfl (hon 0 (by kernel_rfl)) rfl
              have e43 : a_.tmps[43]? = some (.slice A1 l1.length c1) := by rw [ha]; exact putSel_on (e := (1, 43, .slice A1 l1.length c1)) 1 rfl rfl (hon 1 (by kernel_rfl)) rfl
              replace ha := Aside0.mk ha
              refine goes_ Try.func38 (by kernel_rfl) rfl #[.agg #[.slice (some ad) l0.length c0], .slice A1 l1.length c1] (by rfl) rfl rfl (by first | (simp only [List.map_toArray, List.map_cons, List.map_nil, Act.eval, Array.getD_eq_getD_getElem?, Option.getD_some, e42, e43]; done) | (simp only [List.map_toArray, List.map_cons, List.map_nil, Act.eval, Array.getD_eq_getD_getElem?, Option.getD_some, e42, e43]; rfl)) ?_
              with_reducible refine (impl_marks.calls k (some ad) c0 l0 A1 c1 l1 I w' (Kd.C_below HR0.out (below_step HB9.out Q.hB)) HC0.out (Kd.C_below HR1.out (below_step HB9.out Q.hB)) HC1.out HI.out).mono ?_
              rintro e w9' ⟨v9, rfl, ho9, hb9⟩
              refine ⟨_, rfl, ?_⟩
              refine hK.out _ _ ⟨v9, vL, gi, gl, (by rw [ha.out]; exact putSel_upk 2 hb_ rfl rfl rfl), Q.callI (hoff 8 (by kernel_rfl)) hb9 ho9⟩
            refine steps_cons ?_ ?_
            · rintro b_ a_ w' ⟨vI, vL, gi, gl, ha, Q⟩ hb_ hon hoff
              refine ⟨_, rfl, fun K hK => ?_⟩
              have e3 : a_.tmps[3]? = some (.pointer (some ⟨w.heap.size, 0, none⟩)) := by rw [ha]; exact (putSel_off rfl).trans rfl
              replace ha := Aside0.mk ha
              have hc_ : w'.cell? ⟨w.heap.size, 0, none⟩ = some (.slice (some ad) l0.length c0) := (blk_cell (blk_below KX9.out Q.hB) 0).trans rfl
              refine value_ (w1 := w') (v := .agg #[.slice (some ad) l0.length c0]) (by rfl) rfl ?_ ?_
              · go_simp
                (try simp only [i64_w])
                try rfl
              refine hK.out _ _ ⟨vI, vL, gi, gl, (by rw [ha.out]; exact putSel_upk 3 hb_ rfl rfl rfl), Q⟩
            refine steps_cons ?_ ?_
            · rintro b_ a_ w' ⟨vI, vL, gi, gl, ha, Q⟩ hb_ hon hoff
              refine ⟨_, rfl, fun K hK => ?_⟩
              have e2 : a_.tmps[2]? = some (.slice A2 l2.length c2) := by rw [ha]; exact (putSel_off rfl).trans rfl
              replace ha := Aside0.mk ha
              refine value_ (w1 := w') (v := .slice A2 l2.length c2) (by rfl) rfl ?_ ?_
              · go_simp
                try rfl
              refine hK.out _ _ ⟨vI, vL, gi, gl, (by rw [ha.out]; exact putSel_upk 4 hb_ rfl rfl rfl), Q⟩
            refine steps_cons ?_ ?_
            · rintro b_ a_ w' ⟨vI, vL, gi, gl, ha, Q⟩ hb_ hon hoff
              refine ⟨_, rfl, fun K hK => ?_⟩
              have e45 : a_.tmps[45]? = some (.agg #[.slice (some ad) l0.length c0]) := by rw [ha]; exact putSel_on (e := (3, 45, .agg #[.slice (some ad) l0.length c0])) 3 rfl rfl (hon 3 (by kernel_rfl)) rfl
              have e46 : a_.tmps[46]? = some (.slice A2 l2.length c2) := by rw [ha]; exact putSel_on (e := (4, 46, .slice A2 l2.length c2)) 4 rfl rfl (hon 4 (by kernel_rfl)) rfl
              replace ha := Aside0.mk ha
              refine goes_ Try.func64 (by kernel_rfl) rfl #[.agg #[.slice (some ad) l0.length c0], .slice A2 l2.length c2] (by rfl) rfl rfl (by first | (simp only [List.map_toArray, List.map_cons, List.map_nil, Act.eval, Array.getD_eq_getD_getElem?, Option.getD_some, e45, e46]; done) | (simp only [List.map_toArray, List.map_cons, List.map_nil, Act.eval, Array.getD_eq_getD_getElem?, Option.getD_some, e45, e46]; rfl)) ?_
              with_reducible refine (impl_digitsOfAll.calls k (some ad) c0 l0 A2 c2 l2 L w' (Kd.C_below HR0.out (below_step HB9.out Q.hB)) HC0.out (Kd.C_below HR2.out (below_step HB9.out Q.hB)) HC2.out HL.out).mono ?_
              rintro e w9' ⟨v9, rfl, ho9, hb9⟩
              refine ⟨_, rfl, ?_⟩
              refine hK.out _ _ ⟨vI, v9, gi, gl, (by rw [ha.out]; exact putSel_upk 5 hb_ rfl rfl rfl), Q.callL (hoff 9 (by kernel_rfl)) hb9 ho9⟩
            refine steps_cons ?_ ?_
            · rintro b_ a_ w' ⟨vI, vL, gi, gl, ha, Q⟩ hb_ hon hoff
              refine ⟨_, rfl, fun K hK => ?_⟩
              replace ha := Aside0.mk ha
              refine value_ (w1 := w'.alloc (.cells #[.slice none 0 0] 54)) (v := .pointer (some ⟨w'.heap.size, 0, none⟩)) (by rfl) rfl ?_ ?_
              · go_simp
                try rfl
              refine hK.out _ _ ⟨vI, vL, w'.heap.size, gl, (by rw [ha.out]; exact putSel_upk 6 hb_ rfl rfl rfl), Q.boxI (hoff 8 (by kernel_rfl))⟩
            refine steps_cons ?_ ?_
            · rintro b_ a_ w' ⟨vI, vL, gi, gl, ha, Q⟩ hb_ hon hoff
              refine ⟨_, rfl, fun K hK => ?_⟩
              replace ha := Aside0.mk ha
              refine value_ (w1 := w'.alloc (.cells #[.slice none 0 0] 78)) (v := .pointer (some ⟨w'.heap.size, 0, none⟩)) (by rfl) rfl ?_ ?_
              · go_simp
                try rfl
              refine hK.out _ _ ⟨vI, vL, gi, w'.heap.size, (by rw [ha.out]; exact putSel_upk 7 hb_ rfl rfl rfl), Q.boxL (hoff 9 (by kernel_rfl))⟩
            refine steps_cons ?_ ?_
            · rintro b_ a_ w' ⟨vI, vL, gi, gl, ha, Q⟩ hb_ hon hoff
              refine ⟨_, rfl, fun K hK => ?_⟩
              have e12 : a_.tmps[12]? = some (.pointer (some ⟨gi, 0, none⟩)) := by rw [ha]; exact putSel_on (e := (6, 12, .pointer (some ⟨gi, 0, none⟩))) 6 rfl rfl (hon 6 (by kernel_rfl)) rfl
              have e44 : a_.tmps[44]? = some (vI) := by rw [ha]; exact putSel_on (e := (2, 44, vI)) 2 rfl rfl (hon 2 (by kernel_rfl)) rfl
              replace ha := Aside0.mk ha
              rw [hon 6 (by kernel_rfl), hon 7 (by kernel_rfl)] at Q
              have hkx := (Q.ki rfl).1
              have hcx : w'.cell? ⟨gi, 0, none⟩ = some _ := (blk_cell hkx 0).trans rfl
              have hfx : w'.frozen? ⟨gi, 0, none⟩ = false := blk_frozen hkx 0
              obtain ⟨A9, c9, rfl⟩ := Kd.R_slice (Q.hI (hon 2 (by kernel_rfl)))
              have hQ := Aside0.mk Q.putI
              clear Q hkx
              refine skip_ (w1 := w'.setCell ⟨gi, 0, none⟩ (.slice A9 I.length c9)) (by rfl) rfl ?_ ?_
              · go_simp
                try rfl
              refine hK.out _ _ ⟨_, vL, gi, gl, (ha.out.trans (by rfl)), (by have h6 := hon 6 (by kernel_rfl); have h7 := hon 7 (by kernel_rfl); show CR _ _ I L _ _ gi gl (b_ 2) (b_ 5) (b_ 6) (b_ 7) true (b_ 9); rw [h6, h7]; exact hQ.out)⟩
            refine steps_cons ?_ ?_
            · rintro b_ a_ w' ⟨vI, vL, gi, gl, ha, Q⟩ hb_ hon hoff
              refine ⟨_, rfl, fun K hK => ?_⟩
              have e13 : a_.tmps[13]? = some (.pointer (some ⟨gl, 0, none⟩)) := by rw [ha]; exact putSel_on (e := (7, 13, .pointer (some ⟨gl, 0, none⟩))) 7 rfl rfl (hon 7 (by kernel_rfl)) rfl
              have e47 : a_.tmps[47]? = some (vL) := by rw [ha]; exact putSel_on (e := (5, 47, vL)) 5 rfl rfl (hon 5 (by kernel_rfl)) rfl
              replace ha := Aside0.mk ha
              rw [hon 6 (by kernel_rfl), hon 7 (by kernel_rfl)] at Q
              have hkx := (Q.kl rfl).1
              have hcx : w'.cell? ⟨gl, 0, none⟩ = some _ := (blk_cell hkx 0).trans rfl
              have hfx : w'.frozen? ⟨gl, 0, none⟩ = false := blk_frozen hkx 0
              obtain ⟨A9, c9, rfl⟩ := Kd.R_slice (Q.hL (hon 5 (by kernel_rfl)))
              have hQ := Aside0.mk Q.putL
              clear Q hkx
              refine skip_ (w1 := w'.setCell ⟨gl, 0, none⟩ (.slice A9 L.length c9)) (by rfl) rfl ?_ ?_
              · go_simp
                try rfl
              refine hK.out _ _ ⟨vI, _, gi, gl, (ha.out.trans (by rfl)), (by have h6 := hon 6 (by kernel_rfl); have h7 := hon 7 (by kernel_rfl); show CR _ _ I L _ _ gi gl (b_ 2) (b_ 5) (b_ 6) (b_ 7) (b_ 8) true; rw [h6, h7]; exact hQ.out)⟩
            exact steps_nil
          rintro b_ a_ w10 hall ⟨vI, vL, gi, gl, ha, Q⟩
          have hb0_ := hall 0 (by kernel_rfl)
          have hb1_ := hall 1 (by kernel_rfl)
          have hb2_ := hall 2 (by kernel_rfl)
          have hb3_ := hall 3 (by kernel_rfl)
          have hb4_ := hall 4 (by kernel_rfl)
          have hb5_ := hall 5 (by kernel_rfl)
          have hb6_ := hall 6 (by kernel_rfl)
          have hb7_ := hall 7 (by kernel_rfl)
          have hb8_ := hall 8 (by kernel_rfl)
          have hb9_ := hall 9 (by kernel_rfl)
          subst ha
          rw [hb2_, hb5_, hb6_, hb7_, hb8_, hb9_] at Q
          simp only [putSel, hb0_, hb1_, hb2_, hb3_, hb4_, hb5_, hb6_, hb7_, if_true, Act.put, List.setIfInBounds_toArray, List.set_cons_zero, List.set_cons_succ]
          clear hall hb0_ hb1_ hb2_ hb3_ hb4_ hb5_ hb6_ hb7_ hb8_ hb9_ HT_ HW_ hHeld
          obtain ⟨AI, cI, rfl⟩ := Kd.R_slice (Q.hI rfl)
          obtain ⟨AL, cL, rfl⟩ := Kd.R_slice (Q.hL rfl)
          have KI := Aside0.mk (blk_drew (Q.ki rfl).1)
          have KL := Aside0.mk (blk_drew (Q.kl rfl).1)
          have hbd := below_drew Q.hB
          have HCI := Aside0.mk (Kd.C_below (Kd.R_reads' (Q.hI rfl)).2.2 (below_drew (Below.refl w10.heap.size w10)))
          have HCL := Aside0.mk (Kd.C_below (Kd.R_reads' (Q.hL rfl)).2.2 (below_drew (Below.refl w10.heap.size w10)))
          have KXd := Aside0.mk (blk_below KX9.out hbd)
          have K6d := Aside0.mk (blk_below K69.out hbd)
          have KYd := Aside0.mk (blk_below KY9.out hbd)
          have HYd := Aside0.mk (Kd.R_below HY8.out hbd)
          have HBd := Aside0.mk (below_step HB9.out hbd)
          clear hbd Q KX9 K69 KY9 HY8 HB9 HI HL
          have cy : w10.drew.cell? ⟨gy, 0, none⟩ = some (.slice AY yl.length cY) := (blk_cell KYd.out 0).trans rfl
          simp only [if_true] at KI KL
          have h := H.out
          split at h
          rotate_left
          · cases h
          rename_i hcond
          obtain ⟨hL8, hD6, hcol⟩ := hcond
          simp only [Option.some.injEq, Prod.mk.injEq] at h
          obtain ⟨h1_, h2_, h3_⟩ := h
          subst h1_
          subst h3_
          have HCOL := Aside0.mk hcol
          have HV := Aside0.mk h2_
          clear hcol H h2_
          have f6 : w10.drew.frozen? ⟨w.heap.size + 1, 0, none⟩ = false := blk_frozen K6d.out 0
          go_upto_region 10 with (fail)
          refine start_ (n := 7) (S := fun w' => w'.cell? ⟨gy, 0, none⟩ = some (.slice AY yl.length cY)) (ds := []) #[false, false, false, false, false, false, false] (by kernel_rfl) rfl rfl cy (fun hHeld => ?_)
          generalize w10.drew = w11 at KI KL HCI HCL KXd K6d KYd HYd HBd hHeld cy f6 ⊢
          refine take_ (i := 0) (N := some 48) (v := ?_) (a' := ?_) #[true, false, false, false, false, false, false] rfl rfl (by kernel_rfl) (fun _ _ _ h => h) (Or.inl ⟨by rfl, ?_⟩) hHeld ?_ ?_
          rotate_left
          · intro w' s0
            go_simp
            with_reducible rfl
          rotate_left
          · simp only [Act.put, List.setIfInBounds_toArray, List.set_cons_zero, List.set_cons_succ, i64_w, i32_w]
            rfl
          refine take_ (i := 1) (N := some 49) (v := ?_) (a' := ?_) #[true, true, false, false, false, false, false] rfl rfl (by kernel_rfl) (fun _ _ _ h => h) (Or.inl ⟨by rfl, ?_⟩) hHeld ?_ ?_
          rotate_left
          · intro w' s0
            go_simp
            with_reducible rfl
          rotate_left
          · simp only [Act.put, List.setIfInBounds_toArray, List.set_cons_zero, List.set_cons_succ, i64_w, i32_w]
            rfl
          refine pure_ (i := 2) (N := some 50) (v := .func (.func 66) #[] #[.pointer (some ⟨gl, 0, none⟩), .pointer (some ⟨w.heap.size, 0, none⟩), .pointer (some ⟨gi, 0, none⟩)]) (a' := ?_) #[true, true, true, false, false, false, false] rfl rfl (by kernel_rfl) (fun _ _ _ h => h) (Or.inl ⟨by rfl, ?_⟩) ?_ ?_
          · intro w'
            go_simp
            try with_reducible rfl
          rotate_left
          · simp only [Act.put, List.setIfInBounds_toArray, List.set_cons_zero, List.set_cons_succ, i64_w, i32_w]
            rfl
          refine one_ (i := 3) (N := some 51) #[true, true, true, true, false, false, false] rfl rfl (by kernel_rfl) (by decide) (fun K hK => ?_)
          refine goes_ Try.func65 (by kernel_rfl) rfl #[.agg #[.slice AY yl.length cY], .func (.func 66) #[] #[.pointer (some ⟨gl, 0, none⟩), .pointer (some ⟨w.heap.size, 0, none⟩), .pointer (some ⟨gi, 0, none⟩)]] (by rfl) rfl rfl (by (try simp only [List.map_toArray, List.map_cons, List.map_nil]); first | done | rfl) ?_
          refine (those_walk k (fun d => (colF k l0 L I d).getD false) 66 #[.pointer (some ⟨gl, 0, none⟩), .pointer (some ⟨w.heap.size, 0, none⟩), .pointer (some ⟨gi, 0, none⟩)] (fun args w' => enters_ Try.func66 (by kernel_rfl) rfl args w') AY cY yl D w11 (Kd.R_reads' HYd.out).2.2 (Kd.R_reads' HYd.out).2.1 HD.out hD6 ?hp).mono ?_
          case hp =>
            intro wr j d hj hd hb
            obtain ⟨hs, hdig⟩ := HCOL.out j hj
            rw [← hd] at hs hdig
            obtain ⟨b, hb2⟩ := Option.isSome_iff_exists.1 hs
            have e1 : (colF k l0 L I d).getD false = b := by rw [hb2]; rfl
            rw [e1]
            exact col_calls k (some ad) c0 l0 AL cL L AI cI I gl w.heap.size gi d b wr (blk_below KL.out hb) (blk_below KXd.out hb) (blk_below KI.out hb) (Kd.C_below HR0.out (below_step HBd.out hb)) HC0.out (Kd.C_below HCL.out hb) (Kd.C_below HCI.out hb) hL8 hdig hb2
          rintro e_ w12 ⟨vZ, rfl, hZ, hb12⟩
          refine ⟨_, rfl, ?_⟩
          rw [HV.out] at hZ
          obtain ⟨AZ, cZ, rfl⟩ := Kd.R_slice hZ
          have HZ := Aside0.mk (Kd.R_bound hZ)
          have HY12 := Aside0.mk (Kd.R_below (Kd.R_bound HYd.out) hb12)
          have K612 := Aside0.mk (blk_below K6d.out hb12)
          have HB12 := Aside0.mk (below_step HBd.out hb12)
          have cy12 : w12.cell? ⟨gy, 0, none⟩ = some (.slice AY yl.length cY) := (blk_cell (blk_below KYd.out hb12) 0).trans rfl
          have KY12 := Aside0.mk (blk_below KYd.out hb12)
          have HG6 := Aside0.mk (Nat.lt_of_lt_of_le (blk_lt K6d.out) (Nat.le_refl _))
          clear hZ hb12
          refine hK.out _ _ cy12 (fun hHeld => ?_)
          clear hK K
          refine norm_ (a' := ?_) ?_ ?_
          rotate_left
          · show Act.put _ (some 51) _ = _
            simp only [Act.put, List.setIfInBounds_toArray, List.set_cons_zero, List.set_cons_succ, i64_w, i32_w]
            rfl
          have c6 : w12.cell? ⟨w.heap.size + 1, 0, none⟩ = some (.slice none 0 0) := (blk_cell K612.out 0).trans rfl
          have g6 : w12.frozen? ⟨w.heap.size + 1, 0, none⟩ = false := blk_frozen K612.out 0
          refine one_ (i := 4) (N := none) #[true, true, true, true, true, false, false] rfl rfl (by kernel_rfl) (by decide) (fun K hK => ?_)
          refine skip_ (w1 := w12.setCell ⟨w.heap.size + 1, 0, none⟩ (.slice AY yl.length cY)) (by rfl) rfl ?_ ?_
          · go_simp
            try rfl
          have cy13 : (w12.setCell ⟨w.heap.size + 1, 0, none⟩ (.slice AY yl.length cY)).cell? ⟨gy, 0, none⟩ = some (.slice AY yl.length cY) := (blk_cell (blk_far KY12.out (show gy ≠ w.heap.size + 1 by have := HN.out; omega) _) 0).trans rfl
          refine hK.out _ _ cy13 (fun hHeld => ?_)
          clear hK K
          refine pure_ (i := 5) (N := some 7) (v := ?_) (a' := ?_) #[true, true, true, true, true, true, false] rfl rfl (by kernel_rfl) (fun _ _ _ h => h) (Or.inl ⟨by rfl, ?_⟩) ?_ ?_
          rotate_left
          · intro w'
            go_simp
            with_reducible rfl
          rotate_left
          · simp only [Act.put, List.setIfInBounds_toArray, List.set_cons_zero, List.set_cons_succ, i64_w, i32_w]
            rfl
          refine pure_ (i := 6) (N := some 8) (v := ?_) (a' := ?_) #[true, true, true, true, true, true, true] rfl rfl (by kernel_rfl) (fun _ _ _ h => h) (Or.inl ⟨by rfl, ?_⟩) ?_ ?_
          rotate_left
          · intro w'
            go_simp
            with_reducible rfl
          rotate_left
          · simp only [Act.put, List.setIfInBounds_toArray, List.set_cons_zero, List.set_cons_succ, i64_w, i32_w]
            rfl
          refine done_ (by kernel_rfl) ?_
          go_wp2
          refine bodyPost_ret (results_ctt rfl _ _ (w.heap.size + 1) 30 #[.slice AY yl.length cY] (0, 0) _ rfl (blk_set K612.out 0 (.slice AY yl.length cY)) Try.underlying30 rfl (by kernel_rfl)) rfl ?_
          have hh := HB12.out.size
          have hh11 := HBd.out.size
          have hh6 := HG6.out
          have hh4 := HS4.out
          refine ⟨_, _, rfl, ?_, ?_, below_set HB12.out (by omega)⟩
          · refine Kd.R_lower (Kd.R_mono (Kd.R_far (p := ⟨w.heap.size + 1, 0, none⟩) HY12.out (fun k hk => by have := hk.2.1; show k ≠ w.heap.size + 1; omega) _) (fun k hk he => ?_)) (by omega)
            have h1 := HZ.out.1 k he.symm
            have h2 := hk.2.2.1
            have h3 := h1.2.1
            omega
          · refine Kd.R_lower (Kd.R_mono (Kd.R_far (p := ⟨w.heap.size + 1, 0, none⟩) HZ.out (fun k hk => by have := hk.2.1; show k ≠ w.heap.size + 1; omega) _) (fun k hk he => ?_)) (by omega)
            have h1 := HY12.out.1 k he.symm
            have h2 := hk.2.1
            have h3 := h1.2.2.1
            omega
      · rw [if_neg hl0] at h; cases h
  · have h := H.out
    rw [if_neg he0] at h
    cases h
    have d1 := beq_eq_false_iff_ne.2 he0
    have d2 := bne_iff_ne.2 he0
    go_wp2
    refine bodyPost_ret (results_ctt rfl _ _ (w.heap.size + 1) 30 #[.slice none 0 0] (0, 0) _ rfl (blk_set K63.out 0 (.slice none 0 0)) Try.underlying30 rfl (by kernel_rfl)) rfl ?_
    exact ⟨_, _, rfl, Kd.R_nil _ _ _ _ _, Kd.R_nil _ _ _ _ _, below_set HB3.out (by omega)⟩
theorem impl_CodeByColumns.calls (k : Nat) (A0 : Option Addr) (c0 : Nat) (l0 : List Int) (A1 : Option Addr) (c1 : Nat) (l1 : List Int) (A2 : Option Addr) (c2 : Nat) (l2 : List Int) (r1 r2 : List Int) (r3 : Int) (w : World)
    (hr0 : Kd.C (Kd.int .i64) w A0 l0.length l0) (hc0 : l0.length ≤ c0) (hr1 : Kd.C (Kd.int .i64) w A1 l1.length l1) (hc1 : l1.length ≤ c1) (hr2 : Kd.C (Kd.int .i64) w A2 l2.length l2) (hc2 : l2.length ≤ c2) (h : impl_CodeByColumns.f k l0 l1 l2 = some (r1, r2, r3)) :
    Calls Try.prog 31 #[.agg #[.slice A0 l0.length c0], .slice A1 l1.length c1, .slice A2 l2.length c2] w fun e w' => ∃ v0_ v1_ : Value, e = .returned (.tuple #[.agg #[v0_], v1_, .int .i64 r3]) ∧ Kd.R (Kd.int .i64) 2 w' w.heap.size (fun k_ => some k_ ≠ (v1_ : Value).ownBlock) v0_ r1 ∧ Kd.R (Kd.int .i64) 2 w' w.heap.size (fun k_ => some k_ ≠ (v0_ : Value).ownBlock) v1_ r2 ∧ Below w.heap.size w w' := cbc_walk k A0 c0 l0 A1 c1 l1 A2 c2 l2 r1 r2 r3 w hr0 hc0 hr1 hc1 hr2 hc2 h
end Go.Proofs.Ythbfaefneoeadaa.PFnExactCodeByColumns
