/- The search of the fewest tickets, walked: a closure that calls itself over a list that it grows and cuts. At most 4 tickets sought. -/
import Derived.Test.YtchlbkcladfloaaProg
import Derived.Below
import Derived.Deep.Draws
import Derived.Deep.AppendLies
import Derived.Maps.AppendAt
import Derived.OwnWalk
import Derived.Laws.BytesArg
import Derived.Laws.MakeOwn
import Derived.Laws.OwnMore
import Derived.Deep.OwnRows
import Derived.Tactics
import Derived.Lib.ConvBytes
import Derived.Laws.Slices
import Derived.WalkKit
import Derived.KernelRfl
import Derived.RowKit3
import Derived.Deep.LoopGhost
import Derived.Deep.QuietTactic
import Derived.BigQuiet
import Derived.WideLaws
import Derived.Deep.DeepCutAuto
import Derived.Deep.CutBlock
import Derived.Deep.RegionHeld3
import Derived.Laws.Rows
import Derived.Lib.AppendStr
import Derived.ArgAppend
import Derived.Laws.IdiomCopy
import Derived.OrdersHeld
import Derived.Laws.BitsLemmas
import Derived.RowKit
import Derived.Laws.CopyOwn
import Derived.RegionTactic
import Derived.BigRegion
import Derived.ChangeAlike
import Derived.StillTailTactics
import Derived.Test.YtchlbkcladfloaaGuWWords
import Derived.Test.YtchlbkcladfloaaGuWLast
import Derived.Test.YtchlbkcladfloaaGuWTab
import Derived.Test.YtchlbkcladfloaaGuWQPut
import Derived.Test.YtchlbkcladfloaaGuWApart
import Derived.Test.YtchlbkcladfloaaGuWArr
import Derived.Test.YtchlbkcladfloaaGuWFoot
import Derived.Test.YtchlbkcladfloaaGuWKept
import Derived.Test.YtchlbkcladfloaaGuWShare
import Derived.Test.YtchlbkcladfloaaGuWN
import Derived.Test.YtchlbkcladfloaaGuWGuard
import Derived.Test.YtchlbkcladfloaaGuWMore
import Derived.Deep.RegionLaw
import Derived.Deep.DrawnRows
import Derived.Outline
import Derived.Shelf.Abstract
namespace Go.Proofs.Ytchlbkcladfloaa.DG
open Go Go.RowKit Go.Proofs.YtchlbkcladfloaaW.PrintWords Go.Proofs.YtchlbkcladfloaaW.PrintLast Go.Proofs.YtchlbkcladfloaaW.PrintMore
set_option linter.unusedVariables false
set_option linter.unusedSimpArgs false
theorem lt_info2 : (Try.prog.info? 2).map (fun i => (i.zero, i.size, i.bytes)) = some (some (.int .i64 0), 1, 8) := by kernel_rfl
theorem lt_int : ∃ i, Try.prog.info? 2 = some i ∧ i.size = 1 := by
 have h := lt_info2
 cases hi : Try.prog.info? 2 with
 | none => rw [hi] at h; cases h
 | some i =>
  rw [hi] at h
  simp only [Option.map_some, Option.some.injEq, Prod.mk.injEq] at h
  exact ⟨i, rfl, h.2.1⟩
def srch (all : Int) : List (Int × Int) → Nat → Int → Option (List Int)
 | [], 0, cov => if cov = all then some [] else none
 | [], _ + 1, _ => none
 | _ :: _, 0, cov => if cov = all then some [] else none
 | (t, nr) :: r, m + 1, cov => match srch all r m (Go.bits .or .u64 cov nr) with
  | some l => some (t :: l)
  | none => srch all r (m + 1) cov
theorem lt_zero (all : Int) (r : List (Int × Int)) (cov : Int) : srch all r 0 cov = if cov = all then some [] else none := by cases r <;> rfl
def srM (M : List Int) : Option (List Int) → List Int
 | some l => M ++ l
 | none => M
def srO (t : Int) (rest : Option (List Int)) : Option (List Int) → Option (List Int)
 | some l => some (t :: l)
 | none => rest
structure LB where
 bl : Nat
 bm : Nat
 ba : Nat
 bt : Nat
 bf : Nat
 bn : Nat
 lo : Nat
def lsV (b : LB) : Value := .func (.func 71) #[] #[.pointer (some ⟨b.bl, 0, none⟩), .pointer (some ⟨b.bm, 0, none⟩), .pointer (some ⟨b.ba, 0, none⟩), .pointer (some ⟨b.bt, 0, none⟩), .pointer (some ⟨b.bf, 0, none⟩), .pointer (some ⟨b.bn, 0, none⟩)]
structure LA (H : Nat) (b : LB) : Prop where
 h0 : H ≤ b.lo
 h1 : b.bm < b.lo
 h2 : b.ba < b.lo
 h3 : b.bt < b.lo
 h4 : b.bn < b.lo
 h5 : b.lo ≤ b.bl
 h6 : b.lo ≤ b.bf
 h7 : b.bf ≠ b.bl
structure LC (W : World) (H : Nat) (b : LB) (many : Nat) (all : Int) (AT : Option Addr) (cT : Nat) (T : List Int) (AN : Option Addr) (cN : Nat) (NR : List Int) (vL : Value) (M : List Int) : Prop where
 kl : W.heap[b.bl]? = some (.cells #[vL] 24 (0, 0))
 km : W.heap[b.bm]? = some (.cells #[.int .i64 (many : Int)] 3 (0, 0))
 ka : W.heap[b.ba]? = some (.cells #[.int .u64 all] 68 (0, 0))
 kt : W.heap[b.bt]? = some (.cells #[.slice AT T.length cT] 24 (0, 0))
 kf : W.heap[b.bf]? = some (.cells #[lsV b] 69 (0, 0))
 kn : W.heap[b.bn]? = some (.cells #[.slice AN NR.length cN] 67 (0, 0))
 hT : Kd.R (Kd.int .i64) 2 W H (fun k => k < b.lo) (.slice AT T.length cT) T
 hN : Kd.R (Kd.int .u64) 68 W H (fun k => k < b.lo) (.slice AN NR.length cN) NR
 hL : Kd.R (Kd.int .i64) 2 W H (fun k => b.lo ≤ k ∧ k ≠ b.bl ∧ k ≠ b.bf) vL M
section
variable {W : World} {H : Nat} {b : LB} {many : Nat} {all : Int} {AT : Option Addr} {cT : Nat} {T : List Int} {AN : Option Addr} {cN : Nat} {NR : List Int} {vL : Value} {M : List Int}
theorem LC.below (h : LC W H b many all AT cT T AN cN NR vL M) {W' : World} (hb : Below W.heap.size W W') : LC W' H b many all AT cT T AN cN NR vL M :=
 ⟨blk_below h.kl hb, blk_below h.km hb, blk_below h.ka hb, blk_below h.kt hb, blk_below h.kf hb, blk_below h.kn hb, Kd.R_below h.hT hb, Kd.R_below h.hN hb, Kd.R_below h.hL hb⟩
theorem LC.own (h : LC W H b many all AT cT T AN cN NR vL M) : ∀ k, vL.ownBlock = some k → b.lo ≤ k ∧ k ≠ b.bl ∧ k ≠ b.bf := h.hL.1
theorem LC.push (h : LC W H b many all AT cT T AN cN NR vL M) (hA : LA H b) {w6 : World} {v6 : Value} {M' : List Int} (hg : W.drew.grownBy w6 vL.ownBlock) (hR : Kd.R (Kd.int .i64) 2 w6 H (fun k => b.lo ≤ k ∧ k ≠ b.bl ∧ k ≠ b.bf) v6 M') : LC (w6.setCell ⟨b.bl, 0, none⟩ v6) H b many all AT cT T AN cN NR v6 M' := by
 have g0 : ∀ {g : Nat} {o : Obj}, W.heap[g]? = some o → (∀ k, vL.ownBlock = some k → k ≠ g) → w6.heap[g]? = some o := fun hk hn => blk_grown (blk_drew hk) hg (fun he => hn _ he.symm rfl)
 have lt : ∀ {g : Nat}, g < b.lo → ∀ k, vL.ownBlock = some k → k ≠ g := fun hl k hk => by have := (h.own k hk).1; omega
 have keep : ∀ {g : Nat} {cs : Array Value} {t : TypeId}, W.heap[g]? = some (.cells cs t (0, 0)) → g < b.lo → (w6.setCell ⟨b.bl, 0, none⟩ v6).heap[g]? = some (.cells cs t (0, 0)) := fun hk hl => blk_far (g0 hk (lt hl)) (by have := hA.h5; show _ ≠ b.bl; omega) _
 refine ⟨blk_set (g0 h.kl (fun k hk => (h.own k hk).2.1)) 0 v6, keep h.km hA.h1, keep h.ka hA.h2, keep h.kt hA.h3, blk_far (g0 h.kf (fun k hk => (h.own k hk).2.2)) hA.h7 _, keep h.kn hA.h4, ?_, ?_, ?_⟩
 ·exact Kd.R_far (p := ⟨b.bl, 0, none⟩) (Kd.R_grown (Kd.R_drew h.hT) hg (fun k hk he => by have := (h.own k he.symm).1; omega)) (fun k hk => by have := hA.h5; show k ≠ b.bl; omega) v6
 ·exact Kd.R_far (p := ⟨b.bl, 0, none⟩) (Kd.R_grown (Kd.R_drew h.hN) hg (fun k hk he => by have := (h.own k he.symm).1; omega)) (fun k hk => by have := hA.h5; show k ≠ b.bl; omega) v6
 ·exact Kd.R_far (p := ⟨b.bl, 0, none⟩) hR (fun k hk => hk.2.1) v6
theorem LC.pop {A : Option Addr} {n c : Nat} {x : Int} (h : LC W H b many all AT cT T AN cN NR (.slice A n c) (M ++ [x])) (hA : LA H b) : LC (W.setCell ⟨b.bl, 0, none⟩ (.slice A M.length c)) H b many all AT cT T AN cN NR (.slice A M.length c) M := by
 have keep : ∀ {g : Nat} {cs : Array Value} {t : TypeId}, W.heap[g]? = some (.cells cs t (0, 0)) → g ≠ b.bl → (W.setCell ⟨b.bl, 0, none⟩ (.slice A M.length c)).heap[g]? = some (.cells cs t (0, 0)) := fun hk hl => blk_far hk hl _
 have hl := hA.h5
 refine ⟨blk_set h.kl 0 _, keep h.km (by have := hA.h1; omega), keep h.ka (by have := hA.h2; omega), keep h.kt (by have := hA.h3; omega), keep h.kf hA.h7, keep h.kn (by have := hA.h4; omega), ?_, ?_, ?_⟩
 ·exact Kd.R_far (p := ⟨b.bl, 0, none⟩) h.hT (fun k hk => by show k ≠ b.bl; omega) _
 ·exact Kd.R_far (p := ⟨b.bl, 0, none⟩) h.hN (fun k hk => by show k ≠ b.bl; omega) _
 ·have h1 := Kd.R_take (m := M.length) h.hL (by simp)
  rw [List.take_left] at h1
  exact Kd.R_far (p := ⟨b.bl, 0, none⟩) h1 (fun k hk => hk.2.1) _
end
theorem goesV {P : Program} {ops : Array Oper} {Q : Exit → Act → World → Prop} {oi : Oper} {N : Option Tmp} {a : Act} {w : World} {K : Act → World → Prop} {f : FuncId} {fn : Func} {v : Operand} {as_ : Array Operand} {ts : Array TypeId} {captured : Array Value} (hf : P.funcs[f]? = some fn) (hname : (fn.name == "runtime.NumGoroutine") = false) (hb : fn.body.isSome = true) (args : Array Value)
  (hw : Region.wanted oi (yielded ops a.tmps) = true) (hN : oi.dst = N) (hop : oi.op = .call { callee := .value v, args := as_, argTypes := ts }) (hv : a.eval v = .func (.func f) #[] captured) (hargs : as_.map a.eval ++ captured = args)
  (h : Calls P f args w fun e w' => ∃ v, e = .returned v ∧ K (a.put N v) w') : if Region.wanted oi (yielded ops a.tmps) = true then Oper.wp P oi a w K Q else K (a.put N undef) w := by
 refine call_ f args hw hN ?_ h
 have he := enters_ hf hname hb args w
 cases v with
 | func n => simp [Act.eval] at hv; unfold execOp; subst hargs; simp_all [resolve, Deferred.ofValue, invoke, Act.eval]
 | _ => unfold execOp; simp [hop, resolve, Deferred.ofValue, hv, invoke, hargs, he]
theorem eg_lt : ∀ args w, (callFunc 71 args).run Try.prog w = .ok (.enter 71 args) w := enters_of Try.func71 (by kernel_rfl) rfl
theorem rd_natl (M : List Int) (i : Nat) (h : i < M.length) : rd M (i : Int) = M[i] := by simp [rd, List.getElem?_eq_getElem h]
theorem lt_fresh {W : World} {H : Nat} {b : LB} {many : Nat} {all : Int} {AT : Option Addr} {cT : Nat} {T : List Int} {AN : Option Addr} {cN : Nat} {NR : List Int} {vL : Value} {M : List Int} (h : LC W H b many all AT cT T AN cN NR vL M) (hA : LA H b) : ∀ k, W.drew.heap.size ≤ k → b.lo ≤ k ∧ k ≠ b.bl ∧ k ≠ b.bf := fun k hk => by
 have h1 := blk_lt h.kl
 have h2 := blk_lt h.kf
 have h3 : W.drew.heap.size = W.heap.size := rfl
 have h4 := hA.h5
 exact ⟨by omega, by omega, by omega⟩
theorem lt_bl {W w6 : World} {H : Nat} {b : LB} {many : Nat} {all : Int} {AT : Option Addr} {cT : Nat} {T : List Int} {AN : Option Addr} {cN : Nat} {NR : List Int} {vL : Value} {M : List Int} (h : LC W H b many all AT cT T AN cN NR vL M) (hg : W.drew.grownBy w6 vL.ownBlock) : w6.heap[b.bl]? = some (.cells #[vL] 24 (0, 0)) :=
 blk_grown (blk_drew h.kl) hg (fun he => (h.own _ he.symm).2.1 rfl)
theorem lt_bt {W : World} {H : Nat} {b : LB} {many : Nat} {all : Int} {AT : Option Addr} {cT : Nat} {T : List Int} {AN : Option Addr} {cN : Nat} {NR : List Int} {vL : Value} {M : List Int} (h : LC W H b many all AT cT T AN cN NR vL M) (hA : LA H b) : some b.bt ≠ vL.ownBlock := fun he => by
 have := (h.own _ he.symm).1
 have := hA.h3
 omega
theorem lt_ad {W : World} {H : Nat} {b : LB} {many : Nat} {all : Int} {AT : Option Addr} {cT : Nat} {T : List Int} {AN : Option Addr} {cN : Nat} {NR : List Int} {vL : Value} {M : List Int} (h : LC W H b many all AT cT T AN cN NR vL M) (hA : LA H b) {ad : Addr} (ha : AT = some ad) {i : Nat} (hp : 0 < T.length) : some (ad.add i).block ≠ vL.ownBlock := fun he => by
 subst ha
 obtain ⟨g, cap, e1, e2⟩ := Kd.R_form h.hT hp
 have h1 := h.hT.1 g (by rw [e1]; rfl)
 injection e1 with e3
 injection e3 with e4
 subst e4
 rw [add_plain] at he
 have := (h.own _ he.symm).1
 have h1 : g < b.lo := h1
 have : b.lo ≤ g := this
 omega
theorem lt_cells {W : World} {H : Nat} {b : LB} {many : Nat} {all : Int} {AT : Option Addr} {cT : Nat} {T : List Int} {ad : Addr} {AN : Option Addr} {cN : Nat} {NR : List Int} {vL : Value} {M : List Int} (h : LC W H b many all AT cT T AN cN NR vL M) (ha : AN = some ad) (i : Nat) (hi : i < NR.length) : W.cell? ⟨b.bf, 0, none⟩ = some (lsV b) ∧ W.cell? ⟨b.bn, 0, none⟩ = some (.slice (some ad) NR.length cN) ∧ W.cell? (ad.add i) = some (.int .u64 NR[i]) := by
 subst ha
 refine ⟨(blk_cell h.kf 0).trans rfl, (blk_cell h.kn 0).trans rfl, ?_⟩
 obtain ⟨hn, hc, hr⟩ := Kd.R_reads' h.hN
 obtain ⟨ad', e1, e2⟩ := Kd.at_int hr (i : Int) (by omega) (by omega)
 cases e1
 rw [Int.toNat_natCast, rd_natl NR i hi] at e2
 exact e2
theorem lt_tcell {W : World} {H : Nat} {b : LB} {many : Nat} {all : Int} {AT : Option Addr} {cT : Nat} {T : List Int} {ad : Addr} {AN : Option Addr} {cN : Nat} {NR : List Int} {vL : Value} {M : List Int} (h : LC W H b many all AT cT T AN cN NR vL M) (ha : AT = some ad) (i : Nat) (hi : i < T.length) : W.cell? ⟨b.bt, 0, none⟩ = some (.slice (some ad) T.length cT) ∧ W.cell? (ad.add i) = some (.int .i64 T[i]) := by
 subst ha
 refine ⟨(blk_cell h.kt 0).trans rfl, ?_⟩
 obtain ⟨hn, hc, hr⟩ := Kd.R_reads' h.hT
 obtain ⟨ad', e1, e2⟩ := Kd.at_int hr (i : Int) (by omega) (by omega)
 cases e1
 rw [Int.toNat_natCast, rd_natl T i hi] at e2
 exact e2
theorem lt_some {k : IntKind} {w : World} {A : Option Addr} {l : List Int} (h : Kd.C (Kd.int k) w A l.length l) (hp : 0 < l.length) : ∃ ad, A = some ad := by
 obtain ⟨ad, e, _⟩ := Kd.at_int h 0 (by omega) (by omega)
 exact ⟨ad, e⟩
theorem lt_zip (T NR : List Int) (i : Nat) (h1 : i < T.length) (h2 : i < NR.length) : (T.zip NR).drop i = (T[i], NR[i]) :: (T.zip NR).drop (i + 1) := by
 rw [List.drop_eq_getElem_cons (by simp; omega)]
 simp
theorem lt_cut (A : Option Addr) (n c m : Nat) (hn : n = m + 1) (hc : n ≤ c) : ∀ W : World, (Instr.slice 24 (.slice A n c) none (some (.int .i64 ((n : Int) - 1))) none).run Try.prog W = .ok (.slice A m c) W := by
 intro W
 obtain ⟨i, hi, hsz⟩ := lt_int
 have hel : Try.prog.elem 24 = 2 := by kernel_rfl
 have ha : (A.map fun x => x.add 0) = A := by cases A <;> simp [Addr.add]
 rw [run_slice_h W 24 A n c (by rw [hel]; exact Try.underlying24) .i64 ((n : Int) - 1) (by omega) (by omega), hel, show ((n : Int) - 1).toNat = m by omega]
 simp [sizeOf, typeInfo, hi, hsz, sliced, Result.andThen, ha]
theorem lt_step (all t nr : Int) (r : List (Int × Int)) (m : Nat) (cov : Int) : srch all ((t, nr) :: r) (m + 1) cov = srO t (srch all r (m + 1) cov) (srch all r m (Go.bits .or .u64 cov nr)) := by
 simp only [srch]
 cases srch all r m (Go.bits .or .u64 cov nr) <;> rfl
def SL (w0 : World) (b : LB) (many : Nat) (all : Int) (AT : Option Addr) (cT : Nat) (T : List Int) (AN : Option Addr) (cN : Nat) (NR : List Int) (m : Nat) : Prop :=
 ∀ (vL : Value) (M : List Int) (i : Nat) (cov : Int) (W : World), LC W w0.heap.size b many all AT cT T AN cN NR vL M → Below w0.heap.size w0 W → M.length + m = many → i ≤ T.length →
  Calls Try.prog 71 #[.int .i64 (i : Int), .int .u64 cov, .pointer (some ⟨b.bl, 0, none⟩), .pointer (some ⟨b.bm, 0, none⟩), .pointer (some ⟨b.ba, 0, none⟩), .pointer (some ⟨b.bt, 0, none⟩), .pointer (some ⟨b.bf, 0, none⟩), .pointer (some ⟨b.bn, 0, none⟩)] W fun e W' => e = .returned (.bool (srch all ((T.zip NR).drop i) m cov).isSome) ∧ Below w0.heap.size w0 W' ∧ ∃ vL', LC W' w0.heap.size b many all AT cT T AN cN NR vL' (srM M (srch all ((T.zip NR).drop i) m cov))
set_option maxHeartbeats 2000000 in
set_option maxRecDepth 100000 in
theorem sl_zero (w0 : World) (b : LB) (many : Nat) (all : Int) (AT : Option Addr) (cT : Nat) (T : List Int) (AN : Option Addr) (cN : Nat) (NR : List Int) : SL w0 b many all AT cT T AN cN NR 0 := by
 intro vL M i cov W hN hB hM hi
 rw [lt_zero]
 have hm : M.length = many := by omega
 subst hm
 obtain ⟨A5, c5, rfl⟩ := Kd.R_slice hN.hL
 have HN := Aside0.mk hN
 have HB := Aside0.mk hB
 have c1 : W.cell? ⟨b.bl, 0, none⟩ = some (.slice A5 M.length c5) := (blk_cell hN.kl 0).trans rfl
 have c2 : W.cell? ⟨b.bm, 0, none⟩ = some (.int .i64 (M.length : Int)) := (blk_cell hN.km 0).trans rfl
 have c3 : W.cell? ⟨b.ba, 0, none⟩ = some (.int .u64 all) := (blk_cell hN.ka 0).trans rfl
 clear hN hB hM hi
 by_cases hc : cov = all
 ·have hc2 : (cov == all) = true := beq_iff_eq.2 hc
  go_enter Try.func71, Try.ntmps71
  go_wp2
  go_ret
  refine ⟨?_, HB.out, .slice A5 M.length c5, ?_⟩
  ·first | rfl | (simp [hc]; done)
  ·first | (simpa [hc, srM] using HN.out; done) | (simpa [srM] using HN.out)
 ·have hc2 : (cov == all) = false := beq_eq_false_iff_ne.2 hc
  go_enter Try.func71, Try.ntmps71
  go_wp2
  go_ret
  refine ⟨?_, HB.out, .slice A5 M.length c5, ?_⟩
  ·first | rfl | (simp [hc]; done)
  ·first | (simpa [hc, srM] using HN.out; done) | (simpa [srM] using HN.out)
set_option maxHeartbeats 4000000 in
set_option maxRecDepth 100000 in
theorem sl_succ (w0 : World) (b : LB) (many : Nat) (all : Int) (AT : Option Addr) (cT : Nat) (T : List Int) (AN : Option Addr) (cN : Nat) (NR : List Int) (hA : LA w0.heap.size b) (h4 : many ≤ 4) (hTl : T.length ≤ 1000) (hTN : NR.length = T.length) (m : Nat) (ih : SL w0 b many all AT cT T AN cN NR m) : SL w0 b many all AT cT T AN cN NR (m + 1) := by
 intro vL M i cov W hN hB hM hi
 have hM4 : M.length < 4 := by omega
 have hne : ((M.length : Int) == (many : Int)) = false := beq_eq_false_iff_ne.2 (by omega)
 have hne2 : ¬ (M.length : Int) = (many : Int) := by omega
 obtain ⟨A5, c5, rfl⟩ := Kd.R_slice hN.hL
 have HN := Aside0.mk hN
 have HA := Aside0.mk hA
 have HB := Aside0.mk hB
 have HIH := Aside0.mk ih
 have HM := Aside0.mk hM
 have c1 : W.cell? ⟨b.bl, 0, none⟩ = some (.slice A5 M.length c5) := (blk_cell hN.kl 0).trans rfl
 have c2 : W.cell? ⟨b.bm, 0, none⟩ = some (.int .i64 (many : Int)) := (blk_cell hN.km 0).trans rfl
 clear hN hA hB ih hM
 go_enter Try.func71, Try.ntmps71
 go_wp2
 go_loopg [11] T.length (fun gg s11 wr => ∃ (i' : Nat) (A' : Option Addr) (c' : Nat), s11 = .int .i64 (i' : Int) ∧ i' ≤ T.length ∧ T.length - i' ≤ gg ∧ Aside0 (LC wr w0.heap.size b many all AT cT T AN cN NR (.slice A' M.length c') M) ∧ Aside0 (Below w0.heap.size w0 wr) ∧ Aside0 (srch all ((T.zip NR).drop i) (m + 1) cov = srch all ((T.zip NR).drop i') (m + 1) cov))
 case atStart => exact ⟨i, A5, c5, rfl, hi, by omega, HN, HB, ⟨rfl⟩⟩
 case round =>
  clear c1 c2 HN HB
  obtain ⟨i', A', c', rfl, hi', hgg, HN, HB, HS⟩ := hrel
  have ct : wr.cell? ⟨b.bt, 0, none⟩ = some (.slice AT T.length cT) := (blk_cell HN.out.kt 0).trans rfl
  by_cases hlt : i' < T.length
  ·have hlt1 : (i' : Int) < (T.length : Int) := by omega
   obtain ⟨adT, hadT⟩ := lt_some (Kd.R_reads' HN.out.hT).2.2 (by omega)
   obtain ⟨adN, hadN⟩ := lt_some (Kd.R_reads' HN.out.hN).2.2 (by omega)
   have hiN : i' < NR.length := by omega
   have hTp : 0 < T.length := by omega
   have hi0 : (0 : Int) ≤ (i' : Int) := by omega
   go_wp2
   have cl : wr.drew.cell? ⟨b.bl, 0, none⟩ = some (.slice A' M.length c') := (blk_cell HN.out.kl 0).trans rfl
   clear ct
   obtain ⟨ct, cx⟩ : wr.drew.cell? ⟨b.bt, 0, none⟩ = some (.slice (some adT) T.length cT) ∧ wr.drew.cell? (adT.add i') = some (.int .i64 T[i']) := lt_tcell HN.out hadT i' hlt
   refine start_ (n := 8) (S := fun w' => w'.cell? ⟨b.bl, 0, none⟩ = some (.slice A' M.length c') ∧ w'.cell? ⟨b.bt, 0, none⟩ = some (.slice (some adT) T.length cT) ∧ w'.cell? (adT.add i') = some (.int .i64 T[i'])) (ds := [7]) #[false, false, false, false, false, false, false, false] (by kernel_rfl) rfl rfl ⟨cl, ct, cx⟩ (fun hHeld => ?_)
   refine take_ (i := 0) (N := some 26) (v := ?_) (a' := ?_) #[true, false, false, false, false, false, false, false] rfl rfl (by kernel_rfl) (fun _ _ _ h => h) (Or.inl ⟨by rfl, ?_⟩) hHeld ?_ ?_
   rotate_left
   ·rintro w' ⟨s0, s1, s2⟩
    go_simp
    with_reducible rfl
   rotate_left
   ·simp only [Act.put, List.setIfInBounds_toArray, List.set_cons_zero, List.set_cons_succ, i64_w, i32_w]
    rfl
   refine take_ (i := 1) (N := some 27) (v := ?_) (a' := ?_) #[true, true, false, false, false, false, false, false] rfl rfl (by kernel_rfl) (fun _ _ _ h => h) (Or.inl ⟨by rfl, ?_⟩) hHeld ?_ ?_
   rotate_left
   ·rintro w' ⟨s0, s1, s2⟩
    go_simp
    with_reducible rfl
   rotate_left
   ·simp only [Act.put, List.setIfInBounds_toArray, List.set_cons_zero, List.set_cons_succ, i64_w, i32_w]
    rfl
   refine pure_ (i := 2) (N := some 28) (v := ?_) (a' := ?_) #[true, true, true, false, false, false, false, false] rfl rfl (by kernel_rfl) (fun _ _ _ h => h) (Or.inl ⟨by rfl, ?_⟩) ?_ ?_
   rotate_left
   ·intro w'
    go_simp
    with_reducible rfl
   rotate_left
   ·simp only [Act.put, List.setIfInBounds_toArray, List.set_cons_zero, List.set_cons_succ, i64_w, i32_w]
    rfl
   refine pure_ (i := 3) (N := some 29) (v := ?_) (a' := ?_) #[true, true, true, true, false, false, false, false] rfl rfl (by kernel_rfl) (fun _ _ _ h => h) (Or.inl ⟨by rfl, ?_⟩) ?_ ?_
   rotate_left
   ·intro w'
    go_simp
    with_reducible rfl
   rotate_left
   ·simp only [Act.put, List.setIfInBounds_toArray, List.set_cons_zero, List.set_cons_succ, i64_w, i32_w]
    rfl
   refine take_ (i := 4) (N := some 30) (v := ?_) (a' := ?_) #[true, true, true, true, true, false, false, false] rfl rfl (by kernel_rfl) (fun _ _ _ h => h) (Or.inl ⟨by rfl, ?_⟩) hHeld ?_ ?_
   rotate_left
   ·rintro w' ⟨s0, s1, s2⟩
    go_simp
    with_reducible rfl
   rotate_left
   ·simp only [Act.put, List.setIfInBounds_toArray, List.set_cons_zero, List.set_cons_succ, i64_w, i32_w]
    rfl
   refine one_ (i := 5) (N := some 31) #[true, true, true, true, true, true, false, false] rfl rfl (by kernel_rfl) (by decide) (fun K hK => ?_)
   refine value_ (w1 := wr.drew.alloc (.cells #[.int .i64 T[i']] 2)) (v := .slice (some ⟨wr.drew.heap.size, 0, none⟩) 1 1) (by rfl) rfl (by go_simp) ?_
   refine hK.out _ _ ⟨(World.cell?_alloc_lt _ _ _ (World.block_lt_of_cell? _ _ hHeld.1)).trans hHeld.1, (World.cell?_alloc_lt _ _ _ (World.block_lt_of_cell? _ _ hHeld.2.1)).trans hHeld.2.1, (World.cell?_alloc_lt _ _ _ (World.block_lt_of_cell? _ _ hHeld.2.2)).trans hHeld.2.2⟩ (fun hHeld => ?_)
   clear hK K
   refine norm_ (a' := ?_) ?_ ?_
   rotate_left
   ·show Act.put _ (some 31) _ = _
    simp only [Act.put, List.setIfInBounds_toArray, List.set_cons_zero, List.set_cons_succ, i64_w, i32_w]
    rfl
   refine one_ (i := 6) (N := some 32) #[true, true, true, true, true, true, true, false] rfl rfl (by kernel_rfl) (by decide) (fun K hK => ?_)
   refine Kd.R_append_step (Kd.int .i64) (w0 := w0) w0.heap.size (by rfl) (.tmp 26) (.tmp 31) 24 2 (.int .i64 0) 8 (by rfl) Try.underlying24 lt_info2 rfl (by decide) (by omega) (.slice A' M.length c') M T[i'] [.int .i64 T[i']] (fun k => b.lo ≤ k ∧ k ≠ b.bl ∧ k ≠ b.bf) (fun _ => False) (by rfl) (by rfl) rfl (fun _ h => h.elim) (lt_fresh HN.out HA.out) (Kd.R_drew HN.out.hL) (below_drew HB.out) HB.out.size (by omega) ?_
   intro v6 w6 hR6 hb6 hg6 hat6
   have hf6 : w6.frozen? ⟨b.bl, 0, none⟩ = false := blk_frozen (lt_bl HN.out hg6) 0
   have hc6 : w6.cell? ⟨b.bl, 0, none⟩ = some (.slice A' M.length c') := (blk_cell (lt_bl HN.out hg6) 0).trans rfl
   have hhb : w6.cell? ⟨b.bt, 0, none⟩ = _ := World.grownBy.cell hg6 ct (lt_bt HN.out HA.out)
   have hhx := World.grownBy.cell hg6 cx (lt_ad HN.out HA.out hadT hTp)
   obtain ⟨A6, c6, rfl⟩ := Kd.R_slice hR6
   refine hK.out _ _ ⟨hc6, hhb, hhx⟩ (fun hHeld => ?_)
   clear hK K
   refine norm_ (a' := ?_) ?_ ?_
   rotate_left
   ·show Act.put _ (some 32) _ = _
    simp only [Act.put, List.setIfInBounds_toArray, List.set_cons_zero, List.set_cons_succ, i64_w, i32_w]
    rfl
   refine last_ (i := 7) (N := none) #[true, true, true, true, true, true, true, true] rfl rfl (by kernel_rfl) (by decide) (fun K hK => ?_)
   refine skip_ (w1 := w6.setCell ⟨b.bl, 0, none⟩ (.slice A6 (M ++ [T[i']]).length c6)) (by rfl) rfl (by go_simp) ?_
   refine hK.out _ _ ?_
   clear hK K
   refine done_ (by kernel_rfl) ?_
   have HN6 := Aside0.mk (HN.out.push HA.out hg6 hR6)
   have HB6 := Aside0.mk (show Below w0.heap.size w0 (w6.setCell ⟨b.bl, 0, none⟩ (.slice A6 (M ++ [T[i']]).length c6)) from below_set hb6 (Nat.le_trans HA.out.h0 HA.out.h5))
   generalize w6.setCell ⟨b.bl, 0, none⟩ (.slice A6 (M ++ [T[i']]).length c6) = W7 at HN6 HB6 ⊢
   clear cl ct cx hHeld hg6 hR6 hb6 hat6 hc6 hf6 hhb hhx HN HB
   have HN7 := Aside0.mk (HN6.out.below (W' := W7.drew) (below_drew (Below.refl _ _)))
   have HB7 := Aside0.mk (below_drew HB6.out)
   clear HN6 HB6
   obtain ⟨cf, cn, cy⟩ := lt_cells HN7.out hadN i' hiN
   have hc := HIH.out _ _ (i' + 1) (Go.bits .or .u64 cov NR[i']) W7.drew HN7.out HB7.out (by have := HM.out; simp; omega) (by omega)
   obtain ⟨s8, hs8⟩ : ∃ s8, s8 = srch all ((T.zip NR).drop (i' + 1)) m (Go.bits .or .u64 cov NR[i']) := ⟨_, rfl⟩
   rw [← hs8, show ((i' + 1 : Nat) : Int) = (i' : Int) + 1 by omega] at hc
   obtain ⟨b8, hb8⟩ : ∃ b8, b8 = s8.isSome := ⟨_, rfl⟩
   rw [← hb8] at hc
   have HC := Aside0.mk hc
   have HS8 := Aside0.mk hs8
   have HBB := Aside0.mk hb8
   clear hc hs8 hb8
   have heg := eg_lt
   have hw1 : IntKind.i64.wrap ((i' : Int) + 1) = (i' : Int) + 1 := by
    rw [i64_w]
    unfold wrap64; omega
   go_wp2
   refine start_ (n := 10) (S := fun w' => w'.cell? ⟨b.bf, 0, none⟩ = some (lsV b) ∧ w'.cell? ⟨b.bn, 0, none⟩ = some (.slice (some adN) NR.length cN) ∧ w'.cell? (adN.add i') = some (.int .u64 NR[i'])) (ds := []) #[false, false, false, false, false, false, false, false, false, false] (by kernel_rfl) rfl rfl ⟨cf, cn, cy⟩ (fun hHeld => ?_)
   refine take_ (i := 0) (N := some 33) (v := ?_) (a' := ?_) #[true, false, false, false, false, false, false, false, false, false] rfl rfl (by kernel_rfl) (fun _ _ _ h => h) (Or.inl ⟨by rfl, ?_⟩) hHeld ?_ ?_
   rotate_left
   ·rintro w' ⟨s0, s1, s2⟩
    go_simp
    with_reducible rfl
   rotate_left
   ·simp only [Act.put, List.setIfInBounds_toArray, List.set_cons_zero, List.set_cons_succ, i64_w, i32_w]
    rfl
   refine pure_ (i := 1) (N := some 34) (v := ?_) (a' := ?_) #[true, true, false, false, false, false, false, false, false, false] rfl rfl (by kernel_rfl) (fun _ _ _ h => h) (Or.inl ⟨by rfl, ?_⟩) ?_ ?_
   rotate_left
   ·intro w'
    go_simp
    with_reducible rfl
   rotate_left
   ·simp only [Act.put, List.setIfInBounds_toArray, List.set_cons_zero, List.set_cons_succ, i64_w, i32_w]
    rfl
   refine pure_ (i := 2) (N := some 35) (v := ?_) (a' := ?_) #[true, true, true, false, false, false, false, false, false, false] rfl rfl (by kernel_rfl) (fun _ _ _ h => h) (Or.inl ⟨by rfl, ?_⟩) ?_ ?_
   rotate_left
   ·intro w'
    go_simp
    with_reducible rfl
   rotate_left
   ·simp only [Act.put, List.setIfInBounds_toArray, List.set_cons_zero, List.set_cons_succ, i64_w, i32_w]
    rfl
   refine pure_ (i := 3) (N := some 36) (v := ?_) (a' := ?_) #[true, true, true, true, false, false, false, false, false, false] rfl rfl (by kernel_rfl) (fun _ _ _ h => h) (Or.inl ⟨by rfl, ?_⟩) ?_ ?_
   rotate_left
   ·intro w'
    go_simp
    with_reducible rfl
   rotate_left
   ·simp only [Act.put, List.setIfInBounds_toArray, List.set_cons_zero, List.set_cons_succ, i64_w, i32_w]
    rfl
   refine take_ (i := 4) (N := some 37) (v := ?_) (a' := ?_) #[true, true, true, true, true, false, false, false, false, false] rfl rfl (by kernel_rfl) (fun _ _ _ h => h) (Or.inl ⟨by rfl, ?_⟩) hHeld ?_ ?_
   rotate_left
   ·rintro w' ⟨s0, s1, s2⟩
    go_simp
    with_reducible rfl
   rotate_left
   ·simp only [Act.put, List.setIfInBounds_toArray, List.set_cons_zero, List.set_cons_succ, i64_w, i32_w]
    rfl
   refine pure_ (i := 5) (N := some 38) (v := ?_) (a' := ?_) #[true, true, true, true, true, true, false, false, false, false] rfl rfl (by kernel_rfl) (fun _ _ _ h => h) (Or.inl ⟨by rfl, ?_⟩) ?_ ?_
   rotate_left
   ·intro w'
    go_simp
    with_reducible rfl
   rotate_left
   ·simp only [Act.put, List.setIfInBounds_toArray, List.set_cons_zero, List.set_cons_succ, i64_w, i32_w]
    rfl
   refine pure_ (i := 6) (N := some 39) (v := ?_) (a' := ?_) #[true, true, true, true, true, true, true, false, false, false] rfl rfl (by kernel_rfl) (fun _ _ _ h => h) (Or.inl ⟨by rfl, ?_⟩) ?_ ?_
   rotate_left
   ·intro w'
    go_simp
    with_reducible rfl
   rotate_left
   ·simp only [Act.put, List.setIfInBounds_toArray, List.set_cons_zero, List.set_cons_succ, i64_w, i32_w]
    rfl
   refine take_ (i := 7) (N := some 40) (v := ?_) (a' := ?_) #[true, true, true, true, true, true, true, true, false, false] rfl rfl (by kernel_rfl) (fun _ _ _ h => h) (Or.inl ⟨by rfl, ?_⟩) hHeld ?_ ?_
   rotate_left
   ·rintro w' ⟨s0, s1, s2⟩
    go_simp
    with_reducible rfl
   rotate_left
   ·simp only [Act.put, List.setIfInBounds_toArray, List.set_cons_zero, List.set_cons_succ, i64_w, i32_w]
    rfl
   refine pure_ (i := 8) (N := some 41) (v := ?_) (a' := ?_) #[true, true, true, true, true, true, true, true, true, false] rfl rfl (by kernel_rfl) (fun _ _ _ h => h) (Or.inl ⟨by rfl, ?_⟩) ?_ ?_
   rotate_left
   ·intro w'
    go_simp
    with_reducible rfl
   rotate_left
   ·simp only [Act.put, List.setIfInBounds_toArray, List.set_cons_zero, List.set_cons_succ, i64_w, i32_w]
    rfl
   refine one_ (i := 9) (N := some 42) #[true, true, true, true, true, true, true, true, true, true] rfl rfl (by kernel_rfl) (by decide) (fun K hK => ?_)
   refine goesV Try.func71 (by kernel_rfl) rfl #[.int .i64 ((i' : Int) + 1), .int .u64 (Go.bits .or .u64 cov NR[i']), .pointer (some ⟨b.bl, 0, none⟩), .pointer (some ⟨b.bm, 0, none⟩), .pointer (some ⟨b.ba, 0, none⟩), .pointer (some ⟨b.bt, 0, none⟩), .pointer (some ⟨b.bf, 0, none⟩), .pointer (some ⟨b.bn, 0, none⟩)] (by rfl) rfl rfl (by rfl) (by first | rfl | (simp; exact ⟨rfl, rfl⟩) | (simp; rfl) | (simp [List.append_toArray]; done)) ?_
   refine HC.out.mono ?_
   rintro e w8 ⟨rfl, hB8, vL8, hN8⟩
   refine ⟨_, rfl, ?_⟩
   have hx8 := lt_cells hN8 hadN i' hiN
   refine hK.out _ _ hx8 (fun hHeld => ?_)
   clear hK K
   refine norm_ (a' := ?_) ?_ ?_
   rotate_left
   ·show Act.put _ (some 42) _ = _
    simp only [Act.put, List.setIfInBounds_toArray, List.set_cons_zero, List.set_cons_succ, i64_w, i32_w]
    rfl
   refine done_ (by kernel_rfl) ?_
   clear hx8 hHeld cf cn cy heg hw1
   have hz : srch all ((T.zip NR).drop i) (m + 1) cov = srO T[i'] (srch all ((T.zip NR).drop (i' + 1)) (m + 1) cov) s8 := by
    rw [HS.out, lt_zip T NR i' hlt hiN, HS8.out]
    exact lt_step _ _ _ _ _ _
   have HZ := Aside0.mk hz
   clear hz
   cases s8 with
   | some l =>
    have hb8 : b8 = true := HBB.out
    subst hb8
    go_wp2
    go_ret
    have hz := HZ.out
    refine ⟨by rw [hz]; rfl, hB8, vL8, ?_⟩
    rw [hz]
    have e : srM M (srO T[i'] (srch all ((T.zip NR).drop (i' + 1)) (m + 1) cov) (some l)) = srM (M ++ [T[i']]) (some l) := by simp [srM, srO]
    rw [e]
    exact hN8
   | none =>
    have hb8 : b8 = false := HBB.out
    subst hb8
    have hN8 : LC w8 w0.heap.size b many all AT cT T AN cN NR vL8 (M ++ [T[i']]) := hN8
    obtain ⟨A8, c8, rfl⟩ := Kd.R_slice hN8.hL
    have hN8 := Aside0.mk hN8
    obtain ⟨n8, hn8⟩ : ∃ n8, n8 = (M ++ [T[i']]).length := ⟨_, rfl⟩
    have cl : w8.cell? ⟨b.bl, 0, none⟩ = some (.slice A8 n8 c8) := by rw [hn8]; exact (blk_cell hN8.out.kl 0).trans rfl
    have fl : w8.frozen? ⟨b.bl, 0, none⟩ = false := blk_frozen hN8.out.kl 0
    have hn9 : n8 = M.length + 1 := by rw [hn8]; simp
    have hn1 : (0 : Int) ≤ (n8 : Int) - 1 := by omega
    have hn2 : (n8 : Int) ≤ 4 := by omega
    have hcut := lt_cut A8 n8 c8 M.length hn9 (by rw [hn8]; exact (Kd.R_reads' hN8.out.hL).2.1)
    clear hn8 hn9
    go_wp2
    go_roundg (T.length - (i' + 1))
    case measure => omega
    case rel =>
     exact ⟨i' + 1, A8, c8, by first | rfl | (go_num; done) | (congr 1; omega), by omega, by omega, ⟨hN8.out.pop HA.out⟩, ⟨below_set hB8 (Nat.le_trans HA.out.h0 HA.out.h5)⟩, ⟨HZ.out⟩⟩
  ·have hlt1 : ¬ (i' : Int) < (T.length : Int) := by omega
   have hit : i' = T.length := by omega
   have HI := Aside0.mk hit
   clear hit
   go_wp2
   go_ret
   have hz : srch all ((T.zip NR).drop i) (m + 1) cov = none := by
    rw [HS.out, HI.out, List.drop_eq_nil_of_le (by simp; omega)]
    rfl
   refine ⟨by rw [hz]; rfl, HB.out, .slice A' M.length c', ?_⟩
   rw [hz]
   exact HN.out
theorem sl_all (w0 : World) (b : LB) (many : Nat) (all : Int) (AT : Option Addr) (cT : Nat) (T : List Int) (AN : Option Addr) (cN : Nat) (NR : List Int) (hA : LA w0.heap.size b) (h4 : many ≤ 4) (hTl : T.length ≤ 1000) (hTN : NR.length = T.length) : ∀ m, SL w0 b many all AT cT T AN cN NR m
 | 0 => sl_zero w0 b many all AT cT T AN cN NR
 | m + 1 => sl_succ w0 b many all AT cT T AN cN NR hA h4 hTl hTN m (sl_all w0 b many all AT cT T AN cN NR hA h4 hTl hTN m)
theorem run_store_func {P : Program} {w : World} {a : Addr} {m : Mode} (f : Fn) (x y : Array Value) : (store a (.func f x y) m).run P w = stored P w a (.func f x y) m := run_store P w a _ m rfl
def nearF (f : Int → Bool) : List Int → Nat → Int → Int
 | [], _, A => A
 | d :: D, i, A => nearF f D (i + 1) (if f d = true then Go.bits .or .u64 A (IntKind.u64.wrap (2 ^ i)) else A)
def fstI (f : Nat → Option (List Int)) : Nat → Nat → List Int × Int
 | 0, _ => ([], 3)
 | d + 1, j => match f j with
  | some l => (l, 0)
  | none => fstI f d (j + 1)
theorem lt_info8 : (Try.prog.info? 68).map (fun i => (i.zero, i.size, i.bytes)) = some (some (.int .u64 0), 1, 8) := by kernel_rfl
structure LN (W : World) (H : Nat) (q : List Int) (gl gx gn lo : Nat) (AT : Option Addr) (cT : Nat) (T : List Int) (AD : Option Addr) (cD : Nat) (D : List Int) (vN : Value) (NR : List Int) : Prop where
 kl : W.heap[gl]? = some (.cells (q.map (Value.int .i64)).toArray 27 (0, 0))
 kx : W.heap[gx]? = some (.cells #[.slice AT T.length cT] 24 (0, 0))
 kn : W.heap[gn]? = some (.cells #[vN] 67 (0, 0))
 hT : Kd.R (Kd.int .i64) 2 W H (fun k => k < lo) (.slice AT T.length cT) T
 hD : Kd.R (Kd.int .i64) 2 W H (fun k => k < lo) (.slice AD D.length cD) D
 hN : Kd.R (Kd.int .u64) 68 W H (fun k => lo ≤ k ∧ k ≠ gn) vN NR
 l1 : gl < lo
 l2 : gx < lo
 l3 : lo ≤ gn
 l4 : H ≤ lo
section
variable {W : World} {H : Nat} {q : List Int} {gl gx gn lo : Nat} {AT : Option Addr} {cT : Nat} {T : List Int} {AD : Option Addr} {cD : Nat} {D : List Int} {vN : Value} {NR : List Int}
theorem LN.below (h : LN W H q gl gx gn lo AT cT T AD cD D vN NR) {W' : World} (hb : Below W.heap.size W W') : LN W' H q gl gx gn lo AT cT T AD cD D vN NR :=
 ⟨blk_below h.kl hb, blk_below h.kx hb, blk_below h.kn hb, Kd.R_below h.hT hb, Kd.R_below h.hD hb, Kd.R_below h.hN hb, h.l1, h.l2, h.l3, h.l4⟩
theorem LN.push (h : LN W H q gl gx gn lo AT cT T AD cD D vN NR) {w6 : World} {v6 : Value} {NR' : List Int} (hg : W.grownBy w6 vN.ownBlock) (hR : Kd.R (Kd.int .u64) 68 w6 H (fun k => lo ≤ k ∧ k ≠ gn) v6 NR') : LN (w6.setCell ⟨gn, 0, none⟩ v6) H q gl gx gn lo AT cT T AD cD D v6 NR' := by
 have own : ∀ k, vN.ownBlock = some k → lo ≤ k ∧ k ≠ gn := h.hN.1
 have g0 : ∀ {g : Nat} {o : Obj}, W.heap[g]? = some o → (∀ k, vN.ownBlock = some k → k ≠ g) → w6.heap[g]? = some o := fun hk hn => blk_grown hk hg (fun he => hn _ he.symm rfl)
 have l1 := h.l1
 have l2 := h.l2
 have l3 := h.l3
 refine ⟨blk_far (g0 h.kl (fun k hk => by have := (own k hk).1; omega)) (by show gl ≠ gn; omega) _, blk_far (g0 h.kx (fun k hk => by have := (own k hk).1; omega)) (by show gx ≠ gn; omega) _, blk_set (g0 h.kn (fun k hk => (own k hk).2)) 0 v6, ?_, ?_, ?_, h.l1, h.l2, h.l3, h.l4⟩
 ·exact Kd.R_far (p := ⟨gn, 0, none⟩) (Kd.R_grown h.hT hg (fun k hk he => by have := (own k he.symm).1; omega)) (fun k hk => by show k ≠ gn; omega) v6
 ·exact Kd.R_far (p := ⟨gn, 0, none⟩) (Kd.R_grown h.hD hg (fun k hk he => by have := (own k he.symm).1; omega)) (fun k hk => by show k ≠ gn; omega) v6
 ·exact Kd.R_far (p := ⟨gn, 0, none⟩) hR (fun k hk => hk.2) v6
theorem LN.start {gl gx : Nat} (kl : W.heap[gl]? = some (.cells (q.map (Value.int .i64)).toArray 27 (0, 0))) (kx : W.heap[gx]? = some (.cells #[.slice AT T.length cT] 24 (0, 0))) (hT : Kd.R (Kd.int .i64) 2 W H (fun _ => True) (.slice AT T.length cT) T) (hD : Kd.R (Kd.int .i64) 2 W H (fun _ => True) (.slice AD D.length cD) D) (hH : H ≤ W.heap.size) :
  LN ((W.alloc (.cells #[] 68)).alloc (.cells #[.slice (some ⟨W.heap.size, 0, none⟩) 0 0] 67)) H q gl gx (W.heap.size + 1) W.heap.size AT cT T AD cD D (.slice (some ⟨W.heap.size, 0, none⟩) 0 0) [] := by
 have e1 : (W.alloc (.cells #[] 68)).heap.size = W.heap.size + 1 := by simp
 have hR : Kd.R (Kd.int .u64) 68 (W.alloc (.cells #[] 68)) H (fun k => k = W.heap.size) (.slice (some ⟨W.heap.size, 0, none⟩) 0 0) [] := ⟨fun k hk => (Option.some.inj hk).symm, OwnRow.lit W H (Reps.none _ _) hH (by simp)⟩
 refine ⟨blk_alloc (blk_alloc kl _) _, blk_alloc (blk_alloc kx _) _, ?_, Kd.R_alloc (Kd.R_alloc (Kd.R_mono (Kd.R_bound hT) (fun k hk => hk.2.2.1)) _) _, Kd.R_alloc (Kd.R_alloc (Kd.R_mono (Kd.R_bound hD) (fun k hk => hk.2.2.1)) _) _, Kd.R_mono (Kd.R_alloc hR _) (fun k hk => by rw [hk]; exact ⟨Nat.le_refl _, by omega⟩), blk_lt kl, blk_lt kx, by omega, hH⟩
 have h1 := blk_new (W.alloc (.cells #[] 68)) (.cells #[.slice (some ⟨W.heap.size, 0, none⟩) 0 0] 67)
 rw [e1] at h1
 exact h1
end
structure LQ (W : World) (H : Nat) (gx gn ba : Nat) (all : Int) (AT : Option Addr) (cT : Nat) (T : List Int) (AN : Option Addr) (cN : Nat) (NR : List Int) : Prop where
 kx : W.heap[gx]? = some (.cells #[.slice AT T.length cT] 24 (0, 0))
 kn : W.heap[gn]? = some (.cells #[.slice AN NR.length cN] 67 (0, 0))
 ka : W.heap[ba]? = some (.cells #[.int .u64 all] 68 (0, 0))
 hT : Kd.R (Kd.int .i64) 2 W H (fun _ => True) (.slice AT T.length cT) T
 hN : Kd.R (Kd.int .u64) 68 W H (fun _ => True) (.slice AN NR.length cN) NR
section
variable {W : World} {H gx gn ba : Nat} {all : Int} {AT : Option Addr} {cT : Nat} {T : List Int} {AN : Option Addr} {cN : Nat} {NR : List Int}
theorem LQ.below (h : LQ W H gx gn ba all AT cT T AN cN NR) {W' : World} (hb : Below W.heap.size W W') : LQ W' H gx gn ba all AT cT T AN cN NR :=
 ⟨blk_below h.kx hb, blk_below h.kn hb, blk_below h.ka hb, Kd.R_below h.hT hb, Kd.R_below h.hN hb⟩
theorem LC.back {b : LB} {many : Nat} {vL : Value} {M : List Int} (h : LC W H b many all AT cT T AN cN NR vL M) : LQ W H b.bt b.bn b.ba all AT cT T AN cN NR :=
 ⟨h.kt, h.kn, h.ka, Kd.R_mono h.hT (fun _ _ => trivial), Kd.R_mono h.hN (fun _ _ => trivial)⟩
def lbOf (W : World) (gm ba gx gn : Nat) : LB := { bl := W.heap.size + 1, bm := gm, ba := ba, bt := gx, bf := W.heap.size + 1 + 1, bn := gn, lo := W.heap.size }
theorem LQ.apart (h : LQ W H gx gn ba all AT cT T AN cN NR) {gm : Nat} {v : Value} (km : W.heap[gm]? = some (.cells #[v] 3 (0, 0))) (hH : H ≤ W.heap.size) : LA H (lbOf W gm ba gx gn) := by
 have h1 := blk_lt h.kx
 have h2 := blk_lt h.kn
 have h3 := blk_lt h.ka
 have h4 := blk_lt km
 constructor <;> simp only [lbOf] <;> omega
theorem LQ.start (h : LQ W H gx gn ba all AT cT T AN cN NR) {gm many : Nat} (km : W.heap[gm]? = some (.cells #[.int .i64 (many : Int)] 3 (0, 0))) (hH : H ≤ W.heap.size) :
  LC (((W.alloc (.cells #[] 2)).alloc (.cells #[.slice (some ⟨W.heap.size, 0, none⟩) 0 0] 24)).alloc (.cells #[lsV (lbOf W gm ba gx gn)] 69)) H (lbOf W gm ba gx gn) many all AT cT T AN cN NR (.slice (some ⟨W.heap.size, 0, none⟩) 0 0) [] := by
 have e1 : (W.alloc (.cells #[] 2)).heap.size = W.heap.size + 1 := by simp
 have e2 : ((W.alloc (.cells #[] 2)).alloc (.cells #[.slice (some ⟨W.heap.size, 0, none⟩) 0 0] 24)).heap.size = W.heap.size + 1 + 1 := by simp
 have hR : Kd.R (Kd.int .i64) 2 (W.alloc (.cells #[] 2)) H (fun k => k = W.heap.size) (.slice (some ⟨W.heap.size, 0, none⟩) 0 0) [] := ⟨fun k hk => (Option.some.inj hk).symm, OwnRow.lit W H (Reps.none _ _) hH (by simp)⟩
 have k1 := blk_new (W.alloc (.cells #[] 2)) (.cells #[.slice (some ⟨W.heap.size, 0, none⟩) 0 0] 24)
 rw [e1] at k1
 have k3 := blk_new ((W.alloc (.cells #[] 2)).alloc (.cells #[.slice (some ⟨W.heap.size, 0, none⟩) 0 0] 24)) (.cells #[lsV (lbOf W gm ba gx gn)] 69)
 rw [e2] at k3
 refine ⟨blk_alloc k1 _, blk_alloc (blk_alloc (blk_alloc km _) _) _, blk_alloc (blk_alloc (blk_alloc h.ka _) _) _, blk_alloc (blk_alloc (blk_alloc h.kx _) _) _, k3, blk_alloc (blk_alloc (blk_alloc h.kn _) _) _, ?_, ?_, ?_⟩
 ·exact Kd.R_alloc (Kd.R_alloc (Kd.R_alloc (Kd.R_mono (Kd.R_bound h.hT) (fun k hk => hk.2.2.1)) _) _) _
 ·exact Kd.R_alloc (Kd.R_alloc (Kd.R_alloc (Kd.R_mono (Kd.R_bound h.hN) (fun k hk => hk.2.2.1)) _) _) _
 ·exact Kd.R_mono (Kd.R_alloc (Kd.R_alloc hR _) _) (fun k hk => by subst hk; exact ⟨Nat.le_refl _, by show W.heap.size ≠ W.heap.size + 1; omega, by show W.heap.size ≠ W.heap.size + 1 + 1; omega⟩)
end
end Go.Proofs.Ytchlbkcladfloaa.DG
