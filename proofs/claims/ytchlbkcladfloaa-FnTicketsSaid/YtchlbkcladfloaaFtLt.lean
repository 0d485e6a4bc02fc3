/- The search of the fewest tickets, walked: a closure that calls itself over a list that it grows and cuts. At most 4 tickets sought. -/
import Derived.Test.YtchlbkcladfloaaProg
import Derived.Below
import Derived.Deep.Draws
import Derived.Deep.AppendLies
import Derived.Maps.AppendAt
import Derived.OwnWalk
import Derived.Laws.BytesArg
import Derived.Laws.MakeOwn
import Derived.Laws.OwnMore
import Derived.Deep.OwnRows
import Derived.Tactics
import Derived.Lib.ConvBytes
import Derived.Laws.Slices
import Derived.WalkKit
import Derived.KernelRfl
import Derived.RowKit3
import Derived.Deep.LoopGhost
import Derived.Deep.QuietTactic
import Derived.BigQuiet
import Derived.WideLaws
import Derived.Deep.DeepCutAuto
import Derived.Deep.CutBlock
import Derived.Deep.RegionHeld3
import Derived.Laws.Rows
import Derived.Lib.AppendStr
import Derived.ArgAppend
import Derived.Laws.IdiomCopy
import Derived.OrdersHeld
import Derived.Laws.BitsLemmas
import Derived.RowKit
import Derived.Laws.CopyOwn
import Derived.RegionTactic
import Derived.BigRegion
import Derived.ChangeAlike
import Derived.StillTailTactics
import Derived.Test.YtchlbkcladfloaaFtWWords
import Derived.Test.YtchlbkcladfloaaFtWLast
import Derived.Test.YtchlbkcladfloaaFtWTab
import Derived.Test.YtchlbkcladfloaaFtWQPut
import Derived.Test.YtchlbkcladfloaaFtWApart
import Derived.Test.YtchlbkcladfloaaFtWArr
import Derived.Test.YtchlbkcladfloaaFtWFoot
import Derived.Test.YtchlbkcladfloaaFtWKept
import Derived.Test.YtchlbkcladfloaaFtWShare
import Derived.Test.YtchlbkcladfloaaFtWN
import Derived.Test.YtchlbkcladfloaaFtWGuard
import Derived.Test.YtchlbkcladfloaaFtWMore
import Derived.Deep.RegionLaw
import Derived.Deep.DrawnRows
import Derived.Outline
import Derived.Shelf.Abstract
namespace Go.Proofs.Ytchlbkcladfloaa.DG
open Go Go.RowKit Go.Proofs.YtchlbkcladfloaaW.PrintWords Go.Proofs.YtchlbkcladfloaaW.PrintLast Go.Proofs.YtchlbkcladfloaaW.PrintMore
set_option linter.unusedVariables false
set_option linter.unusedSimpArgs false
theorem lt_info2 : (Try.prog.info? 2).map (fun i => (i.zero, i.size, i.bytes)) = some (some (.int .i64 0), 1, 8) := by kernel_rfl
theorem lt_int : ∃ i, Try.prog.info? 2 = some i ∧ i.size = 1 := by
  have h := lt_info2
  cases hi : Try.prog.info? 2 with
  | none => rw [hi] at h; cases h
  | some i =>
    rw [hi] at h
    simp only [Option.map_some, Option.some.injEq, Prod.mk.injEq] at h
    exact ⟨i, rfl, h.2.1⟩
/-- The closure's variables: in which blocks they lie. -/
structure LB where
  bl : Nat
  bm : Nat
  ba : Nat
  bt : Nat
  bf : Nat
  bn : Nat
  lo : Nat
def lsV (b : LB) : Value := .func (.func 71) #[] #[.pointer (some ⟨b.bl, 0, none⟩), .pointer (some ⟨b.bm, 0, none⟩), .pointer (some ⟨b.ba, 0, none⟩), .pointer (some ⟨b.bt, 0, none⟩), .pointer (some ⟨b.bf, 0, none⟩), .pointer (some ⟨b.bn, 0, none⟩)]
structure LA (H : Nat) (b : LB) : Prop where
  h0 : H ≤ b.lo
  h1 : b.bm < b.lo
  h2 : b.ba < b.lo
  h3 : b.bt < b.lo
  h4 : b.bn < b.lo
  h5 : b.lo ≤ b.bl
  h6 : b.lo ≤ b.bf
  h7 : b.bf ≠ b.bl
/-- What memory holds while the search goes on. -/
structure LC (W : World) (H : Nat) (b : LB) (many : Nat) (all : Int) (AT : Option Addr) (cT : Nat) (T : List Int) (AN : Option Addr) (cN : Nat) (NR : List Int) (vL : Value) (M : List Int) : Prop where
  kl : W.heap[b.bl]? = some (.cells #[vL] 24 (0, 0))
  km : W.heap[b.bm]? = some (.cells #[.int .i64 (many : Int)] 3 (0, 0))
  ka : W.heap[b.ba]? = some (.cells #[.int .u64 all] 68 (0, 0))
  kt : W.heap[b.bt]? = some (.cells #[.slice AT T.length cT] 24 (0, 0))
  kf : W.heap[b.bf]? = some (.cells #[lsV b] 69 (0, 0))
  kn : W.heap[b.bn]? = some (.cells #[.slice AN NR.length cN] 67 (0, 0))
  hT : Kd.R (Kd.int .i64) 2 W H (fun k => k < b.lo) (.slice AT T.length cT) T
  hN : Kd.R (Kd.int .u64) 68 W H (fun k => k < b.lo) (.slice AN NR.length cN) NR
  hL : Kd.R (Kd.int .i64) 2 W H (fun k => b.lo ≤ k ∧ k ≠ b.bl ∧ k ≠ b.bf) vL M
section
variable {W : World} {H : Nat} {b : LB} {many : Nat} {all : Int} {AT : Option Addr} {cT : Nat} {T : List Int} {AN : Option Addr} {cN : Nat} {NR : List Int} {vL : Value} {M : List Int}
theorem LC.below (h : LC W H b many all AT cT T AN cN NR vL M) {W' : World} (hb : Below W.heap.size W W') : LC W' H b many all AT cT T AN cN NR vL M :=
  ⟨blk_below h.kl hb, blk_below h.km hb, blk_below h.ka hb, blk_below h.kt hb, blk_below h.kf hb, blk_below h.kn hb, Kd.R_below h.hT hb, Kd.R_below h.hN hb, Kd.R_below h.hL hb⟩
theorem LC.own (h : LC W H b many all AT cT T AN cN NR vL M) : ∀ k, vL.ownBlock = some k → b.lo ≤ k ∧ k ≠ b.bl ∧ k ≠ b.bf := h.hL.1
end
/-- What memory holds while the tickets' sets are made. -/
structure LN (W : World) (H : Nat) (q : List Int) (gl gx gn lo : Nat) (AT : Option Addr) (cT : Nat) (T : List Int) (AD : Option Addr) (cD : Nat) (D : List Int) (vN : Value) (NR : List Int) : Prop where
  kl : W.heap[gl]? = some (.cells (q.map (Value.int .i64)).toArray 27 (0, 0))
  kx : W.heap[gx]? = some (.cells #[.slice AT T.length cT] 24 (0, 0))
  kn : W.heap[gn]? = some (.cells #[vN] 67 (0, 0))
  hT : Kd.R (Kd.int .i64) 2 W H (fun k => k < lo) (.slice AT T.length cT) T
  hD : Kd.R (Kd.int .i64) 2 W H (fun k => k < lo) (.slice AD D.length cD) D
  hN : Kd.R (Kd.int .u64) 68 W H (fun k => lo ≤ k ∧ k ≠ gn) vN NR
  l1 : gl < lo
  l2 : gx < lo
  l3 : lo ≤ gn
  l4 : H ≤ lo
section
variable {W : World} {H : Nat} {q : List Int} {gl gx gn lo : Nat} {AT : Option Addr} {cT : Nat} {T : List Int} {AD : Option Addr} {cD : Nat} {D : List Int} {vN : Value} {NR : List Int}
theorem LN.below (h : LN W H q gl gx gn lo AT cT T AD cD D vN NR) {W' : World} (hb : Below W.heap.size W W') : LN W' H q gl gx gn lo AT cT T AD cD D vN NR :=
  ⟨blk_below h.kl hb, blk_below h.kx hb, blk_below h.kn hb, Kd.R_below h.hT hb, Kd.R_below h.hD hb, Kd.R_below h.hN hb, h.l1, h.l2, h.l3, h.l4⟩
theorem LN.start {gl gx : Nat} (kl : W.heap[gl]? = some (.cells (q.map (Value.int .i64)).toArray 27 (0, 0))) (kx : W.heap[gx]? = some (.cells #[.slice AT T.length cT] 24 (0, 0))) (hT : Kd.R (Kd.int .i64) 2 W H (fun _ => True) (.slice AT T.length cT) T) (hD : Kd.R (Kd.int .i64) 2 W H (fun _ => True) (.slice AD D.length cD) D) (hH : H ≤ W.heap.size) :
    LN ((W.alloc (.cells #[] 68)).alloc (.cells #[.slice (some ⟨W.heap.size, 0, none⟩) 0 0] 67)) H q gl gx (W.heap.size + 1) W.heap.size AT cT T AD cD D (.slice (some ⟨W.heap.size, 0, none⟩) 0 0) [] := by
  have e1 : (W.alloc (.cells #[] 68)).heap.size = W.heap.size + 1 := by simp
  have hR : Kd.R (Kd.int .u64) 68 (W.alloc (.cells #[] 68)) H (fun k => k = W.heap.size) (.slice (some ⟨W.heap.size, 0, none⟩) 0 0) [] := ⟨fun k hk => (Option.some.inj hk).symm, OwnRow.lit W H (Reps.none _ _) hH (by simp)⟩
  refine ⟨blk_alloc (blk_alloc kl _) _, blk_alloc (blk_alloc kx _) _, ?_, Kd.R_alloc (Kd.R_alloc (Kd.R_mono (Kd.R_bound hT) (fun k hk => hk.2.2.1)) _) _, Kd.R_alloc (Kd.R_alloc (Kd.R_mono (Kd.R_bound hD) (fun k hk => hk.2.2.1)) _) _, Kd.R_mono (Kd.R_alloc hR _) (fun k hk => by rw [hk]; exact ⟨Nat.le_refl _, by omega⟩), blk_lt kl, blk_lt kx, by omega, hH⟩
  have h1 := blk_new (W.alloc (.cells #[] 68)) (.cells #[.slice (some ⟨W.heap.size, 0, none⟩) 0 0] 67)
  rw [e1] at h1
  exact h1
end
/-- What memory holds between two searches. -/
structure LQ (W : World) (H : Nat) (gx gn ba : Nat) (all : Int) (AT : Option Addr) (cT : Nat) (T : List Int) (AN : Option Addr) (cN : Nat) (NR : List Int) : Prop where
  kx : W.heap[gx]? = some (.cells #[.slice AT T.length cT] 24 (0, 0))
  kn : W.heap[gn]? = some (.cells #[.slice AN NR.length cN] 67 (0, 0))
  ka : W.heap[ba]? = some (.cells #[.int .u64 all] 68 (0, 0))
  hT : Kd.R (Kd.int .i64) 2 W H (fun _ => True) (.slice AT T.length cT) T
  hN : Kd.R (Kd.int .u64) 68 W H (fun _ => True) (.slice AN NR.length cN) NR
section
variable {W : World} {H gx gn ba : Nat} {all : Int} {AT : Option Addr} {cT : Nat} {T : List Int} {AN : Option Addr} {cN : Nat} {NR : List Int}
theorem LQ.below (h : LQ W H gx gn ba all AT cT T AN cN NR) {W' : World} (hb : Below W.heap.size W W') : LQ W' H gx gn ba all AT cT T AN cN NR :=
  ⟨blk_below h.kx hb, blk_below h.kn hb, blk_below h.ka hb, Kd.R_below h.hT hb, Kd.R_below h.hN hb⟩
theorem LC.back {b : LB} {many : Nat} {vL : Value} {M : List Int} (h : LC W H b many all AT cT T AN cN NR vL M) : LQ W H b.bt b.bn b.ba all AT cT T AN cN NR :=
  ⟨h.kt, h.kn, h.ka, Kd.R_mono h.hT (fun _ _ => trivial), Kd.R_mono h.hN (fun _ _ => trivial)⟩
def lbOf (W : World) (gm ba gx gn : Nat) : LB := { bl := W.heap.size + 1, bm := gm, ba := ba, bt := gx, bf := W.heap.size + 1 + 1, bn := gn, lo := W.heap.size }
theorem LQ.apart (h : LQ W H gx gn ba all AT cT T AN cN NR) {gm : Nat} {v : Value} (km : W.heap[gm]? = some (.cells #[v] 3 (0, 0))) (hH : H ≤ W.heap.size) : LA H (lbOf W gm ba gx gn) := by
  have h1 := blk_lt h.kx
  have h2 := blk_lt h.kn
  have h3 := blk_lt h.ka
  have h4 := blk_lt km
  constructor <;> simp only [lbOf] <;> omega
theorem LQ.start (h : LQ W H gx gn ba all AT cT T AN cN NR) {gm many : Nat} (km : W.heap[gm]? = some (.cells #[.int .i64 (many : Int)] 3 (0, 0))) (hH : H ≤ W.heap.size) :
    LC (((W.alloc (.cells #[] 2)).alloc (.cells #[.slice (some ⟨W.heap.size, 0, none⟩) 0 0] 24)).alloc (.cells #[lsV (lbOf W gm ba gx gn)] 69)) H (lbOf W gm ba gx gn) many all AT cT T AN cN NR (.slice (some ⟨W.heap.size, 0, none⟩) 0 0) [] := by
  have e1 : (W.alloc (.cells #[] 2)).heap.size = W.heap.size + 1 := by simp
  have e2 : ((W.alloc (.cells #[] 2)).alloc (.cells #[.slice (some ⟨W.heap.size, 0, none⟩) 0 0] 24)).heap.size = W.heap.size + 1 + 1 := by simp
  have hR : Kd.R (Kd.int .i64) 2 (W.alloc (.cells #[] 2)) H (fun k => k = W.heap.size) (.slice (some ⟨W.heap.size, 0, none⟩) 0 0) [] := ⟨fun k hk => (Option.some.inj hk).symm, OwnRow.lit W H (Reps.none _ _) hH (by simp)⟩
  have k1 := blk_new (W.alloc (.cells #[] 2)) (.cells #[.slice (some ⟨W.heap.size, 0, none⟩) 0 0] 24)
  rw [e1] at k1
  have k3 := blk_new ((W.alloc (.cells #[] 2)).alloc (.cells #[.slice (some ⟨W.heap.size, 0, none⟩) 0 0] 24)) (.cells #[lsV (lbOf W gm ba gx gn)] 69)
  rw [e2] at k3
  refine ⟨blk_alloc k1 _, blk_alloc (blk_alloc (blk_alloc km _) _) _, blk_alloc (blk_alloc (blk_alloc h.ka _) _) _, blk_alloc (blk_alloc (blk_alloc h.kx _) _) _, k3, blk_alloc (blk_alloc (blk_alloc h.kn _) _) _, ?_, ?_, ?_⟩
  · exact Kd.R_alloc (Kd.R_alloc (Kd.R_alloc (Kd.R_mono (Kd.R_bound h.hT) (fun k hk => hk.2.2.1)) _) _) _
  · exact Kd.R_alloc (Kd.R_alloc (Kd.R_alloc (Kd.R_mono (Kd.R_bound h.hN) (fun k hk => hk.2.2.1)) _) _) _
  · exact Kd.R_mono (Kd.R_alloc (Kd.R_alloc hR _) _) (fun k hk => by subst hk; exact ⟨Nat.le_refl _, by show W.heap.size ≠ W.heap.size + 1; omega, by show W.heap.size ≠ W.heap.size + 1 + 1; omega⟩)
end
end Go.Proofs.Ytchlbkcladfloaa.DG
