/- The library's IndexFunc, ContainsFunc and DeleteFunc at []int64, over any function value that answers as it is asked. No condition. -/
import Derived.Test.YtchlbkcladfloaaProg
import Derived.Below
import Derived.Deep.Draws
import Derived.Deep.AppendLies
import Derived.Maps.AppendAt
import Derived.OwnWalk
import Derived.Laws.BytesArg
import Derived.Laws.MakeOwn
import Derived.Laws.OwnMore
import Derived.Deep.OwnRows
import Derived.Tactics
import Derived.Lib.ConvBytes
import Derived.Laws.Slices
import Derived.WalkKit
import Derived.KernelRfl
import Derived.RowKit3
import Derived.Deep.LoopGhost
import Derived.Deep.QuietTactic
import Derived.BigQuiet
import Derived.WideLaws
import Derived.Deep.DeepCutAuto
import Derived.Deep.CutBlock
import Derived.Deep.RegionHeld3
import Derived.Laws.Rows
import Derived.Lib.AppendStr
import Derived.ArgAppend
import Derived.Laws.IdiomCopy
import Derived.OrdersHeld
import Derived.Laws.BitsLemmas
import Derived.RowKit
import Derived.Laws.CopyOwn
import Derived.RegionTactic
import Derived.BigRegion
import Derived.ChangeAlike
import Derived.StillTailTactics
import Derived.Test.YtchlbkcladfloaaGuWWords
import Derived.Test.YtchlbkcladfloaaGuWLast
import Derived.Test.YtchlbkcladfloaaGuWTab
import Derived.Test.YtchlbkcladfloaaGuWQPut
import Derived.Test.YtchlbkcladfloaaGuWApart
import Derived.Test.YtchlbkcladfloaaGuWArr
import Derived.Test.YtchlbkcladfloaaGuWFoot
import Derived.Test.YtchlbkcladfloaaGuWKept
import Derived.Test.YtchlbkcladfloaaGuWShare
import Derived.Test.YtchlbkcladfloaaGuWN
import Derived.Test.YtchlbkcladfloaaGuWGuard
import Derived.Test.YtchlbkcladfloaaGuWMore
import Derived.Deep.RegionLaw
import Derived.Deep.DrawnRows
import Derived.Outline
import Derived.Shelf.Abstract
import Derived.Lib.SliceRun
namespace Go.Proofs.Ytchlbkcladfloaa.FW
open Go Go.RowKit Go.Proofs.YtchlbkcladfloaaW.PrintWords Go.Proofs.YtchlbkcladfloaaW.PrintLast Go.Proofs.YtchlbkcladfloaaW.PrintMore
set_option linter.unusedVariables false
set_option linter.unusedSimpArgs false
def Asks (g : Nat) (lb : Array Value) (p : Int → Bool) (S : World → Prop) : Prop :=
 ∀ (wr : World) (x : Int), S wr → Calls Try.prog g (#[.int .i64 x] ++ lb) wr fun e w' => e = .returned (.bool (p x)) ∧ Below wr.heap.size wr w'
def idxF (p : Int → Bool) (l : List Int) : Int := match l.findIdx? p with
 | some i => i
 | none => -1
theorem idxF_hit (p : Int → Bool) (l : List Int) (i : Nat) (hi : i < l.length) (hp : p (rd l i) = true) (ha : ∀ j, j < i → p (rd l j) = false) : idxF p l = i := by
 have e : ∀ j (h : j < l.length), rd l (j : Int) = l[j] := fun j h => by simp [rd, List.getElem?_eq_getElem h]
 have : l.findIdx? p = some i := by
  rw [List.findIdx?_eq_some_iff_getElem]
  refine ⟨hi, by rw [← e i hi]; exact hp, fun j hj => ?_⟩
  have := ha j hj
  rw [e j (by omega)] at this
  simp [this]
 simp [idxF, this]
theorem idxF_miss (p : Int → Bool) (l : List Int) (ha : ∀ j, j < l.length → p (rd l (j : Nat)) = false) : idxF p l = -1 := by
 have : l.findIdx? p = none := by
  rw [List.findIdx?_eq_none_iff]
  intro x hx
  obtain ⟨j, hj, rfl⟩ := List.mem_iff_getElem.1 hx
  have := ha j hj
  simpa [rd, List.getElem?_eq_getElem hj] using this
 simp [idxF, this]
set_option maxHeartbeats 1000000 in
set_option maxRecDepth 100000 in
theorem indexFunc (p : Int → Bool) (g : Nat) (lb : Array Value) (eg : ∀ args w, (callFunc g args).run Try.prog w = .ok (.enter g args) w) (A : Option Addr) (c : Nat) (l : List Int) (W : World)
  (hC : Kd.C (Kd.int .i64) W A l.length l) (hm : l.length ≤ maxLen) (hp : Asks g lb p (fun wr => Below W.heap.size W wr)) :
  Calls Try.prog 123 #[.slice A l.length c, .func (.func g) #[] lb] W fun e w' => e = .returned (.int .i64 (idxF p l)) ∧ Below W.heap.size W w' := by
 unfold maxLen at hm
 have HP := Aside0.mk hp
 have HC := Aside0.mk hC
 clear hp hC
 go_enter Try.func123, Try.ntmps123
 go_wp2
 go_loopg [5, 8] l.length (fun gg _ s8 wr => ∃ kk : Nat, kk ≤ l.length ∧ l.length - kk ≤ gg ∧ s8 = .int .i64 kk ∧ Aside0 (∀ j : Nat, j < kk → p (rd l (j : Nat)) = false) ∧ Aside0 (Below W.heap.size W wr))
 case atStart => exact ⟨0, Nat.zero_le _, by omega, rfl, ⟨fun j hj => absurd hj (Nat.not_lt_zero _)⟩, ⟨Below.refl _ _⟩⟩
 case round =>
  obtain ⟨kk, hkk, hg, rfl, HA, HB⟩ := hrel
  by_cases hlt : kk < l.length
  ·have hltz : (kk : Int) < (l.length : Int) := by omega
   obtain ⟨ad, e, hx⟩ := Kd.at_int HC.out (kk : Int) (by omega) hltz
   cases e
   replace hx := (HB.out.cell (World.block_lt_of_cell? W _ hx)).trans hx
   rw [Int.toNat_natCast] at hx
   have HCALL := Aside0.mk (HP.out _ (rd l (kk : Nat)) HB.out)
   cases hq : p (rd l (kk : Nat)) with
   | true =>
    rw [hq] at HCALL
    have HQ := Aside0.mk hq
    clear hq
    go_wp2_with fail
    refine HCALL.out.mono ?_
    rintro e w' ⟨rfl, hb⟩
    go_wp2
    go_ret
    refine ⟨?_, ?_⟩
    ·rw [idxF_hit p l kk hlt HQ.out HA.out]; rfl
    ·exact below_then HB.out HB.out.size hb
   | false =>
    rw [hq] at HCALL
    have HQ := Aside0.mk hq
    clear hq
    go_wp2_with fail
    refine HCALL.out.mono ?_
    rintro e w' ⟨rfl, hb⟩
    go_wp2
    go_roundg (l.length - (kk + 1))
    case measure => omega
    case rel =>
     refine ⟨kk + 1, by omega, by omega, by go_num, ⟨fun j hj => ?_⟩, ⟨below_then HB.out HB.out.size hb⟩⟩
     by_cases e : j = kk
     ·subst e; exact HQ.out
     ·exact HA.out j (by omega)
  ·have hltz : ¬ (kk : Int) < (l.length : Int) := by omega
   have : kk = l.length := by omega
   subst this
   go_wp2
   go_ret
   refine ⟨?_, HB.out⟩
   rw [idxF_miss p l HA.out]; rfl
set_option maxHeartbeats 1000000 in
set_option maxRecDepth 100000 in
theorem containsFunc (p : Int → Bool) (g : Nat) (lb : Array Value) (eg : ∀ args w, (callFunc g args).run Try.prog w = .ok (.enter g args) w) (A : Option Addr) (c : Nat) (l : List Int) (W : World)
  (hC : Kd.C (Kd.int .i64) W A l.length l) (hm : l.length ≤ maxLen) (hp : Asks g lb p (fun wr => Below W.heap.size W wr)) :
  Calls Try.prog 108 #[.slice A l.length c, .func (.func g) #[] lb] W fun e w' => e = .returned (.bool (l.any p)) ∧ Below W.heap.size W w' := by
 have h := Aside0.mk (indexFunc p g lb eg A c l W hC hm hp)
 have hd : (decide (0 ≤ idxF p l)) = l.any p := by
  unfold idxF
  cases hf : l.findIdx? p with
  | none =>
   rw [List.findIdx?_eq_none_iff] at hf
   have : l.any p = false := by rw [List.any_eq_false]; intro x hx; simp [hf x hx]
   rw [this]; rfl
  | some i =>
   rw [List.findIdx?_eq_some_iff_getElem] at hf
   obtain ⟨hi, h1, _⟩ := hf
   have : l.any p = true := by rw [List.any_eq_true]; exact ⟨_, List.getElem_mem hi, h1⟩
   rw [this]; simp
 have HD := Aside0.mk hd
 clear hC hp hd
 go_enter Try.func108, Try.ntmps108
 go_wp2_with (go_at_call 123; refine h.out.mono ?_; rintro e w' ⟨rfl, hb⟩)
 go_ret
 refine ⟨?_, hb⟩
 rw [← HD.out]; rfl


theorem grown_set {W wr : World} {blk : Nat} (h : W.grownBy wr (some blk)) (i : Nat) (v : Value) : W.grownBy (wr.setCell ⟨blk, i, none⟩ v) (some blk) :=
 ⟨h.os, h.tape, h.output, by have := h.size; simpa using this, fun k hk hne => by
  rw [Below.heap_setCell wr ⟨blk, i, none⟩ v k (fun e => hne (by rw [show blk = k from e.symm]))]
  exact h.block k hk hne⟩
def DelPost (p : Int → Bool) (l : List Int) (blk cap : Nat) (W : World) (e : Ending) (w' : World) : Prop :=
 ∃ arr' : Array Value, e = .returned (.slice (some ⟨blk, 0, none⟩) (l.filter fun x => !p x).length cap) ∧ W.grownBy w' (some blk) ∧ w'.heap[blk]? = some (.cells arr' 2 (0, 0)) ∧ arr'.size = cap ∧ ∀ j, j < (l.filter fun x => !p x).length → arr'[j]? = some (.int .i64 (rd (l.filter fun x => !p x) (j : Nat)))
def DelInv (p : Int → Bool) (l : List Int) (cap i j : Nat) (cur : Array Value) : Prop :=
 i < j ∧ cur.size = cap ∧ i = ((l.take j).filter fun x => !p x).length ∧ (∀ x, x < i → cur[x]? = some (.int .i64 (rd ((l.take j).filter fun x => !p x) (x : Nat)))) ∧ ∀ x, j ≤ x → x < l.length → cur[x]? = some (.int .i64 (rd l (x : Nat)))
theorem rd_at (l : List Int) (j : Nat) (h : j < l.length) : rd l (j : Int) = l[j] := by simp [rd, List.getElem?_eq_getElem h]
theorem take_next (l : List Int) (j : Nat) (h : j < l.length) : l.take (j + 1) = l.take j ++ [l[j]] := List.take_succ_eq_append_getElem h
theorem DelInv.keep {p : Int → Bool} {l : List Int} {cap i j : Nat} {cur : Array Value} (h : DelInv p l cap i j cur) (hj : j < l.length) (hc : l.length ≤ cap) (hq : p (rd l (j : Nat)) = false) : DelInv p l cap (i + 1) (j + 1) (cur.setIfInBounds i (.int .i64 (rd l (j : Nat)))) := by
 obtain ⟨h1, h2, h3, h4, h5⟩ := h
 have e : ((l.take (j + 1)).filter fun x => !p x) = ((l.take j).filter fun x => !p x) ++ [l[j]] := by
  rw [take_next l j hj, List.filter_append]
  rw [rd_at l j hj] at hq
  simp [hq]
 refine ⟨by omega, by simpa using h2, by rw [e]; simp; exact h3, fun x hx => ?_, fun x hx hl => ?_⟩
 ·rw [e]
  by_cases hxi : x = i
  ·subst hxi
   rw [Array.getElem?_setIfInBounds_self_of_lt (by omega)]
   rw [rd_at l j hj]
   simp [rd, h3]
  ·rw [Array.getElem?_setIfInBounds_ne (by omega), h4 x (by omega)]
   simp only [rd, Int.toNat_natCast]
   rw [List.getD_eq_getElem?_getD, List.getD_eq_getElem?_getD, List.getElem?_append_left (by omega)]
 ·rw [Array.getElem?_setIfInBounds_ne (by omega)]
  exact h5 x (by omega) hl
theorem DelInv.skip {p : Int → Bool} {l : List Int} {cap i j : Nat} {cur : Array Value} (h : DelInv p l cap i j cur) (hj : j < l.length) (hq : p (rd l (j : Nat)) = true) : DelInv p l cap i (j + 1) cur := by
 obtain ⟨h1, h2, h3, h4, h5⟩ := h
 have e : ((l.take (j + 1)).filter fun x => !p x) = ((l.take j).filter fun x => !p x) := by
  rw [take_next l j hj, List.filter_append]
  rw [rd_at l j hj] at hq
  simp [hq]
 exact ⟨by omega, h2, by rw [e]; exact h3, by rw [e]; exact h4, fun x hx hl => h5 x (by omega) hl⟩
theorem filter_all (p : Int → Bool) (l : List Int) (k : Nat) (hk : k ≤ l.length) (ha : ∀ j, j < k → p (rd l (j : Nat)) = false) : ((l.take k).filter fun x => !p x) = l.take k := by
 rw [List.filter_eq_self]
 intro x hx
 obtain ⟨j, hj, rfl⟩ := List.mem_iff_getElem.1 hx
 have hj' : j < k := by rw [List.length_take] at hj; omega
 have := ha j hj'
 rw [rd_at l j (by omega)] at this
 simp [this]
theorem idxF_cases (p : Int → Bool) (l : List Int) : (idxF p l = -1 ∧ ∀ j, j < l.length → p (rd l (j : Nat)) = false) ∨ ∃ k : Nat, k < l.length ∧ idxF p l = k ∧ p (rd l (k : Nat)) = true ∧ ∀ j, j < k → p (rd l (j : Nat)) = false := by
 unfold idxF
 cases hf : l.findIdx? p with
 | none =>
  rw [List.findIdx?_eq_none_iff] at hf
  exact .inl ⟨rfl, fun j hj => by rw [rd_at l j hj]; exact hf _ (List.getElem_mem hj)⟩
 | some i =>
  rw [List.findIdx?_eq_some_iff_getElem] at hf
  obtain ⟨hi, h1, h2⟩ := hf
  exact .inr ⟨i, hi, rfl, by rw [rd_at l i hi]; exact h1, fun j hj => by rw [rd_at l j (by omega)]; simpa using h2 j hj⟩

theorem setCells_keep {W wr : World} {blk : Nat} : ∀ (vs : List Value) (o : Nat) (wr : World) (cur : Array Value), wr.heap[blk]? = some (.cells cur 2 (0, 0)) → W.grownBy wr (some blk) → ∃ cur', (wr.setCells blk o vs).heap[blk]? = some (.cells cur' 2 (0, 0)) ∧ cur'.size = cur.size ∧ (∀ x, x < o → cur'[x]? = cur[x]?) ∧ W.grownBy (wr.setCells blk o vs) (some blk)
 | [], o, wr, cur, h, hg => ⟨cur, h, rfl, fun _ _ => rfl, hg⟩
 | v :: r, o, wr, cur, h, hg => by
  obtain ⟨cur', a, b, c, d⟩ := setCells_keep (W := W) (wr := wr) r (o + 1) (wr.setCell ⟨blk, o, none⟩ v) (cur.setIfInBounds o v) (blk_set h o v) (grown_set hg o v)
  exact ⟨cur', a, by simpa using b, fun x hx => by rw [c x (by omega), Array.getElem?_setIfInBounds_ne (by omega)], d⟩
theorem zero2 : ∀ w, (zeroValue 2).run Try.prog w = .ok (.int .i64 0) w := fun w => by kernel_rfl
set_option maxHeartbeats 2000000 in
set_option maxRecDepth 100000 in
theorem deleteFunc (p : Int → Bool) (g : Nat) (lb : Array Value) (eg : ∀ args w, (callFunc g args).run Try.prog w = .ok (.enter g args) w) (blk cap : Nat) (arr : Array Value) (l : List Int) (W : World)
  (hblk : W.heap[blk]? = some (.cells arr 2 (0, 0))) (hsz : arr.size = cap) (hlen : l.length ≤ cap) (hm : cap ≤ maxLen) (hcells : ∀ j, j < l.length → arr[j]? = some (.int .i64 (rd l (j : Nat)))) (hp : Asks g lb p (fun wr => W.grownBy wr (some blk))) :
  Calls Try.prog 106 #[.slice (some ⟨blk, 0, none⟩) l.length cap, .func (.func g) #[] lb] W (DelPost p l blk cap W) := by
 have hCW : Kd.C (Kd.int .i64) W (some ⟨blk, 0, none⟩) l.length l := by
  refine Kd.C_of_reads (d := (0 : Int)) (h1 := fun _ => rfl) ⟨rfl, by unfold maxLen at hm; omega, fun _ => ⟨_, rfl, fun j hj => ?_⟩⟩
  rw [add_plain, blk_cell hblk j, hcells j hj]
  simp [rd]
 have hIF := Aside0.mk (indexFunc p g lb eg (some ⟨blk, 0, none⟩) cap l W hCW (by omega) (fun wr x hb => hp wr x (grown_of_below hb (some blk))))
 have HP := Aside0.mk hp
 have HK := Aside0.mk hblk
 have HCE := Aside0.mk hcells
 have HSZ := Aside0.mk hsz
 unfold maxLen at hm
 clear hCW hp hblk hcells hsz
 rcases idxF_cases p l with ⟨e1, hall⟩ | ⟨k0, hk0, e1, ht, hall⟩
 ·rw [e1] at hIF
  have HALL := Aside0.mk hall
  clear e1 hall
  go_enter Try.func106, Try.ntmps106
  go_wp2_with fail
  refine hIF.out.mono ?_
  rintro e w' ⟨rfl, hb⟩
  go_wp2
  go_ret
  have hf : (l.filter fun x => !p x) = l := by have := filter_all p l l.length (Nat.le_refl _) HALL.out; simpa using this
  refine ⟨arr, ?_, grown_of_below hb _, blk_below HK.out hb, HSZ.out, ?_⟩
  ·rw [hf]; rfl
  ·rw [hf]; exact HCE.out
 ·rw [e1] at hIF
  have HALL := Aside0.mk hall
  have HT := Aside0.mk ht
  clear e1 hall ht
  have hne1 : ((k0 : Int) == -1) = false := beq_eq_false_iff_ne.2 (by omega)
  go_enter Try.func106, Try.ntmps106
  go_wp2_with fail
  refine hIF.out.mono ?_
  rintro e w' ⟨rfl, hb0⟩
  have HB0 := Aside0.mk hb0
  clear hb0
  go_wp2
  go_loopg [5, 6, 7] l.length (fun gg s5 s6 _ wr => ∃ (i j : Nat) (cur : Array Value), s5 = .int .i64 i ∧ s6 = .int .i64 j ∧ j ≤ l.length ∧ l.length - j ≤ gg ∧ i < j ∧ Aside0 (DelInv p l cap i j cur) ∧ Aside0 (wr.heap[blk]? = some (.cells cur 2 (0, 0))) ∧ Aside0 (W.grownBy wr (some blk)))
  case atStart =>
   refine ⟨k0, k0 + 1, arr, rfl, by go_num, by omega, by omega, by omega, ⟨?_⟩, ⟨blk_below HK.out HB0.out⟩, ⟨grown_of_below HB0.out _⟩⟩
   have e2 : ((l.take (k0 + 1)).filter fun x => !p x) = l.take k0 := by
    rw [take_next l k0 hk0, List.filter_append, filter_all p l k0 (by omega) HALL.out]
    have := HT.out
    rw [rd_at l k0 hk0] at this
    simp [this]
   refine ⟨by omega, HSZ.out, by rw [e2, List.length_take]; omega, fun x hx => ?_, fun x hx hl => HCE.out x hl⟩
   rw [e2, HCE.out x (by omega)]
   simp only [rd, Int.toNat_natCast]
   rw [List.getD_eq_getElem?_getD, List.getD_eq_getElem?_getD, List.getElem?_take_of_lt (by omega)]
  case round =>
   obtain ⟨i, j, cur, rfl, rfl, hjl, hgg, hij, HI, HR, HG⟩ := hrel
   by_cases hlt : j < l.length
   ·have hltz : (j : Int) < (l.length : Int) := by omega
    have hcj : wr.cell? ⟨blk, j, none⟩ = some (.int .i64 (rd l (j : Nat))) := by rw [blk_cell HR.out j]; exact HI.out.2.2.2.2 j (Nat.le_refl _) hlt
    have HCALL := Aside0.mk (HP.out _ (rd l (j : Nat)) HG.out)
    have hicap : i < cap := by omega
    cases hq : p (rd l (j : Nat)) with
    | false =>
     rw [hq] at HCALL
     have HQ := Aside0.mk hq
     clear hq
     go_wp2_with fail
     refine HCALL.out.mono ?_
     rintro e w1 ⟨rfl, hb⟩
     have HR1 := Aside0.mk (blk_below HR.out hb)
     have HG1 := Aside0.mk (World.grownBy.trans HG.out (grown_of_below hb (some blk)))
     clear hb
     obtain ⟨old, hold⟩ : ∃ old, cur[i]? = some old := ⟨cur[i]'(by rw [HI.out.2.1]; omega), Array.getElem?_eq_getElem _⟩
     have hci : w1.cell? ⟨blk, i, none⟩ = some old := (blk_cell HR1.out i).trans hold
     have hfi : w1.frozen? ⟨blk, i, none⟩ = false := blk_frozen HR1.out i
     clear hold
     go_wp2
     go_roundg (l.length - (j + 1))
     case measure => omega
     case rel => exact ⟨i + 1, j + 1, _, by go_num, by go_num, by omega, Nat.le_refl _, by omega, ⟨HI.out.keep hlt hlen HQ.out⟩, ⟨blk_set HR1.out i _⟩, ⟨grown_set HG1.out i _⟩⟩
    | true =>
     rw [hq] at HCALL
     have HQ := Aside0.mk hq
     clear hq
     go_wp2_with fail
     refine HCALL.out.mono ?_
     rintro e w1 ⟨rfl, hb⟩
     have HR1 := Aside0.mk (blk_below HR.out hb)
     have HG1 := Aside0.mk (World.grownBy.trans HG.out (grown_of_below hb (some blk)))
     clear hb
     go_wp2
     go_roundg (l.length - (j + 1))
     case measure => omega
     case rel => exact ⟨i, j + 1, cur, rfl, by go_num, by omega, Nat.le_refl _, by omega, ⟨HI.out.skip hlt HQ.out⟩, HR1, HG1⟩
   ·obtain rfl : j = l.length := by omega
    have hltz : ¬ (l.length : Int) < (l.length : Int) := by omega
    have hcl : ∀ ty, (Builtin.clear_ #[24] ty #[.slice (some ⟨blk, i, none⟩) (l.length - i) (cap - i)]).run Try.prog wr = .ok (.tuple #[]) (wr.setCells blk i (List.replicate (l.length - i) (.int .i64 0))) :=
     fun ty => Lib.run_clear_slice wr _ _ ty _ Try.underlying24 zero2 rfl rfl blk i _ _ (by omega) (fun t ht => by rw [blk_cell HR.out, Array.getElem?_eq_getElem (by rw [HI.out.2.1]; omega)]; rfl) (fun t ht => blk_frozen HR.out _)
    go_wp2
    go_ret
    obtain ⟨cur', a1, a2, a3, a4⟩ := setCells_keep (W := W) (wr := wr) (List.replicate (l.length - i) (.int .i64 0)) i wr cur HR.out HG.out
    have hI := HI.out
    unfold DelInv at hI
    rw [List.take_of_length_le (Nat.le_refl _)] at hI
    refine ⟨cur', ?_, a4, a1, by rw [a2]; exact hI.2.1, fun x hx => ?_⟩
    ·rw [← hI.2.2.1]; rfl
    ·rw [← hI.2.2.1] at hx
     rw [a3 x hx]; exact hI.2.2.2.1 x hx

set_option maxHeartbeats 1000000 in
set_option maxRecDepth 100000 in
theorem deleteFunc_nil (p : Int → Bool) (g : Nat) (lb : Array Value) (eg : ∀ args w, (callFunc g args).run Try.prog w = .ok (.enter g args) w) (W : World) (hp : Asks g lb p (fun wr => Below W.heap.size W wr)) :
  Calls Try.prog 106 #[.slice none 0 0, .func (.func g) #[] lb] W fun e w' => e = .returned (.slice none 0 0) ∧ Below W.heap.size W w' := by
 have hC : Kd.C (Kd.int .i64) W none ([] : List Int).length [] := Kd.C_of_reads (d := (0 : Int)) (h1 := fun _ => rfl) ⟨rfl, by simp, fun h => by simp at h⟩
 have h := Aside0.mk (indexFunc p g lb eg none 0 [] W hC (by simp) hp)
 clear hC hp
 go_enter Try.func106, Try.ntmps106
 go_wp2_with fail
 refine h.out.mono ?_
 rintro e w' ⟨rfl, hb⟩
 have e1 : idxF p [] = -1 := rfl
 rw [e1]
 go_wp2
 go_ret
 exact ⟨rfl, hb⟩
theorem deleteFuncR (p : Int → Bool) (g : Nat) (lb : Array Value) (eg : ∀ args w, (callFunc g args).run Try.prog w = .ok (.enter g args) w) (base : Nat) (v : Value) (l : List Int) (W : World) (hbase : base ≤ W.heap.size)
  (hR : Kd.R (Kd.int .i64) 2 W base (fun _ => True) v l) (hp : Asks g lb p (fun wr => W.grownBy wr v.ownBlock)) :
  Calls Try.prog 106 #[v, .func (.func g) #[] lb] W fun e w' => ∃ v' : Value, e = .returned v' ∧ Kd.R (Kd.int .i64) 2 w' base (fun _ => True) v' (l.filter fun x => !p x) ∧ W.grownBy w' v.ownBlock := by
 have ho := Kd.own_of_R hR
 rcases ho.2 with ⟨rfl, h0⟩ | ⟨gb, cap, cur, rfl, hb, hh, hn, hm, hcs, htake⟩
 ·obtain rfl : l = [] := List.eq_nil_of_length_eq_zero h0
  refine (deleteFunc_nil p g lb eg W (fun wr x hb => hp wr x (grown_of_below hb _))).mono ?_
  rintro e w' ⟨rfl, hB⟩
  exact ⟨_, rfl, Kd.R_nil _ _ _ _ _, grown_of_below hB _⟩
 ·refine (deleteFunc p g lb eg gb cap cur l W hh (by omega) hn hm (fun j hj => ?_) hp).mono ?_
  ·have e1 : (cur.toList.take (l.length * 1))[j]? = (encs (Value.int .i64) l)[j]? := by rw [htake]
   rw [List.getElem?_take_of_lt (by omega)] at e1
   rw [← Array.getElem?_toList, e1]
   simp [encs, rd, List.getElem?_eq_getElem hj]
  ·rintro e w' ⟨arr', rfl, hg, hh', hs, hc⟩
   have hfl : (l.filter fun x => !p x).length ≤ l.length := List.length_filter_le _ _
   refine ⟨_, rfl, Kd.R_of_own ⟨by simp [encs], .inr ⟨gb, cap, arr', rfl, hb, hh', by omega, hm, by omega, ?_⟩⟩ (fun _ _ => trivial), hg⟩
   apply List.ext_getElem?
   intro j
   by_cases hj : j < (l.filter fun x => !p x).length
   ·rw [List.getElem?_take_of_lt (by omega), Array.getElem?_toList, hc j hj]
    simp [encs, rd, List.getElem?_eq_getElem hj]
   ·rw [List.getElem?_eq_none (by simp; omega), List.getElem?_eq_none (by simp [encs]; omega)]
end Go.Proofs.Ytchlbkcladfloaa.FW
