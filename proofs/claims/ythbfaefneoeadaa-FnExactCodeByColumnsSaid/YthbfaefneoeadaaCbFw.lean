/- The library's IndexFunc and ContainsFunc at []int64, over any function value that answers as it is asked. No condition. -/
import Derived.Test.YthbfaefneoeadaaProg
import Derived.Below
import Derived.Deep.Draws
import Derived.Deep.AppendLies
import Derived.Maps.AppendAt
import Derived.OwnWalk
import Derived.Laws.BytesArg
import Derived.Laws.MakeOwn
import Derived.Laws.OwnMore
import Derived.Deep.OwnRows
import Derived.Tactics
import Derived.Lib.ConvBytes
import Derived.Laws.Slices
import Derived.WalkKit
import Derived.KernelRfl
import Derived.RowKit3
import Derived.Deep.LoopGhost
import Derived.Deep.QuietTactic
import Derived.BigQuiet
import Derived.WideLaws
import Derived.Deep.DeepCutAuto
import Derived.Deep.CutBlock
import Derived.Deep.RegionHeld3
import Derived.Laws.Rows
import Derived.Lib.AppendStr
import Derived.ArgAppend
import Derived.Laws.IdiomCopy
import Derived.OrdersHeld
import Derived.Laws.BitsLemmas
import Derived.RowKit
import Derived.RegionTactic
import Derived.BigRegion
import Derived.ChangeAlike
import Derived.StillTailTactics
import Derived.Test.YthbfaefneoeadaaCbWWords
import Derived.Test.YthbfaefneoeadaaCbWLast
import Derived.Test.YthbfaefneoeadaaCbWTab
import Derived.Test.YthbfaefneoeadaaCbWQPut
import Derived.Test.YthbfaefneoeadaaCbWApart
import Derived.Test.YthbfaefneoeadaaCbWFoot
import Derived.Test.YthbfaefneoeadaaCbWKept
import Derived.Test.YthbfaefneoeadaaCbWShare
import Derived.Test.YthbfaefneoeadaaCbWN
import Derived.Test.YthbfaefneoeadaaCbWGuard
import Derived.Test.YthbfaefneoeadaaCbWMore
namespace Go.Proofs.Ythbfaefneoeadaa.FW
open Go Go.RowKit Go.Proofs.YthbfaefneoeadaaW.PrintWords Go.Proofs.YthbfaefneoeadaaW.PrintLast Go.Proofs.YthbfaefneoeadaaW.PrintMore
set_option linter.unusedVariables false
set_option linter.unusedSimpArgs false
/-- What a function value answers, wherever it is called. -/
def Asks (g : Nat) (lb : Array Value) (p : Int → Bool) (S : World → Prop) : Prop :=
  ∀ (wr : World) (x : Int), S wr → Calls Try.prog g (#[.int .i64 x] ++ lb) wr fun e w' => e = .returned (.bool (p x)) ∧ Below wr.heap.size wr w'
/-- The first place at which p holds; -1 where there is none. -/
def idxF (p : Int → Bool) (l : List Int) : Int := match l.findIdx? p with
  | some i => i
  | none => -1
theorem idxF_hit (p : Int → Bool) (l : List Int) (i : Nat) (hi : i < l.length) (hp : p (rd l i) = true) (ha : ∀ j, j < i → p (rd l j) = false) : idxF p l = i := by
  have e : ∀ j (h : j < l.length), rd l (j : Int) = l[j] := fun j h => by simp [rd, List.getElem?_eq_getElem h]
  have : l.findIdx? p = some i := by
    rw [List.findIdx?_eq_some_iff_getElem]
    refine ⟨hi, by rw [← e i hi]; exact hp, fun j hj => ?_⟩
    have := ha j hj
    rw [e j (by omega)] at this
    simp [this]
  simp [idxF, this]
theorem idxF_miss (p : Int → Bool) (l : List Int) (ha : ∀ j, j < l.length → p (rd l (j : Nat)) = false) : idxF p l = -1 := by
  have : l.findIdx? p = none := by
    rw [List.findIdx?_eq_none_iff]
    intro x hx
    obtain ⟨j, hj, rfl⟩ := List.mem_iff_getElem.1 hx
    have := ha j hj
    simpa [rd, List.getElem?_eq_getElem hj] using this
  simp [idxF, this]
set_option maxHeartbeats 1000000 in
set_option maxRecDepth 100000 in
theorem indexFunc (p : Int → Bool) (g : Nat) (lb : Array Value) (eg : ∀ args w, (callFunc g args).run Try.prog w = .ok (.enter g args) w) (A : Option Addr) (c : Nat) (l : List Int) (W : World)
    (hC : Kd.C (Kd.int .i64) W A l.length l) (hm : l.length ≤ maxLen) (hp : Asks g lb p (fun wr => Below W.heap.size W wr)) :
    Calls Try.prog 71 #[.slice A l.length c, .func (.func g) #[] lb] W fun e w' => e = .returned (.int .i64 (idxF p l)) ∧ Below W.heap.size W w' := by
  unfold maxLen at hm
  have HP := Aside0.mk hp
  have HC := Aside0.mk hC
  clear hp hC
  go_enter Try.func71, Try.ntmps71
  go_wp2
  go_loopg [5, 8] l.length (fun gg _ s8 wr => ∃ kk : Nat, kk ≤ l.length ∧ l.length - kk ≤ gg ∧ s8 = .int .i64 kk ∧ Aside0 (∀ j : Nat, j < kk → p (rd l (j : Nat)) = false) ∧ Aside0 (Below W.heap.size W wr))
  case atStart => exact ⟨0, Nat.zero_le _, by omega, rfl, ⟨fun j hj => absurd hj (Nat.not_lt_zero _)⟩, ⟨Below.refl _ _⟩⟩
  case round =>
    obtain ⟨kk, hkk, hg, rfl, HA, HB⟩ := hrel
    by_cases hlt : kk < l.length
    · have hltz : (kk : Int) < (l.length : Int) := by omega
      obtain ⟨ad, e, hx⟩ := Kd.at_int HC.out (kk : Int) (by omega) hltz
      cases e
      replace hx := (HB.out.cell (World.block_lt_of_cell? W _ hx)).trans hx
      rw [Int.toNat_natCast] at hx
      have HCALL := Aside0.mk (HP.out _ (rd l (kk : Nat)) HB.out)
      cases hq : p (rd l (kk : Nat)) with
      | true =>
        rw [hq] at HCALL
        have HQ := Aside0.mk hq
        clear hq
        go_wp2_with fail
        refine HCALL.out.mono ?_
        rintro e w' ⟨rfl, hb⟩
        go_wp2
        go_ret
        refine ⟨?_, ?_⟩
        · rw [idxF_hit p l kk hlt HQ.out HA.out]; rfl
        · exact below_then HB.out HB.out.size hb
      | false =>
        rw [hq] at HCALL
        have HQ := Aside0.mk hq
        clear hq
        go_wp2_with fail
        refine HCALL.out.mono ?_
        rintro e w' ⟨rfl, hb⟩
        go_wp2
        go_roundg (l.length - (kk + 1))
        case measure => omega
        case rel =>
          refine ⟨kk + 1, by omega, by omega, by go_num, ⟨fun j hj => ?_⟩, ⟨below_then HB.out HB.out.size hb⟩⟩
          by_cases e : j = kk
          · subst e; exact HQ.out
          · exact HA.out j (by omega)
    · have hltz : ¬ (kk : Int) < (l.length : Int) := by omega
      have : kk = l.length := by omega
      subst this
      go_wp2
      go_ret
      refine ⟨?_, HB.out⟩
      rw [idxF_miss p l HA.out]; rfl
set_option maxHeartbeats 1000000 in
set_option maxRecDepth 100000 in
theorem containsFunc (p : Int → Bool) (g : Nat) (lb : Array Value) (eg : ∀ args w, (callFunc g args).run Try.prog w = .ok (.enter g args) w) (A : Option Addr) (c : Nat) (l : List Int) (W : World)
    (hC : Kd.C (Kd.int .i64) W A l.length l) (hm : l.length ≤ maxLen) (hp : Asks g lb p (fun wr => Below W.heap.size W wr)) :
    Calls Try.prog 39 #[.slice A l.length c, .func (.func g) #[] lb] W fun e w' => e = .returned (.bool (l.any p)) ∧ Below W.heap.size W w' := by
  have h := Aside0.mk (indexFunc p g lb eg A c l W hC hm hp)
  have hd : (decide (0 ≤ idxF p l)) = l.any p := by
    unfold idxF
    cases hf : l.findIdx? p with
    | none =>
      rw [List.findIdx?_eq_none_iff] at hf
      have : l.any p = false := by rw [List.any_eq_false]; intro x hx; simp [hf x hx]
      rw [this]; rfl
    | some i =>
      rw [List.findIdx?_eq_some_iff_getElem] at hf
      obtain ⟨hi, h1, _⟩ := hf
      have : l.any p = true := by rw [List.any_eq_true]; exact ⟨_, List.getElem_mem hi, h1⟩
      rw [this]; simp
  have HD := Aside0.mk hd
  clear hC hp hd
  go_enter Try.func39, Try.ntmps39
  go_wp2_with (go_at_call 71; refine h.out.mono ?_; rintro e w' ⟨rfl, hb⟩)
  go_ret
  refine ⟨?_, hb⟩
  rw [← HD.out]; rfl
end Go.Proofs.Ythbfaefneoeadaa.FW
