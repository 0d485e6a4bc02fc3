/- The library's ContainsFunc over a function value that answers for a list's own numbers. No condition. -/
import Derived.Test.YthbfaefneoeadaaChA
import Derived.Test.YthbfaefneoeadaaFw
import Derived.Shelf.Abstract
namespace Go.Proofs.Ythbfaefneoeadaa.DG
open Go Go.RowKit Go.Proofs.YthbfaefneoeadaaW.PrintWords Go.Proofs.YthbfaefneoeadaaW.PrintLast Go.Proofs.YthbfaefneoeadaaW.PrintMore Go.Proofs.Ythbfaefneoeadaa.FW
set_option linter.unusedVariables false
set_option linter.unusedSimpArgs false
set_option maxHeartbeats 1000000 in
set_option maxRecDepth 100000 in
theorem indexFuncOn (p : Int → Bool) (g : Nat) (lb : Array Value) (eg : ∀ args w, (callFunc g args).run Try.prog w = .ok (.enter g args) w) (A : Option Addr) (c : Nat) (l : List Int) (W : World)
    (hC : Kd.C (Kd.int .i64) W A l.length l) (hm : l.length ≤ maxLen) (hp : ∀ (wr : World) (x : Int), x ∈ l → Below W.heap.size W wr → Calls Try.prog g (#[.int .i64 x] ++ lb) wr fun e w' => e = .returned (.bool (p x)) ∧ Below wr.heap.size wr w') :
    Calls Try.prog 71 #[.slice A l.length c, .func (.func g) #[] lb] W fun e w' => e = .returned (.int .i64 (idxF p l)) ∧ Below W.heap.size W w' := by
  unfold maxLen at hm
  have HP := Aside0.mk hp
  have HC := Aside0.mk hC
  clear hp hC
  go_enter Try.func71, Try.ntmps71
  go_wp2
  go_loopg [5, 8] l.length (fun gg _ s8 wr => ∃ kk : Nat, kk ≤ l.length ∧ l.length - kk ≤ gg ∧ s8 = .int .i64 kk ∧ Aside0 (∀ j : Nat, j < kk → p (rd l (j : Nat)) = false) ∧ Aside0 (Below W.heap.size W wr))
  case atStart => exact ⟨0, Nat.zero_le _, by omega, rfl, ⟨fun j hj => absurd hj (Nat.not_lt_zero _)⟩, ⟨Below.refl _ _⟩⟩
  case round =>
    obtain ⟨kk, hkk, hg, rfl, HA, HB⟩ := hrel
    by_cases hlt : kk < l.length
    · have hltz : (kk : Int) < (l.length : Int) := by omega
      obtain ⟨ad, e, hx⟩ := Kd.at_int HC.out (kk : Int) (by omega) hltz
      cases e
      replace hx := (HB.out.cell (World.block_lt_of_cell? W _ hx)).trans hx
      rw [Int.toNat_natCast] at hx
      have HCALL := Aside0.mk (HP.out _ (rd l (kk : Nat)) (by rw [rd_nat' l kk hlt]; exact List.getElem_mem hlt) HB.out)
      cases hq : p (rd l (kk : Nat)) with
      | true =>
        rw [hq] at HCALL
        have HQ := Aside0.mk hq
        clear hq
        go_wp2_with fail
        refine HCALL.out.mono ?_
        rintro e w' ⟨rfl, hb⟩
        go_wp2
        go_ret
        refine ⟨?_, ?_⟩
        · rw [idxF_hit p l kk hlt HQ.out HA.out]; rfl
        · exact below_then HB.out HB.out.size hb
      | false =>
        rw [hq] at HCALL
        have HQ := Aside0.mk hq
        clear hq
        go_wp2_with fail
        refine HCALL.out.mono ?_
        rintro e w' ⟨rfl, hb⟩
        go_wp2
        go_roundg (l.length - (kk + 1))
        case measure => omega
        case rel =>
          refine ⟨kk + 1, by omega, by omega, by go_num, ⟨fun j hj => ?_⟩, ⟨below_then HB.out HB.out.size hb⟩⟩
          by_cases e : j = kk
          · subst e; exact HQ.out
          · exact HA.out j (by omega)
    · have hltz : ¬ (kk : Int) < (l.length : Int) := by omega
      have : kk = l.length := by omega
      subst this
      go_wp2
      go_ret
      refine ⟨?_, HB.out⟩
      rw [idxF_miss p l HA.out]; rfl
set_option maxHeartbeats 1000000 in
set_option maxRecDepth 100000 in
theorem containsFuncOn (p : Int → Bool) (g : Nat) (lb : Array Value) (eg : ∀ args w, (callFunc g args).run Try.prog w = .ok (.enter g args) w) (A : Option Addr) (c : Nat) (l : List Int) (W : World)
    (hC : Kd.C (Kd.int .i64) W A l.length l) (hm : l.length ≤ maxLen) (hp : ∀ (wr : World) (x : Int), x ∈ l → Below W.heap.size W wr → Calls Try.prog g (#[.int .i64 x] ++ lb) wr fun e w' => e = .returned (.bool (p x)) ∧ Below wr.heap.size wr w') :
    Calls Try.prog 39 #[.slice A l.length c, .func (.func g) #[] lb] W fun e w' => e = .returned (.bool (l.any p)) ∧ Below W.heap.size W w' := by
  have h := Aside0.mk (indexFuncOn p g lb eg A c l W hC hm hp)
  have hd : (decide (0 ≤ idxF p l)) = l.any p := by
    unfold idxF
    cases hf : l.findIdx? p with
    | none =>
      rw [List.findIdx?_eq_none_iff] at hf
      have : l.any p = false := by rw [List.any_eq_false]; intro x hx; simp [hf x hx]
      rw [this]; rfl
    | some i =>
      rw [List.findIdx?_eq_some_iff_getElem] at hf
      obtain ⟨hi, h1, _⟩ := hf
      have : l.any p = true := by rw [List.any_eq_true]; exact ⟨_, List.getElem_mem hi, h1⟩
      rw [this]; simp
  have HD := Aside0.mk hd
  clear hC hp hd
  go_enter Try.func39, Try.ntmps39
  go_wp2_with (go_at_call 71; refine h.out.mono ?_; rintro e w' ⟨rfl, hb⟩)
  go_ret
  refine ⟨?_, hb⟩
  rw [← HD.out]; rfl
theorem egIc : ∀ args w, (callFunc 40 args).run Try.prog w = .ok (.enter 40 args) w := enters_of Try.func40 (by kernel_rfl) rfl
end Go.Proofs.Ythbfaefneoeadaa.DG
