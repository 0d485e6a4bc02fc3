/- LeanRows: the library's ContainsFunc over a function value that answers for a list's own numbers, and the closure. No condition. -/
import Derived.Test.YthjkdnneagnejaaLrChO
import Derived.Test.YthjkdnneagnejaaLrFw
namespace Go.Proofs.Ythjkdnneagnejaa.DG
open Go Go.RowKit Go.Proofs.YthjkdnneagnejaaW.PrintWords Go.Proofs.YthjkdnneagnejaaW.PrintLast Go.Proofs.YthjkdnneagnejaaW.PrintMore Go.Proofs.Ythjkdnneagnejaa.FW
set_option linter.unusedVariables false
set_option linter.unusedSimpArgs false
set_option maxHeartbeats 1000000 in
set_option maxRecDepth 100000 in
theorem indexFuncOn (p : Int → Bool) (g : Nat) (lb : Array Value) (eg : ∀ args w, (callFunc g args).run Try.prog w = .ok (.enter g args) w) (A : Option Addr) (c : Nat) (l : List Int) (W : World)
    (hC : Kd.C (Kd.int .i64) W A l.length l) (hm : l.length ≤ maxLen) (hp : ∀ (wr : World) (x : Int), x ∈ l → Below W.heap.size W wr → Calls Try.prog g (#[.int .i64 x] ++ lb) wr fun e w' => e = .returned (.bool (p x)) ∧ Below wr.heap.size wr w') :
    Calls Try.prog 147 #[.slice A l.length c, .func (.func g) #[] lb] W fun e w' => e = .returned (.int .i64 (idxF p l)) ∧ Below W.heap.size W w' := by
  unfold maxLen at hm
  have HP := Aside0.mk hp
  have HC := Aside0.mk hC
  clear hp hC
  go_enter Try.func147, Try.ntmps147
  go_wp2
  go_loopg [5, 8] l.length (fun gg _ s8 wr => ∃ kk : Nat, kk ≤ l.length ∧ l.length - kk ≤ gg ∧ s8 = .int .i64 kk ∧ Aside0 (∀ j : Nat, j < kk → p (rd l (j : Nat)) = false) ∧ Aside0 (Below W.heap.size W wr))
  case atStart => exact ⟨0, Nat.zero_le _, by omega, rfl, ⟨fun j hj => absurd hj (Nat.not_lt_zero _)⟩, ⟨Below.refl _ _⟩⟩
  case round =>
    obtain ⟨kk, hkk, hg, rfl, HA, HB⟩ := hrel
    by_cases hlt : kk < l.length
    · have hltz : (kk : Int) < (l.length : Int) := by omega
      obtain ⟨ad, e, hx⟩ := Kd.at_int HC.out (kk : Int) (by omega) hltz
      cases e
      replace hx := (HB.out.cell (World.block_lt_of_cell? W _ hx)).trans hx
      rw [Int.toNat_natCast] at hx
      have HCALL := Aside0.mk (HP.out _ (rd l (kk : Nat)) (by rw [rd_nat' l kk hlt]; exact List.getElem_mem hlt) HB.out)
      cases hq : p (rd l (kk : Nat)) with
      | true =>
        rw [hq] at HCALL
        have HQ := Aside0.mk hq
        clear hq
        go_wp2_with fail
        refine HCALL.out.mono ?_
        rintro e w' ⟨rfl, hb⟩
        go_wp2
        go_ret
        refine ⟨?_, ?_⟩
        · rw [idxF_hit p l kk hlt HQ.out HA.out]; rfl
        · exact below_then HB.out HB.out.size hb
      | false =>
        rw [hq] at HCALL
        have HQ := Aside0.mk hq
        clear hq
        go_wp2_with fail
        refine HCALL.out.mono ?_
        rintro e w' ⟨rfl, hb⟩
        go_wp2
        go_roundg (l.length - (kk + 1))
        case measure => omega
        case rel =>
          refine ⟨kk + 1, by omega, by omega, by go_num, ⟨fun j hj => ?_⟩, ⟨below_then HB.out HB.out.size hb⟩⟩
          by_cases e : j = kk
          · subst e; exact HQ.out
          · exact HA.out j (by omega)
    · have hltz : ¬ (kk : Int) < (l.length : Int) := by omega
      have : kk = l.length := by omega
      subst this
      go_wp2
      go_ret
      refine ⟨?_, HB.out⟩
      rw [idxF_miss p l HA.out]; rfl
set_option maxHeartbeats 1000000 in
set_option maxRecDepth 100000 in
theorem containsFuncOn (p : Int → Bool) (g : Nat) (lb : Array Value) (eg : ∀ args w, (callFunc g args).run Try.prog w = .ok (.enter g args) w) (A : Option Addr) (c : Nat) (l : List Int) (W : World)
    (hC : Kd.C (Kd.int .i64) W A l.length l) (hm : l.length ≤ maxLen) (hp : ∀ (wr : World) (x : Int), x ∈ l → Below W.heap.size W wr → Calls Try.prog g (#[.int .i64 x] ++ lb) wr fun e w' => e = .returned (.bool (p x)) ∧ Below wr.heap.size wr w') :
    Calls Try.prog 97 #[.slice A l.length c, .func (.func g) #[] lb] W fun e w' => e = .returned (.bool (l.any p)) ∧ Below W.heap.size W w' := by
  have h := Aside0.mk (indexFuncOn p g lb eg A c l W hC hm hp)
  have hd : (decide (0 ≤ idxF p l)) = l.any p := by
    unfold idxF
    cases hf : l.findIdx? p with
    | none =>
      rw [List.findIdx?_eq_none_iff] at hf
      have : l.any p = false := by rw [List.any_eq_false]; intro x hx; simp [hf x hx]
      rw [this]; rfl
    | some i =>
      rw [List.findIdx?_eq_some_iff_getElem] at hf
      obtain ⟨hi, h1, _⟩ := hf
      have : l.any p = true := by rw [List.any_eq_true]; exact ⟨_, List.getElem_mem hi, h1⟩
      rw [this]; simp
  have HD := Aside0.mk hd
  clear hC hp hd
  go_enter Try.func97, Try.ntmps97
  go_wp2_with (go_at_call 147; refine h.out.mono ?_; rintro e w' ⟨rfl, hb⟩)
  go_ret
  refine ⟨?_, hb⟩
  rw [← HD.out]; rfl
theorem egLean : ∀ args w, (callFunc 120 args).run Try.prog w = .ok (.enter 120 args) w := enters_of Try.func120 (by kernel_rfl) rfl
set_option maxHeartbeats 1000000 in
set_option maxRecDepth 100000 in
theorem lean_asks (n : Int) (b : Nat) (A : Option Addr) (M c : Nat) (o : List Int) (W : World) (h : W.heap[b]? = some (.cells #[.slice A M c] 22 (0, 0))) (ho : o.length = M) (hC : Kd.C (Kd.int .i64) W A o.length o) (hn0 : 0 ≤ n) (hn1 : n < (o.length : Int)) :
    Calls Try.prog 120 #[.int .i64 n, .pointer (some ⟨b, 0, none⟩)] W fun e w' => e = .returned (.bool (rd o n == 1)) ∧ Below W.heap.size W w' := by
  subst ho
  have h0 : W.cell? ⟨b, 0, none⟩ = some (.slice A o.length c) := (blk_cell h 0).trans rfl
  obtain ⟨ad, e, hx⟩ := Kd.at_int hC n hn0 hn1
  cases e
  go_enter Try.func120, Try.ntmps120
  go_wp2
  go_ret
  exact ⟨rfl, Below.refl _ _⟩
/-- A row's choices taken away again. -/
def unt (o : List Int) (n : Int) : List Int := o.set n.toNat (rd o n - 1)
def leanV (f : Int → List Int) : List Int → List Int → List Int
  | o, [] => []
  | o, r :: rows => if ((f r).any fun n => rd o n == 1) = true then r :: leanV f o rows else leanV f ((f r).foldl unt o) rows
/-- The rows that are kept. -/
def leanT (s rows : List Int) (t : Nat) : List Int := leanV (ofT s t) (oftT s t rows) rows
theorem ticks_all : ∀ (l o : List Int) (B : Int), 0 ≤ B → (∀ x ∈ o, 0 ≤ x ∧ x ≤ B) → ∀ x ∈ l.foldl tick o, 0 ≤ x ∧ x ≤ B + l.length
  | [], o, B, _, h => by simpa using h
  | n :: l, o, B, hB, h => by
    intro x hx
    have := ticks_all l (tick o n) (B + 1) (by omega) (tick_all o n B hB h) x (by simpa using hx)
    simp only [List.length_cons]; omega
theorem ofts_all (C : Nat) : ∀ (ofs : List (List Int)) (o : List Int) (B : Int), 0 ≤ B → (∀ l ∈ ofs, l.length ≤ C) → (∀ x ∈ o, 0 ≤ x ∧ x ≤ B) → ∀ x ∈ ofs.foldl (fun o l => l.foldl tick o) o, 0 ≤ x ∧ x ≤ B + (C * ofs.length : Nat)
  | [], o, B, _, _, h => by simpa using h
  | l :: ofs, o, B, hB, hl, h => by
    intro x hx
    have h1 := ofts_all C ofs (l.foldl tick o) (B + l.length) (by omega) (fun y hy => hl y (by simp [hy])) (ticks_all l o B hB h) x (by simpa using hx)
    have h2 := hl l (by simp)
    rw [List.length_cons, Nat.mul_succ]
    omega
theorem oftT_all (s : List Int) (h8 : s.length ≤ 8) (t : Nat) (ht : t ≤ 3) (rows : List Int) : ∀ x ∈ oftT s t rows, 0 ≤ x ∧ x ≤ (56 * rows.length : Nat) := by
  intro x hx
  have h := ofts_all 56 (rows.map (ofT s t)) (List.replicate (manyC s (plc s.length t 0)).toNat 0) 0 (by omega) (fun l hl => by
    obtain ⟨r, _, rfl⟩ := List.mem_map.1 hl
    exact ofT_len s h8 t ht r) (fun y hy => by have := List.eq_of_mem_replicate hy; omega) x hx
  rw [List.length_map] at h
  omega
theorem unt_all (o : List Int) (n B C : Int) (hB : B ≤ 0) (hC : 0 ≤ C) (h : ∀ x ∈ o, B ≤ x ∧ x ≤ C) : ∀ x ∈ unt o n, B - 1 ≤ x ∧ x ≤ C := by
  intro x hx
  have hr : B ≤ rd o n ∧ rd o n ≤ C := by
    unfold rd
    by_cases hl : n.toNat < o.length
    · rw [List.getD_eq_getElem?_getD, List.getElem?_eq_getElem hl]
      exact h _ (List.getElem_mem hl)
    · rw [List.getD_eq_getElem?_getD, List.getElem?_eq_none (by omega)]
      exact ⟨hB, hC⟩
  rcases List.mem_or_eq_of_mem_set hx with h1 | rfl
  · have := h x h1; omega
  · omega
theorem unt_len (o : List Int) (n : Int) : (unt o n).length = o.length := by simp [unt]
theorem untNext (L : List Int) (i : Nat) (hi : i < L.length) (o : List Int) : (L.drop i).foldl unt o = (L.drop (i + 1)).foldl unt (unt o (rd L (i : Int))) := by
  rw [List.drop_eq_getElem_cons hi, rd_nat' L i hi]; rfl
theorem lean_next (f : Int → List Int) (rows : List Int) (j : Nat) (hj : j < rows.length) (o : List Int) : leanV f o (rows.drop j) = if ((f (rd rows (j : Int))).any fun n => rd o n == 1) = true then rd rows (j : Int) :: leanV f o (rows.drop (j + 1)) else leanV f ((f (rd rows (j : Int))).foldl unt o) (rows.drop (j + 1)) := by
  rw [List.drop_eq_getElem_cons hj, rd_nat' rows j hj]; rfl
end Go.Proofs.Ythjkdnneagnejaa.DG
