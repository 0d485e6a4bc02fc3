/- The greedy rows, in plain Lean. No condition. -/
import Derived.Test.YthbfaefneoeadaaGyChO
namespace Go.Proofs.Ythbfaefneoeadaa.DG
open Go Go.RowKit Go.Proofs.YthbfaefneoeadaaW.PrintWords Go.Proofs.YthbfaefneoeadaaW.PrintLast Go.Proofs.YthbfaefneoeadaaW.PrintMore
set_option linter.unusedVariables false
set_option linter.unusedSimpArgs false
/-- How many of a list's numbers are not marked. -/
def cntB (h : List Bool) : List Int → Int
  | [] => 0
  | n :: l => (if rdB h n = true then 0 else 1) + cntB h l
/-- The first list with the most numbers that are not marked, behind some: its place and how many. -/
def bestB (h : List Bool) : List (List Int) → Int → Int → Int → Int × Int
  | [], _, b, m => (b, m)
  | L :: all, w, b, m => if cntB h L > m then bestB h all (w + 1) w (cntB h L) else bestB h all (w + 1) b m
def markA (h : List Bool) (L : List Int) : List Bool := L.foldl (fun h n => h.set n.toNat true) h
/-- The greedy rows, in so many rounds. -/
def greedyG (all : List (List Int)) : Nat → List Bool → Int → List Int → Option (List Int × Int)
  | 0, _, _, _ => none
  | k + 1, h, left, out => if left > 0 then (if out.length = 200 then some ([], 3) else greedyG all k (markA h (rdL all (bestB h all 0 0 0).1.toNat)) (left - (bestB h all 0 0 0).2) (out ++ [(bestB h all 0 0 0).1])) else some (out, 0)
theorem cntB_next (L : List Int) (i : Nat) (hi : i < L.length) (h : List Bool) : cntB h (L.drop i) = (if rdB h (rd L (i : Int)) = true then 0 else 1) + cntB h (L.drop (i + 1)) := by
  rw [List.drop_eq_getElem_cons hi, rd_nat' L i hi]; rfl
theorem bestB_next (h : List Bool) (all : List (List Int)) (i : Nat) (hi : i < all.length) (w b m : Int) : bestB h (all.drop i) w b m = if cntB h (rdL all i) > m then bestB h (all.drop (i + 1)) (w + 1) w (cntB h (rdL all i)) else bestB h (all.drop (i + 1)) (w + 1) b m := by
  rw [List.drop_eq_getElem_cons hi, rdL_eq all i hi]; rfl
theorem markA_next (h : List Bool) (L : List Int) (i : Nat) (hi : i < L.length) : markA h (L.take (i + 1)) = (markA h (L.take i)).set (rd L (i : Int)).toNat true := by
  unfold markA
  rw [List.take_succ_eq_append_getElem hi, List.foldl_append, rd_nat' L i hi]; rfl
theorem cntB_le (h : List Bool) : ∀ L : List Int, 0 ≤ cntB h L ∧ cntB h L ≤ L.length
  | [] => by simp [cntB]
  | n :: L => by
    have := cntB_le h L
    simp only [cntB, List.length_cons]
    split <;> omega
/-- Lists without doubles: marking counts what was not marked, and marks as markA does. -/
theorem markB_nodup : ∀ (L : List Int) (h : List Bool) (c : Int), L.Nodup → (∀ n ∈ L, 0 ≤ n ∧ n < (h.length : Int)) → (markB h c L).2 = c + cntB h L
  | [], h, c, _, _ => by simp [markB, cntB]
  | n :: L, h, c, hd, hL => by
    obtain ⟨hn, hd2⟩ := List.nodup_cons.1 hd
    have hs : ∀ (L : List Int), n ∉ L → (∀ x ∈ L, 0 ≤ x) → 0 ≤ n → cntB (h.set n.toNat true) L = cntB h L := by
      intro L
      induction L with
      | nil => intro _ _ _; rfl
      | cons x L ih =>
        intro hx hp h0
        have hne : n ≠ x := fun e => hx (by simp [e])
        have hxp := hp x (by simp)
        have e : rdB (h.set n.toNat true) x = rdB h x := by
          unfold rdB
          rw [List.getD_eq_getElem?_getD, List.getElem?_set, if_neg (by omega), ← List.getD_eq_getElem?_getD]
        simp only [cntB]
        rw [e, ih (fun hm => hx (by simp [hm])) (fun y hy => hp y (by simp [hy])) h0]
    simp only [markB, cntB]
    by_cases hb : rdB h n = true
    · rw [if_pos hb, if_pos hb, markB_nodup L h c hd2 fun x hx => hL x (by simp [hx])]; omega
    · rw [if_neg hb, if_neg hb, markB_nodup L _ (c + 1) hd2 (fun x hx => by rw [List.length_set]; exact hL x (by simp [hx])), hs L hn (fun x hx => (hL x (by simp [hx])).1) (hL n (by simp)).1]; omega
/-- A made row of flags. -/
theorem had_R (n : Nat) (W : World) (base : Nat) (ok : Nat → Prop) (hb : base ≤ W.heap.size) (hok : ok W.heap.size) (hm : n ≤ maxLen) : Kd.R Kd.bool 4 (W.alloc (.cells (madeCells (Value.bool false).cells n) 4)) base ok (.slice (some ⟨W.heap.size, 0, none⟩) n n) (List.replicate n false) := by
  refine Kd.R_of_own (h1 := fun _ => rfl) ⟨by simp [encs], .inr ⟨W.heap.size, n, _, by simp, hb, blk_new W _, by simp, hm, by simp [size_madeCells], ?_⟩⟩ (fun k hk => ?_)
  · apply List.ext_getElem
    · simp [encs, size_madeCells]
    · intro i h1 h2
      simp [encs, madeCells, Value.cells, Nat.mod_one]
  · have : W.heap.size = k := by simpa [Value.ownBlock] using hk
    rw [← this]; exact hok
end Go.Proofs.Ythbfaefneoeadaa.DG
