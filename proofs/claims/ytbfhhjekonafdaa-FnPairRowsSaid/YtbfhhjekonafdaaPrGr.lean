/- The greedy rows, in plain Lean. No condition. -/
import Derived.Test.YtbfhhjekonafdaaPrChO
namespace Go.Proofs.Ytbfhhjekonafdaa.DG
open Go Go.RowKit Go.Proofs.YtbfhhjekonafdaaW.PrintWords Go.Proofs.YtbfhhjekonafdaaW.PrintLast Go.Proofs.YtbfhhjekonafdaaW.PrintMore
set_option linter.unusedVariables false
set_option linter.unusedSimpArgs false
/-- How many of a list's numbers are not marked. -/
def cntB (h : List Bool) : List Int → Int
  | [] => 0
  | n :: l => (if rdB h n = true then 0 else 1) + cntB h l
/-- The first list with the most numbers that are not marked, behind some: its place and how many. -/
def bestB (h : List Bool) : List (List Int) → Int → Int → Int → Int × Int
  | [], _, b, m => (b, m)
  | L :: all, w, b, m => if cntB h L > m then bestB h all (w + 1) w (cntB h L) else bestB h all (w + 1) b m
def markA (h : List Bool) (L : List Int) : List Bool := L.foldl (fun h n => h.set n.toNat true) h
/-- The greedy rows, in so many rounds. -/
def greedyG (all : List (List Int)) : Nat → List Bool → Int → List Int → Option (List Int × Int)
  | 0, _, _, _ => none
  | k + 1, h, left, out => if left > 0 then (if out.length = 200 then some ([], 3) else greedyG all k (markA h (rdL all (bestB h all 0 0 0).1.toNat)) (left - (bestB h all 0 0 0).2) (out ++ [(bestB h all 0 0 0).1])) else some (out, 0)
/-- Lists without doubles: marking counts what was not marked, and marks as markA does. -/
theorem markB_nodup : ∀ (L : List Int) (h : List Bool) (c : Int), L.Nodup → (∀ n ∈ L, 0 ≤ n ∧ n < (h.length : Int)) → (markB h c L).2 = c + cntB h L
  | [], h, c, _, _ => by simp [markB, cntB]
  | n :: L, h, c, hd, hL => by
    obtain ⟨hn, hd2⟩ := List.nodup_cons.1 hd
    have hs : ∀ (L : List Int), n ∉ L → (∀ x ∈ L, 0 ≤ x) → 0 ≤ n → cntB (h.set n.toNat true) L = cntB h L := by
      intro L
      induction L with
      | nil => intro _ _ _; rfl
      | cons x L ih =>
        intro hx hp h0
        have hne : n ≠ x := fun e => hx (by simp [e])
        have hxp := hp x (by simp)
        have e : rdB (h.set n.toNat true) x = rdB h x := by
          unfold rdB
          rw [List.getD_eq_getElem?_getD, List.getElem?_set, if_neg (by omega), ← List.getD_eq_getElem?_getD]
        simp only [cntB]
        rw [e, ih (fun hm => hx (by simp [hm])) (fun y hy => hp y (by simp [hy])) h0]
    simp only [markB, cntB]
    by_cases hb : rdB h n = true
    · rw [if_pos hb, if_pos hb, markB_nodup L h c hd2 fun x hx => hL x (by simp [hx])]; omega
    · rw [if_neg hb, if_neg hb, markB_nodup L _ (c + 1) hd2 (fun x hx => by rw [List.length_set]; exact hL x (by simp [hx])), hs L hn (fun x hx => (hL x (by simp [hx])).1) (hL n (by simp)).1]; omega
end Go.Proofs.Ytbfhhjekonafdaa.DG
