/- Walks over the choices of a space: of. Spaces of at most 8 places of sizes 2 to 4, rows of at most 1073741824. -/
import Derived.Laws.CopyOwn
import Derived.Test.YthbfaefneoeadaaJpDg2
namespace Go.Proofs.Ythbfaefneoeadaa.DG
open Go Go.RowKit Go.Proofs.YthbfaefneoeadaaW.PrintWords Go.Proofs.YthbfaefneoeadaaW.PrintLast Go.Proofs.YthbfaefneoeadaaW.PrintMore
set_option linter.unusedVariables false
set_option linter.unusedSimpArgs false
def rdL (xs : List (List Int)) (i : Nat) : List Int := xs.getD i []
theorem rdL_eq (xs : List (List Int)) (i : Nat) (h : i < xs.length) : rdL xs i = xs[i] := by simp [rdL, List.getElem?_eq_getElem h]
theorem at_rows {w : World} {A : Option Addr} {n : Nat} {xs : List (List Int)} (h : Kd.C (Kd.slice 2 (Kd.int .i64)) w A n xs) (i : Nat) (h1 : i < n) : ∃ ad A0 c0, A = some ad ∧ w.cell? (ad.add i) = some (.slice A0 (rdL xs i).length c0) ∧ (rdL xs i).length ≤ c0 ∧ Kd.C (Kd.int .i64) w A0 (rdL xs i).length (rdL xs i) := by
  obtain ⟨ad, c, e, _, hK, hc0⟩ := Kd.C_get h ([] : List Int) (i : Int) (by omega) (by omega)
  rw [Int.toNat_natCast] at hK hc0
  have hc : ∀ j u, c[j]? = some u → w.cell? (ad.add (i * 1 + j)) = some u := hc0
  obtain ⟨A0, c0, rfl, l0, g0⟩ := hK
  exact ⟨ad, A0, c0, e, by have hq := hc 0 _ rfl; rwa [Nat.mul_one, Nat.add_zero] at hq, l0, g0⟩
/-- What the choices' struct holds. -/
structure ChAt (w : World) (g : Nat) (A : Option Addr) (c : Nat) (s : List Int) (AP : Option Addr) (cP : Nat) (P : List (List Int)) (AF : Option Addr) (cF : Nat) (F : List Int) (m : Int) : Prop where
  cell : w.heap[g]? = some (.cells #[.slice A s.length c, .slice AP P.length cP, .slice AF F.length cF, .int .i64 m] 71 (0, 0))
  hs : Kd.C (Kd.int .i64) w A s.length s
  hP : Kd.C (Kd.slice 2 (Kd.int .i64)) w AP P.length P
  hF : Kd.C (Kd.int .i64) w AF F.length F
  lc : s.length ≤ c
theorem ChAt.below {w w' : World} {g : Nat} {A : Option Addr} {c : Nat} {s : List Int} {AP : Option Addr} {cP : Nat} {P : List (List Int)} {AF : Option Addr} {cF : Nat} {F : List Int} {m : Int} (h : ChAt w g A c s AP cP P AF cF F m) (hb : Below w.heap.size w w') : ChAt w' g A c s AP cP P AF cF F m :=
  ⟨blk_below h.cell hb, Kd.C_below h.hs hb, Kd.C_below h.hP hb, Kd.C_below h.hF hb, h.lc⟩
theorem cell_blk_ne {w wr : World} {a : Addr} {v : Value} (h : w.cell? a = some v) (hb : Below w.heap.size w wr) : wr.cell? a = some v := (hb.cell (World.block_lt_of_cell? w a h)).trans h
theorem of_info : (Try.prog.info? 2).map (fun i => (i.zero, i.size, i.bytes)) = some (some (.int .i64 0), 1, 8) := by kernel_rfl
end Go.Proofs.Ythbfaefneoeadaa.DG
