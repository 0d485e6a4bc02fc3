/- Walks over the choices of a space: of. Spaces of at most 8 places of sizes 2 to 4, rows of at most 1073741824. -/
import Derived.Test.YthbfaefneoeadaaCbCh
namespace Go.Proofs.Ythbfaefneoeadaa.DG
open Go Go.RowKit Go.Proofs.YthbfaefneoeadaaW.PrintWords Go.Proofs.YthbfaefneoeadaaW.PrintLast Go.Proofs.YthbfaefneoeadaaW.PrintMore
set_option linter.unusedVariables false
set_option linter.unusedSimpArgs false
/-- What the choices' struct holds. -/
structure ChAt (w : World) (g : Nat) (A : Option Addr) (c : Nat) (s : List Int) (AP : Option Addr) (cP : Nat) (P : List (List Int)) (AF : Option Addr) (cF : Nat) (F : List Int) (m : Int) : Prop where
  cell : w.heap[g]? = some (.cells #[.slice A s.length c, .slice AP P.length cP, .slice AF F.length cF, .int .i64 m] 71 (0, 0))
  hs : Kd.C (Kd.int .i64) w A s.length s
  hP : Kd.C (Kd.slice 2 (Kd.int .i64)) w AP P.length P
  hF : Kd.C (Kd.int .i64) w AF F.length F
  lc : s.length ≤ c
theorem ChAt.below {w w' : World} {g : Nat} {A : Option Addr} {c : Nat} {s : List Int} {AP : Option Addr} {cP : Nat} {P : List (List Int)} {AF : Option Addr} {cF : Nat} {F : List Int} {m : Int} (h : ChAt w g A c s AP cP P AF cF F m) (hb : Below w.heap.size w w') : ChAt w' g A c s AP cP P AF cF F m :=
  ⟨blk_below h.cell hb, Kd.C_below h.hs hb, Kd.C_below h.hP hb, Kd.C_below h.hF hb, h.lc⟩
theorem of_info : (Try.prog.info? 2).map (fun i => (i.zero, i.size, i.bytes)) = some (some (.int .i64 0), 1, 8) := by kernel_rfl
end Go.Proofs.Ythbfaefneoeadaa.DG
