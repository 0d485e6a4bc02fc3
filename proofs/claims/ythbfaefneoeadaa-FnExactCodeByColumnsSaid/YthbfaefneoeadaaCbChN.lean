/- Walks over the choices of a space: newChoices. Spaces of at most 8 places of sizes 2 to 4, at most 3 places. -/
import Derived.Test.YthbfaefneoeadaaCbChA
import Derived.Deep.RegionHeld3
import Derived.Deep.RegionLaw
import Derived.Deep.DrawnRows
import Derived.Outline
import Derived.BigQuiet
import Derived.Shelf.Abstract
namespace Go.Proofs.Ythbfaefneoeadaa.DG
open Go Go.RowKit Go.Proofs.YthbfaefneoeadaaW.PrintWords Go.Proofs.YthbfaefneoeadaaW.PrintLast Go.Proofs.YthbfaefneoeadaaW.PrintMore
set_option linter.unusedVariables false
set_option linter.unusedSimpArgs false
/-- The closure's variables: in which blocks they lie. -/
structure NB where
  bt : Nat
  bs : Nat
  bc : Nat
  bf : Nat
  gC : Nat
  B : Nat
  lo : Nat
def searchV (b : NB) : Value := .func (.func 76) #[] #[.pointer (some ⟨b.bt, 0, none⟩), .pointer (some ⟨b.bs, 0, none⟩), .pointer (some ⟨b.bc, 0, none⟩), .pointer (some ⟨b.bf, 0, none⟩)]
/-- What memory holds while the lists of places are sought. -/
structure NC (W : World) (H : Nat) (b : NB) (tt : Nat) (A : Option Addr) (c : Nat) (s : List Int) (vP vF : Value) (P : List (List Int)) (F : List Int) (m : Int) (L : List Int) : Prop where
  kt : W.heap[b.bt]? = some (.cells #[.int .i64 (tt : Int)] 2 (0, 0))
  ks : W.heap[b.bs]? = some (.cells #[.slice A s.length c] 30 (0, 0))
  kc : W.heap[b.bc]? = some (.cells #[.pointer (some ⟨b.gC, 0, none⟩)] 68 (0, 0))
  kf : W.heap[b.bf]? = some (.cells #[searchV b] 92 (0, 0))
  kg : W.heap[b.gC]? = some (.cells #[.slice A s.length c, vP, vF, .int .i64 m] 71 (0, 0))
  kB : ∃ cur : Array Value, W.heap[b.B]? = some (.cells cur 2 (0, 0)) ∧ cur.size = 3 ∧ ∀ j (h : j < L.length), cur[j]? = some (.int .i64 L[j])
  hP : Kd.R (Kd.slice 2 (Kd.int .i64)) 22 W H (fun k => b.lo ≤ k ∧ some k ≠ vF.ownBlock) vP P
  hF : Kd.R (Kd.int .i64) 2 W H (fun k => b.lo ≤ k) vF F
theorem NC.list {W : World} {H : Nat} {b : NB} {tt : Nat} {A : Option Addr} {c : Nat} {s : List Int} {vP vF : Value} {P : List (List Int)} {F : List Int} {m : Int} {L : List Int} (h : NC W H b tt A c s vP vF P F m L) (hl : L.length ≤ 3) : Kd.C (Kd.int .i64) W (some ⟨b.B, 0, none⟩) L.length L := by
  obtain ⟨cur, h1, h2, h3⟩ := h.kB
  refine Kd.C_of_reads (d := (0 : Int)) (h1 := fun _ => rfl) ⟨rfl, by omega, fun _ => ⟨_, rfl, fun j hj => ?_⟩⟩
  rw [add_plain, blk_cell h1 j, h3 j hj]
  simp [hj]
/-- A row of whole numbers, whose own block alone it is told by. -/
theorem R_own {w : World} {base : Nat} {ok : Nat → Prop} {v : Value} {xs : List Int} (h : Kd.R (Kd.int .i64) 2 w base ok v xs) : Kd.R (Kd.int .i64) 2 w base (fun k => v.ownBlock = some k) v xs :=
  Kd.R_of_own (Kd.own_of_R h) (fun _ hk => hk)
theorem NC.cast {W : World} {H : Nat} {b : NB} {tt : Nat} {A : Option Addr} {c : Nat} {s : List Int} {vP vF : Value} {P P' : List (List Int)} {F F' : List Int} {m m' : Int} {L : List Int} (h : NC W H b tt A c s vP vF P F m L) (e1 : P = P') (e2 : F = F') (e3 : m = m') : NC W H b tt A c s vP vF P' F' m' L := by
  subst e1 e2 e3
  exact h
theorem NC.below {W W' : World} {H : Nat} {b : NB} {tt : Nat} {A : Option Addr} {c : Nat} {s : List Int} {vP vF : Value} {P : List (List Int)} {F : List Int} {m : Int} {L : List Int} (h : NC W H b tt A c s vP vF P F m L) (hb : Below W.heap.size W W') : NC W' H b tt A c s vP vF P F m L := by
  refine ⟨blk_below h.kt hb, blk_below h.ks hb, blk_below h.kc hb, blk_below h.kf hb, blk_below h.kg hb, ?_, Kd.R_below h.hP hb, Kd.R_below h.hF hb⟩
  obtain ⟨cur, k1, k2, k3⟩ := h.kB
  exact ⟨cur, blk_below k1 hb, k2, k3⟩
end Go.Proofs.Ythbfaefneoeadaa.DG
