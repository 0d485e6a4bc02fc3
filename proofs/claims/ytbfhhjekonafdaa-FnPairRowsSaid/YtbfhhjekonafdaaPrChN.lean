/- Walks over the choices of a space: newChoices. Spaces of at most 8 places of sizes 2 to 4, at most 3 places. -/
import Derived.Test.YtbfhhjekonafdaaPrChA
import Derived.Deep.RegionHeld3
import Derived.Deep.RegionLaw
import Derived.Deep.DrawnRows
import Derived.Outline
import Derived.BigQuiet
import Derived.Shelf.Abstract
namespace Go.Proofs.Ytbfhhjekonafdaa.DG
open Go Go.RowKit Go.Proofs.YtbfhhjekonafdaaW.PrintWords Go.Proofs.YtbfhhjekonafdaaW.PrintLast Go.Proofs.YtbfhhjekonafdaaW.PrintMore
set_option linter.unusedVariables false
set_option linter.unusedSimpArgs false
theorem cl_info2 : (Try.prog.info? 2).map (fun i => (i.zero, i.size, i.bytes)) = some (some (.int .i64 0), 1, 8) := by kernel_rfl
theorem nil_eq (c : Nat) (w : World) : Sem.run Try.prog (binOp .eql 25 (.slice none 0 c) (.slice none 0 0)) w = .ok (.bool true) w := by kernel_rfl
theorem nil_ne (ad : Addr) (n c : Nat) (w : World) : Sem.run Try.prog (binOp .eql 25 (.slice (some ad) n c) (.slice none 0 0)) w = .ok (.bool false) w := by kernel_rfl
set_option maxHeartbeats 1000000 in
set_option maxRecDepth 100000 in
theorem clone_walk (A : Option Addr) (c : Nat) (l : List Int) (w : World) (hr : Kd.C (Kd.int .i64) w A l.length l) (hl : l.length ≤ 17592186044415) :
    Calls Try.prog 83 #[.slice A l.length c] w fun e w' => ∃ v0_ : Value, e = .returned (v0_) ∧ Kd.R (Kd.int .i64) 2 w' w.heap.size (fun _ => True) v0_ l ∧ Below w.heap.size w w' := by
  cases A with
  | none =>
    have h0 : l = [] := by
      by_cases h : 0 < l.length
      · obtain ⟨_, e, _⟩ := Kd.at_int hr 0 (by omega) (by omega)
        cases e
      · exact List.length_eq_zero_iff.1 (by omega)
    subst h0
    clear hr hl
    have he := nil_eq c w
    go_enter Try.func83, Try.ntmps83
    go_wp2
    go_ret
    exact ⟨_, rfl, Kd.R_nil _ _ _ _ _, Below.refl _ _⟩
  | some ad =>
    have HR := Aside0.mk (Kd.C_alloc hr (.cells #[] 2))
    have HB := Aside0.mk (below_alloc (Below.refl w.heap.size w) (.cells #[] 2))
    have HO := Aside0.mk (show Kd.R (Kd.int .i64) 2 (w.alloc (.cells #[] 2)) w.heap.size (fun _ => True) (.slice (some ⟨w.heap.size, 0, none⟩) 0 0) [] from ⟨fun _ _ => trivial, OwnRow.lit w w.heap.size (Reps.none _ _) (Nat.le_refl _) (by simp)⟩)
    clear hr
    have he := nil_ne ad l.length c w
    go_enter Try.func83, Try.ntmps83
    go_wp2_with (at_builtin; refine Kd.R_append_rows (Kd.int .i64) (w0 := w) w.heap.size rfl (.tmp 5) (.tmp 6) 25 2 (.int .i64 0) 8 rfl Try.underlying25 cl_info2 rfl (by decide) (by omega) _ [] l _ _ _ (fun _ => True) (fun _ => False) rfl rfl HO.out HR.out (fun _ _ h => h) (fun _ h => h.elim) (fun _ _ => trivial) HB.out HB.out.size (by simp; omega) ?_; intro v1 w9 ho hb hg hat)
    go_ret
    exact ⟨_, rfl, ho, hb⟩
theorem nc_info22 : (Try.prog.info? 25).map (fun i => (i.zero, i.size, i.bytes)) = some (some (.slice none 0 0), 1, 24) := by kernel_rfl
theorem nc_m {w : World} {base : Nat} {v : Value} {L : List Int} (h : Kd.R (Kd.int .i64) 2 w base (fun _ => True) v L) {H : Nat} (hH : H ≤ base) : Kd.M (Kd.slice 2 (Kd.int .i64)) w H (fun k => base ≤ k) L [v] := by
  have ho := Kd.own_of_R h
  exact ⟨v, rfl, Kd.R_lower (Kd.R_of_own ho (fun k hk => own_base ho k hk)) hH⟩
/-- The closure's variables: in which blocks they lie. -/
structure NB where
  bt : Nat
  bs : Nat
  bc : Nat
  bf : Nat
  gC : Nat
  B : Nat
  lo : Nat
def searchV (b : NB) : Value := .func (.func 82) #[] #[.pointer (some ⟨b.bt, 0, none⟩), .pointer (some ⟨b.bs, 0, none⟩), .pointer (some ⟨b.bc, 0, none⟩), .pointer (some ⟨b.bf, 0, none⟩)]
/-- What memory holds while the lists of places are sought. -/
structure NC (W : World) (H : Nat) (b : NB) (tt : Nat) (A : Option Addr) (c : Nat) (s : List Int) (vP vF : Value) (P : List (List Int)) (F : List Int) (m : Int) (L : List Int) : Prop where
  kt : W.heap[b.bt]? = some (.cells #[.int .i64 (tt : Int)] 2 (0, 0))
  ks : W.heap[b.bs]? = some (.cells #[.slice A s.length c] 27 (0, 0))
  kc : W.heap[b.bc]? = some (.cells #[.pointer (some ⟨b.gC, 0, none⟩)] 69 (0, 0))
  kf : W.heap[b.bf]? = some (.cells #[searchV b] 95 (0, 0))
  kg : W.heap[b.gC]? = some (.cells #[.slice A s.length c, vP, vF, .int .i64 m] 82 (0, 0))
  kB : ∃ cur : Array Value, W.heap[b.B]? = some (.cells cur 2 (0, 0)) ∧ cur.size = 3 ∧ ∀ j (h : j < L.length), cur[j]? = some (.int .i64 L[j])
  hP : Kd.R (Kd.slice 2 (Kd.int .i64)) 25 W H (fun k => b.lo ≤ k ∧ some k ≠ vF.ownBlock) vP P
  hF : Kd.R (Kd.int .i64) 2 W H (fun k => b.lo ≤ k) vF F
theorem R_blk {α : Type} {d : Kd α} {e : Nat} {w : World} {base : Nat} {ok : Nat → Prop} {v : Value} {xs : List α} (h : d.R e w base ok v xs) : ∀ k, v.ownBlock = some k → k < w.heap.size ∧ base ≤ k ∧ ok k := fun k hk => by
  have := (Kd.R_bound h).1 k hk
  exact ⟨this.2.2.1, this.2.1, this.1⟩
theorem nc_okp {W : World} {H lo : Nat} {vP vF : Value} {P : List (List Int)} {F : List Int} (hlo : lo ≤ W.heap.size) (hP : Kd.R (Kd.slice 2 (Kd.int .i64)) 25 W H (fun k => lo ≤ k ∧ some k ≠ vF.ownBlock) vP P) (hF : Kd.R (Kd.int .i64) 2 W H (fun k => lo ≤ k) vF F) : ∀ k, W.heap.size ≤ k → (lo ≤ k ∧ some k ≠ vF.ownBlock) ∧ some k ≠ vP.ownBlock := fun k hk =>
  ⟨⟨by omega, fun he => by have := (R_blk hF k he.symm).1; omega⟩, fun he => by have := (R_blk hP k he.symm).1; omega⟩
theorem nc_fr {W w5 : World} {H lo : Nat} {vF : Value} {F : List Int} (hlo : lo ≤ W.heap.size) (hb : Below W.drew.heap.size W.drew w5) (hF : Kd.R (Kd.int .i64) 2 W H (fun k => lo ≤ k) vF F) : ∀ k, w5.heap.size ≤ k → lo ≤ k ∧ some k ≠ vF.ownBlock := fun k hk => by
  have h1 : W.heap.size ≤ w5.heap.size := hb.size
  exact ⟨by omega, fun he => by have := (R_blk hF k he.symm).1; omega⟩
theorem nc_b {W w5 w0 : World} {H : Nat} (h : Below H w0 W) (hb : Below W.drew.heap.size W.drew w5) (hH : H ≤ W.heap.size) : Below H w0 w5 := by
  have h1 : Below H w0 W.drew := below_drew h
  exact h1.trans (hb.mono hH)
theorem nc_cell {W w5 w6 : World} {lo : Nat} {v u : Value} {a : Addr} (hc : W.cell? a = some u) (hb : Below W.drew.heap.size W.drew w5) (hg : w5.grownBy w6 v.ownBlock) (ha : a.block < lo) (hv : ∀ k, v.ownBlock = some k → lo ≤ k) : w6.cell? a = some u := by
  have h1 : w5.cell? a = some u := cell_blk_ne (w := W.drew) hc hb
  exact World.grownBy.cell hg h1 (fun he => by have := hv _ he.symm; omega)
theorem nc_blk {W w5 w6 : World} {lo : Nat} {v : Value} {g : Nat} {o : Obj} (hk : W.heap[g]? = some o) (hb : Below W.drew.heap.size W.drew w5) (hg : w5.grownBy w6 v.ownBlock) (ha : g < lo) (hv : ∀ k, v.ownBlock = some k → lo ≤ k) : w6.heap[g]? = some o :=
  blk_grown (blk_below (w := W.drew) hk hb) hg (fun he => by have := hv _ he.symm; omega)
theorem nc_froz {W w5 w6 : World} {lo : Nat} {v : Value} {g : Nat} {cs : Array Value} {t : TypeId} (hk : W.heap[g]? = some (.cells cs t (0, 0))) (hb : Below W.drew.heap.size W.drew w5) (hg : w5.grownBy w6 v.ownBlock) (ha : g < lo) (hv : ∀ k, v.ownBlock = some k → lo ≤ k) (i : Nat) : w6.frozen? ⟨g, i, none⟩ = false :=
  blk_frozen (nc_blk hk hb hg ha hv) i
theorem nc_cell8 {W w8 : World} {lo : Nat} {v u : Value} {a : Addr} (hc : W.drew.cell? a = some u) (hg : W.drew.grownBy w8 v.ownBlock) (ha : a.block < lo) (hv : ∀ k, v.ownBlock = some k → lo ≤ k) : w8.cell? a = some u :=
  World.grownBy.cell hg hc (fun he => by have := hv _ he.symm; omega)
theorem nc_froz8 {W w8 : World} {lo : Nat} {v : Value} {g : Nat} {cs : Array Value} {t : TypeId} (hk : W.heap[g]? = some (.cells cs t (0, 0))) (hg : W.drew.grownBy w8 v.ownBlock) (ha : g < lo) (hv : ∀ k, v.ownBlock = some k → lo ≤ k) (i : Nat) : w8.frozen? ⟨g, i, none⟩ = false :=
  blk_frozen (blk_grown (blk_drew hk) hg (fun he => by have := hv _ he.symm; omega)) i
/-- The blocks are apart. -/
structure NA (H : Nat) (b : NB) : Prop where
  h1 : H ≤ b.bt
  h2 : b.bt < b.lo
  h3 : H ≤ b.bs
  h4 : b.bs < b.lo
  h5 : H ≤ b.bc
  h6 : b.bc < b.lo
  h7 : H ≤ b.bf
  h8 : b.bf < b.lo
  h9 : H ≤ b.gC
  h10 : b.gC < b.lo
  h11 : H ≤ b.B
  h12 : b.B < b.lo
  n1 : b.bt ≠ b.gC
  n2 : b.bs ≠ b.gC
  n3 : b.bc ≠ b.gC
  n4 : b.bf ≠ b.gC
  n5 : b.bt ≠ b.B
  n6 : b.bs ≠ b.B
  n7 : b.bc ≠ b.B
  n8 : b.bf ≠ b.B
  n9 : b.gC ≠ b.B
  n10 : b.lo = b.B + 1
theorem NC.list {W : World} {H : Nat} {b : NB} {tt : Nat} {A : Option Addr} {c : Nat} {s : List Int} {vP vF : Value} {P : List (List Int)} {F : List Int} {m : Int} {L : List Int} (h : NC W H b tt A c s vP vF P F m L) (hl : L.length ≤ 3) : Kd.C (Kd.int .i64) W (some ⟨b.B, 0, none⟩) L.length L := by
  obtain ⟨cur, h1, h2, h3⟩ := h.kB
  refine Kd.C_of_reads (d := (0 : Int)) (h1 := fun _ => rfl) ⟨rfl, by omega, fun _ => ⟨_, rfl, fun j hj => ?_⟩⟩
  rw [add_plain, blk_cell h1 j, h3 j hj]
  simp [hj]
/-- A row of whole numbers, whose own block alone it is told by. -/
theorem R_own {w : World} {base : Nat} {ok : Nat → Prop} {v : Value} {xs : List Int} (h : Kd.R (Kd.int .i64) 2 w base ok v xs) : Kd.R (Kd.int .i64) 2 w base (fun k => v.ownBlock = some k) v xs :=
  Kd.R_of_own (Kd.own_of_R h) (fun _ hk => hk)
theorem NC.lt {W : World} {H : Nat} {b : NB} {tt : Nat} {A : Option Addr} {c : Nat} {s : List Int} {vP vF : Value} {P : List (List Int)} {F : List Int} {m : Int} {L : List Int} (h : NC W H b tt A c s vP vF P F m L) : (∀ k, vP.ownBlock = some k → k < W.heap.size ∧ b.lo ≤ k ∧ some k ≠ vF.ownBlock) ∧ ∀ k, vF.ownBlock = some k → k < W.heap.size ∧ b.lo ≤ k :=
  ⟨fun k hk => ⟨(R_blk h.hP k hk).1, (R_blk h.hP k hk).2.2.1, (R_blk h.hP k hk).2.2.2⟩, fun k hk => ⟨(R_blk h.hF k hk).1, (R_blk h.hF k hk).2.2⟩⟩
theorem NC.pushP {W w5 w6 : World} {H : Nat} {b : NB} {tt : Nat} {A : Option Addr} {c : Nat} {s : List Int} {vP vF v6 : Value} {P : List (List Int)} {F : List Int} {m : Int} {L : List Int} (h : NC W H b tt A c s vP vF P F m L) (hA : NA H b) (hb : Below W.drew.heap.size W.drew w5) (hg : w5.grownBy w6 vP.ownBlock) (hR : Kd.R (Kd.slice 2 (Kd.int .i64)) 25 w6 H (fun k => b.lo ≤ k ∧ some k ≠ vF.ownBlock) v6 (P ++ [L])) : NC (w6.setCell ⟨b.gC, 1, none⟩ v6) H b tt A c s v6 vF (P ++ [L]) F m L := by
  have hv : ∀ k, vP.ownBlock = some k → b.lo ≤ k := fun k hk => (h.lt.1 k hk).2.1
  have keep : ∀ {g : Nat} {cs : Array Value} {t : TypeId}, W.heap[g]? = some (.cells cs t (0, 0)) → g < b.lo → g ≠ b.gC → (w6.setCell ⟨b.gC, 1, none⟩ v6).heap[g]? = some (.cells cs t (0, 0)) := fun hk hl hne => blk_far (nc_blk hk hb hg hl hv) hne _
  refine ⟨keep h.kt hA.h2 hA.n1, keep h.ks hA.h4 hA.n2, keep h.kc hA.h6 hA.n3, keep h.kf hA.h8 hA.n4, ?_, ?_, ?_, ?_⟩
  · exact blk_set (nc_blk h.kg hb hg hA.h10 hv) 1 v6
  · obtain ⟨cur, k1, k2, k3⟩ := h.kB
    exact ⟨cur, keep k1 hA.h12 (Ne.symm hA.n9), k2, k3⟩
  · exact Kd.R_far (p := ⟨b.gC, 1, none⟩) hR (fun k hk => by have := hA.h10; show k ≠ b.gC; omega) v6
  · have h1 : Kd.R (Kd.int .i64) 2 w5 H (fun k => vF.ownBlock = some k) vF F := Kd.R_below (Kd.R_drew (R_own h.hF)) hb
    have h2 := Kd.R_grown h1 hg (fun k hk he => (h.lt.1 k he.symm).2.2 hk.symm)
    refine Kd.R_mono (Kd.R_far (p := ⟨b.gC, 1, none⟩) h2 (fun k hk => ?_) v6) (fun k hk => (h.lt.2 k hk).2)
    have := (h.lt.2 k hk).2
    have := hA.h10
    show k ≠ b.gC
    omega
theorem NC.pushF {W w8 : World} {H : Nat} {b : NB} {tt : Nat} {A : Option Addr} {c : Nat} {s : List Int} {vP vF v8 : Value} {P : List (List Int)} {F F' : List Int} {m : Int} {L : List Int} (h : NC W H b tt A c s vP vF P F m L) (hA : NA H b) (hg : W.drew.grownBy w8 vF.ownBlock) (hR : Kd.R (Kd.int .i64) 2 w8 H (fun k => b.lo ≤ k) v8 F') (hat : v8.ownBlock = vF.ownBlock ∨ ∃ g, v8.ownBlock = some g ∧ W.drew.heap.size ≤ g) : NC (w8.setCell ⟨b.gC, 2, none⟩ v8) H b tt A c s vP v8 P F' m L := by
  have hv : ∀ k, vF.ownBlock = some k → b.lo ≤ k := fun k hk => (h.lt.2 k hk).2
  have blk : ∀ {g : Nat} {o : Obj}, W.heap[g]? = some o → g < b.lo → w8.heap[g]? = some o := fun hk hl => blk_grown (blk_drew hk) hg (fun he => by have := hv _ he.symm; omega)
  have keep : ∀ {g : Nat} {cs : Array Value} {t : TypeId}, W.heap[g]? = some (.cells cs t (0, 0)) → g < b.lo → g ≠ b.gC → (w8.setCell ⟨b.gC, 2, none⟩ v8).heap[g]? = some (.cells cs t (0, 0)) := fun hk hl hne => blk_far (blk hk hl) hne _
  refine ⟨keep h.kt hA.h2 hA.n1, keep h.ks hA.h4 hA.n2, keep h.kc hA.h6 hA.n3, keep h.kf hA.h8 hA.n4, ?_, ?_, ?_, ?_⟩
  · exact blk_set (blk h.kg hA.h10) 2 v8
  · obtain ⟨cur, k1, k2, k3⟩ := h.kB
    exact ⟨cur, keep k1 hA.h12 (Ne.symm hA.n9), k2, k3⟩
  · have h1 := Kd.R_grown (Kd.R_bound (Kd.R_drew h.hP)) hg (fun k hk => hk.1.2)
    refine Kd.R_mono (Kd.R_far (p := ⟨b.gC, 2, none⟩) h1 (fun k hk => by have := hA.h10; have := hk.1.1; show k ≠ b.gC; omega) v8) (fun k hk => ⟨hk.1.1, fun he => ?_⟩)
    rcases hat with h2 | ⟨g, h2, h3⟩
    · exact hk.1.2 (he.trans h2)
    · rw [h2] at he
      have := hk.2.2.1
      have : k = g := Option.some.inj he
      omega
  · exact Kd.R_far (p := ⟨b.gC, 2, none⟩) hR (fun k hk => by have := hA.h10; show k ≠ b.gC; omega) v8
theorem NC.addM {W : World} {H : Nat} {b : NB} {tt : Nat} {A : Option Addr} {c : Nat} {s : List Int} {vP vF : Value} {P : List (List Int)} {F : List Int} {m m' : Int} {L : List Int} (h : NC W H b tt A c s vP vF P F m L) (hA : NA H b) : NC (W.setCell ⟨b.gC, 3, none⟩ (.int .i64 m')) H b tt A c s vP vF P F m' L := by
  have keep : ∀ {g : Nat} {cs : Array Value} {t : TypeId}, W.heap[g]? = some (.cells cs t (0, 0)) → g ≠ b.gC → (W.setCell ⟨b.gC, 3, none⟩ (.int .i64 m')).heap[g]? = some (.cells cs t (0, 0)) := fun hk hne => blk_far hk hne _
  refine ⟨keep h.kt hA.n1, keep h.ks hA.n2, keep h.kc hA.n3, keep h.kf hA.n4, ?_, ?_, ?_, ?_⟩
  · exact blk_set h.kg 3 _
  · obtain ⟨cur, k1, k2, k3⟩ := h.kB
    exact ⟨cur, keep k1 (Ne.symm hA.n9), k2, k3⟩
  · exact Kd.R_far (p := ⟨b.gC, 3, none⟩) h.hP (fun k hk => by have := hA.h10; have := hk.1; show k ≠ b.gC; omega) _
  · exact Kd.R_far (p := ⟨b.gC, 3, none⟩) h.hF (fun k hk => by have := hA.h10; show k ≠ b.gC; omega) _
set_option maxHeartbeats 2000000 in
set_option maxRecDepth 100000 in
theorem search_end (b : NB) (tt : Nat) (A : Option Addr) (c : Nat) (s : List Int) (vP vF : Value) (P : List (List Int)) (F : List Int) (m : Int) (L : List Int) (W w0 : World) (hs0 : Kd.C (Kd.int .i64) w0 A s.length s) (hN : NC W w0.heap.size b tt A c s vP vF P F m L) (hA : NA w0.heap.size b) (hB : Below w0.heap.size w0 W) (hlo : b.lo ≤ W.heap.size) (h8 : s.length ≤ 8) (hq : ∀ q ∈ s, 2 ≤ q ∧ q ≤ 4) (hL : L.length = tt) (ht : tt ≤ 3) (hLo : PlOk s.length L) (hPl : P.length ≤ 1000) (hFl : F.length ≤ 1000) (hm0 : 0 ≤ m) (hm1 : m ≤ 100000) :
    Calls Try.prog 82 #[.slice (some ⟨b.B, 0, none⟩) L.length 3, .pointer (some ⟨b.bt, 0, none⟩), .pointer (some ⟨b.bs, 0, none⟩), .pointer (some ⟨b.bc, 0, none⟩), .pointer (some ⟨b.bf, 0, none⟩)] W fun e W' => e = .returned (.tuple #[]) ∧ ∃ vP' vF', NC W' w0.heap.size b tt A c s vP' vF' (P ++ [L]) (F ++ [m]) (m + prodI (szs s L)) L ∧ Below w0.heap.size w0 W' := by
  subst hL
  have HL := Aside0.mk (hN.list (by omega))
  have HS := Aside0.mk (Kd.C_below hs0 hB)
  have HN := Aside0.mk hN
  have HQ := Aside0.mk hq
  have HA := Aside0.mk hA
  have HB := Aside0.mk hB
  have HLO := Aside0.mk hLo
  have HLOB := Aside0.mk hlo
  have HHW := Aside0.mk (show w0.heap.size ≤ W.heap.size by have := hA.h1; have := hA.h2; omega)
  have c0 : W.cell? ⟨b.bt, 0, none⟩ = some (.int .i64 (L.length : Int)) := (blk_cell hN.kt 0).trans rfl
  clear hN hq hA hB hLo hlo hs0
  go_enter Try.func82, Try.ntmps82
  go_wp2
  go_loopg [6, 18] L.length (fun gi s6 s18 wr => ∃ (i : Nat) (n : Int), s6 = .int .i64 n ∧ s18 = .int .i64 i ∧ i ≤ L.length ∧ L.length - i ≤ gi ∧ 0 ≤ n ∧ Aside0 (n ≤ ob4 i) ∧ Aside0 (n * prodI ((szs s L).drop i) = prodI (szs s L)) ∧ Aside0 (wr = W))
  case atStart => exact ⟨0, 1, rfl, rfl, by omega, by omega, by omega, ⟨by decide⟩, ⟨by simp⟩, ⟨rfl⟩⟩
  case round =>
    obtain ⟨i, n, rfl, rfl, hi, hgi, hn0, HN4, HNP, HW⟩ := hrel
    obtain rfl := HW.out
    by_cases hip : i < L.length
    · have hip1 : (i : Int) < (L.length : Int) := by omega
      have hi0 : (0 : Int) ≤ (i : Int) := by omega
      have hip3 : (i : Int) < 3 := by omega
      obtain ⟨adp, ep, hxp⟩ := Kd.at_int HL.out (i : Int) hi0 hip1
      cases ep
      rw [Int.toNat_natCast, rd_nat' L i hip, add_plain] at hxp
      have hpi := HLO.out _ (List.getElem_mem hip)
      obtain ⟨ii, hii⟩ : ∃ ii : Nat, L[i] = (ii : Int) := ⟨L[i].toNat, by omega⟩
      rw [hii] at hxp hpi
      have hil : (ii : Int) < (s.length : Int) := by omega
      have hii0 : (0 : Int) ≤ (ii : Int) := by omega
      obtain ⟨ads, es, hz⟩ := Kd.at_int HS.out (ii : Int) hii0 hil
      cases es
      rw [Int.toNat_natCast] at hz
      have hg0 : wr.cell? ⟨b.bs, 0, none⟩ = some (.slice (some ads) s.length c) := (blk_cell HN.out.ks 0).trans rfl
      have hq1 := rd_ge s _ HQ.out ii (by omega)
      have hil2 : i < (szs s L).length := by simp [szs]; exact hip
      have ez : (szs s L)[i] = rd s (ii : Int) := by simp [szs, hii]
      have hnp := HNP.out
      rw [List.drop_eq_getElem_cons hil2, ez] at hnp
      obtain ⟨q, hqq⟩ : ∃ q, q = rd s (ii : Int) := ⟨_, rfl⟩
      rw [← hqq] at hz hq1 hnp
      have HNQ := Aside0.mk (show (n * q) * prodI ((szs s L).drop (i + 1)) = prodI (szs s L) by rw [← hnp]; simp only [prodI]; rw [Int.mul_assoc])
      clear hqq hii ez hnp
      obtain ⟨hq1, hq2⟩ := hq1
      have hob := ob4_le i (by omega)
      have hn4 := HN4.out
      have hm1 : n * q ≤ n * 4 := Int.mul_le_mul_of_nonneg_left hq2 hn0
      have hm2 : 0 ≤ n * q := Int.mul_nonneg hn0 (by omega)
      have hm3 : n * q ≤ 256 := by omega
      clear hob hpi hm1
      go_wp2
      go_roundg (L.length - (i + 1))
      case measure => omega
      case rel =>
        refine ⟨i + 1, n * q, by go_num, by go_num, by omega, by omega, hm2, ⟨?_⟩, HNQ, ⟨rfl⟩⟩
        show n * q ≤ 4 * ob4 i
        have hm1 : n * q ≤ n * 4 := Int.mul_le_mul_of_nonneg_left hq2 hn0
        omega
    · obtain rfl : i = L.length := by omega
      have hip1 : ¬ (L.length : Int) < (L.length : Int) := by omega
      have hnp : n = prodI (szs s L) := by
        have h := HNP.out
        rw [List.drop_eq_nil_of_le (by simp [szs])] at h
        simpa [prodI] using h
      have hn64 : n ≤ 64 := by
        have h1 := HN4.out
        have h2 := ob4_le L.length (by omega)
        omega
      have HNN := Aside0.mk hnp
      have hc1 : wr.cell? ⟨b.bc, 0, none⟩ = some (.pointer (some ⟨b.gC, 0, none⟩)) := (blk_cell HN.out.kc 0).trans rfl
      have hc2 : wr.cell? ⟨b.gC, 1, none⟩ = some vP := (blk_cell HN.out.kg 1).trans rfl
      have hc3 : wr.frozen? ⟨b.gC, 1, none⟩ = false := blk_frozen HN.out.kg 1
      clear hnp
      go_wp2
      refine start_ (n := 12) (S := fun w' => w'.cell? ⟨b.bc, 0, none⟩ = some (.pointer (some ⟨b.gC, 0, none⟩)) ∧ w'.cell? ⟨b.gC, 1, none⟩ = some vP) (ds := [11]) #[false, false, false, false, false, false, false, false, false, false, false, false] (by kernel_rfl) rfl rfl ⟨hc1, hc2⟩ (fun hHeld => ?_)
      refine take_ (i := 0) (N := some 30) (v := ?_) (a' := ?_) #[true, false, false, false, false, false, false, false, false, false, false, false] rfl rfl (by kernel_rfl) (fun _ _ _ h => h) (Or.inl ⟨by rfl, ?_⟩) hHeld ?_ ?_
      rotate_left
      · rintro w' ⟨s0, s1⟩
        go_simp
        with_reducible rfl
      rotate_left
      · simp only [Act.put, List.setIfInBounds_toArray, List.set_cons_zero, List.set_cons_succ, i64_w, i32_w]
        rfl
      refine take_ (i := 1) (N := some 31) (v := ?_) (a' := ?_) #[true, true, false, false, false, false, false, false, false, false, false, false] rfl rfl (by kernel_rfl) (fun _ _ _ h => h) (Or.inl ⟨by rfl, ?_⟩) hHeld ?_ ?_
      rotate_left
      · rintro w' ⟨s0, s1⟩
        go_simp
        with_reducible rfl
      rotate_left
      · simp only [Act.put, List.setIfInBounds_toArray, List.set_cons_zero, List.set_cons_succ, i64_w, i32_w]
        rfl
      refine pure_ (i := 2) (N := some 32) (v := ?_) (a' := ?_) #[true, true, true, false, false, false, false, false, false, false, false, false] rfl rfl (by kernel_rfl) (fun _ _ _ h => h) (Or.inl ⟨by rfl, ?_⟩) ?_ ?_
      rotate_left
      · intro w'
        go_simp
        with_reducible rfl
      rotate_left
      · simp only [Act.put, List.setIfInBounds_toArray, List.set_cons_zero, List.set_cons_succ, i64_w, i32_w]
        rfl
      refine pure_ (i := 3) (N := some 33) (v := ?_) (a' := ?_) #[true, true, true, true, false, false, false, false, false, false, false, false] rfl rfl (by kernel_rfl) (fun _ _ _ h => h) (Or.inl ⟨by rfl, ?_⟩) ?_ ?_
      rotate_left
      · intro w'
        go_simp
        with_reducible rfl
      rotate_left
      · simp only [Act.put, List.setIfInBounds_toArray, List.set_cons_zero, List.set_cons_succ, i64_w, i32_w]
        rfl
      refine take_ (i := 4) (N := some 34) (v := ?_) (a' := ?_) #[true, true, true, true, true, false, false, false, false, false, false, false] rfl rfl (by kernel_rfl) (fun _ _ _ h => h) (Or.inl ⟨by rfl, ?_⟩) hHeld ?_ ?_
      rotate_left
      · rintro w' ⟨s0, s1⟩
        go_simp
        with_reducible rfl
      rotate_left
      · simp only [Act.put, List.setIfInBounds_toArray, List.set_cons_zero, List.set_cons_succ, i64_w, i32_w]
        rfl
      refine pure_ (i := 5) (N := some 35) (v := ?_) (a' := ?_) #[true, true, true, true, true, true, false, false, false, false, false, false] rfl rfl (by kernel_rfl) (fun _ _ _ h => h) (Or.inl ⟨by rfl, ?_⟩) ?_ ?_
      rotate_left
      · intro w'
        go_simp
        with_reducible rfl
      rotate_left
      · simp only [Act.put, List.setIfInBounds_toArray, List.set_cons_zero, List.set_cons_succ, i64_w, i32_w]
        rfl
      refine one_ (i := 6) (N := some 36) #[true, true, true, true, true, true, true, false, false, false, false, false] rfl rfl (by kernel_rfl) (by decide) (fun K hK => ?_)
      refine goes_ Try.func83 (by kernel_rfl) rfl #[.slice (some ⟨b.B, 0, none⟩) L.length 3] (by rfl) rfl rfl (by (try simp only [List.map_toArray, List.map_cons, List.map_nil]); first | done | rfl) ?_
      refine (clone_walk (some ⟨b.B, 0, none⟩) 3 L _ (Kd.C_drew HL.out) (by omega)).mono ?_
      rintro e w5 ⟨v5, rfl, hR5, hb5⟩
      refine ⟨_, rfl, ?_⟩
      obtain ⟨A5, c5, rfl⟩ := Kd.R_slice hR5
      refine hK.out _ _ ⟨cell_blk_ne hHeld.1 hb5, cell_blk_ne hHeld.2 hb5⟩ (fun hHeld => ?_)
      clear hK K
      refine norm_ (a' := ?_) ?_ ?_
      rotate_left
      · show Act.put _ (some 36) _ = _
        simp only [Act.put, List.setIfInBounds_toArray, List.set_cons_zero, List.set_cons_succ, i64_w, i32_w]
        rfl
      refine one_ (i := 7) (N := some 37) #[true, true, true, true, true, true, true, true, false, false, false, false] rfl rfl (by kernel_rfl) (by decide) (fun K hK => ?_)
      refine value_ (w1 := w5.alloc (.cells #[.slice A5 L.length c5] 25)) (v := .slice (some ⟨w5.heap.size, 0, none⟩) 1 1) (by rfl) rfl (by go_simp) ?_
      refine hK.out _ _ ⟨(World.cell?_alloc_lt _ _ _ (World.block_lt_of_cell? _ _ hHeld.1)).trans hHeld.1, (World.cell?_alloc_lt _ _ _ (World.block_lt_of_cell? _ _ hHeld.2)).trans hHeld.2⟩ (fun hHeld => ?_)
      clear hK K
      refine norm_ (a' := ?_) ?_ ?_
      rotate_left
      · show Act.put _ (some 37) _ = _
        simp only [Act.put, List.setIfInBounds_toArray, List.set_cons_zero, List.set_cons_succ, i64_w, i32_w]
        rfl
      refine one_ (i := 8) (N := some 38) #[true, true, true, true, true, true, true, true, true, false, false, false] rfl rfl (by kernel_rfl) (by decide) (fun K hK => ?_)
      refine Kd.R_append_step (Kd.slice 2 (Kd.int .i64)) (w0 := w0) w0.heap.size (by rfl) (.tmp 34) (.tmp 37) 42 25 (.slice none 0 0) 24 (by rfl) Try.underlying42 nc_info22 rfl (by decide) (by omega) vP P L [.slice A5 L.length c5] (fun k => b.lo ≤ k ∧ some k ≠ vF.ownBlock) (fun k => wr.heap.size ≤ k) (by rfl) (by rfl) (nc_m hR5 HHW.out) (nc_okp HLOB.out HN.out.hP HN.out.hF) (nc_fr HLOB.out hb5 HN.out.hF) (Kd.R_below (Kd.R_drew HN.out.hP) hb5) (nc_b HB.out hb5 HHW.out) (Nat.le_trans HHW.out hb5.size) (by omega) ?_
      intro v6 w6 hR6 hb6 hg6 hat6
      obtain ⟨A6, c6, rfl⟩ := Kd.R_slice hR6
      refine hK.out _ _ ⟨nc_cell hc1 hb5 hg6 HA.out.h6 (fun k hk => (R_blk HN.out.hP k hk).2.2.1), nc_cell hc2 hb5 hg6 HA.out.h10 (fun k hk => (R_blk HN.out.hP k hk).2.2.1)⟩ (fun hHeld => ?_)
      clear hK K
      refine norm_ (a' := ?_) ?_ ?_
      rotate_left
      · show Act.put _ (some 38) _ = _
        simp only [Act.put, List.setIfInBounds_toArray, List.set_cons_zero, List.set_cons_succ, i64_w, i32_w]
        rfl
      refine pure_ (i := 9) (N := some 39) (v := ?_) (a' := ?_) #[true, true, true, true, true, true, true, true, true, true, false, false] rfl rfl (by kernel_rfl) (fun _ _ _ h => h) (Or.inl ⟨by rfl, ?_⟩) ?_ ?_
      rotate_left
      · intro w'
        go_simp
        with_reducible rfl
      rotate_left
      · simp only [Act.put, List.setIfInBounds_toArray, List.set_cons_zero, List.set_cons_succ, i64_w, i32_w]
        rfl
      refine pure_ (i := 10) (N := some 40) (v := ?_) (a' := ?_) #[true, true, true, true, true, true, true, true, true, true, true, false] rfl rfl (by kernel_rfl) (fun _ _ _ h => h) (Or.inl ⟨by rfl, ?_⟩) ?_ ?_
      rotate_left
      · intro w'
        go_simp
        with_reducible rfl
      rotate_left
      · simp only [Act.put, List.setIfInBounds_toArray, List.set_cons_zero, List.set_cons_succ, i64_w, i32_w]
        rfl
      have hc4 : w6.cell? ⟨b.gC, 1, none⟩ = some vP := hHeld.2
      have hf4 : w6.frozen? ⟨b.gC, 1, none⟩ = false := nc_froz HN.out.kg hb5 hg6 HA.out.h10 (fun k hk => (R_blk HN.out.hP k hk).2.2.1) 1
      refine last_ (i := 11) (N := none) #[true, true, true, true, true, true, true, true, true, true, true, true] rfl rfl (by kernel_rfl) (by decide) (fun K hK => ?_)
      refine skip_ (w1 := w6.setCell ⟨b.gC, 1, none⟩ (.slice A6 (P ++ [L]).length c6)) (by rfl) rfl (by go_simp) ?_
      refine hK.out _ _ ?_
      clear hK K
      refine done_ (by kernel_rfl) ?_
      have HN7 := Aside0.mk (HN.out.pushP HA.out hb5 hg6 hR6)
      have HB7 := Aside0.mk (show Below w0.heap.size w0 (w6.setCell ⟨b.gC, 1, none⟩ (.slice A6 (P ++ [L]).length c6)) from below_set hb6 HA.out.h9)
      have hsz7 : b.lo ≤ (w6.setCell ⟨b.gC, 1, none⟩ (.slice A6 (P ++ [L]).length c6)).heap.size := by
        have h1 := hb5.size
        have h2 := hg6.size
        have h3 := HLOB.out
        have h4 : wr.drew.heap.size = wr.heap.size := rfl
        have h5 : (w6.setCell ⟨b.gC, 1, none⟩ (.slice A6 (P ++ [L]).length c6)).heap.size = w6.heap.size := by simp
        omega
      generalize w6.setCell ⟨b.gC, 1, none⟩ (.slice A6 (P ++ [L]).length c6) = W7 at HN7 HB7 hsz7 ⊢
      clear hc1 hc2 hc3 hHeld hb5 hg6 hR6 hR5 hb6 hat6 hc4 hf4
      have hc1 : W7.drew.cell? ⟨b.bc, 0, none⟩ = some (.pointer (some ⟨b.gC, 0, none⟩)) := (blk_cell HN7.out.kc 0).trans rfl
      have hc2 : W7.drew.cell? ⟨b.gC, 2, none⟩ = some vF := (blk_cell HN7.out.kg 2).trans rfl
      have hc3 : W7.drew.cell? ⟨b.gC, 3, none⟩ = some (.int .i64 m) := (blk_cell HN7.out.kg 3).trans rfl
      go_wp2
      refine start_ (n := 14) (S := fun w' => w'.cell? ⟨b.bc, 0, none⟩ = some (.pointer (some ⟨b.gC, 0, none⟩)) ∧ w'.cell? ⟨b.gC, 2, none⟩ = some vF ∧ w'.cell? ⟨b.gC, 3, none⟩ = some (.int .i64 m)) (ds := [13]) #[false, false, false, false, false, false, false, false, false, false, false, false, false, false] (by kernel_rfl) rfl rfl ⟨hc1, hc2, hc3⟩ (fun hHeld => ?_)
      refine take_ (i := 0) (N := some 41) (v := ?_) (a' := ?_) #[true, false, false, false, false, false, false, false, false, false, false, false, false, false] rfl rfl (by kernel_rfl) (fun _ _ _ h => h) (Or.inl ⟨by rfl, ?_⟩) hHeld ?_ ?_
      rotate_left
      · rintro w' ⟨s0, s1, s2⟩
        go_simp
        with_reducible rfl
      rotate_left
      · simp only [Act.put, List.setIfInBounds_toArray, List.set_cons_zero, List.set_cons_succ, i64_w, i32_w]
        rfl
      refine take_ (i := 1) (N := some 42) (v := ?_) (a' := ?_) #[true, true, false, false, false, false, false, false, false, false, false, false, false, false] rfl rfl (by kernel_rfl) (fun _ _ _ h => h) (Or.inl ⟨by rfl, ?_⟩) hHeld ?_ ?_
      rotate_left
      · rintro w' ⟨s0, s1, s2⟩
        go_simp
        with_reducible rfl
      rotate_left
      · simp only [Act.put, List.setIfInBounds_toArray, List.set_cons_zero, List.set_cons_succ, i64_w, i32_w]
        rfl
      refine pure_ (i := 2) (N := some 43) (v := ?_) (a' := ?_) #[true, true, true, false, false, false, false, false, false, false, false, false, false, false] rfl rfl (by kernel_rfl) (fun _ _ _ h => h) (Or.inl ⟨by rfl, ?_⟩) ?_ ?_
      rotate_left
      · intro w'
        go_simp
        with_reducible rfl
      rotate_left
      · simp only [Act.put, List.setIfInBounds_toArray, List.set_cons_zero, List.set_cons_succ, i64_w, i32_w]
        rfl
      refine pure_ (i := 3) (N := some 44) (v := ?_) (a' := ?_) #[true, true, true, true, false, false, false, false, false, false, false, false, false, false] rfl rfl (by kernel_rfl) (fun _ _ _ h => h) (Or.inl ⟨by rfl, ?_⟩) ?_ ?_
      rotate_left
      · intro w'
        go_simp
        with_reducible rfl
      rotate_left
      · simp only [Act.put, List.setIfInBounds_toArray, List.set_cons_zero, List.set_cons_succ, i64_w, i32_w]
        rfl
      refine take_ (i := 4) (N := some 45) (v := ?_) (a' := ?_) #[true, true, true, true, true, false, false, false, false, false, false, false, false, false] rfl rfl (by kernel_rfl) (fun _ _ _ h => h) (Or.inl ⟨by rfl, ?_⟩) hHeld ?_ ?_
      rotate_left
      · rintro w' ⟨s0, s1, s2⟩
        go_simp
        with_reducible rfl
      rotate_left
      · simp only [Act.put, List.setIfInBounds_toArray, List.set_cons_zero, List.set_cons_succ, i64_w, i32_w]
        rfl
      refine take_ (i := 5) (N := some 46) (v := ?_) (a' := ?_) #[true, true, true, true, true, true, false, false, false, false, false, false, false, false] rfl rfl (by kernel_rfl) (fun _ _ _ h => h) (Or.inl ⟨by rfl, ?_⟩) hHeld ?_ ?_
      rotate_left
      · rintro w' ⟨s0, s1, s2⟩
        go_simp
        with_reducible rfl
      rotate_left
      · simp only [Act.put, List.setIfInBounds_toArray, List.set_cons_zero, List.set_cons_succ, i64_w, i32_w]
        rfl
      refine pure_ (i := 6) (N := some 47) (v := ?_) (a' := ?_) #[true, true, true, true, true, true, true, false, false, false, false, false, false, false] rfl rfl (by kernel_rfl) (fun _ _ _ h => h) (Or.inl ⟨by rfl, ?_⟩) ?_ ?_
      rotate_left
      · intro w'
        go_simp
        with_reducible rfl
      rotate_left
      · simp only [Act.put, List.setIfInBounds_toArray, List.set_cons_zero, List.set_cons_succ, i64_w, i32_w]
        rfl
      refine pure_ (i := 7) (N := some 48) (v := ?_) (a' := ?_) #[true, true, true, true, true, true, true, true, false, false, false, false, false, false] rfl rfl (by kernel_rfl) (fun _ _ _ h => h) (Or.inl ⟨by rfl, ?_⟩) ?_ ?_
      rotate_left
      · intro w'
        go_simp
        with_reducible rfl
      rotate_left
      · simp only [Act.put, List.setIfInBounds_toArray, List.set_cons_zero, List.set_cons_succ, i64_w, i32_w]
        rfl
      refine take_ (i := 8) (N := some 49) (v := ?_) (a' := ?_) #[true, true, true, true, true, true, true, true, true, false, false, false, false, false] rfl rfl (by kernel_rfl) (fun _ _ _ h => h) (Or.inl ⟨by rfl, ?_⟩) hHeld ?_ ?_
      rotate_left
      · rintro w' ⟨s0, s1, s2⟩
        go_simp
        with_reducible rfl
      rotate_left
      · simp only [Act.put, List.setIfInBounds_toArray, List.set_cons_zero, List.set_cons_succ, i64_w, i32_w]
        rfl
      refine one_ (i := 9) (N := some 50) #[true, true, true, true, true, true, true, true, true, true, false, false, false, false] rfl rfl (by kernel_rfl) (by decide) (fun K hK => ?_)
      refine value_ (w1 := W7.drew.alloc (.cells #[.int .i64 m] 2)) (v := .slice (some ⟨W7.drew.heap.size, 0, none⟩) 1 1) (by rfl) rfl (by go_simp) ?_
      refine hK.out _ _ ⟨(World.cell?_alloc_lt _ _ _ (World.block_lt_of_cell? _ _ hHeld.1)).trans hHeld.1, (World.cell?_alloc_lt _ _ _ (World.block_lt_of_cell? _ _ hHeld.2.1)).trans hHeld.2.1, (World.cell?_alloc_lt _ _ _ (World.block_lt_of_cell? _ _ hHeld.2.2)).trans hHeld.2.2⟩ (fun hHeld => ?_)
      clear hK K
      refine norm_ (a' := ?_) ?_ ?_
      rotate_left
      · show Act.put _ (some 50) _ = _
        simp only [Act.put, List.setIfInBounds_toArray, List.set_cons_zero, List.set_cons_succ, i64_w, i32_w]
        rfl
      refine one_ (i := 10) (N := some 51) #[true, true, true, true, true, true, true, true, true, true, true, false, false, false] rfl rfl (by kernel_rfl) (by decide) (fun K hK => ?_)
      refine Kd.R_append_step (Kd.int .i64) (w0 := w0) w0.heap.size (by rfl) (.tmp 45) (.tmp 50) 25 2 (.int .i64 0) 8 (by rfl) Try.underlying25 of_info rfl (by decide) (by omega) vF F m [.int .i64 m] (fun k => b.lo ≤ k) (fun _ => False) (by rfl) (by rfl) rfl (fun _ h => h.elim) (fun k hk => Nat.le_trans hsz7 hk) (Kd.R_drew HN7.out.hF) (below_drew HB7.out) HB7.out.size (by omega) ?_
      intro v8 w8 hR8 hb8 hg8 hat8
      obtain ⟨A8, c8, rfl⟩ := Kd.R_slice hR8
      refine hK.out _ _ ⟨nc_cell8 hc1 hg8 HA.out.h6 (fun k hk => (HN7.out.lt.2 k hk).2), nc_cell8 hc2 hg8 HA.out.h10 (fun k hk => (HN7.out.lt.2 k hk).2), nc_cell8 hc3 hg8 HA.out.h10 (fun k hk => (HN7.out.lt.2 k hk).2)⟩ (fun hHeld => ?_)
      clear hK K
      refine norm_ (a' := ?_) ?_ ?_
      rotate_left
      · show Act.put _ (some 51) _ = _
        simp only [Act.put, List.setIfInBounds_toArray, List.set_cons_zero, List.set_cons_succ, i64_w, i32_w]
        rfl
      refine pure_ (i := 11) (N := some 52) (v := ?_) (a' := ?_) #[true, true, true, true, true, true, true, true, true, true, true, true, false, false] rfl rfl (by kernel_rfl) (fun _ _ _ h => h) (Or.inl ⟨by rfl, ?_⟩) ?_ ?_
      rotate_left
      · intro w'
        go_simp
        with_reducible rfl
      rotate_left
      · simp only [Act.put, List.setIfInBounds_toArray, List.set_cons_zero, List.set_cons_succ, i64_w, i32_w]
        rfl
      refine pure_ (i := 12) (N := some 53) (v := ?_) (a' := ?_) #[true, true, true, true, true, true, true, true, true, true, true, true, true, false] rfl rfl (by kernel_rfl) (fun _ _ _ h => h) (Or.inl ⟨by rfl, ?_⟩) ?_ ?_
      rotate_left
      · intro w'
        go_simp
        with_reducible rfl
      rotate_left
      · simp only [Act.put, List.setIfInBounds_toArray, List.set_cons_zero, List.set_cons_succ, i64_w, i32_w]
        rfl
      have hc4 : w8.cell? ⟨b.gC, 2, none⟩ = some vF := hHeld.2.1
      have hf4 : w8.frozen? ⟨b.gC, 2, none⟩ = false := nc_froz8 HN7.out.kg hg8 HA.out.h10 (fun k hk => (HN7.out.lt.2 k hk).2) 2
      refine last_ (i := 13) (N := none) #[true, true, true, true, true, true, true, true, true, true, true, true, true, true] rfl rfl (by kernel_rfl) (by decide) (fun K hK => ?_)
      refine skip_ (w1 := w8.setCell ⟨b.gC, 2, none⟩ (.slice A8 (F ++ [m]).length c8)) (by rfl) rfl (by go_simp) ?_
      refine hK.out _ _ ?_
      clear hK K
      refine done_ (by kernel_rfl) ?_
      have HN9 := Aside0.mk (HN7.out.pushF HA.out hg8 hR8 hat8)
      have HB9 := Aside0.mk (show Below w0.heap.size w0 (w8.setCell ⟨b.gC, 2, none⟩ (.slice A8 (F ++ [m]).length c8)) from below_set hb8 HA.out.h9)
      generalize w8.setCell ⟨b.gC, 2, none⟩ (.slice A8 (F ++ [m]).length c8) = W9 at HN9 HB9 ⊢
      clear hc1 hc2 hc3 hHeld hg8 hR8 hb8 hat8 hc4 hf4
      have hc1 : W9.cell? ⟨b.bc, 0, none⟩ = some (.pointer (some ⟨b.gC, 0, none⟩)) := (blk_cell HN9.out.kc 0).trans rfl
      have hc3 : W9.cell? ⟨b.gC, 3, none⟩ = some (.int .i64 m) := (blk_cell HN9.out.kg 3).trans rfl
      have hf3 : W9.frozen? ⟨b.gC, 3, none⟩ = false := blk_frozen HN9.out.kg 3
      go_wp2
      refine bodyPost_ret (results_none rfl _ _ _) rfl ?_
      refine ⟨rfl, .slice A6 (P ++ [L]).length c6, .slice A8 (F ++ [m]).length c8, ?_, ?_⟩
      · rw [← HNN.out]
        exact HN9.out.addM HA.out
      · exact below_set HB9.out HA.out.h9
/-- Where the next place begins. -/
def frm : List Int → Nat
  | [] => 0
  | [x] => (x + 1).toNat
  | _ :: y :: l => frm (y :: l)
theorem frm_snoc : ∀ (L : List Int) (x : Int), frm (L ++ [x]) = (x + 1).toNat
  | [], _ => rfl
  | [_], _ => rfl
  | a :: y :: l, x => by
    show frm (y :: (l ++ [x])) = _
    exact frm_snoc (y :: l) x
/-- What comes of the places from a on, k of them. -/
def emit (n d : Nat) (L : List Int) (a k : Nat) : List (List Int) := (List.range' a k).flatMap fun j => (plc n d (j + 1)).map fun p => L ++ (j : Int) :: p
theorem emit_succ (n d : Nat) (L : List Int) (a k : Nat) : emit n d L a (k + 1) = emit n d L a k ++ (plc n d (a + k + 1)).map fun p => (L ++ [((a + k : Nat) : Int)]) ++ p := by
  unfold emit
  rw [List.range'_concat, List.flatMap_append]
  simp
theorem emit_all (n d : Nat) (L : List Int) (a : Nat) : (plc n (d + 1) a).map (fun p => L ++ p) = emit n d L a (n - a) := by
  unfold emit
  rw [plc, List.map_flatMap]
  congr 1
  funext j
  rw [List.map_map]
  rfl
theorem manyC_app (s : List Int) : ∀ (P Q : List (List Int)), manyC s (P ++ Q) = manyC s P + manyC s Q
  | [], Q => by simp [manyC]
  | p :: P, Q => by
    rw [List.cons_append, manyC, manyC, manyC_app s P Q, Int.add_assoc]
theorem firsts_app (s : List Int) : ∀ (P Q : List (List Int)) (a : Int), firsts s a (P ++ Q) = firsts s a P ++ firsts s (a + manyC s P) Q
  | [], Q, a => by simp [firsts, manyC]
  | p :: P, Q, a => by
    rw [List.cons_append, firsts, firsts, firsts_app s P Q, manyC, List.cons_append, Int.add_assoc]
theorem plc_len_mono (n d : Nat) (L : List Int) (a : Nat) : ∀ k j, k ≤ j → (emit n d L a k).length ≤ (emit n d L a j).length := by
  intro k j h
  induction j with
  | zero => have : k = 0 := by omega
            subst this; exact Nat.le_refl _
  | succ j ih =>
    by_cases e : k = j + 1
    · subst e; exact Nat.le_refl _
    · have := ih (by omega)
      rw [emit_succ, List.length_append]; omega
theorem emit_ok (n d : Nat) (L : List Int) (hL : PlOk n L) (a k : Nat) (h : a + k ≤ n) : ∀ p ∈ emit n d L a k, PlOk n p := by
  intro p hp
  unfold emit at hp
  rw [List.mem_flatMap] at hp
  obtain ⟨j, hj, hp⟩ := hp
  rw [List.mem_range'_1] at hj
  rw [List.mem_map] at hp
  obtain ⟨q, hq, rfl⟩ := hp
  have hk := (plc_ok n d (j + 1) q hq).2
  intro i hi
  rcases List.mem_append.1 hi with hi | hi
  · exact hL i hi
  · rcases List.mem_cons.1 hi with rfl | hi
    · omega
    · exact hk i hi
theorem emit_many_mono (s : List Int) (hs : ∀ q ∈ s, 2 ≤ q ∧ q ≤ 4) (d : Nat) (L : List Int) (hL : PlOk s.length L) (a : Nat) : ∀ k j, k ≤ j → a + j ≤ s.length → manyC s (emit s.length d L a k) ≤ manyC s (emit s.length d L a j) := by
  intro k j h
  induction j with
  | zero => intro _; have : k = 0 := by omega
            subst this; exact Int.le_refl _
  | succ j ih =>
    intro hn
    by_cases e : k = j + 1
    · subst e; exact Int.le_refl _
    · have h1 := ih (by omega) (by omega)
      have h2 := emit_ok s.length d L hL a (j + 1) hn
      rw [emit_succ] at h2 ⊢
      have h3 := manyC_nonneg s hs _ (fun p hp => h2 p (List.mem_append_right _ hp))
      rw [manyC_app]; omega
theorem NC.pushL {W : World} {H : Nat} {b : NB} {tt : Nat} {A : Option Addr} {c : Nat} {s : List Int} {vP vF : Value} {P : List (List Int)} {F : List Int} {m : Int} {L : List Int} (h : NC W H b tt A c s vP vF P F m L) (hA : NA H b) (hl : L.length < 3) (x : Int) (o : Obj) : NC ((W.drew.alloc o).setCell ⟨b.B, L.length, none⟩ (.int .i64 x)) H b tt A c s vP vF P F m (L ++ [x]) := by
  have keep : ∀ {g : Nat} {cs : Array Value} {t : TypeId}, W.heap[g]? = some (.cells cs t (0, 0)) → g ≠ b.B → ((W.drew.alloc o).setCell ⟨b.B, L.length, none⟩ (.int .i64 x)).heap[g]? = some (.cells cs t (0, 0)) := fun hk hne => blk_far (blk_alloc (blk_drew hk) _) hne _
  refine ⟨keep h.kt hA.n5, keep h.ks hA.n6, keep h.kc hA.n7, keep h.kf hA.n8, keep h.kg hA.n9, ?_, ?_, ?_⟩
  · obtain ⟨cur, k1, k2, k3⟩ := h.kB
    refine ⟨_, blk_set (blk_alloc (blk_drew k1) o) L.length (.int .i64 x), by simpa using k2, fun j hj => ?_⟩
    by_cases e : j = L.length
    · subst e
      rw [Array.getElem?_setIfInBounds_self_of_lt (by omega)]
      simp
    · have hjl : j < L.length := by rw [List.length_append] at hj; simp at hj; omega
      rw [Array.getElem?_setIfInBounds_ne (by omega), k3 j hjl, List.getElem_append_left hjl]
  · exact Kd.R_far (p := ⟨b.B, L.length, none⟩) (Kd.R_alloc (Kd.R_drew h.hP) o) (fun k hk => by have := hA.h12; have := hk.1; show k ≠ b.B; omega) _
  · exact Kd.R_far (p := ⟨b.B, L.length, none⟩) (Kd.R_alloc (Kd.R_drew h.hF) o) (fun k hk => by have := hA.h12; show k ≠ b.B; omega) _
theorem NC.popL {W : World} {H : Nat} {b : NB} {tt : Nat} {A : Option Addr} {c : Nat} {s : List Int} {vP vF : Value} {P : List (List Int)} {F : List Int} {m : Int} {L : List Int} {x : Int} (h : NC W H b tt A c s vP vF P F m (L ++ [x])) : NC W H b tt A c s vP vF P F m L := by
  refine ⟨h.kt, h.ks, h.kc, h.kf, h.kg, ?_, h.hP, h.hF⟩
  obtain ⟨cur, k1, k2, k3⟩ := h.kB
  refine ⟨cur, k1, k2, fun j hj => ?_⟩
  rw [k3 j (by rw [List.length_append]; omega), List.getElem_append_left hj]
theorem NC.cast {W : World} {H : Nat} {b : NB} {tt : Nat} {A : Option Addr} {c : Nat} {s : List Int} {vP vF : Value} {P P' : List (List Int)} {F F' : List Int} {m m' : Int} {L : List Int} (h : NC W H b tt A c s vP vF P F m L) (e1 : P = P') (e2 : F = F') (e3 : m = m') : NC W H b tt A c s vP vF P' F' m' L := by
  subst e1 e2 e3
  exact h
theorem NC.below {W W' : World} {H : Nat} {b : NB} {tt : Nat} {A : Option Addr} {c : Nat} {s : List Int} {vP vF : Value} {P : List (List Int)} {F : List Int} {m : Int} {L : List Int} (h : NC W H b tt A c s vP vF P F m L) (hb : Below W.heap.size W W') : NC W' H b tt A c s vP vF P F m L := by
  refine ⟨blk_below h.kt hb, blk_below h.ks hb, blk_below h.kc hb, blk_below h.kf hb, blk_below h.kg hb, ?_, Kd.R_below h.hP hb, Kd.R_below h.hF hb⟩
  obtain ⟨cur, k1, k2, k3⟩ := h.kB
  exact ⟨cur, blk_below k1 hb, k2, k3⟩
theorem setCells_one (w : World) (B n : Nat) (v : Value) : w.setCells B (0 + n * 1) [v] = w.setCell ⟨B, n, none⟩ v := by
  simp [World.setCells]
theorem int_info : ∃ i, Try.prog.info? 2 = some i ∧ i.size = 1 := by
  have h := of_info
  cases hi : Try.prog.info? 2 with
  | none => rw [hi] at h; cases h
  | some i =>
    rw [hi] at h
    simp only [Option.map_some, Option.some.injEq, Prod.mk.injEq] at h
    exact ⟨i, rfl, h.2.1⟩
theorem room_cells (W : World) (x : Int) : ∀ j u, [Value.int .i64 x][j]? = some u → (W.alloc (.cells #[.int .i64 x] 2)).cell? ((⟨W.heap.size, 0, none⟩ : Addr).add j) = some u := by
  intro j u hj
  have hj1 : j < 1 := by have := (List.getElem?_eq_some_iff.1 hj).1; simpa using this
  have hj0 : j = 0 := by omega
  subst hj0
  rw [add_plain, blk_cell (blk_new W _) 0]
  exact hj
theorem room_spare {W : World} {H : Nat} {b : NB} {tt : Nat} {A : Option Addr} {c : Nat} {s : List Int} {vP vF : Value} {P : List (List Int)} {F : List Int} {m : Int} {L : List Int} (h : NC W H b tt A c s vP vF P F m L) (hl : L.length < 3) (o : Obj) (v : Value) : ∀ j, j < [v].length → ((W.drew.alloc o).cell? ⟨b.B, 0 + L.length * 1 + j, none⟩).isSome = true ∧ (W.drew.alloc o).frozen? ⟨b.B, 0 + L.length * 1 + j, none⟩ = false := by
  intro j hj
  obtain ⟨cur, k1, k2, k3⟩ := h.kB
  have hb := blk_alloc (blk_drew k1) o
  have hj0 : j = 0 := by simpa using hj
  subst hj0
  refine ⟨?_, blk_frozen hb _⟩
  rw [blk_cell hb, Array.getElem?_eq_getElem (by omega)]
  rfl
/-- The search from a list of places on, d places more. -/
def SW (b : NB) (tt : Nat) (A : Option Addr) (c : Nat) (s : List Int) (w0 : World) (d : Nat) : Prop :=
  ∀ (vP vF : Value) (P : List (List Int)) (F : List Int) (m : Int) (L : List Int) (W : World), NC W w0.heap.size b tt A c s vP vF P F m L → Below w0.heap.size w0 W → b.lo ≤ W.heap.size → L.length + d = tt → PlOk s.length L → frm L ≤ s.length →
    P.length + ((plc s.length d (frm L)).map fun p => L ++ p).length ≤ 1000 → F.length = P.length → 0 ≤ m → m + manyC s ((plc s.length d (frm L)).map fun p => L ++ p) ≤ 100000 →
    Calls Try.prog 82 #[.slice (some ⟨b.B, 0, none⟩) L.length 3, .pointer (some ⟨b.bt, 0, none⟩), .pointer (some ⟨b.bs, 0, none⟩), .pointer (some ⟨b.bc, 0, none⟩), .pointer (some ⟨b.bf, 0, none⟩)] W fun e W' => e = .returned (.tuple #[]) ∧ ∃ vP' vF', NC W' w0.heap.size b tt A c s vP' vF' (P ++ (plc s.length d (frm L)).map fun p => L ++ p) (F ++ firsts s m ((plc s.length d (frm L)).map fun p => L ++ p)) (m + manyC s ((plc s.length d (frm L)).map fun p => L ++ p)) L ∧ Below w0.heap.size w0 W'
theorem sw_zero (b : NB) (tt : Nat) (A : Option Addr) (c : Nat) (s : List Int) (w0 : World) (hs0 : Kd.C (Kd.int .i64) w0 A s.length s) (hA : NA w0.heap.size b) (h8 : s.length ≤ 8) (hq : ∀ q ∈ s, 2 ≤ q ∧ q ≤ 4) (ht : tt ≤ 3) : SW b tt A c s w0 0 := by
  intro vP vF P F m L W hN hB hlo hL hLo hfr hPl hFl hm0 hm1
  have e1 : ((plc s.length 0 (frm L)).map fun p => L ++ p) = [L] := by simp [plc]
  rw [e1] at hPl hm1 ⊢
  simp only [List.length_singleton] at hPl
  have e2 : firsts s m [L] = [m] := rfl
  have e3 : manyC s [L] = prodI (szs s L) := by simp [manyC]
  have hp1 := prodI_pos _ (szs_ok s hq L hLo)
  rw [e3] at hm1 ⊢
  rw [e2]
  exact search_end b tt A c s vP vF P F m L W w0 hs0 hN hA hB hlo h8 hq (by omega) ht hLo (by omega) (by omega) hm0 (by omega)
theorem goesV {P : Program} {ops : Array Oper} {Q : Exit → Act → World → Prop} {oi : Oper} {N : Option Tmp} {a : Act} {w : World} {K : Act → World → Prop} {f : FuncId} {fn : Func} {v : Operand} {as_ : Array Operand} {ts : Array TypeId} {captured : Array Value} (hf : P.funcs[f]? = some fn) (hname : (fn.name == "runtime.NumGoroutine") = false) (hb : fn.body.isSome = true) (args : Array Value)
    (hw : Region.wanted oi (yielded ops a.tmps) = true) (hN : oi.dst = N) (hop : oi.op = .call { callee := .value v, args := as_, argTypes := ts }) (hv : a.eval v = .func (.func f) #[] captured) (hargs : as_.map a.eval ++ captured = args)
    (h : Calls P f args w fun e w' => ∃ v, e = .returned v ∧ K (a.put N v) w') : if Region.wanted oi (yielded ops a.tmps) = true then Oper.wp P oi a w K Q else K (a.put N undef) w := by
  refine call_ f args hw hN ?_ h
  have he := enters_ hf hname hb args w
  cases v with
  | func n => simp [Act.eval] at hv; unfold execOp; subst hargs; simp_all [resolve, Deferred.ofValue, invoke, Act.eval]
  | _ => unfold execOp; simp [hop, resolve, Deferred.ofValue, hv, invoke, hargs, he]
theorem sw_use {b : NB} {tt : Nat} {A : Option Addr} {c : Nat} {s : List Int} {w0 W : World} {d : Nat} {vP vF : Value} {P : List (List Int)} {F : List Int} {m : Int} {L : List Int} {fr k : Nat} (ih : SW b tt A c s w0 d) (hN : NC W w0.heap.size b tt A c s vP vF (P ++ emit s.length d L fr k) (F ++ firsts s m (emit s.length d L fr k)) (m + manyC s (emit s.length d L fr k)) (L ++ [((fr + k : Nat) : Int)])) (hB : Below w0.heap.size w0 W) (hlo : b.lo ≤ W.heap.size) (hL : L.length + (d + 1) = tt) (hLo : PlOk s.length L) (hq : ∀ q ∈ s, 2 ≤ q ∧ q ≤ 4) (hlt : fr + k < s.length)
    (hPl : P.length + (emit s.length d L (frm L) (s.length - frm L)).length ≤ 1000) (hFl : F.length = P.length) (hm0 : 0 ≤ m) (hm1 : m + manyC s (emit s.length d L (frm L) (s.length - frm L)) ≤ 100000) (hfr : fr = frm L) :
    Calls Try.prog 82 #[.slice (some ⟨b.B, 0, none⟩) (L.length + 1) 3, .pointer (some ⟨b.bt, 0, none⟩), .pointer (some ⟨b.bs, 0, none⟩), .pointer (some ⟨b.bc, 0, none⟩), .pointer (some ⟨b.bf, 0, none⟩)] W fun e W' => e = .returned (.tuple #[]) ∧ ∃ vP' vF', NC W' w0.heap.size b tt A c s vP' vF' (P ++ emit s.length d L fr (k + 1)) (F ++ firsts s m (emit s.length d L fr (k + 1))) (m + manyC s (emit s.length d L fr (k + 1))) (L ++ [((fr + k : Nat) : Int)]) ∧ Below w0.heap.size w0 W' := by
  rw [← hfr] at hPl hm1
  have hfs : frm (L ++ [((fr + k : Nat) : Int)]) = fr + k + 1 := by rw [frm_snoc]; omega
  have hok : PlOk s.length (L ++ [((fr + k : Nat) : Int)]) := fun i hi => by
    rcases List.mem_append.1 hi with hi | hi
    · exact hLo i hi
    · have : i = ((fr + k : Nat) : Int) := by simpa using hi
      omega
  have hes := emit_succ s.length d L fr k
  have hl1 := plc_len_mono s.length d L fr (k + 1) (s.length - fr) (by omega)
  have hm2 := emit_many_mono s hq d L hLo fr (k + 1) (s.length - fr) (by omega) (by omega)
  have hm3 := manyC_nonneg s hq (emit s.length d L fr k) (emit_ok s.length d L hLo fr k (by omega))
  have hc := ih vP vF _ _ _ (L ++ [((fr + k : Nat) : Int)]) W hN hB hlo (by simp; omega) hok (by omega) (by
    rw [hfs]
    rw [hes, List.length_append] at hl1
    rw [List.length_append]; omega) (by simp [hFl, firsts_len]) (by omega) (by
    rw [hfs]
    rw [hes, manyC_app] at hm2
    omega)
  rw [hfs, List.length_append, List.length_singleton] at hc
  rw [hes, firsts_app, manyC_app, ← List.append_assoc, ← List.append_assoc, ← Int.add_assoc]
  exact hc
theorem sw_lo {W : World} {H : Nat} {b : NB} {tt : Nat} {A : Option Addr} {c : Nat} {s : List Int} {vP vF : Value} {P : List (List Int)} {F : List Int} {m : Int} {L : List Int} (h : NC W H b tt A c s vP vF P F m L) (hA : NA H b) (hlo : b.lo = b.B + 1) : b.lo ≤ W.heap.size := by
  obtain ⟨cur, k1, _⟩ := h.kB
  have := blk_lt k1
  omega
theorem eg144 : ∀ args w, (callFunc 82 args).run Try.prog w = .ok (.enter 82 args) w := enters_of Try.func82 (by kernel_rfl) rfl
set_option maxHeartbeats 2000000 in
set_option maxRecDepth 100000 in
theorem places_walk (A : Option Addr) (c : Nat) (s : List Int) (w : World) : Calls Try.prog 80 #[.agg #[.slice A s.length c]] w fun e w' => e = .returned (.int .i64 (s.length : Int)) ∧ Below w.heap.size w w' := by
  go_enter Try.func80, Try.ntmps80
  go_wp2
  go_ret
  exact ⟨rfl, by first | exact Below.refl _ _ | exact below_alloc (Below.refl _ _) _⟩
set_option maxHeartbeats 4000000 in
set_option maxRecDepth 100000 in
theorem search_loop (b : NB) (tt : Nat) (A : Option Addr) (c : Nat) (s : List Int) (w0 : World) (hs0 : Kd.C (Kd.int .i64) w0 A s.length s) (hA : NA w0.heap.size b) (h8 : s.length ≤ 8) (hq : ∀ q ∈ s, 2 ≤ q ∧ q ≤ 4) (ht : tt ≤ 3) (d : Nat) (ih : SW b tt A c s w0 d) : SW b tt A c s w0 (d + 1) := by
  intro vP vF P F m L W hN hB hlo hL hLo hfr hPl hFl hm0 hm1
  rw [emit_all] at hPl hm1 ⊢
  have HN := Aside0.mk hN
  have HA := Aside0.mk hA
  have HB := Aside0.mk hB
  have HQ := Aside0.mk hq
  have HLO := Aside0.mk hLo
  have HIH := Aside0.mk ih
  have HM1 := Aside0.mk hm1
  have HPL := Aside0.mk hPl
  have HLOB := Aside0.mk hlo
  have hll : L.length < 3 := by omega
  have c0 : W.cell? ⟨b.bt, 0, none⟩ = some (.int .i64 (tt : Int)) := (blk_cell hN.kt 0).trans rfl
  have hne : ((L.length : Int) == (tt : Int)) = false := beq_eq_false_iff_ne.2 (by omega)
  have hne2 : ¬ (L.length : Int) = (tt : Int) := by omega
  obtain ⟨fr, hfre⟩ : ∃ fr, fr = frm L := ⟨_, rfl⟩
  have HFR := Aside0.mk hfre
  rw [← hfre] at hfr
  rcases List.eq_nil_or_concat L with hnil | ⟨L0, x, hcons⟩
  · have hz0 : decide (0 < L.length) = false := by rw [hnil]; rfl
    have hz1 : ¬ 0 < L.length := of_decide_eq_false hz0
    have hz2 : ¬ (0 : Int) < (L.length : Int) := by omega
    have HF0 := Aside0.mk (show (0 : Int) = ((fr + 0 : Nat) : Int) by rw [hfre, hnil]; rfl)
    clear hN hA hB hq hLo ih hm1 hPl hfre hnil hlo
    go_enter Try.func82, Try.ntmps82
    go_wp2
    go_loopg [11] s.length (fun gg s11 wr => ∃ (k : Nat) (vP' vF' : Value), s11 = .int .i64 ((fr + k : Nat) : Int) ∧ fr + k ≤ s.length ∧ s.length - (fr + k) ≤ gg ∧ Aside0 (NC wr w0.heap.size b tt A c s vP' vF' (P ++ emit s.length d L fr k) (F ++ firsts s m (emit s.length d L fr k)) (m + manyC s (emit s.length d L fr k)) L) ∧ Aside0 (Below w0.heap.size w0 wr) ∧ Aside0 (b.lo ≤ wr.heap.size))
    case atStart => exact ⟨0, vP, vF, congrArg (Value.int .i64) HF0.out, by omega, by omega, ⟨HN.out.cast (by simp [emit]) (by simp [emit, firsts]) (by simp [emit, manyC])⟩, HB, HLOB⟩
    case round =>
      obtain ⟨k, vP', vF', rfl, hk, hgg, HNk, HBk, HLk⟩ := hrel
      have cs : wr.cell? ⟨b.bs, 0, none⟩ = some (.slice A s.length c) := (blk_cell HNk.out.ks 0).trans rfl
      by_cases hlt : fr + k < s.length
      · have hlt1 : ((fr + k : Nat) : Int) < (s.length : Int) := by omega
        go_wp2_with (go_at_call 80; refine (places_walk A c s _).mono ?_; rintro e w2 ⟨rfl, hb2⟩)
        have HN2 := Aside0.mk (HNk.out.below hb2)
        have HB2 := Aside0.mk (below_step HBk.out hb2)
        have hsz2 : b.lo ≤ w2.heap.size := Nat.le_trans HLk.out hb2.size
        have HN3 := Aside0.mk (HN2.out.pushL HA.out hll ((fr + k : Nat) : Int) (.cells #[.int .i64 ((fr + k : Nat) : Int)] 2))
        have hbf : w2.drew.cell? ⟨b.bf, 0, none⟩ = some (searchV b) := (blk_cell HN2.out.kf 0).trans rfl
        obtain ⟨ii1, hi1, hi2⟩ := int_info
        have heg := eg144
        have HC := Aside0.mk (sw_use HIH.out HN3.out (show Below w0.heap.size w0 ((w2.drew.alloc (.cells #[.int .i64 ((fr + k : Nat) : Int)] 2)).setCell ⟨b.B, L.length, none⟩ (.int .i64 ((fr + k : Nat) : Int))) from below_set (below_alloc (below_drew HB2.out) _) HA.out.h11) (by simp; omega) hL HLO.out HQ.out hlt HPL.out hFl hm0 HM1.out HFR.out)
        clear cs hb2
        refine start_ (n := 6) (S := fun w' => w'.cell? ⟨b.bf, 0, none⟩ = some (searchV b)) (ds := []) #[false, false, false, false, false, false] (by kernel_rfl) rfl rfl hbf (fun hHeld => ?_)
        refine take_ (i := 0) (N := some 79) (v := ?_) (a' := ?_) #[true, false, false, false, false, false] rfl rfl (by kernel_rfl) (fun _ _ _ h => h) (Or.inl ⟨by rfl, ?_⟩) hHeld ?_ ?_
        rotate_left
        · intro w' s0
          go_simp
          with_reducible rfl
        rotate_left
        · simp only [Act.put, List.setIfInBounds_toArray, List.set_cons_zero, List.set_cons_succ, i64_w, i32_w]
          rfl
        refine pure_ (i := 1) (N := some 80) (v := ?_) (a' := ?_) #[true, true, false, false, false, false] rfl rfl (by kernel_rfl) (fun _ _ _ h => h) (Or.inl ⟨by rfl, ?_⟩) ?_ ?_
        rotate_left
        · intro w'
          go_simp
          with_reducible rfl
        rotate_left
        · simp only [Act.put, List.setIfInBounds_toArray, List.set_cons_zero, List.set_cons_succ, i64_w, i32_w]
          rfl
        refine pure_ (i := 2) (N := some 81) (v := ?_) (a' := ?_) #[true, true, true, false, false, false] rfl rfl (by kernel_rfl) (fun _ _ _ h => h) (Or.inl ⟨by rfl, ?_⟩) ?_ ?_
        rotate_left
        · intro w'
          go_simp
          with_reducible rfl
        rotate_left
        · simp only [Act.put, List.setIfInBounds_toArray, List.set_cons_zero, List.set_cons_succ, i64_w, i32_w]
          rfl
        refine one_ (i := 3) (N := some 82) #[true, true, true, true, false, false] rfl rfl (by kernel_rfl) (by decide) (fun K hK => ?_)
        refine value_ (w1 := w2.drew.alloc (.cells #[.int .i64 ((fr + k : Nat) : Int)] 2)) (v := .slice (some ⟨w2.drew.heap.size, 0, none⟩) 1 1) (by rfl) rfl (by go_simp) ?_
        refine hK.out _ _ ((World.cell?_alloc_lt _ _ _ (World.block_lt_of_cell? _ _ hHeld)).trans hHeld) (fun hHeld => ?_)
        clear hK K
        refine norm_ (a' := ?_) ?_ ?_
        rotate_left
        · show Act.put _ (some 82) _ = _
          simp only [Act.put, List.setIfInBounds_toArray, List.set_cons_zero, List.set_cons_succ, i64_w, i32_w]
          rfl
        refine one_ (i := 4) (N := some 83) #[true, true, true, true, true, false] rfl rfl (by kernel_rfl) (by decide) (fun K hK => ?_)
        refine step_append_room (by rfl) (.tmp 80) (.tmp 82) 25 (by rfl) 2 ii1 1 Try.underlying25 hi1 hi2 b.B 0 L.length 3 (by rfl) ⟨w2.drew.heap.size, 0, none⟩ 1 1 [.int .i64 ((fr + k : Nat) : Int)] (by rfl) rfl (room_cells w2.drew ((fr + k : Nat) : Int)) (by simp [Value.oneCell']) (by omega) (room_spare HN2.out hll _ _) ?_
        rw [setCells_one]
        refine hK.out _ _ ((blk_cell HN3.out.kf 0).trans rfl) (fun hHeld => ?_)
        clear hK K
        refine norm_ (a' := ?_) ?_ ?_
        rotate_left
        · show Act.put _ (some 83) _ = _
          simp only [Act.put, List.setIfInBounds_toArray, List.set_cons_zero, List.set_cons_succ, i64_w, i32_w]
          rfl
        refine one_ (i := 5) (N := some 84) #[true, true, true, true, true, true] rfl rfl (by kernel_rfl) (by decide) (fun K hK => ?_)
        refine goesV Try.func82 (by kernel_rfl) rfl #[.slice (some ⟨b.B, 0, none⟩) (L.length + 1) 3, .pointer (some ⟨b.bt, 0, none⟩), .pointer (some ⟨b.bs, 0, none⟩), .pointer (some ⟨b.bc, 0, none⟩), .pointer (some ⟨b.bf, 0, none⟩)] (by rfl) rfl rfl (by rfl) (by first | rfl | (simp; rfl) | (simp [List.append_toArray]; done)) ?_
        refine HC.out.mono ?_
        rintro e w4 ⟨rfl, vP2, vF2, hN4, hB4⟩
        refine ⟨_, rfl, ?_⟩
        refine hK.out _ _ ((blk_cell hN4.kf 0).trans rfl) (fun hHeld => ?_)
        clear hK K
        refine norm_ (a' := ?_) ?_ ?_
        rotate_left
        · show Act.put _ (some 84) _ = _
          simp only [Act.put, List.setIfInBounds_toArray, List.set_cons_zero, List.set_cons_succ, i64_w, i32_w]
          rfl
        refine done_ (by kernel_rfl) ?_
        go_wp2
        go_roundg (s.length - (fr + k + 1))
        case measure => omega
        case rel =>
          exact ⟨k + 1, vP2, vF2, by first | rfl | (go_num; done) | (congr 1; omega), by omega, by omega, ⟨hN4.popL⟩, ⟨hB4⟩, ⟨by have := hB4; exact sw_lo hN4 HA.out HA.out.n10⟩⟩
      · have hlt1 : ¬ ((fr + k : Nat) : Int) < (s.length : Int) := by omega
        have hkk : k = s.length - fr := by omega
        have HKK := Aside0.mk hkk
        clear hkk
        go_wp2_with (go_at_call 80; refine (places_walk A c s _).mono ?_; rintro e w2 ⟨rfl, hb2⟩)
        go_end0
        refine ⟨rfl, vP', vF', ?_, below_step HBk.out hb2⟩
        rw [← HFR.out, ← HKK.out]
        exact HNk.out.below hb2
  · rw [List.concat_eq_append] at hcons
    have hln : L.length = L0.length + 1 := by rw [hcons]; simp
    have hz0 : decide (0 < L.length) = true := decide_eq_true (by omega)
    have hz1 : 0 < L.length := by omega
    have hz2 : (0 : Int) < (L.length : Int) := by omega
    have hz4 : ((L.length : Int) - 1).toNat = L.length - 1 := by omega
    have hz5 : (0 : Int) ≤ (L.length : Int) - 1 := by omega
    have hz6 : (L.length : Int) - 1 < (L.length : Int) := by omega
    have hxr : 0 ≤ x ∧ x < (s.length : Int) := hLo x (by rw [hcons]; simp)
    obtain ⟨hx0, hx1⟩ := hxr
    have hlast : W.cell? ⟨b.B, L.length - 1, none⟩ = some (.int .i64 x) := by
      obtain ⟨cur, k1, k2, k3⟩ := hN.kB
      rw [blk_cell k1 (L.length - 1), k3 (L.length - 1) (by omega)]
      simp [hcons]
    have HF0 := Aside0.mk (show x + 1 = ((fr + 0 : Nat) : Int) by
      rw [hfre, hcons, frm_snoc]
      omega)
    clear hN hA hB hq hLo ih hm1 hPl hfre hlo hcons hln
    go_enter Try.func82, Try.ntmps82
    go_wp2
    go_loopg [11] s.length (fun gg s11 wr => ∃ (k : Nat) (vP' vF' : Value), s11 = .int .i64 ((fr + k : Nat) : Int) ∧ fr + k ≤ s.length ∧ s.length - (fr + k) ≤ gg ∧ Aside0 (NC wr w0.heap.size b tt A c s vP' vF' (P ++ emit s.length d L fr k) (F ++ firsts s m (emit s.length d L fr k)) (m + manyC s (emit s.length d L fr k)) L) ∧ Aside0 (Below w0.heap.size w0 wr) ∧ Aside0 (b.lo ≤ wr.heap.size))
    case atStart => exact ⟨0, vP, vF, congrArg (Value.int .i64) HF0.out, by omega, by omega, ⟨HN.out.cast (by simp [emit]) (by simp [emit, firsts]) (by simp [emit, manyC])⟩, HB, HLOB⟩
    case round =>
      obtain ⟨k, vP', vF', rfl, hk, hgg, HNk, HBk, HLk⟩ := hrel
      have cs : wr.cell? ⟨b.bs, 0, none⟩ = some (.slice A s.length c) := (blk_cell HNk.out.ks 0).trans rfl
      by_cases hlt : fr + k < s.length
      · have hlt1 : ((fr + k : Nat) : Int) < (s.length : Int) := by omega
        go_wp2_with (go_at_call 80; refine (places_walk A c s _).mono ?_; rintro e w2 ⟨rfl, hb2⟩)
        have HN2 := Aside0.mk (HNk.out.below hb2)
        have HB2 := Aside0.mk (below_step HBk.out hb2)
        have hsz2 : b.lo ≤ w2.heap.size := Nat.le_trans HLk.out hb2.size
        have HN3 := Aside0.mk (HN2.out.pushL HA.out hll ((fr + k : Nat) : Int) (.cells #[.int .i64 ((fr + k : Nat) : Int)] 2))
        have hbf : w2.drew.cell? ⟨b.bf, 0, none⟩ = some (searchV b) := (blk_cell HN2.out.kf 0).trans rfl
        obtain ⟨ii1, hi1, hi2⟩ := int_info
        have heg := eg144
        have HC := Aside0.mk (sw_use HIH.out HN3.out (show Below w0.heap.size w0 ((w2.drew.alloc (.cells #[.int .i64 ((fr + k : Nat) : Int)] 2)).setCell ⟨b.B, L.length, none⟩ (.int .i64 ((fr + k : Nat) : Int))) from below_set (below_alloc (below_drew HB2.out) _) HA.out.h11) (by simp; omega) hL HLO.out HQ.out hlt HPL.out hFl hm0 HM1.out HFR.out)
        clear cs hb2
        refine start_ (n := 6) (S := fun w' => w'.cell? ⟨b.bf, 0, none⟩ = some (searchV b)) (ds := []) #[false, false, false, false, false, false] (by kernel_rfl) rfl rfl hbf (fun hHeld => ?_)
        refine take_ (i := 0) (N := some 79) (v := ?_) (a' := ?_) #[true, false, false, false, false, false] rfl rfl (by kernel_rfl) (fun _ _ _ h => h) (Or.inl ⟨by rfl, ?_⟩) hHeld ?_ ?_
        rotate_left
        · intro w' s0
          go_simp
          with_reducible rfl
        rotate_left
        · simp only [Act.put, List.setIfInBounds_toArray, List.set_cons_zero, List.set_cons_succ, i64_w, i32_w]
          rfl
        refine pure_ (i := 1) (N := some 80) (v := ?_) (a' := ?_) #[true, true, false, false, false, false] rfl rfl (by kernel_rfl) (fun _ _ _ h => h) (Or.inl ⟨by rfl, ?_⟩) ?_ ?_
        rotate_left
        · intro w'
          go_simp
          with_reducible rfl
        rotate_left
        · simp only [Act.put, List.setIfInBounds_toArray, List.set_cons_zero, List.set_cons_succ, i64_w, i32_w]
          rfl
        refine pure_ (i := 2) (N := some 81) (v := ?_) (a' := ?_) #[true, true, true, false, false, false] rfl rfl (by kernel_rfl) (fun _ _ _ h => h) (Or.inl ⟨by rfl, ?_⟩) ?_ ?_
        rotate_left
        · intro w'
          go_simp
          with_reducible rfl
        rotate_left
        · simp only [Act.put, List.setIfInBounds_toArray, List.set_cons_zero, List.set_cons_succ, i64_w, i32_w]
          rfl
        refine one_ (i := 3) (N := some 82) #[true, true, true, true, false, false] rfl rfl (by kernel_rfl) (by decide) (fun K hK => ?_)
        refine value_ (w1 := w2.drew.alloc (.cells #[.int .i64 ((fr + k : Nat) : Int)] 2)) (v := .slice (some ⟨w2.drew.heap.size, 0, none⟩) 1 1) (by rfl) rfl (by go_simp) ?_
        refine hK.out _ _ ((World.cell?_alloc_lt _ _ _ (World.block_lt_of_cell? _ _ hHeld)).trans hHeld) (fun hHeld => ?_)
        clear hK K
        refine norm_ (a' := ?_) ?_ ?_
        rotate_left
        · show Act.put _ (some 82) _ = _
          simp only [Act.put, List.setIfInBounds_toArray, List.set_cons_zero, List.set_cons_succ, i64_w, i32_w]
          rfl
        refine one_ (i := 4) (N := some 83) #[true, true, true, true, true, false] rfl rfl (by kernel_rfl) (by decide) (fun K hK => ?_)
        refine step_append_room (by rfl) (.tmp 80) (.tmp 82) 25 (by rfl) 2 ii1 1 Try.underlying25 hi1 hi2 b.B 0 L.length 3 (by rfl) ⟨w2.drew.heap.size, 0, none⟩ 1 1 [.int .i64 ((fr + k : Nat) : Int)] (by rfl) rfl (room_cells w2.drew ((fr + k : Nat) : Int)) (by simp [Value.oneCell']) (by omega) (room_spare HN2.out hll _ _) ?_
        rw [setCells_one]
        refine hK.out _ _ ((blk_cell HN3.out.kf 0).trans rfl) (fun hHeld => ?_)
        clear hK K
        refine norm_ (a' := ?_) ?_ ?_
        rotate_left
        · show Act.put _ (some 83) _ = _
          simp only [Act.put, List.setIfInBounds_toArray, List.set_cons_zero, List.set_cons_succ, i64_w, i32_w]
          rfl
        refine one_ (i := 5) (N := some 84) #[true, true, true, true, true, true] rfl rfl (by kernel_rfl) (by decide) (fun K hK => ?_)
        refine goesV Try.func82 (by kernel_rfl) rfl #[.slice (some ⟨b.B, 0, none⟩) (L.length + 1) 3, .pointer (some ⟨b.bt, 0, none⟩), .pointer (some ⟨b.bs, 0, none⟩), .pointer (some ⟨b.bc, 0, none⟩), .pointer (some ⟨b.bf, 0, none⟩)] (by rfl) rfl rfl (by rfl) (by first | rfl | (simp; rfl) | (simp [List.append_toArray]; done)) ?_
        refine HC.out.mono ?_
        rintro e w4 ⟨rfl, vP2, vF2, hN4, hB4⟩
        refine ⟨_, rfl, ?_⟩
        refine hK.out _ _ ((blk_cell hN4.kf 0).trans rfl) (fun hHeld => ?_)
        clear hK K
        refine norm_ (a' := ?_) ?_ ?_
        rotate_left
        · show Act.put _ (some 84) _ = _
          simp only [Act.put, List.setIfInBounds_toArray, List.set_cons_zero, List.set_cons_succ, i64_w, i32_w]
          rfl
        refine done_ (by kernel_rfl) ?_
        go_wp2
        go_roundg (s.length - (fr + k + 1))
        case measure => omega
        case rel =>
          exact ⟨k + 1, vP2, vF2, by first | rfl | (go_num; done) | (congr 1; omega), by omega, by omega, ⟨hN4.popL⟩, ⟨hB4⟩, ⟨by have := hB4; exact sw_lo hN4 HA.out HA.out.n10⟩⟩
      · have hlt1 : ¬ ((fr + k : Nat) : Int) < (s.length : Int) := by omega
        have hkk : k = s.length - fr := by omega
        have HKK := Aside0.mk hkk
        clear hkk
        go_wp2_with (go_at_call 80; refine (places_walk A c s _).mono ?_; rintro e w2 ⟨rfl, hb2⟩)
        go_end0
        refine ⟨rfl, vP', vF', ?_, below_step HBk.out hb2⟩
        rw [← HFR.out, ← HKK.out]
        exact HNk.out.below hb2
theorem sw_all (b : NB) (tt : Nat) (A : Option Addr) (c : Nat) (s : List Int) (w0 : World) (hs0 : Kd.C (Kd.int .i64) w0 A s.length s) (hA : NA w0.heap.size b) (h8 : s.length ≤ 8) (hq : ∀ q ∈ s, 2 ≤ q ∧ q ≤ 4) (ht : tt ≤ 3) : ∀ d, SW b tt A c s w0 d
  | 0 => sw_zero b tt A c s w0 hs0 hA h8 hq ht
  | d + 1 => search_loop b tt A c s w0 hs0 hA h8 hq ht d (sw_all b tt A c s w0 hs0 hA h8 hq ht d)
end Go.Proofs.Ytbfhhjekonafdaa.DG
