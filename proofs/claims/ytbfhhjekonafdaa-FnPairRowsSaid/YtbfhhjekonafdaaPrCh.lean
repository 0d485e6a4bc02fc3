/- Choices of places and digits: their numbers, forth and back. Spaces of at most 8 places of sizes 2 to 4. -/
import Derived.Test.YtbfhhjekonafdaaPrDg2
import Derived.Laws.CopyOwn
namespace Go.Proofs.Ytbfhhjekonafdaa.DG
open Go Go.RowKit Go.Proofs.YtbfhhjekonafdaaW.PrintWords Go.Proofs.YtbfhhjekonafdaaW.PrintLast Go.Proofs.YtbfhhjekonafdaaW.PrintMore
set_option linter.unusedVariables false
set_option linter.unusedSimpArgs false
/-- The sizes at some places. -/
def szs (s p : List Int) : List Int := p.map (rd s)
/-- All ascending lists of t of n places, from a place on. -/
def plc (n : Nat) : Nat → Nat → List (List Int)
  | 0, _ => [[]]
  | t + 1, a => (List.range' a (n - a)).flatMap fun i => (plc n t (i + 1)).map fun p => (i : Int) :: p
/-- All choices at places. -/
def chOf (s p : List Int) : List (List Int) := (List.range (prodI (szs s p)).toNat).map fun (v : Nat) => p ++ digL (szs s p) (v : Int)
def chAll (s : List Int) (P : List (List Int)) : List (List Int) := P.flatMap (chOf s)
/-- The number of the first choice of each list of places. -/
def firsts (s : List Int) : Int → List (List Int) → List Int
  | _, [] => []
  | a, p :: P => a :: firsts s (a + prodI (szs s p)) P
def manyC (s : List Int) : List (List Int) → Int
  | [] => 0
  | p :: P => prodI (szs s p) + manyC s P
/-- The numbers of the choices that a row with digits d has. -/
def ofL (s d : List Int) : Int → List (List Int) → List Int
  | _, [] => []
  | a, p :: P => (a + wordI 0 (szs s p) (p.map (rd d))) :: ofL s d (a + prodI (szs s p)) P
def ofZ (s d F : List Int) (P : List (List Int)) : List Int := List.zipWith (fun p a => a + wordI 0 (szs s p) (p.map (rd d))) P F
theorem ofZ_firsts (s d : List Int) : ∀ (P : List (List Int)) (a : Int), ofZ s d (firsts s a P) P = ofL s d a P
  | [], a => rfl
  | p :: P, a => by
    have := ofZ_firsts s d P (a + prodI (szs s p))
    unfold ofZ at this ⊢
    simp only [firsts, List.zipWith_cons_cons, ofL]
    rw [this]
theorem firsts_len (s : List Int) : ∀ (P : List (List Int)) (a : Int), (firsts s a P).length = P.length
  | [], _ => rfl
  | p :: P, a => by simp [firsts, firsts_len s P]
/-- Places of a space: within it, each list ascending. -/
def PlOk (n : Nat) (p : List Int) : Prop := ∀ i ∈ p, 0 ≤ i ∧ i < (n : Int)
theorem plc_ok (n : Nat) : ∀ t a, ∀ p ∈ plc n t a, p.length = t ∧ PlOk n p
  | 0, a, p, h => by
    simp only [plc, List.mem_singleton] at h
    subst h
    exact ⟨rfl, fun i hi => by simp at hi⟩
  | t + 1, a, p, h => by
    simp only [plc, List.mem_flatMap, List.mem_map, List.mem_range'_1] at h
    obtain ⟨i, ⟨h1, h2⟩, q, hq, rfl⟩ := h
    obtain ⟨e, hk⟩ := plc_ok n t (i + 1) q hq
    refine ⟨by simp [e], fun j hj => ?_⟩
    rcases List.mem_cons.1 hj with rfl | hj
    · omega
    · exact hk j hj
theorem szs_ok (s : List Int) (hs : ∀ q ∈ s, 2 ≤ q ∧ q ≤ 4) (p : List Int) (hp : PlOk s.length p) : ∀ q ∈ szs s p, 2 ≤ q ∧ q ≤ 4 := by
  intro q hq
  obtain ⟨i, hi, rfl⟩ := List.mem_map.1 hq
  obtain ⟨h0, h1⟩ := hp i hi
  have hl : i.toNat < s.length := by omega
  have : rd s i = s[i.toNat] := by simp [rd, List.getElem?_eq_getElem hl]
  rw [this]; exact hs _ (List.getElem_mem hl)
/-- Digits within sizes. -/
def Within : List Int → List Int → Prop
  | [], [] => True
  | q :: z, d :: y => (0 ≤ d ∧ d < q) ∧ Within z y
  | _, _ => False
theorem within_len : ∀ {z y : List Int}, Within z y → y.length = z.length
  | [], [], _ => rfl
  | q :: z, d :: y, h => by simp [within_len h.2]
  | [], _ :: _, h => h.elim
  | _ :: _, [], h => h.elim
theorem within_dig : ∀ (z : List Int), (∀ q ∈ z, 2 ≤ q ∧ q ≤ 4) → ∀ v, Within z (digL z v)
  | [], _, v => trivial
  | q :: z, h, v => by
    have hq := h q (by simp)
    exact ⟨⟨Int.emod_nonneg _ (by omega), Int.emod_lt_of_pos _ (by omega)⟩, within_dig z (fun x hx => h x (by simp [hx])) v⟩
theorem word_lin : ∀ (z y : List Int) (acc : Int), y.length = z.length → wordI acc z y = acc * prodI z + wordI 0 z y
  | [], y, acc, h => by simp [wordI, prodI]
  | q :: z, [], acc, h => by simp at h
  | q :: z, d :: y, acc, h => by
    have hl : y.length = z.length := by simpa using h
    simp only [wordI, prodI]
    rw [word_lin z y _ hl, word_lin z y (0 * q + d) hl]
    rw [Int.zero_mul, Int.zero_add, Int.add_mul, Int.mul_assoc, Int.add_assoc]
theorem word_bound : ∀ (z y : List Int), (∀ q ∈ z, 2 ≤ q ∧ q ≤ 4) → Within z y → 0 ≤ wordI 0 z y ∧ wordI 0 z y < prodI z
  | [], [], _, _ => by simp [wordI, prodI]
  | q :: z, d :: y, h, hw => by
    have hz := fun x hx => h x (List.mem_cons_of_mem q hx)
    obtain ⟨i0, i1⟩ := word_bound z y hz hw.2
    obtain ⟨h0, h1⟩ := hw.1
    have hp := prodI_pos z hz
    have e : wordI 0 (q :: z) (d :: y) = d * prodI z + wordI 0 z y := by
      show wordI (0 * q + d) z y = _
      rw [word_lin z y _ (within_len hw.2), Int.zero_mul, Int.zero_add]
    rw [e]
    have h2 : 0 ≤ d * prodI z := Int.mul_nonneg h0 (by omega)
    have h3 : d * prodI z + prodI z ≤ q * prodI z := by
      have : (d + 1) * prodI z ≤ q * prodI z := Int.mul_le_mul_of_nonneg_right (by omega) (by omega)
      rw [Int.add_mul, Int.one_mul] at this; exact this
    simp only [prodI]
    omega
  | [], _ :: _, _, h => h.elim
  | _ :: _, [], _, h => h.elim
theorem dig_mod : ∀ (z : List Int), (∀ q ∈ z, 2 ≤ q ∧ q ≤ 4) → ∀ a v : Int, digL z (a * prodI z + v) = digL z v
  | [], _, a, v => rfl
  | q :: z, h, a, v => by
    have hz := fun x hx => h x (List.mem_cons_of_mem q hx)
    have hp := prodI_pos z hz
    simp only [digL, prodI]
    have e1 : (a * (q * prodI z) + v) / prodI z % q = v / prodI z % q := by
      rw [show a * (q * prodI z) + v = v + (a * q) * prodI z by rw [← Int.mul_assoc]; omega, Int.add_mul_ediv_right _ _ (by omega)]
      exact Int.add_mul_emod_self_right _ _ _
    rw [e1, show a * (q * prodI z) + v = (a * q) * prodI z + v by rw [← Int.mul_assoc], dig_mod z hz]
theorem dig_word : ∀ (z y : List Int), (∀ q ∈ z, 2 ≤ q ∧ q ≤ 4) → Within z y → digL z (wordI 0 z y) = y
  | [], [], _, _ => rfl
  | q :: z, d :: y, h, hw => by
    have hz := fun x hx => h x (List.mem_cons_of_mem q hx)
    have hp := prodI_pos z hz
    obtain ⟨i0, i1⟩ := word_bound z y hz hw.2
    obtain ⟨h0, h1⟩ := hw.1
    have e : wordI 0 (q :: z) (d :: y) = d * prodI z + wordI 0 z y := by
      show wordI (0 * q + d) z y = _
      rw [word_lin z y _ (within_len hw.2), Int.zero_mul, Int.zero_add]
    rw [e]
    simp only [digL]
    rw [dig_mod z hz, dig_word z y hz hw.2]
    congr 1
    rw [Int.add_comm, Int.add_mul_ediv_right _ _ (by omega), Int.ediv_eq_zero_of_lt i0 i1, Int.zero_add]
    exact Int.emod_eq_of_lt h0 h1
  | [], _ :: _, _, h => h.elim
  | _ :: _, [], _, h => h.elim
theorem word_dig : ∀ (z : List Int), (∀ q ∈ z, 2 ≤ q ∧ q ≤ 4) → ∀ v, 0 ≤ v → v < prodI z → wordI 0 z (digL z v) = v
  | [], _, v, h0, h1 => by simp [prodI] at h1; simp [wordI]; omega
  | q :: z, h, v, h0, h1 => by
    have hz := fun x hx => h x (List.mem_cons_of_mem q hx)
    have hp := prodI_pos z hz
    have hq := h q (by simp)
    show wordI (0 * q + v / prodI z % q) z (digL z v) = v
    rw [word_lin z _ _ (digL_len z v), Int.zero_mul, Int.zero_add]
    have e1 : digL z v = digL z (v % prodI z) := by
      have := dig_mod z hz (v / prodI z) (v % prodI z)
      rw [Int.mul_comm, Int.mul_ediv_add_emod] at this
      exact this
    rw [e1, word_dig z hz (v % prodI z) (Int.emod_nonneg _ (by omega)) (Int.emod_lt_of_pos _ (by omega))]
    have e2 : v / prodI z % q = v / prodI z := Int.emod_eq_of_lt (Int.ediv_nonneg h0 (by omega)) (Int.ediv_lt_of_lt_mul (by omega) (by simpa [prodI] using h1))
    rw [e2, Int.mul_comm, Int.mul_ediv_add_emod]
/-- Whether digits have a choice. -/
def hasB (d c : List Int) (t : Nat) : Bool := (List.range t).all fun k => rd d (rd c (k : Int)) == rd c ((t + k : Nat) : Int)
theorem rd_nat' (l : List Int) (i : Nat) (h : i < l.length) : rd l (i : Int) = l[i] := by simp [rd, List.getElem?_eq_getElem h]
theorem has_iff (d p x : List Int) (t : Nat) (hp : p.length = t) (hx : x.length = t) : hasB d (p ++ x) t = true ↔ p.map (rd d) = x := by
  unfold hasB
  rw [List.all_eq_true]
  constructor
  · intro h
    apply List.ext_getElem (by simp [hp, hx])
    intro k h1 h2
    have hk : k < t := by omega
    have := h k (List.mem_range.2 hk)
    rw [beq_iff_eq, rd_nat' _ k (by simp; omega), rd_nat' _ (t + k) (by simp; omega), List.getElem_append_left (by omega), List.getElem_append_right (by omega)] at this
    rw [List.getElem_map, this]
    congr 1; omega
  · intro h k hk
    have hk : k < t := List.mem_range.1 hk
    rw [beq_iff_eq, rd_nat' _ k (by simp; omega), rd_nat' _ (t + k) (by simp; omega), List.getElem_append_left (by omega), List.getElem_append_right (by omega)]
    subst h
    rw [List.getElem_map]
    congr 2; omega
theorem chOf_len (s p : List Int) : (chOf s p).length = (prodI (szs s p)).toNat := by simp [chOf]
theorem chAll_len (s : List Int) (hs : ∀ q ∈ s, 2 ≤ q ∧ q ≤ 4) : ∀ (P : List (List Int)), (∀ p ∈ P, PlOk s.length p) → ((chAll s P).length : Int) = manyC s P
  | [], _ => rfl
  | p :: P, h => by
    have ih := chAll_len s hs P (fun x hx => h x (by simp [hx]))
    have hp := prodI_pos _ (szs_ok s hs p (h p (by simp)))
    unfold chAll at ih ⊢
    rw [List.flatMap_cons, List.length_append, chOf_len]
    simp only [manyC]
    omega
theorem manyC_nonneg (s : List Int) (hs : ∀ q ∈ s, 2 ≤ q ∧ q ≤ 4) (P : List (List Int)) (h : ∀ p ∈ P, PlOk s.length p) : 0 ≤ manyC s P := by
  rw [← chAll_len s hs P h]; omega
/-- A row has the choice with a number exactly if the number is one of its own. -/
theorem has_num (s d : List Int) (hs : ∀ q ∈ s, 2 ≤ q ∧ q ≤ 4) (hd : Within s d) (t : Nat) : ∀ (P : List (List Int)) (a : Int), (∀ p ∈ P, p.length = t ∧ PlOk s.length p) → ∀ (n : Nat) (hn : n < (chAll s P).length), (hasB d (chAll s P)[n] t = true ↔ a + (n : Int) ∈ ofL s d a P)
  | [], a, _, n, hn => by simp [chAll] at hn
  | p :: P, a, h, n, hn => by
    obtain ⟨hpl, hpk⟩ := h p (by simp)
    have hz := szs_ok s hs p hpk
    have hpp := prodI_pos _ hz
    have hP := fun x hx => h x (List.mem_cons_of_mem p hx)
    have hw : Within (szs s p) (p.map (rd d)) := by
      have key : ∀ (p : List Int), PlOk s.length p → Within (p.map (rd s)) (p.map (rd d)) := by
        intro p
        induction p with
        | nil => intro _; trivial
        | cons i p ih =>
          intro hk
          refine ⟨?_, ih (fun j hj => hk j (by simp [hj]))⟩
          obtain ⟨h0, h1⟩ := hk i (by simp)
          have key2 : ∀ (s d : List Int), Within s d → ∀ j, j < s.length → 0 ≤ d.getD j 0 ∧ d.getD j 0 < s.getD j 0 := by
            intro s
            induction s with
            | nil => intro d _ j hj; simp at hj
            | cons q s ih =>
              intro d hd j hj
              cases d with
              | nil => exact hd.elim
              | cons x d =>
                cases j with
                | zero => simpa using hd.1
                | succ j => simpa using ih d hd.2 j (by simpa using hj)
          exact key2 s d hd i.toNat (by omega)
      exact key p hpk
    obtain ⟨b0, b1⟩ := word_bound _ _ hz hw
    have hge : ∀ (P : List (List Int)), (∀ p ∈ P, p.length = t ∧ PlOk s.length p) → ∀ b, ∀ x ∈ ofL s d b P, b ≤ x := by
      intro P
      induction P with
      | nil => intro _ b x hx; simp [ofL] at hx
      | cons p P ih =>
        intro hP b x hx
        have hk := (hP p (by simp)).2
        have hpp := prodI_pos _ (szs_ok s hs p hk)
        simp only [ofL, List.mem_cons] at hx
        have hw : Within (szs s p) (p.map (rd d)) := by
          have key2 : ∀ (s d : List Int), Within s d → ∀ j, j < s.length → 0 ≤ d.getD j 0 ∧ d.getD j 0 < s.getD j 0 := by
            intro s
            induction s with
            | nil => intro d _ j hj; simp at hj
            | cons q s ih =>
              intro d hd j hj
              cases d with
              | nil => exact hd.elim
              | cons x d =>
                cases j with
                | zero => simpa using hd.1
                | succ j => simpa using ih d hd.2 j (by simpa using hj)
          have key : ∀ (p : List Int), PlOk s.length p → Within (p.map (rd s)) (p.map (rd d)) := by
            intro p
            induction p with
            | nil => intro _; trivial
            | cons i p ih =>
              intro hk
              refine ⟨?_, ih (fun j hj => hk j (by simp [hj]))⟩
              obtain ⟨h0, h1⟩ := hk i (by simp)
              exact key2 s d hd i.toNat (by omega)
          exact key p hk
        obtain ⟨b0, b1⟩ := word_bound _ _ (szs_ok s hs p hk) hw
        rcases hx with rfl | hx
        · omega
        · have := ih (fun y hy => hP y (by simp [hy])) _ x hx
          omega
    simp only [ofL, List.mem_cons]
    by_cases hlt : n < (prodI (szs s p)).toNat
    · have e : (chAll s (p :: P))[n] = p ++ digL (szs s p) (n : Int) := by
        unfold chAll
        simp only [List.flatMap_cons]
        rw [List.getElem_append_left (by rw [chOf_len]; exact hlt)]
        simp [chOf]
      rw [e, has_iff d p _ t hpl (by rw [digL_len]; simp [szs, hpl])]
      constructor
      · intro he
        left
        rw [he, word_dig _ hz _ (by omega) (by omega)]
      · rintro (he | he)
        · have : (n : Int) = wordI 0 (szs s p) (p.map (rd d)) := by omega
          rw [this, dig_word _ _ hz hw]
        · have := hge P hP _ _ he
          omega
    · have hn' : n - (prodI (szs s p)).toNat < (chAll s P).length := by
        unfold chAll at hn ⊢
        rw [List.flatMap_cons, List.length_append, chOf_len] at hn
        omega
      have e : (chAll s (p :: P))[n] = (chAll s P)[n - (prodI (szs s p)).toNat] := by
        unfold chAll
        simp only [List.flatMap_cons]
        rw [List.getElem_append_right (by rw [chOf_len]; omega)]
        simp only [chOf_len]
        rfl
      rw [e, has_num s d hs hd t P (a + prodI (szs s p)) hP _ hn']
      have e2 : a + prodI (szs s p) + ((n - (prodI (szs s p)).toNat : Nat) : Int) = a + (n : Int) := by omega
      rw [e2]
      constructor
      · exact fun h => .inr h
      · rintro (h | h)
        · omega
        · exact h
/-- How the rows' choices add up. -/
def tick (o : List Int) (n : Int) : List Int := o.set n.toNat (rd o n + 1)
def oftZ (m : Nat) (ofs : List (List Int)) : List Int := ofs.foldl (fun o l => l.foldl tick o) (List.replicate m 0)
theorem tick_len (o : List Int) (n : Int) : (tick o n).length = o.length := by simp [tick]
theorem ticks_len : ∀ (l o : List Int), (l.foldl tick o).length = o.length
  | [], _ => rfl
  | n :: l, o => by rw [List.foldl_cons, ticks_len l, tick_len]
theorem tick_rd (o : List Int) (n : Int) (hn : 0 ≤ n) (j : Nat) (hj : j < o.length) : rd (tick o n) (j : Int) = rd o (j : Int) + if n = (j : Int) then 1 else 0 := by
  unfold tick rd
  rw [List.getD_eq_getElem?_getD, List.getElem?_set, Int.toNat_natCast]
  by_cases h : n = (j : Int)
  · subst h
    rw [Int.toNat_natCast, if_pos rfl, if_pos hj, if_pos rfl]; rfl
  · rw [if_neg (by omega), if_neg h, ← List.getD_eq_getElem?_getD]; omega
theorem ticks_rd : ∀ (l : List Int), (∀ n ∈ l, 0 ≤ n) → ∀ (o : List Int) (j : Nat), j < o.length → rd (l.foldl tick o) (j : Int) = rd o (j : Int) + (l.count (j : Int) : Nat)
  | [], _, o, j, hj => by simp
  | n :: l, h, o, j, hj => by
    rw [List.foldl_cons, ticks_rd l (fun x hx => h x (by simp [hx])) _ j (by rw [tick_len]; exact hj), tick_rd o n (h n (by simp)) j hj, List.count_cons]
    by_cases e : n = (j : Int)
    · subst e; simp; omega
    · rw [if_neg e, if_neg (by simpa using e)]; omega
end Go.Proofs.Ytbfhhjekonafdaa.DG
