/- The small language and its proofs, part 3. -/
import Derived.Test.YtdijeendcpoemaaPx2
set_option linter.all false
set_option linter.unusedVariables false
set_option linter.unusedSimpArgs false
set_option linter.unusedSectionVars false
/- Kinds; terms: their size, their depth, whether they are formed, in scope, alike. -/
set_option maxRecDepth 100000
set_option linter.unusedVariables false
set_option linter.unusedSimpArgs false
set_option linter.unusedSectionVars false
namespace Go.Px.B
open Go Go.Px
abbrev tv (t : Tm) : PV := .agg [.int .i64 t.k, .int .i64 t.n, .sl .plain 3 (css t.kids)]
abbrev ts (l : List Tm) : PV := .sl .plain 3 (css l)
abbrev av (a : Ag) : PV := .agg [.bool a.rc, .int .i64 a.type.k, .int .i64 a.type.n, .sl .plain 3 (css a.type.kids), .sl .plain 3 (css a.dom), .int .i64 a.sort, .sl .plain 3 (css a.idx)]
abbrev avs (l : List Ag) : PV := .sl .plain 7 (acs l)
abbrev sv (s : Srt) : PV := .agg [.sl .plain 7 (acs s.idx), .int .i64 s.level, .bool s.dec, .int .i64 s.decType.k, .int .i64 s.decType.n, .sl .plain 3 (css s.decType.kids)]
abbrev cv (c : Cn) : PV := .agg [.int .i64 c.sort, .sl .plain 7 (acs c.args), .sl .plain 3 (css c.idx), .int .i64 c.dec.k, .int .i64 c.dec.n, .sl .plain 3 (css c.dec.kids)]
abbrev bv (b : Blk) : PV := .agg [.sl .plain 6 (scs b.sorts), .sl .plain 6 (ccs b.cons), .int .i64 b.elim]
abbrev dv (d : Dcl) : PV := .agg [.int .i64 d.kind, .int .i64 d.type.k, .int .i64 d.type.n, .sl .plain 3 (css d.type.kids), .int .i64 d.body.k, .int .i64 d.body.n, .sl .plain 3 (css d.body.kids),
  .sl .plain 6 (scs d.block.sorts), .sl .plain 6 (ccs d.block.cons), .int .i64 d.block.elim]
variable {S : Sys} (hA : Has S tabA)
include hA

theorem kis_spec (k : Int) : call S 172 [.int .i64 k] [] = some (.bool (kindIs k), []) := by
  rw [hA.eq (m := m172) rfl]
  by_cases h : 1 ≤ k <;> simp [runL, m172, leave, kindIs, h]
theorem kids_spec (k : Int) : call S 149 [.int .i64 k] [] = some (.int .i64 (kidsOf k), []) := by
  rw [hA.eq (m := m149) rfl]
  unfold kidsOf
  by_cases h1 : k = 1
  · simp [runL, m149, leave, h1]
  by_cases h2 : k = 2
  · simp [runL, m149, leave, h2]
  by_cases h3 : k = 3
  · simp [runL, m149, leave, h3]
  by_cases h4 : k = 9
  · simp [runL, m149, leave, h4]
  by_cases h5 : k = 10
  · simp [runL, m149, leave, h5]
  by_cases h6 : k = 8
  · simp [runL, m149, leave, h6]
  by_cases h7 : k = 11
  · simp [runL, m149, leave, h7]
  by_cases h8 : k = 13
  · simp [runL, m149, leave, h8]
  cases h9 : kindIs k <;> simp [runL, m149, leave, h1, h2, h3, h4, h5, h6, h7, h8, kis_spec hA, h9]
theorem leaf_spec (k : Int) : call S 118 [.int .i64 k] [] = some (.bool (kidsOf k == 0), []) := by
  rw [hA.eq (m := m118) rfl]
  simp [runL, m118, leave, kids_spec hA]
theorem idxInt_loop (v : Int) : ∀ (rest all : List Int) (i : Nat), all.drop i = rest → all.length < 1000000000 →
    Ends (EvL S [0, 1, 7, 8] [] m167_l0 [.sl .plain 1 (all.map fun n => [PV.int .i64 n]), .int .i64 v, .int .i64 all.length, .int .i64 i] [] 0) fun e σ =>
      if rest.contains v then e = .rt ∧ ∃ j : Nat, σ.T 4 = .int .i64 j else e = .ex 0
  | [], all, i, hd, h1 => by
    refine .cps fun Q hQ => ?_
    rw [EvL_eq]
    have := drop_nil' hd
    have h3 : ¬ i < all.length := by omega
    simp [m167_l0, h3]
    exact .mk (hQ _ _ (by simp))
  | t :: rest, all, i, hd, h1 => by
    refine .cps fun Q hQ => ?_
    rw [EvL_eq]
    obtain ⟨g1, g2, g3⟩ := drop_cons' hd
    by_cases hv : v = t
    · simp [-getElem?_pos, m167_l0, g1, g2, hv]
      exact .mk (hQ _ _ (by simp [hv]; exact ⟨i, rfl⟩))
    · have e2 := wrap_i64 (n := i + 1) (by omega) (by omega)
      simp [-getElem?_pos, m167_l0, g1, g2, hv, e2]
      exact (idxInt_loop v rest all (i + 1) g3 h1).imp fun e σ h => hQ _ _ (by simpa [hv] using h)
theorem containsInt_spec (l : List Int) (v : Int) (hl : l.length < 1000000000) : call S 138 [.sl .plain 1 (l.map fun n => [PV.int .i64 n]), .int .i64 v] [] = some (.bool (l.contains v), []) := by
  have hi : ∃ j : Int, call S 167 [.sl .plain 1 (l.map fun n => [PV.int .i64 n]), .int .i64 v] [] = some (.int .i64 j, []) ∧ decide (0 ≤ j) = l.contains v := by
    rw [hA.eq (m := m167) rfl]
    obtain ⟨e, σ, h, h3⟩ := idxInt_loop hA v l l 0 rfl hl
    simp at h
    cases hc : l.contains v with
    | true =>
      rw [hc] at h3
      obtain ⟨rfl, j, h5⟩ := h3
      exact ⟨j, by simp [runL, m167, leave, h, h5], by simp⟩
    | false =>
      rw [hc] at h3
      obtain rfl := h3
      exact ⟨-1, by simp [runL, m167, leave, h], by simp⟩
  obtain ⟨j, h1, h2⟩ := hi
  rw [hA.eq (m := m138) rfl]
  simp [runL, m138, leave, h1, h2]
theorem binds_spec (k i : Int) : call S 99 [.int .i64 k, .int .i64 i] [] = some (.int .i64 (binds k i), []) := by
  rw [hA.eq (m := m99) rfl]
  unfold binds
  have hc := containsInt_spec hA [4, 5, 7] k (by simp)
  by_cases h1 : i = 1
  · cases h2 : ([4, 5, 7] : List Int).contains k with
    | true =>
      rw [h2] at hc
      simp at h2 hc
      simp [runL, m99, leave, h1, h2, hc]
    | false =>
      rw [h2] at hc
      simp at h2 hc
      simp [runL, m99, leave, h1, h2, hc]
  · simp [runL, m99, leave, h1]
theorem none_spec (t : Tm) : call S 108 [tv t] [] = some (.bool (isNone t), []) := by
  rw [hA.eq (m := m108) rfl]
  by_cases h1 : t.k = 0 <;> by_cases h2 : t.n = 0 <;> simp [runL, m108, leave, h1, h2, isNone]
  cases t.kids <;> simp <;> omega

mutual
theorem size_spec : ∀ (t : Tm), t.size < 1000000000 → call S 115 [tv t] [] = some (.int .i64 t.size, [])
  | .mk k n l, hz => by
    rw [hA.eq (m := m115) rfl]
    simp only [Tm.size] at hz
    have hl := sizes_ge l
    obtain ⟨_, σ, h, rfl, h3⟩ := size_loop l l 0 1 rfl (by omega) (by omega)
    simp at h h3
    simp [runL, m115, leave, h, h3, Tm.size]
theorem size_loop : ∀ (rest all : List Tm) (i : Nat) (acc : Int), all.drop i = rest → 0 ≤ acc ∧ acc + sizes rest < 1000000000 → all.length < 1000000000 → 
    Ends (EvL S [3, 7, 8, 9] [] m115_l0 [.int .i64 acc, ts all, .int .i64 all.length, .int .i64 i] [] 0) fun e σ => e = .ex 0 ∧ σ.T 3 = .int .i64 (acc + sizes rest)
  | [], all, i, acc, hd, h1, h2 => by
    refine .cps fun Q hQ => ?_
    rw [EvL_eq]
    have := drop_nil' hd
    have h3 : ¬ i < all.length := by omega
    simp [m115_l0, h3]
    exact .mk (hQ _ _ (by simp [sizes]))
  | t :: rest, all, i, acc, hd, h1, h2 => by
    refine .cps fun Q hQ => ?_
    rw [EvL_eq]
    simp [sizes] at h1
    obtain ⟨g1, g2, g3⟩ := drop_cons' hd
    have hz := size_spec t (by omega)
    have e1 := wrap_i64 (n := acc + t.size) (by omega) (by omega)
    have e2 := wrap_i64 (n := i + 1) (by omega) (by omega)
    simp [-getElem?_pos, m115_l0, g1, g2, hz, e1, e2]
    exact (size_loop rest all (i + 1) (acc + t.size) g3 (by omega) h2).imp fun e σ h => hQ _ _ ⟨h.1, by rw [h.2]; simp [sizes, Int.add_assoc]⟩
end
mutual
theorem depth_spec : ∀ (t : Tm), t.size < 1000000000 → call S 116 [tv t] [] = some (.int .i64 t.depth, [])
  | .mk k n l, hz => by
    rw [hA.eq (m := m116) rfl]
    simp only [Tm.size] at hz
    have hl := sizes_ge l
    have hd := depths_le l
    obtain ⟨_, σ, h, rfl, h3⟩ := depth_loop l l 0 0 rfl (by omega) (by omega)
    simp at h h3
    have e1 := wrap_i64 (n := depths l + 1) (by omega) (by omega)
    simp [runL, m116, leave, h, h3, Tm.depth, e1]
theorem depth_loop : ∀ (rest all : List Tm) (i : Nat) (acc : Nat), all.drop i = rest → sizes rest < 1000000000 → all.length < 1000000000 → 
    Ends (EvL S [3, 7, 8, 9] [] m116_l0 [.int .i64 acc, ts all, .int .i64 all.length, .int .i64 i] [] 0) fun e σ => e = .ex 0 ∧ σ.T 3 = .int .i64 (max acc (depths rest) : Nat)
  | [], all, i, acc, hd, h1, h2 => by
    refine .cps fun Q hQ => ?_
    rw [EvL_eq]
    have := drop_nil' hd
    have h3 : ¬ i < all.length := by omega
    simp [m116_l0, h3]
    exact .mk (hQ _ _ (by simp [depths]))
  | t :: rest, all, i, acc, hd, h1, h2 => by
    refine .cps fun Q hQ => ?_
    rw [EvL_eq]
    simp [sizes] at h1
    obtain ⟨g1, g2, g3⟩ := drop_cons' hd
    have hz := depth_spec t (by omega)
    have e2 := wrap_i64 (n := i + 1) (by omega) (by omega)
    have e4 : (if acc < t.depth then (t.depth : Int) else (acc : Int)) = ((max acc t.depth : Nat) : Int) := by
      split <;> omega
    simp [-getElem?_pos, m116_l0, g1, g2, hz, e2]
    rw [e4]
    exact (depth_loop rest all (i + 1) (max acc t.depth) g3 (by omega) h2).imp fun e σ h => hQ _ _ ⟨h.1, by rw [h.2]; simp only [depths, Nat.max_assoc]⟩
end

/-! ### a function asked at each -/
theorem idxf_loopTerm0 (g : Nat) (p : Tm → Bool)  : ∀ (rest all : List Tm) (i : Nat), all.drop i = rest → all.length < 1000000000 → (∀ x ∈ rest, call S g (.agg x.cs :: []) [] = some (.bool (p x), [])) →
    Ends (EvL S [0, 1, 7, 8] [0, 1] m173_l0 [.sl .plain 3 (css all), .fn g [], .int .i64 all.length, .int .i64 i] [.free, .free] 0) fun e σ =>
      (∀ i, i < 0 → σ.H i = objAt [] i) ∧ (if rest.any p then e = .rt ∧ ∃ j : Nat, σ.T 4 = .int .i64 j else e = .ex 0)
  | [], all, i, hd, h2, hc => by
    refine .cps fun Q hQ => ?_
    rw [EvL_eq]
    have := drop_nil' hd
    have h3 : ¬ i < all.length := by omega
    simp [m173_l0, h3, List.range, List.range.loop, h2]
    exact .mk (hQ _ _ ⟨fun i hi => absurd hi (by omega), by simp⟩)
  | t :: rest, all, i, hd, h2, hc => by
    refine .cps fun Q hQ => ?_
    rw [EvL_eq]
    obtain ⟨g1, g2, g3⟩ := drop_cons' hd
    have hz := hc t (by simp)
    have e2 := wrap_i64 (n := i + 1) (by omega) (by omega)
    cases hp : p t with
    | true =>
      rw [hp] at hz
      simp at hz
      simp [-getElem?_pos, m173_l0, g1, g2, hz, List.range, List.range.loop, h2]
      exact .mk (hQ _ _ ⟨fun i hi => absurd hi (by omega), by simp [hp]; exact ⟨i, rfl⟩⟩)
    | false =>
      rw [hp] at hz
      simp at hz
      simp [-getElem?_pos, m173_l0, g1, g2, hz, e2, List.range, List.range.loop, h2]
      exact (idxf_loopTerm0 g p  rest all (i + 1) g3 h2 fun x hx => hc x (by simp [hx])).imp fun e σ h => hQ _ _ (by simpa [hp] using h)
theorem conf_specTerm0 (g : Nat) (p : Tm → Bool)  (l : List Tm) (h2 : l.length < 1000000000) (hc : ∀ x ∈ l, call S g (.agg x.cs :: []) [] = some (.bool (p x), [])) :
    call S 150 [.sl .plain 3 (css l), .fn g []] [] = some (.bool (l.any p), []) := by
  have hi : ∃ j : Int, call S 173 [.sl .plain 3 (css l), .fn g []] [] = some (.int .i64 j, []) ∧ decide (0 ≤ j) = l.any p := by
    rw [hA.eq (m := m173) rfl]
    obtain ⟨e, σ, h, hH, h3⟩ := idxf_loopTerm0 hA g p  l l 0 rfl h2 hc
    simp at h
    skip
    cases hp : l.any p with
    | true =>
      rw [hp] at h3
      obtain ⟨rfl, j, h5⟩ := h3
      exact ⟨j, by simp [runL, m173, leave, h, h5, List.range, List.range.loop, h2, h2], by simp⟩
    | false =>
      rw [hp] at h3
      obtain rfl := h3
      exact ⟨-1, by simp [runL, m173, leave, h, List.range, List.range.loop, h2, h2], by simp⟩
  obtain ⟨j, h1, h3⟩ := hi
  rw [hA.eq (m := m150) rfl]
  simp [runL, m150, leave, h1, h3, List.range, List.range.loop, h2]
theorem idxf_loopTerm1 (g : Nat) (p : Tm → Bool) (c0 : List PV) (p0 : Pl c0) : ∀ (rest all : List Tm) (i : Nat), all.drop i = rest → all.length < 1000000000 → (∀ x ∈ rest, call S g (.agg x.cs :: [.ptr 0 0]) [.cells c0] = some (.bool (p x), [.cells c0])) →
    Ends (EvL S [0, 1, 7, 8] [0, 1] m173_l0 [.sl .plain 3 (css all), .fn g [.ptr 0 0], .int .i64 all.length, .int .i64 i] [.cells c0, .free] 1) fun e σ =>
      (∀ i, i < 1 → σ.H i = objAt [.cells c0] i) ∧ (if rest.any p then e = .rt ∧ ∃ j : Nat, σ.T 4 = .int .i64 j else e = .ex 0)
  | [], all, i, hd, h2, hc => by
    refine .cps fun Q hQ => ?_
    rw [EvL_eq]
    have := drop_nil' hd
    have h3 : ¬ i < all.length := by omega
    simp [m173_l0, h3, List.range, List.range.loop, p0.r, p0.n, p0.b]
    exact .mk (hQ _ _ ⟨fun i hi => by (obtain rfl : i = 0 := by omega); simp, by simp⟩)
  | t :: rest, all, i, hd, h2, hc => by
    refine .cps fun Q hQ => ?_
    rw [EvL_eq]
    obtain ⟨g1, g2, g3⟩ := drop_cons' hd
    have hz := hc t (by simp)
    have e2 := wrap_i64 (n := i + 1) (by omega) (by omega)
    cases hp : p t with
    | true =>
      rw [hp] at hz
      simp at hz
      simp [-getElem?_pos, m173_l0, g1, g2, hz, List.range, List.range.loop, p0.r, p0.n, p0.b]
      exact .mk (hQ _ _ ⟨fun i hi => by (obtain rfl : i = 0 := by omega); simp, by simp [hp]; exact ⟨i, rfl⟩⟩)
    | false =>
      rw [hp] at hz
      simp at hz
      simp [-getElem?_pos, m173_l0, g1, g2, hz, e2, List.range, List.range.loop, p0.r, p0.n, p0.b]
      exact (idxf_loopTerm1 g p c0 p0 rest all (i + 1) g3 h2 fun x hx => hc x (by simp [hx])).imp fun e σ h => hQ _ _ (by simpa [hp] using h)
theorem conf_specTerm1 (g : Nat) (p : Tm → Bool) (c0 : List PV) (p0 : Pl c0) (l : List Tm) (h2 : l.length < 1000000000) (hc : ∀ x ∈ l, call S g (.agg x.cs :: [.ptr 0 0]) [.cells c0] = some (.bool (p x), [.cells c0])) :
    call S 150 [.sl .plain 3 (css l), .fn g [.ptr 0 0]] [.cells c0] = some (.bool (l.any p), [.cells c0]) := by
  have hi : ∃ j : Int, call S 173 [.sl .plain 3 (css l), .fn g [.ptr 0 0]] [.cells c0] = some (.int .i64 j, [.cells c0]) ∧ decide (0 ≤ j) = l.any p := by
    rw [hA.eq (m := m173) rfl]
    obtain ⟨e, σ, h, hH, h3⟩ := idxf_loopTerm1 hA g p c0 p0 l l 0 rfl h2 hc
    simp at h
    have q0 := hH 0 (by omega)
    simp at q0
    cases hp : l.any p with
    | true =>
      rw [hp] at h3
      obtain ⟨rfl, j, h5⟩ := h3
      exact ⟨j, by simp [runL, m173, leave, h, h5, List.range, List.range.loop, p0.r, p0.n, p0.b, q0], by simp⟩
    | false =>
      rw [hp] at h3
      obtain rfl := h3
      exact ⟨-1, by simp [runL, m173, leave, h, List.range, List.range.loop, p0.r, p0.n, p0.b, q0], by simp⟩
  obtain ⟨j, h1, h3⟩ := hi
  rw [hA.eq (m := m150) rfl]
  simp [runL, m150, leave, h1, h3, List.range, List.range.loop, p0.r, p0.n, p0.b]
theorem idxf_loopArg2 (g : Nat) (p : Ag → Bool) (c0 c1 : List PV) (p0 : Pl c0) (p1 : Pl c1) : ∀ (rest all : List Ag) (i : Nat), all.drop i = rest → all.length < 1000000000 → (∀ x ∈ rest, call S g (.agg x.cs :: [.ptr 0 0, .ptr 1 0]) [.cells c0, .cells c1] = some (.bool (p x), [.cells c0, .cells c1])) →
    Ends (EvL S [0, 1, 7, 8] [0, 1] m162_l0 [.sl .plain 7 (acs all), .fn g [.ptr 0 0, .ptr 1 0], .int .i64 all.length, .int .i64 i] [.cells c0, .cells c1] 2) fun e σ =>
      (∀ i, i < 2 → σ.H i = objAt [.cells c0, .cells c1] i) ∧ (if rest.any p then e = .rt ∧ ∃ j : Nat, σ.T 4 = .int .i64 j else e = .ex 0)
  | [], all, i, hd, h2, hc => by
    refine .cps fun Q hQ => ?_
    rw [EvL_eq]
    have := drop_nil' hd
    have h3 : ¬ i < all.length := by omega
    simp [m162_l0, h3, List.range, List.range.loop, p0.r, p0.n, p0.b, p1.r, p1.n, p1.b]
    exact .mk (hQ _ _ ⟨fun i hi => by rcases (show i = 0 ∨ i = 1 by omega) with rfl | rfl <;> simp, by simp⟩)
  | t :: rest, all, i, hd, h2, hc => by
    refine .cps fun Q hQ => ?_
    rw [EvL_eq]
    obtain ⟨g1, g2, g3⟩ := drop_cons' hd
    have hz := hc t (by simp)
    have e2 := wrap_i64 (n := i + 1) (by omega) (by omega)
    cases hp : p t with
    | true =>
      rw [hp] at hz
      simp at hz
      simp [-getElem?_pos, m162_l0, g1, g2, hz, List.range, List.range.loop, p0.r, p0.n, p0.b, p1.r, p1.n, p1.b]
      exact .mk (hQ _ _ ⟨fun i hi => by rcases (show i = 0 ∨ i = 1 by omega) with rfl | rfl <;> simp, by simp [hp]; exact ⟨i, rfl⟩⟩)
    | false =>
      rw [hp] at hz
      simp at hz
      simp [-getElem?_pos, m162_l0, g1, g2, hz, e2, List.range, List.range.loop, p0.r, p0.n, p0.b, p1.r, p1.n, p1.b]
      exact (idxf_loopArg2 g p c0 c1 p0 p1 rest all (i + 1) g3 h2 fun x hx => hc x (by simp [hx])).imp fun e σ h => hQ _ _ (by simpa [hp] using h)
theorem conf_specArg2 (g : Nat) (p : Ag → Bool) (c0 c1 : List PV) (p0 : Pl c0) (p1 : Pl c1) (l : List Ag) (h2 : l.length < 1000000000) (hc : ∀ x ∈ l, call S g (.agg x.cs :: [.ptr 0 0, .ptr 1 0]) [.cells c0, .cells c1] = some (.bool (p x), [.cells c0, .cells c1])) :
    call S 129 [.sl .plain 7 (acs l), .fn g [.ptr 0 0, .ptr 1 0]] [.cells c0, .cells c1] = some (.bool (l.any p), [.cells c0, .cells c1]) := by
  have hi : ∃ j : Int, call S 162 [.sl .plain 7 (acs l), .fn g [.ptr 0 0, .ptr 1 0]] [.cells c0, .cells c1] = some (.int .i64 j, [.cells c0, .cells c1]) ∧ decide (0 ≤ j) = l.any p := by
    rw [hA.eq (m := m162) rfl]
    obtain ⟨e, σ, h, hH, h3⟩ := idxf_loopArg2 hA g p c0 c1 p0 p1 l l 0 rfl h2 hc
    simp at h
    have q0 := hH 0 (by omega)
    have q1 := hH 1 (by omega)
    simp at q0 q1
    cases hp : l.any p with
    | true =>
      rw [hp] at h3
      obtain ⟨rfl, j, h5⟩ := h3
      exact ⟨j, by simp [runL, m162, leave, h, h5, List.range, List.range.loop, p0.r, p0.n, p0.b, p1.r, p1.n, p1.b, q0, q1], by simp⟩
    | false =>
      rw [hp] at h3
      obtain rfl := h3
      exact ⟨-1, by simp [runL, m162, leave, h, List.range, List.range.loop, p0.r, p0.n, p0.b, p1.r, p1.n, p1.b, q0, q1], by simp⟩
  obtain ⟨j, h1, h3⟩ := hi
  rw [hA.eq (m := m129) rfl]
  simp [runL, m129, leave, h1, h3, List.range, List.range.loop, p0.r, p0.n, p0.b, p1.r, p1.n, p1.b]
theorem idxf_loopCon1 (g : Nat) (p : Cn → Bool) (c0 : List PV) (p0 : Pl c0) : ∀ (rest all : List Cn) (i : Nat), all.drop i = rest → all.length < 1000000000 → (∀ x ∈ rest, call S g (.agg x.cs :: [.ptr 0 0]) [.cells c0] = some (.bool (p x), [.cells c0])) →
    Ends (EvL S [0, 1, 7, 8] [0, 1] m131_l0 [.sl .plain 6 (ccs all), .fn g [.ptr 0 0], .int .i64 all.length, .int .i64 i] [.cells c0, .free] 1) fun e σ =>
      (∀ i, i < 1 → σ.H i = objAt [.cells c0] i) ∧ (if rest.any p then e = .rt ∧ ∃ j : Nat, σ.T 4 = .int .i64 j else e = .ex 0)
  | [], all, i, hd, h2, hc => by
    refine .cps fun Q hQ => ?_
    rw [EvL_eq]
    have := drop_nil' hd
    have h3 : ¬ i < all.length := by omega
    simp [m131_l0, h3, List.range, List.range.loop, p0.r, p0.n, p0.b]
    exact .mk (hQ _ _ ⟨fun i hi => by (obtain rfl : i = 0 := by omega); simp, by simp⟩)
  | t :: rest, all, i, hd, h2, hc => by
    refine .cps fun Q hQ => ?_
    rw [EvL_eq]
    obtain ⟨g1, g2, g3⟩ := drop_cons' hd
    have hz := hc t (by simp)
    have e2 := wrap_i64 (n := i + 1) (by omega) (by omega)
    cases hp : p t with
    | true =>
      rw [hp] at hz
      simp at hz
      simp [-getElem?_pos, m131_l0, g1, g2, hz, List.range, List.range.loop, p0.r, p0.n, p0.b]
      exact .mk (hQ _ _ ⟨fun i hi => by (obtain rfl : i = 0 := by omega); simp, by simp [hp]; exact ⟨i, rfl⟩⟩)
    | false =>
      rw [hp] at hz
      simp at hz
      simp [-getElem?_pos, m131_l0, g1, g2, hz, e2, List.range, List.range.loop, p0.r, p0.n, p0.b]
      exact (idxf_loopCon1 g p c0 p0 rest all (i + 1) g3 h2 fun x hx => hc x (by simp [hx])).imp fun e σ h => hQ _ _ (by simpa [hp] using h)
theorem conf_specCon1 (g : Nat) (p : Cn → Bool) (c0 : List PV) (p0 : Pl c0) (l : List Cn) (h2 : l.length < 1000000000) (hc : ∀ x ∈ l, call S g (.agg x.cs :: [.ptr 0 0]) [.cells c0] = some (.bool (p x), [.cells c0])) :
    call S 92 [.sl .plain 6 (ccs l), .fn g [.ptr 0 0]] [.cells c0] = some (.bool (l.any p), [.cells c0]) := by
  have hi : ∃ j : Int, call S 131 [.sl .plain 6 (ccs l), .fn g [.ptr 0 0]] [.cells c0] = some (.int .i64 j, [.cells c0]) ∧ decide (0 ≤ j) = l.any p := by
    rw [hA.eq (m := m131) rfl]
    obtain ⟨e, σ, h, hH, h3⟩ := idxf_loopCon1 hA g p c0 p0 l l 0 rfl h2 hc
    simp at h
    have q0 := hH 0 (by omega)
    simp at q0
    cases hp : l.any p with
    | true =>
      rw [hp] at h3
      obtain ⟨rfl, j, h5⟩ := h3
      exact ⟨j, by simp [runL, m131, leave, h, h5, List.range, List.range.loop, p0.r, p0.n, p0.b, q0], by simp⟩
    | false =>
      rw [hp] at h3
      obtain rfl := h3
      exact ⟨-1, by simp [runL, m131, leave, h, List.range, List.range.loop, p0.r, p0.n, p0.b, q0], by simp⟩
  obtain ⟨j, h1, h3⟩ := hi
  rw [hA.eq (m := m92) rfl]
  simp [runL, m92, leave, h1, h3, List.range, List.range.loop, p0.r, p0.n, p0.b]
end Go.Px.B
/- Terms that are right, in scope; blocks' forms; right declarations. -/
set_option maxRecDepth 100000
set_option linter.unusedVariables false
set_option linter.unusedSimpArgs false
set_option linter.unusedSectionVars false
namespace Go.Px.B
open Go Go.Px
variable {S : Sys} (hA : Has S tabA)
include hA

mutual
theorem formed_spec : ∀ (t : Tm), t.size < 1000000000 → call S 117 [tv t] [] = some (.bool (formed t), [])
  | .mk k n l, hz => by
    rw [hA.eq (m := m117) rfl]
    simp only [Tm.size] at hz
    have hl := sizes_ge l
    have hf := conf_specTerm0 hA 151 (fun t => !formed t) l (by omega) (formeds_spec l (by omega))
    have ha : l.any (fun t => !formed t) = !formeds l := by
      clear hf hl hz
      induction l with
      | nil => rfl
      | cons t r ih => simp [formeds, ih]
    rw [ha] at hf
    have hk := kids_spec hA k
    by_cases hh0 : kidsOf k < 0
    case pos => simp [runL, m117, leave, hk, formed, hf, *]
    by_cases hh2 : (l.length : Int) = kidsOf k
    case neg => simp [runL, m117, leave, hk, formed, hf, *]
    by_cases hh4 : n < 0
    case pos => simp [runL, m117, leave, hk, formed, hf, *]
    by_cases hh6 : 65535 < n
    case pos => simp [runL, m117, leave, hk, formed, hf, *]
    by_cases hh8 : 0 < kidsOf k ∧ ¬ n = 0
    case pos => simp [runL, m117, leave, hk, formed, hf, *]
    simp [runL, m117, leave, hk, formed, hf, *]
    by_cases c : 0 < kidsOf k
    · have c2 : n = 0 := by omega
      subst c2
      simp [runL, m117, leave, hk, formed, hf, *]
    · simp [runL, m117, leave, hk, formed, hf, *]
theorem formeds_spec : ∀ (l : List Tm), sizes l < 1000000000 → ∀ x ∈ l, call S 151 [.agg x.cs] [] = some (.bool (!formed x), [])
  | [], _ => by simp
  | t :: r, h => by
    simp only [sizes] at h
    intro x hx
    rcases List.mem_cons.1 hx with e | hx
    · rw [e, hA.eq (m := m151) rfl]
      have := formed_spec t (by omega)
      simp [runL, m151, leave, this]
    · exact formeds_spec r (by omega) x hx
end
theorem check_spec (t : Tm) (hz : t.size < 1000000000) : call S 71 [tv t] [] = some (.int .i64 (tmCheck t), []) := by
  have h1 := size_spec hA t hz
  have h2 := depth_spec hA t hz
  have h3 := formed_spec hA t hz
  rw [hA.eq (m := m71) rfl]
  unfold tmCheck
  have c1 : (6000 : Int) < (t.size : Int) ↔ 6000 < t.size := by omega
  have c2 : (200 : Int) < (t.depth : Int) ↔ 200 < t.depth := by omega
  by_cases hh0 : 6000 < t.size
  case pos => simp [runL, m71, leave, *]
  by_cases hh2 : 200 < t.depth
  case pos => simp [runL, m71, leave, *]
  cases hh4 : formed t
  case true => simp [runL, m71, leave, *]
  simp [runL, m71, leave, *]

omit hA in
theorem binds_range (k i : Int) : 0 ≤ binds k i ∧ binds k i ≤ 1 := by unfold binds; split <;> omega
mutual
theorem within_spec : ∀ (t : Tm) (vars consts : Int), t.size < 1000000000 → 0 ≤ vars → vars + t.size < 2000000000 → call S 187 [tv t, .int .i64 vars, .int .i64 consts] [] = some (.bool (within t vars consts), [])
  | .mk k n l, vars, consts, hz, h0, h1 => by
    rw [hA.eq (m := m187) rfl]
    simp only [Tm.size] at hz h1
    have hl := sizes_ge l
    simp only [within]
    by_cases c1 : k = 1
    · simp [runL, m187, leave, c1]
    by_cases c2 : k = 2
    · simp [runL, m187, leave, c2]
    by_cases c3 : k = 3
    · simp [runL, m187, leave, c3]
    obtain ⟨e, σ, h, h3⟩ := within_loop n l l l 0 k vars consts rfl (by omega) (by omega) h0 (by omega)
    simp at h
    cases hw : withins l 0 k vars consts with
    | true =>
      simp [hw] at h3
      obtain rfl := h3
      simp [runL, m187, leave, h, c1, c2, c3, hw]
    | false =>
      simp [hw] at h3
      obtain ⟨rfl, h3⟩ := h3
      simp [runL, m187, leave, h, c1, c2, c3, hw, h3]
theorem within_loop (n : Int) (l : List Tm) : ∀ (rest all : List Tm) (i : Nat) (k vars consts : Int), all.drop i = rest → all.length < 1000000000 → sizes rest < 1000000000 → 0 ≤ vars → vars + sizes rest + 1 < 2000000000 →
    Ends (EvL S [1, 2, 3, 29, 30, 31] [20] m187_l0 [.int .i64 vars, .int .i64 consts, .ptr 20 0, ts all, .int .i64 all.length, .int .i64 i] [.cells [.int .i64 k, .int .i64 n, ts l]] 0) fun e σ =>
      if withins rest i k vars consts then e = .ex 1 else e = .rt ∧ σ.T 6 = .bool false
  | [], all, i, k, vars, consts, hd, h1, h2, h3, h4 => by
    refine .cps fun Q hQ => ?_
    rw [EvL_eq]
    have := drop_nil' hd
    have h3 : ¬ i < all.length := by omega
    simp [m187_l0, h3]
    exact .mk (hQ _ _ (by simp [withins]))
  | t :: rest, all, i, k, vars, consts, hd, h1, h2, h3, h4 => by
    refine .cps fun Q hQ => ?_
    rw [EvL_eq]
    simp [sizes] at h2 h4
    obtain ⟨g1, g2, g3⟩ := drop_cons' hd
    have hb := binds_range k i
    have hz := within_spec t (vars + binds k i) consts (by omega) (by omega) (by omega)
    have hk := binds_spec hA k i
    have e1 := wrap_i64 (n := vars + binds k i) (by omega) (by omega)
    have e2 := wrap_i64 (n := i + 1) (by omega) (by omega)
    cases hw : within t (vars + binds k i) consts with
    | true =>
      rw [hw] at hz
      simp [-getElem?_pos, m187_l0, g1, g2, hz, hk, e1, e2]
      exact (within_loop n l rest all (i + 1) k vars consts g3 h1 (by omega) h3 (by omega)).imp fun e σ h => hQ _ _ (by simpa [withins, hw] using h)
    | false =>
      rw [hw] at hz
      simp [-getElem?_pos, m187_l0, g1, g2, hz, hk, e1, e2]
      exact .mk (hQ _ _ (by simp [withins, hw]))
end
theorem scope_spec (t : Tm) (vars consts : Int) (hz : t.size < 1000000000) : call S 176 [tv t, .int .i64 vars, .int .i64 consts] [] = some (.bool (tmScope t vars consts), []) := by
  have h1 := check_spec hA t hz
  rw [hA.eq (m := m176) rfl]
  unfold tmScope
  by_cases c1 : 0 ≤ vars
  case neg => simp [runL, m176, leave, c1]
  have e : (if vars > 65536 then (65536 : Int) else vars) = min vars 65536 := by split <;> omega
  have h2 := within_spec hA t (min vars 65536) consts hz (by omega) (by omega)
  have e : (if 65536 < vars then (65536 : Int) else vars) = min vars 65536 := by split <;> omega
  by_cases hh0 : 0 ≤ consts
  case neg => simp [runL, m176, leave, e, *]
  by_cases hh2 : tmCheck t = 0
  case neg => simp [runL, m176, leave, e, *]
  simp [runL, m176, leave, e, *]
theorem in_spec (t : Tm) (vars : Int) (hz : t.size < 1000000000) : call S 161 [tv t, .int .i64 vars] [] = some (.bool (inS t vars), []) := by
  have h1 := scope_spec hA t vars 65536 hz
  rw [hA.eq (m := m161) rfl]
  simp [runL, m161, leave, h1, inS]
theorem all_spec (l : List Tm) (vars : Int) (hz : sizes l < 1000000000) : call S 132 [ts l, .int .i64 vars] [] = some (.bool (l.all fun t => inS t vars), []) := by
  have hl := sizes_ge l
  have hp : Pl [.int .i64 vars] := ⟨rfl, fun _ => rfl, fun _ _ => rfl⟩
  have hc := conf_specTerm1 hA 163 (fun t => !inS t vars) [.int .i64 vars] hp l (by omega) fun x hx => by
    rw [hA.eq (m := m163) rfl]
    have := sizes_mem hx
    have h1 := in_spec hA x vars (by omega)
    simp [runL, m163, leave, h1, List.range, List.range.loop]
  rw [hA.eq (m := m132) rfl]
  simp [runL, m132, leave, hc, List.not_any_eq_all_not]
theorem level_spec (n : Int) : call S 90 [.int .i64 n] [] = some (.bool (levelOk n), []) := by
  rw [hA.eq (m := m90) rfl]
  unfold levelOk
  by_cases hh0 : 0 ≤ n
  case neg => simp [runL, m90, leave, *]
  simp [runL, m90, leave, *]
theorem maybe_spec (is : Bool) (t : Tm) (vars : Int) (hz : t.size < 1000000000) : call S 128 [.bool is, tv t, .int .i64 vars] [] = some (.bool (maybeOk is t vars), []) := by
  rw [hA.eq (m := m128) rfl]
  have h1 := none_spec hA t
  have h2 := in_spec hA t vars hz
  unfold maybeOk
  cases is <;> simp [runL, m128, leave, *]

/-! ### blocks -/
theorem dom_loop (al : List PV) (a : Ag) (hal : al = [.bool a.rc, .int .i64 a.type.k, .int .i64 a.type.n, .sl .plain 3 (css a.type.kids), .sl .plain 3 (css a.dom), .int .i64 a.sort, .sl .plain 3 (css a.idx)]) : ∀ (rest all : List Tm) (i : Nat) (v : Int), all.drop i = rest → all.length < 1000000000 → sizes rest < 1000000000 → 0 ≤ v → v < 1000000000 →
    Ends (EvL S [2, 4, 69, 70, 71] [21] m160_l0 [.int .i64 v, .ptr 21 0, ts all, .int .i64 all.length, .int .i64 i] [.cells al] 0) fun e σ =>
      if inRow rest (v + i) then e = .ex 0 ∧ σ.T 2 = .int .i64 v ∧ σ.T 4 = .ptr 21 0 ∧ σ.H 21 = .cells al else e = .rt ∧ σ.T 6 = .bool false
  | [], all, i, v, hd, h1, h2, h3, h4 => by
    subst hal
    refine .cps fun Q hQ => ?_
    rw [EvL_eq]
    have := drop_nil' hd
    have h3 : ¬ i < all.length := by omega
    simp [m160_l0, h3]
    exact .mk (hQ _ _ (by simp [inRow]))
  | t :: rest, all, i, v, hd, h1, h2, h3, h4 => by
    refine .cps fun Q hQ => ?_
    rw [EvL_eq]
    simp [sizes] at h2
    obtain ⟨g1, g2, g3⟩ := drop_cons' hd
    have hz := in_spec hA t (v + i) (by omega)
    have e1 := wrap_i64 (n := v + i) (by omega) (by omega)
    have e2 := wrap_i64 (n := i + 1) (by omega) (by omega)
    cases hw : inS t (v + i) with
    | true =>
      rw [hw] at hz
      have ih := dom_loop al a hal rest all (i + 1) v g3 h1 (by omega) h3 h4
      subst hal
      simp [-getElem?_pos, m160_l0, g1, g2, hz, e1, e2]
      exact ih.imp fun e σ h => hQ _ _ (by simpa [inRow, hw, Int.add_assoc] using h)
    | false =>
      rw [hw] at hz
      subst hal
      simp [-getElem?_pos, m160_l0, g1, g2, hz, e1, e2]
      exact .mk (hQ _ _ (by simp [inRow, hw]))
omit hA in
theorem idxLen_get {b : Blk} {k : Int} (h : sortIn b k = true) : ∃ s, b.sorts[k.toNat]? = some s ∧ idxLen b k = s.idx.length ∧ sortDec b k = s.dec ∧ 0 ≤ k ∧ k < b.sorts.length := by
  simp only [sortIn, Bool.and_eq_true, decide_eq_true_eq] at h
  have hk : k.toNat < b.sorts.length := by omega
  refine ⟨b.sorts[k.toNat], by simp [hk], by simp [idxLen, hk], by simp [sortDec, hk], h.1, h.2⟩
theorem arg_spec (b : Blk) (a : Ag) (i : Int) (hz : a.size < 1000000000) (h0 : 0 ≤ i) (h1 : i < 1000000) : call S 160 [bv b, av a, .int .i64 i] [] = some (.bool (argOk b a i), []) := by
  have hs : a.size = 2 + a.type.size + sizes a.dom + sizes a.idx := rfl
  have hl1 := sizes_ge a.dom
  have hl2 := sizes_ge a.idx
  have c1 := in_spec hA a.type i (by omega)
  have c2 := none_spec hA a.type
  rw [hA.eq (m := m160) rfl]
  unfold argOk
  cases hr : a.rc with
  | false =>
    have e1 := wrap_i64 (n := a.dom.length + a.idx.length) (by omega) (by omega)
    have e2 : ((a.dom.length : Int) + a.idx.length = 0) ↔ a.dom = [] ∧ a.idx = [] := by
      rw [← List.length_eq_zero_iff, ← List.length_eq_zero_iff]; omega
    cases hh0 : inS a.type i
    case false => simp [runL, m160, leave, *]
    by_cases hh2 : a.dom = [] ∧ a.idx = []
    case neg => simp [runL, m160, leave, *]
    simp [runL, m160, leave, *]
  | true =>
    by_cases n1 : isNone a.type = true
    case neg => simp at n1; simp [runL, m160, leave, *]
    by_cases n2 : a.dom.length ≤ 12
    case neg =>
      have : (12 : Int) < a.dom.length := by omega
      simp [runL, m160, leave, *]
    have n2' : ¬ (12 : Int) < a.dom.length := by omega
    by_cases n3 : 0 ≤ a.sort
    case neg =>
      have : a.sort < 0 := by omega
      simp [runL, m160, leave, sortIn, *]
    have n3' : ¬ a.sort < 0 := by omega
    by_cases n4 : a.sort < b.sorts.length
    case neg =>
      have : (b.sorts.length : Int) ≤ a.sort := by omega
      simp [runL, m160, leave, sortIn, *]
    have n4' : ¬ (b.sorts.length : Int) ≤ a.sort := by omega
    obtain ⟨s, q1, q2, q3, _, _⟩ := idxLen_get (b := b) (k := a.sort) (by simp [sortIn, n3, n4])
    by_cases n5 : a.idx.length = s.idx.length
    case neg =>
      have : ¬ ((a.idx.length : Int) = s.idx.length) := by omega
      simp [-getElem?_pos, runL, m160, leave, sortIn, *]
    have n5' : (a.idx.length : Int) = s.idx.length := by omega
    have c3 := all_spec hA a.idx (i + a.dom.length) (by omega)
    have e1 := wrap_i64 (n := i + a.dom.length) (by omega) (by omega)
    obtain ⟨e, σ, h, h3⟩ := dom_loop hA _ a rfl a.dom a.dom 0 i rfl (by omega) (by omega) h0 (by omega)
    simp [hr] at h h3
    cases hw : inRow a.dom i with
    | true =>
      simp [hw] at h3
      obtain ⟨rfl, t2, t4, t21⟩ := h3
      simp [-getElem?_pos, runL, m160, leave, sortIn, *]
    | false =>
      simp [hw] at h3
      obtain ⟨rfl, h3⟩ := h3
      simp [-getElem?_pos, runL, m160, leave, sortIn, *]
end Go.Px.B
/- Blocks that are right; right declarations. -/
set_option maxRecDepth 100000
set_option linter.unusedVariables false
set_option linter.unusedSimpArgs false
set_option linter.unusedSectionVars false
namespace Go.Px.B
open Go Go.Px
theorem any_not {α : Type} (p : α → Bool) : ∀ l : List α, (l.any fun x => !p x) = !l.all p
  | [] => rfl
  | a :: r => by simp [List.any_cons, List.all_cons, any_not p r]
variable {S : Sys} (hA : Has S tabA)
include hA

theorem row_loop (b : Blk) : ∀ (rest all : List Ag) (i : Nat), all.drop i = rest → all.length < 1000000 → agSizes rest < 1000000000 →
    Ends (EvL S [2, 10, 11, 12] [20] m127_l0 [.ptr 20 0, avs all, .int .i64 all.length, .int .i64 i] [.cells [.sl .plain 6 (scs b.sorts), .sl .plain 6 (ccs b.cons), .int .i64 b.elim]] 0) fun e σ =>
      if argsOk b rest i then e = .ex 0 else e = .rt ∧ σ.T 4 = .bool false
  | [], all, i, hd, h1, h2 => by
    refine .cps fun Q hQ => ?_
    rw [EvL_eq]
    have := drop_nil' hd
    have h3 : ¬ i < all.length := by omega
    simp [m127_l0, h3]
    exact .mk (hQ _ _ (by simp [argsOk]))
  | t :: rest, all, i, hd, h1, h2 => by
    refine .cps fun Q hQ => ?_
    rw [EvL_eq]
    simp [agSizes] at h2
    obtain ⟨g1, g2, g3⟩ := drop_cons' hd
    have hz := arg_spec hA b t i (by omega) (by omega) (by omega)
    have e2 := wrap_i64 (n := i + 1) (by omega) (by omega)
    cases hw : argOk b t i with
    | true =>
      rw [hw] at hz
      simp [-getElem?_pos, m127_l0, g1, g2, hz, e2]
      exact (row_loop b rest all (i + 1) g3 h1 (by omega)).imp fun e σ h => hQ _ _ (by simpa [argsOk, hw] using h)
    | false =>
      rw [hw] at hz
      simp [-getElem?_pos, m127_l0, g1, g2, hz, e2]
      exact .mk (hQ _ _ (by simp [argsOk, hw]))
theorem row_spec (b : Blk) (l : List Ag) (hz : agSizes l < 1000000000) : call S 127 [bv b, avs l] [] = some (.bool (rowOk b l), []) := by
  rw [hA.eq (m := m127) rfl]
  unfold rowOk
  by_cases c : l.length ≤ 12
  case neg =>
    have : (12 : Int) < l.length := by omega
    simp [runL, m127, leave, *]
  have c' : ¬ (12 : Int) < l.length := by omega
  obtain ⟨e, σ, h, h3⟩ := row_loop hA b l l 0 rfl (by omega) hz
  simp at h
  cases hw : argsOk b l 0 <;> simp [hw] at h3
  · obtain ⟨rfl, h3⟩ := h3
    simp [runL, m127, leave, *]
  · obtain rfl := h3
    simp [runL, m127, leave, *]
omit hA in
theorem pl_int (n : Int) : Pl [.int .i64 n] := ⟨rfl, fun _ => rfl, fun _ _ => rfl⟩
omit hA in
theorem pl_srt (s : Srt) : Pl [.sl .plain 7 (acs s.idx), .int .i64 s.level, .bool s.dec, .int .i64 s.decType.k, .int .i64 s.decType.n, .sl .plain 3 (css s.decType.kids)] := ⟨rfl, fun _ => rfl, fun _ _ => rfl⟩
omit hA in
theorem pl_blk (b : Blk) : Pl [.sl .plain 6 (scs b.sorts), .sl .plain 6 (ccs b.cons), .int .i64 b.elim] := ⟨rfl, fun _ => rfl, fun _ _ => rfl⟩
theorem sort_spec (b : Blk) (k : Nat) (s : Srt) (hs : b.sorts[k]? = some s) (hz : s.size < 1000000000) (hk : k < 1000000) : call S 91 [bv b, .int .i64 k] [] = some (.bool (srtOk b k s), []) := by
  have hsz : s.size = 3 + agSizes s.idx + s.decType.size := rfl
  have hl := agSizes_ge s.idx
  have c1 := row_spec hA b s.idx (by omega)
  have c2 := level_spec hA s.level
  have c3 := maybe_spec hA s.dec s.decType s.idx.length (by omega)
  have c4 := conf_specArg2 hA 130 (fun a => a.rc && (!a.dom.isEmpty || decide ((k : Int) ≤ a.sort) || s.dec)) _ _ (pl_int k) (pl_srt s) s.idx (by omega) fun a ha => by
    rw [hA.eq (m := m130) rfl]
    cases h1 : a.rc
    case false => simp [runL, m130, leave, List.range, List.range.loop, *]
    by_cases h3 : a.dom = []
    case neg =>
      have h2 := List.length_pos_iff.2 h3
      simp [runL, m130, leave, List.range, List.range.loop, *]
    by_cases h4 : (k : Int) ≤ a.sort <;> simp [runL, m130, leave, List.range, List.range.loop, *]
  rw [hA.eq (m := m91) rfl]
  unfold srtOk
  cases hh0 : rowOk b s.idx
  case false => simp [-getElem?_pos, runL, m91, leave, *]
  cases hh2 : levelOk s.level
  case false => simp [-getElem?_pos, runL, m91, leave, *]
  cases hh4 : maybeOk s.dec s.decType s.idx.length
  case false => simp [-getElem?_pos, runL, m91, leave, *]
  simp [-getElem?_pos, runL, m91, leave, *]
theorem con_spec (b : Blk) (c : Cn) (hz : c.size < 1000000000) : call S 94 [bv b, cv c] [] = some (.bool (cnOk b c), []) := by
  have hsz : c.size = 3 + agSizes c.args + sizes c.idx + c.dec.size := rfl
  have hl := agSizes_ge c.args
  have c1 := row_spec hA b c.args (by omega)
  have c2 := all_spec hA c.idx c.args.length (by omega)
  rw [hA.eq (m := m94) rfl]
  unfold cnOk
  by_cases n3 : 0 ≤ c.sort
  case neg =>
    have : c.sort < 0 := by omega
    simp [runL, m94, leave, sortIn, *]
  have n3' : ¬ c.sort < 0 := by omega
  by_cases n4 : c.sort < b.sorts.length
  case neg =>
    have : (b.sorts.length : Int) ≤ c.sort := by omega
    simp [runL, m94, leave, sortIn, *]
  have n4' : ¬ (b.sorts.length : Int) ≤ c.sort := by omega
  obtain ⟨s, q1, q2, q3, _, _⟩ := idxLen_get (b := b) (k := c.sort) (by simp [sortIn, n3, n4])
  have c3 := maybe_spec hA s.dec c.dec c.args.length (by omega)
  have n5 : ((c.idx.length : Int) = s.idx.length) ↔ c.idx.length = s.idx.length := by omega
  cases hh0 : rowOk b c.args
  case false => simp [-getElem?_pos, runL, m94, leave, sortIn, *]
  by_cases hh2 : c.idx.length = s.idx.length
  case neg => simp [-getElem?_pos, runL, m94, leave, sortIn, *]
  cases hh4 : c.idx.all (fun t => inS t c.args.length)
  case false => simp [-getElem?_pos, runL, m94, leave, sortIn, *]
  simp [-getElem?_pos, runL, m94, leave, sortIn, *]
theorem sorts_loop (b : Blk) : ∀ (rest : List Srt) (i : Nat), b.sorts.drop i = rest → b.sorts.length < 1000000 → srtSizes rest < 1000000000 →
    Ends (EvL S [1, 28, 29] [20] m47_l0 [.ptr 20 0, .int .i64 b.sorts.length, .int .i64 i] [.cells [.sl .plain 6 (scs b.sorts), .sl .plain 6 (ccs b.cons), .int .i64 b.elim]] 0) fun e σ =>
      if srtsOk b rest i then e = .ex 0 ∧ σ.T 1 = .ptr 20 0 ∧ σ.H = ofH [(20, .cells [.sl .plain 6 (scs b.sorts), .sl .plain 6 (ccs b.cons), .int .i64 b.elim])] ∧ σ.m = 0 else e = .rt ∧ σ.T 2 = .int .i64 12
  | [], i, hd, h1, h2 => by
    refine .cps fun Q hQ => ?_
    rw [EvL_eq]
    have := drop_nil' hd
    have h3 : ¬ i < b.sorts.length := by omega
    simp [m47_l0, h3]
    exact .mk (hQ _ _ (by simp [srtsOk]))
  | t :: rest, i, hd, h1, h2 => by
    refine .cps fun Q hQ => ?_
    rw [EvL_eq]
    simp [srtSizes] at h2
    obtain ⟨g1, g2, g3⟩ := drop_cons' hd
    have hz := sort_spec hA b i t g2 (by omega) (by omega)
    have e2 := wrap_i64 (n := i + 1) (by omega) (by omega)
    cases hw : srtOk b i t with
    | true =>
      rw [hw] at hz
      simp [-getElem?_pos, m47_l0, g1, g2, hz, e2]
      exact (sorts_loop b rest (i + 1) g3 h1 (by omega)).imp fun e σ h => hQ _ _ (by simpa [srtsOk, hw] using h)
    | false =>
      rw [hw] at hz
      simp [-getElem?_pos, m47_l0, g1, g2, hz, e2]
      exact .mk (hQ _ _ (by simp [srtsOk, hw]))
theorem shape_spec (b : Blk) (hz : b.size < 1000000000) : call S 47 [bv b] [] = some (.int .i64 (if blkOk b then 0 else 12), []) := by
  have hsz : b.size = 1 + srtSizes b.sorts + cnSizes b.cons := rfl
  have hl := srtSizes_ge b.sorts
  have hl2 := cnSizes_ge b.cons
  have c1 := level_spec hA b.elim
  have c2 := conf_specCon1 hA 93 (fun c => !cnOk b c) _ (pl_blk b) b.cons (by omega) fun c hc => by
    rw [hA.eq (m := m93) rfl]
    have := cnSizes_mem hc
    have h1 := con_spec hA b c (by omega)
    simp [runL, m93, leave, h1, List.range, List.range.loop]
  rw [any_not] at c2
  rw [hA.eq (m := m47) rfl]
  unfold blkOk
  have n1 : ((b.sorts.length : Int) < 1) ↔ ¬ 1 ≤ b.sorts.length := by omega
  have n2 : ((4 : Int) < b.sorts.length) ↔ ¬ b.sorts.length ≤ 4 := by omega
  have n3 : ((8 : Int) < b.cons.length) ↔ ¬ b.cons.length ≤ 8 := by omega
  by_cases hh0 : 1 ≤ b.sorts.length
  case neg => simp [runL, m47, leave, *]
  by_cases hh2 : b.sorts.length ≤ 4
  case neg => simp [runL, m47, leave, *]
  by_cases hh4 : b.cons.length ≤ 8
  case neg => simp [runL, m47, leave, *]
  cases hh6 : levelOk b.elim
  case false => simp [runL, m47, leave, *]
  obtain ⟨e, σ, h, h3⟩ := sorts_loop hA b b.sorts 0 rfl (by omega) (by omega)
  simp at h
  cases hw : srtsOk b b.sorts 0 <;> simp [hw] at h3
  · obtain ⟨rfl, h3⟩ := h3
    simp [runL, m47, leave, *]
  · obtain ⟨T, H, m⟩ := σ
    obtain ⟨rfl, t1, rfl, rfl⟩ := h3
    simp only at t1
    cases hk : b.cons.all (cnOk b) <;> rw [hk] at c2 <;> simp [runL, m47, leave, *]
end Go.Px.B
/- Terms as bytes; the writer of piles. -/
set_option maxRecDepth 100000
set_option linter.unusedVariables false
set_option linter.unusedSimpArgs false
set_option linter.unusedSectionVars false
namespace Go.Px.B
open Go Go.Px
variable {S : Sys} (hA : Has S tabA)
include hA

omit hA in
theorem fdiv256 (n : Int) : n.fdiv 256 = n / 256 := Int.fdiv_eq_ediv_of_nonneg _ (by decide)
mutual
theorem add_spec : ∀ (t : Tm) (bs : List Int), bs.length + 3 * t.size < 1000000000 → call S 72 [.sl (.tok 0) 1 (byR bs), tv t] [.tok 5 1 bs.length] = some (.sl (.tok 0) 1 (byR (bs ++ packT t)), [.tok 5 1 (bs ++ packT t).length])
  | .mk k n l, bs, hz => by
    rw [hA.eq (m := m72) rfl]
    simp only [Tm.size] at hz
    have hl := sizes_ge l
    have hk := leaf_spec hA k
    have b1 : bs.length + 1 ≤ 140737488355328 := by omega
    have b2 : bs.length + 1 + 2 ≤ 140737488355328 := by omega
    by_cases c : kidsOf k = 0
    · have e8 : (2 : Int) ^ min 8 IntKind.i64.bits = 256 := by decide
      simp [runL, m72, leave, hk, c, b1, b2, List.range, List.range.loop, packT, byR, e8, fdiv256, wrap_u8]
    · obtain ⟨_, ⟨T, H, m⟩, h, rfl, h0, h1⟩ := adds_loop l l 0 (bs ++ [u8 k]) rfl (by omega) (by simp; omega)
      simp [byR] at h h0 h1
      simp [runL, m72, leave, hk, c, b1, b2, List.range, List.range.loop, packT, byR, h, h0, h1, wrap_u8]
theorem adds_loop : ∀ (rest all : List Tm) (i : Nat) (bs : List Int), all.drop i = rest → all.length < 1000000000 → bs.length + 3 * sizes rest < 1000000000 →
    Ends (EvL S [0, 27, 28, 29] [0, 22] m72_l0 [.sl (.tok 0) 1 (byR bs), ts all, .int .i64 all.length, .int .i64 i] [.tok 5 1 bs.length, .free] 1) fun e σ =>
      e = .ex 0 ∧ σ.H 0 = .tok 5 1 (bs ++ packTs rest).length ∧ σ.T 0 = .sl (.tok 0) 1 (byR (bs ++ packTs rest))
  | [], all, i, bs, hd, h1, h2 => by
    refine .cps fun Q hQ => ?_
    rw [EvL_eq]
    have := drop_nil' hd
    have h3 : ¬ i < all.length := by omega
    simp [m72_l0, h3, List.range, List.range.loop]
    exact .mk (hQ _ _ (by simp [packTs]))
  | t :: rest, all, i, bs, hd, h1, h2 => by
    refine .cps fun Q hQ => ?_
    rw [EvL_eq]
    simp only [sizes] at h2
    obtain ⟨g1, g2, g3⟩ := drop_cons' hd
    have hl := packT_len t
    have hz := add_spec t bs (by omega)
    have e2 := wrap_i64 (n := i + 1) (by omega) (by omega)
    have ih := adds_loop rest all (i + 1) (bs ++ packT t) g3 h1 (by simp; omega)
    simp at hz ih
    simp [-getElem?_pos, m72_l0, g1, g2, hz, e2, List.range, List.range.loop]
    exact ih.imp fun e σ h => hQ _ _ (by simpa [packTs] using h)
end
theorem clone_nil : call S 73 [.sl .nil 1 []] [] = some (.sl (.tok 0) 1 [], [.tok 5 1 0]) := by
  rw [hA.eq (m := m73) rfl]
  simp [runL, m73, leave]
theorem clone_own (b : Int) (bs : List Int) (hz : bs.length + 1 < 1000000000) : call S 73 [.sl (.tok 0) 1 (byR (b :: bs))] [.tok 5 1 (bs.length + 1)] =
    some (.sl (.tok 1) 1 (byR (b :: bs)), [.tok 5 1 (bs.length + 1), .tok 5 1 (bs.length + 1)]) := by
  rw [hA.eq (m := m73) rfl]
  have b1 : bs.length + 1 ≤ 140737488355328 := by omega
  simp [runL, m73, leave, byR, b1, List.range, List.range.loop]
theorem put_bad (t : Tm) (p : PV) (hz : t.size < 1000000000) (h : tmCheck t ≠ 0) (hp : p = .sl .nil 1 []) : call S 32 [p, tv t] [] = some (.tup [.sl .nil 1 [], .int .i64 (tmCheck t)], []) := by
  subst hp
  rw [hA.eq (m := m32) rfl]
  have h1 := check_spec hA t hz
  simp [runL, m32, leave, h1, h]
theorem put_bad_own (t : Tm) (b : Int) (bs : List Int) (hz : t.size < 1000000000) (h : tmCheck t ≠ 0) : call S 32 [.sl (.tok 0) 1 (byR (b :: bs)), tv t] [.tok 5 1 (bs.length + 1)] =
    some (.tup [.sl .nil 1 [], .int .i64 (tmCheck t)], [.tok 5 1 (bs.length + 1)]) := by
  rw [hA.eq (m := m32) rfl]
  have h1 := check_spec hA t hz
  simp [runL, m32, leave, h1, h, List.range, List.range.loop]
theorem put_nil (t : Tm) (hz : 3 * t.size < 1000000000) (h : tmCheck t = 0) : call S 32 [.sl .nil 1 [], tv t] [] = some (.tup [.sl (.tok 0) 1 (byR (packT t)), .int .i64 0], [.tok 5 1 (packT t).length]) := by
  rw [hA.eq (m := m32) rfl]
  have h1 := check_spec hA t (by omega)
  have h2 := clone_nil hA
  have h3 := add_spec hA t [] (by simp; omega)
  simp [byR] at h3
  simp [runL, m32, leave, h1, h, h2, h3, byR]
theorem put_own (t : Tm) (b : Int) (bs : List Int) (hz : bs.length + 1 + 3 * t.size < 1000000000) (h : tmCheck t = 0) : call S 32 [.sl (.tok 0) 1 (byR (b :: bs)), tv t] [.tok 5 1 (bs.length + 1)] =
    some (.tup [.sl (.tok 1) 1 (byR (b :: (bs ++ packT t))), .int .i64 0], [.tok 5 1 (bs.length + 1), .tok 5 1 (bs.length + 1 + (packT t).length)]) := by
  rw [hA.eq (m := m32) rfl]
  have h1 := check_spec hA t (by omega)
  have h2 := clone_own hA b bs (by omega)
  have h3 := add_spec hA t (b :: bs) (by simp; omega)
  simp [byR] at h2 h3
  simp [runL, m32, leave, h1, h, h2, h3, byR, List.range, List.range.loop]
  omega

/-! ### the writer -/
/-- a writer and what it has written -/
@[simp] abbrev wr (bs : List Int) : List Obj := [.cells [.sl (.tok 1) 1 (byR bs)], .tok 5 1 bs.length]
theorem num_spec (n : Int) (bs : List Int) (hb : bs.length + 1 < 1000000000) : call S 65 [.ptr 0 0, .int .i64 n] (wr bs) = some (.tup [], wr (bs ++ [u8 n])) := by
  rw [hA.eq (m := m65) rfl]
  have : bs.length + 1 ≤ 140737488355328 := by omega
  simp [runL, m65, leave, this, List.range, List.range.loop, wr, byR, wrap_u8]
theorem flag_spec (b : Bool) (bs : List Int) (hb : bs.length + 1 < 1000000000) : call S 110 [.ptr 0 0, .bool b] (wr bs) = some (.tup [], wr (bs ++ [flByte b])) := by
  rw [hA.eq (m := m110) rfl]
  have h0 := num_spec hA 0 bs hb
  have h1 := num_spec hA 1 bs hb
  have e0 : u8 0 = 0 := by decide
  have e1 : u8 1 = 1 := by decide
  rw [e0] at h0
  rw [e1] at h1
  simp at h0 h1
  cases b <;> simp [runL, m110, leave, List.range, List.range.loop, h0, h1, flByte]
omit hA in
theorem tmBytes_len (t : Tm) : (tmBytes t).length ≤ 3 * t.size := by
  unfold tmBytes
  have := packT_len t
  have := size_pos t
  split <;> simp <;> omega
omit hA in
theorem tmsBytes_len (l : List Tm) : (tmsBytes l).length ≤ 3 * sizes l := by
  induction l with
  | nil => simp [tmsBytes]
  | cons t r ih =>
    have := tmBytes_len t
    simp only [tmsBytes, List.flatMap_cons, List.length_append, sizes] at ih ⊢
    omega
omit hA in
theorem agBytes_len (a : Ag) : (agBytes a).length ≤ 3 * a.size := by
  have := tmBytes_len a.type
  have := tmsBytes_len a.dom
  have := tmsBytes_len a.idx
  simp [agBytes, rowBytes, Ag.size]
  omega
omit hA in
theorem agsBytes_len : ∀ l : List Ag, (agsBytes l).length ≤ 3 * agSizes l
  | [] => by simp [agsBytes]
  | a :: r => by
    have := agBytes_len a
    have := agsBytes_len r
    simp only [agsBytes, List.flatMap_cons, agSizes, List.length_append] at this ⊢
    omega
omit hA in
theorem srtBytes_len (s : Srt) : (srtBytes s).length ≤ 3 * s.size := by
  have := agsBytes_len s.idx
  have := tmBytes_len s.decType
  simp [srtBytes, argsBytes, Srt.size]
  omega
omit hA in
theorem cnBytes_len (c : Cn) : (cnBytes c).length ≤ 3 * c.size := by
  have := agsBytes_len c.args
  have := tmsBytes_len c.idx
  have := tmBytes_len c.dec
  simp [cnBytes, argsBytes, rowBytes, Cn.size]
  omega
omit hA in
theorem srtsBytes_len : ∀ l : List Srt, (srtsBytes l).length ≤ 3 * srtSizes l
  | [] => by simp [srtsBytes]
  | a :: r => by
    have := srtBytes_len a
    have := srtsBytes_len r
    simp only [srtsBytes, List.flatMap_cons, srtSizes, List.length_append] at this ⊢
    omega
omit hA in
theorem cnsBytes_len : ∀ l : List Cn, (cnsBytes l).length ≤ 3 * cnSizes l
  | [] => by simp [cnsBytes]
  | a :: r => by
    have := cnBytes_len a
    have := cnsBytes_len r
    simp only [cnsBytes, List.flatMap_cons, cnSizes, List.length_append] at this ⊢
    omega
omit hA in
theorem blkBytes_len (b : Blk) : (blkBytes b).length ≤ 3 * b.size := by
  have := srtsBytes_len b.sorts
  have := cnsBytes_len b.cons
  simp [blkBytes, Blk.size]
  omega
omit hA in
theorem dclBytes_len (d : Dcl) : (dclBytes d).length ≤ 3 * d.size := by
  have := tmBytes_len d.type
  have := tmBytes_len d.body
  have := blkBytes_len d.block
  simp only [dclBytes, Dcl.size]
  split
  · simp; omega
  split
  · simp; omega
  · simp; omega
omit hA in
theorem dclsBytes_len : ∀ l : List Dcl, (dclsBytes l).length ≤ 3 * dclSizes l
  | [] => by simp [dclsBytes]
  | a :: r => by
    have := dclBytes_len a
    have := dclsBytes_len r
    simp only [dclsBytes, List.flatMap_cons, dclSizes, List.length_append] at this ⊢
    omega
theorem term_spec (t : Tm) (b : Int) (bs : List Int) (hb : bs.length + 1 + 3 * t.size < 1000000000) (ht : okTm t) : call S 66 [.ptr 0 0, tv t] (wr (b :: bs)) = some (.tup [], wr (b :: (bs ++ tmBytes t))) := by
  rw [hA.eq (m := m66) rfl]
  have hp := size_pos t
  have h0 := num_spec hA 0 (b :: bs) (by simp; omega)
  have e0 : u8 0 = 0 := by decide
  rw [e0] at h0
  have h1 := none_spec hA t
  cases hn : isNone t with
  | true =>
    rw [hn] at h1
    simp at h0
    simp [runL, m66, leave, List.range, List.range.loop, h0, h1, tmBytes, hn]
  | false =>
    have h2 := put_own hA t b bs hb (by
      rcases ht with rfl | ht
      · simp [isNone, Tm.zero] at hn
      · exact ht)
    rw [hn] at h1
    have hq : 0 < (packT t).length := List.length_pos_iff.2 (packT_ne t)
    simp [runL, m66, leave, List.range, List.range.loop, h1, h2, tmBytes, hn, hq]
    omega
theorem row_loopW : ∀ (rest all : List Tm) (i : Nat) (b : Int) (bs : List Int), all.drop i = rest → all.length < 1000000000 → bs.length + 1 + 3 * sizes rest < 1000000000 → (∀ t ∈ rest, okTm t) →
    Ends (EvL S [0, 10, 11, 12] [0, 1] m111_l0 [.ptr 0 0, ts all, .int .i64 all.length, .int .i64 i] (wr (b :: bs)) 2) fun e σ =>
      e = .ex 0 ∧ σ.H 0 = .cells [.sl (.tok 1) 1 (byR (b :: (bs ++ tmsBytes rest)))] ∧ σ.H 1 = .tok 5 1 (bs.length + (tmsBytes rest).length + 1)
  | [], all, i, b, bs, hd, h1, h2, hok => by
    refine .cps fun Q hQ => ?_
    rw [EvL_eq]
    have := drop_nil' hd
    have h3 : ¬ i < all.length := by omega
    simp [m111_l0, h3, List.range, List.range.loop]
    exact .mk (hQ _ _ (by simp [tmsBytes]))
  | t :: rest, all, i, b, bs, hd, h1, h2, hok => by
    refine .cps fun Q hQ => ?_
    rw [EvL_eq]
    simp only [sizes] at h2
    obtain ⟨g1, g2, g3⟩ := drop_cons' hd
    have hl := tmBytes_len t
    have hz := term_spec hA t b bs (by omega) (hok t (by simp))
    have e2 := wrap_i64 (n := i + 1) (by omega) (by omega)
    have ih := row_loopW rest all (i + 1) b (bs ++ tmBytes t) g3 h1 (by simp; omega) fun x hx => hok x (by simp [hx])
    simp at hz ih
    simp [-getElem?_pos, m111_l0, g1, g2, hz, e2, List.range, List.range.loop]
    exact ih.imp fun e σ h => hQ _ _ (by simpa [tmsBytes, Nat.add_assoc] using h)
theorem row_specW (l : List Tm) (b : Int) (bs : List Int) (hb : bs.length + 2 + 3 * sizes l < 1000000000) (hok : ∀ t ∈ l, okTm t) :
    call S 111 [.ptr 0 0, ts l] (wr (b :: bs)) = some (.tup [], wr (b :: (bs ++ rowBytes l))) := by
  rw [hA.eq (m := m111) rfl]
  have hl := sizes_ge l
  have h0 := num_spec hA l.length (b :: bs) (by simp; omega)
  obtain ⟨_, ⟨T, H, m⟩, h, rfl, h1, h2⟩ := row_loopW hA l l 0 b (bs ++ [u8 l.length]) rfl (by omega) (by simp; omega) hok
  simp at h h0 h1 h2
  simp [runL, m111, leave, List.range, List.range.loop, h0, h, h1, h2, rowBytes, Nat.add_assoc, Nat.add_comm, Nat.add_left_comm]
theorem args_loopW : ∀ (rest all : List Ag) (i : Nat) (b : Int) (bs : List Int), all.drop i = rest → all.length < 1000000000 → bs.length + 1 + 3 * agSizes rest < 1000000000 → (∀ a ∈ rest, okAg a) →
    Ends (EvL S [0, 10, 11, 12] [0, 1] m109_l0 [.ptr 0 0, avs all, .int .i64 all.length, .int .i64 i] (wr (b :: bs)) 2) fun e σ =>
      e = .ex 0 ∧ σ.H 0 = .cells [.sl (.tok 1) 1 (byR (b :: (bs ++ agsBytes rest)))] ∧ σ.H 1 = .tok 5 1 (bs.length + (agsBytes rest).length + 1)
  | [], all, i, b, bs, hd, h1, h2, hok => by
    refine .cps fun Q hQ => ?_
    rw [EvL_eq]
    have := drop_nil' hd
    have h3 : ¬ i < all.length := by omega
    simp [m109_l0, h3, List.range, List.range.loop]
    exact .mk (hQ _ _ (by simp [agsBytes]))
  | a :: rest, all, i, b, bs, hd, h1, h2, hok => by
    refine .cps fun Q hQ => ?_
    rw [EvL_eq]
    simp only [agSizes] at h2
    obtain ⟨g1, g2, g3⟩ := drop_cons' hd
    have hl := agBytes_len a
    have e2 := wrap_i64 (n := i + 1) (by omega) (by omega)
    have ih := args_loopW rest all (i + 1) b (bs ++ agBytes a) g3 h1 (by simp; omega) fun x hx => hok x (by simp [hx])
    obtain ⟨o1, o2, o3, o4⟩ := hok a (by simp)
    have l1 := tmBytes_len a.type
    have l2 := tmsBytes_len a.dom
    have l3 := tmsBytes_len a.idx
    have hsz : a.size = 2 + a.type.size + sizes a.dom + sizes a.idx := rfl
    have c1 := flag_spec hA a.rc (b :: bs) (by simp; omega)
    have c2 := term_spec hA a.type b (bs ++ [flByte a.rc]) (by simp; omega) o1
    have c3 := row_specW hA a.dom b (bs ++ [flByte a.rc] ++ tmBytes a.type) (by simp; omega) o2.2
    have c4 := num_spec hA a.sort (b :: (bs ++ [flByte a.rc] ++ tmBytes a.type ++ rowBytes a.dom)) (by simp [rowBytes]; omega)
    have c5 := row_specW hA a.idx b (bs ++ [flByte a.rc] ++ tmBytes a.type ++ rowBytes a.dom ++ [u8 a.sort]) (by simp [rowBytes]; omega) o4.2
    simp [rowBytes, agBytes, Nat.add_assoc, Nat.add_comm, Nat.add_left_comm] at ih c1 c2 c3 c4 c5
    simp [-getElem?_pos, m109_l0, g1, g2, c1, c2, c3, c4, c5, e2, List.range, List.range.loop, Nat.add_assoc, Nat.add_comm, Nat.add_left_comm]
    exact ih.imp fun e σ h => hQ _ _ (by simpa [agsBytes, agBytes, rowBytes, Nat.add_assoc, Nat.add_comm, Nat.add_left_comm] using h)
theorem args_specW (l : List Ag) (b : Int) (bs : List Int) (hb : bs.length + 2 + 3 * agSizes l < 1000000000) (hok : ∀ a ∈ l, okAg a) :
    call S 109 [.ptr 0 0, avs l] (wr (b :: bs)) = some (.tup [], wr (b :: (bs ++ argsBytes l))) := by
  rw [hA.eq (m := m109) rfl]
  have hl := agSizes_ge l
  have h0 := num_spec hA l.length (b :: bs) (by simp; omega)
  obtain ⟨_, ⟨T, H, m⟩, h, rfl, h1, h2⟩ := args_loopW hA l l 0 b (bs ++ [u8 l.length]) rfl (by omega) (by simp; omega) hok
  simp at h h0 h1 h2
  simp [runL, m109, leave, List.range, List.range.loop, h0, h, h1, h2, argsBytes, Nat.add_assoc, Nat.add_comm, Nat.add_left_comm]
end Go.Px.B
/- The writer of blocks; right declarations; a pile's bytes. -/
set_option maxRecDepth 100000
set_option linter.unusedVariables false
set_option linter.unusedSimpArgs false
set_option linter.unusedSectionVars false
namespace Go.Px.B
open Go Go.Px
variable {S : Sys} (hA : Has S tabA)
include hA
/-- the cells of a block -/
@[simp] abbrev bc (b : Blk) : List PV := [.sl .plain 6 (scs b.sorts), .sl .plain 6 (ccs b.cons), .int .i64 b.elim]
theorem srts_loopW (bl : Blk) : ∀ (rest all : List Srt) (i : Nat) (b : Int) (bs : List Int), all.drop i = rest → all.length < 1000000000 → bs.length + 1 + 3 * srtSizes rest < 1000000000 → (∀ a ∈ rest, okSrt a) →
    Ends (EvL S [0, 3, 14, 15, 16] [0, 1, 20] m67_l1 [.ptr 0 0, .ptr 20 0, .sl .plain 6 (scs all), .int .i64 all.length, .int .i64 i] [.cells [.sl (.tok 1) 1 (byR (b :: bs))], .tok 5 1 (bs.length + 1), .cells (bc bl)] 2) fun e σ =>
      e = .ex 0 ∧ σ.T 0 = .ptr 0 0 ∧ σ.T 3 = .ptr 20 0 ∧ σ.m = 2 ∧ σ.H = ofH [(0, .cells [.sl (.tok 1) 1 (byR (b :: (bs ++ srtsBytes rest)))]), (1, .tok 5 1 (bs.length + (srtsBytes rest).length + 1)), (20, .cells (bc bl))]
  | [], all, i, b, bs, hd, h1, h2, hok => by
    refine .cps fun Q hQ => ?_
    rw [EvL_eq]
    have := drop_nil' hd
    have h3 : ¬ i < all.length := by omega
    simp [m67_l1, h3, List.range, List.range.loop]
    exact .mk (hQ _ _ (by simp [srtsBytes]))
  | a :: rest, all, i, b, bs, hd, h1, h2, hok => by
    refine .cps fun Q hQ => ?_
    rw [EvL_eq]
    simp only [srtSizes] at h2
    obtain ⟨g1, g2, g3⟩ := drop_cons' hd
    have hl := srtBytes_len a
    have e2 := wrap_i64 (n := i + 1) (by omega) (by omega)
    have ih := srts_loopW bl rest all (i + 1) b (bs ++ srtBytes a) g3 h1 (by simp; omega) fun x hx => hok x (by simp [hx])
    obtain ⟨o1, o2, o3⟩ := hok a (by simp)
    have l1 := agsBytes_len a.idx
    have l2 := tmBytes_len a.decType
    have hsz : a.size = 3 + agSizes a.idx + a.decType.size := rfl
    have c1 := args_specW hA a.idx b bs (by omega) o1.2
    have c2 := num_spec hA a.level (b :: (bs ++ argsBytes a.idx)) (by simp [argsBytes]; omega)
    have c3 := flag_spec hA a.dec (b :: (bs ++ argsBytes a.idx ++ [u8 a.level])) (by simp [argsBytes]; omega)
    have c4 := term_spec hA a.decType b (bs ++ argsBytes a.idx ++ [u8 a.level] ++ [flByte a.dec]) (by simp [argsBytes]; omega) o3
    simp [argsBytes, srtBytes, Nat.add_assoc, Nat.add_comm, Nat.add_left_comm] at ih c1 c2 c3 c4
    simp [-getElem?_pos, m67_l1, g1, g2, c1, c2, c3, c4, e2, List.range, List.range.loop, Nat.add_assoc, Nat.add_comm, Nat.add_left_comm]
    exact ih.imp fun e σ h => hQ _ _ (by simpa [srtsBytes, srtBytes, argsBytes, Nat.add_assoc, Nat.add_comm, Nat.add_left_comm] using h)
theorem cns_loopW (bl : Blk) : ∀ (rest all : List Cn) (i : Nat) (b : Int) (bs : List Int), all.drop i = rest → all.length < 1000000000 → bs.length + 1 + 3 * cnSizes rest < 1000000000 → (∀ a ∈ rest, okCn a) →
    Ends (EvL S [0, 3, 43, 44, 45] [0, 1, 20] m67_l0 [.ptr 0 0, .ptr 20 0, .sl .plain 6 (ccs all), .int .i64 all.length, .int .i64 i] [.cells [.sl (.tok 1) 1 (byR (b :: bs))], .tok 5 1 (bs.length + 1), .cells (bc bl)] 2) fun e σ =>
      e = .ex 2 ∧ σ.T 0 = .ptr 0 0 ∧ σ.T 3 = .ptr 20 0 ∧ σ.m = 2 ∧ σ.H = ofH [(0, .cells [.sl (.tok 1) 1 (byR (b :: (bs ++ cnsBytes rest)))]), (1, .tok 5 1 (bs.length + (cnsBytes rest).length + 1)), (20, .cells (bc bl))]
  | [], all, i, b, bs, hd, h1, h2, hok => by
    refine .cps fun Q hQ => ?_
    rw [EvL_eq]
    have := drop_nil' hd
    have h3 : ¬ i < all.length := by omega
    simp [m67_l0, h3, List.range, List.range.loop]
    exact .mk (hQ _ _ (by simp [cnsBytes]))
  | a :: rest, all, i, b, bs, hd, h1, h2, hok => by
    refine .cps fun Q hQ => ?_
    rw [EvL_eq]
    simp only [cnSizes] at h2
    obtain ⟨g1, g2, g3⟩ := drop_cons' hd
    have hl := cnBytes_len a
    have e2 := wrap_i64 (n := i + 1) (by omega) (by omega)
    have ih := cns_loopW bl rest all (i + 1) b (bs ++ cnBytes a) g3 h1 (by simp; omega) fun x hx => hok x (by simp [hx])
    obtain ⟨o1, o2, o3, o4⟩ := hok a (by simp)
    have l1 := agsBytes_len a.args
    have l2 := tmsBytes_len a.idx
    have l3 := tmBytes_len a.dec
    have hsz : a.size = 3 + agSizes a.args + sizes a.idx + a.dec.size := rfl
    have c1 := num_spec hA a.sort (b :: bs) (by simp; omega)
    have c2 := args_specW hA a.args b (bs ++ [u8 a.sort]) (by simp; omega) o2.2
    have c3 := row_specW hA a.idx b (bs ++ [u8 a.sort] ++ argsBytes a.args) (by simp [argsBytes]; omega) o3.2
    have c4 := term_spec hA a.dec b (bs ++ [u8 a.sort] ++ argsBytes a.args ++ rowBytes a.idx) (by simp [argsBytes, rowBytes]; omega) o4
    simp [argsBytes, rowBytes, cnBytes, Nat.add_assoc, Nat.add_comm, Nat.add_left_comm] at ih c1 c2 c3 c4
    simp [-getElem?_pos, m67_l0, g1, g2, c1, c2, c3, c4, e2, List.range, List.range.loop, Nat.add_assoc, Nat.add_comm, Nat.add_left_comm]
    exact ih.imp fun e σ h => hQ _ _ (by simpa [cnsBytes, cnBytes, argsBytes, rowBytes, Nat.add_assoc, Nat.add_comm, Nat.add_left_comm] using h)
theorem block_specW (bl : Blk) (b : Int) (bs : List Int) (hb : bs.length + 2 + 3 * bl.size < 1000000000) (hok : okBlk bl) :
    call S 67 [.ptr 0 0, bv bl] (wr (b :: bs)) = some (.tup [], wr (b :: (bs ++ blkBytes bl))) := by
  rw [hA.eq (m := m67) rfl]
  have hsz : bl.size = 1 + srtSizes bl.sorts + cnSizes bl.cons := rfl
  have hl := srtSizes_ge bl.sorts
  have hl2 := cnSizes_ge bl.cons
  have l1 := srtsBytes_len bl.sorts
  have l2 := cnsBytes_len bl.cons
  have c1 := num_spec hA bl.sorts.length (b :: bs) (by simp; omega)
  obtain ⟨_, ⟨T, H, m⟩, h, rfl, t0, t3, rfl, rfl⟩ := srts_loopW hA bl bl.sorts bl.sorts 0 b (bs ++ [u8 bl.sorts.length]) rfl (by omega) (by simp; omega) hok.1.2
  have c2 := num_spec hA bl.cons.length (b :: (bs ++ [u8 bl.sorts.length] ++ srtsBytes bl.sorts)) (by simp; omega)
  obtain ⟨_, ⟨T2, H2, m2⟩, h2, rfl, t20, t23, rfl, rfl⟩ := cns_loopW hA bl bl.cons bl.cons 0 b (bs ++ [u8 bl.sorts.length] ++ srtsBytes bl.sorts ++ [u8 bl.cons.length]) rfl (by omega) (by simp; omega) hok.2.1.2
  have c3 := num_spec hA bl.elim (b :: (bs ++ [u8 bl.sorts.length] ++ srtsBytes bl.sorts ++ [u8 bl.cons.length] ++ cnsBytes bl.cons)) (by simp; omega)
  simp [Nat.add_assoc, Nat.add_comm, Nat.add_left_comm] at c1 c2 c3 h h2 t0 t3 t20 t23
  simp [runL, m67, leave, List.range, List.range.loop, Nat.add_assoc, Nat.add_comm, Nat.add_left_comm, blkBytes, *]

/-! ### right declarations -/
theorem eqSort_zero (l : List (List PV)) (g : Nat) : call S 178 [.sl .plain 6 l, .sl .plain 6 [], .fn g []] [] = some (.bool l.isEmpty, []) := by
  rw [hA.eq (m := m178) rfl]
  cases l with
  | nil =>
    simp [runL, m178, leave]
    rw [EvL_eq]
    simp [m178_l0]
  | cons a r =>
    have : ¬ ((r.length : Int) + 1 = 0) := by omega
    simp [runL, m178, leave, this]
theorem eqCon_zero (l : List (List PV)) (g : Nat) : call S 182 [.sl .plain 6 l, .sl .plain 6 [], .fn g []] [] = some (.bool l.isEmpty, []) := by
  rw [hA.eq (m := m182) rfl]
  cases l with
  | nil =>
    simp [runL, m182, leave]
    rw [EvL_eq]
    simp [m182_l0]
  | cons a r =>
    have : ¬ ((r.length : Int) + 1 = 0) := by omega
    simp [runL, m182, leave, this]
omit hA in
theorem scs_empty (l : List Srt) : (scs l).isEmpty = l.isEmpty := by cases l <;> simp [scs]
omit hA in
theorem ccs_empty (l : List Cn) : (ccs l).isEmpty = l.isEmpty := by cases l <;> simp [ccs]
theorem same_zero (b : Blk) : call S 169 [bv b, .agg [.sl .plain 6 [], .sl .plain 6 [], .int .i64 0]] [] = some (.bool (isPlain b), []) := by
  rw [hA.eq (m := m169) rfl]
  have h1 := eqSort_zero hA (scs b.sorts) 179
  have h2 := eqCon_zero hA (ccs b.cons) 183
  rw [scs_empty] at h1
  rw [ccs_empty] at h2
  unfold isPlain
  cases c1 : b.sorts.isEmpty <;> rw [c1] at h1
  case false => simp [runL, m169, leave, *]
  by_cases hh0 : b.elim = 0
  case neg => simp [runL, m169, leave, *]
  cases hh2 : b.cons.isEmpty
  case false => simp [runL, m169, leave, *]
  simp [runL, m169, leave, *]
theorem plain_spec (d : Dcl) : call S 142 [dv d] [] = some (.bool (isPlain d.block), []) := by
  rw [hA.eq (m := m142) rfl]
  have h := same_zero hA d.block
  simp [runL, m142, leave, h]
theorem right_spec (d : Dcl) (hz : d.size < 1000000000) : call S 107 [dv d] [] = some (.bool (dclOk d), []) := by
  have hsz : d.size = 1 + d.type.size + d.body.size + d.block.size := rfl
  have h1 := check_spec hA d.type (by omega)
  have h2 := check_spec hA d.body (by omega)
  have h3 := none_spec hA d.type
  have h4 := none_spec hA d.body
  have h5 := plain_spec hA d
  have h6 := shape_spec hA d.block (by omega)
  rw [hA.eq (m := m107) rfl]
  unfold dclOk
  by_cases k1 : d.kind = 1
  · simp only [dv, k1] at h5
    by_cases hh0 : tmCheck d.type = 0
    case neg => simp [runL, m107, leave, *]
    cases hh2 : isNone d.body
    case false => simp [runL, m107, leave, *]
    simp [runL, m107, leave, *]
  by_cases k2 : d.kind = 2
  · simp only [dv, k2] at h5
    by_cases hh0 : tmCheck d.type = 0
    case neg => simp [runL, m107, leave, *]
    by_cases hh2 : tmCheck d.body = 0
    case neg => simp [runL, m107, leave, *]
    simp [runL, m107, leave, *]
  by_cases k3 : d.kind = 3
  · simp only [dv, k3] at h5
    cases hh0 : isNone d.type
    case false => simp [runL, m107, leave, *]
    cases hh2 : isNone d.body
    case false => simp [runL, m107, leave, *]
    cases hh4 : blkOk d.block
    case false => simp [runL, m107, leave, *]
    simp [runL, m107, leave, *]
  simp [runL, m107, leave, *]
theorem pcheck_spec (d : Dcl) (hz : d.size < 1000000000) : call S 64 [dv d] [] = some (.int .i64 (if dclOk d then 0 else 12), []) := by
  have h1 := right_spec hA d hz
  rw [hA.eq (m := m64) rfl]
  cases c : dclOk d <;> simp [runL, m64, leave, *]
end Go.Px.B
/- A pile's bytes. -/
set_option maxRecDepth 100000
set_option linter.unusedVariables false
set_option linter.unusedSimpArgs false
set_option linter.unusedSectionVars false
namespace Go.Px.B
open Go Go.Px
variable {S : Sys} (hA : Has S tabA)
include hA
abbrev ds (l : List Dcl) : PV := .sl .plain 10 (dcs l)
theorem checks_loop : ∀ (rest all : List Dcl) (i : Nat), all.drop i = rest → all.length < 1000000000 → dclSizes rest < 1000000000 →
    Ends (EvL S [0, 13, 14, 15] [] m25_l1 [ds all, ds all, .int .i64 all.length, .int .i64 i] [] 0) fun e σ =>
      if rest.all dclOk then e = .ex 0 ∧ σ.T 0 = ds all ∧ σ.m = 0 ∧ σ.H = ofH [] else e = .rt ∧ σ.T 2 = .sl .nil 1 [] ∧ σ.T 3 = .int .i64 12
  | [], all, i, hd, h1, h2 => by
    refine .cps fun Q hQ => ?_
    rw [EvL_eq]
    have := drop_nil' hd
    have h3 : ¬ i < all.length := by omega
    simp [m25_l1, h3]
    exact .mk (hQ _ _ (by simp))
  | t :: rest, all, i, hd, h1, h2 => by
    refine .cps fun Q hQ => ?_
    rw [EvL_eq]
    simp [dclSizes] at h2
    obtain ⟨g1, g2, g3⟩ := drop_cons' hd
    have hz := pcheck_spec hA t (by omega)
    have e2 := wrap_i64 (n := i + 1) (by omega) (by omega)
    cases hw : dclOk t with
    | true =>
      rw [hw] at hz
      simp at hz
      simp [-getElem?_pos, m25_l1, g1, g2, hz, e2]
      exact (checks_loop rest all (i + 1) g3 h1 (by omega)).imp fun e σ h => hQ _ _ (by simpa [hw] using h)
    | false =>
      rw [hw] at hz
      simp at hz
      simp [-getElem?_pos, m25_l1, g1, g2, hz, e2]
      exact .mk (hQ _ _ (by simp [hw]))
theorem puts_loop : ∀ (rest all : List Dcl) (i : Nat) (b : Int) (bs : List Int), all.drop i = rest → all.length < 1000000000 → bs.length + 10 + 6 * dclSizes rest < 1000000000 → (∀ d ∈ rest, dclOk d = true) →
    Ends (EvL S [7, 31, 32, 33] [22, 23] m25_l0 [.ptr 22 0, ds all, .int .i64 all.length, .int .i64 i] [.cells [.sl (.tok 23) 1 (byR (b :: bs))], .tok 5 1 (bs.length + 1)] 0) fun e σ =>
      e = .ex 2 ∧ σ.T 7 = .ptr 22 0 ∧ σ.m = 0 ∧ σ.H = ofH [(22, .cells [.sl (.tok 23) 1 (byR (b :: (bs ++ dclsBytes rest)))]), (23, .tok 5 1 (bs.length + (dclsBytes rest).length + 1))]
  | [], all, i, b, bs, hd, h1, h2, hok => by
    refine .cps fun Q hQ => ?_
    rw [EvL_eq]
    have := drop_nil' hd
    have h3 : ¬ i < all.length := by omega
    simp [m25_l0, h3]
    exact .mk (hQ _ _ (by simp [dclsBytes]))
  | d :: rest, all, i, b, bs, hd, h1, h2, hok => by
    refine .cps fun Q hQ => ?_
    rw [EvL_eq]
    simp only [dclSizes] at h2
    obtain ⟨g1, g2, g3⟩ := drop_cons' hd
    have hl := dclBytes_len d
    have e2 := wrap_i64 (n := i + 1) (by omega) (by omega)
    have ih := puts_loop rest all (i + 1) b (bs ++ dclBytes d) g3 h1 (by simp; omega) fun x hx => hok x (by simp [hx])
    have hd0 := hok d (by simp)
    have hsz : d.size = 1 + d.type.size + d.body.size + d.block.size := rfl
    have l1 := tmBytes_len d.type
    have c1 := num_spec hA d.kind (b :: bs) (by simp; omega)
    unfold dclOk at hd0
    by_cases k1 : d.kind = 1
    · simp only [k1, if_true, Bool.and_eq_true, beq_iff_eq] at hd0
      have c2 := term_spec hA d.type b (bs ++ [u8 d.kind]) (by simp; omega) (.inr hd0.1.1)
      simp [k1, dclBytes, Nat.add_assoc, Nat.add_comm, Nat.add_left_comm] at ih c1 c2
      simp [-getElem?_pos, m25_l0, k1, g1, g2, c1, c2, e2, Nat.add_assoc, Nat.add_comm, Nat.add_left_comm]
      exact ih.imp fun e σ h => hQ _ _ (by simpa [dclsBytes, dclBytes, k1, Nat.add_assoc, Nat.add_comm, Nat.add_left_comm] using h)
    by_cases k2 : d.kind = 2
    · simp only [k2] at hd0
      simp at hd0
      have c2 := term_spec hA d.type b (bs ++ [u8 d.kind]) (by simp; omega) (.inr hd0.1.1)
      have c3 := term_spec hA d.body b (bs ++ [u8 d.kind] ++ tmBytes d.type) (by simp; omega) (.inr hd0.1.2)
      simp [k2, dclBytes, Nat.add_assoc, Nat.add_comm, Nat.add_left_comm] at ih c1 c2 c3
      simp [-getElem?_pos, m25_l0, k2, g1, g2, c1, c2, c3, e2, Nat.add_assoc, Nat.add_comm, Nat.add_left_comm]
      exact ih.imp fun e σ h => hQ _ _ (by simpa [dclsBytes, dclBytes, k2, Nat.add_assoc, Nat.add_comm, Nat.add_left_comm] using h)
    by_cases k3 : d.kind = 3
    · simp only [k3] at hd0
      simp at hd0
      have c2 := block_specW hA d.block b (bs ++ [u8 d.kind]) (by simp; omega) (blkOk_ok hd0.2)
      simp [k3, dclBytes, Nat.add_assoc, Nat.add_comm, Nat.add_left_comm] at ih c1 c2
      simp [-getElem?_pos, m25_l0, k3, g1, g2, c1, c2, e2, Nat.add_assoc, Nat.add_comm, Nat.add_left_comm]
      exact ih.imp fun e σ h => hQ _ _ (by simpa [dclsBytes, dclBytes, k3, Nat.add_assoc, Nat.add_comm, Nat.add_left_comm] using h)
    simp [k1, k2, k3] at hd0
def putR (l : List Dcl) : List Int × Int :=
  if 60 < l.length then ([], 2) else if l.all dclOk = false then ([], 12) else if 65536 < (pileBytes l).length then ([], 4) else (pileBytes l, 0)
theorem put_spec (l : List Dcl) (hz : 6 * dclSizes l < 900000000) : call S 25 [ds l] [] = some (.tup [.sl .plain 1 (byR (putR l).1), .int .i64 (putR l).2], []) := by
  rw [hA.eq (m := m25) rfl]
  have hl := dclSizes_ge l
  unfold putR
  by_cases c1 : 60 < l.length
  · have : (60 : Int) < l.length := by omega
    simp [runL, m25, leave, *]
  have c1' : ¬ (60 : Int) < l.length := by omega
  obtain ⟨e, ⟨T, H, m⟩, h, h3⟩ := checks_loop hA l l 0 rfl (by omega) (by omega)
  simp at h
  by_cases c2 : l.all dclOk = true
  case neg =>
    have c2' : l.all dclOk = false := by simpa using c2
    rw [c2'] at h3 ⊢
    simp at h3
    obtain ⟨rfl, t2, t3⟩ := h3
    simp [runL, m25, leave, *]
  rw [c2] at h3 ⊢
  simp at h3
  obtain ⟨rfl, t0, rfl, rfl⟩ := h3
  have hb := dclsBytes_len l
  have hn := num_spec hA l.length [] (by simp)
  obtain ⟨_, ⟨T2, H2, m2⟩, h2, rfl, t7, rfl, rfl⟩ := puts_loop hA l l 0 (u8 l.length) [] rfl (by omega) (by simp; omega) (List.all_eq_true.1 c2)
  simp at hn h2 t7
  have e : (pileBytes l).length = (dclsBytes l).length + 1 := by simp [pileBytes]
  by_cases c3 : 65536 < (pileBytes l).length
  · have c3' : (65536 : Int) < (dclsBytes l).length + 1 := by omega
    rw [if_pos c3]
    simp [runL, m25, leave, *]
  · have c3' : ¬ (65536 : Int) < (dclsBytes l).length + 1 := by omega
    rw [if_neg c3]
    simp [runL, m25, leave, *]
    simp [pileBytes]
end Go.Px.B
/- The reader of terms. -/
set_option maxRecDepth 100000
set_option linter.unusedVariables false
set_option linter.unusedSimpArgs false
set_option linter.unusedSectionVars false
namespace Go.Px.B
open Go Go.Px
variable {S : Sys} (hA : Has S tabA)
include hA
omit hA in
theorem or_bytes {a b : Int} (ha : 0 ≤ a ∧ a ≤ 255) (hb : 0 ≤ b ∧ b ≤ 255) : IntKind.i64.wrap ((BitVec.ofInt 64 (a * 256) ||| BitVec.ofInt 64 b).toNat : Int) = a * 256 + b := by
  obtain ⟨x, rfl⟩ := Int.eq_ofNat_of_zero_le ha.1
  obtain ⟨y, rfl⟩ := Int.eq_ofNat_of_zero_le hb.1
  have h1 : (BitVec.ofInt 64 ((x : Int) * 256)).toNat = 2 ^ 8 * x := by
    rw [BitVec.toNat_ofInt]
    omega
  have h2 : (BitVec.ofInt 64 (y : Int)).toNat = y := by
    rw [BitVec.toNat_ofInt]
    omega
  rw [BitVec.toNat_or, h1, h2, ← Nat.two_pow_add_eq_or_of_lt (by omega)]
  rw [wrap_i64 (by omega) (by omega)]
  omega
omit hA in
theorem or_bytes' {a b : Int} (ha : 0 ≤ a ∧ a ≤ 255) (hb : 0 ≤ b ∧ b ≤ 255) : IntKind.i64.wrap (((a * 256 % 2 ^ IntKind.i64.bits).toNat ||| (b % 2 ^ IntKind.i64.bits).toNat : Nat) : Int) = a * 256 + b := by
  have h := or_bytes ha hb
  have e : (2 : Int) ^ IntKind.i64.bits = 18446744073709551616 := by decide
  rw [e]
  simpa [BitVec.toNat_or, BitVec.toNat_ofInt] using h
omit hA in
theorem byR_take (l : List Int) (n : Nat) : (byR l).take n = byR (l.take n) := by simp [byR]
omit hA in
theorem byR_drop (l : List Int) (n : Nat) : (byR l).drop n = byR (l.drop n) := by simp [byR]
/-- a reader's cells -/
@[simp] abbrev rc (left : List Int) (nd : Int) (bad : Bool) : Obj := .cells [.sl .plain 1 (byR left), .int .i64 nd, .bool bad]
theorem take_ok (left : List Int) (nd : Int) (n : Nat) (hn : n ≤ left.length) (hn2 : n < 1000) : call S 185 [.ptr 0 0, .int .i64 n] [rc left nd false] = some (.sl .plain 1 (byR (left.take n)), [rc (left.drop n) nd false]) := by
  rw [hA.eq (m := m185) rfl]
  have h1 : ¬ (left.length : Int) < n := by omega
  simp [runL, m185, leave, List.range, List.range.loop, hn, h1, byR_take, byR_drop]
theorem take_bad (left : List Int) (nd : Int) (n : Nat) (bad : Bool) (hn : bad = true ∨ left.length < n) (hn2 : n < 1000) : call S 185 [.ptr 0 0, .int .i64 n] [rc left nd bad] = some (.sl .plain 1 (byR (List.replicate n 0)), [rc left nd true]) := by
  rw [hA.eq (m := m185) rfl]
  have e : byR (List.replicate n 0) = List.replicate n [.int .u8 0] := by simp [byR]
  have b1 : (n : Int) ≤ 140737488355328 := by omega
  have b2 : (n : Int) ≤ 9223372036854775807 := by omega
  cases bad with
  | true => simp [runL, m185, leave, List.range, List.range.loop, b1, b2, e]
  | false =>
    have h1 : (left.length : Int) < n := by simp at hn; omega
    simp [runL, m185, leave, List.range, List.range.loop, h1, b1, b2, e]

/-- what became of a read, against the plain reader -/
def RdQ (o : Option (Tm × Nat × List Int)) (t : Tm) (left : List Int) (nd : Int) (bad : Bool) : Prop :=
  match o with
  | some (t0, nd0, r0) => t = t0 ∧ left = r0 ∧ nd = nd0 ∧ bad = false
  | none => bad = true
def RdsQ (o : Option (List Tm × Nat × List Int)) (l : List Tm) (left : List Int) (nd : Int) (bad : Bool) : Prop :=
  match o with
  | some (t0, nd0, r0) => l = t0 ∧ left = r0 ∧ nd = nd0 ∧ bad = false
  | none => bad = true
def ReadsAt (S : Sys) (d : Nat) : Prop := ∀ (nd : Nat) (left : List Int), okB left → nd ≤ 6000 →
  ∃ (t : Tm) (left' : List Int) (nd' : Int) (bad' : Bool), call S 171 [.ptr 0 0, .int .i64 (201 - (d : Int))] [rc left nd false] = some (tv t, [rc left' nd' bad']) ∧ RdQ (pkT d nd left) t left' nd' bad'
/-- how the loop over the kids ends -/
def KidsQ (k n : Int) (o : Option (List Tm × Nat × List Int)) (done : List Tm) (e : Ex) (σ : St) : Prop :=
  e = .ex 0 ∧ σ.m = 1 ∧ σ.T 4 = .ptr 20 0 ∧ σ.T 5 = .ptr 22 0 ∧ ∃ (l : List Tm) (left : List Int) (nd : Int) (bad : Bool),
    σ.H = ofH [(0, rc left nd bad), (20, .cells [.int .i64 0, .int .i64 0, .sl .nil 3 []]), (22, .cells [.int .i64 k, .int .i64 n, .sl (.tok 23) 3 (css (done ++ l))]), (23, .tok 24 3 (done.length + l.length))] ∧ RdsQ o l left nd bad
omit hA in
theorem kids_bad (dp k n j nd : Int) (left : List Int) (done : List Tm) :
    Ends (EvL S [0, 1, 4, 5, 6] [0, 20, 22, 23] m171_l0 [.ptr 0 0, .int .i64 dp, .ptr 20 0, .ptr 22 0, .int .i64 j] [rc left nd true, .cells [.int .i64 0, .int .i64 0, .sl .nil 3 []], .cells [.int .i64 k, .int .i64 n, .sl (.tok 23) 3 (css done)], .tok 24 3 done.length] 1) (KidsQ k n none done) := by
  refine .cps fun Q hQ => ?_
  rw [EvL_eq]
  by_cases hj : 0 < j
  · simp [m171_l0, List.range, List.range.loop, hj]
    exact .mk (hQ _ _ ⟨rfl, rfl, rfl, rfl, [], left, nd, true, by simp, rfl⟩)
  · simp [m171_l0, List.range, List.range.loop, hj]
    exact .mk (hQ _ _ ⟨rfl, rfl, rfl, rfl, [], left, nd, true, by simp, rfl⟩)
theorem kids_loop {d : Nat} (hd : d ≤ 200) (hR : ReadsAt S d) (k n : Int) : ∀ (j : Nat) (left : List Int) (nd : Nat) (done : List Tm), okB left → nd ≤ 6000 → done.length + j < 1000 →
    Ends (EvL S [0, 1, 4, 5, 6] [0, 20, 22, 23] m171_l0 [.ptr 0 0, .int .i64 (200 - (d : Int)), .ptr 20 0, .ptr 22 0, .int .i64 j] [rc left nd false, .cells [.int .i64 0, .int .i64 0, .sl .nil 3 []], .cells [.int .i64 k, .int .i64 n, .sl (.tok 23) 3 (css done)], .tok 24 3 done.length] 1) (KidsQ k n (rep (pkT d) j nd left) done)
  | 0, left, nd, done, hb, hn, hl => by
    refine .cps fun Q hQ => ?_
    rw [EvL_eq]
    simp [m171_l0, List.range, List.range.loop]
    exact .mk (hQ _ _ ⟨rfl, rfl, rfl, rfl, [], left, nd, false, by simp, rfl, rfl, rfl, rfl⟩)
  | j + 1, left, nd, done, hb, hn, hl => by
    refine .cps fun Q hQ => ?_
    obtain ⟨t, left', nd', bad', hc, hq⟩ := hR nd left hb hn
    have e1 := wrap_i64 (n := 200 - (d : Int) + 1) (by omega) (by omega)
    have e2 : 200 - (d : Int) + 1 = 201 - d := by omega
    rw [e2] at e1
    have e3 := wrap_i64 (n := (j : Int) + 1 - 1) (by omega) (by omega)
    have e4 : (j : Int) + 1 - 1 = j := by omega
    rw [e4] at e3
    have e5 : (0 : Int) < (j : Int) + 1 := by omega
    have e6 : (done.length + 1) * 40 ≤ 140737488355328 := by omega
    rw [EvL_eq]
    simp [m171_l0, List.range, List.range.loop, hc, e1, e2, e3, e4, e5, e6]
    cases hp : pkT d nd left with
    | none =>
      rw [hp] at hq
      obtain rfl : bad' = true := hq
      have := kids_bad (S := S) (200 - (d : Int)) k n j nd' left' (done ++ [t])
      simp [css_append, css_cons] at this
      refine this.imp fun e σ h => hQ _ _ ?_
      obtain ⟨h1, h2, h3, h4, l, lf, n', b', h5, h6⟩ := h
      refine ⟨h1, h2, h3, h4, t :: l, lf, n', b', ?_, ?_⟩
      · rw [h5]; simp [css_append, css_cons, Nat.add_assoc, Nat.add_comm, Nat.add_left_comm]
      · simp only [rep, hp]; exact h6
    | some x =>
      obtain ⟨t0, nd0, r0⟩ := x
      rw [hp] at hq
      obtain ⟨rfl, rfl, rfl, rfl⟩ := hq
      obtain ⟨f1, f2, f3, f4, f5⟩ := pk_sound d _ _ _ _ _ hb hp
      have hb' : okB left' := by rw [f1] at hb; exact (okB_append.1 hb).2
      have ih := kids_loop hd hR k n j left' nd0 (done ++ [t]) hb' f5 (by simp; omega)
      simp [css_append, css_cons] at ih
      refine ih.imp fun e σ h => hQ _ _ ?_
      obtain ⟨h1, h2, h3, h4, l, lf, n', b', h5, h6⟩ := h
      refine ⟨h1, h2, h3, h4, t :: l, lf, n', b', ?_, ?_⟩
      · rw [h5]; simp [css_append, css_cons, Nat.add_assoc, Nat.add_comm, Nat.add_left_comm]
      · simp only [rep, hp]
        cases hr : rep (pkT d) j nd0 left' with
        | none => rw [hr] at h6; exact h6
        | some y =>
          obtain ⟨l1, n1, r1⟩ := y
          rw [hr] at h6
          obtain ⟨g1, g2, g3, g4⟩ := h6
          exact ⟨by rw [g1], g2, g3, g4⟩

omit hA in
theorem pk_none (d nd : Nat) (k : Int) (r : List Int) (h : kidsOf k < 0 ∨ 6000 < nd + 1 ∨ d = 0) : pkT d nd (k :: r) = none := by
  cases d with
  | zero => rfl
  | succ d =>
    simp only [pkT]
    rw [if_pos (by omega)]
/-- what a read comes to where it is bad from the start -/
theorem read_nil (dp : Int) (nd : Nat) (hn : nd ≤ 6000) : ∃ (t : Tm) (left' : List Int) (nd' : Int), call S 171 [.ptr 0 0, .int .i64 dp] [rc [] nd false] = some (tv t, [rc left' nd' true]) := by
  obtain ⟨_, ⟨T, H, m⟩, h, rfl, h2, h3, h4, l, left, nd', bad, h5, rfl⟩ := kids_bad (S := S) dp 0 0 (-1) (nd + 1) [] []
  have c1 := take_bad hA [] nd 1 false (by simp) (by simp)
  have c2 := kids_spec hA 0
  have e1 := wrap_i64 (n := (nd : Int) + 1) (by omega) (by omega)
  have e2 : kidsOf 0 = -1 := by decide
  simp [byR_cons] at h h2 h3 h4 h5 c1
  refine ⟨.mk 0 0 l, left, nd', ?_⟩
  rw [hA.eq (m := m171) rfl]
  simp [runL, m171, leave, List.range, List.range.loop, *]
theorem read_bad (dp : Int) (nd : Nat) (hn : nd ≤ 6000) (k : Int) (r : List Int) (hk : 0 ≤ k ∧ k ≤ 255) (hbad : kidsOf k < 0 ∨ 6000 < nd + 1 ∨ 200 < dp) :
    ∃ (t : Tm) (left' : List Int) (nd' : Int), call S 171 [.ptr 0 0, .int .i64 dp] [rc (k :: r) nd false] = some (tv t, [rc left' nd' true]) := by
  obtain ⟨_, ⟨T, H, m⟩, h, rfl, h2, h3, h4, l, left, nd', bad, h5, rfl⟩ := kids_bad (S := S) dp k 0 (kidsOf k) (nd + 1) r []
  have c1 := take_ok hA (k :: r) nd 1 (by simp) (by simp)
  have c2 := kids_spec hA k
  have c3 := take_bad hA r (nd + 1) 2 true (by simp) (by simp)
  have e1 := wrap_i64 (n := (nd : Int) + 1) (by omega) (by omega)
  have e2 := wrap_i64 (n := k) (by omega) (by omega)
  have e9 : IntKind.i64.wrap ((BitVec.ofInt 64 (0 * 256) ||| BitVec.ofInt 64 0).toNat : Int) = 0 := by decide
  have e8 : (2 : Int) ^ min 8 IntKind.i64.bits = 256 := by decide
  simp [byR_cons] at h h2 h3 h4 h5 c1 c3 e9
  refine ⟨.mk k 0 l, left, nd', ?_⟩
  rw [hA.eq (m := m171) rfl]
  by_cases k0 : kidsOf k < 0
  · have k1 : ¬ kidsOf k = 0 := by omega
    simp [runL, m171, leave, List.range, List.range.loop, byR_cons, *]
  by_cases n0 : (6000 : Int) < (nd : Int) + 1
  · by_cases k1 : kidsOf k = 0
    · simp [k1] at h
      simp [runL, m171, leave, List.range, List.range.loop, byR_cons, *]
    · simp [runL, m171, leave, List.range, List.range.loop, byR_cons, *]
  have d0 : 200 < dp := by omega
  by_cases k1 : kidsOf k = 0
  · simp [k1] at h
    simp [runL, m171, leave, List.range, List.range.loop, byR_cons, *]
  · simp [runL, m171, leave, List.range, List.range.loop, byR_cons, *]
theorem read_leaf_short (dp : Int) (nd : Nat) (hn : nd < 6000) (hdp : dp ≤ 200) (k : Int) (r : List Int) (hk : 0 ≤ k ∧ k ≤ 255) (k1 : kidsOf k = 0) (hr : r.length < 2) :
    ∃ (t : Tm) (left' : List Int) (nd' : Int), call S 171 [.ptr 0 0, .int .i64 dp] [rc (k :: r) nd false] = some (tv t, [rc left' nd' true]) := by
  obtain ⟨_, ⟨T, H, m⟩, h, rfl, h2, h3, h4, l, left, nd', bad, h5, rfl⟩ := kids_bad (S := S) dp k 0 0 (nd + 1) r []
  have c1 := take_ok hA (k :: r) nd 1 (by simp) (by simp)
  have c2 := kids_spec hA k
  have c3 := take_bad hA r (nd + 1) 2 false (.inr hr) (by simp)
  have e1 := wrap_i64 (n := (nd : Int) + 1) (by omega) (by omega)
  have e2 := wrap_i64 (n := k) (by omega) (by omega)
  have e9 : IntKind.i64.wrap ((BitVec.ofInt 64 (0 * 256) ||| BitVec.ofInt 64 0).toNat : Int) = 0 := by decide
  have e8 : (2 : Int) ^ min 8 IntKind.i64.bits = 256 := by decide
  have n0 : ¬ (6000 : Int) < (nd : Int) + 1 := by omega
  have d0 : ¬ 200 < dp := by omega
  simp [byR_cons] at h h2 h3 h4 h5 c1 c3 e9
  refine ⟨.mk k 0 l, left, nd', ?_⟩
  rw [hA.eq (m := m171) rfl]
  simp [runL, m171, leave, List.range, List.range.loop, byR_cons, *]
theorem read_leaf (dp : Int) (nd : Nat) (hn : nd < 6000) (hdp : dp ≤ 200) (k a b : Int) (r : List Int) (hk : 0 ≤ k ∧ k ≤ 255) (ha : 0 ≤ a ∧ a ≤ 255) (hb : 0 ≤ b ∧ b ≤ 255) (k1 : kidsOf k = 0) :
    call S 171 [.ptr 0 0, .int .i64 dp] [rc (k :: a :: b :: r) nd false] = some (tv (.mk k (a * 256 + b) []), [rc r (nd + 1 : Nat) false]) := by
  have c1 := take_ok hA (k :: a :: b :: r) nd 1 (by simp) (by simp)
  have c2 := kids_spec hA k
  have c3 := take_ok hA (a :: b :: r) (nd + 1) 2 (by simp) (by simp)
  have e1 := wrap_i64 (n := (nd : Int) + 1) (by omega) (by omega)
  have e2 := wrap_i64 (n := k) (by omega) (by omega)
  have e3 := wrap_i64 (n := a) (by omega) (by omega)
  have e4 := wrap_i64 (n := b) (by omega) (by omega)
  have e7 := wrap_i64 (n := a * 256) (by omega) (by omega)
  have e9 := or_bytes' ha hb
  have e8 : (2 : Int) ^ min 8 IntKind.i64.bits = 256 := by decide
  have n0 : ¬ (6000 : Int) < (nd : Int) + 1 := by omega
  have d0 : ¬ 200 < dp := by omega
  simp [byR_cons] at c1 c3
  rw [hA.eq (m := m171) rfl]
  obtain ⟨_, ⟨T, H, m⟩, h, rfl, h2, h3, h4, l, left, nd', bad, h5, h6⟩ : Ends (EvL S [0, 1, 4, 5, 6] [0, 20, 22, 23] m171_l0 [.ptr 0 0, .int .i64 dp, .ptr 20 0, .ptr 22 0, .int .i64 0] [rc r (nd + 1) false, .cells [.int .i64 0, .int .i64 0, .sl .nil 3 []], .cells [.int .i64 k, .int .i64 (a * 256 + b), .sl (.tok 23) 3 (css [])], .tok 24 3 0] 1) (KidsQ k (a * 256 + b) (some ([], nd + 1, r)) []) := by
    refine .cps fun Q hQ => ?_
    rw [EvL_eq]
    simp [m171_l0, List.range, List.range.loop]
    exact .mk (hQ _ _ ⟨rfl, rfl, rfl, rfl, [], r, nd + 1, false, by simp, rfl, rfl, rfl, rfl⟩)
  obtain ⟨rfl, rfl, rfl, rfl⟩ := h6
  simp at h h2 h3 h4 h5
  simp [runL, m171, leave, List.range, List.range.loop, byR_cons, *]
theorem read_node {d : Nat} (hR : ReadsAt S d) (nd : Nat) (hn : nd < 6000) (hdp : d < 200) (k : Int) (r : List Int) (hk : 0 ≤ k ∧ k ≤ 255) (hr : okB r) (k1 : 0 < kidsOf k) :
    ∃ (t : Tm) (left' : List Int) (nd' : Int) (bad' : Bool), call S 171 [.ptr 0 0, .int .i64 (200 - (d : Int))] [rc (k :: r) nd false] = some (tv t, [rc left' nd' bad']) ∧
      RdQ ((rep (pkT d) (kidsOf k).toNat (nd + 1) r).map fun x => (.mk k 0 x.1, x.2.1, x.2.2)) t left' nd' bad' := by
  have hk3 : kidsOf k ≤ 3 := by unfold kidsOf; split <;> (try split) <;> (try split) <;> (try split) <;> omega
  obtain ⟨_, ⟨T, H, m⟩, h, rfl, h2, h3, h4, l, left, nd', bad, h5, h6⟩ := kids_loop hA (by omega) hR k 0 (kidsOf k).toNat r (nd + 1) [] hr (by omega) (by simp; omega)
  have e0 : ((kidsOf k).toNat : Int) = kidsOf k := by omega
  rw [e0] at h
  have c1 := take_ok hA (k :: r) nd 1 (by simp) (by simp)
  have c2 := kids_spec hA k
  have e1 := wrap_i64 (n := (nd : Int) + 1) (by omega) (by omega)
  have e2 := wrap_i64 (n := k) (by omega) (by omega)
  have n0 : ¬ (6000 : Int) < (nd : Int) + 1 := by omega
  have d0 : ¬ 200 < 200 - (d : Int) := by omega
  have k2 : ¬ kidsOf k = 0 := by omega
  have k3 : ¬ kidsOf k < 0 := by omega
  simp [byR_cons] at h h2 h3 h4 h5 c1
  refine ⟨.mk k 0 l, left, nd', bad, ?_, ?_⟩
  · rw [hA.eq (m := m171) rfl]
    simp [runL, m171, leave, List.range, List.range.loop, byR_cons, *]
  · cases hp : rep (pkT d) (kidsOf k).toNat (nd + 1) r with
    | none => rw [hp] at h6; exact h6
    | some x =>
      obtain ⟨l1, n1, r1⟩ := x
      rw [hp] at h6
      obtain ⟨g1, g2, g3, g4⟩ := h6
      exact ⟨by rw [g1], g2, g3, g4⟩
theorem read_spec : ∀ d : Nat, d ≤ 200 → ReadsAt S d := by
  intro d
  induction d with
  | zero =>
    intro _ nd left hb hn
    cases left with
    | nil =>
      obtain ⟨t, l, n, h⟩ := read_nil hA (201 - ((0 : Nat) : Int)) nd hn
      exact ⟨t, l, n, true, h, rfl⟩
    | cons k r =>
      obtain ⟨t, l, n, h⟩ := read_bad hA (201 - ((0 : Nat) : Int)) nd hn k r (okB_cons.1 hb).1 (.inr (.inr (by omega)))
      exact ⟨t, l, n, true, h, rfl⟩
  | succ d ih =>
    intro hd nd left hb hn
    have ed : 201 - ((d + 1 : Nat) : Int) = 200 - (d : Int) := by omega
    rw [ed]
    cases left with
    | nil =>
      obtain ⟨t, l, n, h⟩ := read_nil hA (200 - (d : Int)) nd hn
      exact ⟨t, l, n, true, h, rfl⟩
    | cons k r =>
      obtain ⟨hk, hr⟩ := okB_cons.1 hb
      by_cases hbad : kidsOf k < 0 ∨ 6000 ≤ nd
      · obtain ⟨t, l, n, h⟩ := read_bad hA (200 - (d : Int)) nd hn k r hk (by omega)
        refine ⟨t, l, n, true, h, ?_⟩
        simp only [pkT, if_pos hbad]
        rfl
      · simp only [pkT, if_neg hbad]
        by_cases k0 : kidsOf k = 0
        · rw [if_pos k0]
          match r, hr with
          | [], hr =>
            obtain ⟨t, l, n, h⟩ := read_leaf_short hA (200 - (d : Int)) nd (by omega) (by omega) k [] hk k0 (by simp)
            exact ⟨t, l, n, true, h, rfl⟩
          | [a], hr =>
            obtain ⟨t, l, n, h⟩ := read_leaf_short hA (200 - (d : Int)) nd (by omega) (by omega) k [a] hk k0 (by simp)
            exact ⟨t, l, n, true, h, rfl⟩
          | a :: b :: r', hr =>
            obtain ⟨ha, hr⟩ := okB_cons.1 hr
            obtain ⟨hb', hr⟩ := okB_cons.1 hr
            exact ⟨_, _, _, _, read_leaf hA (200 - (d : Int)) nd (by omega) (by omega) k a b r' hk ha hb' k0, rfl, rfl, rfl, rfl⟩
        · rw [if_neg k0]
          obtain ⟨t, l, n, bad, h, hq⟩ := read_node hA (ih (by omega)) nd (by omega) (by omega) k r hk hr (by omega)
          refine ⟨t, l, n, bad, h, ?_⟩
          cases hp : rep (pkT d) (kidsOf k).toNat (nd + 1) r with
          | none => rw [hp] at hq; exact hq
          | some x => rw [hp] at hq; exact hq
end Go.Px.B
/- The reader of piles. -/
set_option maxRecDepth 100000
set_option linter.unusedVariables false
set_option linter.unusedSimpArgs false
set_option linter.unusedSectionVars false
namespace Go.Px.B
open Go Go.Px
variable {S : Sys} (hA : Has S tabA)
include hA
def getR (b : List Int) (i : Nat) : Tm × Int × Int := match pkT 200 0 (b.drop i) with
  | some (t, _, r) => (t, b.length - r.length, 0)
  | none => (Tm.zero, 0, 3)
theorem get_spec (b : List Int) (hb : okB b) (i : Nat) (hi : i ≤ b.length) (hl : b.length < 1000000000) :
    call S 145 [.sl .plain 1 (byR b), .int .i64 i] [] = some (.tup [tv (getR b i).1, .int .i64 (getR b i).2.1, .int .i64 (getR b i).2.2], []) := by
  obtain ⟨t, left, nd, bad, hc, hq⟩ := read_spec hA 200 (by omega) 0 (b.drop i) (okB_drop i hb) (by omega)
  rw [hA.eq (m := m145) rfl]
  have h1 : ¬ (b.length : Int) < i := by omega
  have h0 : ¬ (i : Int) < 0 := by omega
  have e1 : (201 : Int) - (200 : Nat) = 1 := by omega
  rw [e1] at hc
  simp at hc
  unfold getR
  cases hp : pkT 200 0 (b.drop i) with
  | none =>
    rw [hp] at hq
    obtain rfl := hq
    simp [runL, m145, leave, hi, h0, h1, byR_take, byR_drop, hc, Tm.zero]
  | some x =>
    obtain ⟨t0, nd0, r0⟩ := x
    rw [hp] at hq
    obtain ⟨rfl, rfl, rfl, rfl⟩ := hq
    obtain ⟨f1, _⟩ := pk_sound 200 _ _ _ _ _ (okB_drop i hb) hp
    have f2 := congrArg List.length f1
    simp at f2
    have e2 := wrap_i64 (n := (b.length : Int) - left.length) (by omega) (by omega)
    simp [runL, m145, leave, hi, h0, h1, byR_take, byR_drop, hc, e2]

/-! ### the reader -/
@[simp] abbrev rp (b : List Int) (i : Int) (bad : Bool) : Obj := .cells [.sl .plain 1 (byR b), .int .i64 i, .bool bad]
/-- so much of the bytes is left -/
structure Left (b : List Int) (i : Nat) (left : List Int) : Prop where
  le : i ≤ b.length
  eq : b.drop i = left
def PQ {α : Type} (b : List Int) (o : Option (α × List Int)) (x : α) (i : Int) (bad : Bool) : Prop :=
  match o with
  | some (x0, r) => x = x0 ∧ bad = false ∧ ∃ k : Nat, i = k ∧ Left b k r
  | none => bad = true
structure Parses {α : Type} (S : Sys) (f : Nat) (enc : α → PV) (p : Pr α) (b : List Int) : Prop where
  good : ∀ (i : Nat) (left : List Int), Left b i left → ∃ (x : α) (i' : Int) (bad : Bool), call S f [.ptr 0 0] [rp b i false] = some (enc x, [rp b i' bad]) ∧ PQ b (p left) x i' bad
  bad : ∀ i : Int, ∃ (x : α) (i' : Int), call S f [.ptr 0 0] [rp b i true] = some (enc x, [rp b i' true])
omit hA in
theorem Left.cons {b : List Int} {i : Nat} {n : Int} {r : List Int} (h : Left b i (n :: r)) : i < b.length ∧ b[i]? = some n ∧ Left b (i + 1) r := by
  obtain ⟨g1, g2, g3⟩ := drop_cons' h.eq
  exact ⟨g1, g2, by omega, g3⟩
omit hA in
theorem Left.nil {b : List Int} {i : Nat} (h : Left b i []) : ¬ i < b.length := by
  have := drop_nil' h.eq
  omega
omit hA in
theorem Left.suff {b : List Int} {i : Nat} {w r : List Int} (h : Left b i (w ++ r)) : Left b (i + w.length) r := by
  have h1 := congrArg List.length h.eq
  simp at h1
  have := h.le
  refine ⟨by omega, ?_⟩
  rw [← List.drop_drop, h.eq, List.drop_left]
variable {b : List Int} (hb : okB b) (hl : b.length < 1000000)
include hb hl
theorem num_parses : Parses S 69 (fun n => PV.int .i64 n) pNum b where
  good i left h := by
    have hle := h.le
    cases left with
    | nil =>
      have := h.nil
      have h1 : (b.length : Int) ≤ i := by omega
      refine ⟨0, i, true, ?_, rfl⟩
      rw [hA.eq (m := m69) rfl]
      simp [runL, m69, leave, List.range, List.range.loop, *]
    | cons n r =>
      obtain ⟨g1, g2, g3⟩ := h.cons
      have h1 : ¬ (b.length : Int) ≤ i := by omega
      have e1 := wrap_i64 (n := (i : Int) + 1) (by omega) (by omega)
      have e2 := wrap_i64 (n := (i : Int) + 1 - 1) (by omega) (by omega)
      have e3 : (i : Int) + 1 - 1 = i := by omega
      rw [e3] at e2
      have hn := hb n (List.mem_of_getElem? g2)
      have e4 := wrap_i64 (n := n) (by omega) (by omega)
      refine ⟨n, (i + 1 : Nat), false, ?_, rfl, rfl, i + 1, rfl, g3⟩
      rw [hA.eq (m := m69) rfl]
      simp [-getElem?_pos, runL, m69, leave, List.range, List.range.loop, h1, e1, e2, e3, e4, g2]
  bad i := by
    refine ⟨0, i, ?_⟩
    rw [hA.eq (m := m69) rfl]
    simp [runL, m69, leave, List.range, List.range.loop]
theorem flag_parses : Parses S 147 (fun x => PV.bool x) pFlag b where
  good i left h := by
    obtain ⟨n, i', bad, hc, hq⟩ := (num_parses hA hb hl).good i left h
    cases left with
    | nil =>
      obtain rfl : bad = true := hq
      refine ⟨n == 1, i', true, ?_, rfl⟩
      rw [hA.eq (m := m147) rfl]
      simp at hc
      simp [runL, m147, leave, List.range, List.range.loop, hc]
    | cons n0 r =>
      obtain ⟨rfl, rfl, k, rfl, hk⟩ := hq
      simp at hc
      by_cases h1 : 1 < n
      · refine ⟨n == 1, k, true, ?_, by simp [pFlag, h1, PQ]⟩
        rw [hA.eq (m := m147) rfl]
        simp [runL, m147, leave, List.range, List.range.loop, hc, h1]
      · refine ⟨n == 1, k, false, ?_, by simp [pFlag, h1, PQ]; exact ⟨k, rfl, hk⟩⟩
        rw [hA.eq (m := m147) rfl]
        simp [runL, m147, leave, List.range, List.range.loop, hc, h1]
  bad i := by
    obtain ⟨n, i', hc⟩ := (num_parses hA hb hl).bad i
    refine ⟨n == 1, i', ?_⟩
    rw [hA.eq (m := m147) rfl]
    simp at hc
    simp [runL, m147, leave, List.range, List.range.loop, hc]
theorem term_parses : Parses S 113 tv pTm b where
  good i left h := by
    have hle := h.le
    cases left with
    | nil =>
      have := h.nil
      have h1 : (b.length : Int) ≤ i := by omega
      refine ⟨Tm.zero, i, true, ?_, rfl⟩
      rw [hA.eq (m := m113) rfl]
      simp [runL, m113, leave, List.range, List.range.loop, Tm.zero, *]
    | cons n r =>
      obtain ⟨g1, g2, g3⟩ := h.cons
      have h1 : ¬ (b.length : Int) ≤ i := by omega
      have e1 := wrap_i64 (n := (i : Int) + 1) (by omega) (by omega)
      by_cases n0 : n = 0
      · refine ⟨Tm.zero, (i + 1 : Nat), false, ?_, by simp [pTm, n0, PQ]; exact ⟨i + 1, by simp, g3⟩⟩
        rw [hA.eq (m := m113) rfl]
        simp [-getElem?_pos, runL, m113, leave, List.range, List.range.loop, Tm.zero, h1, e1, g2, n0]
      · have hg := get_spec hA b hb i hle (by omega)
        unfold getR at hg
        rw [h.eq] at hg
        cases hp : pkT 200 0 (n :: r) with
        | none =>
          rw [hp] at hg
          simp at hg
          refine ⟨Tm.zero, 0, true, ?_, by simp [pTm, n0, hp, PQ]⟩
          rw [hA.eq (m := m113) rfl]
          simp [-getElem?_pos, runL, m113, leave, List.range, List.range.loop, h1, e1, g2, n0, hg]
        | some x =>
          obtain ⟨t0, nd0, r0⟩ := x
          rw [hp] at hg
          simp at hg
          obtain ⟨f1, _⟩ := pk_sound 200 _ _ _ _ _ (by rw [← h.eq]; exact okB_drop i hb) hp
          have hL : Left b i (packT t0 ++ r0) := by rw [← f1]; exact h
          have hs := hL.suff
          have f2 := congrArg List.length hs.eq
          simp at f2
          have := hs.le
          refine ⟨t0, (b.length : Int) - r0.length, false, ?_, by simp [pTm, n0, hp, PQ]; exact ⟨_, by omega, hs⟩⟩
          rw [hA.eq (m := m113) rfl]
          simp [-getElem?_pos, runL, m113, leave, List.range, List.range.loop, h1, e1, g2, n0, hg]
  bad i := by
    refine ⟨Tm.zero, i, ?_⟩
    rw [hA.eq (m := m113) rfl]
    simp [runL, m113, leave, List.range, List.range.loop, Tm.zero]

/-- how a loop over rows ends: what has been gathered, and where the reader stands -/
def RowsQ {α : Type} (b : List Int) (enc : List α → PV) (tmp : Nat) (o : Option (List α × List Int)) (done : List α) (e : Ex) (σ : St) : Prop :=
  e = .ex 0 ∧ ∃ (l : List α) (i : Int) (bad : Bool), σ.T tmp = enc (done ++ l) ∧ σ.H 0 = rp b i bad ∧ PQ b o l i bad
omit hA hb hl in
theorem RowsQ.cons {α : Type} {enc : List α → PV} {tmp : Nat} {f : Pr α} {j : Nat} {left r : List Int} {done : List α} {x : α} {e : Ex} {σ : St} (hp : f left = some (x, r)) (h : RowsQ b enc tmp (pRep f j r) (done ++ [x]) e σ) :
    RowsQ b enc tmp (pRep f (j + 1) left) done e σ := by
  obtain ⟨h1, l, i, bad, h2, h3, h4⟩ := h
  refine ⟨h1, x :: l, i, bad, by rw [h2]; simp, h3, ?_⟩
  simp only [pRep, hp]
  cases hr : pRep f j r with
  | none => rw [hr] at h4; exact h4
  | some y =>
    rw [hr] at h4
    obtain ⟨g1, g2, g3⟩ := h4
    exact ⟨by rw [g1], g2, g3⟩
omit hA hb hl in
theorem RowsQ.fail {α : Type} {enc : List α → PV} {tmp : Nat} {f : Pr α} {j : Nat} {left : List Int} {done : List α} {x : α} {e : Ex} {σ : St} (hp : f left = none) (h : RowsQ b enc tmp none (done ++ [x]) e σ) :
    RowsQ b enc tmp (pRep f (j + 1) left) done e σ := by
  obtain ⟨h1, l, i, bad, h2, h3, h4⟩ := h
  exact ⟨h1, x :: l, i, bad, by rw [h2]; simp, h3, by simp only [pRep, hp]; exact h4⟩
omit hA hb hl in
theorem row_exit (n i : Int) (done : List Tm) : Ends (EvL S [0, 3, 4] [0, 20] m148_l0 [.ptr 0 0, .sl (.tok 20) 3 (css done), .int .i64 n] [rp b i true, .tok 24 3 done.length] 1) (RowsQ b (fun l => .sl (.tok 20) 3 (css l)) 3 none done) := by
  refine .cps fun Q hQ => ?_
  rw [EvL_eq]
  by_cases hj : 0 < n
  · simp [m148_l0, List.range, List.range.loop, hj]
    exact .mk (hQ _ _ ⟨rfl, [], i, true, by simp, by simp, rfl⟩)
  · simp [m148_l0, List.range, List.range.loop, hj]
    exact .mk (hQ _ _ ⟨rfl, [], i, true, by simp, by simp, rfl⟩)
theorem row_loopR : ∀ (j i : Nat) (left : List Int) (done : List Tm), Left b i left → done.length + j < 1000000 →
    Ends (EvL S [0, 3, 4] [0, 20] m148_l0 [.ptr 0 0, .sl (.tok 20) 3 (css done), .int .i64 j] [rp b i false, .tok 24 3 done.length] 1) (RowsQ b (fun l => .sl (.tok 20) 3 (css l)) 3 (pRep pTm j left) done)
  | 0, i, left, done, h, hd => by
    refine .cps fun Q hQ => ?_
    rw [EvL_eq]
    simp [m148_l0, List.range, List.range.loop]
    exact .mk (hQ _ _ ⟨rfl, [], i, false, by simp, by simp, rfl, rfl, i, rfl, h⟩)
  | j + 1, i, left, done, h, hd => by
    refine .cps fun Q hQ => ?_
    obtain ⟨t, i', bad, hc, hq⟩ := (term_parses hA hb hl).good i left h
    have e3 := wrap_i64 (n := (j : Int) + 1 - 1) (by omega) (by omega)
    have e4 : (j : Int) + 1 - 1 = j := by omega
    rw [e4] at e3
    have e5 : (0 : Int) < (j : Int) + 1 := by omega
    have e6 : (done.length + 1) * 40 ≤ 140737488355328 := by omega
    rw [EvL_eq]
    simp [m148_l0, List.range, List.range.loop, hc, e3, e4, e5, e6]
    cases hp : pTm left with
    | none =>
      rw [hp] at hq
      obtain rfl : bad = true := hq
      have := row_exit (S := S) (b := b) j i' (done ++ [t])
      simp [css_append, css_cons] at this
      exact this.imp fun e σ h => hQ _ _ (h.fail hp)
    | some x =>
      obtain ⟨t0, r⟩ := x
      rw [hp] at hq
      obtain ⟨rfl, rfl, k, rfl, hk⟩ := hq
      have ih := row_loopR j k r (done ++ [t]) hk (by simp; omega)
      simp [css_append, css_cons] at ih
      exact ih.imp fun e σ h => hQ _ _ (h.cons hp)
theorem row_parses : Parses S 148 ts pRow b where
  good i left h := by
    obtain ⟨n, i', bad, hc, hq⟩ := (num_parses hA hb hl).good i left h
    have hle := h.le
    simp at hc
    cases left with
    | nil =>
      obtain rfl : bad = true := hq
      obtain ⟨_, ⟨T, H, m⟩, h1, rfl, l, i2, bad, h2, h3, rfl⟩ := row_exit (S := S) (b := b) n i' []
      simp at h1 h2 h3
      refine ⟨l, i2, true, ?_, rfl⟩
      rw [hA.eq (m := m148) rfl]
      simp [runL, m148, leave, List.range, List.range.loop, *]
    | cons n0 r =>
      obtain ⟨rfl, rfl, k, rfl, hk⟩ := hq
      have hn := hb n (List.mem_of_getElem? h.cons.2.1)
      obtain ⟨_, ⟨T, H, m⟩, h1, rfl, l, i2, bad, h2, h3, h4⟩ := row_loopR hA hb hl n.toNat k r [] hk (by simp; omega)
      have e0 : (n.toNat : Int) = n := by omega
      rw [e0] at h1
      simp at h1 h2 h3
      refine ⟨l, i2, bad, ?_, h4⟩
      rw [hA.eq (m := m148) rfl]
      simp [runL, m148, leave, List.range, List.range.loop, *]
  bad i := by
    obtain ⟨n, i', hc⟩ := (num_parses hA hb hl).bad i
    simp at hc
    obtain ⟨_, ⟨T, H, m⟩, h1, rfl, l, i2, bad, h2, h3, rfl⟩ := row_exit (S := S) (b := b) n i' []
    simp at h1 h2 h3
    refine ⟨l, i2, ?_⟩
    rw [hA.eq (m := m148) rfl]
    simp [runL, m148, leave, List.range, List.range.loop, *]
end Go.Px.B
/- The reader of piles: arguments, blocks, declarations. -/
set_option maxRecDepth 100000
set_option linter.unusedVariables false
set_option linter.unusedSimpArgs false
set_option linter.unusedSectionVars false
namespace Go.Px.B
open Go Go.Px
/-! ### one read after the other -/
/-- what is left, if nothing was bad -/
def StQ (b : List Int) (s : Option (List Int)) (i : Int) (bad : Bool) : Prop :=
  match s with
  | some left => bad = false ∧ ∃ k : Nat, i = k ∧ Left b k left
  | none => bad = true
def Sim {α : Type} (o : Option (α × List Int)) (x : α) (s : Option (List Int)) : Prop :=
  match o with
  | some (y, r) => x = y ∧ s = some r
  | none => s = none
def Step {α : Type} (p : Pr α) (s : Option (List Int)) (x : α) (s' : Option (List Int)) : Prop :=
  match s with
  | some left => Sim (p left) x s'
  | none => s' = none
theorem Step.seq {α β : Type} {p : Pr α} {q : Pr β} {s s1 s2 : Option (List Int)} {x : α} {y : β} (h : Step p s x s1) (k : Step q s1 y s2) : Step (pSeq p q) s (x, y) s2 := by
  cases s with
  | none =>
    obtain rfl : s1 = none := h
    exact k
  | some left =>
    simp only [Step, Sim, pSeq] at h ⊢
    cases hp : p left with
    | none =>
      rw [hp] at h
      obtain rfl := h
      exact k
    | some z =>
      obtain ⟨a, r⟩ := z
      rw [hp] at h
      obtain ⟨rfl, rfl⟩ := h
      simp only [Step, Sim] at k
      simp only
      cases hq : q r with
      | none => rw [hq] at k; exact k
      | some z =>
        obtain ⟨c, r'⟩ := z
        rw [hq] at k
        obtain ⟨rfl, rfl⟩ := k
        exact ⟨rfl, rfl⟩
theorem Step.map {α β : Type} {p : Pr α} {s s1 : Option (List Int)} {x : α} (f : α → β) (h : Step p s x s1) : Step (pMap f p) s (f x) s1 := by
  cases s with
  | none => exact h
  | some left =>
    simp only [Step, Sim, pMap] at h ⊢
    cases hp : p left with
    | none => rw [hp] at h; exact h
    | some z =>
      obtain ⟨a, r⟩ := z
      rw [hp] at h
      obtain ⟨rfl, rfl⟩ := h
      exact ⟨rfl, rfl⟩
theorem StQ.pq {α : Type} {b : List Int} {p : Pr α} {left : List Int} {x : α} {s : Option (List Int)} {i : Int} {bad : Bool} (h : Step p (some left) x s) (k : StQ b s i bad) : PQ b (p left) x i bad := by
  simp only [Step, Sim] at h
  cases hp : p left with
  | none =>
    rw [hp] at h
    obtain rfl := h
    exact k
  | some z =>
    obtain ⟨a, r⟩ := z
    rw [hp] at h
    obtain ⟨rfl, rfl⟩ := h
    exact ⟨rfl, k.1, k.2⟩
theorem StQ.bad {b : List Int} {i : Int} : StQ b none i true := rfl
theorem StQ.good {b : List Int} {i : Nat} {left : List Int} (h : Left b i left) : StQ b (some left) i false := ⟨rfl, i, rfl, h⟩
variable {S : Sys}
theorem Parses.run {α : Type} {f : Nat} {enc : α → PV} {p : Pr α} {b : List Int} (h : Parses S f enc p b) {s : Option (List Int)} {i : Int} {bad : Bool} (hs : StQ b s i bad) :
    ∃ (x : α) (i' : Int) (bad' : Bool) (s' : Option (List Int)), call S f [.ptr 0 0] [rp b i bad] = some (enc x, [rp b i' bad']) ∧ StQ b s' i' bad' ∧ Step p s x s' := by
  cases s with
  | none =>
    obtain rfl : bad = true := hs
    obtain ⟨x, i', hc⟩ := h.bad i
    exact ⟨x, i', true, none, hc, rfl, rfl⟩
  | some left =>
    obtain ⟨rfl, k, rfl, hk⟩ := hs
    obtain ⟨x, i', bad, hc, hq⟩ := h.good k left hk
    cases hp : p left with
    | none =>
      rw [hp] at hq
      obtain rfl : bad = true := hq
      exact ⟨x, i', true, none, hc, rfl, by simp only [Step, Sim, hp]⟩
    | some z =>
      obtain ⟨a, r⟩ := z
      rw [hp] at hq
      obtain ⟨rfl, rfl, hk⟩ := hq
      exact ⟨x, i', false, some r, hc, ⟨rfl, hk⟩, by simp [Step, Sim, hp]⟩
variable (hA : Has S tabA) {b : List Int} (hb : okB b) (hl : b.length < 1000000)
include hA hb hl
omit hA hb hl in
theorem args_exit (n i : Int) (done : List Ag) : Ends (EvL S [0, 3, 4] [0, 20] m146_l0 [.ptr 0 0, .sl (.tok 20) 7 (acs done), .int .i64 n] [rp b i true, .tok 38 7 done.length] 1) (RowsQ b (fun l => .sl (.tok 20) 7 (acs l)) 3 none done) := by
  refine .cps fun Q hQ => ?_
  rw [EvL_eq]
  by_cases hj : 0 < n
  · simp [m146_l0, List.range, List.range.loop, hj]
    exact .mk (hQ _ _ ⟨rfl, [], i, true, by simp, by simp, rfl⟩)
  · simp [m146_l0, List.range, List.range.loop, hj]
    exact .mk (hQ _ _ ⟨rfl, [], i, true, by simp, by simp, rfl⟩)
theorem args_loopR : ∀ (j i : Nat) (left : List Int) (done : List Ag), Left b i left → done.length + j < 1000000 →
    Ends (EvL S [0, 3, 4] [0, 20] m146_l0 [.ptr 0 0, .sl (.tok 20) 7 (acs done), .int .i64 j] [rp b i false, .tok 38 7 done.length] 1) (RowsQ b (fun l => .sl (.tok 20) 7 (acs l)) 3 (pRep pAg j left) done)
  | 0, i, left, done, h, hd => by
    refine .cps fun Q hQ => ?_
    rw [EvL_eq]
    simp [m146_l0, List.range, List.range.loop]
    exact .mk (hQ _ _ ⟨rfl, [], i, false, by simp, by simp, rfl, rfl, i, rfl, h⟩)
  | j + 1, i, left, done, h, hd => by
    refine .cps fun Q hQ => ?_
    obtain ⟨x1, i1, b1, s1, c1, q1, p1⟩ := (flag_parses hA hb hl).run (.good h)
    obtain ⟨x2, i2, b2, s2, c2, q2, p2⟩ := (term_parses hA hb hl).run q1
    obtain ⟨x3, i3, b3, s3, c3, q3, p3⟩ := (row_parses hA hb hl).run q2
    obtain ⟨x4, i4, b4, s4, c4, q4, p4⟩ := (num_parses hA hb hl).run q3
    obtain ⟨x5, i5, b5, s5, c5, q5, p5⟩ := (row_parses hA hb hl).run q4
    have hq : PQ b (pAg left) ⟨x1, x2, x3, x4, x5⟩ i5 b5 := q5.pq (p := pAg) ((p1.seq (p2.seq (p3.seq (p4.seq p5)))).map fun x : Bool × Tm × List Tm × Int × List Tm => (⟨x.1, x.2.1, x.2.2.1, x.2.2.2.1, x.2.2.2.2⟩ : Ag))
    have e3 := wrap_i64 (n := (j : Int) + 1 - 1) (by omega) (by omega)
    have e4 : (j : Int) + 1 - 1 = j := by omega
    rw [e4] at e3
    have e5 : (0 : Int) < (j : Int) + 1 := by omega
    have e6 : (done.length + 1) * 104 ≤ 140737488355328 := by omega
    rw [EvL_eq]
    simp [m146_l0, List.range, List.range.loop, c1, c2, c3, c4, c5, e3, e4, e5, e6]
    cases hp : pAg left with
    | none =>
      rw [hp] at hq
      obtain rfl : b5 = true := hq
      have := args_exit (S := S) (b := b) j i5 (done ++ [⟨x1, x2, x3, x4, x5⟩])
      simp [acs_append, acs_cons] at this
      exact this.imp fun e σ h => hQ _ _ (h.fail hp)
    | some x =>
      obtain ⟨t0, r⟩ := x
      rw [hp] at hq
      obtain ⟨rfl, rfl, k, rfl, hk⟩ := hq
      have ih := args_loopR j k r (done ++ [⟨x1, x2, x3, x4, x5⟩]) hk (by simp; omega)
      simp [acs_append, acs_cons] at ih
      exact ih.imp fun e σ h => hQ _ _ (h.cons hp)
theorem args_parses : Parses S 146 avs pArgs b where
  good i left h := by
    obtain ⟨n, i', bad, hc, hq⟩ := (num_parses hA hb hl).good i left h
    have hle := h.le
    simp at hc
    cases left with
    | nil =>
      obtain rfl : bad = true := hq
      obtain ⟨_, ⟨T, H, m⟩, h1, rfl, l, i2, bad, h2, h3, rfl⟩ := args_exit (S := S) (b := b) n i' []
      simp at h1 h2 h3
      refine ⟨l, i2, true, ?_, rfl⟩
      rw [hA.eq (m := m146) rfl]
      simp [runL, m146, leave, List.range, List.range.loop, *]
    | cons n0 r =>
      obtain ⟨rfl, rfl, k, rfl, hk⟩ := hq
      have hn := hb n (List.mem_of_getElem? h.cons.2.1)
      obtain ⟨_, ⟨T, H, m⟩, h1, rfl, l, i2, bad, h2, h3, h4⟩ := args_loopR hA hb hl n.toNat k r [] hk (by simp; omega)
      have e0 : (n.toNat : Int) = n := by omega
      rw [e0] at h1
      simp at h1 h2 h3
      refine ⟨l, i2, bad, ?_, h4⟩
      rw [hA.eq (m := m146) rfl]
      simp [runL, m146, leave, List.range, List.range.loop, *]
  bad i := by
    obtain ⟨n, i', hc⟩ := (num_parses hA hb hl).bad i
    simp at hc
    obtain ⟨_, ⟨T, H, m⟩, h1, rfl, l, i2, bad, h2, h3, rfl⟩ := args_exit (S := S) (b := b) n i' []
    simp at h1 h2 h3
    refine ⟨l, i2, ?_⟩
    rw [hA.eq (m := m146) rfl]
    simp [runL, m146, leave, List.range, List.range.loop, *]
end Go.Px.B
/- What is read is no greater than its bytes: plain. -/
set_option linter.unusedVariables false
set_option linter.unusedSimpArgs false
namespace Go.Px
mutual
theorem packT_ge : ∀ t : Tm, formed t = true → t.size ≤ (packT t).length
  | .mk k n l, h => by
    rw [formed_mk] at h
    have := packTs_ge l h.2
    simp only [packT, Tm.size]
    split
    · rename_i h0
      have hl : l = [] := List.length_eq_zero_iff.1 (by omega)
      subst hl
      simp [sizes]
    · simp; omega
theorem packTs_ge : ∀ l : List Tm, (∀ t ∈ l, formed t = true) → sizes l ≤ (packTs l).length
  | [], _ => by simp [sizes]
  | t :: r, h => by
    have := packT_ge t (h t (by simp))
    have := packTs_ge r fun x hx => h x (by simp [hx])
    simp only [packTs, sizes, List.length_append]
    omega
end
theorem tmBytes_ge {t : Tm} (h : okTm t) : t.size ≤ (tmBytes t).length := by
  unfold tmBytes
  rcases h with rfl | h
  · simp [Tm.zero, isNone, Tm.size, sizes]
  · have h3 := (tmCheck_zero.1 h).2.2
    have := packT_ge t h3
    split
    · rename_i hn
      obtain rfl := isNone_iff.1 hn
      simp [Tm.zero, Tm.size, sizes]
    · exact this
theorem tmsBytes_ge : ∀ {l : List Tm}, (∀ t ∈ l, okTm t) → sizes l ≤ (tmsBytes l).length
  | [], _ => by simp [sizes]
  | t :: r, h => by
    have := tmBytes_ge (h t (by simp))
    have := tmsBytes_ge (l := r) fun x hx => h x (by simp [hx])
    simp only [tmsBytes, List.flatMap_cons, sizes, List.length_append] at this ⊢
    omega
theorem agBytes_ge {a : Ag} (h : okAg a) : a.size ≤ (agBytes a).length := by
  have := tmBytes_ge h.1
  have := tmsBytes_ge h.2.1.2
  have := tmsBytes_ge h.2.2.2.2
  simp [agBytes, rowBytes, Ag.size]
  omega
theorem agsBytes_ge : ∀ {l : List Ag}, (∀ t ∈ l, okAg t) → agSizes l ≤ (agsBytes l).length
  | [], _ => by simp [agSizes]
  | t :: r, h => by
    have := agBytes_ge (h t (by simp))
    have := agsBytes_ge (l := r) fun x hx => h x (by simp [hx])
    simp only [agsBytes, List.flatMap_cons, agSizes, List.length_append] at this ⊢
    omega
theorem srtBytes_ge {a : Srt} (h : okSrt a) : a.size ≤ (srtBytes a).length := by
  have := agsBytes_ge h.1.2
  have := tmBytes_ge h.2.2
  simp [srtBytes, argsBytes, Srt.size]
  omega
theorem srtsBytes_ge : ∀ {l : List Srt}, (∀ t ∈ l, okSrt t) → srtSizes l ≤ (srtsBytes l).length
  | [], _ => by simp [srtSizes]
  | t :: r, h => by
    have := srtBytes_ge (h t (by simp))
    have := srtsBytes_ge (l := r) fun x hx => h x (by simp [hx])
    simp only [srtsBytes, List.flatMap_cons, srtSizes, List.length_append] at this ⊢
    omega
theorem cnBytes_ge {a : Cn} (h : okCn a) : a.size ≤ (cnBytes a).length := by
  have := agsBytes_ge h.2.1.2
  have := tmsBytes_ge h.2.2.1.2
  have := tmBytes_ge h.2.2.2
  simp [cnBytes, argsBytes, rowBytes, Cn.size]
  omega
theorem cnsBytes_ge : ∀ {l : List Cn}, (∀ t ∈ l, okCn t) → cnSizes l ≤ (cnsBytes l).length
  | [], _ => by simp [cnSizes]
  | t :: r, h => by
    have := cnBytes_ge (h t (by simp))
    have := cnsBytes_ge (l := r) fun x hx => h x (by simp [hx])
    simp only [cnsBytes, List.flatMap_cons, cnSizes, List.length_append] at this ⊢
    omega
theorem blkBytes_ge {b : Blk} (h : okBlk b) : b.size ≤ (blkBytes b).length := by
  have := srtsBytes_ge h.1.2
  have := cnsBytes_ge h.2.1.2
  simp [blkBytes, Blk.size]
  omega
theorem zero_size : Tm.zero.size = 1 := by simp [Tm.zero, Tm.size, sizes]
theorem blk_zero_size : Blk.zero.size = 1 := by simp [Blk.zero, Blk.size, srtSizes, cnSizes]
theorem pBody_size {k : Int} {left r : List Int} {d : Dcl} (hb : okB left) (h : pBody k left = some (d, r)) : d.size ≤ left.length + 4 ∧ r.length ≤ left.length := by
  unfold pBody at h
  have hz := zero_size
  have hz2 := blk_zero_size
  split at h
  · simp only [pMap] at h
    split at h
    · cases h
    rename_i t r1 h1
    simp only [Option.some.injEq, Prod.mk.injEq] at h
    obtain ⟨rfl, rfl⟩ := h
    obtain ⟨e, o⟩ := iso_tm.bwd _ _ _ hb h1
    have := tmBytes_ge o
    rw [e]
    simp [Dcl.size]
    omega
  split at h
  · simp only [pMap] at h
    split at h
    · cases h
    rename_i t r1 h1
    simp only [Option.some.injEq, Prod.mk.injEq] at h
    obtain ⟨rfl, rfl⟩ := h
    obtain ⟨e, o1, o2⟩ := (iso_tm.seq iso_tm).bwd _ _ _ hb h1
    have := tmBytes_ge o1
    have := tmBytes_ge o2
    rw [e]
    simp [Dcl.size]
    omega
  split at h
  · simp only [pMap] at h
    split at h
    · cases h
    rename_i t r1 h1
    simp only [Option.some.injEq, Prod.mk.injEq] at h
    obtain ⟨rfl, rfl⟩ := h
    obtain ⟨e, o⟩ := iso_blk.bwd _ _ _ hb h1
    have := blkBytes_ge o
    rw [e]
    simp [Dcl.size]
    omega
  · cases h
end Go.Px
/- The reader of piles: blocks, declarations, piles. -/
set_option maxRecDepth 100000
set_option linter.unusedVariables false
set_option linter.unusedSimpArgs false
set_option linter.unusedSectionVars false
namespace Go.Px.B
open Go Go.Px
/-- how a loop over rows ends, in general -/
def RQ {α : Type} (b : List Int) (P : List α → Int → Bool → Ex → St → Prop) (o : Option (List α × List Int)) (done : List α) (e : Ex) (σ : St) : Prop :=
  ∃ (l : List α) (i : Int) (bad : Bool), P (done ++ l) i bad e σ ∧ PQ b o l i bad
theorem RQ.cons {α : Type} {b : List Int} {P : List α → Int → Bool → Ex → St → Prop} {f : Pr α} {j : Nat} {left r : List Int} {done : List α} {x : α} {e : Ex} {σ : St} (hp : f left = some (x, r)) (h : RQ b P (pRep f j r) (done ++ [x]) e σ) :
    RQ b P (pRep f (j + 1) left) done e σ := by
  obtain ⟨l, i, bad, h1, h4⟩ := h
  refine ⟨x :: l, i, bad, by simpa using h1, ?_⟩
  simp only [pRep, hp]
  cases hr : pRep f j r with
  | none => rw [hr] at h4; exact h4
  | some y =>
    rw [hr] at h4
    obtain ⟨g1, g2, g3⟩ := h4
    exact ⟨by rw [g1], g2, g3⟩
theorem RQ.fail {α : Type} {b : List Int} {P : List α → Int → Bool → Ex → St → Prop} {f : Pr α} {j : Nat} {left : List Int} {done : List α} {x : α} {e : Ex} {σ : St} (hp : f left = none) (h : RQ b P none (done ++ [x]) e σ) :
    RQ b P (pRep f (j + 1) left) done e σ := by
  obtain ⟨l, i, bad, h1, h4⟩ := h
  exact ⟨x :: l, i, bad, by simpa using h1, by simp only [pRep, hp]; exact h4⟩
variable {S : Sys} (hA : Has S tabA) {b : List Int} (hb : okB b) (hl : b.length < 1000000)
include hA hb hl
@[simp] abbrev z3 : Obj := .cells [.sl .nil 6 [], .sl .nil 6 [], .int .i64 0]
def SrtsP (b : List Int) (l : List Srt) (i : Int) (bad : Bool) (e : Ex) (σ : St) : Prop :=
  e = .ex 0 ∧ σ.m = 1 ∧ σ.T 0 = .ptr 0 0 ∧ σ.T 2 = .ptr 20 0 ∧ σ.T 3 = .ptr 21 0 ∧
    σ.H = ofH [(0, rp b i bad), (20, z3), (21, .cells [.sl (.tok 22) 6 (scs l), .sl (.tok 23) 6 [], .int .i64 0]), (22, .tok 49 6 l.length), (23, .tok 41 6 0)]
omit hA hb hl in
theorem srts_exit (n i : Int) (done : List Srt) : Ends (EvL S [0, 2, 3, 4] [0, 20, 21, 22, 23] m114_l1 [.ptr 0 0, .ptr 20 0, .ptr 21 0, .int .i64 n] [rp b i true, z3, .cells [.sl (.tok 22) 6 (scs done), .sl (.tok 23) 6 [], .int .i64 0], .tok 49 6 done.length, .tok 41 6 0] 1) (RQ b (SrtsP b) none done) := by
  refine .cps fun Q hQ => ?_
  rw [EvL_eq]
  by_cases hj : 0 < n
  · simp [m114_l1, List.range, List.range.loop, hj]
    exact .mk (hQ _ _ ⟨[], i, true, ⟨rfl, rfl, rfl, rfl, rfl, by simp⟩, rfl⟩)
  · simp [m114_l1, List.range, List.range.loop, hj]
    exact .mk (hQ _ _ ⟨[], i, true, ⟨rfl, rfl, rfl, rfl, rfl, by simp⟩, rfl⟩)
theorem srts_loopR : ∀ (j i : Nat) (left : List Int) (done : List Srt), Left b i left → done.length + j < 1000000 →
    Ends (EvL S [0, 2, 3, 4] [0, 20, 21, 22, 23] m114_l1 [.ptr 0 0, .ptr 20 0, .ptr 21 0, .int .i64 j] [rp b i false, z3, .cells [.sl (.tok 22) 6 (scs done), .sl (.tok 23) 6 [], .int .i64 0], .tok 49 6 done.length, .tok 41 6 0] 1) (RQ b (SrtsP b) (pRep pSrt j left) done)
  | 0, i, left, done, h, hd => by
    refine .cps fun Q hQ => ?_
    rw [EvL_eq]
    simp [m114_l1, List.range, List.range.loop]
    exact .mk (hQ _ _ ⟨[], i, false, ⟨rfl, rfl, rfl, rfl, rfl, by simp⟩, rfl, rfl, i, rfl, h⟩)
  | j + 1, i, left, done, h, hd => by
    refine .cps fun Q hQ => ?_
    obtain ⟨x1, i1, b1, s1, c1, q1, p1⟩ := (args_parses hA hb hl).run (.good h)
    obtain ⟨x2, i2, b2, s2, c2, q2, p2⟩ := (num_parses hA hb hl).run q1
    obtain ⟨x3, i3, b3, s3, c3, q3, p3⟩ := (flag_parses hA hb hl).run q2
    obtain ⟨x4, i4, b4, s4, c4, q4, p4⟩ := (term_parses hA hb hl).run q3
    have hq : PQ b (pSrt left) ⟨x1, x2, x3, x4⟩ i4 b4 := q4.pq (p := pSrt) ((p1.seq (p2.seq (p3.seq p4))).map fun x : List Ag × Int × Bool × Tm => (⟨x.1, x.2.1, x.2.2.1, x.2.2.2⟩ : Srt))
    have e3 := wrap_i64 (n := (j : Int) + 1 - 1) (by omega) (by omega)
    have e4 : (j : Int) + 1 - 1 = j := by omega
    rw [e4] at e3
    have e5 : (0 : Int) < (j : Int) + 1 := by omega
    have e6 : (done.length + 1) * 80 ≤ 140737488355328 := by omega
    rw [EvL_eq]
    simp [m114_l1, List.range, List.range.loop, c1, c2, c3, c4, e3, e4, e5, e6]
    cases hp : pSrt left with
    | none =>
      rw [hp] at hq
      obtain rfl : b4 = true := hq
      have := srts_exit (S := S) (b := b) j i4 (done ++ [⟨x1, x2, x3, x4⟩])
      simp [scs_append, scs_cons] at this
      exact this.imp fun e σ h => hQ _ _ (h.fail hp)
    | some x =>
      obtain ⟨t0, r⟩ := x
      rw [hp] at hq
      obtain ⟨rfl, rfl, k, rfl, hk⟩ := hq
      have ih := srts_loopR j k r (done ++ [⟨x1, x2, x3, x4⟩]) hk (by simp; omega)
      simp [scs_append, scs_cons] at ih
      exact ih.imp fun e σ h => hQ _ _ (h.cons hp)
def CnsP (b : List Int) (ss : List Srt) (l : List Cn) (i : Int) (bad : Bool) (e : Ex) (σ : St) : Prop :=
  e = .ex 2 ∧ σ.m = 1 ∧ σ.T 0 = .ptr 0 0 ∧ σ.T 2 = .ptr 20 0 ∧ σ.T 3 = .ptr 21 0 ∧
    σ.H = ofH [(0, rp b i bad), (20, z3), (21, .cells [.sl (.tok 22) 6 (scs ss), .sl (.tok 23) 6 (ccs l), .int .i64 0]), (22, .tok 49 6 ss.length), (23, .tok 41 6 l.length), (31, .free)]
omit hA hb hl in
theorem cns_exit (ss : List Srt) (n i : Int) (done : List Cn) : Ends (EvL S [0, 2, 3, 6] [0, 20, 21, 22, 23, 31] m114_l0 [.ptr 0 0, .ptr 20 0, .ptr 21 0, .int .i64 n] [rp b i true, z3, .cells [.sl (.tok 22) 6 (scs ss), .sl (.tok 23) 6 (ccs done), .int .i64 0], .tok 49 6 ss.length, .tok 41 6 done.length, .free] 1) (RQ b (CnsP b ss) none done) := by
  refine .cps fun Q hQ => ?_
  rw [EvL_eq]
  by_cases hj : 0 < n
  · simp [m114_l0, List.range, List.range.loop, hj]
    exact .mk (hQ _ _ ⟨[], i, true, ⟨rfl, rfl, rfl, rfl, rfl, by simp⟩, rfl⟩)
  · simp [m114_l0, List.range, List.range.loop, hj]
    exact .mk (hQ _ _ ⟨[], i, true, ⟨rfl, rfl, rfl, rfl, rfl, by simp⟩, rfl⟩)
theorem cns_loopR (ss : List Srt) : ∀ (j i : Nat) (left : List Int) (done : List Cn), Left b i left → done.length + j < 1000000 →
    Ends (EvL S [0, 2, 3, 6] [0, 20, 21, 22, 23, 31] m114_l0 [.ptr 0 0, .ptr 20 0, .ptr 21 0, .int .i64 j] [rp b i false, z3, .cells [.sl (.tok 22) 6 (scs ss), .sl (.tok 23) 6 (ccs done), .int .i64 0], .tok 49 6 ss.length, .tok 41 6 done.length, .free] 1) (RQ b (CnsP b ss) (pRep pCn j left) done)
  | 0, i, left, done, h, hd => by
    refine .cps fun Q hQ => ?_
    rw [EvL_eq]
    simp [m114_l0, List.range, List.range.loop]
    exact .mk (hQ _ _ ⟨[], i, false, ⟨rfl, rfl, rfl, rfl, rfl, by simp⟩, rfl, rfl, i, rfl, h⟩)
  | j + 1, i, left, done, h, hd => by
    refine .cps fun Q hQ => ?_
    obtain ⟨x1, i1, b1, s1, c1, q1, p1⟩ := (num_parses hA hb hl).run (.good h)
    obtain ⟨x2, i2, b2, s2, c2, q2, p2⟩ := (args_parses hA hb hl).run q1
    obtain ⟨x3, i3, b3, s3, c3, q3, p3⟩ := (row_parses hA hb hl).run q2
    obtain ⟨x4, i4, b4, s4, c4, q4, p4⟩ := (term_parses hA hb hl).run q3
    have hq : PQ b (pCn left) ⟨x1, x2, x3, x4⟩ i4 b4 := q4.pq (p := pCn) ((p1.seq (p2.seq (p3.seq p4))).map fun x : Int × List Ag × List Tm × Tm => (⟨x.1, x.2.1, x.2.2.1, x.2.2.2⟩ : Cn))
    have e3 := wrap_i64 (n := (j : Int) + 1 - 1) (by omega) (by omega)
    have e4 : (j : Int) + 1 - 1 = j := by omega
    rw [e4] at e3
    have e5 : (0 : Int) < (j : Int) + 1 := by omega
    have e6 : (done.length + 1) * 96 ≤ 140737488355328 := by omega
    rw [EvL_eq]
    simp [m114_l0, List.range, List.range.loop, c1, c2, c3, c4, e3, e4, e5, e6]
    cases hp : pCn left with
    | none =>
      rw [hp] at hq
      obtain rfl : b4 = true := hq
      have := cns_exit (S := S) (b := b) ss j i4 (done ++ [⟨x1, x2, x3, x4⟩])
      simp [ccs_append, ccs_cons] at this
      exact this.imp fun e σ h => hQ _ _ (h.fail hp)
    | some x =>
      obtain ⟨t0, r⟩ := x
      rw [hp] at hq
      obtain ⟨rfl, rfl, k, rfl, hk⟩ := hq
      have ih := cns_loopR ss j k r (done ++ [⟨x1, x2, x3, x4⟩]) hk (by simp; omega)
      simp [ccs_append, ccs_cons] at ih
      exact ih.imp fun e σ h => hQ _ _ (h.cons hp)
omit hA hb hl in
theorem StQ.ofPQ {α : Type} {p : Pr α} {left : List Int} {x : α} {i : Int} {bad : Bool} (h : PQ b (p left) x i bad) : ∃ s, StQ b s i bad ∧ Step p (some left) x s := by
  cases hp : p left with
  | none =>
    rw [hp] at h
    obtain rfl : bad = true := h
    exact ⟨none, rfl, by simp [Step, Sim, hp]⟩
  | some y =>
    rw [hp] at h
    obtain ⟨rfl, rfl, h⟩ := h
    exact ⟨some y.2, ⟨rfl, h⟩, by simp [Step, Sim, hp]⟩
omit hA in
/-- a number, and so many rows -/
theorem listQ {α : Type} {f : Pr α} {P : List α → Int → Bool → Ex → St → Prop} {s : Option (List Int)} {n i : Int} {bad : Bool} {s0 : Option (List Int)} (hq : StQ b s i bad) (hn : Step pNum s0 n s) (h0 : ∀ left, s0 = some left → okB left) {r : Option (Ex × St)}
    (hexit : ∀ i : Int, i = i → bad = true → Ends r (RQ b P none [])) (hloop : ∀ (k : Nat) (left : List Int), bad = false → i = k → 0 ≤ n → n ≤ 255 → Left b k left → Ends r (RQ b P (pRep f n.toNat left) [])) :
    Ends r fun e σ => ∃ (l : List α) (i' : Int) (bad' : Bool) (s' : Option (List Int)), P l i' bad' e σ ∧ StQ b s' i' bad' ∧ Step (pList f) s0 l s' := by
  cases s with
  | none =>
    obtain rfl : bad = true := hq
    refine (hexit i rfl rfl).imp fun e σ h => ?_
    obtain ⟨l, i2, bad2, h1, rfl⟩ := h
    refine ⟨l, i2, true, none, by simpa using h1, rfl, ?_⟩
    cases s0 with
    | none => rfl
    | some left =>
      simp only [Step, Sim] at hn ⊢
      cases hp : pNum left with
      | none => simp [pList, hp]
      | some y => rw [hp] at hn; cases hn.2
  | some left =>
    obtain ⟨rfl, k, rfl, hk⟩ := hq
    cases s0 with
    | none => cases hn
    | some left0 =>
      simp only [Step, Sim] at hn
      cases hp : pNum left0 with
      | none => rw [hp] at hn; cases hn
      | some y =>
        obtain ⟨n0, r0⟩ := y
        rw [hp] at hn
        obtain ⟨rfl, h3⟩ := hn
        cases h3
        have hr := (iso_num.bwd _ _ _ (h0 _ rfl) hp).2
        refine (hloop k left rfl rfl hr.1 hr.2 hk).imp fun e σ h => ?_
        obtain ⟨l, i2, bad2, h1, h4⟩ := h
        obtain ⟨s', h5, h6⟩ := StQ.ofPQ (p := pRep f n.toNat) (left := left) h4
        refine ⟨l, i2, bad2, s', by simpa using h1, h5, ?_⟩
        simp only [Step, Sim, pList, hp] at h6 ⊢
        exact h6
omit hA in
theorem StQ.okB {s : Option (List Int)} {i : Int} {bad : Bool} (h : StQ b s i bad) : ∀ left, s = some left → okB left := by
  intro left e
  subst e
  obtain ⟨_, k, _, hk⟩ := h
  rw [← hk.eq]
  exact okB_drop k hb
theorem block_run {s : Option (List Int)} {i : Int} {bad : Bool} (hs : StQ b s i bad) :
    ∃ (x : Blk) (i' : Int) (bad' : Bool) (s' : Option (List Int)), call S 114 [.ptr 0 0] [rp b i bad] = some (bv x, [rp b i' bad']) ∧ StQ b s' i' bad' ∧ Step pBlk s x s' := by
  obtain ⟨n1, i1, b1, s1, c1, q1, p1⟩ := (num_parses hA hb hl).run hs
  obtain ⟨_, ⟨T, H, m⟩, l1, ss, i2, b2, s2, ⟨rfl, rfl, t0, t2, t3, rfl⟩, q2, p2⟩ := listQ (f := pSrt) (P := SrtsP b) hb hl q1 p1 (hs.okB hb hl) (r := EvL S [0, 2, 3, 4] [0, 20, 21, 22, 23] m114_l1 [.ptr 0 0, .ptr 20 0, .ptr 21 0, .int .i64 n1] [rp b i1 b1, z3, .cells [.sl (.tok 22) 6 [], .sl (.tok 23) 6 [], .int .i64 0], .tok 49 6 0, .tok 41 6 0] 1)
    (fun _ _ e => by subst e; exact srts_exit n1 i1 []) (fun k left e1 e2 h1 h2 hk => by
      subst e1
      have := srts_loopR hA hb hl n1.toNat k left [] hk (by simp; omega)
      rw [e2]
      have e0 : (n1.toNat : Int) = n1 := by omega
      rw [e0] at this
      exact this)
  obtain ⟨n3, i3, b3, s3, c3, q3, p3⟩ := (num_parses hA hb hl).run q2
  obtain ⟨_, ⟨T2, H2, m2⟩, l2, cc, i4, b4, s4, ⟨rfl, rfl, t20, t22, t23, rfl⟩, q4, p4⟩ := listQ (f := pCn) (P := CnsP b ss) hb hl q3 p3 (q2.okB hb hl) (r := EvL S [0, 2, 3, 6] [0, 20, 21, 22, 23, 31] m114_l0 [.ptr 0 0, .ptr 20 0, .ptr 21 0, .int .i64 n3] [rp b i3 b3, z3, .cells [.sl (.tok 22) 6 (scs ss), .sl (.tok 23) 6 [], .int .i64 0], .tok 49 6 ss.length, .tok 41 6 0, .free] 1)
    (fun _ _ e => by subst e; exact cns_exit ss n3 i3 []) (fun k left e1 e2 h1 h2 hk => by
      subst e1
      have := cns_loopR hA hb hl ss n3.toNat k left [] hk (by simp; omega)
      rw [e2]
      have e0 : (n3.toNat : Int) = n3 := by omega
      rw [e0] at this
      exact this)
  obtain ⟨n5, i5, b5, s5, c5, q5, p5⟩ := (num_parses hA hb hl).run q4
  refine ⟨⟨ss, cc, n5⟩, i5, b5, s5, ?_, q5, (p2.seq (p4.seq p5)).map fun x : List Srt × List Cn × Int => (⟨x.1, x.2.1, x.2.2⟩ : Blk)⟩
  rw [hA.eq (m := m114) rfl]
  simp at c1 c3 c5 t0 t2 t3 t20 t22 t23 l1 l2
  simp [runL, m114, leave, List.range, List.range.loop, *]
end Go.Px.B
/- The reader of piles: declarations, piles. -/
set_option maxRecDepth 100000
set_option linter.unusedVariables false
set_option linter.unusedSimpArgs false
set_option linter.unusedSectionVars false
namespace Go.Px.B
open Go Go.Px
variable {S : Sys} (hA : Has S tabA) {b : List Int} (hb : okB b) (hl : b.length < 1000000)
include hA hb hl
omit hA in
/-- a declaration's end: is it right? -/
theorem dcl_end {k : Int} {s0 s1 s2 : Option (List Int)} {d : Dcl} {i1 i2 : Int} {b1 b2 : Bool} (q1 : StQ b s1 i1 b1) (h0 : ∀ left, s0 = some left → okB left) (p1 : Step pNum s0 k s1) (p2 : Step (pBody k) s1 d s2) (q2 : StQ b s2 i2 b2) :
    (b2 = false → d.size < 1000000000) ∧ ∃ s3, StQ b s3 i2 (b2 || !dclOk d) ∧ Step pDcl s0 d s3 := by
  cases s0 with
  | none =>
    obtain rfl : s1 = none := p1
    obtain rfl : s2 = none := p2
    obtain rfl : b2 = true := q2
    exact ⟨by simp, none, by simp [StQ], rfl⟩
  | some left =>
    simp only [Step, Sim] at p1
    cases hp : pNum left with
    | none =>
      rw [hp] at p1
      obtain rfl := p1
      obtain rfl : s2 = none := p2
      obtain rfl : b2 = true := q2
      exact ⟨by simp, none, by simp [StQ], by simp [Step, Sim, pDcl, hp]⟩
    | some y =>
      obtain ⟨k0, r1⟩ := y
      rw [hp] at p1
      obtain ⟨rfl, rfl⟩ := p1
      have hb1 := iso_num.rest (h0 _ rfl) hp
      simp only [Step, Sim] at p2
      cases hp2 : pBody k r1 with
      | none =>
        rw [hp2] at p2
        obtain rfl := p2
        obtain rfl : b2 = true := q2
        exact ⟨by simp, none, by simp [StQ], by simp [Step, Sim, pDcl, hp, hp2]⟩
      | some y =>
        obtain ⟨d0, r2⟩ := y
        rw [hp2] at p2
        obtain ⟨rfl, rfl⟩ := p2
        have hz := pBody_size hb1 hp2
        obtain ⟨rfl, k2, rfl, hk2⟩ := q2
        have e1 := iso_num.bwd _ _ _ (h0 _ rfl) hp
        refine ⟨fun _ => ?_, ?_⟩
        · have hr : r1.length ≤ b.length := by
            obtain ⟨_, k1, _, hk1⟩ := q1
            rw [← hk1.eq]
            simp
          omega
        · cases hd : dclOk d with
          | true => exact ⟨some r2, ⟨by simp, k2, rfl, hk2⟩, by simp [Step, Sim, pDcl, hp, hp2, hd]⟩
          | false => exact ⟨none, by simp [StQ], by simp [Step, Sim, pDcl, hp, hp2, hd]⟩
theorem decl_run {s : Option (List Int)} {i : Int} {bad : Bool} (hs : StQ b s i bad) :
    ∃ (x : Dcl) (i' : Int) (bad' : Bool) (s' : Option (List Int)), call S 70 [.ptr 0 0] [rp b i bad] = some (dv x, [rp b i' bad']) ∧ StQ b s' i' bad' ∧ Step pDcl s x s' := by
  obtain ⟨k, i1, b1, s1, c1, q1, p1⟩ := (num_parses hA hb hl).run hs
  have h0 := hs.okB hb hl
  simp at c1
  by_cases k1 : k = 1
  · obtain ⟨t, i2, b2, s2, c2, q2, p2⟩ := (term_parses hA hb hl).run q1
    have p3 : Step (pBody k) s1 ⟨k, t, Tm.zero, Blk.zero⟩ s2 := by
      unfold pBody
      rw [if_pos k1]
      exact p2.map fun t => (⟨k, t, Tm.zero, Blk.zero⟩ : Dcl)
    obtain ⟨hz, s3, q3, p4⟩ := dcl_end hb hl q1 h0 p1 p3 q2
    refine ⟨_, i2, _, s3, ?_, q3, p4⟩
    rw [hA.eq (m := m70) rfl]
    subst k1
    cases b2 with
    | true => simp [runL, m70, leave, List.range, List.range.loop, Tm.zero, Blk.zero, *]
    | false =>
      have hr := right_spec hA _ (hz rfl)
      simp [dv, Tm.zero, Blk.zero] at hr
      simp [runL, m70, leave, List.range, List.range.loop, Tm.zero, Blk.zero, *]
  by_cases k2 : k = 2
  · obtain ⟨t, i2, b2, s2, c2, q2, p2⟩ := (term_parses hA hb hl).run q1
    obtain ⟨u, i3, b3, s3, c3, q3, p3⟩ := (term_parses hA hb hl).run q2
    have p3 : Step (pBody k) s1 ⟨k, t, u, Blk.zero⟩ s3 := by
      unfold pBody
      rw [if_neg k1, if_pos k2]
      exact (p2.seq p3).map fun x : Tm × Tm => (⟨k, x.1, x.2, Blk.zero⟩ : Dcl)
    obtain ⟨hz, s4, q4, p4⟩ := dcl_end hb hl q1 h0 p1 p3 q3
    refine ⟨_, i3, _, s4, ?_, q4, p4⟩
    rw [hA.eq (m := m70) rfl]
    subst k2
    cases b3 with
    | true => simp [runL, m70, leave, List.range, List.range.loop, Tm.zero, Blk.zero, c1, c2, c3]
    | false =>
      have hr := right_spec hA _ (hz rfl)
      simp [dv, Tm.zero, Blk.zero] at hr
      simp [runL, m70, leave, List.range, List.range.loop, Tm.zero, Blk.zero, c1, c2, c3, hr]
  by_cases k3 : k = 3
  · obtain ⟨t, i2, b2, s2, c2, q2, p2⟩ := block_run hA hb hl q1
    have p3 : Step (pBody k) s1 ⟨k, Tm.zero, Tm.zero, t⟩ s2 := by
      unfold pBody
      rw [if_neg k1, if_neg k2, if_pos k3]
      exact p2.map fun t => (⟨k, Tm.zero, Tm.zero, t⟩ : Dcl)
    obtain ⟨hz, s3, q3, p4⟩ := dcl_end hb hl q1 h0 p1 p3 q2
    refine ⟨_, i2, _, s3, ?_, q3, p4⟩
    rw [hA.eq (m := m70) rfl]
    subst k3
    cases b2 with
    | true => simp [runL, m70, leave, List.range, List.range.loop, Tm.zero, c1, c2]
    | false =>
      have hr := right_spec hA _ (hz rfl)
      simp [dv, Tm.zero] at hr
      simp [runL, m70, leave, List.range, List.range.loop, Tm.zero, c1, c2, hr]
  · have hz : (⟨k, Tm.zero, Tm.zero, Blk.zero⟩ : Dcl).size < 1000000000 := by simp [Dcl.size, zero_size, blk_zero_size]
    have hr := right_spec hA _ hz
    have hd : dclOk ⟨k, Tm.zero, Tm.zero, Blk.zero⟩ = false := by simp [dclOk, k1, k2, k3]
    rw [hd] at hr
    simp [dv, Tm.zero, Blk.zero] at hr
    refine ⟨⟨k, Tm.zero, Tm.zero, Blk.zero⟩, i1, true, none, ?_, rfl, ?_⟩
    · rw [hA.eq (m := m70) rfl]
      cases b1 <;> simp [runL, m70, leave, List.range, List.range.loop, Tm.zero, Blk.zero, c1, k1, k2, k3, hr]
    · cases s with
      | none => rfl
      | some left =>
        simp only [Step, Sim, pDcl] at p1 ⊢
        cases hp : pNum left with
        | none => simp
        | some y =>
          obtain ⟨k0, r1⟩ := y
          rw [hp] at p1
          obtain ⟨rfl, _⟩ := p1
          simp [pBody, k1, k2, k3]
def DclsP (b : List Int) (l : List Dcl) (i : Int) (bad : Bool) (e : Ex) (σ : St) : Prop :=
  e = .ex 0 ∧ σ.m = 0 ∧ σ.T 0 = .sl .plain 1 (byR b) ∧ σ.T 4 = .ptr 20 0 ∧ σ.T 6 = .sl (.tok 22) 10 (dcs l) ∧ σ.H = ofH [(20, rp b i bad), (22, .tok 30 10 l.length)]
omit hA hb hl in
theorem dcls_exit (n i : Int) (done : List Dcl) : Ends (EvL S [0, 4, 5, 6] [20, 22] m29_l0 [.sl .plain 1 (byR b), .ptr 20 0, .int .i64 n, .sl (.tok 22) 10 (dcs done)] [rp b i true, .tok 30 10 done.length] 0) (RQ b (DclsP b) none done) := by
  refine .cps fun Q hQ => ?_
  rw [EvL_eq]
  by_cases hj : 0 < n
  · simp [m29_l0, hj]
    exact .mk (hQ _ _ ⟨[], i, true, ⟨rfl, rfl, rfl, rfl, by simp, by simp⟩, rfl⟩)
  · simp [m29_l0, hj]
    exact .mk (hQ _ _ ⟨[], i, true, ⟨rfl, rfl, rfl, rfl, by simp, by simp⟩, rfl⟩)
theorem dcls_loopR : ∀ (j i : Nat) (left : List Int) (done : List Dcl), Left b i left → done.length + j < 1000000 →
    Ends (EvL S [0, 4, 5, 6] [20, 22] m29_l0 [.sl .plain 1 (byR b), .ptr 20 0, .int .i64 j, .sl (.tok 22) 10 (dcs done)] [rp b i false, .tok 30 10 done.length] 0) (RQ b (DclsP b) (pRep pDcl j left) done)
  | 0, i, left, done, h, hd => by
    refine .cps fun Q hQ => ?_
    rw [EvL_eq]
    simp [m29_l0]
    exact .mk (hQ _ _ ⟨[], i, false, ⟨rfl, rfl, rfl, rfl, by simp, by simp⟩, rfl, rfl, i, rfl, h⟩)
  | j + 1, i, left, done, h, hd => by
    refine .cps fun Q hQ => ?_
    obtain ⟨x, i1, b1, s1, c1, q1, p1⟩ := decl_run hA hb hl (.good h)
    have hq : PQ b (pDcl left) x i1 b1 := q1.pq (p := pDcl) p1
    have e3 := wrap_i64 (n := (j : Int) + 1 - 1) (by omega) (by omega)
    have e4 : (j : Int) + 1 - 1 = j := by omega
    rw [e4] at e3
    have e5 : (0 : Int) < (j : Int) + 1 := by omega
    have e6 : (done.length + 1) * 144 ≤ 140737488355328 := by omega
    rw [EvL_eq]
    simp [m29_l0, c1, e3, e4, e5, e6]
    cases hp : pDcl left with
    | none =>
      rw [hp] at hq
      obtain rfl : b1 = true := hq
      have := dcls_exit (S := S) (b := b) j i1 (done ++ [x])
      simp [dcs_append, dcs_cons] at this
      exact this.imp fun e σ h => hQ _ _ (h.fail hp)
    | some y =>
      obtain ⟨t0, r⟩ := y
      rw [hp] at hq
      obtain ⟨rfl, rfl, k, rfl, hk⟩ := hq
      have ih := dcls_loopR j k r (done ++ [x]) hk (by simp; omega)
      simp [dcs_append, dcs_cons] at ih
      exact ih.imp fun e σ h => hQ _ _ (h.cons hp)
def getS (b : List Int) : List Dcl × Int := match pGet b with
  | some l => (l, 0)
  | none => ([], 3)
theorem pget_spec : call S 29 [.sl .plain 1 (byR b)] [] = some (.tup [.sl .plain 10 (dcs (getS b).1), .int .i64 (getS b).2], []) := by
  have h0 : Left b 0 b := ⟨by omega, rfl⟩
  obtain ⟨n, i1, b1, hc, hq⟩ := (num_parses hA hb hl).good 0 b h0
  rw [hA.eq (m := m29) rfl]
  simp at hc
  unfold getS pGet pPile
  by_cases c1 : 65536 < b.length
  · have c1' : (65536 : Int) < b.length := by omega
    simp [runL, m29, leave, c1, c1']
  have c1' : ¬ (65536 : Int) < b.length := by omega
  rw [if_neg c1]
  cases hp : pNum b with
  | none =>
    rw [hp] at hq
    obtain rfl : b1 = true := hq
    obtain ⟨_, ⟨T, H, m⟩, h, l, i2, bad2, ⟨rfl, rfl, t0, t4, t6, rfl⟩, rfl⟩ := dcls_exit (S := S) (b := b) n i1 []
    simp at h t0 t4 t6
    simp [runL, m29, leave, c1', hc, h, t0, t4, t6]
  | some y =>
    obtain ⟨n0, r1⟩ := y
    rw [hp] at hq
    obtain ⟨rfl, rfl, k, rfl, hk⟩ := hq
    have hn := (iso_num.bwd _ _ _ hb hp).2
    by_cases c2 : 60 < n
    · obtain ⟨_, ⟨T, H, m⟩, h, l, i2, bad2, ⟨rfl, rfl, t0, t4, t6, rfl⟩, rfl⟩ := dcls_exit (S := S) (b := b) n k []
      simp at h t0 t4 t6
      simp [runL, m29, leave, c1', hc, h, t0, t4, t6, c2]
    · obtain ⟨_, ⟨T, H, m⟩, h, l, i2, bad2, ⟨rfl, rfl, t0, t4, t6, rfl⟩, hq⟩ := dcls_loopR hA hb hl n.toNat k r1 [] hk (by have := hn.2; simp; omega)
      have e0 : (n.toNat : Int) = n := by have := hn.1; omega
      rw [e0] at h
      simp at h t0 t4 t6
      simp only [if_neg c2]
      cases hr : pRep pDcl n.toNat r1 with
      | none =>
        rw [hr] at hq
        obtain rfl : bad2 = true := hq
        simp [runL, m29, leave, c1', hc, h, t0, t4, t6, c2]
      | some y =>
        obtain ⟨l0, r2⟩ := y
        rw [hr] at hq
        obtain ⟨rfl, rfl, k2, rfl, hk2⟩ := hq
        have hlen := congrArg List.length hk2.eq
        simp at hlen
        have hle := hk2.le
        cases r2 with
        | nil =>
          simp at hlen
          have e1 : (k2 : Int) = b.length := by omega
          simp [runL, m29, leave, c1', hc, h, t0, t4, t6, c2, e1]
        | cons x r2 =>
          simp at hlen
          have e1 : ¬ (k2 : Int) = b.length := by omega
          simp [runL, m29, leave, c1', hc, h, t0, t4, t6, c2, e1]
end Go.Px.B
/- Alike, part by part: plain. -/
set_option linter.unusedVariables false
namespace Go.Px
def lEq {α : Type} (p : α → α → Bool) : List α → List α → Bool
  | [], [] => true
  | a :: r, b :: s => p a b && lEq p r s
  | _, _ => false
theorem lEq_iff {α : Type} {p : α → α → Bool} (h : ∀ a b, p a b = true ↔ a = b) : ∀ (l m : List α), lEq p l m = true ↔ l = m
  | [], [] => by simp [lEq]
  | [], b :: s => by simp [lEq]
  | a :: r, [] => by simp [lEq]
  | a :: r, b :: s => by simp [lEq, h, lEq_iff h r s]
theorem lEq_len {α : Type} {p : α → α → Bool} : ∀ {l m : List α}, l.length ≠ m.length → lEq p l m = false
  | [], [], h => by simp at h
  | [], b :: s, _ => rfl
  | a :: r, [], _ => rfl
  | a :: r, b :: s, h => by
    have := lEq_len (p := p) (l := r) (m := s) (by simpa using h)
    simp [lEq, this]
theorem tmsEq_lEq : ∀ (l m : List Tm), tmsEq l m = lEq tmEq l m
  | [], [] => rfl
  | [], b :: s => rfl
  | a :: r, [] => rfl
  | a :: r, b :: s => by simp [tmsEq, lEq, tmsEq_lEq r s]
def agEq (a b : Ag) : Bool := a.rc == b.rc && tmEq a.type b.type && tmsEq a.dom b.dom && a.sort == b.sort && tmsEq a.idx b.idx
theorem agEq_iff (a b : Ag) : agEq a b = true ↔ a = b := by
  obtain ⟨a1, a2, a3, a4, a5⟩ := a
  obtain ⟨b1, b2, b3, b4, b5⟩ := b
  simp [agEq, tmEq_iff, tmsEq_iff, and_assoc]
def srtEq (a b : Srt) : Bool := lEq agEq a.idx b.idx && a.level == b.level && a.dec == b.dec && tmEq a.decType b.decType
theorem srtEq_iff (a b : Srt) : srtEq a b = true ↔ a = b := by
  obtain ⟨a1, a2, a3, a4⟩ := a
  obtain ⟨b1, b2, b3, b4⟩ := b
  simp [srtEq, tmEq_iff, lEq_iff agEq_iff, and_assoc]
def cnEq (a b : Cn) : Bool := a.sort == b.sort && lEq agEq a.args b.args && tmsEq a.idx b.idx && tmEq a.dec b.dec
theorem cnEq_iff (a b : Cn) : cnEq a b = true ↔ a = b := by
  obtain ⟨a1, a2, a3, a4⟩ := a
  obtain ⟨b1, b2, b3, b4⟩ := b
  simp [cnEq, tmEq_iff, tmsEq_iff, lEq_iff agEq_iff, and_assoc]
def blkEq (a b : Blk) : Bool := a.elim == b.elim && lEq srtEq a.sorts b.sorts && lEq cnEq a.cons b.cons
theorem blkEq_iff (a b : Blk) : blkEq a b = true ↔ a = b := by
  obtain ⟨a1, a2, a3⟩ := a
  obtain ⟨b1, b2, b3⟩ := b
  simp [blkEq, lEq_iff srtEq_iff, lEq_iff cnEq_iff]
  constructor
  · rintro ⟨⟨h1, h2⟩, h3⟩; exact ⟨h2, h3, h1⟩
  · rintro ⟨h1, h2, h3⟩; exact ⟨⟨h3, h1⟩, h2⟩
def dclEq (a b : Dcl) : Bool := a.kind == b.kind && tmEq a.type b.type && tmEq a.body b.body && blkEq a.block b.block
theorem dclEq_iff (a b : Dcl) : dclEq a b = true ↔ a = b := by
  obtain ⟨a1, a2, a3, a4⟩ := a
  obtain ⟨b1, b2, b3, b4⟩ := b
  simp [dclEq, tmEq_iff, blkEq_iff, and_assoc]
def intEq (a b : Int) : Bool := a == b
theorem intEq_iff (a b : Int) : intEq a b = true ↔ a = b := by simp [intEq]
end Go.Px
/- Data compared, field by field; what is too heavy. -/
set_option maxRecDepth 100000
set_option linter.unusedVariables false
set_option linter.unusedSimpArgs false
set_option linter.unusedSectionVars false
namespace Go.Px.B
open Go Go.Px
variable {S : Sys} (hA : Has S tabA)
include hA
theorem kbytes_loop : ∀ (rest rest' all all' : List Int) (i : Nat), all.drop i = rest → all'.drop i = rest' → rest.length = rest'.length → all.length < 1000000000 →
    Ends (EvL S [0, 1, 5] [] m27_l0 [.sl .plain 1 (byR all), .sl .plain 1 (byR all'), .int .i64 i] [] 0) fun e σ => if lEq intEq rest rest' then e = .ex 0 else e = .rt ∧ σ.T 4 = .bool false
  | [], rest', all, all', i, hd, hd', hlen, h1 => by
    refine .cps fun Q hQ => ?_
    obtain rfl := List.length_eq_zero_iff.1 hlen.symm
    rw [EvL_eq]
    have := drop_nil' hd
    have h3 : ¬ i < all.length := by omega
    simp [m27_l0, h3]
    exact .mk (hQ _ _ (by simp [lEq]))
  | t :: rest, [], all, all', i, hd, hd', hlen, h1 => by simp at hlen
  | t :: rest, t' :: rest', all, all', i, hd, hd', hlen, h1 => by
    refine .cps fun Q hQ => ?_
    rw [EvL_eq]
    obtain ⟨g1, g2, g3⟩ := drop_cons' hd
    obtain ⟨g1', g2', g3'⟩ := drop_cons' hd'
    have e2 := wrap_i64 (n := i + 1) (by omega) (by omega)
    by_cases hw : t = t'
    · simp [-getElem?_pos, m27_l0, g1, g2, g2', hw, e2]
      exact (kbytes_loop rest rest' all all' (i + 1) g3 g3' (by simpa using hlen) h1).imp fun e σ h => hQ _ _ (by simpa [lEq, intEq, hw] using h)
    · simp [-getElem?_pos, m27_l0, g1, g2, g2', hw, e2]
      exact .mk (hQ _ _ (by simp [lEq, intEq, hw]))
theorem kbytes_spec (a c : List Int) (hl : a.length < 1000000000) : call S 27 [.sl .plain 1 (byR a), .sl .plain 1 (byR c)] [] = some (.bool (lEq intEq a c), []) := by
  rw [hA.eq (m := m27) rfl]
  by_cases c1 : a.length = c.length
  case neg =>
    have : ¬ (a.length : Int) = c.length := by omega
    simp [runL, m27, leave, this, lEq_len c1]
  have c2 : (a.length : Int) = c.length := by omega
  obtain ⟨e, σ, h, h3⟩ := kbytes_loop hA a c a c 0 rfl rfl c1 hl
  simp at h
  cases hw : lEq intEq a c <;> simp [hw] at h3
  · obtain ⟨rfl, h3⟩ := h3
    simp [runL, m27, leave, *]
  · obtain rfl := h3
    simp [runL, m27, leave, *]
mutual
theorem kterm_spec : ∀ (a c : Tm), a.size < 1000000000 → call S 36 [tv a, tv c] [] = some (.bool (tmEq a c), [])
  | .mk k n l, .mk k' n' l', hz => by
    rw [hA.eq (m := m36) rfl]
    simp only [Tm.size] at hz
    have h := kterms_spec l l' (by omega)
    simp only [tmEq]
    by_cases hh0 : k = k'
    case neg => simp [runL, m36, leave, *]
    by_cases hh2 : n = n'
    case neg => simp [runL, m36, leave, *]
    simp [runL, m36, leave, *]
theorem kterms_spec : ∀ (a c : List Tm), sizes a < 1000000000 → call S 86 [ts a, ts c] [] = some (.bool (tmsEq a c), [])
  | a, c, hz => by
    rw [hA.eq (m := m86) rfl]
    have hl := sizes_ge a
    by_cases c1 : a.length = c.length
    case neg =>
      have : ¬ (a.length : Int) = c.length := by omega
      simp [runL, m86, leave, this, tmsEq_lEq, lEq_len c1]
    have c2 : (a.length : Int) = c.length := by omega
    obtain ⟨e, σ, h, h3⟩ := kterms_loop a c a c 0 rfl rfl c1 (by omega) hz
    simp at h
    cases hw : tmsEq a c <;> simp [hw] at h3
    · obtain ⟨rfl, h3⟩ := h3
      simp [runL, m86, leave, *]
    · obtain rfl := h3
      simp [runL, m86, leave, *]
theorem kterms_loop : ∀ (rest rest' all all' : List Tm) (i : Nat), all.drop i = rest → all'.drop i = rest' → rest.length = rest'.length → all.length < 1000000000 → sizes rest < 1000000000 →
    Ends (EvL S [0, 1, 5] [] m86_l0 [ts all, ts all', .int .i64 i] [] 0) fun e σ => if tmsEq rest rest' then e = .ex 0 else e = .rt ∧ σ.T 4 = .bool false
  | [], rest', all, all', i, hd, hd', hlen, h1, hz => by
    refine .cps fun Q hQ => ?_
    obtain rfl := List.length_eq_zero_iff.1 hlen.symm
    rw [EvL_eq]
    have := drop_nil' hd
    have h3 : ¬ i < all.length := by omega
    simp [m86_l0, h3]
    exact .mk (hQ _ _ (by simp [tmsEq]))
  | t :: rest, [], all, all', i, hd, hd', hlen, h1, hz => by simp at hlen
  | t :: rest, t' :: rest', all, all', i, hd, hd', hlen, h1, hz => by
    refine .cps fun Q hQ => ?_
    simp only [sizes] at hz
    rw [EvL_eq]
    obtain ⟨g1, g2, g3⟩ := drop_cons' hd
    obtain ⟨g1', g2', g3'⟩ := drop_cons' hd'
    have e2 := wrap_i64 (n := i + 1) (by omega) (by omega)
    have hc := kterm_spec t t' (by omega)
    cases hw : tmEq t t' with
    | true =>
      rw [hw] at hc
      simp [-getElem?_pos, m86_l0, g1, g2, g2', hc, e2]
      exact (kterms_loop rest rest' all all' (i + 1) g3 g3' (by simpa using hlen) h1 (by omega)).imp fun e σ h => hQ _ _ (by simpa [tmsEq, hw] using h)
    | false =>
      rw [hw] at hc
      simp [-getElem?_pos, m86_l0, g1, g2, g2', hc, e2]
      exact .mk (hQ _ _ (by simp [tmsEq, hw]))
end
theorem karg_spec (a c : Ag) (hz : a.size < 1000000000) : call S 170 [av a, av c] [] = some (.bool (agEq a c), []) := by
  have hs : a.size = 2 + a.type.size + sizes a.dom + sizes a.idx := rfl
  have h1 := kterm_spec hA a.type c.type (by omega)
  have h2 := kterms_spec hA a.dom c.dom (by omega)
  have h3 := kterms_spec hA a.idx c.idx (by omega)
  rw [hA.eq (m := m170) rfl]
  unfold agEq
  cases c1 : (a.rc == c.rc)
  case false => simp [runL, m170, leave, *]
  cases hh0 : tmEq a.type c.type
  case false => simp [runL, m170, leave, *]
  cases hh2 : tmsEq a.dom c.dom
  case false => simp [runL, m170, leave, *]
  by_cases hh4 : a.sort = c.sort
  case neg => simp [runL, m170, leave, *]
  simp [runL, m170, leave, *]
theorem kargs_loop : ∀ (rest rest' all all' : List Ag) (i : Nat), all.drop i = rest → all'.drop i = rest' → rest.length = rest'.length → all.length < 1000000000 → agSizes rest < 1000000000 →
    Ends (EvL S [0, 1, 5] [] m143_l0 [.sl .plain 7 (acs all), .sl .plain 7 (acs all'), .int .i64 i] [] 0) fun e σ => if lEq agEq rest rest' then e = .ex 0 else e = .rt ∧ σ.T 4 = .bool false
  | [], rest', all, all', i, hd, hd', hlen, h1, hz => by
    refine .cps fun Q hQ => ?_
    obtain rfl := List.length_eq_zero_iff.1 hlen.symm
    rw [EvL_eq]
    have := drop_nil' hd
    have h3 : ¬ i < all.length := by omega
    simp [m143_l0, h3]
    exact .mk (hQ _ _ (by simp [lEq]))
  | t :: rest, [], all, all', i, hd, hd', hlen, h1, hz => by simp at hlen
  | t :: rest, t' :: rest', all, all', i, hd, hd', hlen, h1, hz => by
    refine .cps fun Q hQ => ?_
    simp only [agSizes] at hz
    rw [EvL_eq]
    obtain ⟨g1, g2, g3⟩ := drop_cons' hd
    obtain ⟨g1', g2', g3'⟩ := drop_cons' hd'
    have e2 := wrap_i64 (n := i + 1) (by omega) (by omega)
    have hc := karg_spec hA t t' (by omega)
    cases hw : agEq t t' with
    | true =>
      rw [hw] at hc
      simp [-getElem?_pos, m143_l0, g1, g2, g2', hc, e2]
      exact (kargs_loop rest rest' all all' (i + 1) g3 g3' (by simpa using hlen) h1 (by omega)).imp fun e σ h => hQ _ _ (by simpa [lEq, hw] using h)
    | false =>
      rw [hw] at hc
      simp [-getElem?_pos, m143_l0, g1, g2, g2', hc, e2]
      exact .mk (hQ _ _ (by simp [lEq, hw]))
theorem kargs_spec (a c : List Ag) (hz : agSizes a < 1000000000) : call S 143 [.sl .plain 7 (acs a), .sl .plain 7 (acs c)] [] = some (.bool (lEq agEq a c), []) := by
  rw [hA.eq (m := m143) rfl]
  have hl := agSizes_ge a
  by_cases c1 : a.length = c.length
  case neg =>
    have : ¬ (a.length : Int) = c.length := by omega
    simp [runL, m143, leave, this, lEq_len c1]
  have c2 : (a.length : Int) = c.length := by omega
  obtain ⟨e, σ, h, h3⟩ := kargs_loop hA a c a c 0 rfl rfl c1 (by omega) hz
  simp at h
  cases hw : lEq agEq a c <;> simp [hw] at h3
  · obtain ⟨rfl, h3⟩ := h3
    simp [runL, m143, leave, *]
  · obtain rfl := h3
    simp [runL, m143, leave, *]
theorem kcon_spec (a c : Cn) (hz : a.size < 1000000000) : call S 144 [cv a, cv c] [] = some (.bool (cnEq a c), []) := by
  have hs : a.size = 3 + agSizes a.args + sizes a.idx + a.dec.size := rfl
  have h1 := kargs_spec hA a.args c.args (by omega)
  have h2 := kterms_spec hA a.idx c.idx (by omega)
  have h3 := kterm_spec hA a.dec c.dec (by omega)
  rw [hA.eq (m := m144) rfl]
  unfold cnEq
  by_cases hh0 : a.sort = c.sort
  case neg => simp [runL, m144, leave, *]
  cases hh2 : lEq agEq a.args c.args
  case false => simp [runL, m144, leave, *]
  cases hh4 : tmsEq a.idx c.idx
  case false => simp [runL, m144, leave, *]
  simp [runL, m144, leave, *]
theorem ksorts_loop (a c : Blk) : ∀ (rest rest' : List Srt) (i : Nat), a.sorts.drop i = rest → c.sorts.drop i = rest' → rest.length = rest'.length → a.sorts.length < 1000000000 → srtSizes rest < 1000000000 →
    Ends (EvL S [2, 3, 5] [20, 21] m112_l1 [.ptr 20 0, .ptr 21 0, .int .i64 i] [.cells (bc a), .cells (bc c)] 0) fun e σ =>
      if lEq srtEq rest rest' then e = .ex 0 ∧ σ.T 2 = .ptr 20 0 ∧ σ.T 3 = .ptr 21 0 ∧ σ.m = 0 ∧ σ.H = ofH [(20, .cells (bc a)), (21, .cells (bc c))] else e = .rt ∧ σ.T 4 = .bool false
  | [], rest', i, hd, hd', hlen, h1, hz => by
    refine .cps fun Q hQ => ?_
    obtain rfl := List.length_eq_zero_iff.1 hlen.symm
    rw [EvL_eq]
    have := drop_nil' hd
    have h3 : ¬ i < a.sorts.length := by omega
    simp [m112_l1, h3]
    exact .mk (hQ _ _ (by simp [lEq]))
  | t :: rest, [], i, hd, hd', hlen, h1, hz => by simp at hlen
  | t :: rest, t' :: rest', i, hd, hd', hlen, h1, hz => by
    refine .cps fun Q hQ => ?_
    simp only [srtSizes] at hz
    rw [EvL_eq]
    obtain ⟨g1, g2, g3⟩ := drop_cons' hd
    obtain ⟨g1', g2', g3'⟩ := drop_cons' hd'
    have e2 := wrap_i64 (n := i + 1) (by omega) (by omega)
    have hs : t.size = 3 + agSizes t.idx + t.decType.size := rfl
    have k1 := kargs_spec hA t.idx t'.idx (by omega)
    have k2 := kterm_spec hA t.decType t'.decType (by omega)
    cases w1 : lEq agEq t.idx t'.idx
    case false =>
      simp [-getElem?_pos, m112_l1, g1, g2, g2', k1, k2, e2, w1]
      exact .mk (hQ _ _ (by simp [lEq, srtEq, w1]))
    by_cases w2 : t.level = t'.level
    case neg =>
      simp [-getElem?_pos, m112_l1, g1, g2, g2', k1, k2, e2, w1, w2]
      exact .mk (hQ _ _ (by simp [lEq, srtEq, w1, w2]))
    cases w3 : (t.dec == t'.dec)
    case false =>
      have w3' : (t.dec != t'.dec) = true := by simp [bne, w3]
      simp only [bne_iff_ne] at w3'
      simp [-getElem?_pos, m112_l1, g1, g2, g2', k1, k2, e2, w1, w2, w3']
      exact .mk (hQ _ _ (by simp [lEq, srtEq, w3]))
    have w3' : t.dec = t'.dec := by simpa using w3
    cases w4 : tmEq t.decType t'.decType
    case false =>
      simp [-getElem?_pos, m112_l1, g1, g2, g2', k1, k2, e2, w1, w2, w3', w4]
      exact .mk (hQ _ _ (by simp [lEq, srtEq, w4]))
    simp [-getElem?_pos, m112_l1, g1, g2, g2', k1, k2, e2, w1, w2, w3', w4]
    exact (ksorts_loop a c rest rest' (i + 1) g3 g3' (by simpa using hlen) h1 (by omega)).imp fun e σ h => hQ _ _ (by simpa [lEq, srtEq, w1, w2, w3', w4] using h)
theorem kcons_loop (a c : Blk) : ∀ (rest rest' : List Cn) (i : Nat), a.cons.drop i = rest → c.cons.drop i = rest' → rest.length = rest'.length → a.cons.length < 1000000000 → cnSizes rest < 1000000000 →
    Ends (EvL S [2, 3, 8] [20, 21] m112_l0 [.ptr 20 0, .ptr 21 0, .int .i64 i] [.cells (bc a), .cells (bc c)] 0) fun e σ =>
      if lEq cnEq rest rest' then e = .ex 2 else e = .rt ∧ σ.T 4 = .bool false
  | [], rest', i, hd, hd', hlen, h1, hz => by
    refine .cps fun Q hQ => ?_
    obtain rfl := List.length_eq_zero_iff.1 hlen.symm
    rw [EvL_eq]
    have := drop_nil' hd
    have h3 : ¬ i < a.cons.length := by omega
    simp [m112_l0, h3]
    exact .mk (hQ _ _ (by simp [lEq]))
  | t :: rest, [], i, hd, hd', hlen, h1, hz => by simp at hlen
  | t :: rest, t' :: rest', i, hd, hd', hlen, h1, hz => by
    refine .cps fun Q hQ => ?_
    simp only [cnSizes] at hz
    rw [EvL_eq]
    obtain ⟨g1, g2, g3⟩ := drop_cons' hd
    obtain ⟨g1', g2', g3'⟩ := drop_cons' hd'
    have e2 := wrap_i64 (n := i + 1) (by omega) (by omega)
    have k1 := kcon_spec hA t t' (by omega)
    cases w1 : cnEq t t'
    case false =>
      simp [-getElem?_pos, m112_l0, g1, g2, g2', k1, e2, w1]
      exact .mk (hQ _ _ (by simp [lEq, w1]))
    simp [-getElem?_pos, m112_l0, g1, g2, g2', k1, e2, w1]
    exact (kcons_loop a c rest rest' (i + 1) g3 g3' (by simpa using hlen) h1 (by omega)).imp fun e σ h => hQ _ _ (by simpa [lEq, w1] using h)
theorem kblock_spec (a c : Blk) (hz : a.size < 1000000000) : call S 112 [bv a, bv c] [] = some (.bool (blkEq a c), []) := by
  have hs : a.size = 1 + srtSizes a.sorts + cnSizes a.cons := rfl
  have hl1 := srtSizes_ge a.sorts
  have hl2 := cnSizes_ge a.cons
  rw [hA.eq (m := m112) rfl]
  unfold blkEq
  by_cases c1 : a.sorts.length = c.sorts.length
  case neg =>
    have : ¬ (a.sorts.length : Int) = c.sorts.length := by omega
    simp [runL, m112, leave, this, lEq_len c1]
  have c1' : (a.sorts.length : Int) = c.sorts.length := by omega
  by_cases c2 : a.cons.length = c.cons.length
  case neg =>
    have : ¬ (a.cons.length : Int) = c.cons.length := by omega
    simp [runL, m112, leave, this, c1', lEq_len c2]
  have c2' : (a.cons.length : Int) = c.cons.length := by omega
  by_cases c3 : a.elim = c.elim
  case neg => simp [runL, m112, leave, c1', c2', c3]
  obtain ⟨e, ⟨T, H, m⟩, h, h3⟩ := ksorts_loop hA a c a.sorts c.sorts 0 rfl rfl c1 (by omega) (by omega)
  simp at h
  cases hw : lEq srtEq a.sorts c.sorts <;> simp [hw] at h3
  · obtain ⟨rfl, h3⟩ := h3
    rw [c3] at h
    simp [runL, m112, leave, *]
  obtain ⟨rfl, t2, t3, rfl, rfl⟩ := h3
  obtain ⟨e, ⟨T2, H2, m2⟩, h2, h4⟩ := kcons_loop hA a c a.cons c.cons 0 rfl rfl c2 (by omega) (by omega)
  simp at h2
  cases hw2 : lEq cnEq a.cons c.cons <;> simp [hw2] at h4
  · obtain ⟨rfl, h4⟩ := h4
    rw [c3] at h h2
    simp [runL, m112, leave, *]
  · obtain rfl := h4
    rw [c3] at h h2
    simp [runL, m112, leave, *]
theorem kdecl_spec (a c : Dcl) (hz : a.size < 1000000000) : call S 68 [dv a, dv c] [] = some (.bool (dclEq a c), []) := by
  have hs : a.size = 1 + a.type.size + a.body.size + a.block.size := rfl
  have h1 := kterm_spec hA a.type c.type (by omega)
  have h2 := kterm_spec hA a.body c.body (by omega)
  have h3 := kblock_spec hA a.block c.block (by omega)
  rw [hA.eq (m := m68) rfl]
  unfold dclEq
  by_cases hh0 : a.kind = c.kind
  case neg => simp [runL, m68, leave, *]
  cases hh2 : tmEq a.type c.type
  case false => simp [runL, m68, leave, *]
  cases hh4 : tmEq a.body c.body
  case false => simp [runL, m68, leave, *]
  simp [runL, m68, leave, *]
theorem kdecls_loop : ∀ (rest rest' all all' : List Dcl) (i : Nat), all.drop i = rest → all'.drop i = rest' → rest.length = rest'.length → all.length < 1000000000 → dclSizes rest < 1000000000 →
    Ends (EvL S [0, 1, 5] [] m28_l0 [.sl .plain 10 (dcs all), .sl .plain 10 (dcs all'), .int .i64 i] [] 0) fun e σ => if lEq dclEq rest rest' then e = .ex 0 else e = .rt ∧ σ.T 4 = .bool false
  | [], rest', all, all', i, hd, hd', hlen, h1, hz => by
    refine .cps fun Q hQ => ?_
    obtain rfl := List.length_eq_zero_iff.1 hlen.symm
    rw [EvL_eq]
    have := drop_nil' hd
    have h3 : ¬ i < all.length := by omega
    simp [m28_l0, h3]
    exact .mk (hQ _ _ (by simp [lEq]))
  | t :: rest, [], all, all', i, hd, hd', hlen, h1, hz => by simp at hlen
  | t :: rest, t' :: rest', all, all', i, hd, hd', hlen, h1, hz => by
    refine .cps fun Q hQ => ?_
    simp only [dclSizes] at hz
    rw [EvL_eq]
    obtain ⟨g1, g2, g3⟩ := drop_cons' hd
    obtain ⟨g1', g2', g3'⟩ := drop_cons' hd'
    have e2 := wrap_i64 (n := i + 1) (by omega) (by omega)
    have hc := kdecl_spec hA t t' (by omega)
    cases hw : dclEq t t' with
    | true =>
      rw [hw] at hc
      simp [-getElem?_pos, m28_l0, g1, g2, g2', hc, e2]
      exact (kdecls_loop rest rest' all all' (i + 1) g3 g3' (by simpa using hlen) h1 (by omega)).imp fun e σ h => hQ _ _ (by simpa [lEq, hw] using h)
    | false =>
      rw [hw] at hc
      simp [-getElem?_pos, m28_l0, g1, g2, g2', hc, e2]
      exact .mk (hQ _ _ (by simp [lEq, hw]))
theorem kdecls_spec (a c : List Dcl) (hz : dclSizes a < 1000000000) : call S 28 [.sl .plain 10 (dcs a), .sl .plain 10 (dcs c)] [] = some (.bool (lEq dclEq a c), []) := by
  rw [hA.eq (m := m28) rfl]
  have hl := dclSizes_ge a
  by_cases c1 : a.length = c.length
  case neg =>
    have : ¬ (a.length : Int) = c.length := by omega
    simp [runL, m28, leave, this, lEq_len c1]
  have c2 : (a.length : Int) = c.length := by omega
  obtain ⟨e, σ, h, h3⟩ := kdecls_loop hA a c a c 0 rfl rfl c1 (by omega) hz
  simp at h
  cases hw : lEq dclEq a c <;> simp [hw] at h3
  · obtain ⟨rfl, h3⟩ := h3
    simp [runL, m28, leave, *]
  · obtain rfl := h3
    simp [runL, m28, leave, *]
end Go.Px.B
/- The page's size and depth; what is too heavy (some answer); twins of bytes. -/
set_option maxRecDepth 100000
set_option linter.unusedVariables false
set_option linter.unusedSimpArgs false
set_option linter.unusedSectionVars false
namespace Go.Px.B
open Go Go.Px
variable {S : Sys} (hA : Has S tabA)
include hA
mutual
theorem rsize_spec : ∀ (t : Tm), t.size < 1000000000 → call S 102 [tv t] [] = some (.int .i64 t.size, [])
  | .mk k n l, hz => by
    rw [hA.eq (m := m102) rfl]
    simp only [Tm.size] at hz
    have hl := sizes_ge l
    obtain ⟨_, σ, h, rfl, h3⟩ := rsize_loop k n l l 0 1 rfl (by omega) (by omega)
    simp at h h3
    simp [runL, m102, leave, h, h3, Tm.size]
theorem rsize_loop (k n : Int) (all : List Tm) : ∀ (rest : List Tm) (i : Nat) (acc : Int), all.drop i = rest → 0 ≤ acc ∧ acc + sizes rest < 1000000000 → all.length < 1000000000 → 
    Ends (EvL S [1, 3, 4] [20] m102_l0 [.ptr 20 0, .int .i64 acc, .int .i64 i] [.cells [.int .i64 k, .int .i64 n, ts all]] 0) fun e σ => e = .ex 0 ∧ σ.T 3 = .int .i64 (acc + sizes rest)
  | [], i, acc, hd, h1, h2 => by
    refine .cps fun Q hQ => ?_
    rw [EvL_eq]
    have := drop_nil' hd
    have h3 : ¬ i < all.length := by omega
    simp [m102_l0, h3]
    exact .mk (hQ _ _ (by simp [sizes]))
  | t :: rest, i, acc, hd, h1, h2 => by
    refine .cps fun Q hQ => ?_
    rw [EvL_eq]
    simp [sizes] at h1
    obtain ⟨g1, g2, g3⟩ := drop_cons' hd
    have hz := rsize_spec t (by omega)
    have e1 := wrap_i64 (n := acc + t.size) (by omega) (by omega)
    have e2 := wrap_i64 (n := i + 1) (by omega) (by omega)
    simp [-getElem?_pos, m102_l0, g1, g2, hz, e1, e2]
    exact (rsize_loop k n all rest (i + 1) (acc + t.size) g3 (by omega) h2).imp fun e σ h => hQ _ _ ⟨h.1, by rw [h.2]; simp [sizes, Int.add_assoc]⟩
end
mutual
theorem rdepth_spec : ∀ (t : Tm), t.size < 1000000000 → call S 101 [tv t] [] = some (.int .i64 t.depth, [])
  | .mk k n l, hz => by
    rw [hA.eq (m := m101) rfl]
    simp only [Tm.size] at hz
    have hl := sizes_ge l
    have hd := depths_le l
    obtain ⟨_, σ, h, rfl, h3⟩ := rdepth_loop k n l l 0 0 rfl (by omega) (by omega)
    simp at h h3
    have e1 := wrap_i64 (n := depths l + 1) (by omega) (by omega)
    simp [runL, m101, leave, h, h3, Tm.depth, e1]
theorem rdepth_loop (k n : Int) (all : List Tm) : ∀ (rest : List Tm) (i : Nat) (acc : Nat), all.drop i = rest → sizes rest < 1000000000 → all.length < 1000000000 → 
    Ends (EvL S [1, 3, 4] [20] m101_l0 [.ptr 20 0, .int .i64 acc, .int .i64 i] [.cells [.int .i64 k, .int .i64 n, ts all]] 0) fun e σ => e = .ex 0 ∧ σ.T 3 = .int .i64 (max acc (depths rest) : Nat)
  | [], i, acc, hd, h1, h2 => by
    refine .cps fun Q hQ => ?_
    rw [EvL_eq]
    have := drop_nil' hd
    have h3 : ¬ i < all.length := by omega
    simp [m101_l0, h3]
    exact .mk (hQ _ _ (by simp [depths]))
  | t :: rest, i, acc, hd, h1, h2 => by
    refine .cps fun Q hQ => ?_
    rw [EvL_eq]
    simp [sizes] at h1
    obtain ⟨g1, g2, g3⟩ := drop_cons' hd
    have hz := rdepth_spec t (by omega)
    have e2 := wrap_i64 (n := i + 1) (by omega) (by omega)
    have e4 : (if acc < t.depth then (t.depth : Int) else (acc : Int)) = ((max acc t.depth : Nat) : Int) := by
      split <;> omega
    simp [-getElem?_pos, m101_l0, g1, g2, hz, e2]
    rw [e4]
    exact (rdepth_loop k n all rest (i + 1) (max acc t.depth) g3 (by omega) h2).imp fun e σ h => hQ _ _ ⟨h.1, by rw [h.2]; simp only [depths, Nat.max_assoc]⟩
end
/-! ### too heavy? some answer -/
theorem heavy_loop : ∀ (rest all : List Tm) (i : Nat) (acc : Int), all.drop i = rest → sizes rest < 1000000000 → all.length < 1000000000 → 
    Ends (EvL S [0, 3, 4] [] m53_l0 [ts all, .int .i64 acc, .int .i64 i] [] 0) fun e σ => (e = .ex 0 ∧ ∃ n, σ.T 3 = .int .i64 n) ∨ (e = .rt ∧ σ.T 2 = .bool true)
  | [], all, i, acc, hd, h1, h2 => by
    refine .cps fun Q hQ => ?_
    rw [EvL_eq]
    have := drop_nil' hd
    have h3 : ¬ i < all.length := by omega
    simp [m53_l0, h3]
    exact .mk (hQ _ _ (.inl ⟨rfl, acc, by simp⟩))
  | t :: rest, all, i, acc, hd, h1, h2 => by
    refine .cps fun Q hQ => ?_
    rw [EvL_eq]
    simp [sizes] at h1
    obtain ⟨g1, g2, g3⟩ := drop_cons' hd
    have hz := rdepth_spec hA t (by omega)
    have hz2 := rsize_spec hA t (by omega)
    have e2 := wrap_i64 (n := i + 1) (by omega) (by omega)
    by_cases c : (300 : Int) < t.depth
    · simp [-getElem?_pos, m53_l0, g1, g2, hz, hz2, e2, c]
      exact .mk (hQ _ _ (.inr ⟨rfl, by simp⟩))
    · simp [-getElem?_pos, m53_l0, g1, g2, hz, hz2, e2, c]
      exact (heavy_loop rest all (i + 1) _ g3 (by omega) h2).imp fun e σ h => hQ _ _ h
theorem heavy_spec (l : List Tm) (hz : sizes l < 1000000000) : ∃ x, call S 53 [ts l] [] = some (.bool x, []) := by
  rw [hA.eq (m := m53) rfl]
  have hl := sizes_ge l
  by_cases c : (60 : Int) < l.length
  · exact ⟨true, by simp [runL, m53, leave, c]⟩
  obtain ⟨e, σ, h, h3⟩ := heavy_loop hA l l 0 0 rfl hz (by omega)
  simp at h
  rcases h3 with ⟨rfl, n, h3⟩ | ⟨rfl, h3⟩
  · exact ⟨decide (9000 < n), by simp [runL, m53, leave, c, h, h3]⟩
  · exact ⟨true, by simp [runL, m53, leave, c, h, h3]⟩
theorem heavyArgs_loop : ∀ (rest all : List Ag) (i : Nat), all.drop i = rest → agSizes rest < 1000000000 → all.length < 1000000000 → 
    Ends (EvL S [0, 3] [] m52_l0 [avs all, .int .i64 i] [] 0) fun e σ => e = .ex 0 ∨ (e = .rt ∧ σ.T 2 = .bool true)
  | [], all, i, hd, h1, h2 => by
    refine .cps fun Q hQ => ?_
    rw [EvL_eq]
    have := drop_nil' hd
    have h3 : ¬ i < all.length := by omega
    simp [m52_l0, h3]
    exact .mk (hQ _ _ (.inl rfl))
  | t :: rest, all, i, hd, h1, h2 => by
    refine .cps fun Q hQ => ?_
    rw [EvL_eq]
    simp [agSizes] at h1
    obtain ⟨g1, g2, g3⟩ := drop_cons' hd
    have hs : t.size = 2 + t.type.size + sizes t.dom + sizes t.idx := rfl
    obtain ⟨x1, q1⟩ := heavy_spec hA [t.type] (by simp [sizes]; omega)
    obtain ⟨x2, q2⟩ := heavy_spec hA t.dom (by omega)
    obtain ⟨x3, q3⟩ := heavy_spec hA t.idx (by omega)
    simp [ts, css_cons] at q1
    have e2 := wrap_i64 (n := i + 1) (by omega) (by omega)
    have ih := heavyArgs_loop rest all (i + 1) g3 (by omega) h2
    cases x1 with
    | true =>
      simp [-getElem?_pos, m52_l0, g1, g2, q1, e2]
      exact .mk (hQ _ _ (.inr ⟨rfl, by simp⟩))
    | false =>
      cases x2 with
      | true =>
        simp [-getElem?_pos, m52_l0, g1, g2, q1, q2, e2]
        exact .mk (hQ _ _ (.inr ⟨rfl, by simp⟩))
      | false =>
        cases x3 with
        | true =>
          simp [-getElem?_pos, m52_l0, g1, g2, q1, q2, q3, e2]
          exact .mk (hQ _ _ (.inr ⟨rfl, by simp⟩))
        | false =>
          simp [-getElem?_pos, m52_l0, g1, g2, q1, q2, q3, e2]
          exact ih.imp fun e σ h => hQ _ _ h
theorem heavyArgs_spec (l : List Ag) (hz : agSizes l < 1000000000) : ∃ x, call S 52 [avs l] [] = some (.bool x, []) := by
  rw [hA.eq (m := m52) rfl]
  have hl := agSizes_ge l
  by_cases c : (20 : Int) < l.length
  · exact ⟨true, by simp [runL, m52, leave, c]⟩
  obtain ⟨e, σ, h, h3⟩ := heavyArgs_loop hA l l 0 rfl hz (by omega)
  simp at h
  rcases h3 with rfl | ⟨rfl, h3⟩
  · exact ⟨false, by simp [runL, m52, leave, c, h]⟩
  · exact ⟨true, by simp [runL, m52, leave, c, h, h3]⟩

theorem heavySorts_loop (b : Blk) : ∀ (rest : List Srt) (i : Nat), b.sorts.drop i = rest → srtSizes rest < 1000000000 → b.sorts.length < 1000000000 → 
    Ends (EvL S [1, 3] [20] m19_l1 [.ptr 20 0, .int .i64 i] [.cells (bc b)] 0) fun e σ => (e = .ex 0 ∧ σ.T 1 = .ptr 20 0 ∧ σ.m = 0 ∧ σ.H = ofH [(20, .cells (bc b))]) ∨ (e = .rt ∧ σ.T 2 = .bool true)
  | [], i, hd, h1, h2 => by
    refine .cps fun Q hQ => ?_
    rw [EvL_eq]
    have := drop_nil' hd
    have h3 : ¬ i < b.sorts.length := by omega
    simp [m19_l1, h3]
    exact .mk (hQ _ _ (.inl ⟨rfl, by simp, rfl, by simp⟩))
  | t :: rest, i, hd, h1, h2 => by
    refine .cps fun Q hQ => ?_
    rw [EvL_eq]
    simp [srtSizes] at h1
    obtain ⟨g1, g2, g3⟩ := drop_cons' hd
    have hs : t.size = 3 + agSizes t.idx + t.decType.size := rfl
    obtain ⟨x1, q1⟩ := heavyArgs_spec hA t.idx (by omega)
    obtain ⟨x3, q3⟩ := heavy_spec hA [t.decType] (by simp [sizes]; omega)
    simp [ts, css_cons] at q3
    have e2 := wrap_i64 (n := i + 1) (by omega) (by omega)
    have ih := heavySorts_loop b rest (i + 1) g3 (by omega) h2
    cases x1 with
    | true =>
      simp [-getElem?_pos, m19_l1, g1, g2, q1, e2]
      exact .mk (hQ _ _ (.inr ⟨rfl, by simp⟩))
    | false =>
      · cases x3 with
        | true =>
          simp [-getElem?_pos, m19_l1, g1, g2, q1, q3, e2]
          exact .mk (hQ _ _ (.inr ⟨rfl, by simp⟩))
        | false =>
          simp [-getElem?_pos, m19_l1, g1, g2, q1, q3, e2]
          exact ih.imp fun e σ h => hQ _ _ h

theorem heavyCons_loop (b : Blk) : ∀ (rest : List Cn) (i : Nat), b.cons.drop i = rest → cnSizes rest < 1000000000 → b.cons.length < 1000000000 → 
    Ends (EvL S [1, 4] [20] m19_l0 [.ptr 20 0, .int .i64 i] [.cells (bc b)] 0) fun e σ => (e = .ex 2 ∧ σ.T 1 = .ptr 20 0 ∧ σ.m = 0 ∧ σ.H = ofH [(20, .cells (bc b))]) ∨ (e = .rt ∧ σ.T 2 = .bool true)
  | [], i, hd, h1, h2 => by
    refine .cps fun Q hQ => ?_
    rw [EvL_eq]
    have := drop_nil' hd
    have h3 : ¬ i < b.cons.length := by omega
    simp [m19_l0, h3]
    exact .mk (hQ _ _ (.inl ⟨rfl, by simp, rfl, by simp⟩))
  | t :: rest, i, hd, h1, h2 => by
    refine .cps fun Q hQ => ?_
    rw [EvL_eq]
    simp [cnSizes] at h1
    obtain ⟨g1, g2, g3⟩ := drop_cons' hd
    have hs : t.size = 3 + agSizes t.args + sizes t.idx + t.dec.size := rfl
    obtain ⟨x1, q1⟩ := heavyArgs_spec hA t.args (by omega)
    obtain ⟨x2, q2⟩ := heavy_spec hA t.idx (by omega)
    obtain ⟨x3, q3⟩ := heavy_spec hA [t.dec] (by simp [sizes]; omega)
    simp [ts, css_cons] at q3
    have e2 := wrap_i64 (n := i + 1) (by omega) (by omega)
    have ih := heavyCons_loop b rest (i + 1) g3 (by omega) h2
    cases x1 with
    | true =>
      simp [-getElem?_pos, m19_l0, g1, g2, q1, e2]
      exact .mk (hQ _ _ (.inr ⟨rfl, by simp⟩))
    | false =>
      cases x2 with
      | true =>
        simp [-getElem?_pos, m19_l0, g1, g2, q1, q2, e2]
        exact .mk (hQ _ _ (.inr ⟨rfl, by simp⟩))
      | false =>
        cases x3 with
        | true =>
          simp [-getElem?_pos, m19_l0, g1, g2, q1, q2, q3, e2]
          exact .mk (hQ _ _ (.inr ⟨rfl, by simp⟩))
        | false =>
          simp [-getElem?_pos, m19_l0, g1, g2, q1, q2, q3, e2]
          exact ih.imp fun e σ h => hQ _ _ h

theorem heavyBlk_spec (b : Blk) (hz : b.size < 1000000000) : ∃ x, call S 19 [bv b] [] = some (.bool x, []) := by
  rw [hA.eq (m := m19) rfl]
  have hs : b.size = 1 + srtSizes b.sorts + cnSizes b.cons := rfl
  have hl1 := srtSizes_ge b.sorts
  have hl2 := cnSizes_ge b.cons
  by_cases c : (10 : Int) < b.sorts.length
  · exact ⟨true, by simp [runL, m19, leave, c]⟩
  by_cases c2 : (20 : Int) < b.cons.length
  · exact ⟨true, by simp [runL, m19, leave, c, c2]⟩
  obtain ⟨e, ⟨T, H, m⟩, h, h3⟩ := heavySorts_loop hA b b.sorts 0 rfl (by omega) (by omega)
  simp at h
  rcases h3 with ⟨rfl, t1, rfl, rfl⟩ | ⟨rfl, h3⟩
  · obtain ⟨e, ⟨T2, H2, m2⟩, h2, h4⟩ := heavyCons_loop hA b b.cons 0 rfl (by omega) (by omega)
    simp at h2 t1
    rcases h4 with ⟨rfl, _⟩ | ⟨rfl, h4⟩
    · exact ⟨false, by simp [runL, m19, leave, *]⟩
    · simp at h4
      exact ⟨true, by simp [runL, m19, leave, *]⟩
  · simp at h3
    exact ⟨true, by simp [runL, m19, leave, *]⟩
theorem heavyDcl_spec (d : Dcl) (hz : d.size < 1000000000) : ∃ x, call S 31 [dv d] [] = some (.bool x, []) := by
  rw [hA.eq (m := m31) rfl]
  have hs : d.size = 1 + d.type.size + d.body.size + d.block.size := rfl
  obtain ⟨x1, q1⟩ := heavy_spec hA [d.type, d.body] (by simp [sizes]; omega)
  obtain ⟨x2, q2⟩ := heavyBlk_spec hA d.block (by omega)
  simp [ts, css_cons] at q1
  cases x1 with
  | true => exact ⟨true, by simp [runL, m31, leave, *]⟩
  | false => exact ⟨x2, by simp [runL, m31, leave, *]⟩
theorem heavyDcls_loop : ∀ (rest all : List Dcl) (i : Nat), all.drop i = rest → dclSizes rest < 1000000000 → all.length < 1000000000 → 
    Ends (EvL S [0, 3] [] m24_l0 [ds all, .int .i64 i] [] 0) fun e σ => e = .ex 0 ∨ (e = .rt ∧ σ.T 2 = .bool true)
  | [], all, i, hd, h1, h2 => by
    refine .cps fun Q hQ => ?_
    rw [EvL_eq]
    have := drop_nil' hd
    have h3 : ¬ i < all.length := by omega
    simp [m24_l0, h3]
    exact .mk (hQ _ _ (.inl rfl))
  | t :: rest, all, i, hd, h1, h2 => by
    refine .cps fun Q hQ => ?_
    rw [EvL_eq]
    simp [dclSizes] at h1
    obtain ⟨g1, g2, g3⟩ := drop_cons' hd
    obtain ⟨x1, q1⟩ := heavyDcl_spec hA t (by omega)
    have e2 := wrap_i64 (n := i + 1) (by omega) (by omega)
    cases x1 with
    | true =>
      simp [-getElem?_pos, m24_l0, g1, g2, q1, e2]
      exact .mk (hQ _ _ (.inr ⟨rfl, by simp⟩))
    | false =>
      simp [-getElem?_pos, m24_l0, g1, g2, q1, e2]
      exact (heavyDcls_loop rest all (i + 1) g3 (by omega) h2).imp fun e σ h => hQ _ _ h
theorem heavyDcls_spec (l : List Dcl) (hz : dclSizes l < 1000000000) : ∃ x, call S 24 [ds l] [] = some (.bool x, []) := by
  rw [hA.eq (m := m24) rfl]
  have hl := dclSizes_ge l
  by_cases c : (70 : Int) < l.length
  · exact ⟨true, by simp [runL, m24, leave, c]⟩
  obtain ⟨e, σ, h, h3⟩ := heavyDcls_loop hA l l 0 rfl hz (by omega)
  simp at h
  rcases h3 with rfl | ⟨rfl, h3⟩
  · exact ⟨false, by simp [runL, m24, leave, c, h]⟩
  · exact ⟨true, by simp [runL, m24, leave, c, h, h3]⟩
theorem u_spec (n : Int) : call S 16 [.int .i64 n] [] = some (.agg [.int .i64 2, .int .i64 n, .sl .plain 3 []], []) := by
  rw [hA.eq (m := m16) rfl]
  simp [runL, m16, leave]
theorem twinBytes_spec (l : List Int) (hl : l.length < 1000000000) : call S 30 [.sl .plain 1 (byR l)] [] = some (.sl (.tok 0) 1 (byR l), [.tok 5 1 l.length]) := by
  rw [hA.eq (m := m30) rfl]
  have : l.length ≤ 140737488355328 := by omega
  simp [runL, m30, leave, this]
end Go.Px.B
/- The laws of piles, of the small language: PileUnlike, PileRows, PileDefs, PileMany. -/
set_option maxRecDepth 100000
set_option linter.unusedVariables false
set_option linter.unusedSimpArgs false
set_option linter.unusedSectionVars false
namespace Go.Px.B
open Go Go.Px
variable {S : Sys} (hA : Has S tabA)
include hA
omit hA in
theorem putR_one : putR [⟨1, .mk 2 0 [], Tm.zero, Blk.zero⟩] = ([1, 1, 2, 0, 0], 0) := by decide +kernel
omit hA in
theorem getS_one : getS [1, 1, 2, 0, 0] = ([⟨1, .mk 2 0 [], Tm.zero, Blk.zero⟩], 0) := by decide +kernel
theorem wakes_spec : call S 26 [] [] = some (.bool true, []) := by
  have h1 := u_spec hA 0
  have h2 := put_spec hA [⟨1, .mk 2 0 [], Tm.zero, Blk.zero⟩] (by decide +kernel)
  have h3 := pget_spec hA (b := [1, 1, 2, 0, 0]) (by simp [okB]) (by simp)
  have h4 := kbytes_spec hA [1, 1, 2, 0, 0] [1, 1, 2, 0, 0] (by simp)
  have h5 := kdecls_spec hA [⟨1, .mk 2 0 [], Tm.zero, Blk.zero⟩] [⟨1, .mk 2 0 [], Tm.zero, Blk.zero⟩] (by decide +kernel)
  have h6 := pcheck_spec hA ⟨1, .mk 2 0 [], Tm.zero, Blk.zero⟩ (by decide +kernel)
  have e4 : lEq intEq [1, 1, 2, 0, 0] [1, 1, 2, 0, 0] = true := by decide
  have e5 : lEq dclEq [⟨1, .mk 2 0 [], Tm.zero, Blk.zero⟩] [⟨1, .mk 2 0 [], Tm.zero, Blk.zero⟩] = true := by decide +kernel
  have e6 : dclOk ⟨1, .mk 2 0 [], Tm.zero, Blk.zero⟩ = true := by decide +kernel
  rw [putR_one] at h2
  rw [getS_one] at h3
  rw [e4] at h4
  rw [e5] at h5
  rw [e6] at h6
  simp [ds, dv, dcs_cons, Tm.zero, Blk.zero, byR_cons] at h2 h3 h4 h5 h6
  rw [hA.eq (m := m26) rfl]
  simp [runL, m26, leave, h1, h2, h3, h4, h5, h6]

omit hA in
theorem putR_ne {l : List Dcl} (h : (putR l).2 ≠ 0) : (putR l).1 = [] := by
  unfold putR at h ⊢
  split
  · rfl
  split
  · rfl
  split
  · rfl
  · rename_i h1 h2 h3
    simp [h1, h2, h3] at h
omit hA in
theorem putR_zero {l : List Dcl} (h : (putR l).2 = 0) : okPile l ∧ (putR l).1 = pileBytes l ∧ (pileBytes l).length ≤ 65536 := by
  unfold putR at h ⊢
  split
  · rename_i h1; simp [h1] at h
  split
  · rename_i h1 h2; simp [h1, h2] at h
  split
  · rename_i h1 h2 h3; simp [h1, h2, h3] at h
  · rename_i h1 h2 h3
    exact ⟨⟨by omega, List.all_eq_true.1 (by simpa using h2)⟩, rfl, by omega⟩
omit hA in
theorem putR_ok {l : List Dcl} (h : okPile l) (hl : (pileBytes l).length ≤ 65536) : putR l = (pileBytes l, 0) := by
  unfold putR
  rw [if_neg (by have := h.1; omega), if_neg (by rw [List.all_eq_true.2 h.2]; simp), if_neg (by omega)]
omit hA in
theorem boolEq_of_iff {p q : Bool} (h : p = true ↔ q = true) : p = q := by cases p <;> cases q <;> simp_all
theorem unlike_law (l k : List Dcl) (cut more : Int) (hl : 6 * dclSizes l < 900000000) (hk : 6 * dclSizes k < 900000000) (hm : 0 ≤ more ∧ more ≤ 255) :
    call S 5 [ds l, ds k, .int .i64 cut, .int .u8 more] [] = some (.bool true, []) := by
  rw [hA.eq (m := m5) rfl]
  obtain ⟨x1, q1⟩ := heavyDcls_spec hA l (by omega)
  obtain ⟨x2, q2⟩ := heavyDcls_spec hA k (by omega)
  have hw := wakes_spec hA
  have p1 := put_spec hA l hl
  have p2 := put_spec hA k hk
  cases x1
  case true => simp [runL, m5, leave, q1]
  cases x2
  case true => simp [runL, m5, leave, q1, q2]
  by_cases e1 : (putR l).2 = 0
  case neg =>
    have f1 := putR_ne e1
    by_cases e2 : (putR k).2 = 0
    · simp [runL, m5, leave, q1, q2, p1, p2, e1, e2, f1, hw]
    · have f2 := putR_ne e2
      simp [runL, m5, leave, q1, q2, p1, p2, e1, e2, f1, f2, hw]
  by_cases e2 : (putR k).2 = 0
  case neg =>
    have f2 := putR_ne e2
    simp [runL, m5, leave, q1, q2, p1, p2, e1, e2, f2, hw]
  obtain ⟨o1, b1, z1⟩ := putR_zero e1
  obtain ⟨o2, b2, z2⟩ := putR_zero e2
  rw [b1, e1] at p1
  rw [b2, e2] at p2
  have h3 := kbytes_spec hA (pileBytes l) (pileBytes k) (by omega)
  have h4 := kdecls_spec hA l k (by omega)
  have e34 : lEq intEq (pileBytes l) (pileBytes k) = lEq dclEq l k := boolEq_of_iff (by
    rw [lEq_iff intEq_iff, lEq_iff dclEq_iff]
    exact ⟨pile_inj o1 o2, fun h => by rw [h]⟩)
  rw [e34] at h3
  have hb := pileBytes_ok l
  have hpos : 0 < (pileBytes l).length := by simp [pileBytes]
  generalize hB : pileBytes l = B at *
  have n0 : ¬ B = [] := List.length_pos_iff.1 hpos
  have u1 : IntKind.u64.wrap (B.length : Int) = B.length := by
    simp only [IntKind.wrap, IntKind.signed, IntKind.bits]
    simp
    omega
  have u2 : 0 ≤ IntKind.u64.wrap cut := by
    simp only [IntKind.wrap, IntKind.signed, IntKind.bits]
    simp
    omega
  have c0 := Int.tmod_nonneg (B.length : Int) u2
  have c1 := Int.tmod_lt_of_pos (IntKind.u64.wrap cut) (show (0 : Int) < B.length by omega)
  generalize hc : (IntKind.u64.wrap cut).tmod (B.length : Int) = c at *
  have u3 := wrap_i64 (n := c) (by omega) (by omega)
  have g1 := pget_spec hA (b := B.take c.toNat) (fun x hx => hb x (List.mem_of_mem_take hx)) (by simp; omega)
  have r1 : getS (B.take c.toNat) = ([], 3) := by
    unfold getS
    rw [← hB, get_cut o1 (by rw [hB]; omega) (by rw [hB]; exact hb)]
  rw [r1] at g1
  have hb2 : okB (B ++ [more]) := okB_append.2 ⟨hb, okB_cons.2 ⟨hm, okB_nil⟩⟩
  have g2 := pget_spec hA (b := B ++ [more]) hb2 (by simp; omega)
  have r2 : getS (B ++ [more]) = ([], 3) := by
    unfold getS
    rw [← hB, get_more o1 (by rw [hB]; exact hb2)]
  rw [r2] at g2
  have t1 := twinBytes_spec hA B (by omega)
  have a1 : B.length + 1 ≤ 140737488355328 := by omega
  have s1 : ¬ c < 0 := by omega
  have s2 : c ≤ B.length := by omega
  have u4 : IntKind.i64.wrap (0 + 0) = 0 := by decide
  rw [byR_append] at g2
  simp [byR_cons] at g1 g2
  cases hE : lEq dclEq l k <;> rw [hE] at h3 h4 <;>
    simp [runL, m5, leave, q1, q2, p1, p2, h3, h4, n0, u1, u3, hc, g1, g2, t1, a1, s1, s2, byR_take, byR_append, byR_cons, hw, c0]

omit hA in
theorem dclBytes_head (d : Dcl) (h : dclOk d = true) : ∃ r, dclBytes d = d.kind :: r ∧ 1 ≤ d.kind ∧ d.kind ≤ 3 := by
  unfold dclOk at h
  have hk : d.kind = 1 ∨ d.kind = 2 ∨ d.kind = 3 := by
    by_cases k1 : d.kind = 1
    · exact .inl k1
    by_cases k2 : d.kind = 2
    · exact .inr (.inl k2)
    by_cases k3 : d.kind = 3
    · exact .inr (.inr k3)
    simp [k1, k2, k3] at h
  refine ⟨(dclBytes d).tail, ?_, by omega, by omega⟩
  have e : u8 d.kind = d.kind := u8_id (by omega) (by omega)
  simp [dclBytes, e]
omit hA in
theorem flat_mem_len {l : List Dcl} {d : Dcl} (h : d ∈ l) : (dclBytes d).length ≤ (dclsBytes l).length := by
  induction l with
  | nil => cases h
  | cons a r ih =>
    simp only [dclsBytes, List.flatMap_cons, List.length_append] at ih ⊢
    rcases List.mem_cons.1 h with e | h
    · rw [e]; omega
    · have := ih h; omega
theorem rows_loop (l : List Dcl) (ok : okPile l) (hl : (pileBytes l).length ≤ 65536) (hz : 6 * dclSizes l < 900000000) (av : PV) (hav : av = .sl .plain 1 (byR (pileBytes l))) : ∀ (rest : List Dcl) (i : Nat) (w : List Int), l.drop i = rest → w.length + (dclsBytes rest).length ≤ 65536 →
    Ends (EvL S [0, 3, 5, 6] [23, 25] m6_l0 [ds l, av, .sl (.tok 23) 1 (byR w), .int .i64 i] [.tok 5 1 w.length, .free] 0) fun e σ => e = .ex 0 ∧ σ.T 3 = av ∧ σ.T 5 = .sl (.tok 23) 1 (byR (w ++ dclsBytes rest)) ∧ σ.m = 0
  | [], i, w, hd, h1 => by
    subst hav
    refine .cps fun Q hQ => ?_
    rw [EvL_eq]
    have := drop_nil' hd
    have h3 : ¬ i < l.length := by omega
    simp [m6_l0, h3]
    exact .mk (hQ _ _ (by simp [dclsBytes]))
  | d :: rest, i, w, hd, h1 => by
    refine .cps fun Q hQ => ?_
    obtain ⟨g1, g2, g3⟩ := drop_cons' hd
    have hlen := ok.1
    have hmem : d ∈ l := List.mem_of_getElem? g2
    have hd0 := ok.2 d hmem
    obtain ⟨r, hr, hk1, hk3⟩ := dclBytes_head d hd0
    have hle := flat_mem_len hmem
    have hsz := dclSizes_mem hmem
    have hp : putR [d] = (1 :: dclBytes d, 0) := by
      have e1 : pileBytes [d] = 1 :: dclBytes d := by simp [pileBytes, dclsBytes]; decide
      rw [putR_ok (l := [d]) ⟨by simp, fun x hx => by simp at hx; rw [hx]; exact hd0⟩ (by rw [e1]; simp [pileBytes] at hl ⊢; omega), e1]
    have c1 := put_spec hA [d] (by simp [dclSizes]; omega)
    rw [hp, hr] at c1
    have e0 : (dcs l).take (i + 1) = (dcs l).take (i + 1) := rfl
    have e1 : ((dcs l).take (i + 1)).drop i = dcs [d] := by
      have : (l.take (i + 1)).drop i = [d] := by
        rw [List.drop_take]
        simp [hd]
      simp only [dcs, ← List.map_take, ← List.map_drop, this]
    have e2 := wrap_i64 (n := i + 1) (by omega) (by omega)
    have e3 : (i : Int) ≤ i + 1 := by omega
    have e4 : ((i : Int) + 1).toNat = i + 1 := by omega
    have e5 : (i : Int) + 1 ≤ l.length := by omega
    have e6 := wrap_i64 (n := d.kind) (by omega) (by omega)
    simp only [dclsBytes, List.flatMap_cons, List.length_append] at h1
    rw [hr] at h1
    simp at h1
    have a1 : w.length + (r.length + 1) ≤ 140737488355328 := by omega
    have ih := rows_loop l ok hl hz av hav rest (i + 1) (w ++ dclBytes d) g3 (by rw [hr]; simp [dclsBytes]; omega)
    subst hav
    rw [hr] at ih
    simp [ds, dcs_cons, byR_cons, byR_append] at c1 ih e1
    have z1 : ¬ ((r.length : Int) + 1 + 1 < 2) := by omega
    have z2 : (1 : Int) ≤ (r.length : Int) + 1 + 1 := by omega
    have z3 : ((r.length : Int) + 1 + 1).toNat = r.length + 2 := by omega
    have z4 : (byR r).take r.length = byR r := by simp [byR_take]
    rw [EvL_eq]
    simp [-getElem?_pos, m6_l0, g1, g2, e1, e2, e3, e4, e5, e6, c1, z1, z2, z3, z4, a1]
    exact ih.imp fun e σ h => hQ _ _ (by simpa [dclsBytes, hr, byR_append, byR_cons] using h)
theorem rows_law (l : List Dcl) (hz : 6 * dclSizes l < 900000000) : call S 6 [ds l] [] = some (.bool true, []) := by
  rw [hA.eq (m := m6) rfl]
  obtain ⟨x1, q1⟩ := heavyDcls_spec hA l (by omega)
  have hw := wakes_spec hA
  have p1 := put_spec hA l hz
  cases x1
  case true => simp [runL, m6, leave, q1]
  by_cases e1 : (putR l).2 = 0
  case neg =>
    have f1 := putR_ne e1
    simp [runL, m6, leave, q1, p1, e1, f1, hw]
  obtain ⟨o1, b1, z1⟩ := putR_zero e1
  rw [b1, e1] at p1
  have h3 := kbytes_spec hA (pileBytes l) (pileBytes l) (by omega)
  rw [(lEq_iff intEq_iff _ _).2 rfl] at h3
  have e2 : (pileBytes l).length = (dclsBytes l).length + 1 := by simp [pileBytes]
  obtain ⟨_, ⟨T, H, m⟩, h, rfl, t3, t5, rfl⟩ := rows_loop hA l o1 z1 hz _ rfl l 0 [u8 l.length] rfl (by simp; omega)
  have e3 : [u8 (l.length : Int)] ++ dclsBytes l = pileBytes l := rfl
  rw [e3] at t5
  simp [byR_cons] at h t3 t5
  simp [runL, m6, leave, q1, p1, hw, h, t3, t5, h3, wrap_u8]
omit hA in
theorem notNone {t : Tm} (h : tmCheck t = 0) : isNone t = false := by
  cases hn : isNone t with
  | false => rfl
  | true =>
    obtain rfl := isNone_iff.1 hn
    have e : tmCheck Tm.zero = 1 := by decide +kernel
    omega
theorem defs_law (t u : Tm) (h1 : t.size < 2000000) (h2 : u.size < 2000000) : call S 7 [tv t, tv u] [] = some (.bool true, []) := by
  rw [hA.eq (m := m7) rfl]
  have zs := zero_size
  have zb := blk_zero_size
  have hd1 : dclSizes [⟨1, t, Tm.zero, Blk.zero⟩] < 6000000 := by simp [dclSizes, Dcl.size]; omega
  have hd2 : dclSizes [⟨2, t, u, Blk.zero⟩] < 6000000 := by simp [dclSizes, Dcl.size]; omega
  obtain ⟨x1, q1⟩ := heavyDcl_spec hA ⟨0, t, u, Blk.zero⟩ (by simp [Dcl.size]; omega)
  have hw := wakes_spec hA
  have p1 := put_spec hA [⟨1, t, Tm.zero, Blk.zero⟩] (by omega)
  have p2 := put_spec hA [⟨2, t, u, Blk.zero⟩] (by omega)
  simp [dv, ds, dcs_cons, Tm.zero, Blk.zero] at q1 p1 p2
  cases x1
  case true => simp [runL, m7, leave, q1]
  by_cases ct : tmCheck t = 0
  case neg =>
    have r1 : putR [⟨1, t, .mk 0 0 [], ⟨[], [], 0⟩⟩] = ([], 12) := by simp [putR, dclOk, ct]
    have r2 : putR [⟨2, t, u, ⟨[], [], 0⟩⟩] = ([], 12) := by simp [putR, dclOk, ct]
    rw [r1] at p1
    rw [r2] at p2
    have k1 := put_bad hA t _ (by omega) ct rfl
    by_cases cu : tmCheck u = 0
    · have k2 := put_nil hA u (by omega) cu
      simp at p1 p2
      simp [runL, m7, leave, q1, p1, p2, k1, k2, ct, hw]
    · have k2 := put_bad hA u _ (by omega) cu rfl
      simp at p1 p2
      simp [runL, m7, leave, q1, p1, p2, k1, k2, ct, hw]
  have hn := notNone ct
  have l1 := packT_len t
  have s1 := (tmCheck_zero.1 ct).1
  have k1 := put_nil hA t (by omega) ct
  have z0 : isPlain ⟨[], [], 0⟩ = true := by decide
  have z1 : isNone (.mk 0 0 []) = true := by decide
  have y1 : u8 1 = 1 := by decide
  have y2 : u8 2 = 2 := by decide
  have b1 : pileBytes [⟨1, t, .mk 0 0 [], ⟨[], [], 0⟩⟩] = 1 :: 1 :: packT t := by simp [pileBytes, dclsBytes, dclBytes, tmBytes, hn, y1]
  have r1 : putR [⟨1, t, .mk 0 0 [], ⟨[], [], 0⟩⟩] = (1 :: 1 :: packT t, 0) := by
    rw [putR_ok (l := [⟨1, t, .mk 0 0 [], ⟨[], [], 0⟩⟩]) ⟨by simp, by simp [dclOk, ct, z0, z1]⟩ (by rw [b1]; simp; omega), b1]
  rw [r1] at p1
  have h3 := kbytes_spec hA (1 :: 1 :: packT t) (1 :: 1 :: packT t) (by simp; omega)
  rw [(lEq_iff intEq_iff _ _).2 rfl] at h3
  obtain ⟨b, bs, hb⟩ : ∃ b bs, packT t = b :: bs := by
    cases hp : packT t with
    | nil => exact absurd hp (packT_ne t)
    | cons b bs => exact ⟨b, bs, rfl⟩
  have hbl : bs.length + 1 = (packT t).length := by rw [hb]; simp
  have a1 : 2 + (bs.length + 1) ≤ 140737488355328 := by omega
  by_cases cu : tmCheck u = 0
  case neg =>
    have r2 : putR [⟨2, t, u, ⟨[], [], 0⟩⟩] = ([], 12) := by simp [putR, dclOk, ct, cu]
    rw [r2] at p2
    have k2 := put_bad_own hA u b bs (by omega) cu
    rw [hb] at p1 k1 h3
    simp [byR_cons] at p1 p2 k1 k2 h3
    simp [runL, m7, leave, q1, p1, p2, k1, k2, h3, cu, hw, a1]
  have hnu := notNone cu
  have l2 := packT_len u
  have s2 := (tmCheck_zero.1 cu).1
  have b2 : pileBytes [⟨2, t, u, ⟨[], [], 0⟩⟩] = 1 :: 2 :: (packT t ++ packT u) := by simp [pileBytes, dclsBytes, dclBytes, tmBytes, hn, hnu, y1, y2]
  have r2 : putR [⟨2, t, u, ⟨[], [], 0⟩⟩] = (1 :: 2 :: (packT t ++ packT u), 0) := by
    rw [putR_ok (l := [⟨2, t, u, ⟨[], [], 0⟩⟩]) ⟨by simp, by simp [dclOk, ct, cu, z0]⟩ (by rw [b2]; simp; omega), b2]
  rw [r2] at p2
  have k2 := put_own hA u b bs (by omega) cu
  have h4 := kbytes_spec hA (1 :: 2 :: (packT t ++ packT u)) (1 :: 2 :: (packT t ++ packT u)) (by simp; omega)
  rw [(lEq_iff intEq_iff _ _).2 rfl] at h4
  have a2 : 2 + (bs.length + (packT u).length + 1) ≤ 140737488355328 := by omega
  rw [hb] at p1 p2 k1 h3 h4
  simp [byR_cons, byR_append, Nat.add_assoc, Nat.add_comm, Nat.add_left_comm] at p1 p2 k1 k2 h3 h4 a1 a2
  simp [runL, m7, leave, q1, p1, p2, k1, k2, h3, h4, hw, a1, a2, byR_append, byR_cons, Nat.add_assoc, Nat.add_comm, Nat.add_left_comm]

omit hA in
theorem byR_tail (l : List Int) : (byR l).tail = byR l.tail := by cases l <;> simp [byR]
def axN (i : Nat) : Dcl := ⟨1, .mk 2 ((i % 5 : Nat) : Int) [], Tm.zero, Blk.zero⟩
def axs (n : Nat) : List Dcl := (List.range n).map axN
omit hA in
theorem axs_succ (n : Nat) : axs (n + 1) = axs n ++ [axN n] := by simp [axs, List.range_succ]
omit hA in
theorem axs_len (n : Nat) : (axs n).length = n := by simp [axs]
theorem many_loop (n : Nat) (hn : n < 1000) : ∀ (k i : Nat), i + k = n →
    Ends (EvL S [0, 3, 4] [20] m8_l0 [.int .i64 n, .sl (.tok 20) 10 (dcs (axs i)), .int .i64 i] [.tok 30 10 i] 0) fun e σ => e = .ex 0 ∧ σ.T 0 = .int .i64 n ∧ σ.T 3 = .sl (.tok 20) 10 (dcs (axs n)) ∧ σ.m = 0 ∧ σ.H = ofH [(20, .tok 30 10 n)]
  | 0, i, hi => by
    refine .cps fun Q hQ => ?_
    obtain rfl : i = n := by omega
    rw [EvL_eq]
    simp [m8_l0]
    exact .mk (hQ _ _ (by simp))
  | k + 1, i, hi => by
    refine .cps fun Q hQ => ?_
    have h1 : i < n := by omega
    have e1 := wrap_i64 (n := i + 1) (by omega) (by omega)
    have e2 : (i : Int).tmod 5 = ((i % 5 : Nat) : Int) := by
      rw [Int.tmod_eq_emod_of_nonneg (by omega)]
      omega
    have c1 := u_spec hA ((i % 5 : Nat) : Int)
    have a1 : (i + 1) * 144 ≤ 140737488355328 := by omega
    have ih := many_loop n hn k (i + 1) (by omega)
    rw [axs_succ, dcs_append] at ih
    simp [dcs_cons, axN, Tm.zero, Blk.zero] at ih c1 e2
    rw [EvL_eq]
    simp [m8_l0, h1, e1, e2, c1, a1, axs_len]
    exact ih.imp fun e σ h => hQ _ _ h
omit hA in
theorem many59 : putR (axs 59) = (pileBytes (axs 59), 0) ∧ (pileBytes (axs 59)).length = 237 ∧ 6 * dclSizes (axs 59) < 900000000 ∧ getS (61 :: (pileBytes (axs 59)).drop 1) = ([], 3) := by decide +kernel
omit hA in
theorem many60 : putR (axs 60) = (pileBytes (axs 60), 0) ∧ (pileBytes (axs 60)).length = 241 ∧ 6 * dclSizes (axs 60) < 900000000 ∧ getS (61 :: (pileBytes (axs 60)).drop 1) = ([], 3) := by decide +kernel
omit hA in
theorem many61 : putR (axs 61) = ([], 2) ∧ 6 * dclSizes (axs 61) < 900000000 := by decide +kernel
theorem many_law (n : Int) : call S 8 [.int .i64 n] [] = some (.bool true, []) := by
  have hw := wakes_spec hA
  have u2 : 0 ≤ IntKind.u64.wrap n := by
    simp only [IntKind.wrap, IntKind.signed, IntKind.bits]
    simp
    omega
  have c0 := Int.tmod_nonneg 3 u2
  have c1 := Int.tmod_lt_of_pos (IntKind.u64.wrap n) (show (0 : Int) < 3 by omega)
  generalize hc : (IntKind.u64.wrap n).tmod 3 = c at *
  rw [hA.eq (m := m8) rfl]
  rcases (show c = 0 ∨ c = 1 ∨ c = 2 by omega) with rfl | rfl | rfl
  · obtain ⟨_, ⟨T, H, m⟩, h, rfl, t0, t3, rfl, rfl⟩ := many_loop hA 59 (by omega) 59 0 rfl
    obtain ⟨p, hlen, hz, g61⟩ := many59
    have p1 := put_spec hA (axs 59) hz
    rw [p] at p1
    obtain ⟨o1, _, z1⟩ := putR_zero (l := axs 59) (by rw [p])
    have hb := pileBytes_ok (axs 59)
    have g1 := pget_spec hA (b := pileBytes (axs 59)) hb (by omega)
    have r1 : getS (pileBytes (axs 59)) = (axs 59, 0) := by
      unfold getS
      rw [get_put o1 z1]
    rw [r1] at g1
    have hb2 : okB (61 :: (pileBytes (axs 59)).drop 1) := okB_cons.2 ⟨by omega, okB_drop 1 hb⟩
    have g2 := pget_spec hA (b := 61 :: (pileBytes (axs 59)).drop 1) hb2 (by simp; omega)
    rw [g61] at g2
    have k1 := kdecls_spec hA (axs 59) (axs 59) (by omega)
    rw [(lEq_iff dclEq_iff _ _).2 rfl] at k1
    have w1 : IntKind.i64.wrap (59 + 0) = 59 := by decide
    have w2 : IntKind.i64.wrap (4 * 59) = 236 := by decide
    have w3 : IntKind.i64.wrap (1 + 236) = 237 := by decide
    have e0 : axs 0 = [] := rfl
    rw [e0] at h
    generalize hB : pileBytes (axs 59) = B at *
    have tk : (byR B).take 237 = byR B := by
      rw [byR_take, ← hlen, List.take_length]
    have a1 : 1 + (B.length - 1) ≤ 140737488355328 := by omega
    simp [byR_cons, byR_drop] at h t0 t3 p1 g1 g2 k1 w1 w2 w3
    simp [runL, m8, leave, hc, h, t0, t3, p1, w1, w2, w3, hw, hlen, g1, g2, k1, byR_drop, byR_cons, byR_tail, tk, a1]
  · obtain ⟨_, ⟨T, H, m⟩, h, rfl, t0, t3, rfl, rfl⟩ := many_loop hA 60 (by omega) 60 0 rfl
    obtain ⟨p, hlen, hz, g61⟩ := many60
    have p1 := put_spec hA (axs 60) hz
    rw [p] at p1
    obtain ⟨o1, _, z1⟩ := putR_zero (l := axs 60) (by rw [p])
    have hb := pileBytes_ok (axs 60)
    have g1 := pget_spec hA (b := pileBytes (axs 60)) hb (by omega)
    have r1 : getS (pileBytes (axs 60)) = (axs 60, 0) := by
      unfold getS
      rw [get_put o1 z1]
    rw [r1] at g1
    have hb2 : okB (61 :: (pileBytes (axs 60)).drop 1) := okB_cons.2 ⟨by omega, okB_drop 1 hb⟩
    have g2 := pget_spec hA (b := 61 :: (pileBytes (axs 60)).drop 1) hb2 (by simp; omega)
    rw [g61] at g2
    have k1 := kdecls_spec hA (axs 60) (axs 60) (by omega)
    rw [(lEq_iff dclEq_iff _ _).2 rfl] at k1
    have w1 : IntKind.i64.wrap (59 + 1) = 60 := by decide
    have w2 : IntKind.i64.wrap (4 * 60) = 240 := by decide
    have w3 : IntKind.i64.wrap (1 + 240) = 241 := by decide
    have e0 : axs 0 = [] := rfl
    rw [e0] at h
    generalize hB : pileBytes (axs 60) = B at *
    have tk : (byR B).take 241 = byR B := by
      rw [byR_take, ← hlen, List.take_length]
    have a1 : 1 + (B.length - 1) ≤ 140737488355328 := by omega
    simp [byR_cons, byR_drop] at h t0 t3 p1 g1 g2 k1 w1 w2 w3
    simp [runL, m8, leave, hc, h, t0, t3, p1, w1, w2, w3, hw, hlen, g1, g2, k1, byR_drop, byR_cons, byR_tail, tk, a1]
  · obtain ⟨_, ⟨T, H, m⟩, h, rfl, t0, t3, rfl, rfl⟩ := many_loop hA 61 (by omega) 61 0 rfl
    obtain ⟨p, hz⟩ := many61
    have p1 := put_spec hA (axs 61) hz
    rw [p] at p1
    have w1 : IntKind.i64.wrap (59 + 2) = 61 := by decide
    have e0 : axs 0 = [] := rfl
    rw [e0] at h
    simp at h t0 t3 p1 w1
    simp [runL, m8, leave, hc, h, t0, t3, p1, w1, hw]
end Go.Px.B
