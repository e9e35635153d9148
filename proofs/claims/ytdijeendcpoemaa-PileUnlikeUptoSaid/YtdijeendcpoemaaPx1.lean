/- The small language and its proofs, part 1. -/
import Derived.Test.YtdijeendcpoemaaPx0
import Derived.Orders
import Derived.LoopN
import Derived.Laws.Sem
import Derived.Laws.BitsLemmas
set_option linter.all false
set_option linter.unusedVariables false
set_option linter.unusedSimpArgs false
set_option linter.unusedSectionVars false
/- A call's memory, there and back. -/
set_option linter.unusedVariables false
set_option linter.unusedSimpArgs false
namespace Go.Px
open Go

theorem objAt_lt {l : List Obj} {j : Nat} (h : j < l.length) : objAt l j = l[j] := by simp [objAt, h]
theorem objAt_ge {l : List Obj} {j : Nat} (h : l.length ≤ j) : objAt l j = .free := by simp [objAt, h]
theorem objAt_ne {l : List Obj} {j : Nat} (h : objAt l j ≠ .free) : j < l.length := by
  rcases Nat.lt_or_ge j l.length with h1 | h1
  · exact h1
  · exact absurd (objAt_ge h1) h
theorem getD_lt {l : List Nat} {j : Nat} (h : j < l.length) : l.getD j 0 = l[j] := by simp [h]

def calleeGh (g : Gh) (found : List Nat) : Gh := { κ := fun j => g.κ (found.getD j 0), τ := fun j => g.τ (found.getD j 0), I := g.I }

theorem freeFrom_get {H : Nat → Obj} {s : Nat} : ∀ {n : Nat}, freeFrom H s n = true → ∀ k, k < n → H (s + k) = .free
  | 0, _, k, hk => by cases hk
  | n + 1, h, k, hk => by
    simp only [freeFrom, Bool.and_eq_true] at h
    rcases Nat.lt_or_ge k n with h1 | h1
    · exact freeFrom_get h.2 k h1
    · have : k = n := by omega
      subst this
      have h2 := h.1
      split at h2
      · assumption
      · cases h2

section
variable {g : Gh} {w : World} {H : Nat → Obj} {found : List Nat} {objs : List Obj}

theorem packH_get (hp : packH H found = some objs) : objs.length = found.length ∧ ∀ (j : Nat) (h : j < found.length) (h2 : j < objs.length), renO found (H found[j]) = some objs[j] := mapO_get hp
theorem found_ne (hp : packH H found = some objs) {i : Nat} (hi : i ∈ found) : H i ≠ .free ∧ ∀ e es, H i ≠ .arr e es ∧ H i ≠ .frz e es := by
  obtain ⟨j, hj, rfl⟩ := List.getElem_of_mem hi
  obtain ⟨h1, h2⟩ := packH_get hp
  have h3 := h2 j hj (by omega)
  refine ⟨fun e => by rw [e] at h3; simp [renO] at h3, fun e es => ⟨fun h => by rw [h] at h3; simp [renO] at h3, fun h => by rw [h] at h3; simp [renO] at h3⟩⟩

theorem moves_in (hp : packH H found = some objs) {i j : Nat} (h : posOf i found = some j) : Moves g H (calleeGh g found) (objAt objs) i j := by
  obtain ⟨hj, rfl⟩ := posOf_some h
  obtain ⟨h1, h2⟩ := packH_get hp
  have hjo : j < objs.length := by omega
  have h3 := h2 j hj hjo
  have hk : (calleeGh g found).κ j = g.κ found[j] := by simp only [calleeGh, getD_lt hj]
  have ht : (calleeGh g found).τ j = g.τ found[j] := by simp only [calleeGh, getD_lt hj]
  refine ⟨fun cs hc => ?_, fun esz n v hv => ?_, fun e es he => ?_⟩
  · rw [hc] at h3
    simp only [renO, Option.map_eq_some_iff] at h3
    obtain ⟨cs', _, h4⟩ := h3
    exact ⟨⟨cs', by rw [objAt_lt hjo, ← h4]⟩, hk⟩
  · unfold TokR at hv ⊢
    rw [objAt_lt hjo, ht]
    cases hH : H found[j] with
    | tok t e m => rw [hH] at h3 hv; simp [renO] at h3; rw [← h3]; exact hv
    | gone => rw [hH] at h3 hv; simp [renO] at h3; rw [← h3]; trivial
    | _ => rw [hH] at hv; exact hv.elim
  · rcases he with he | he <;> rw [he] at h3 <;> simp [renO] at h3

theorem ownBlk_in (hp : packH H found = some objs) {j : Nat} (hj : j < found.length) : ownBlk (calleeGh g found) (objAt objs) j = ownBlk g H found[j] := by
  obtain ⟨h1, h2⟩ := packH_get hp
  have hjo : j < objs.length := by omega
  have h3 := h2 j hj hjo
  unfold ownBlk
  rw [objAt_lt hjo]
  simp only [calleeGh, getD_lt hj]
  cases hH : H found[j] with
  | cells cs => rw [hH] at h3; simp only [renO, Option.map_eq_some_iff] at h3; obtain ⟨cs', _, h4⟩ := h3; rw [← h4]
  | tok t e m => rw [hH] at h3; simp [renO] at h3; rw [← h3]
  | gone => rw [hH] at h3; simp [renO] at h3; rw [← h3]
  | _ => rw [hH] at h3; simp [renO] at h3

theorem callee_HR (hr : HR g w H) (hn : nodupB found = true) (hp : packH H found = some objs) : HR (calleeGh g found) w (objAt objs) := by
  obtain ⟨h1, h2⟩ := packH_get hp
  have src : ∀ j, objAt objs j ≠ .free → ∃ (hj : j < found.length), renO found (H found[j]) = some (objAt objs j) := fun j hj => by
    have hjo := objAt_ne hj
    have hjf : j < found.length := by omega
    exact ⟨hjf, by rw [objAt_lt hjo]; exact h2 j hjf hjo⟩
  have hk : ∀ j (hj : j < found.length), (calleeGh g found).κ j = g.κ found[j] ∧ (calleeGh g found).τ j = g.τ found[j] := fun j hj => by simp only [calleeGh, getD_lt hj, and_self]
  refine ⟨fun j cs hc => ?_, fun j e es hc => ?_, fun j e es hc => ?_, fun j t e n hc => ?_, fun i j b hij h3 h4 => ?_, hr.fresh⟩
  · obtain ⟨hj, h3⟩ := src j (by rw [hc]; simp)
    rw [hc] at h3
    cases hH : H found[j] with
    | cells cs0 =>
      rw [hH] at h3
      simp only [renO, Option.map_eq_some_iff] at h3
      obtain ⟨cs', h4, h5⟩ := h3
      cases h5
      obtain ⟨vs, ty, h6, h7, h8⟩ := hr.cells _ _ hH
      rw [(hk j hj).1]
      exact ⟨vs, ty, h6, All2.mapO h4 h7 fun a b c h9 h10 => ren1_RC (g := g) (g' := calleeGh g found) (H := H) (by rfl) (fun i j h => moves_in hp h) h9 h10, h8⟩
    | _ => rw [hH] at h3; simp [renO] at h3
  · obtain ⟨hj, h3⟩ := src j (by rw [hc]; simp)
    rw [hc] at h3
    cases hH : H found[j] <;> rw [hH] at h3 <;> simp [renO] at h3
  · obtain ⟨hj, h3⟩ := src j (by rw [hc]; simp)
    rw [hc] at h3
    cases hH : H found[j] <;> rw [hH] at h3 <;> simp [renO] at h3
  · obtain ⟨hj, h3⟩ := src j (by rw [hc]; simp)
    rw [hc] at h3
    cases hH : H found[j] with
    | tok t0 e0 n0 =>
      rw [hH] at h3
      simp [renO] at h3
      obtain ⟨rfl, rfl, rfl⟩ := h3
      rw [(hk j hj).2]
      exact hr.tok _ _ _ _ hH
    | _ => rw [hH] at h3; simp [renO] at h3
  · have hi : objAt objs i ≠ .free := fun e => by unfold ownBlk at h3; rw [e] at h3; cases h3
    have hj : objAt objs j ≠ .free := fun e => by unfold ownBlk at h4; rw [e] at h4; cases h4
    obtain ⟨hi', _⟩ := src i hi
    obtain ⟨hj', _⟩ := src j hj
    rw [ownBlk_in hp hi'] at h3
    rw [ownBlk_in hp hj'] at h4
    exact hr.apart found[i] found[j] b (fun e => hij (nodupB_get hn i j hi' hj' e)) h3 h4

/-! ### back -/
theorem backH_miss {s i : Nat} : ∀ (l : List Obj) (k : Nat), (∀ j, k ≤ j → j < k + l.length → backId found s j ≠ i) → backH H found s k l i = H i
  | [], k, _ => rfl
  | o :: r, k, h => by
    simp only [backH]
    rw [upd_ne _ _ (Ne.symm (h k (Nat.le_refl _) (by simp)))]
    exact backH_miss r (k + 1) fun j h1 h2 => h j (by omega) (by simp; omega)
theorem backH_hit {s K : Nat} (inj : ∀ a b, a < K → b < K → backId found s a = backId found s b → a = b) : ∀ (l : List Obj) (k : Nat), k + l.length ≤ K → ∀ j, k ≤ j → (h : j - k < l.length) → backH H found s k l (backId found s j) = backO found s (l[j - k])
  | [], k, _, j, _, h => by cases h
  | o :: r, k, hK, j, hj, h => by
    simp only [backH]
    simp only [List.length_cons] at hK h
    by_cases e : j = k
    · subst e
      rw [upd_self]
      simp
    · rw [upd_ne _ _ (fun h2 => e (inj j k (by omega) (by omega) h2))]
      have h3 : j - (k + 1) < r.length := by omega
      rw [backH_hit inj r (k + 1) (by omega) j (by omega) h3]
      congr 1
      have : j - k = (j - (k + 1)) + 1 := by omega
      simp only [this, List.getElem_cons_succ]

theorem backId_lt {s j : Nat} (h : j < found.length) : backId found s j = found[j] := by simp [backId, h]
theorem backId_ge {s j : Nat} (h : found.length ≤ j) : backId found s j = s + (j - found.length) := by simp [backId, Nat.not_lt.2 h]

theorem backId_inj (hn : nodupB found = true) (hp : packH H found = some objs) {s n : Nat} (hf : freeFrom H s n = true) : ∀ a b, a < found.length + n → b < found.length + n → backId found s a = backId found s b → a = b := by
  intro a b ha hb e
  have key : ∀ a b, a < found.length → found.length ≤ b → b < found.length + n → backId found s a ≠ backId found s b := fun a b h1 h2 h3 e => by
    rw [backId_lt h1, backId_ge h2] at e
    exact (found_ne hp (List.getElem_mem h1)).1 (by rw [e]; exact freeFrom_get hf _ (by omega))
  rcases Nat.lt_or_ge a found.length with h1 | h1 <;> rcases Nat.lt_or_ge b found.length with h2 | h2
  · rw [backId_lt h1, backId_lt h2] at e
    exact nodupB_get hn a b h1 h2 e
  · exact absurd e (key a b h1 h2 hb)
  · exact absurd e.symm (key b a h2 h1 ha)
  · rw [backId_ge h1, backId_ge h2] at e
    omega
end

section
variable {g : Gh} {w : World} {H : Nat → Obj} {found : List Nat} {objs objs' : List Obj} {s : Nat}
/-- the place in the callee's numbering -/
def fwd (found : List Nat) (s n i : Nat) : Option Nat :=
  match posOf i found with
  | some j => some j
  | none => if s ≤ i ∧ i < s + n then some (found.length + (i - s)) else none
theorem fwd_some {n i j : Nat} (h : fwd found s n i = some j) : j < found.length + n ∧ backId found s j = i := by
  unfold fwd at h
  split at h
  · rename_i k hk
    cases h
    obtain ⟨h1, h2⟩ := posOf_some hk
    exact ⟨by omega, by rw [backId_lt h1]; exact h2⟩
  · split at h
    · rename_i hc
      cases h
      exact ⟨by omega, by rw [backId_ge (by omega)]; omega⟩
    · cases h
theorem fwd_back (hn : nodupB found = true) (hp : packH H found = some objs) {n : Nat} (hf : freeFrom H s n = true) {j : Nat} (hj : j < found.length + n) : fwd found s n (backId found s j) = some j := by
  cases h : fwd found s n (backId found s j) with
  | some k =>
    obtain ⟨h1, h2⟩ := fwd_some h
    rw [backId_inj hn hp hf k j h1 hj h2]
  | none =>
    exfalso
    unfold fwd at h
    rcases Nat.lt_or_ge j found.length with h1 | h1
    · rw [backId_lt h1, posOf_get hn h1] at h
      cases h
    · rw [backId_ge h1] at h
      split at h
      · cases h
      · split at h
        · cases h
        · rename_i hc; exact hc ⟨by omega, by omega⟩
theorem fwd_none {n i : Nat} (h : fwd found s n i = none) : i ∉ found ∧ ∀ j, j < found.length + n → backId found s j ≠ i := by
  unfold fwd at h
  split at h
  · cases h
  · rename_i hp
    have h1 := posOf_none hp
    split at h
    · cases h
    · rename_i hc
      refine ⟨h1, fun j hj e => ?_⟩
      rcases Nat.lt_or_ge j found.length with h2 | h2
      · rw [backId_lt h2] at e
        exact h1 (e ▸ List.getElem_mem _)
      · rw [backId_ge h2] at e
        exact hc ⟨by omega, by omega⟩

def backGh (g g' : Gh) (found : List Nat) (s n : Nat) : Gh :=
  { κ := fun i => match fwd found s n i with | some j => g'.κ j | none => g.κ i, τ := fun i => match fwd found s n i with | some j => g'.τ j | none => g.τ i, I := g'.I }

theorem call_back (hr : HR g w H) (hn : nodupB found = true) (hp : packH H found = some objs) (hlen : found.length ≤ objs'.length) (hf : freeFrom H s (objs'.length - found.length) = true) {w' : World} {g' : Gh}
    (hr' : HR g' w' (objAt objs')) (hs : Stp objs.length w (calleeGh g found) (objAt objs) w' g' (objAt objs')) :
    let g2 := backGh g g' found s (objs'.length - found.length)
    let H2 := backH H found s 0 objs'
    HR g2 w' H2 ∧ Keeps w g.I w' g2.I ∧ Lives g H g2 H2 ∧ (∀ m, Stp m w g H w' g2 H2) ∧ ∀ j, objAt objs' j ≠ .free → Moves g' (objAt objs') g2 H2 j (backId found s j) := by
  intro g2 H2
  have hol : objs.length = found.length := (packH_get hp).1
  have hn' : found.length + (objs'.length - found.length) = objs'.length := by omega
  have hinj := backId_inj hn hp hf
  rw [hn'] at hinj
  have hhit : ∀ j, j < objs'.length → H2 (backId found s j) = backO found s (objAt objs' j) := fun j hj => by
    have := backH_hit (H := H) hinj objs' 0 (by omega) j (Nat.zero_le _) (by simpa using hj)
    simp only [Nat.sub_zero] at this
    rw [objAt_lt hj]
    exact this
  have hmiss : ∀ i, fwd found s (objs'.length - found.length) i = none → H2 i = H i := fun i hi => backH_miss objs' 0 fun j _ hj => (fwd_none hi).2 j (by omega)
  have gfwd : ∀ i j, fwd found s (objs'.length - found.length) i = some j → g2.κ i = g'.κ j ∧ g2.τ i = g'.τ j := fun i j h => by
    constructor
    · show (match fwd found s (objs'.length - found.length) i with | some j => g'.κ j | none => g.κ i) = _; rw [h]
    · show (match fwd found s (objs'.length - found.length) i with | some j => g'.τ j | none => g.τ i) = _; rw [h]
  have gmiss : ∀ i, fwd found s (objs'.length - found.length) i = none → g2.κ i = g.κ i ∧ g2.τ i = g.τ i := fun i h => by
    constructor
    · show (match fwd found s (objs'.length - found.length) i with | some j => g'.κ j | none => g.κ i) = _; rw [h]
    · show (match fwd found s (objs'.length - found.length) i with | some j => g'.τ j | none => g.τ i) = _; rw [h]
  have hfb : ∀ j, j < objs'.length → fwd found s (objs'.length - found.length) (backId found s j) = some j := fun j hj => fwd_back hn hp hf (by omega)
  -- the callee's objects, in the caller's numbers
  have hmoves : ∀ j, objAt objs' j ≠ .free → Moves g' (objAt objs') g2 H2 j (backId found s j) := fun j hj => by
    have hjl := objAt_ne hj
    have h1 := hhit j hjl
    have h2 := gfwd _ _ (hfb j hjl)
    refine ⟨fun cs hc => ⟨⟨_, by rw [h1, hc]; rfl⟩, h2.1⟩, fun esz n v hv => ?_, fun e es he => ⟨⟨es, ?_, rfl⟩, h2.1⟩⟩
    · unfold TokR at hv ⊢
      rw [h1, h2.2]
      cases ho : objAt objs' j <;> rw [ho] at hv <;> first | exact hv | exact hv.elim
    · rcases he with he | he
      · exact .inl (by rw [h1, he]; rfl)
      · exact .inr (by rw [h1, he]; rfl)
  have hback : ∀ {p : PV} {v : Value}, RC g' w' (objAt objs') p v → RC g2 w' H2 (back1 found s p) v := fun h => back1_RC (g := g') (g' := g2) (H := objAt objs') (by rfl) hmoves h
  have hkeeps : Keeps w g.I w' g2.I := hs.keeps
  have ob : ∀ i j, fwd found s (objs'.length - found.length) i = some j → ownBlk g2 H2 i = ownBlk g' (objAt objs') j := fun i j h => by
    obtain ⟨h1, rfl⟩ := fwd_some h
    unfold ownBlk
    rw [hhit j (by omega), (gfwd _ _ h).1, (gfwd _ _ h).2]
    cases objAt objs' j <;> rfl
  have om : ∀ i, fwd found s (objs'.length - found.length) i = none → ownBlk g2 H2 i = ownBlk g H i := fun i h => by
    unfold ownBlk
    rw [hmiss i h, (gmiss i h).1, (gmiss i h).2]
  have ocal : ∀ j b, ownBlk (calleeGh g found) (objAt objs) j = some b → ∃ hj : j < found.length, ownBlk g H found[j] = some b := fun j b h => by
    have hne : objAt objs j ≠ .free := fun e => by unfold ownBlk at h; rw [e] at h; cases h
    have hj : j < found.length := by have := objAt_ne hne; omega
    exact ⟨hj, by rw [← ownBlk_in hp hj]; exact h⟩
  have untouched : ∀ i b, fwd found s (objs'.length - found.length) i = none → ownBlk g H i = some b → w'.heap[b]? = w.heap[b]? ∧ g'.I b = g.I b := fun i b h ho =>
    hs.block b (ownBlk_lt hr ho) fun j hj => by
      obtain ⟨hjf, h2⟩ := ocal j b hj
      exact hr.apart i found[j] b (fun e => (fwd_none h).1 (e ▸ List.getElem_mem _)) ho h2
  have hlives : Lives g H g2 H2 := by
    have hin : ∀ i j, posOf i found = some j → fwd found s (objs'.length - found.length) i = some j := fun i j h => by unfold fwd; rw [h]
    have hpers : ∀ i j, posOf i found = some j → Pers (calleeGh g found) (objAt objs) g' (objAt objs') j ∧ j < objs'.length := fun i j h => by
      obtain ⟨h1, _⟩ := posOf_some h
      exact ⟨hs.pers j (by omega), by omega⟩
    refine ⟨fun i cs hc => ?_, fun i e es he => ?_, fun i esz n v hv => ?_⟩
    · cases hq : fwd found s (objs'.length - found.length) i with
      | none => exact ⟨⟨cs, by rw [hmiss i hq]; exact hc⟩, (gmiss i hq).1⟩
      | some j =>
        cases hq2 : posOf i found with
        | none =>
          exfalso
          obtain ⟨h1, h2⟩ := fwd_some hq
          have h3 := posOf_none hq2
          have h4 : found.length ≤ j := by
            rcases Nat.lt_or_ge j found.length with h | h
            · rw [backId_lt h] at h2; exact absurd (h2 ▸ List.getElem_mem _) h3
            · exact h
          rw [backId_ge h4] at h2
          rw [← h2, freeFrom_get hf _ (by omega)] at hc
          cases hc
        | some j' =>
          have e1 := hin i j' hq2
          rw [hq] at e1
          cases e1
          obtain ⟨h1, h2⟩ := hpers i j hq2
          obtain ⟨⟨cs1, h3⟩, h4⟩ := (moves_in (g := g) hp hq2).cells cs hc
          obtain ⟨⟨cs2, h5⟩, h6⟩ := h1.cells cs1 h3
          have e2 := (fwd_some hq).2
          exact ⟨⟨cs2.map (back1 found s), by rw [← e2, hhit j h2, h5]; rfl⟩, by rw [(gfwd i j hq).1, h6, h4]⟩
    · cases hq : fwd found s (objs'.length - found.length) i with
      | none => exact ⟨⟨es, by rw [hmiss i hq]; exact he, rfl⟩, (gmiss i hq).1⟩
      | some j =>
        exfalso
        obtain ⟨h1, h2⟩ := fwd_some hq
        rcases Nat.lt_or_ge j found.length with h | h
        · rw [backId_lt h] at h2
          have h3 := (found_ne hp (List.getElem_mem h)).2 e es
          rw [h2] at h3
          rcases he with he | he
          · exact h3.1 he
          · exact h3.2 he
        · rw [backId_ge h] at h2
          rw [← h2, freeFrom_get hf _ (by omega)] at he
          rcases he with he | he <;> cases he
    · cases hq : fwd found s (objs'.length - found.length) i with
      | none =>
        unfold TokR at hv ⊢
        rw [hmiss i hq, (gmiss i hq).2]
        exact hv
      | some j =>
        cases hq2 : posOf i found with
        | none =>
          exfalso
          obtain ⟨h1, h2⟩ := fwd_some hq
          have h3 := posOf_none hq2
          have h4 : found.length ≤ j := by
            rcases Nat.lt_or_ge j found.length with h | h
            · rw [backId_lt h] at h2; exact absurd (h2 ▸ List.getElem_mem _) h3
            · exact h
          rw [backId_ge h4] at h2
          unfold TokR at hv
          rw [← h2, freeFrom_get hf _ (by omega)] at hv
          exact hv.elim
        | some j' =>
          have e1 := hin i j' hq2
          rw [hq] at e1
          cases e1
          obtain ⟨h1, h2⟩ := hpers i j hq2
          have h3 := (moves_in (g := g) hp hq2).tok esz n v hv
          have e2 := (fwd_some hq).2
          unfold TokR at h3 ⊢
          rw [← e2, hhit j h2, e2, (gfwd i j hq).2]
          cases ho : objAt objs j with
          | tok t e k =>
            rw [ho] at h3
            rcases h1.tok t e k ho with h4 | ⟨k', h4, h5, h6⟩
            · rw [h4]; trivial
            · rw [h4]
              exact ⟨by have := h3.1; omega, fun he hk => by
                have e3 : k' = k := by have := h3.1; omega
                rw [h6 e3]
                exact h3.2 he (by omega)⟩
          | gone => rw [h1.gone ho]; trivial
          | _ => rw [ho] at h3; exact h3.elim
  have hownall : ∀ i b, ownBlk g2 H2 i = some b → (∃ j, ownBlk g H j = some b) ∨ w.heap.size ≤ b := fun i b h => by
    cases hq : fwd found s (objs'.length - found.length) i with
    | none => rw [om i hq] at h; exact .inl ⟨i, h⟩
    | some j =>
      rw [ob i j hq] at h
      rcases hs.own j b h with ⟨k, hk⟩ | hk
      · obtain ⟨hj, h2⟩ := ocal k b hk
        exact .inl ⟨_, h2⟩
      · exact .inr hk
  refine ⟨HR.mk' (fun i => ?_) (fun i k b hik h1 h2 => ?_) hr'.fresh, hkeeps, hlives, fun m => ⟨hs.os, hs.tape, hs.output, hs.size, hkeeps, fun b hb hno => ?_, hownall, fun i hi => ?_⟩, hmoves⟩
  · cases hq : fwd found s (objs'.length - found.length) i with
    | some j =>
      obtain ⟨h1, h2⟩ := fwd_some hq
      have h0 := hr'.obj j
      have hj : j < objs'.length := by omega
      unfold ObjOk at h0 ⊢
      have hH2 : H2 i = backO found s (objAt objs' j) := by rw [← h2]; exact hhit j hj
      rw [hH2, (gfwd i j hq).1, (gfwd i j hq).2]
      cases ho : objAt objs' j with
      | cells cs =>
        rw [ho] at h0
        obtain ⟨vs, ty, h3, h4, h5⟩ := h0
        exact ⟨vs, ty, h3, h4.map_left fun a c h => hback h, h5⟩
      | arr e es => rw [ho] at h0; exact h0
      | frz e es => rw [ho] at h0; exact h0
      | tok t e n => rw [ho] at h0; exact h0
      | free => trivial
      | gone => trivial
    | none =>
      have h0 := hr.obj i
      unfold ObjOk at h0 ⊢
      rw [hmiss i hq, (gmiss i hq).1, (gmiss i hq).2]
      cases hHi : H i with
      | free => trivial
      | gone => trivial
      | cells cs =>
        rw [hHi] at h0
        obtain ⟨vs, ty, h1, h2, h3⟩ := h0
        obtain ⟨h4, h5⟩ := untouched i (g.κ i) hq (by unfold ownBlk; rw [hHi])
        exact ⟨vs, ty, by rw [h4]; exact h1, h2.mono fun a b _ h => RC.mono hkeeps hlives h, by show g'.I _ = 0; rw [h5]; exact h3⟩
      | arr e es =>
        rw [hHi] at h0
        obtain ⟨vs, ty, h1, h2, h3, h6⟩ := h0
        obtain ⟨h4, h5⟩ := untouched i (g.κ i) hq (by unfold ownBlk; rw [hHi])
        exact ⟨vs, ty, by rw [h4]; exact h1, RIsl_arr hkeeps h2, by show g'.I _ = 0; rw [h5]; exact h3, h6⟩
      | frz e es => rw [hHi] at h0; exact RI.mono hkeeps h0
      | tok t e n =>
        rw [hHi] at h0
        obtain ⟨xs, h1, h2, h3⟩ := h0
        have ho : ∀ b, (g.τ i).ownBlock = some b → w'.heap[b]? = w.heap[b]? ∧ g'.I b = g.I b := fun b hb => untouched i b hq (by unfold ownBlk; rw [hHi]; exact hb)
        exact ⟨xs, ownsRow_of_block h1 fun b hb => (ho b hb).1, fun b hb => by show g'.I b = _; rw [(ho b hb).2]; exact h2 b hb, h3⟩
  · cases hq : fwd found s (objs'.length - found.length) i with
    | none =>
      rw [om i hq] at h1
      cases hq2 : fwd found s (objs'.length - found.length) k with
      | none => rw [om k hq2] at h2; exact hr.apart i k b hik h1 h2
      | some j =>
        rw [ob k j hq2] at h2
        rcases hs.own j b h2 with ⟨k', hk⟩ | hk
        · obtain ⟨hj, h3⟩ := ocal k' b hk
          exact hr.apart i _ b (fun e => (fwd_none hq).1 (e ▸ List.getElem_mem _)) h1 h3
        · have := ownBlk_lt hr h1; omega
    | some j =>
      rw [ob i j hq] at h1
      cases hq2 : fwd found s (objs'.length - found.length) k with
      | none =>
        rw [om k hq2] at h2
        rcases hs.own j b h1 with ⟨k', hk⟩ | hk
        · obtain ⟨hj, h3⟩ := ocal k' b hk
          exact hr.apart k _ b (fun e => (fwd_none hq2).1 (e ▸ List.getElem_mem _)) h2 h3
        · have := ownBlk_lt hr h2; omega
      | some j2 =>
        rw [ob k j2 hq2] at h2
        refine hr'.apart j j2 b (fun e => hik ?_) h1 h2
        rw [← (fwd_some hq).2, ← (fwd_some hq2).2, e]
  · refine hs.block b hb fun j hj => ?_
    obtain ⟨hjf, h2⟩ := ocal j b hj
    exact hno _ h2
  · cases hq : fwd found s (objs'.length - found.length) i with
    | none =>
      refine ⟨fun cs e => ⟨⟨cs, by rw [hmiss i hq]; exact e⟩, (gmiss i hq).1⟩, fun e => by rw [hmiss i hq]; exact e, fun t e n he => .inr ⟨n, by rw [hmiss i hq]; exact he, Nat.le_refl _, fun _ => (gmiss i hq).2⟩⟩
    | some j =>
      obtain ⟨h1, h2⟩ := fwd_some hq
      have hj : j < objs'.length := by omega
      rcases Nat.lt_or_ge j found.length with h | h
      · have hpos : posOf i found = some j := by rw [← h2, backId_lt h]; exact posOf_get hn h
        have hH2 : H2 i = backO found s (objAt objs' j) := by rw [← h2]; exact hhit j hj
        have hpe := hs.pers j (by omega)
        have hmv := moves_in (g := g) hp hpos
        have hren := (packH_get hp).2 j h (by omega)
        rw [backId_lt h] at h2
        rw [h2] at hren
        refine ⟨fun cs hc => ?_, fun hc => ?_, fun t e n hc => ?_⟩
        · obtain ⟨⟨cs1, h3⟩, h4⟩ := hmv.cells cs hc
          obtain ⟨⟨cs2, h5⟩, h6⟩ := hpe.cells cs1 h3
          exact ⟨⟨_, by rw [hH2, h5]; rfl⟩, by rw [(gfwd i j hq).1, h6, h4]⟩
        · rw [hc] at hren
          simp [renO] at hren
          have h3 : objAt objs j = .gone := by rw [objAt_lt (by omega)]; exact hren.symm
          rw [hH2, hpe.gone h3]
          rfl
        · rw [hc] at hren
          simp [renO] at hren
          have h3 : objAt objs j = .tok t e n := by rw [objAt_lt (by omega)]; exact hren.symm
          rcases hpe.tok t e n h3 with h4 | ⟨n', h4, h5, h6⟩
          · exact .inl (by rw [hH2, h4]; rfl)
          · refine .inr ⟨n', by rw [hH2, h4]; rfl, h5, fun e2 => ?_⟩
            rw [(gfwd i j hq).2, h6 e2]
            simp only [calleeGh, getD_lt h, h2]
      · rw [backId_ge h] at h2
        have hfr : H i = .free := by rw [← h2]; exact freeFrom_get hf _ (by omega)
        exact ⟨(fun cs e => by rw [hfr] at e; cases e), (fun e => by rw [hfr] at e; cases e), (fun t e n he => by rw [hfr] at he; cases he)⟩
end
end Go.Px
/- A call's operation. -/
set_option linter.unusedVariables false
set_option linter.unusedSimpArgs false
namespace Go.Px
open Go

theorem strip0_RC {g : Gh} {w : World} {H : Nat → Obj} {p : PV} {v : Value} (h : RC g w H p v) : RC g w H (strip0 p) v := by
  cases p with
  | sl t e es => exact sl_R (R_of_RC h)
  | _ => exact h
theorem strip_R {g : Gh} {w : World} {H : Nat → Obj} {p : PV} {v : Value} (own : Bool) (h : R g w H p v) : R g w H (strip own p) v := by
  unfold strip
  cases own with
  | true => exact h
  | false =>
    simp only [Bool.false_eq_true, if_false]
    cases p with
    | agg cs =>
      obtain ⟨vs, rfl, h2⟩ := h
      exact ⟨vs, rfl, h2.map_left fun a c h => strip0_RC h⟩
    | sl t e es => exact sl_R h
    | _ => exact h
theorem argsOf_R {N : Nat} {σ : St} {a : Act} {w : World} {g : Gh} (hr : Rel N σ a w g) : ∀ {l : List Operand} {m : List (Opd × Bool)}, opdsOk l (m.map (·.1)) = true → All2 (R g w σ.H) (argsOf σ.T m) (l.map a.eval)
  | [], [], _ => .nil
  | x :: l, (y, own) :: m, h => by
    simp only [List.map_cons, opdsOk, Bool.and_eq_true] at h
    exact .cons (strip_R own (opd_R hr h.1)) (argsOf_R hr h.2)
  | [], _ :: _, h => by simp [opdsOk] at h
  | _ :: _, [], h => by simp [opdsOk] at h

theorem run_callFunc {P : Program} {f : Nat} (h : FnOk P f) (vs : Array Value) (w : World) : (callFunc f vs).run P w = .ok (.enter f vs) w := by
  obtain ⟨fn, h1, h2, h3⟩ := h
  have h4 : fn.body.isNone = false := by cases hb : fn.body <;> simp [hb] at h2 ⊢
  unfold callFunc
  simp only [Sem.run_bind, run_program, Result.andThen_ok, h1]
  rw [if_neg (by simpa using h3), h4]
  rfl

def calleeOk (fo : Operand) : Callee' → Bool
  | .f n => (match fo with | .func m => m == n | _ => false)
  | .v x => opdOk fo x

section
variable {P : Program} {N : Nat} {σ σ' : St} {a : Act} {w : World} {g : Gh} (hr : Rel N σ a w g)
include hr

theorem evCall_sound {C : CallF} (hC : CSound P C) {d : Option Nat} {s f : Nat} {lend : Bool} {vs : List PV} {vals : Array Value} (hv : All2 (R g w σ.H) vs vals.toList) (hd : ∀ d', d = some d' → d' < N)
    (he : evCall C σ d s lend f vs = some σ') : FnOk P f ∧ ∀ K : Act → World → Prop, (∀ a' w' g', Rel N σ' a' w' g' → Stp σ.m w g σ.H w' g' σ'.H → K a' w') → Calls P f vals w fun e w' => ∃ v, e = .returned v ∧ K (a.put d v) w' := by
  simp only [evCall, Option.map_eq_some_iff] at he
  obtain ⟨⟨rv, rH⟩, he, rfl⟩ := he
  unfold evCallH at he
  split at he
  · cases he
  · rename_i found hfound
    split at he
    · rename_i args objs hargs hobjs
      split at he
      · cases he
      · rename_i r objs' hcall
        split at he
        · rename_i hcond
          obtain ⟨c1, c2, c3⟩ := hcond
          cases he
          obtain ⟨hfn, hsnd⟩ := hC _ _ _ _ _ hcall
          refine ⟨hfn, fun K hK => ?_⟩
          have hargsR : All2 (R (calleeGh g found) w (objAt objs)) args vals.toList := All2.mapO hargs hv fun p q v h1 h2 => ren_R (g := g) (g' := calleeGh g found) (H := σ.H) (by rfl) (fun i j h => moves_in hobjs h) h1 h2
          refine (hsnd w (calleeGh g found) vals (callee_HR hr.hr c3 hobjs) hargsR).mono ?_
          rintro e w' ⟨v, g', rfl, h1, h2, h3⟩
          refine ⟨v, rfl, ?_⟩
          obtain ⟨k1, k2, k3, k4, k5⟩ := call_back hr.hr c3 hobjs c1 c2 h1 h3
          have hres : R (backGh g g' found s (objs'.length - found.length)) w' (backH σ.H found s 0 objs') (back found s r) v := back_R (g := g') (H := objAt objs') (by rfl) k5 h2
          cases d with
          | none => exact hK _ _ _ (hr.same k2 k3 k1) (k4 _)
          | some d' => exact hK _ _ _ (hr.put k2 k3 k1 (hd d' rfl) hres) (k4 _)
        · cases he
    · cases he

theorem eff_call {C : CallF} (hC : CSound P C) {o : Oper} {fo : Operand} {args : Array Operand} {ats : Array TypeId} {d : Option Nat} {s : Nat} {lend : Bool} {f : Callee'} {args' : List (Opd × Bool)}
    (ho : o.op = .call { callee := .value fo, args := args, argTypes := ats }) (hd : o.dst = d) (hN : ∀ d', d = some d' → d' < N)
    (hf : calleeOk fo f = true) (ha : opdsOk args.toList (args'.map (·.1)) = true)
    (he : evOp C (.call d s lend f args') σ = some σ') : StepTo P N o σ σ' a w g := by
  have hargs := argsOf_R hr ha
  intro K Q hK
  have fin : ∀ (n : Nat) (vs : List PV) (vals : Array Value), All2 (R g w σ.H) vs vals.toList → evCall C σ d s lend n vs = some σ' → (FnOk P n → (execOp a.eval o).run P w = .ok (.enter n vals) w) → o.wp P a w K Q := by
    intro n vs vals h1 h2 h3
    obtain ⟨h4, h5⟩ := evCall_sound hr hC h1 hN h2
    unfold Oper.wp
    rw [h3 h4]
    show Calls P n vals w _
    refine (h5 K hK).mono ?_
    rintro e w' ⟨v, rfl, h⟩
    rw [hd]
    exact h
  simp only [evOp] at he
  cases f with
  | f n =>
    simp only at he
    cases fo with
    | func m =>
      simp only [calleeOk, beq_iff_eq] at hf
      subst hf
      refine fin m _ (args.map a.eval) (by simpa using hargs) he fun h => ?_
      simp only [execOp, ho, resolve, Act.eval, Deferred.ofValue, Sem.run_bind, Sem.run_pure, Result.andThen_ok, invoke, Array.append_empty, Array.empty_append]
      exact run_callFunc h _ _
    | _ => simp [calleeOk] at hf
  | v x =>
    simp only at he
    have hx := opd_R hr (show opdOk fo x = true from hf)
    split at he
    · rename_i n caps e1
      rw [e1] at hx
      obtain ⟨cv, h1, h2⟩ := hx
      have hall : All2 (R g w σ.H) (argsOf σ.T args' ++ caps) ((args.map a.eval) ++ cv).toList := by
        rw [Array.toList_append]
        refine All2.append (by simpa using hargs) (h2.mono fun p v _ h => R_of_RC (PtrR_RC h))
      refine fin n _ _ hall he fun h => ?_
      simp only [execOp, ho, resolve, h1, Deferred.ofValue, Sem.run_bind, Sem.run_pure, Result.andThen_ok, invoke, Array.empty_append]
      exact run_callFunc h _ _
    · cases he
end
end Go.Px
/- Operations in a row: a region of the text's order. -/
set_option linter.unusedVariables false
set_option linter.unusedSimpArgs false
namespace Go.Px
open Go

def dstOk (N : Nat) (o : Oper) (d : Nat) : Bool := o.dst == some d && decide (d < N)
def tyInfoOk (P : Program) (ty esz bytes : Nat) : Bool :=
  match P.info? ty with
  | some i => i.size == esz && i.bytes == bytes && decide (0 < esz) && decide (0 < bytes) && (match i.zero with | some z => z.cells.size == esz | none => false)
  | none => false
def zeroIs (P : Program) (ty : TypeId) (zs : List PV) : Bool :=
  match (P.info? ty).bind (·.zero) with
  | some z => constIs z.cells.toList zs
  | none => false
def dstNOk (N : Nat) (o : Oper) (d : Option Nat) : Bool := o.dst == d && (match d with | some d => decide (d < N) | none => true)
def mopOk (P : Program) (N : Nat) (o : Oper) : MOp → Bool
  | .p d m => dstOk N o d && popOk' P o.op m
  | .box d _ _ x => match o.op with
    | .box _ y => dstOk N o d && opdOk y x
    | _ => false
  | .alloc d _ zs => match o.op with
    | .alloc t => dstOk N o d && zeroOk P t zs
    | _ => false
  | .bsl d _ ty esz xs => match o.op with
    | .buildSlice t len parts => dstOk N o d && sliceElem P t == some ty && szOk P ty esz && decide (0 < esz) && (match (P.info? ty).bind (·.zero) with | some z => z.cells.size == esz | none => false) && len == xs.length && decide (len * esz ≤ 16777216) && bslOk 0 parts.toList xs
    | _ => false
  | .st n x v => match o.op with
    | .store t y z => o.dst == none && opdOk y x && opdOk z v && szOk P t n
    | _ => false
  | .mks d _ esz bytes zs x => match o.op with
    | .makeSlice t y z => (match sliceElem P t with | some ty => tyInfoOk P ty esz bytes && zeroIs P ty zs | none => false) && dstOk N o d && opdOk y x && opdOk z x
    | _ => false
  | .app d _ ty esz bytes x y => match o.op with
    | .call c => (match c.callee, c.args.toList, c.argTypes.toList with
      | .builtin .append, [u, v], [t, t2] => t == t2 && sliceElem P t == some ty && tyInfoOk P ty esz bytes && dstOk N o d && opdOk u x && opdOk v y
      | _, _, _ => false)
    | _ => false
  | .call d _ _ f args => match o.op with
    | .call c => (match c.callee with
      | .value fo => dstNOk N o d && calleeOk fo f && opdsOk c.args.toList (args.map (·.1))
      | _ => false)
    | _ => false
  | .g .. => false
  | .chk _ m => mopOk P N o m
def opOk (P : Program) (N : Nat) (ops : Array Oper) (o : Oper) (m : MOp) : Bool :=
  match o.guard with
  | none => mopOk P N o m
  | some (j, b) => match m with
    | .g t b' d m' => b == b' && dstNOk N o d && (ops[j]?).bind (·.dst) == some t && mopOk P N o m'
    | _ => false

section
theorem chk_ev {C : CallF} {ds : List Nat} {m : MOp} {σ σ' : St} (h : evOp C (.chk ds m) σ = some σ') : evOp C m σ = some σ' ∧ awayAll σ.H σ'.H ds := by
  simp only [evOp] at h
  split at h
  · rename_i σ1 h1
    split at h
    · rename_i h2; cases h; exact ⟨h1, h2⟩
    · cases h
  · cases h
variable {P : Program} {N : Nat} {σ σ' : St} {a : Act} {w : World} {g : Gh} (hr : Rel N σ a w g)
include hr

theorem mop_sound {C : CallF} (hC : CSound P C) {o : Oper} {m : MOp} (h : mopOk P N o m = true) (he : evOp C m σ = some σ') : StepTo P N o σ σ' a w g := by
  induction m with
  | p d m =>
    simp only [mopOk, dstOk, Bool.and_eq_true, beq_iff_eq, decide_eq_true_eq] at h
    exact eff_p hr h.1.1 h.1.2 h.2 he
  | box d s n x =>
    simp only [mopOk] at h
    split at h
    · rename_i t y ho
      simp only [dstOk, Bool.and_eq_true, beq_iff_eq, decide_eq_true_eq] at h
      exact eff_box hr ho h.1.1 h.1.2 h.2 he
    · cases h
  | alloc d s zs =>
    simp only [mopOk] at h
    split at h
    · rename_i t ho
      simp only [dstOk, Bool.and_eq_true, beq_iff_eq, decide_eq_true_eq] at h
      exact eff_alloc hr ho h.1.1 h.1.2 h.2 he
    · cases h
  | bsl d s ty esz xs =>
    simp only [mopOk] at h
    split at h
    · rename_i t len parts ho
      simp only [dstOk, Bool.and_eq_true, beq_iff_eq, decide_eq_true_eq] at h
      obtain ⟨⟨⟨⟨⟨⟨⟨h1, h2⟩, h3⟩, h4⟩, h5⟩, h6⟩, h7⟩, h8⟩ := h
      split at h5
      · rename_i z hz
        exact eff_bsl hr ho h1.1 h1.2 h2 h3 h4 ⟨z, hz, by simpa using h5⟩ h6 h7 h8 he
      · cases h5
    · cases h
  | st n x v =>
    simp only [mopOk] at h
    split at h
    · rename_i t y z ho
      simp only [Bool.and_eq_true, beq_iff_eq] at h
      exact eff_st hr ho h.1.1.1 h.1.1.2 h.1.2 h.2 he
    · cases h
  | mks d s esz bytes zs x =>
    simp only [mopOk] at h
    split at h
    · rename_i t y z ho
      simp only [dstOk, Bool.and_eq_true, beq_iff_eq, decide_eq_true_eq] at h
      obtain ⟨⟨⟨h1, h2⟩, h3⟩, h4⟩ := h
      split at h1
      · rename_i ty hty
        simp only [Bool.and_eq_true] at h1
        obtain ⟨h5, h6⟩ := h1
        unfold tyInfoOk at h5
        unfold zeroIs at h6
        split at h5
        · rename_i i hi
          simp only [Bool.and_eq_true, beq_iff_eq, decide_eq_true_eq] at h5
          obtain ⟨⟨⟨⟨h7, h8⟩, h9⟩, h10⟩, h11⟩ := h5
          split at h11
          · rename_i z0 hz0
            rw [hi] at h6
            simp only [Option.bind_some, hz0] at h6
            exact eff_mks hr ho h2.1 h2.2 hty hi h7 h8 h9 hz0 (by simpa using h11) h6 h10 h3 h4 he
          · cases h11
        · cases h5
      · cases h1
    · cases h
  | app d s ty esz bytes x y =>
    simp only [mopOk] at h
    split at h
    · rename_i c ho
      obtain ⟨callee, args, ats⟩ := c
      simp only at h
      split at h
      · rename_i h1 h2
        rename_i u v t t2
        obtain rfl : args = #[u, v] := by apply Array.ext'; simpa using h1
        obtain rfl : ats = #[t, t2] := by apply Array.ext'; simpa using h2
        simp only [dstOk, Bool.and_eq_true, beq_iff_eq, decide_eq_true_eq] at h
        obtain ⟨⟨⟨⟨⟨h3, h4⟩, h5⟩, h6⟩, h7⟩, h8⟩ := h
        subst h3
        unfold tyInfoOk at h5
        split at h5
        · rename_i i hi
          simp only [Bool.and_eq_true, beq_iff_eq, decide_eq_true_eq] at h5
          obtain ⟨⟨⟨⟨h9, h10⟩, h11⟩, h12⟩, h13⟩ := h5
          split at h13
          · rename_i z0 hz0
            exact eff_app hr ho h6.1 h6.2 h4 hi h9 h10 h11 hz0 (by simpa using h13) h12 h7 h8 he
          · cases h13
        · cases h5
      · cases h
    · cases h
  | call d s lend f args =>
    simp only [mopOk] at h
    split at h
    · rename_i c ho
      obtain ⟨callee, cargs, ats⟩ := c
      simp only at h
      split at h
      · rename_i fo
        simp only [dstNOk, Bool.and_eq_true, beq_iff_eq] at h
        obtain ⟨⟨⟨h1, h2⟩, h3⟩, h4⟩ := h
        exact eff_call hr hC ho h1 (fun d' hd' => by subst hd'; simpa using h2) h3 h4 he
      · cases h
    · cases h
  | g => simp [mopOk] at h
  | chk ds m ih => exact ih h (chk_ev he).1

/-- One operation, guarded or not. -/
theorem op_sound {C : CallF} (hC : CSound P C) {ops : Array Oper} {o : Oper} {m : MOp} (h : opOk P N ops o m = true) (he : evOp C m σ = some σ') (K : Act → World → Prop) (Q : Exit → Act → World → Prop)
    (hK : ∀ a' w' g', Rel N σ' a' w' g' → Stp σ.m w g σ.H w' g' σ'.H → K a' w') :
    if Region.wanted o (yielded ops a.tmps) then o.wp P a w K Q ∨ (o.asks P a w ∧ LetsOut Q) else K (a.put o.dst undef) w := by
  unfold opOk at h
  split at h
  · rename_i hg
    rw [if_pos (by simp [Region.wanted, hg])]
    exact .inl (mop_sound hr hC h he K Q hK)
  · rename_i j b hg
    cases m with
    | g t b' d m' =>
      simp only [dstNOk, Bool.and_eq_true, beq_iff_eq] at h
      obtain ⟨⟨⟨rfl, h2, h3⟩, h4⟩, h5⟩ := h
      have hsk : ∀ v : Value, (∀ b, v ≠ .bool b) → a.tmps.getD t undef = v → yielded ops a.tmps j = none := fun v hv e => by
        unfold yielded
        rw [h4]
        simp only [Option.bind_some]
        cases hq : a.tmps[t]? with
        | none => rfl
        | some u =>
          have : a.tmps.getD t undef = u := by simp [Array.getD_eq_getD_getElem?, hq]
          rw [this] at e
          subst e
          cases u <;> first | rfl | exact absurd rfl (hv _)
      have skip : some (skipTo σ d) = some σ' → K (a.put o.dst undef) w := by
        intro e1
        cases e1
        rw [h2]
        cases d with
        | none => exact hK a w g hr (.refl _ _ _ _)
        | some d => exact hK _ w g (hr.put (Keeps.refl _ _) (Lives.refl _ _) hr.hr (by simpa using h3) rfl) (.refl _ _ _ _)
      have htm := hr.tm t
      simp only [evOp] at he
      split at he
      · rename_i b2 hb2
        rw [hb2] at htm
        have hy : yielded ops a.tmps j = some b2 := by
          unfold yielded
          rw [h4]
          simp only [Option.bind_some]
          have htm' : a.tmps.getD t undef = .bool b2 := htm
          cases hq : a.tmps[t]? with
          | none => simp [Array.getD_eq_getD_getElem?, hq, undef] at htm'
          | some u =>
            have : a.tmps.getD t undef = u := by simp [Array.getD_eq_getD_getElem?, hq]
            rw [this] at htm'
            subst htm'
            rfl
        split at he
        · rename_i e
          subst e
          rw [if_pos (by simp [Region.wanted, hg, hy])]
          exact .inl (mop_sound hr hC h5 he K Q hK)
        · rename_i e
          rw [if_neg (by simp [Region.wanted, hg, hy]; exact e)]
          exact skip he
      · rename_i hb2
        rw [hb2] at htm
        have hy := hsk undef (fun b => by simp [undef]) htm
        rw [if_neg (by simp [Region.wanted, hg, hy])]
        exact skip he
      · cases he
    | _ => simp at h
end

/-- how many objects were lent stays -/
theorem evCall_m {C : CallF} {σ σ' : St} {d : Option Nat} {s f : Nat} {lend : Bool} {vs : List PV} (h : evCall C σ d s lend f vs = some σ') : σ'.m = σ.m := by
  simp only [evCall, Option.map_eq_some_iff] at h
  obtain ⟨_, _, rfl⟩ := h
  rfl
theorem evOp_m {C : CallF} : ∀ {m : MOp} {σ σ' : St}, evOp C m σ = some σ' → σ'.m = σ.m
  | .p d o, σ, σ', h => by simp only [evOp] at h; split at h <;> cases h; rfl
  | .box .., σ, σ', h => by
    simp only [evOp] at h
    split at h
    · split at h <;> cases h; rfl
    · cases h
  | .alloc .., σ, σ', h => by simp only [evOp] at h; split at h <;> cases h; rfl
  | .bsl .., σ, σ', h => by simp only [evOp] at h; split at h <;> cases h; rfl
  | .st .., σ, σ', h => by simp only [evOp, Option.map_eq_some_iff] at h; obtain ⟨_, _, rfl⟩ := h; rfl
  | .mks .., σ, σ', h => by
    simp only [evOp] at h
    split at h
    · split at h <;> cases h; rfl
    · cases h
  | .app .., σ, σ', h => by simp only [evOp, Option.map_eq_some_iff] at h; obtain ⟨_, _, rfl⟩ := h; rfl
  | .call _ _ _ f _, σ, σ', h => by
    simp only [evOp] at h
    cases f with
    | f n => exact evCall_m h
    | v x =>
      simp only at h
      split at h
      · exact evCall_m h
      · cases h
  | .g j b d o, σ, σ', h => by
    simp only [evOp] at h
    split at h
    · split at h
      · exact evOp_m h
      · cases h; cases d <;> rfl
    · cases h; cases d <;> rfl
    · cases h
  | .chk _ o, σ, σ', h => evOp_m (m := o) (chk_ev h).1

theorem ops_sound {P : Program} {N : Nat} {C : CallF} (hC : CSound P C) {ops : Array Oper} {Q : Exit → Act → World → Prop} : ∀ (is : List Nat) (ms : List MOp) (σ σ' : St) (a : Act) (w : World) (g : Gh),
    All2 (fun i m => ∃ o, ops[i]? = some o ∧ opOk P N ops o m = true) is ms → evOps C ms σ = some σ' → Rel N σ a w g →
    (∀ a' w' g', Rel N σ' a' w' g' → Stp σ.m w g σ.H w' g' σ'.H → σ'.m = σ.m → Q .normal a' w') → wpOps P ops Q is a w
  | [], [], σ, σ', a, w, g, _, he, hr, hQ => by
    simp [evOps] at he
    subst he
    exact hQ a w g hr (.refl _ _ _ _) rfl
  | i :: is, m :: ms, σ, σ', a, w, g, hall, he, hr, hQ => by
    cases hall with
    | cons h1 h2 =>
      obtain ⟨o, ho, hok⟩ := h1
      simp only [evOps] at he
      split at he
      · rename_i σ1 h3
        have hm : σ1.m = σ.m := evOp_m h3
        have := op_sound hr hC hok h3 (wpOps P ops Q is) Q fun a' w' g' hr' hs' => ops_sound hC is ms σ1 σ' a' w' g' h2 he hr' fun a2 w2 g2 hr2 hs2 hm2 => hQ a2 w2 g2 hr2 (hs'.trans (by rw [← hm]; exact hs2)) (hm2.trans hm)
        simp only [wpOps, ho]
        exact this
      · cases he
  | [], _ :: _, _, _, _, _, _, h, _, _, _ => by cases h
  | _ :: _, [], _, _, _, _, _, h, _, _, _ => by cases h
end Go.Px
/- What only reads may be carried out later: it hops over what comes behind it. -/
set_option linter.unusedVariables false
set_option linter.unusedSimpArgs false
namespace Go.Px
open Go

def Opd.rd : Opd → List Nat
  | .t d => [d]
  | .c _ => []
def Opd.rdO : Option Opd → List Nat
  | some x => x.rd
  | none => []
def POp.rd : POp → List Nat
  | .mv x | .ld _ _ x | .lda _ _ _ x | .ldv _ _ x | .nilc x | .not x | .cvt _ x | .fa x _ | .fld _ _ x _ | .ext x _ | .len x | .isnil _ x => x.rd
  | .pick c a b => c.rd ++ (a.rd ++ b.rd)
  | .bld _ ps => ps.flatMap fun p => p.2.2.rd
  | .bin _ x y | .beq _ x y | .ia _ x y | .mm _ x y => x.rd ++ y.rd
  | .slc _ x lo hi => x.rd ++ (Opd.rdO lo ++ Opd.rdO hi)
  | .mkf _ caps => caps.flatMap Opd.rd
def MOp.rd : MOp → List Nat
  | .p _ o => o.rd
  | .box _ _ _ x => x.rd
  | .alloc .. => []
  | .bsl _ _ _ _ xs => xs.flatMap Opd.rd
  | .st _ x v => x.rd ++ v.rd
  | .mks _ _ _ _ _ x => x.rd
  | .app _ _ _ _ _ x y => x.rd ++ y.rd
  | .call _ _ _ f args => (match f with | .f _ => [] | .v x => x.rd) ++ args.flatMap fun p => p.1.rd
  | .g j _ _ o => j :: o.rd
  | .chk _ o => o.rd
def optL : Option Nat → List Nat
  | some d => [d]
  | none => []
def MOp.wr : MOp → List Nat
  | .p d _ | .box d _ _ _ | .alloc d _ _ | .bsl d _ _ _ _ | .mks d _ _ _ _ _ | .app d _ _ _ _ _ _ => [d]
  | .st .. => []
  | .call d _ _ _ _ => optL d
  | .g _ _ d o => optL d ++ o.wr
  | .chk _ o => o.wr

section
variable {T T' : Nat → PV}
theorem ev_same {x : Opd} (h : ∀ d ∈ x.rd, T' d = T d) : x.ev T' = x.ev T := by
  cases x with
  | t d => exact h d (by simp [Opd.rd])
  | c p => rfl
theorem evs_same {l : List Opd} (h : ∀ d ∈ l.flatMap Opd.rd, T' d = T d) : l.map (·.ev T') = l.map (·.ev T) :=
  List.map_congr_left fun x hx => ev_same fun d hd => h d (List.mem_flatMap.2 ⟨x, hx, hd⟩)
theorem parts_same : ∀ {ps : List (Nat × Nat × Opd)}, (∀ d ∈ ps.flatMap (fun p => p.2.2.rd), T' d = T d) → partsOf T' ps = partsOf T ps
  | [], _ => rfl
  | (off, n, x) :: r, h => by
    have h1 : x.ev T' = x.ev T := ev_same fun d hd => h d (by simp [hd])
    simp only [partsOf, h1, parts_same (ps := r) fun d hd => h d (by simp only [List.flatMap_cons, List.mem_append]; exact .inr hd)]
theorem elems_same {esz : Nat} : ∀ {xs : List Opd}, (∀ d ∈ xs.flatMap Opd.rd, T' d = T d) → elemsOf T' esz xs = elemsOf T esz xs
  | [], _ => rfl
  | x :: r, h => by
    have h1 : x.ev T' = x.ev T := ev_same fun d hd => h d (by simp [hd])
    simp only [elemsOf, h1, elems_same (xs := r) fun d hd => h d (by simp only [List.flatMap_cons, List.mem_append]; exact .inr hd)]
theorem args_same {l : List (Opd × Bool)} (h : ∀ d ∈ l.flatMap (fun p => p.1.rd), T' d = T d) : argsOf T' l = argsOf T l :=
  List.map_congr_left fun p hp => by
    obtain ⟨x, own⟩ := p
    simp only [ev_same (x := x) fun d hd => h d (List.mem_flatMap.2 ⟨(x, own), hp, hd⟩)]

theorem evP_same {H : Nat → Obj} {o : POp} (h : ∀ d ∈ o.rd, T' d = T d) : evP T' H o = evP T H o := by
  cases o with
  | mv x => simp only [evP, ev_same (x := x) h]
  | ld n ag x => simp only [evP, ev_same (x := x) h]
  | nilc x => simp only [evP, ev_same (x := x) h]
  | not x => simp only [evP, ev_same (x := x) h]
  | cvt k x => simp only [evP, ev_same (x := x) h]
  | fa x o => simp only [evP, ev_same (x := x) h]
  | fld n ag x o => simp only [evP, ev_same (x := x) h]
  | ext x i => simp only [evP, ev_same (x := x) h]
  | len x => simp only [evP, ev_same (x := x) h]
  | pick c a b =>
    simp only [POp.rd, List.mem_append] at h
    simp only [evP, ev_same (x := c) fun d hd => h d (.inl hd), ev_same (x := a) fun d hd => h d (.inr (.inl hd)), ev_same (x := b) fun d hd => h d (.inr (.inr hd))]
  | bld zs ps => simp only [evP, parts_same h]
  | bin op x y =>
    simp only [POp.rd, List.mem_append] at h
    simp only [evP, ev_same (x := x) fun d hd => h d (.inl hd), ev_same (x := y) fun d hd => h d (.inr hd)]
  | beq op x y =>
    simp only [POp.rd, List.mem_append] at h
    simp only [evP, ev_same (x := x) fun d hd => h d (.inl hd), ev_same (x := y) fun d hd => h d (.inr hd)]
  | ia op x y =>
    simp only [POp.rd, List.mem_append] at h
    simp only [evP, ev_same (x := x) fun d hd => h d (.inl hd), ev_same (x := y) fun d hd => h d (.inr hd)]
  | mm op x y =>
    simp only [POp.rd, List.mem_append] at h
    simp only [evP, ev_same (x := x) fun d hd => h d (.inl hd), ev_same (x := y) fun d hd => h d (.inr hd)]
  | slc e x lo hi =>
    simp only [POp.rd, List.mem_append] at h
    have h1 : lo.map (·.ev T') = lo.map (·.ev T) := by
      cases lo with
      | none => rfl
      | some l => simp only [Option.map_some, ev_same (x := l) fun d hd => h d (.inr (.inl hd))]
    have h2 : hi.map (·.ev T') = hi.map (·.ev T) := by
      cases hi with
      | none => rfl
      | some l => simp only [Option.map_some, ev_same (x := l) fun d hd => h d (.inr (.inr hd))]
    simp only [evP, ev_same (x := x) fun d hd => h d (.inl hd), h1, h2]
  | mkf f caps => simp only [evP, evs_same h]
  | isnil b x => simp only [evP, ev_same (x := x) h]
  | lda i n ag x => simp only [evP, ev_same (x := x) h]
  | ldv n ag x => simp only [evP, ev_same (x := x) h]
end

theorem upd_comm {α : Type} (f : Nat → α) {d e : Nat} (v u : α) (h : d ≠ e) : upd (upd f d v) e u = upd (upd f e u) d v := by
  funext x
  unfold upd
  by_cases h1 : x = e <;> by_cases h2 : x = d <;> simp [h1, h2]
  · subst_vars; exact absurd rfl h
  all_goals (first | (intro h3; exact absurd h3 h) | (intro h3; exact absurd h3.symm h))

theorem upd_on {T : Nat → PV} {dx : Nat} {v : PV} {l : List Nat} (h : dx ∉ l) : ∀ d ∈ l, upd T dx v d = T d := fun d hd => upd_ne _ _ (fun e => h (e ▸ hd))

def withT (dx : Nat) (v : PV) (σ : St) : St := { σ with T := upd σ.T dx v }

theorem evCall_loc {C : CallF} {σ : St} {d : Option Nat} {s f : Nat} {lend : Bool} {vs : List PV} {dx : Nat} {v : PV} (hd : dx ∉ optL d) : evCall C (withT dx v σ) d s lend f vs = (evCall C σ d s lend f vs).map (withT dx v) := by
  simp only [evCall]
  show (evCallH C σ.H s lend f vs).map _ = _
  cases evCallH C σ.H s lend f vs with
  | none => rfl
  | some x =>
    cases d with
    | none => rfl
    | some d =>
      simp only [setO, Option.map_some, withT]
      rw [upd_comm _ _ _ (by simpa [optL] using hd)]

def boxH (H : Nat → Obj) (s n : Nat) (p : PV) : Option (PV × (Nat → Obj)) :=
  match H s with
  | .free => if p.cellsOf.length = n ∧ allCells p.cellsOf = true then some (.ptr s 0, upd H s (.cells p.cellsOf)) else none
  | _ => none
def allocH (H : Nat → Obj) (s : Nat) (zs : List PV) : Option (PV × (Nat → Obj)) :=
  match H s with
  | .free => some (.ptr s 0, upd H s (.cells zs))
  | _ => none
def bslH (H : Nat → Obj) (s ty esz : Nat) (l : Option (List (List PV))) : Option (PV × (Nat → Obj)) :=
  match H s, l with
  | .free, some es => some (.sl (.tok s) esz es, upd H s (.tok ty esz es.length))
  | _, _ => none
def mksH (H : Nat → Obj) (s esz bytes : Nat) (zs : List PV) (p : PV) : Option (PV × (Nat → Obj)) :=
  match H s, p with
  | .free, .int .i64 n => if 0 ≤ n ∧ n * bytes ≤ 140737488355328 ∧ n ≤ 9223372036854775807 then some (.warr s esz n.toNat, upd H s (.arr esz (List.replicate n.toNat zs))) else none
  | _, _ => none
def effD (d : Nat) (σ : St) (r : PV × (Nat → Obj)) : St := { σ with T := upd σ.T d r.1, H := r.2 }
theorem evOp_box {C : CallF} {d s n : Nat} {x : Opd} {σ : St} : evOp C (.box d s n x) σ = (boxH σ.H s n (x.ev σ.T)).map (effD d σ) := by
  simp only [evOp, boxH]
  cases σ.H s <;> try rfl
  simp only
  split <;> rfl
theorem evOp_alloc {C : CallF} {d s : Nat} {zs : List PV} {σ : St} : evOp C (.alloc d s zs) σ = (allocH σ.H s zs).map (effD d σ) := by
  simp only [evOp, allocH]
  cases σ.H s <;> rfl
theorem evOp_bsl {C : CallF} {d s ty esz : Nat} {xs : List Opd} {σ : St} : evOp C (.bsl d s ty esz xs) σ = (bslH σ.H s ty esz (elemsOf σ.T esz xs)).map (effD d σ) := by
  simp only [evOp, bslH]
  cases σ.H s <;> cases elemsOf σ.T esz xs <;> rfl
theorem evOp_mks {C : CallF} {d s esz bytes : Nat} {zs : List PV} {x : Opd} {σ : St} : evOp C (.mks d s esz bytes zs x) σ = (mksH σ.H s esz bytes zs (x.ev σ.T)).map (effD d σ) := by
  simp only [evOp, mksH]
  cases σ.H s <;> try rfl
  cases x.ev σ.T <;> try rfl
  rename_i k n
  cases k <;> try rfl
  simp only
  by_cases hc : 0 ≤ n ∧ n * (bytes : Int) ≤ 140737488355328 ∧ n ≤ 9223372036854775807
  · rw [if_pos hc, if_pos hc]; rfl
  · rw [if_neg hc, if_neg hc]; rfl
theorem evOp_app {C : CallF} {d s ty esz bytes : Nat} {x y : Opd} {σ : St} : evOp C (.app d s ty esz bytes x y) σ = (appV σ.H s ty esz bytes (x.ev σ.T) (y.ev σ.T)).map (effD d σ) := rfl
theorem effD_loc {d dx : Nat} {v : PV} {σ : St} (hne : dx ≠ d) (o : Option (PV × (Nat → Obj))) : o.map (effD d (withT dx v σ)) = (o.map (effD d σ)).map (withT dx v) := by
  cases o with
  | none => rfl
  | some r =>
    simp only [Option.map_some, effD, withT]
    rw [upd_comm _ _ _ hne]

/-- What is neither read nor written makes no difference. -/
theorem evOp_loc {C : CallF} {dx : Nat} {v : PV} : ∀ {y : MOp} {σ : St}, dx ∉ y.rd → dx ∉ y.wr → evOp C y (withT dx v σ) = (evOp C y σ).map (withT dx v)
  | .p d o, σ, hr, hw => by
    have hne : dx ≠ d := by simpa [MOp.wr] using hw
    simp only [evOp]
    have e1 : evP (withT dx v σ).T (withT dx v σ).H o = evP σ.T σ.H o := evP_same (upd_on hr)
    rw [e1]
    split
    · simp only [Option.map_some, withT]
      rw [upd_comm _ _ _ hne]
    · rfl
  | .box d s n x, σ, hr, hw => by
    have hne : dx ≠ d := by simpa [MOp.wr] using hw
    rw [evOp_box, evOp_box, ev_same (T := σ.T) (T' := (withT dx v σ).T) (x := x) (upd_on hr)]
    exact effD_loc hne _
  | .alloc d s zs, σ, hr, hw => by
    have hne : dx ≠ d := by simpa [MOp.wr] using hw
    rw [evOp_alloc, evOp_alloc]
    exact effD_loc hne _
  | .bsl d s ty esz xs, σ, hr, hw => by
    have hne : dx ≠ d := by simpa [MOp.wr] using hw
    rw [evOp_bsl, evOp_bsl, elems_same (T := σ.T) (T' := (withT dx v σ).T) (upd_on hr)]
    exact effD_loc hne _
  | .st n x z, σ, hr, hw => by
    simp only [MOp.rd, List.mem_append, not_or] at hr
    have e1 : x.ev (withT dx v σ).T = x.ev σ.T := ev_same (upd_on hr.1)
    have e2 : z.ev (withT dx v σ).T = z.ev σ.T := ev_same (upd_on hr.2)
    simp only [evOp, e1, e2]
    show (stV σ.H n _ _).map _ = _
    cases stV σ.H n (x.ev σ.T) (z.ev σ.T) <;> rfl
  | .mks d s esz bytes zs x, σ, hr, hw => by
    have hne : dx ≠ d := by simpa [MOp.wr] using hw
    rw [evOp_mks, evOp_mks, ev_same (T := σ.T) (T' := (withT dx v σ).T) (x := x) (upd_on hr)]
    exact effD_loc hne _
  | .app d s ty esz bytes x y, σ, hr, hw => by
    have hne : dx ≠ d := by simpa [MOp.wr] using hw
    simp only [MOp.rd, List.mem_append, not_or] at hr
    rw [evOp_app, evOp_app, ev_same (T := σ.T) (T' := (withT dx v σ).T) (x := x) (upd_on hr.1), ev_same (T := σ.T) (T' := (withT dx v σ).T) (x := y) (upd_on hr.2)]
    exact effD_loc hne _
  | .call d s lend f args, σ, hr, hw => by
    simp only [MOp.rd, List.mem_append, not_or] at hr
    have e1 : argsOf (withT dx v σ).T args = argsOf σ.T args := args_same (upd_on hr.2)
    simp only [evOp, e1]
    cases f with
    | f n => exact evCall_loc hw
    | v x =>
      have e2 : x.ev (withT dx v σ).T = x.ev σ.T := ev_same (upd_on hr.1)
      simp only [e2]
      split
      · exact evCall_loc hw
      · rfl
  | .g j b d o, σ, hr, hw => by
    simp only [MOp.rd, List.mem_cons, not_or] at hr
    simp only [MOp.wr, List.mem_append, not_or] at hw
    have e1 : (withT dx v σ).T j = σ.T j := upd_ne _ _ (Ne.symm hr.1)
    have e2 : skipTo (withT dx v σ) d = withT dx v (skipTo σ d) := by
      cases d with
      | none => rfl
      | some d =>
        have hne : dx ≠ d := by simpa [optL] using hw.1
        simp only [skipTo, withT]
        rw [upd_comm _ _ _ hne]
    simp only [evOp, e1]
    split
    · split
      · exact evOp_loc hr.2 hw.2
      · simp only [e2, Option.map_some]
    · simp only [e2, Option.map_some]
    · rfl
  | .chk ds o, σ, hr, hw => by
    simp only [evOp, evOp_loc (show dx ∉ o.rd from hr) (show dx ∉ o.wr from hw)]
    cases evOp C o σ with
    | none => rfl
    | some σ' =>
      simp only [Option.map_some]
      by_cases hc : awayAll σ.H σ'.H ds
      · rw [if_pos hc, if_pos (show awayAll (withT dx v σ).H (withT dx v σ').H ds from hc)]; rfl
      · rw [if_neg hc, if_neg (show ¬ awayAll (withT dx v σ).H (withT dx v σ').H ds from hc)]; rfl

/-- What an operation writes among the variables. -/
theorem evOp_T {C : CallF} : ∀ {y : MOp} {σ σ' : St}, evOp C y σ = some σ' → ∀ e, e ∉ y.wr → σ'.T e = σ.T e
  | .p d o, σ, σ', h, e, he => by
    simp only [evOp] at h
    split at h <;> cases h
    exact upd_ne _ _ (by simpa [MOp.wr] using he)
  | .box d s n x, σ, σ', h, e, he => by
    simp only [evOp] at h
    split at h
    · split at h <;> cases h
      exact upd_ne _ _ (by simpa [MOp.wr] using he)
    · cases h
  | .alloc d s zs, σ, σ', h, e, he => by
    simp only [evOp] at h
    split at h <;> cases h
    exact upd_ne _ _ (by simpa [MOp.wr] using he)
  | .bsl d s ty esz xs, σ, σ', h, e, he => by
    simp only [evOp] at h
    split at h <;> cases h
    exact upd_ne _ _ (by simpa [MOp.wr] using he)
  | .st n x z, σ, σ', h, e, he => by
    simp only [evOp, Option.map_eq_some_iff] at h
    obtain ⟨_, _, rfl⟩ := h
    rfl
  | .mks d s esz bytes zs x, σ, σ', h, e, he => by
    simp only [evOp] at h
    split at h
    · split at h <;> cases h
      exact upd_ne _ _ (by simpa [MOp.wr] using he)
    · cases h
  | .app d s ty esz bytes x y, σ, σ', h, e, he => by
    simp only [evOp, Option.map_eq_some_iff] at h
    obtain ⟨_, _, rfl⟩ := h
    exact upd_ne _ _ (by simpa [MOp.wr] using he)
  | .call d s lend f args, σ, σ', h, e, he => by
    have key : ∀ n vs, evCall C σ d s lend n vs = some σ' → σ'.T e = σ.T e := by
      intro n vs h
      simp only [evCall, Option.map_eq_some_iff] at h
      obtain ⟨_, _, rfl⟩ := h
      cases d with
      | none => rfl
      | some d => exact upd_ne _ _ (by simpa [MOp.wr, optL] using he)
    simp only [evOp] at h
    cases f with
    | f n => exact key _ _ h
    | v x =>
      simp only at h
      split at h
      · exact key _ _ h
      · cases h
  | .g j b d o, σ, σ', h, e, he => by
    simp only [MOp.wr, List.mem_append, not_or] at he
    have hs : (skipTo σ d).T e = σ.T e := by
      cases d with
      | none => rfl
      | some d => exact upd_ne _ _ (by simpa [optL] using he.1)
    simp only [evOp] at h
    split at h
    · split at h
      · exact evOp_T h e he.2
      · cases h; exact hs
    · cases h; exact hs
    · cases h
  | .chk ds o, σ, σ', h, e, he => evOp_T (chk_ev h).1 e (show e ∉ o.wr from he)

/-- Does it leave all boxes as they are? -/
def MOp.mild : MOp → Bool
  | .st .. => false
  | .call _ _ lend _ _ => !lend
  | .g _ _ _ o => o.mild
  | .chk _ o => o.mild
  | _ => true
def boxed : Obj → Bool
  | .cells _ | .arr _ _ | .frz _ _ => true
  | _ => false
theorem upd_boxed {H : Nat → Obj} {s : Nat} {o : Obj} (h : boxed (H s) = false) : ∀ i, boxed (H i) = true → upd H s o i = H i := fun i hi => upd_ne _ _ (fun e => by rw [e, h] at hi; cases hi)
theorem evOp_H {C : CallF} : ∀ {y : MOp} {σ σ' : St}, y.mild = true → evOp C y σ = some σ' → ∀ i, boxed (σ.H i) = true → σ'.H i = σ.H i
  | .p d o, σ, σ', _, h, i, hi => by
    simp only [evOp] at h
    split at h <;> cases h
    rfl
  | .box d s n x, σ, σ', _, h, i, hi => by
    simp only [evOp] at h
    split at h
    · rename_i hf
      split at h <;> cases h
      exact upd_boxed (by rw [hf]; rfl) i hi
    · cases h
  | .alloc d s zs, σ, σ', _, h, i, hi => by
    simp only [evOp] at h
    split at h <;> cases h
    rename_i hf
    exact upd_boxed (by rw [hf]; rfl) i hi
  | .bsl d s ty esz xs, σ, σ', _, h, i, hi => by
    simp only [evOp] at h
    split at h <;> cases h
    rename_i hf _
    exact upd_boxed (by rw [hf]; rfl) i hi
  | .st n x z, σ, σ', hm, h, i, hi => by cases hm
  | .mks d s esz bytes zs x, σ, σ', _, h, i, hi => by
    simp only [evOp] at h
    split at h
    · rename_i hf _
      split at h <;> cases h
      exact upd_boxed (by rw [hf]; rfl) i hi
    · cases h
  | .app d s ty esz bytes x y, σ, σ', _, h, i, hi => by
    simp only [evOp, Option.map_eq_some_iff] at h
    obtain ⟨⟨pv, H'⟩, h1, rfl⟩ := h
    unfold appV at h1
    split at h1
    · split at h1
      · split at h1
        · split at h1
          · rename_i hf
            split at h1 <;> cases h1
            exact upd_boxed (by rw [hf]; rfl) i hi
          · cases h1
        · split at h1
          · rename_i hf
            split at h1 <;> cases h1
            exact upd_boxed (by rw [hf]; rfl) i hi
          · cases h1
        · cases h1
      · cases h1
    · cases h1
  | .call d s lend f args, σ, σ', hm, h, i, hi => by
    have hl : lend = false := by simpa [MOp.mild] using hm
    subst hl
    have key : ∀ n vs, evCall C σ d s false n vs = some σ' → σ'.H i = σ.H i := by
      intro n vs hq0
      simp only [evCall, Option.map_eq_some_iff] at hq0
      obtain ⟨⟨rv, rH⟩, hq, hq1⟩ := hq0
      cases hq1
      unfold evCallH at hq
      split at hq
      · cases hq
      · rename_i found hfound
        simp only [Bool.false_eq_true, if_false] at hfound
        split at hfound
        · cases hfound
          split at hq
          · split at hq
            · cases hq
            · split at hq
              · rename_i hc
                cases hq
                simp only [List.length_nil, Nat.sub_zero] at hc
                refine backH_miss _ 0 fun j _ hj e => ?_
                rw [backId_ge (Nat.zero_le _)] at e
                simp only [List.length_nil, Nat.sub_zero] at e
                have := freeFrom_get hc.2.1 j (by simpa using hj)
                rw [e] at this
                rw [this] at hi
                cases hi
              · cases hq
          · cases hq
        · cases hfound
    simp only [evOp] at h
    cases f with
    | f n => exact key _ _ h
    | v x =>
      simp only at h
      split at h
      · exact key _ _ h
      · cases h
  | .g j b d o, σ, σ', hm, h, i, hi => by
    have hs : (skipTo σ d).H i = σ.H i := by cases d <;> rfl
    simp only [evOp] at h
    split at h
    · split at h
      · exact evOp_H (show o.mild = true from hm) h i hi
      · cases h; exact hs
    · cases h; exact hs
    · cases h
  | .chk ds o, σ, σ', hm, h, i, hi => evOp_H (show o.mild = true from hm) (chk_ev h).1 i hi

/-! ### hopping -/
/-- an operation that only reads, guarded or not: where it writes, what it reads, does it read memory -/
def MOp.quiet : MOp → Option (Nat × List Nat × Bool)
  | .p d o => some (d, o.rd, match o with | .ld .. => true | .lda .. => true | _ => false)
  | .g j _ (some d) (.p d' o) => if d = d' then some (d, j :: o.rd, match o with | .ld .. => true | .lda .. => true | _ => false) else none
  | _ => none
def qVal : MOp → St → Option PV
  | .p _ o, σ => evP σ.T σ.H o
  | .g j b _ (.p _ o), σ => match σ.T j with
    | .bool b' => if b' = b then evP σ.T σ.H o else some .und
    | .und => some .und
    | _ => none
  | _, _ => none
theorem quiet_ev {C : CallF} {x : MOp} {d : Nat} {rd : List Nat} {m : Bool} (h : x.quiet = some (d, rd, m)) (σ : St) : evOp C x σ = (qVal x σ).map fun v => withT d v σ := by
  cases x with
  | p d' o =>
    simp only [MOp.quiet, Option.some.injEq, Prod.mk.injEq] at h
    obtain ⟨rfl, _, _⟩ := h
    simp only [evOp, qVal]
    cases evP σ.T σ.H o <;> rfl
  | g j b d' o =>
    cases o with
    | p d2 o =>
      cases d' with
      | none => simp [MOp.quiet] at h
      | some d' =>
        simp only [MOp.quiet] at h
        split at h
        · rename_i e
          subst e
          cases h
          simp only [evOp, qVal]
          cases σ.T j with
          | bool b2 =>
            simp only
            by_cases e : b2 = b
            · rw [if_pos e, if_pos e]
              cases evP σ.T σ.H o <;> rfl
            · rw [if_neg e, if_neg e]
              rfl
          | _ => rfl
        · cases h
    | _ => cases d' <;> simp [MOp.quiet] at h
  | _ => simp [MOp.quiet] at h
theorem ldV_same {H H' : Nat → Obj} (h : ∀ i, boxed (H i) = true → H' i = H i) {n : Nat} {ag : Bool} {p q : PV} (he : ldV H n ag p = some q) : ldV H' n ag p = some q := by
  unfold ldV at he ⊢
  split at he
  · rename_i i off
    split at he
    · rename_i cs hc
      rw [h i (by rw [hc]; rfl), hc]
      exact he
    · cases he
  · exact he
  · rename_i i esz idx off
    split at he
    · rename_i e es hc
      rw [h i (by rw [hc]; rfl), hc]
      exact he
    · rename_i e es hc
      rw [h i (by rw [hc]; rfl), hc]
      exact he
    · cases he
  · cases he
theorem evP_H {T : Nat → PV} {H H' : Nat → Obj} {o : POp} (hm : (match o with | .ld .. => true | .lda .. => true | _ => false) = true → ∀ i, boxed (H i) = true → H' i = H i) {p : PV} (h : evP T H o = some p) : evP T H' o = some p := by
  cases o with
  | ld n ag x => exact ldV_same (hm rfl) h
  | lda i n ag x =>
    simp only [evP] at h ⊢
    split at h
    · split at h
      · rename_i e; rw [if_pos e]; exact ldV_same (hm rfl) h
      · cases h
    · cases h
  | _ => exact h
theorem qVal_keeps {x : MOp} {d : Nat} {rd : List Nat} {m : Bool} (h : x.quiet = some (d, rd, m)) {σ σ' : St} (hT : ∀ e ∈ rd, σ'.T e = σ.T e) (hH : m = true → ∀ i, boxed (σ.H i) = true → σ'.H i = σ.H i) {v : PV} (hv : qVal x σ = some v) : qVal x σ' = some v := by
  cases x with
  | p d' o =>
    simp only [MOp.quiet, Option.some.injEq, Prod.mk.injEq] at h
    obtain ⟨_, rfl, rfl⟩ := h
    simp only [qVal] at hv ⊢
    rw [evP_same hT]
    exact evP_H hH hv
  | g j b d' o =>
    cases o with
    | p d2 o =>
      cases d' with
      | none => simp [MOp.quiet] at h
      | some d' =>
        simp only [MOp.quiet] at h
        split at h
        · cases h
          simp only [qVal] at hv ⊢
          rw [hT j (by simp)]
          split at hv
          · split at hv
            · rename_i h1 h2
              rw [if_pos h2, evP_same fun e he => hT e (by simp [he])]
              exact evP_H hH hv
            · rename_i h1 h2
              rw [if_neg h2]
              exact hv
          · exact hv
          · cases hv
        · cases h
    | _ => cases d' <;> simp [MOp.quiet] at h
  | _ => simp [MOp.quiet] at h

/-- from which object it loads -/
def MOp.ldOf : MOp → Option Nat
  | .p _ (.lda i _ _ _) => some i
  | .g _ _ _ (.p _ (.lda i _ _ _)) => some i
  | _ => none
def MOp.spares (i : Nat) : MOp → Bool
  | .chk is _ => memb i is
  | _ => false
theorem awayAll_mem {H H' : Nat → Obj} : ∀ {is : List Nat} {i : Nat}, i ∈ is → awayAll H H' is → H' i = H i
  | [], i, hd, _ => by cases hd
  | e :: r, i, hd, h => by
    rcases List.mem_cons.1 hd with rfl | hd
    · exact h.1
    · exact awayAll_mem hd h.2
theorem evP_away {T T' : Nat → PV} {H H' : Nat → Obj} {i n : Nat} {ag : Bool} {x : Opd} (hT : ∀ d ∈ x.rd, T' d = T d) (hH : H' i = H i) {v : PV} (h : evP T H (.lda i n ag x) = some v) : evP T' H' (.lda i n ag x) = some v := by
  simp only [evP] at h ⊢
  rw [ev_same hT]
  split at h
  · split at h
    · rename_i e
      rw [if_pos e]
      subst e
      simp only [ldV] at h ⊢
      rw [hH]
      exact h
    · cases h
  · cases h
theorem qVal_away {x : MOp} {d i : Nat} {rd : List Nat} {m : Bool} (h : x.quiet = some (d, rd, m)) (hx : x.ldOf = some i) {σ σ' : St} (hT : ∀ e ∈ rd, σ'.T e = σ.T e) (ha : σ'.H i = σ.H i) {v : PV} (hv : qVal x σ = some v) : qVal x σ' = some v := by
  unfold MOp.ldOf at hx
  split at hx
  · rename_i d' i' n ag e
    cases hx
    simp only [MOp.quiet, Option.some.injEq, Prod.mk.injEq] at h
    obtain ⟨_, rfl, rfl⟩ := h
    simp only [qVal] at hv ⊢
    exact evP_away hT ha hv
  · rename_i j b d' d2 i' n ag e
    cases hx
    cases d' with
    | none => simp [MOp.quiet] at h
    | some d' =>
      simp only [MOp.quiet] at h
      split at h
      · cases h
        simp only [qVal] at hv ⊢
        rw [hT j (by simp)]
        split at hv
        · split at hv
          · rename_i h1 h2
            rw [if_pos h2]
            exact evP_away (fun e he => hT e (List.mem_cons_of_mem _ he)) ha hv
          · rename_i h1 h2
            rw [if_neg h2]
            exact hv
        · exact hv
        · cases hv
      · cases h
  · cases hx

/-! ### what makes a new object hops -/
def MOp.makes : MOp → Option (Nat × Nat × List Nat)
  | .alloc d s _ => some (d, s, [])
  | .bsl d s _ _ xs => some (d, s, xs.flatMap Opd.rd)
  | _ => none
/-- an operation over which it may hop -/
def MOp.byNew : MOp → Bool
  | .p _ (.ld ..) => false
  | .p _ (.lda ..) => false
  | .p .. => true
  | .alloc .. | .bsl .. => true
  | .call _ _ lend _ _ => !lend
  | _ => false
def addH (s : Nat) (o : Obj) (σ : St) : St := { σ with H := upd σ.H s o }
def nonFree : Obj → Bool
  | .free => false
  | _ => true
theorem evCallH_new {C : CallF} {H H2 : Nat → Obj} {s t f : Nat} {o : Obj} {vs : List PV} {r : PV} (hs : H s = .free) (ho : nonFree o = true) (h : evCallH C (upd H s o) t false f vs = some (r, H2)) :
    ∃ H3, evCallH C H t false f vs = some (r, H3) ∧ H3 s = .free ∧ H2 = upd H3 s o := by
  unfold evCallH at h ⊢
  simp only [Bool.false_eq_true, if_false] at h ⊢
  by_cases he : (vs.flatMap PV.refs).isEmpty = true
  · rw [if_pos he] at h ⊢
    simp only at h ⊢
    cases hm : mapO (ren []) vs with
    | none => rw [hm] at h; cases h
    | some args =>
      rw [hm] at h
      simp only [packH, mapO] at h ⊢
      cases hc : C f args [] with
      | none => rw [hc] at h; cases h
      | some x =>
        obtain ⟨r', objs'⟩ := x
        rw [hc] at h
        simp only [List.length_nil, Nat.sub_zero, Nat.zero_le, true_and] at h ⊢
        split at h
        · rename_i hcond
          simp only [Option.some.injEq, Prod.mk.injEq] at h
          obtain ⟨rfl, rfl⟩ := h
          have hne : ∀ k, k < objs'.length → t + k ≠ s := fun k hk e => by
            have := freeFrom_get hcond.1 k hk
            rw [e, upd_self] at this
            subst this
            cases ho
          have hfree : ∀ n, n ≤ objs'.length → freeFrom H t n = true := by
            intro n
            induction n with
            | zero => intro _; rfl
            | succ n ih =>
              intro hn
              simp only [freeFrom, Bool.and_eq_true]
              have := freeFrom_get hcond.1 n (by omega)
              rw [upd_ne _ _ (hne n (by omega))] at this
              exact ⟨by rw [this], ih (by omega)⟩
          have hid : ∀ j, backId [] t j = t + j := fun j => by simp [backId]
          rw [if_pos ⟨hfree _ (Nat.le_refl _), hcond.2⟩]
          have hmiss : ∀ (l : List Obj) (j : Nat) (G : Nat → Obj), j + l.length ≤ objs'.length → backH (upd G s o) [] t j l = upd (backH G [] t j l) s o ∧ backH G [] t j l s = G s := by
            intro l
            induction l with
            | nil => intro j G _; exact ⟨rfl, rfl⟩
            | cons q l ih =>
              intro j G hj
              simp only [List.length_cons] at hj
              obtain ⟨h1, h2⟩ := ih (j + 1) G (by omega)
              have hn : t + j ≠ s := hne j (by omega)
              simp only [backH, hid]
              rw [h1]
              refine ⟨?_, by rw [upd_ne _ _ (Ne.symm hn)]; exact h2⟩
              funext x
              unfold upd
              by_cases e1 : x = s <;> by_cases e2 : x = t + j <;> simp [e1, e2]
              · exact absurd (e2.symm.trans e1) hn
              · intro e; exact absurd e.symm hn
              · intro e; exact absurd e hn
          obtain ⟨h1, h2⟩ := hmiss objs' 0 H (by omega)
          exact ⟨_, rfl, h2.trans hs, h1⟩
        · cases h
  · rw [if_neg he] at h
    cases h

theorem evOp_new {C : CallF} {s : Nat} {o : Obj} (ho : nonFree o = true) : ∀ {y : MOp} {σ σ2 : St}, y.byNew = true → σ.H s = .free → evOp C y (addH s o σ) = some σ2 → ∃ σ3, evOp C y σ = some σ3 ∧ σ3.H s = .free ∧ σ2 = addH s o σ3 := by
  intro y σ σ2 hy hs h
  have made : ∀ (d t : Nat) (q : Obj) (v : PV), (addH s o σ).H t = .free → σ2 = { (addH s o σ) with T := upd σ.T d v, H := upd (addH s o σ).H t q } → σ.H t = .free ∧ (upd σ.H t q) s = .free ∧ σ2 = addH s o { σ with T := upd σ.T d v, H := upd σ.H t q } := by
    intro d t q v h1 h2
    have hne : t ≠ s := fun e => by subst e; simp only [addH, upd_self] at h1; subst h1; cases ho
    simp only [addH, upd_ne _ _ hne] at h1
    refine ⟨h1, by rw [upd_ne _ _ (Ne.symm hne)]; exact hs, ?_⟩
    rw [h2]
    simp only [addH]
    rw [upd_comm _ _ _ (Ne.symm hne)]
  cases y with
  | p d q =>
    have hq : evP σ.T (addH s o σ).H q = evP σ.T σ.H q := by cases q <;> first | rfl | cases hy
    simp only [evOp] at h
    rw [show (addH s o σ).T = σ.T from rfl, hq] at h
    simp only [evOp]
    split at h
    · rename_i v hv
      cases h
      exact ⟨_, rfl, hs, rfl⟩
    · cases h
  | alloc d t zs =>
    simp only [evOp] at h
    split at h
    · rename_i hf
      cases h
      obtain ⟨h1, h2, h3⟩ := made d t (.cells zs) (.ptr t 0) hf rfl
      refine ⟨{ σ with T := upd σ.T d (.ptr t 0), H := upd σ.H t (.cells zs) }, ?_, h2, h3⟩
      simp only [evOp, h1]
    · cases h
  | bsl d t ty esz xs =>
    simp only [evOp] at h
    split at h
    · rename_i es hf he
      cases h
      obtain ⟨h1, h2, h3⟩ := made d t (.tok ty esz es.length) (.sl (.tok t) esz es) hf rfl
      refine ⟨{ σ with T := upd σ.T d (.sl (.tok t) esz es), H := upd σ.H t (.tok ty esz es.length) }, ?_, h2, h3⟩
      rw [show (addH s o σ).T = σ.T from rfl] at he
      simp only [evOp, h1, he]
    · cases h
  | call d t lend f args =>
    have hl : lend = false := by simpa [MOp.byNew] using hy
    subst hl
    have key : ∀ n vs, evCall C (addH s o σ) d t false n vs = some σ2 → ∃ σ3, evCall C σ d t false n vs = some σ3 ∧ σ3.H s = .free ∧ σ2 = addH s o σ3 := by
      intro n vs h
      simp only [evCall, Option.map_eq_some_iff] at h
      obtain ⟨⟨r, H2⟩, h1, h2⟩ := h
      obtain ⟨H3, h3, h4, h5⟩ := evCallH_new hs ho h1
      refine ⟨{ σ with T := setO σ.T d r, H := H3 }, by simp only [evCall, h3, Option.map_some], h4, ?_⟩
      rw [← h2, h5]
      rfl
    simp only [evOp] at h ⊢
    cases f with
    | f n => exact key _ _ h
    | v x =>
      simp only at h ⊢
      rw [show (addH s o σ).T = σ.T from rfl] at h
      split at h
      · rename_i e; exact key _ _ h
      · cases h
  | _ => cases hy

theorem makes_ev {C : CallF} {x : MOp} {d s : Nat} {rd : List Nat} (h : x.makes = some (d, s, rd)) {σ σ1 : St} (he : evOp C x σ = some σ1) :
    ∃ o v, nonFree o = true ∧ σ.H s = .free ∧ σ1 = withT d v (addH s o σ) ∧
      ∀ σ3 : St, σ3.H s = .free → (∀ e ∈ rd, σ3.T e = σ.T e) → evOp C x σ3 = some (withT d v (addH s o σ3)) := by
  cases x with
  | alloc d' s' zs =>
    simp only [MOp.makes, Option.some.injEq, Prod.mk.injEq] at h
    obtain ⟨rfl, rfl, rfl⟩ := h
    simp only [evOp] at he
    split at he
    · rename_i hf
      cases he
      exact ⟨.cells zs, .ptr s' 0, rfl, hf, rfl, fun σ3 h3 _ => by simp only [evOp, h3]; rfl⟩
    · cases he
  | bsl d' s' ty esz xs =>
    simp only [MOp.makes, Option.some.injEq, Prod.mk.injEq] at h
    obtain ⟨rfl, rfl, rfl⟩ := h
    simp only [evOp] at he
    split at he
    · rename_i es hf hes
      cases he
      refine ⟨.tok ty esz es.length, .sl (.tok s') esz es, rfl, hf, rfl, fun σ3 h3 hT => ?_⟩
      have : elemsOf σ3.T esz xs = some es := by rw [elems_same hT]; exact hes
      simp only [evOp, h3, this]
      rfl
    · cases he
  | _ => simp [MOp.makes] at h

/-- may y come ahead of x -/
def hop (x y : MOp) : Bool :=
  (match x.quiet with
    | some (d, rd, m) => !(memb d y.rd) && !(memb d y.wr) && (y.wr.all fun e => !(memb e rd)) && (!m || y.mild || (match x.ldOf with | some dp => y.spares dp | none => false))
    | none => false) ||
  (match x.makes with
    | some (d, _, rd) => !(memb d y.rd) && !(memb d y.wr) && (y.wr.all fun e => !(memb e rd)) && y.byNew
    | none => false)
theorem hop_sound {C : CallF} {x y : MOp} (h : hop x y = true) {σ σ1 σ2 : St} (h1 : evOp C x σ = some σ1) (h2 : evOp C y σ1 = some σ2) : ∃ σ3, evOp C y σ = some σ3 ∧ evOp C x σ3 = some σ2 := by
  unfold hop at h
  rw [Bool.or_eq_true] at h
  rcases h with h | h
  · split at h
    · rename_i d rd m hq
      simp only [Bool.and_eq_true, Bool.not_eq_true', Bool.or_eq_true, List.all_eq_true] at h
      obtain ⟨⟨⟨h3, h4⟩, h5⟩, h6⟩ := h
      have n3 : d ∉ y.rd := fun hm => by rw [memb_iff.2 hm] at h3; cases h3
      have n4 : d ∉ y.wr := fun hm => by rw [memb_iff.2 hm] at h4; cases h4
      rw [quiet_ev hq] at h1
      simp only [Option.map_eq_some_iff] at h1
      obtain ⟨v, hv, rfl⟩ := h1
      rw [evOp_loc n3 n4] at h2
      simp only [Option.map_eq_some_iff] at h2
      obtain ⟨σ3, h7, rfl⟩ := h2
      have hT : ∀ e ∈ rd, σ3.T e = σ.T e := fun e he => evOp_T h7 e fun hw => by
        have := h5 e hw
        rw [memb_iff.2 he] at this
        cases this
      refine ⟨σ3, h7, ?_⟩
      have hval : qVal x σ3 = some v := by
        rcases h6 with (h6 | h6) | h6
        · exact qVal_keeps hq hT (fun hm => by rw [hm] at h6; cases h6) hv
        · exact qVal_keeps hq hT (fun _ => evOp_H h6 h7) hv
        · split at h6
          · rename_i dp hdp
            cases y with
            | chk ds o => exact qVal_away hq hdp hT (awayAll_mem (memb_iff.1 h6) (chk_ev h7).2) hv
            | _ => cases h6
          · cases h6
      rw [quiet_ev hq, hval]
      rfl
    · cases h
  · split at h
    · rename_i d s rd hq
      simp only [Bool.and_eq_true, Bool.not_eq_true', List.all_eq_true] at h
      obtain ⟨⟨⟨h3, h4⟩, h5⟩, h6⟩ := h
      have n3 : d ∉ y.rd := fun hm => by rw [memb_iff.2 hm] at h3; cases h3
      have n4 : d ∉ y.wr := fun hm => by rw [memb_iff.2 hm] at h4; cases h4
      obtain ⟨o, v, ho, hs, e1, hx⟩ := makes_ev hq h1
      subst e1
      rw [evOp_loc n3 n4] at h2
      simp only [Option.map_eq_some_iff] at h2
      obtain ⟨σ3, h7, rfl⟩ := h2
      obtain ⟨σ4, h8, h9, rfl⟩ := evOp_new ho h6 hs h7
      have hT : ∀ e ∈ rd, σ4.T e = σ.T e := fun e he => evOp_T h8 e fun hw => by
        have := h5 e hw
        rw [memb_iff.2 he] at this
        cases this
      exact ⟨σ4, h8, hx σ4 h9 hT⟩
    · cases h
end Go.Px
/- A region whose order is drawn: what only reads hops over, all else stands in one order. -/
set_option linter.unusedVariables false
set_option linter.unusedSimpArgs false
namespace Go.Px
open Go

/-- operation i waits for operation j -/
def predB (ops : Array Oper) (i j : Nat) : Bool :=
  match ops[i]? with
  | some o => o.after.toList.any fun e => Region.binds .any e && e.on == j
  | none => false
inductive Anc (ops : Array Oper) : Nat → Nat → Prop where
  | one {i j : Nat} : predB ops i j = true → Anc ops i j
  | step {i m j : Nat} : predB ops i m = true → Anc ops m j → Anc ops i j
def lookN : List (Nat × Nat) → Nat → Nat
  | [], _ => 0
  | (i, k) :: r, j => if i = j then k else lookN r j
def maskOf (masks : List (Nat × Nat)) : List Edge → Nat
  | [] => 0
  | e :: r => (if Region.binds .any e then (2 ^ e.on) ||| lookN masks e.on else 0) ||| maskOf masks r
def edgesOf (ops : Array Oper) (i : Nat) : List Edge := ((ops[i]?).map (·.after.toList)).getD []
def drawGo (ops : Array Oper) : List (Nat × MOp) → List (Nat × Nat) → List (Nat × MOp) → Bool
  | _, _, [] => true
  | done, masks, (i, m) :: rest =>
    let mk := maskOf masks (edgesOf ops i)
    (done.all fun x => ((mk.testBit x.1) || hop x.2 m) && !(predB ops x.1 i) && !(x.1 == i)) && !(predB ops i i) &&
      ((edgesOf ops i).all fun e => !(Region.binds .any e) || decide (e.on < ops.size)) &&
      drawGo ops (done ++ [(i, m)]) ((i, mk) :: masks) rest

def PairOk (ops : Array Oper) (x y : Nat × MOp) : Prop := (Anc ops y.1 x.1 ∨ hop x.2 y.2 = true) ∧ predB ops x.1 y.1 = false ∧ x.1 ≠ y.1
def SelfOk (ops : Array Oper) (x : Nat × MOp) : Prop := predB ops x.1 x.1 = false ∧ ∀ j, predB ops x.1 j = true → j < ops.size

theorem predB_iff {ops : Array Oper} {i j : Nat} : predB ops i j = true ↔ ∃ e ∈ edgesOf ops i, Region.binds .any e = true ∧ e.on = j := by
  unfold predB edgesOf
  cases ops[i]? with
  | none => simp
  | some o =>
    simp only [Option.map_some, Option.getD_some, List.any_eq_true, Bool.and_eq_true, beq_iff_eq]

def MasksOk (ops : Array Oper) (masks : List (Nat × Nat)) : Prop := ∀ i j, (lookN masks i).testBit j = true → Anc ops i j
theorem maskOf_ok {ops : Array Oper} {masks : List (Nat × Nat)} (h : MasksOk ops masks) (i : Nat) : ∀ (es : List Edge), (∀ e ∈ es, e ∈ edgesOf ops i) → ∀ j, (maskOf masks es).testBit j = true → Anc ops i j
  | [], _, j, hj => by simp [maskOf] at hj
  | e :: r, hs, j, hj => by
    simp only [maskOf, Nat.testBit_or, Bool.or_eq_true] at hj
    rcases hj with hj | hj
    · split at hj
      · rename_i hb
        have hp : predB ops i e.on = true := predB_iff.2 ⟨e, hs e (by simp), hb, rfl⟩
        rw [Nat.testBit_or, Bool.or_eq_true] at hj
        rcases hj with hj | hj
        · rw [Nat.testBit_two_pow] at hj
          have : e.on = j := by simpa using hj
          subst this
          exact .one hp
        · exact .step hp (h _ _ hj)
      · simp at hj
    · exact maskOf_ok h i r (fun e he => hs e (by simp [he])) j hj

theorem drawGo_ok {ops : Array Oper} : ∀ (todo done : List (Nat × MOp)) (masks : List (Nat × Nat)), MasksOk ops masks → drawGo ops done masks todo = true → List.Pairwise (PairOk ops) done → (∀ x ∈ done, SelfOk ops x) →
    List.Pairwise (PairOk ops) (done ++ todo) ∧ ∀ x ∈ done ++ todo, SelfOk ops x
  | [], done, masks, _, _, h1, h2 => by rw [List.append_nil]; exact ⟨h1, h2⟩
  | (i, m) :: rest, done, masks, hm, h, h1, h2 => by
    simp only [drawGo, Bool.and_eq_true, List.all_eq_true, Bool.or_eq_true, Bool.not_eq_true', decide_eq_true_eq, beq_eq_false_iff_ne] at h
    obtain ⟨⟨⟨h3, h4⟩, h5⟩, h6⟩ := h
    have hmk := maskOf_ok hm i (edgesOf ops i) fun e he => he
    have hm' : MasksOk ops ((i, maskOf masks (edgesOf ops i)) :: masks) := by
      intro a j hj
      simp only [lookN] at hj
      split at hj
      · rename_i e; subst e; exact hmk j hj
      · exact hm a j hj
    have hp : List.Pairwise (PairOk ops) (done ++ [(i, m)]) := by
      rw [List.pairwise_append]
      refine ⟨h1, by simp, fun x hx y hy => ?_⟩
      simp at hy
      subst hy
      obtain ⟨⟨h7, h8⟩, h9⟩ := h3 x hx
      exact ⟨h7.imp (hmk _) id, h8, h9⟩
    have hs : ∀ x ∈ done ++ [(i, m)], SelfOk ops x := by
      intro x hx
      rcases List.mem_append.1 hx with hx | hx
      · exact h2 x hx
      · simp at hx
        subst hx
        refine ⟨h4, fun j hj => ?_⟩
        obtain ⟨e, he, hb, rfl⟩ := predB_iff.1 hj
        rcases h5 e he with h | h
        · rw [hb] at h; cases h
        · exact h
    have := drawGo_ok rest (done ++ [(i, m)]) _ hm' h6 hp hs
    simpa using this

theorem ops_hop {C : CallF} {y : MOp} : ∀ (pre : List MOp) (post : List MOp) (σ σ' : St), (∀ x ∈ pre, hop x y = true) → evOps C (pre ++ y :: post) σ = some σ' → ∃ σ1, evOp C y σ = some σ1 ∧ evOps C (pre ++ post) σ1 = some σ'
  | [], post, σ, σ', _, h => by
    simp only [List.nil_append, evOps] at h
    split at h
    · rename_i σ1 h1; exact ⟨σ1, h1, h⟩
    · cases h
  | x :: pre, post, σ, σ', hh, h => by
    simp only [List.cons_append, evOps] at h
    split at h
    · rename_i σ1 h1
      obtain ⟨σ2, h2, h3⟩ := ops_hop pre post σ1 σ' (fun z hz => hh z (by simp [hz])) h
      obtain ⟨σ3, h4, h5⟩ := hop_sound (hh x (by simp)) h1 h2
      refine ⟨σ3, h4, ?_⟩
      simp only [List.cons_append, evOps, h5]
      exact h3
    · cases h

theorem draw_sound {P : Program} {N : Nat} {C : CallF} (hC : CSound P C) {ops : Array Oper} {Q : Exit → Act → World → Prop} : ∀ (n : Nat) (rem : List (Nat × MOp)) (listed : Array Bool) (σ σ' : St) (a : Act) (w : World) (g : Gh),
    rem.length = n → listed.size = ops.size → (∀ i, listed.getD i true = false ↔ ∃ m, (i, m) ∈ rem) → (∀ i, i < ops.size → listed.getD i true = true → ∀ j, predB ops i j = true → listed.getD j false = true) →
    List.Pairwise (PairOk ops) rem → (∀ x ∈ rem, SelfOk ops x ∧ ∃ o, ops[x.1]? = some o ∧ opOk P N ops o x.2 = true) → evOps C (rem.map (·.2)) σ = some σ' → Rel N σ a w g →
    (∀ a' w' g', Rel N σ' a' w' g' → Stp σ.m w g σ.H w' g' σ'.H → σ'.m = σ.m → Q .normal a' w') → wpAny P .any ops Q n listed a w := by
  intro n
  induction n with
  | zero =>
    intro rem listed σ σ' a w g hl hsz hlist hclosed hpair hself he hr hQ
    have hrem : rem = [] := List.eq_nil_of_length_eq_zero hl
    subst hrem
    simp [evOps] at he
    subst he
    refine ⟨?_, hQ a w g hr (.refl _ _ _ _) rfl⟩
    apply List.eq_nil_iff_forall_not_mem.2
    intro i hi
    obtain ⟨m, hm⟩ := (hlist i).1 (mem_ready.1 hi).1
    cases hm
  | succ n ih =>
    intro rem listed σ σ' a w g hl hsz hlist hclosed hpair hself he hr hQ
    refine ⟨fun hno => ?_, fun i hi => ?_⟩
    · exfalso
      match rem, hl with
      | x :: rest, hl =>
        have hx : x.1 ∈ Region.ready .any ops listed := by
          obtain ⟨hso, o, ho, _⟩ := hself x (by simp)
          refine mem_ready.2 ⟨(hlist x.1).2 ⟨x.2, by simp⟩, o, ho, fun e hee hb => ?_⟩
          have hp : predB ops x.1 e.on = true := predB_iff.2 ⟨e, by simp [edgesOf, ho]; exact hee, hb, rfl⟩
          have hlt := hso.2 _ hp
          cases hq : listed.getD e.on true with
          | true => simpa [hsz, hlt] using hq
          | false =>
            exfalso
            obtain ⟨m, hm⟩ := (hlist e.on).1 hq
            rcases List.mem_cons.1 hm with hm | hm
            · subst hm
              rw [hso.1] at hp
              cases hp
            · have := (List.pairwise_cons.1 hpair).1 _ hm
              rw [this.2.1] at hp
              cases hp
        rw [hno] at hx
        cases hx
    · obtain ⟨h0, o, ho, hpre⟩ := mem_ready.1 hi
      obtain ⟨m, hm⟩ := (hlist i).1 h0
      obtain ⟨pre, post, rfl⟩ := List.append_of_mem hm
      have hallp : ∀ j, predB ops i j = true → listed.getD j false = true := fun j hj => by
        obtain ⟨e, hee, hb, rfl⟩ := predB_iff.1 hj
        simp [edgesOf, ho] at hee
        exact hpre e hee hb
      have hgd : ∀ j, j < ops.size → listed.getD j false = listed.getD j true := fun j hj => by simp [hsz, hj]
      have hltpred : ∀ k j, predB ops k j = true → k < ops.size := fun k j h => by
        unfold predB at h
        split at h
        · rename_i o' ho'; exact (Array.getElem?_eq_some_iff.1 ho').1
        · cases h
      have hanc : ∀ k j, Anc ops k j → (∀ q, predB ops k q = true → listed.getD q false = true) → listed.getD j false = true := by
        intro k j hkj
        induction hkj with
        | one h => exact fun hq => hq _ h
        | step h h2 ih2 =>
          intro hq
          refine ih2 fun q hq2 => ?_
          have h3 := hq _ h
          have h4 := hltpred _ _ hq2
          exact hclosed _ h4 (by rw [← hgd _ h4]; exact h3) _ hq2
      have hhop : ∀ x ∈ pre, hop x.2 m = true := fun x hx => by
        have hp := (List.pairwise_append.1 hpair).2.2 x hx (i, m) (by simp)
        rcases hp.1 with h | h
        · exfalso
          have h1 := hanc _ _ h hallp
          have h2 := (hlist x.1).2 ⟨x.2, by simp [hx]⟩
          obtain ⟨_, o', ho', _⟩ := hself x (by simp [hx])
          have hlt := (Array.getElem?_eq_some_iff.1 ho').1
          rw [hgd _ hlt, h2] at h1
          cases h1
        · exact h
      have hne : ∀ x ∈ pre ++ post, x.1 ≠ i := fun x hx => by
        rcases List.mem_append.1 hx with hx | hx
        · exact ((List.pairwise_append.1 hpair).2.2 x hx (i, m) (by simp)).2.2
        · exact Ne.symm ((List.pairwise_cons.1 (List.pairwise_append.1 hpair).2.1).1 x hx).2.2
      rw [List.map_append, List.map_cons] at he
      obtain ⟨σ1, h1, h2⟩ := ops_hop (pre.map (·.2)) (post.map (·.2)) σ σ' (fun z hz => by
        obtain ⟨x, hx, rfl⟩ := List.mem_map.1 hz
        exact hhop x hx) he
      have hok : opOk P N ops o m = true := by
        obtain ⟨_, o', ho', hok⟩ := hself (i, m) (by simp)
        simp only at ho'
        rw [ho] at ho'
        cases ho'
        exact hok
      have hlt : i < ops.size := (Array.getElem?_eq_some_iff.1 ho).1
      have hm1 := evOp_m h1
      have key := op_sound hr hC hok h1 (wpAny P .any ops Q n (listed.setIfInBounds i true)) Q fun a' w' g' hr' hs' => by
        refine ih (pre ++ post) (listed.setIfInBounds i true) σ1 σ' a' w' g' (by simp at hl ⊢; omega) (by simpa using hsz) (fun j => ?_) (fun j hj hjl q hq => ?_) ?_ (fun x hx => hself x (by
          rcases List.mem_append.1 hx with hx | hx
          · simp [hx]
          · simp [hx])) (by rw [List.map_append]; exact h2) hr' fun a2 w2 g2 hr2 hs2 hm2 => hQ a2 w2 g2 hr2 (hs'.trans (by rw [← hm1]; exact hs2)) (hm2.trans hm1)
        · by_cases hji : i = j
          · subst hji
            have : (listed.setIfInBounds i true).getD i true = true := by simp [hsz, hlt]
            rw [this]
            exact ⟨(fun h => by cases h), (fun ⟨m', hm'⟩ => absurd rfl (hne _ hm'))⟩
          · rw [getD_set_ne true hji, hlist j]
            constructor
            · rintro ⟨m', hm'⟩
              rcases List.mem_append.1 hm' with h | h
              · exact ⟨m', by simp [h]⟩
              · rcases List.mem_cons.1 h with h | h
                · cases h; exact absurd rfl hji
                · exact ⟨m', by simp [h]⟩
            · rintro ⟨m', hm'⟩
              rcases List.mem_append.1 hm' with h | h
              · exact ⟨m', by simp [h]⟩
              · exact ⟨m', by simp [h]⟩
        · apply getD_set_true
          by_cases hji : i = j
          · subst hji
            exact hallp q hq
          · rw [getD_set_ne true hji] at hjl
            exact hclosed j hj hjl q hq
        · exact hpair.sublist (List.Sublist.append_left (List.sublist_cons_self _ _) _)
      unfold wpOp
      rw [ho]
      exact key
end Go.Px
/- What is let go at a loop's head; the ghosts. -/
set_option linter.unusedVariables false
set_option linter.unusedSimpArgs false
namespace Go.Px
open Go

theorem PtrR_sub {g : Gh} {H H' : Nat → Obj} {p : PV} {v : Value} (hs : ∀ i ∈ p.ref0, H' i = H i) (h : PtrR g H p v) : PtrR g H' p v := by
  cases p with
  | ptr i off =>
    obtain ⟨⟨cs, h1⟩, h2⟩ := h
    exact ⟨⟨cs, by rw [hs i (by simp [PV.ref0])]; exact h1⟩, h2⟩
  | _ => exact h.elim
theorem RC_sub {g : Gh} {w : World} {H H' : Nat → Obj} {p : PV} {v : Value} (hs : ∀ i ∈ p.ref1, H' i = H i) (h : RC g w H p v) : RC g w H' p v := by
  cases p with
  | ptr i off => exact PtrR_sub (p := .ptr i off) hs h
  | aptr i e x o =>
    obtain ⟨⟨es, h1⟩, h2⟩ := h
    exact ⟨⟨es, by rw [hs i (by simp [PV.ref1, PV.ref0])]; exact h1⟩, h2⟩
  | warr i e n =>
    obtain ⟨⟨es, h1⟩, h2⟩ := h
    exact ⟨⟨es, by rw [hs i (by simp [PV.ref1, PV.ref0])]; exact h1⟩, h2⟩
  | sl t e es =>
    cases t with
    | plain => exact h
    | nil => exact h
    | tok i =>
      refine ⟨h.1, ?_⟩
      have h2 := h.2
      unfold TokR at h2 ⊢
      rw [hs i (by simp [PV.ref1, PV.ref0])]
      exact h2
  | fn f caps =>
    obtain ⟨vs, h1, h2⟩ := h
    exact ⟨vs, h1, h2.mono fun a b ha h => PtrR_sub (fun i hi => hs i (by simp only [PV.ref1, List.mem_flatMap]; exact ⟨a, ha, hi⟩)) h⟩
  | _ => exact h
theorem R1_sub {g : Gh} {w : World} {H H' : Nat → Obj} {p : PV} {v : Value} (hs : ∀ i ∈ p.refs2, H' i = H i) (h : R1 g w H p v) : R1 g w H' p v := by
  by_cases ha : ∃ cs, p = .agg cs
  · obtain ⟨cs, rfl⟩ := ha
    obtain ⟨vs, h1, h2⟩ := h
    exact ⟨vs, h1, h2.mono fun a b ha h => RC_sub (fun i hi => hs i (by simp only [PV.refs2, List.mem_flatMap]; exact ⟨a, ha, hi⟩)) h⟩
  · have hs' : ∀ i ∈ p.ref1, H' i = H i := fun i hi => hs i (by cases p <;> first | exact hi | exact absurd ⟨_, rfl⟩ ha)
    cases p with
    | agg cs => exact absurd ⟨cs, rfl⟩ ha
    | und => exact h
    | bad => exact h
    | tup vs => exact h
    | int k n => exact RC_sub (g := g) (w := w) (p := .int k n) hs' h
    | bool b => exact RC_sub (g := g) (w := w) (p := .bool b) hs' h
    | nilp => exact RC_sub (g := g) (w := w) (p := .nilp) hs' h
    | ptr i o => exact RC_sub (g := g) (w := w) (p := .ptr i o) hs' h
    | aptr i e x o => exact RC_sub (g := g) (w := w) (p := .aptr i e x o) hs' h
    | warr i e n => exact RC_sub (g := g) (w := w) (p := .warr i e n) hs' h
    | view cs => exact RC_sub (g := g) (w := w) (p := .view cs) hs' h
    | sl t e es => exact RC_sub (g := g) (w := w) (p := .sl t e es) hs' h
    | fn f caps => exact RC_sub (g := g) (w := w) (p := .fn f caps) hs' h
theorem R_sub {g : Gh} {w : World} {H H' : Nat → Obj} {p : PV} {v : Value} (hs : ∀ i ∈ p.refs, H' i = H i) (h : R g w H p v) : R g w H' p v := by
  by_cases ha : ∃ cs, p = .tup cs
  · obtain ⟨cs, rfl⟩ := ha
    obtain ⟨vs, h1, h2⟩ := h
    exact ⟨vs, h1, h2.mono fun a b ha h => R1_sub (fun i hi => hs i (by simp only [PV.refs, List.mem_flatMap]; exact ⟨a, ha, hi⟩)) h⟩
  · have hp' : ∀ vs, p ≠ .tup vs := fun vs e => ha ⟨vs, e⟩
    exact R_of_R1 (R1_sub (fun i hi => hs i (by cases p <;> first | exact hi | exact absurd rfl (hp' _))) (R1_of_R h hp'))

theorem allIn_mem {l hl : List Nat} (h : allIn l hl = true) {i : Nat} (hi : i ∈ l) : i ∈ hl := by
  simp only [allIn, List.all_eq_true] at h
  exact memb_iff.1 (h i hi)
theorem ofH_in (σH : Nat → Obj) : ∀ (hl : List Nat) (i : Nat), ofH (hl.map fun i => (i, σH i)) i = if i ∈ hl then σH i else .free
  | [], i => by simp [ofH]
  | j :: r, i => by
    simp only [List.map_cons, ofH]
    by_cases h : i = j
    · subst h; simp
    · rw [if_neg h, ofH_in σH r i]; simp [h]
theorem ofL_in (f : Nat → PV) : ∀ (l : List Nat) (d : Nat), ofL (l.map fun d => (d, f d)) d = if d ∈ l then f d else .bad
  | [], i => by simp [ofL]
  | j :: r, i => by
    simp only [List.map_cons, ofL]
    by_cases h : i = j
    · subst h; simp
    · rw [if_neg h, ofL_in f r i]; simp [h]

/-- The objects named are kept, the others let go. -/
theorem HR_sub {g : Gh} {w : World} {H H' : Nat → Obj} (hr : HR g w H) (hsub : ∀ i, H' i = H i ∨ H' i = .free) (hclosed : ∀ i cs, H' i = .cells cs → ∀ p ∈ cs, ∀ j ∈ p.ref1, H' j = H j) : HR g w H' := by
  have hown : ∀ i b, ownBlk g H' i = some b → ownBlk g H i = some b := fun i b h => by
    rcases hsub i with h1 | h1
    · unfold ownBlk at h ⊢; rw [h1] at h; exact h
    · unfold ownBlk at h; rw [h1] at h; cases h
  have back : ∀ i, H' i ≠ .free → H' i = H i := fun i h => (hsub i).resolve_right h
  refine ⟨fun i cs e => ?_, fun i e es he => ?_, fun i e es he => ?_, fun i t e n he => ?_, fun i j b hij h1 h2 => hr.apart i j b hij (hown i b h1) (hown j b h2), hr.fresh⟩
  · obtain ⟨vs, ty, h1, h2, h3⟩ := hr.cells i cs (by rw [← back i (by rw [e]; exact fun h => by cases h)]; exact e)
    exact ⟨vs, ty, h1, h2.mono fun p v hp h => RC_sub (hclosed i cs e p hp) h, h3⟩
  · exact hr.arr i e es (by rw [← back i (by rw [he]; exact fun h => by cases h)]; exact he)
  · exact hr.frz i e es (by rw [← back i (by rw [he]; exact fun h => by cases h)]; exact he)
  · exact hr.tok i t e n (by rw [← back i (by rw [he]; exact fun h => by cases h)]; exact he)

theorem keepV_R {g : Gh} {w : World} {H H' : Nat → Obj} {hl : List Nat} (hk : ∀ i ∈ hl, H' i = H i) {p : PV} {v : Value} (h : R g w H p v) : R g w H' (keepV hl p) v := by
  unfold keepV
  split
  · rename_i i e es
    split
    · rename_i hm
      exact R_sub (fun j hj => hk j (by simp [PV.refs, PV.refs2, PV.ref1, PV.ref0] at hj; subst hj; exact memb_iff.1 hm)) h
    · exact sl_R h
  · split
    · rename_i hm
      exact R_sub (fun j hj => hk j (allIn_mem hm hj)) h
    · trivial

theorem restrict_sound {N : Nat} {σ σ' : St} {a : Act} {w : World} {g : Gh} (hr : Rel N σ a w g) {live hl : List Nat} (h : restrict live hl σ = some σ') : Rel N σ' a w g ∧ Stp σ.m w g σ.H w g σ'.H ∧ σ'.m = σ.m := by
  unfold restrict at h
  split at h
  · rename_i hc
    cases h
    simp only [Bool.and_eq_true, List.all_eq_true] at hc
    obtain ⟨hc1, hc2⟩ := hc
    have hin : ∀ i ∈ hl, ofH (hl.map fun i => (i, σ.H i)) i = σ.H i := fun i hi => by rw [ofH_in, if_pos hi]
    have hsub : ∀ i, ofH (hl.map fun i => (i, σ.H i)) i = σ.H i ∨ ofH (hl.map fun i => (i, σ.H i)) i = .free := fun i => by
      rw [ofH_in]; by_cases h : i ∈ hl
      · rw [if_pos h]; exact .inl rfl
      · rw [if_neg h]; exact .inr rfl
    refine ⟨⟨hr.defers, hr.size, fun d => ?_, HR_sub hr.hr hsub fun i cs e p hp j hj => hin j ?_⟩, ⟨rfl, rfl, rfl, Nat.le_refl _, .refl _ _, fun _ _ _ => ⟨rfl, rfl⟩, fun i b hb => ?_, fun i hi => ?_⟩, rfl⟩
    · show R g w _ (ofL (live.map fun d => (d, keepV hl (σ.T d))) d) _
      rw [ofL_in (fun d => keepV hl (σ.T d))]
      split
      · exact keepV_R hin (hr.tm d)
      · trivial
    · have hi : i ∈ hl := by
        change ofH (hl.map fun i => (i, σ.H i)) i = _ at e
        rw [ofH_in] at e
        by_cases h : i ∈ hl
        · exact h
        · rw [if_neg h] at e; cases e
      change ofH (hl.map fun i => (i, σ.H i)) i = _ at e
      rw [hin i hi] at e
      refine allIn_mem (hc1 i hi) ?_
      rw [e]
      exact List.mem_flatMap.2 ⟨p, hp, hj⟩
    · refine .inl ⟨i, ?_⟩
      change ownBlk g (ofH (hl.map fun i => (i, σ.H i))) i = _ at hb
      rcases hsub i with h1 | h1
      · unfold ownBlk at hb ⊢; rw [h1] at hb; exact hb
      · unfold ownBlk at hb; rw [h1] at hb; cases hb
    · have := hin i (allIn_mem hc2 (List.mem_range.2 hi))
      exact ⟨fun cs e => ⟨⟨cs, this.trans e⟩, rfl⟩, fun e => this.trans e, fun t e n he => .inr ⟨n, this.trans he, Nat.le_refl _, fun _ => rfl⟩⟩
  · cases h

/-! ### ghosts -/
theorem own_obj {g : Gh} {w : World} {H : Nat → Obj} (hr : HR g w H) {s : Nat} (hs : H s = .free) (ty esz : Nat) (he : 0 < esz) :
    let g' : Gh := { g with τ := upd g.τ s (.slice none 0 0) }
    HR g' w (upd H s (.tok ty esz 0)) ∧ Keeps w g.I w g'.I ∧ Lives g H g' (upd H s (.tok ty esz 0)) ∧ (∀ m, Stp m w g H w g' (upd H s (.tok ty esz 0))) ∧
      ∀ n, R g' w (upd H s (.tok ty esz 0)) (.sl (.tok s) esz []) (.slice none 0 n) → n = 0 := by
  intro g'
  have hno : ∀ b, ownBlk g H s ≠ some b := fun b h => by unfold ownBlk at h; rw [hs] at h; cases h
  obtain ⟨h1, h2, h3, h4⟩ := obj_upd (g' := g') (w' := w) (H' := upd H s (.tok ty esz 0)) s hr (Nat.le_refl _) rfl rfl rfl
    (fun i hi => upd_ne _ _ hi) (fun i hi => ⟨rfl, upd_ne _ _ hi⟩) (fun b hb _ => ⟨rfl, rfl⟩) (fun b h => absurd h (hno b))
    (fun b hb => hr.fresh b hb) (.free hs) (fun b hb => by unfold ownBlk at hb; rw [upd_self] at hb; simp only [g', upd_self, Value.ownBlock] at hb; cases hb)
    (fun hk hl => by
      unfold ObjOk
      rw [upd_self]
      refine ⟨[], ⟨by simp, .inl ⟨by simp [g', upd_self], rfl⟩⟩, fun b hb => ?_, he⟩
      simp only [g', upd_self, Value.ownBlock] at hb
      cases hb)
  refine ⟨h1, h2, h3, fun m => h4 m fun _ => ⟨(fun cs e => by rw [hs] at e; cases e), (fun e => by rw [hs] at e; cases e), (fun t e n he => by rw [hs] at he; cases he)⟩, fun n h => ?_⟩
  have h5 := h.2
  unfold TokR at h5
  rw [upd_self] at h5
  have := h5.2 rfl rfl
  simp only [g', upd_self] at this
  cases this
  rfl
theorem own_val {g : Gh} {w : World} {H : Nat → Obj} {s ty esz : Nat} : RC { g with τ := upd g.τ s (.slice none 0 0) } w (upd H s (.tok ty esz 0)) (.sl (.tok s) esz []) (.slice none 0 0) := by
  refine ⟨.sl esz [] none 0 0 (fun _ _ => undef) rfl (by simp) (Nat.zero_le _) (Nat.le_refl _) (fun h => absurd h (by omega)) (fun j q hj => absurd hj (by simp)), ?_⟩
  unfold TokR
  rw [upd_self]
  refine ⟨Nat.le_refl _, fun _ _ => ?_⟩
  simp only [upd_self]

theorem Lives.rel {N : Nat} {σ : St} {a : Act} {w : World} {g g' : Gh} {H' : Nat → Obj} (hr : Rel N σ a w g) (hk : Keeps w g.I w g'.I) (hl : Lives g σ.H g' H') (hh : HR g' w H') {d : Nat} {p : PV} (hv : R g' w H' p (a.tmps.getD d undef)) :
    Rel N { σ with T := upd σ.T d p, H := H' } a w g' := by
  refine ⟨hr.defers, hr.size, fun e => ?_, hh⟩
  simp only [upd]
  by_cases he : e = d
  · subst he; rw [if_pos rfl]; exact hv
  · rw [if_neg he]; exact R.mono hk hl (hr.tm e)

/-- one row's right goes over to another's number -/
theorem mv_obj {g : Gh} {w : World} {H : Nat → Obj} (hr : HR g w H) {x y t e n1 n2 : Nat} (hx : H x = .tok t e n1) (hy : H y = .tok t e n2) (hlt : n2 < n1) (hne : x ≠ y) :
    let g' : Gh := { g with τ := upd g.τ y (g.τ x) }
    let H' := upd (upd H x .gone) y (.tok t e n1)
    HR g' w H' ∧ Keeps w g.I w g'.I ∧ Lives g H g' H' ∧ ∀ m, Stp m w g H w g' H' := by
  intro g' H'
  have hk : Keeps w g.I w g'.I := .refl _ _
  have ey : H' y = .tok t e n1 := upd_self _ _ _
  have ex : H' x = .gone := by show upd (upd H x .gone) y _ x = _; rw [upd_ne _ _ hne]; exact upd_self _ _ _
  have eo : ∀ j, j ≠ x → j ≠ y → H' j = H j ∧ g'.τ j = g.τ j := fun j h1 h2 => ⟨by show upd (upd H x .gone) y _ j = _; rw [upd_ne _ _ h2, upd_ne _ _ h1], upd_ne _ _ h2⟩
  have ety : g'.τ y = g.τ x := upd_self _ _ _
  have hl : Lives g H g' H' := by
    refine ⟨fun i cs hc => ?_, fun i e' es he => ?_, fun i esz n v ht => ?_⟩
    · have h1 : i ≠ x := fun h => by subst h; rw [hx] at hc; cases hc
      have h2 : i ≠ y := fun h => by subst h; rw [hy] at hc; cases hc
      exact ⟨⟨cs, (eo i h1 h2).1.trans hc⟩, rfl⟩
    · have h1 : i ≠ x := fun h => by subst h; rw [hx] at he; rcases he with he | he <;> cases he
      have h2 : i ≠ y := fun h => by subst h; rw [hy] at he; rcases he with he | he <;> cases he
      exact ⟨⟨es, by rw [(eo i h1 h2).1]; exact he, rfl⟩, rfl⟩
    · unfold TokR at ht ⊢
      by_cases h2 : i = y
      · subst h2
        rw [hy] at ht
        rw [ey]
        exact ⟨by omega, fun _ h => by omega⟩
      · by_cases h1 : i = x
        · subst h1; rw [ex]; trivial
        · rw [(eo i h1 h2).1, (eo i h1 h2).2]; exact ht
  have hob : ∀ j b, ownBlk g' H' j = some b → ∃ i, ownBlk g H i = some b ∧ (j = y → i = x) ∧ (j ≠ y → i = j) ∧ j ≠ x := fun j b h => by
    unfold ownBlk at h
    by_cases h2 : j = y
    · subst h2
      rw [ey] at h
      simp only [ety] at h
      exact ⟨x, by unfold ownBlk; rw [hx]; exact h, fun _ => rfl, fun h => absurd rfl h, Ne.symm hne⟩
    · by_cases h1 : j = x
      · subst h1; rw [ex] at h; cases h
      · rw [(eo j h1 h2).1, (eo j h1 h2).2] at h
        exact ⟨j, h, fun h => absurd h h2, fun _ => rfl, h1⟩
  refine ⟨⟨fun i cs hc => ?_, fun i e' es he => ?_, fun i e' es he => ?_, fun i t' e' n he => ?_, fun i j b hij h1 h2 => ?_, hr.fresh⟩, hk, hl, fun m => ⟨rfl, rfl, rfl, Nat.le_refl _, hk, fun _ _ _ => ⟨rfl, rfl⟩, fun i b h => ?_, fun i _ => ?_⟩⟩
  · have h2 : i ≠ y := fun h => by subst h; rw [ey] at hc; cases hc
    have h1 : i ≠ x := fun h => by subst h; rw [ex] at hc; cases hc
    obtain ⟨vs, ty, h3, h4, h5⟩ := hr.cells i cs ((eo i h1 h2).1.symm.trans hc)
    exact ⟨vs, ty, h3, h4.mono fun p v _ h => RC.mono hk hl h, h5⟩
  · have h2 : i ≠ y := fun h => by subst h; rw [ey] at he; cases he
    have h1 : i ≠ x := fun h => by subst h; rw [ex] at he; cases he
    exact hr.arr i e' es ((eo i h1 h2).1.symm.trans he)
  · have h2 : i ≠ y := fun h => by subst h; rw [ey] at he; cases he
    have h1 : i ≠ x := fun h => by subst h; rw [ex] at he; cases he
    exact hr.frz i e' es ((eo i h1 h2).1.symm.trans he)
  · by_cases h2 : i = y
    · subst h2
      rw [ey] at he
      cases he
      rw [ety]
      exact hr.tok x _ _ _ hx
    · have h1 : i ≠ x := fun h => by subst h; rw [ex] at he; cases he
      rw [(eo i h1 h2).2]
      exact hr.tok i _ _ _ ((eo i h1 h2).1.symm.trans he)
  · obtain ⟨i', k1, k2, k3, k4⟩ := hob i b h1
    obtain ⟨j', l1, l2, l3, l4⟩ := hob j b h2
    refine hr.apart i' j' b (fun e => ?_) k1 l1
    by_cases hi : i = y
    · have hj : j ≠ y := fun h => hij (hi.trans h.symm)
      rw [k2 hi, l3 hj] at e
      exact l4 e.symm
    · by_cases hj : j = y
      · rw [k3 hi, l2 hj] at e
        exact k4 e
      · rw [k3 hi, l3 hj] at e
        exact hij e
  · obtain ⟨i', k1, _⟩ := hob i b h
    exact .inl ⟨i', k1⟩
  · by_cases h2 : i = y
    · subst h2
      exact ⟨(fun cs e => by rw [hy] at e; cases e), (fun e => by rw [hy] at e; cases e), (fun t' e' n he => by rw [hy] at he; cases he; exact .inr ⟨n1, ey, by omega, fun h => by omega⟩)⟩
    · by_cases h1 : i = x
      · subst h1
        exact ⟨(fun cs e => by rw [hx] at e; cases e), (fun e => by rw [hx] at e; cases e), (fun t' e' n he => .inl ex)⟩
      · exact ⟨fun cs e => ⟨⟨cs, (eo i h1 h2).1.trans e⟩, rfl⟩, fun e => (eo i h1 h2).1.trans e, fun t' e' n he => .inr ⟨n, (eo i h1 h2).1.trans he, Nat.le_refl _, fun _ => (eo i h1 h2).2⟩⟩
theorem Lives.trans {g g1 g2 : Gh} {H H1 H2 : Nat → Obj} (q3 : Lives g H g1 H1) (p3 : Lives g1 H1 g2 H2) : Lives g H g2 H2 := by
  refine ⟨?_, ?_, ?_⟩
  · intro i' cs' h
    obtain ⟨⟨c2, h2⟩, h3⟩ := q3.cells i' cs' h
    obtain ⟨h4, h5⟩ := p3.cells i' c2 h2
    exact ⟨h4, h5.trans h3⟩
  · intro i' e' es' h
    obtain ⟨⟨c2, h2, h6⟩, h3⟩ := q3.arr i' e' es' h
    obtain ⟨⟨c3, h4, h7⟩, h5⟩ := p3.arr i' e' c2 h2
    exact ⟨⟨c3, h4, h7.trans h6⟩, h5.trans h3⟩
  · intro i' e' n' v h
    exact p3.tok i' e' n' v (q3.tok i' e' n' v h)
/-- one cell gets another value that the same cell of memory is -/
theorem cell_obj {g : Gh} {w : World} {H : Nat → Obj} (q1 : HR g w H) {i j : Nat} {cs : List PV} {q : PV} (hH : H i = .cells cs) (hj : j < cs.length) (hq : ∀ vs ty v, w.heap[g.κ i]? = some (.cells vs ty (0, 0)) → vs[j]? = some v → RC g w (upd H i (.cells (cs.set j q))) q v) :
    HR g w (upd H i (.cells (cs.set j q))) ∧ Lives g H g (upd H i (.cells (cs.set j q))) ∧ ∀ m, Stp m w g H w g (upd H i (.cells (cs.set j q))) := by
  obtain ⟨vs, tyv, k1, k2, k3⟩ := q1.cells i cs hH
  have hob : ownBlk g H i = some (g.κ i) := by unfold ownBlk; rw [hH]
  obtain ⟨p1, p2, p3, p4⟩ := obj_upd (g' := g) (w' := w) (H' := upd H i (.cells (cs.set j q))) i q1 (Nat.le_refl _) rfl rfl rfl
    (fun j hj => upd_ne _ _ hj) (fun j hj => ⟨rfl, rfl⟩) (fun b hb hno => ⟨rfl, rfl⟩)
    (fun b hb => ⟨Nat.le_refl _, fun j hj => rfl⟩) q1.fresh
    ⟨(fun cs' e => ⟨⟨_, upd_self _ _ _⟩, rfl⟩), (fun e' es' he => by rw [hH] at he; rcases he with he | he <;> cases he), (fun esz n v ht => by simp [TokR, hH] at ht)⟩
    (fun b hb => by
      unfold ownBlk at hb; rw [upd_self] at hb
      exact .inl (by rw [hob]; exact hb))
    (fun hk hl => by
      unfold ObjOk
      rw [upd_self]
      refine ⟨vs, tyv, k1, ?_, k3⟩
      refine All2.of_get (by simpa using k2.length) fun l h1 h2 => ?_
      rw [List.getElem_set]
      split
      · rename_i hj'
        subst hj'
        exact hq _ _ _ k1 (by simp)
      · exact RC.mono hk hl (k2.get l (by simpa using h1) h2))
  exact ⟨p1, p3, fun m => p4 m fun hm => ⟨fun cs' e => ⟨⟨_, upd_self _ _ _⟩, rfl⟩, (fun e => by rw [hH] at e; cases e), (fun t e n he => by rw [hH] at he; cases he)⟩⟩

theorem evG_sound {N : Nat} {σ σ' : St} {a : Act} {w : World} {g : Gh} (hr : Rel N σ a w g) {o : Gop} (h : evG o σ = some σ') : ∃ g', Rel N σ' a w g' ∧ Stp σ.m w g σ.H w g' σ'.H ∧ σ'.m = σ.m := by
  cases o with
  | frz d =>
    have htd := hr.tm d
    simp only [evG] at h
    split at h
    · rename_i i e n hT
      rw [hT] at htd
      obtain ⟨⟨es0, h1, h2⟩, h3⟩ := htd
      split at h
      · rename_i e' es hH
        split at h
        · rename_i he
          subst he
          cases h
          have hes : es0 = es := by
            rcases h1 with h1 | h1 <;> rw [hH] at h1 <;> cases h1
            rfl
          subst hes
          obtain ⟨vs, ty, k1, k2, k3, k4⟩ := hr.hr.arr i e es0 hH
          have hlt := (Array.getElem?_eq_some_iff.1 k1).1
          have hob : ownBlk g σ.H i = some (g.κ i) := by unfold ownBlk; rw [hH]
          let g' : Gh := { g with I := upd g.I (g.κ i) (es0.length * e) }
          have key : Keeps w g.I w g'.I → RI w g'.I (.sl .plain e es0) (.slice (some ⟨g.κ i, 0, none⟩) es0.length es0.length) := fun hk => by
            refine .sl e es0 _ _ _ (fun j q => vs.getD (j * e + q) undef) rfl k2.2.1 k4 (Nat.le_refl _) (fun h0 => ⟨_, rfl, rfl, by simp [g', upd_self], fun j q hj hq => ?_⟩) (fun j q hj hq => ?_)
            · have hsz : j * e + q < vs.size := by rw [k2.1]; exact idx_lt hj hq
              simp only [World.cell?, k1]
              simp [hsz]
            · obtain ⟨u, h5, h6⟩ := k2.2.2 j q hj hq
              have : vs.getD (j * e + q) undef = u := by simp [Array.getD_eq_getD_getElem?, h5]
              rw [this]
              exact h6.mono hk
          obtain ⟨q1, q2, q3, q4⟩ := obj_upd (g' := g') (w' := w) (H' := upd σ.H i (.frz e es0)) i hr.hr (Nat.le_refl _) rfl rfl rfl
            (fun j hj => upd_ne _ _ hj) (fun j hj => ⟨rfl, rfl⟩) (fun b hb hno => ⟨rfl, upd_ne _ _ fun e => hno (by rw [hob, e])⟩)
            (fun b hb => by rw [hob] at hb; cases hb; rw [k3]; exact ⟨Nat.zero_le _, fun j hj => absurd hj (by omega)⟩)
            (fun b hb => by show upd g.I (g.κ i) _ b = 0; rw [upd_ne _ _ (by omega)]; exact hr.hr.fresh b hb)
            ⟨(fun cs e => by rw [hH] at e; cases e), (fun e' es' he => by
              rw [hH] at he
              rcases he with he | he <;> cases he
              exact ⟨⟨es0, .inr (upd_self _ _ _), rfl⟩, rfl⟩), (fun esz n v ht => by simp [TokR, hH] at ht)⟩
            (fun b hb => by unfold ownBlk at hb; rw [upd_self] at hb; cases hb)
            (fun hk hl => by
              unfold ObjOk
              rw [upd_self]
              exact key hk)
          refine ⟨g', Lives.rel hr q2 q3 q1 ?_, q4 _ fun _ => ⟨(fun cs e => by rw [hH] at e; cases e), (fun e => by rw [hH] at e; cases e), (fun t e n he => by rw [hH] at he; cases he)⟩, rfl⟩
          rw [h3, ← h2]
          exact key q2
        · cases h
      · rename_i e' es hH
        split at h
        · rename_i he
          subst he
          cases h
          have hes : es0 = es := by
            rcases h1 with h1 | h1 <;> rw [hH] at h1 <;> cases h1
            rfl
          subst hes
          refine ⟨g, Lives.rel (H' := σ.H) hr (.refl _ _) (.refl _ _) hr.hr ?_, .refl _ _ _ _, rfl⟩
          rw [h3, ← h2]
          exact hr.hr.frz i e es0 hH
        · cases h
      · cases h
    · cases h
  | own d s ty esz =>
    have htd := hr.tm d
    simp only [evG] at h
    split at h
    · rename_i e hT hH
      split at h
      · rename_i he
        cases h
        rw [hT] at htd
        obtain ⟨q1, q2, q3, q4, _⟩ := own_obj hr.hr hH ty esz he
        refine ⟨_, Lives.rel hr q2 q3 q1 ?_, q4 _, rfl⟩
        rw [htd.2]
        exact R_of_RC own_val
      · cases h
    · cases h
  | ownc d off s ty esz =>
    have htd := hr.tm d
    simp only [evG] at h
    split at h
    · rename_i i o hT hS
      split at h
      · rename_i cs hH
        split at h
        · rename_i e hcs
          split at h
          · rename_i he
            cases h
            obtain ⟨q1, q2, q3, q4, _⟩ := own_obj hr.hr hS ty esz he
            have hne : i ≠ s := fun e => by subst e; rw [hH] at hS; cases hS
            have hH1 : upd σ.H s (.tok ty esz 0) i = .cells cs := by rw [upd_ne _ _ hne]; exact hH
            obtain ⟨vs, tyv, k1, k2, k3⟩ := q1.cells i cs hH1
            have hob : ownBlk { g with τ := upd g.τ s (.slice none 0 0) } (upd σ.H s (.tok ty esz 0)) i = some (g.κ i) := by unfold ownBlk; rw [hH1]
            obtain ⟨hlt, hge⟩ := List.getElem?_eq_some_iff.1 hcs
            obtain ⟨p1, p2, p3, p4⟩ := obj_upd (g' := { g with τ := upd g.τ s (.slice none 0 0) }) (w' := w) (H' := upd (upd σ.H s (.tok ty esz 0)) i (.cells (cs.set (o + off) (.sl (.tok s) esz [])))) i q1 (Nat.le_refl _) rfl rfl rfl
              (fun j hj => upd_ne _ _ hj) (fun j hj => ⟨rfl, rfl⟩) (fun b hb hno => ⟨rfl, rfl⟩)
              (fun b hb => ⟨Nat.le_refl _, fun j hj => rfl⟩) q1.fresh
              ⟨(fun cs' e => ⟨⟨_, upd_self _ _ _⟩, rfl⟩), (fun e' es' he => by rw [hH1] at he; rcases he with he | he <;> cases he), (fun esz n v ht => by simp [TokR, hH1] at ht)⟩
              (fun b hb => by
                unfold ownBlk at hb; rw [upd_self] at hb
                exact .inl (by rw [hob]; exact hb))
              (fun hk hl => by
                unfold ObjOk
                rw [upd_self]
                refine ⟨vs, tyv, k1, ?_, k3⟩
                have k2' := k2.mono fun a b _ h => RC.mono hk hl h
                refine All2.of_get (by simpa using k2.length) fun j h1 h2 => ?_
                rw [List.getElem_set]
                split
                · rename_i hj
                  subst hj
                  have h5 := k2.get (o + off) hlt h2
                  rw [hge] at h5
                  rw [h5.2]
                  exact RC.mono hk hl own_val
                · exact k2'.get j (by simpa using h1) h2)
            refine ⟨_, ⟨hr.defers, hr.size, fun e => R.mono (q2.trans p2) ⟨?_, ?_, ?_⟩ (hr.tm e), p1⟩, (q4 _).trans (p4 _ fun hm => ⟨fun cs' e => ⟨⟨_, upd_self _ _ _⟩, rfl⟩, (fun e => by rw [hH1] at e; cases e), (fun t e n he => by rw [hH1] at he; cases he)⟩), rfl⟩
            · intro i' cs' h
              obtain ⟨⟨c2, h2⟩, h3⟩ := q3.cells i' cs' h
              obtain ⟨h4, h5⟩ := p3.cells i' c2 h2
              exact ⟨h4, h5.trans h3⟩
            · intro i' e' es' h
              obtain ⟨⟨c2, h2, h6⟩, h3⟩ := q3.arr i' e' es' h
              obtain ⟨⟨c3, h4, h7⟩, h5⟩ := p3.arr i' e' c2 h2
              exact ⟨⟨c3, h4, h7.trans h6⟩, h5.trans h3⟩
            · intro i' e' n' v h
              exact p3.tok i' e' n' v (q3.tok i' e' n' v h)
          · cases h
        · cases h
      · cases h
    · cases h
  | mvc d off b =>
    simp only [evG] at h
    split at h
    · rename_i i o hT
      split at h
      · rename_i cs hH
        split at h
        · rename_i x e es hcs
          split at h
          · rename_i t1 e1 n1 t2 e2 n2 hx hy
            split at h
            · rename_i hc
              obtain ⟨rfl, rfl, hlt, hne⟩ := hc
              cases h
              obtain ⟨q1, q2, q3, q4⟩ := mv_obj hr.hr hx hy hlt hne
              have hix : i ≠ x := fun e => by subst e; rw [hH] at hx; cases hx
              have hib : i ≠ b := fun e => by subst e; rw [hH] at hy; cases hy
              have hH1 : upd (upd σ.H x .gone) b (.tok t1 e1 n1) i = .cells cs := by rw [upd_ne _ _ hib, upd_ne _ _ hix]; exact hH
              obtain ⟨hl, hge⟩ := List.getElem?_eq_some_iff.1 hcs
              obtain ⟨vs, ty, k1, k2, k3⟩ := hr.hr.cells i cs hH
              obtain ⟨p1, p3, p4⟩ := cell_obj (j := o + off) (q := .sl (.tok b) e es) q1 hH1 hl (fun vs' ty' v h5 h6 => by
                have h5' : w.heap[g.κ i]? = some (.cells vs' ty' (0, 0)) := h5
                rw [k1] at h5'
                cases h5'
                obtain ⟨hl2, h6⟩ := Array.getElem?_eq_some_iff.1 h6
                have hv := k2.get (o + off) hl (by simpa using hl2)
                rw [hge] at hv
                have hv2 : RC g w σ.H (.sl (.tok x) e es) v := by rw [← h6]; simpa using hv
                refine ⟨hv2.1, ?_⟩
                have h8 := hv2.2
                unfold TokR at h8 ⊢
                rw [hx] at h8
                rw [upd_ne _ _ (Ne.symm hib), upd_self]
                simp only [upd_self]
                exact h8)
              exact ⟨_, ⟨hr.defers, hr.size, fun e => R.mono q2 (q3.trans p3) (hr.tm e), p1⟩, (q4 _).trans (p4 _), rfl⟩
            · cases h
          · cases h
        · cases h
      · cases h
    · cases h
end Go.Px
/- Code in the small language against the program's code. -/
set_option linter.unusedVariables false
set_option linter.unusedSimpArgs false
namespace Go.Px
open Go

def isGh : MC → Bool
  | .gh _ => true
  | _ => false
def opsOk (P : Program) (N : Nat) (ops : Array Oper) : List Oper → List MOp → Bool
  | [], [] => true
  | o :: r, m :: s => opOk P N ops o m && opsOk P N ops r s
  | _, _ => false
def permOk (n : Nat) (ord : List Nat) : Bool := ord.length == n && (List.range n).all (fun i => memb i ord) && ord.all fun i => decide (i < n)
def drawOk (P : Program) (N : Nat) (ops : Array Oper) (ord : List Nat) (l : List MOp) : Bool :=
  P.follows .mixedOrders && permOk ops.size ord && ord.length == l.length &&
    ((ord.zip l).all fun x => match ops[x.1]? with | some o => opOk P N ops o x.2 | none => false) && drawGo ops [] [] (ord.zip l)
def codeOk (P : Program) (N : Nat) : MC → Code → Bool
  | .sk, k => match k with | .skip => true | _ => false
  | .ops l, k => match k with | .region _ ops false => opsOk P N ops ops.toList l | _ => false
  | .opsO ord l, k => match k with | .region _ ops true => drawOk P N ops ord l | _ => false
  | .sq a b, k => (isGh a && codeOk P N b k) || (isGh b && codeOk P N a k) || (match k with | .seq c d => codeOk P N a c && codeOk P N b d | _ => false)
  | .ite x a b, k => match k with | .cond o c d => opdOk o x && codeOk P N a c && codeOk P N b d | _ => false
  | .blk id a, k => match k with | .block id' c => id == id' && codeOk P N a c | _ => false
  | .lp _ _ a, k => match k with | .loop c => codeOk P N a c | _ => false
  | .ex id, k => match k with | .exit id' => id == id' | _ => false
  | .rt, k => match k with | .ret => true | _ => false
  | .gh _, _ => false

theorem opsOk_all2 {P : Program} {N : Nat} {ops : Array Oper} : ∀ (l : List Oper) (ms : List MOp) (s : Nat), opsOk P N ops l ms = true → (∀ i (h : i < l.length), ops[s + i]? = some l[i]) →
    All2 (fun i m => ∃ o, ops[i]? = some o ∧ opOk P N ops o m = true) (List.range' s l.length) ms
  | [], [], s, _, _ => .nil
  | o :: r, m :: t, s, h, hi => by
    simp only [opsOk, Bool.and_eq_true] at h
    rw [List.length_cons, List.range'_succ]
    exact .cons ⟨o, by have h0 := hi 0 (Nat.succ_pos _); rw [Nat.add_zero] at h0; exact h0, h.1⟩ (opsOk_all2 r t (s + 1) h.2 fun i hl => by
      have := hi (i + 1) (by simpa using hl)
      rw [show s + 1 + i = s + (i + 1) by omega, this]
      simp)
  | [], _ :: _, _, h, _ => by cases h
  | _ :: _, [], _, h, _ => by cases h

def toExit : Ex → Exit
  | .nrm => .normal
  | .ex id => .exit id
  | .rt => .ret

/-- Only a tally of drawings changes. -/
theorem Rel.drawn {N : Nat} {σ : St} {a : Act} {w : World} {g : Gh} (hr : Rel N σ a w g) (n : Nat) : Rel N σ a { w with drawn := n } g ∧ ∀ m, Stp m w g σ.H { w with drawn := n } g σ.H := by
  have hk : Keeps w g.I { w with drawn := n } g.I := ⟨fun b j _ => rfl, fun b => Nat.le_refl _⟩
  have hl := Lives.refl g σ.H
  refine ⟨⟨hr.defers, hr.size, fun d => R.mono hk hl (hr.tm d), ?_⟩, fun m => ⟨rfl, rfl, rfl, Nat.le_refl _, hk, fun _ _ _ => ⟨rfl, rfl⟩, fun i b h => .inl ⟨i, h⟩, fun i _ => .refl g σ.H i⟩⟩
  refine ⟨fun i cs e => ?_, fun i e es he => ?_, fun i e es he => ?_, fun i t e n he => ?_, hr.hr.apart, hr.hr.fresh⟩
  · obtain ⟨vs, ty, h1, h2, h3⟩ := hr.hr.cells i cs e
    exact ⟨vs, ty, h1, h2.mono fun p v _ h => RC.mono hk hl h, h3⟩
  · obtain ⟨vs, ty, h1, h2, h3⟩ := hr.hr.arr i e es he
    exact ⟨vs, ty, h1, RIsl_arr hk h2, h3⟩
  · exact (hr.hr.frz i e es he).mono hk
  · exact hr.hr.tok i t e n he

def EndQ (N : Nat) (Q : Exit → Act → World → Prop) (σ : St) (w : World) (g : Gh) (e : Ex) (σ' : St) : Prop :=
  ∀ a' w' g', Rel N σ' a' w' g' → Stp σ.m w g σ.H w' g' σ'.H → σ'.m = σ.m → Q (toExit e) a' w'

theorem EndQ.step {N : Nat} {Q : Exit → Act → World → Prop} {σ σ1 : St} {w w1 : World} {g g1 : Gh} {e : Ex} {σ' : St} (h : EndQ N Q σ w g e σ') (hs : Stp σ.m w g σ.H w1 g1 σ1.H) (hm : σ1.m = σ.m) : EndQ N Q σ1 w1 g1 e σ' :=
  fun a' w' g' hr hs' hm' => h a' w' g' hr (hs.trans (by rw [← hm]; exact hs')) (hm'.trans hm)

theorem code_sound {P : Program} {N : Nat} {C : CallF} (hC : CSound P C) (fuel : Nat) : ∀ (c : MC) (k : Code) (σ : St) (e : Ex) (σ' : St) (a : Act) (w : World) (g : Gh) (Q : Exit → Act → World → Prop), codeOk P N c k = true →
    evC C fuel c σ = some (e, σ') → Rel N σ a w g → EndQ N Q σ w g e σ' → k.wp P Q a w := by
  intro c
  induction c with
  | sk =>
    intro k σ e σ' a w g Q h he hr hQ
    cases k <;> simp only [codeOk] at h <;> first | (cases h; done) | skip
    simp only [evC] at he
    cases he
    exact wp_skip (hQ a w g hr (.refl _ _ _ _) rfl)
  | ops l =>
    intro k σ e σ' a w g Q h he hr hQ
    cases k <;> simp only [codeOk] at h <;> first | (cases h; done) | skip
    rename_i id ops draw
    cases draw <;> simp only at h
    · simp only [evC, Option.map_eq_some_iff] at he
      obtain ⟨σ1, he, h1⟩ := he
      cases h1
      refine wp_region ?_
      have := opsOk_all2 ops.toList l 0 h fun i hi => by simp
      rw [Array.length_toList, ← List.range_eq_range'] at this
      exact ops_sound hC _ l σ σ' a w g this he hr hQ
    · cases h
  | opsO ord l =>
    intro k σ e σ' a w g Q h he hr hQ
    cases k <;> simp only [codeOk] at h <;> first | (cases h; done) | skip
    rename_i id ops draw
    cases draw <;> simp only at h
    · cases h
    · simp only [evC, Option.map_eq_some_iff] at he
      obtain ⟨σ1, he, h1⟩ := he
      cases h1
      simp only [drawOk, permOk, Bool.and_eq_true, beq_iff_eq, List.all_eq_true, decide_eq_true_eq] at h
      obtain ⟨⟨⟨⟨hm, ⟨⟨h1, h2⟩, h3⟩⟩, h4⟩, h5⟩, h6⟩ := h
      refine wp_region_any hm ?_
      obtain ⟨hr', hs'⟩ := hr.drawn (w.drawn + 1)
      have hmem : ∀ i, i < ops.size ↔ i ∈ ord := by
        intro i
        constructor
        · intro hi
          exact memb_iff.1 (h2 i (List.mem_range.2 hi))
        · exact h3 i
      have hzip : ∀ i, i ∈ ord ↔ ∃ m, (i, m) ∈ ord.zip l := by
        intro i
        constructor
        · intro hi
          obtain ⟨j, hj, rfl⟩ := List.getElem_of_mem hi
          exact ⟨l[j]'(by omega), List.mem_iff_getElem.2 ⟨j, by simp; omega, by simp⟩⟩
        · rintro ⟨m, hm⟩
          exact (List.of_mem_zip hm).1
      obtain ⟨g1, g2⟩ := drawGo_ok (ops := ops) (ord.zip l) [] [] (by intro i j hj; simp [lookN] at hj) h6 .nil (by simp)
      rw [List.nil_append] at g1 g2
      refine draw_sound hC ops.size (ord.zip l) _ σ σ' a _ g (by simp; omega) (by simp) (fun i => ?_) (fun i hi hl => ?_) g1 (fun x hx => ⟨g2 x hx, ?_⟩) ?_ hr' ?_
      · rw [← hzip i, ← hmem i]
        simp [Array.getD_eq_getD_getElem?, Array.getElem?_replicate]
        by_cases h : i < ops.size <;> simp [h]
      · simp [Array.getD_eq_getD_getElem?, Array.getElem?_replicate, hi] at hl
      · have := h5 x hx
        split at this
        · rename_i o ho; exact ⟨o, ho, this⟩
        · cases this
      · rw [List.map_snd_zip (by omega)]
        exact he
      · intro a' w' g' hr2 hs2 hm2
        exact hQ a' w' g' hr2 ((hs' _).trans hs2) hm2
  | sq x y ihx ihy =>
    intro k σ e σ' a w g Q h he hr hQ
    simp only [codeOk, Bool.or_eq_true, Bool.and_eq_true] at h
    simp only [evC] at he
    rcases h with (⟨h1, h2⟩ | ⟨h1, h2⟩) | h
    · cases x <;> simp only [isGh] at h1 <;> try cases h1
      rename_i o
      simp only [evC] at he
      cases hg : evG o σ with
      | none => rw [hg] at he; cases he
      | some σ1 =>
        rw [hg] at he
        obtain ⟨g1, hr1, hs1, hm1⟩ := evG_sound hr hg
        exact ihy k σ1 e σ' a w g1 Q h2 he hr1 (hQ.step hs1 hm1)
    · cases y <;> simp only [isGh] at h1 <;> try cases h1
      rename_i o
      split at he
      · rename_i σ1 h3
        simp only [evC, Option.map_eq_some_iff] at he
        obtain ⟨σ2, he, h4⟩ := he
        cases h4
        refine ihx k σ .nrm σ1 a w g Q h2 h3 hr fun a1 w1 g1 hr1 hs1 hm1 => ?_
        obtain ⟨g2, hr2, hs2, hm2⟩ := evG_sound hr1 he
        exact hQ a1 w1 g2 hr2 (hs1.trans (by rw [← hm1]; exact hs2)) (hm2.trans hm1)
      · rename_i hnn
        refine ihx k σ e σ' a w g Q h2 he hr hQ
    · cases k <;> simp only at h <;> first | (cases h; done) | skip
      rename_i c d
      rw [Bool.and_eq_true] at h
      obtain ⟨h1, h2⟩ := h
      refine wp_seq ?_
      split at he
      · rename_i σ1 h3
        refine ihx c σ .nrm σ1 a w g _ h1 h3 hr fun a1 w1 g1 hr1 hs1 hm1 => ?_
        exact ihy d σ1 e σ' a1 w1 g1 Q h2 he hr1 (hQ.step hs1 hm1)
      · rename_i hnn
        refine ihx c σ e σ' a w g _ h1 he hr fun a1 w1 g1 hr1 hs1 hm1 => ?_
        have := hQ a1 w1 g1 hr1 hs1 hm1
        cases e with
        | nrm => exact absurd he (hnn _)
        | ex id => exact this
        | rt => exact this
  | ite x y z ihy ihz =>
    intro k σ e σ' a w g Q h he hr hQ
    cases k <;> simp only [codeOk] at h <;> first | (cases h; done) | skip
    rename_i o c d
    simp only [Bool.and_eq_true] at h
    simp only [evC] at he
    have hx := opd_R hr h.1.1
    split at he
    · rename_i t ht
      rw [ht] at hx
      refine wp_cond hx ?_
      cases t with
      | true => exact ihy c σ e σ' a w g Q h.1.2 he hr hQ
      | false => exact ihz d σ e σ' a w g Q h.2 he hr hQ
    · cases he
  | blk id y ih =>
    intro k σ e σ' a w g Q h he hr hQ
    cases k <;> simp only [codeOk] at h <;> first | (cases h; done) | skip
    rename_i id' c
    simp only [Bool.and_eq_true, beq_iff_eq] at h
    obtain ⟨rfl, h⟩ := h
    simp only [evC] at he
    refine wp_block ?_
    split at he
    · rename_i j σ1 h1
      refine ih c σ _ σ1 a w g _ h h1 hr fun a1 w1 g1 hr1 hs1 hm1 => ?_
      simp only [toExit, Exit.inBlock]
      split at he <;> cases he
      · rename_i e; rw [if_pos e]; exact hQ a1 w1 g1 hr1 hs1 hm1
      · rename_i e; rw [if_neg e]; exact hQ a1 w1 g1 hr1 hs1 hm1
    · rename_i hnn
      refine ih c σ e σ' a w g _ h he hr fun a1 w1 g1 hr1 hs1 hm1 => ?_
      have := hQ a1 w1 g1 hr1 hs1 hm1
      cases e with
      | nrm => exact this
      | ex id => exact absurd he (hnn _ _)
      | rt => exact this
  | lp live hl y ih =>
    intro k σ e σ' a w g Q h he hr hQ
    cases k <;> simp only [codeOk] at h <;> first | (cases h; done) | skip
    rename_i c
    simp only [evC] at he
    refine wp_loop_rounds fuel ?_
    have key : ∀ n σ a w g, evLoop (fun σ => match restrict live hl σ with | some σ' => evC C fuel y σ' | none => none) n σ = some (e, σ') → Rel N σ a w g → EndQ N Q σ w g e σ' → Code.rounds P c Q n a w := by
      intro n
      induction n with
      | zero => intro σ a w g h1; simp [evLoop] at h1
      | succ n ihn =>
        intro σ a w g h1 hr hQ
        simp only [evLoop] at h1
        rw [rounds_succ]
        cases h2 : restrict live hl σ with
        | none => rw [h2] at h1; cases h1
        | some σ0 =>
          rw [h2] at h1
          simp only at h1
          obtain ⟨hr0, hs0, hm0⟩ := restrict_sound hr h2
          have hQ0 := hQ.step hs0 hm0
          split at h1
          · rename_i σ1 h3
            refine ih c σ0 .nrm σ1 a w g _ h h3 hr0 fun a1 w1 g1 hr1 hs1 hm1 => ?_
            exact ihn σ1 a1 w1 g1 h1 hr1 (hQ0.step hs1 hm1)
          · rename_i hnn
            refine ih c σ0 e σ' a w g _ h h1 hr0 fun a1 w1 g1 hr1 hs1 hm1 => ?_
            have := hQ0 a1 w1 g1 hr1 hs1 hm1
            cases e with
            | nrm => exact absurd h1 (hnn _)
            | ex id => exact this
            | rt => exact this
    exact key fuel σ a w g he hr hQ
  | ex id =>
    intro k σ e σ' a w g Q h he hr hQ
    cases k <;> simp only [codeOk] at h <;> first | (cases h; done) | skip
    simp only [beq_iff_eq] at h
    subst h
    simp only [evC] at he
    cases he
    exact wp_exit (hQ a w g hr (.refl _ _ _ _) rfl)
  | rt =>
    intro k σ e σ' a w g Q h he hr hQ
    cases k <;> simp [codeOk] at h
    simp only [evC] at he
    cases he
    exact wp_ret (hQ a w g hr (.refl _ _ _ _) rfl)
  | gh o =>
    intro k σ e σ' a w g Q h
    simp [codeOk] at h
end Go.Px
/- Functions: what one answers in the small language, it answers in the program. -/
set_option linter.unusedVariables false
set_option linter.unusedSimpArgs false
namespace Go.Px
open Go

def rvOk (P : Program) : ResultVar → RV → Bool
  | .tmp t, .t d => t == d
  | .cell a t, .cell d n ag => a == d && szOk P t n && aggT P t == some ag && (ag || n == 1)
  | _, _ => false
def rvsOk (P : Program) : List ResultVar → List RV → Bool
  | [], [] => true
  | x :: r, y :: s => rvOk P x y && rvsOk P r s
  | _, _ => false
def funOk (P : Program) (f : Nat) (mf : MFun) : Bool :=
  match P.funcs[f]? with
  | some fn => (match fn.body with | some c => codeOk P fn.ntmps mf.code c | none => false) && rvsOk P fn.results.toList mf.res && decide (mf.np ≤ fn.ntmps) && !(fn.name == "runtime.NumGoroutine")
  | none => false

def resOne (tmps : Array Value) : ResultVar → Sem Value
  | .tmp t => pure (tmps.getD t undef)
  | .cell a t => do loadVar t (← asAddr (tmps.getD a undef))
theorem results_eq (fn : Func) (tmps : Array Value) : results fn tmps = (do let vs ← fn.results.mapM (resOne tmps); pure (if h : vs.size = 1 then vs[0] else .tuple vs)) := rfl

section
variable {P : Program} {N : Nat} {σ : St} {a : Act} {w : World} {g : Gh}
theorem rvs_sound (hr : Rel N σ a w g) : ∀ {l : List ResultVar} {r : List RV} {ps : List PV}, rvsOk P l r = true → evRes σ r = some ps →
    ∃ vs : List Value, (l.mapM (resOne a.tmps)).run P w = .ok vs w ∧ All2 (R g w σ.H) ps vs
  | [], [], ps, _, h => by
    simp only [evRes] at h
    cases h
    exact ⟨[], by simp only [List.mapM_nil, Sem.run_pure], .nil⟩
  | x :: l, y :: r, ps, h, he => by
    simp only [rvsOk, Bool.and_eq_true] at h
    cases y with
    | t d =>
      cases x <;> simp only [rvOk] at h
      · simp only [evRes, Option.map_eq_some_iff] at he
        obtain ⟨qs, h1, rfl⟩ := he
        obtain ⟨vs, h2, h3⟩ := rvs_sound hr h.2 h1
        have := h.1
        simp only [beq_iff_eq] at this
        subst this
        refine ⟨_ :: vs, ?_, .cons (hr.tm _) h3⟩
        simp only [List.mapM_cons, Sem.run_bind, resOne, Sem.run_pure, Result.andThen_ok, h2]
      · simp at h
    | cell d n ag =>
      cases x <;> simp only [rvOk] at h
      · simp at h
      · rename_i ad t
        simp only [Bool.and_eq_true, beq_iff_eq, Bool.or_eq_true] at h
        obtain ⟨⟨⟨⟨rfl, h1⟩, h2⟩, h3⟩, h4⟩ := h
        simp only [evRes] at he
        split at he
        · rename_i v s h5 h6
          cases he
          obtain ⟨vs, h7, h8⟩ := rvs_sound hr h4 h6
          obtain ⟨ad', us, e1, e2, e3, e4, e5⟩ := ldV_R hr.hr h5 (hr.tm ad) h3
          refine ⟨_ :: vs, ?_, .cons e5 h8⟩
          have := run_loadVar_cells h2 (szOk_eq h1) e2 e3 h3 e4
          have h9 : (resOne a.tmps (.cell ad t)).run P w = .ok (if ag = true then Value.agg us.toArray else us.headD undef) w := by
            simp only [resOne, Sem.run_bind, e1, asAddr, Sem.run_pure, Result.andThen_ok]
            exact this
          simp only [List.mapM_cons, Sem.run_bind, h9, Sem.run_pure, Result.andThen_ok, h7]
        · cases he
  | [], _ :: _, _, h, _ => by simp [rvsOk] at h
  | _ :: _, [], _, h, _ => by simp [rvsOk] at h

theorem resV_R {ps : List PV} {vs : List Value} (h : All2 (R g w σ.H) ps vs) (ht : (∀ p, ps ≠ [p]) → ∀ p ∈ ps, ∀ l, p ≠ .tup l) : R g w σ.H (resV ps) (if h : vs.toArray.size = 1 then vs.toArray[0] else .tuple vs.toArray) := by
  have gen : ∀ (hn : ¬ vs.toArray.size = 1), R g w σ.H (.tup ps) (if h : vs.toArray.size = 1 then vs.toArray[0] else .tuple vs.toArray) := fun hn => by
    rw [dif_neg hn]
    exact ⟨_, rfl, h.mono fun p v hp hv => R1_of_R hv (ht (fun q e => hn (by subst e; have := h.length; simpa using this.symm)) p hp)⟩
  cases h with
  | nil => exact gen (by simp)
  | cons h1 h2 => cases h2 with
    | nil => exact h1
    | cons h3 h4 => exact gen (by simp)
end

theorem reach_prefix {H : Nat → Obj} : ∀ (k : Nat) (todo found r : List Nat), reach H k todo found = some r → found <+: r
  | 0, _, _, _, h => by simp [reach] at h
  | k + 1, [], found, r, h => by simp only [reach] at h; cases h; exact List.prefix_refl _
  | k + 1, i :: rest, found, r, h => by
    simp only [reach] at h
    split at h
    · exact reach_prefix k _ _ _ h
    · have hp : found <+: found ++ [i] := List.prefix_append _ _
      split at h
      · exact hp.trans (reach_prefix k _ _ _ h)
      · exact hp.trans (reach_prefix k _ _ _ h)
      · exact hp.trans (reach_prefix k _ _ _ h)
      · cases h

theorem mapO_mem_ne {α β : Type} {f : α → Option β} : ∀ {l : List α} {m : List β}, mapO f l = some m → ∀ {p : α}, p ∈ l → f p ≠ none
  | [], _, _, p, hp => by cases hp
  | a :: r, m, h, p, hp => by
    simp only [mapO] at h
    split at h
    · rename_i b s h1 h2
      rcases List.mem_cons.1 hp with e | hp
      · subst e; rw [h1]; simp
      · exact mapO_mem_ne h2 hp
    · cases h

theorem leave_sound {m : Nat} {σ : St} {w0 w : World} {g0 g : Gh} {H0 : Nat → Obj} {r r' : PV} {v : Value} {objs : List Obj} (hr : HR g w σ.H) (hv : R g w σ.H r v) (hs : Stp m w0 g0 H0 w g σ.H) (h : leave m σ r = some (r', objs)) :
    ∃ g', HR g' w (objAt objs) ∧ R g' w (objAt objs) r' v ∧ Stp m w0 g0 H0 w g' (objAt objs) := by
  unfold leave at h
  split at h
  · cases h
  · rename_i found hf
    split at h
    · rename_i v' objs' h1 h2
      split at h
      · rename_i hn
        cases h
        refine ⟨calleeGh g found, callee_HR hr hn h2, ren_R (g := g) (H := σ.H) (by rfl) (fun i j h => moves_in h2 h) h1 hv, ?_⟩
        obtain ⟨hlen, hget⟩ := packH_get h2
        refine ⟨hs.os, hs.tape, hs.output, hs.size, hs.keeps, hs.block, fun i b hb => ?_, fun i hi => ?_⟩
        · have hne : objAt objs i ≠ .free := fun e => by unfold ownBlk at hb; rw [e] at hb; cases hb
          have hi := objAt_ne hne
          rw [ownBlk_in h2 (by omega)] at hb
          exact hs.own _ b hb
        · have hp := reach_prefix _ _ _ _ hf
          have hlt : i < found.length := by have := hp.length_le; simp at this; omega
          have hfi : found[i] = i := by
            have := hp.getElem (by simpa using hi)
            simpa using this.symm
          have hio : i < objs.length := by omega
          have h4 := hget i hlt hio
          rw [hfi] at h4
          have hk : (calleeGh g found).κ i = g.κ i ∧ (calleeGh g found).τ i = g.τ i := by simp only [calleeGh, getD_lt hlt, hfi, and_self]
          refine (hs.pers i hi).trans ⟨fun cs e => ?_, fun e => ?_, fun t e n he => ?_⟩
          · rw [e] at h4
            simp only [renO, Option.map_eq_some_iff] at h4
            obtain ⟨cs', _, h5⟩ := h4
            exact ⟨⟨cs', by rw [objAt_lt hio, ← h5]⟩, hk.1⟩
          · rw [e] at h4
            simp only [renO, Option.some.injEq] at h4
            rw [objAt_lt hio, ← h4]
          · rw [he] at h4
            simp only [renO, Option.some.injEq] at h4
            refine .inr ⟨n, ?_, Nat.le_refl _, fun _ => hk.2⟩
            rw [objAt_lt hio, ← h4]
      · cases h
    · cases h

theorem stripR_R {g : Gh} {w : World} {H : Nat → Obj} {p : PV} {v : Value} (own : Bool) (h : R g w H p v) : R g w H (stripR own p) v := by
  unfold stripR
  split
  · rename_i vs
    obtain ⟨us, h1, h2⟩ := h
    refine ⟨us, h1, h2.map_left fun p u hp => ?_⟩
    by_cases ht : ∃ l, p = .tup l
    · obtain ⟨l, rfl⟩ := ht; exact hp.elim
    · have hq := strip_R own (R_of_R1 hp)
      refine R1_of_R hq fun l e => ht ?_
      unfold strip at e
      split at e
      · exact ⟨l, e⟩
      · cases p <;> simp only [strip0] at e <;> cases e
        exact ⟨_, rfl⟩
  · exact strip_R own h
theorem runF_sound {P : Program} {C : CallF} (hC : CSound P C) {f : Nat} {mf : MFun} (hf : funOk P f mf = true) {fuel : Nat} {args : List PV} {objs : List Obj} {res : PV} {objs' : List Obj} (h : runF C fuel mf args objs = some (res, objs')) : FnOk P f ∧ Snd P f args objs res objs' := by
  unfold funOk at hf
  split at hf
  · rename_i fn hfn
    simp only [Bool.and_eq_true, decide_eq_true_eq, Bool.not_eq_true', beq_eq_false_iff_ne] at hf
    obtain ⟨⟨⟨h1, h2⟩, h3⟩, h4⟩ := hf
    split at h1
    · rename_i c hc
      refine ⟨⟨fn, hfn, by rw [hc]; rfl, h4⟩, fun w g vs hh hargs => ?_⟩
      refine calls_of_wp hfn hc ?_
      unfold runF at h
      split at h
      · rename_i hlen
        have hsz : vs.size = mf.np := by have := hargs.length; simp at this; omega
        have hr : Rel fn.ntmps (enter args objs) { tmps := vs ++ Array.replicate (fn.ntmps - vs.size) undef, defers := [] } w g := by
          refine ⟨rfl, by simp; omega, fun d => ?_, hh⟩
          show R g w (objAt objs) (args.getD d .und) _
          by_cases hd : d < args.length
          · have hd2 : d < vs.size := by omega
            have := hargs.get d hd (by simpa using hd2)
            have e1 : (vs ++ Array.replicate (fn.ntmps - vs.size) undef).getD d undef = vs[d] := by
              simp [Array.getD_eq_getD_getElem?, Array.getElem?_append_left hd2, hd2]
            have e2 : args.getD d .und = args[d] := by simp [hd]
            rw [e1, e2]
            simpa using this
          · have e2 : args.getD d .und = .und := by rw [List.getD_eq_getElem?_getD, List.getElem?_eq_none (Nat.le_of_not_lt hd)]; rfl
            rw [e2]
            have e1 : (vs ++ Array.replicate (fn.ntmps - vs.size) undef).getD d undef = undef := by
              rw [Array.getD_eq_getD_getElem?, Array.getElem?_append_right (by omega)]
              simp [Array.getElem?_replicate]
              split <;> rfl
            exact e1
        have fin : ∀ (e : Ex) (σ' : St), (e = .nrm ∨ e = .rt) → evC C fuel mf.code (enter args objs) = some (e, σ') → (match evRes σ' mf.res with | some vs => leave objs.length σ' (stripR mf.own (resV vs)) | none => none) = some (res, objs') →
            c.wp P (bodyPost P fn fun e w' => ∃ v g', e = .returned v ∧ HR g' w' (objAt objs') ∧ R g' w' (objAt objs') res v ∧ Stp objs.length w g (objAt objs) w' g' (objAt objs')) { tmps := vs ++ Array.replicate (fn.ntmps - vs.size) undef, defers := [] } w := by
          intro e σ' he hev hl
          refine code_sound hC fuel mf.code c (enter args objs) e σ' _ w g _ h1 hev hr fun a' w' g' hr' hs' hm' => ?_
          split at hl
          · rename_i ps hps
            obtain ⟨us, h5, h6⟩ := rvs_sound (P := P) hr' h2 hps
            have ht : (∀ p, ps ≠ [p]) → ∀ p ∈ ps, ∀ l, p ≠ .tup l := by
              intro hne p hp l e
              subst e
              have e1 : resV ps = .tup ps := by
                match ps, hne with
                | [], _ => rfl
                | [q], hne => exact absurd rfl (hne q)
                | _ :: _ :: _, _ => rfl
              rw [e1] at hl
              unfold leave at hl
              split at hl
              · cases hl
              · split at hl
                · rename_i h7 _
                  simp only [stripR, ren, Option.map_eq_some_iff] at h7
                  obtain ⟨qs, h7, _⟩ := h7
                  refine mapO_mem_ne h7 (List.mem_map.2 ⟨_, hp, rfl⟩) ?_
                  cases mf.own <;> rfl
                · cases hl
            obtain ⟨g2, k1, k2, k3⟩ := leave_sound hr'.hr (stripR_R mf.own (resV_R h6 ht)) hs' hl
            have : bodyPost P fn (fun e w' => ∃ v g', e = .returned v ∧ HR g' w' (objAt objs') ∧ R g' w' (objAt objs') res v ∧ Stp objs.length w g (objAt objs) w' g' (objAt objs')) .ret a' w' := by
              refine ⟨hr'.defers, _, ?_, ⟨_, g2, rfl, k1, k2, k3⟩⟩
              rw [results_eq, Array.mapM_eq_mapM_toList]
              simp only [Sem.run_bind, map_eq_pure_bind, h5, Result.andThen_ok, Sem.run_pure]
            rcases he with rfl | rfl
            · exact this
            · exact this
          · cases hl
        split at h
        · rename_i σ' hev; exact fin _ _ (.inl rfl) hev h
        · rename_i σ' hev; exact fin _ _ (.inr rfl) hev h
        · cases h
      · cases h
    · cases h1
  · cases hf
end Go.Px
/- The whole program's answers: sound; and their equations, whatever the rounds. -/
set_option linter.unusedVariables false
set_option linter.unusedSimpArgs false
namespace Go.Px
open Go

structure SysOk (P : Program) (S : Sys) : Prop where
  prim : CSound P S.prim
  prog : ∀ f mf, S.prog f = some mf → funOk P f mf = true

theorem callN_sound {P : Program} {S : Sys} (h : SysOk P S) : ∀ n, CSound P (callN S n)
  | 0 => fun f args objs res objs' h => by simp [callN] at h
  | n + 1 => fun f args objs res objs' he => by
    simp only [callN] at he
    split at he
    · rename_i r hp
      cases he
      exact h.prim _ _ _ _ _ hp
    · split at he
      · rename_i mf hm
        exact runF_sound (callN_sound h n) (h.prog _ _ hm) he
      · cases he
theorem call_sound {P : Program} {S : Sys} (h : SysOk P S) : CSound P (call S) := by
  intro f args objs res objs' he
  unfold call at he
  split at he
  · exact callN_sound h _ _ _ _ _ _ he
  · cases he

/-! ### more rounds, more answers -/
def CLe (C C' : CallF) : Prop := ∀ f args objs r, C f args objs = some r → C' f args objs = some r

section
variable {C C' : CallF} (hC : CLe C C')
include hC
theorem evCallH_mono {H : Nat → Obj} {s f : Nat} {lend : Bool} {vs : List PV} {r : PV × (Nat → Obj)} (h : evCallH C H s lend f vs = some r) : evCallH C' H s lend f vs = some r := by
  unfold evCallH at h ⊢
  split at h
  · cases h
  · rename_i found hfound
    split at h
    · rename_i args objs ha ho
      split at h
      · cases h
      · rename_i r' objs' hc
        rw [hC _ _ _ _ hc]
        exact h
    · cases h
theorem evOp_mono : ∀ {o : MOp} {σ σ' : St}, evOp C o σ = some σ' → evOp C' o σ = some σ'
  | .p .., _, _, h => h
  | .box .., _, _, h => h
  | .alloc .., _, _, h => h
  | .bsl .., _, _, h => h
  | .st .., _, _, h => h
  | .mks .., _, _, h => h
  | .app .., _, _, h => h
  | .call d s lend f args, σ, σ', h => by
    simp only [evOp, evCall] at h ⊢
    cases f with
    | f n =>
      simp only [Option.map_eq_some_iff] at h ⊢
      obtain ⟨x, h1, h2⟩ := h
      exact ⟨x, evCallH_mono hC h1, h2⟩
    | v x =>
      simp only at h ⊢
      split at h
      · simp only [Option.map_eq_some_iff] at h ⊢
        obtain ⟨x, h1, h2⟩ := h
        exact ⟨x, evCallH_mono hC h1, h2⟩
      · cases h
  | .g j b d o, σ, σ', h => by
    simp only [evOp] at h ⊢
    split at h
    · split at h
      · rename_i hb; rw [if_pos hb]; exact evOp_mono h
      · rename_i hb; rw [if_neg hb]; exact h
    · exact h
    · cases h
  | .chk ds o, σ, σ', h => by
    obtain ⟨h1, h2⟩ := chk_ev h
    simp only [evOp, evOp_mono h1]
    rw [if_pos h2]
theorem evOps_mono : ∀ {l : List MOp} {σ σ' : St}, evOps C l σ = some σ' → evOps C' l σ = some σ'
  | [], _, _, h => h
  | o :: r, σ, σ', h => by
    simp only [evOps] at h ⊢
    split at h
    · rename_i σ1 h1
      rw [evOp_mono hC h1]
      exact evOps_mono h
    · cases h
end

theorem evLoop_mono {f f' : St → Option (Ex × St)} (hf : ∀ σ r, f σ = some r → f' σ = some r) : ∀ {n m : Nat} {σ : St} {r : Ex × St}, n ≤ m → evLoop f n σ = some r → evLoop f' m σ = some r
  | 0, _, _, _, _, h => by simp [evLoop] at h
  | n + 1, 0, _, _, h, _ => by omega
  | n + 1, m + 1, σ, r, hnm, h => by
    simp only [evLoop] at h ⊢
    split at h
    · rename_i σ' h1
      rw [hf _ _ h1]
      exact evLoop_mono hf (by omega) h
    · rename_i hnn
      rw [hf _ _ h]
      split
      · rename_i σ' h1; cases h1; exact absurd h (hnn _)
      · rfl

theorem evC_mono {C C' : CallF} (hC : CLe C C') {n m : Nat} (hnm : n ≤ m) : ∀ {c : MC} {σ : St} {r : Ex × St}, evC C n c σ = some r → evC C' m c σ = some r := by
  intro c
  induction c with
  | sk => exact fun h => h
  | ops l =>
    intro σ r h
    simp only [evC, Option.map_eq_some_iff] at h ⊢
    obtain ⟨x, h1, h2⟩ := h
    exact ⟨x, evOps_mono hC h1, h2⟩
  | opsO ord l =>
    intro σ r h
    simp only [evC, Option.map_eq_some_iff] at h ⊢
    obtain ⟨x, h1, h2⟩ := h
    exact ⟨x, evOps_mono hC h1, h2⟩
  | sq a b iha ihb =>
    intro σ r h
    simp only [evC] at h ⊢
    split at h
    · rename_i σ1 h1
      rw [iha h1]
      exact ihb h
    · rename_i hnn
      rw [iha h]
      split
      · rename_i σ1 h1; cases h1; exact absurd h (hnn _)
      · rfl
  | ite x a b iha ihb =>
    intro σ r h
    simp only [evC] at h ⊢
    split at h
    · rename_i t ht
      split at h
      · rename_i hb; rw [if_pos hb]; exact iha h
      · rename_i hb; rw [if_neg hb]; exact ihb h
    · cases h
  | blk id a ih =>
    intro σ r h
    simp only [evC] at h ⊢
    split at h
    · rename_i j σ1 h1
      rw [ih h1]
      exact h
    · rename_i hnn
      rw [ih h]
      split
      · rename_i j σ1 h1; cases h1; exact absurd h (hnn _ _)
      · rfl
  | lp live hl a ih =>
    intro σ r h
    simp only [evC] at h ⊢
    refine evLoop_mono (fun σ r h => ?_) hnm h
    split at h
    · rename_i σ1 h1; exact ih h
    · cases h
  | ex id => exact fun h => h
  | rt => exact fun h => h
  | gh o => exact fun h => h

theorem runF_mono {C C' : CallF} (hC : CLe C C') {n m : Nat} (hnm : n ≤ m) {mf : MFun} {args : List PV} {objs : List Obj} {r : PV × List Obj} (h : runF C n mf args objs = some r) : runF C' m mf args objs = some r := by
  unfold runF at h ⊢
  split at h
  · rename_i hl
    rw [if_pos hl]
    split at h
    · rename_i σ h1; rw [evC_mono hC hnm h1]; exact h
    · rename_i σ h1; rw [evC_mono hC hnm h1]; exact h
    · cases h
  · cases h

theorem callN_mono {S : Sys} : ∀ {n m : Nat}, n ≤ m → CLe (callN S n) (callN S m)
  | 0, _, _ => fun f args objs r h => by simp [callN] at h
  | n + 1, 0, h => by omega
  | n + 1, m + 1, hnm => fun f args objs r h => by
    simp only [callN] at h ⊢
    split at h
    · exact h
    · split at h
      · exact runF_mono (callN_mono (by omega)) (by omega) h
      · cases h

theorem call_some {S : Sys} {f : Nat} {args : List PV} {objs : List Obj} {r : PV × List Obj} : call S f args objs = some r ↔ ∃ n, callN S n f args objs = some r := by
  constructor
  · intro h
    unfold call at h
    split at h
    · exact ⟨_, h⟩
    · cases h
  · rintro ⟨n, h⟩
    have hx : ∃ n, (callN S n f args objs).isSome := ⟨n, by rw [h]; rfl⟩
    unfold call
    rw [dif_pos hx]
    obtain ⟨r', hr'⟩ := Option.isSome_iff_exists.1 hx.choose_spec
    have h1 := callN_mono (Nat.le_max_left n hx.choose) _ _ _ _ h
    have h2 := callN_mono (Nat.le_max_right n hx.choose) _ _ _ _ hr'
    rw [h1] at h2
    cases h2
    exact hr'
theorem callN_le {S : Sys} (n : Nat) : CLe (callN S n) (call S) := fun f args objs r h => call_some.2 ⟨n, h⟩

/-! ### what is reached is reached in some round -/
section
variable {S : Sys}
theorem evCallH_lim {H : Nat → Obj} {s f : Nat} {lend : Bool} {vs : List PV} {r : PV × (Nat → Obj)} (h : evCallH (call S) H s lend f vs = some r) : ∃ n, evCallH (callN S n) H s lend f vs = some r := by
  unfold evCallH at h
  split at h
  · cases h
  · rename_i found hfound
    split at h
    · rename_i args objs ha ho
      split at h
      · cases h
      · rename_i r' objs' hc
        obtain ⟨n, hn⟩ := call_some.1 hc
        refine ⟨n, ?_⟩
        unfold evCallH
        rw [hfound]
        simp only [ha, ho, hn]
        exact h
    · cases h
theorem evOp_lim : ∀ {o : MOp} {σ σ' : St}, evOp (call S) o σ = some σ' → ∃ n, evOp (callN S n) o σ = some σ'
  | .p .., _, _, h => ⟨0, h⟩
  | .box .., _, _, h => ⟨0, h⟩
  | .alloc .., _, _, h => ⟨0, h⟩
  | .bsl .., _, _, h => ⟨0, h⟩
  | .st .., _, _, h => ⟨0, h⟩
  | .mks .., _, _, h => ⟨0, h⟩
  | .app .., _, _, h => ⟨0, h⟩
  | .call d s lend f args, σ, σ', h => by
    simp only [evOp, evCall] at h ⊢
    cases f with
    | f n =>
      simp only [Option.map_eq_some_iff] at h ⊢
      obtain ⟨x, h1, h2⟩ := h
      obtain ⟨n, h1⟩ := evCallH_lim h1
      exact ⟨n, x, h1, h2⟩
    | v x =>
      simp only at h ⊢
      split at h
      · simp only [Option.map_eq_some_iff] at h ⊢
        obtain ⟨x, h1, h2⟩ := h
        obtain ⟨n, h1⟩ := evCallH_lim h1
        exact ⟨n, x, h1, h2⟩
      · cases h
  | .g j b d o, σ, σ', h => by
    simp only [evOp] at h ⊢
    split at h
    · split at h
      · rename_i hb
        obtain ⟨n, h⟩ := evOp_lim h
        exact ⟨n, by rw [if_pos hb]; exact h⟩
      · rename_i hb; exact ⟨0, by rw [if_neg hb]; exact h⟩
    · exact ⟨0, h⟩
    · cases h
  | .chk ds o, σ, σ', h => by
    obtain ⟨h1, h2⟩ := chk_ev h
    obtain ⟨n, h3⟩ := evOp_lim h1
    refine ⟨n, ?_⟩
    simp only [evOp, h3]
    rw [if_pos h2]
theorem evOps_lim : ∀ {l : List MOp} {σ σ' : St}, evOps (call S) l σ = some σ' → ∃ n, evOps (callN S n) l σ = some σ'
  | [], _, _, h => ⟨0, h⟩
  | o :: r, σ, σ', h => by
    simp only [evOps] at h
    split at h
    · rename_i σ1 h1
      obtain ⟨n, h1⟩ := evOp_lim h1
      obtain ⟨m, h2⟩ := evOps_lim h
      refine ⟨max n m, ?_⟩
      simp only [evOps, evOp_mono (callN_mono (Nat.le_max_left n m)) h1]
      exact evOps_mono (callN_mono (Nat.le_max_right n m)) h2
    · cases h
theorem evC_lim {k : Nat} : ∀ {c : MC} {σ : St} {r : Ex × St}, evC (call S) k c σ = some r → ∃ n, evC (callN S n) k c σ = some r := by
  intro c
  induction c with
  | sk => exact fun h => ⟨0, h⟩
  | ops l =>
    intro σ r h
    simp only [evC, Option.map_eq_some_iff] at h ⊢
    obtain ⟨x, h1, h2⟩ := h
    obtain ⟨n, h1⟩ := evOps_lim h1
    exact ⟨n, x, h1, h2⟩
  | opsO ord l =>
    intro σ r h
    simp only [evC, Option.map_eq_some_iff] at h ⊢
    obtain ⟨x, h1, h2⟩ := h
    obtain ⟨n, h1⟩ := evOps_lim h1
    exact ⟨n, x, h1, h2⟩
  | sq a b iha ihb =>
    intro σ r h
    simp only [evC] at h
    split at h
    · rename_i σ1 h1
      obtain ⟨n, h1⟩ := iha h1
      obtain ⟨m, h2⟩ := ihb h
      refine ⟨max n m, ?_⟩
      simp only [evC, evC_mono (callN_mono (Nat.le_max_left n m)) (Nat.le_refl _) h1]
      exact evC_mono (callN_mono (Nat.le_max_right n m)) (Nat.le_refl _) h2
    · rename_i hnn
      obtain ⟨n, h1⟩ := iha h
      refine ⟨n, ?_⟩
      simp only [evC, h1]
      split
      · rename_i σ1 h2; cases h2; exact absurd h (hnn _)
      · rfl
  | ite x a b iha ihb =>
    intro σ r h
    simp only [evC] at h ⊢
    split at h
    · rename_i t ht
      split at h
      · rename_i hb
        obtain ⟨n, h⟩ := iha h
        exact ⟨n, by rw [if_pos hb]; exact h⟩
      · rename_i hb
        obtain ⟨n, h⟩ := ihb h
        exact ⟨n, by rw [if_neg hb]; exact h⟩
    · cases h
  | blk id a ih =>
    intro σ r h
    simp only [evC] at h
    split at h
    · rename_i j σ1 h1
      obtain ⟨n, h1⟩ := ih h1
      exact ⟨n, by simp only [evC, h1]; exact h⟩
    · rename_i hnn
      obtain ⟨n, h1⟩ := ih h
      refine ⟨n, ?_⟩
      simp only [evC, h1]
      split
      · rename_i j σ1 h2; cases h2; exact absurd h (hnn _ _)
      · rfl
  | lp live hl a ih =>
    intro σ r h
    simp only [evC] at h ⊢
    have key : ∀ j σ, evLoop (fun σ => match restrict live hl σ with | some σ' => evC (call S) k a σ' | none => none) j σ = some r → ∃ n, evLoop (fun σ => match restrict live hl σ with | some σ' => evC (callN S n) k a σ' | none => none) j σ = some r := by
      intro j
      induction j with
      | zero => intro σ h; simp [evLoop] at h
      | succ j ihj =>
        intro σ h
        simp only [evLoop] at h
        have one : ∀ r', (match restrict live hl σ with | some σ' => evC (call S) k a σ' | none => none) = some r' → ∃ n, (match restrict live hl σ with | some σ' => evC (callN S n) k a σ' | none => none) = some r' := by
          intro r' h
          split at h
          · exact ih h
          · cases h
        split at h
        · rename_i σ' h1
          obtain ⟨n, h1⟩ := one _ h1
          obtain ⟨m, h2⟩ := ihj _ h
          refine ⟨max n m, ?_⟩
          have up : ∀ p q, p ≤ q → ∀ σ r, (match restrict live hl σ with | some σ' => evC (callN S p) k a σ' | none => none) = some r → (match restrict live hl σ with | some σ' => evC (callN S q) k a σ' | none => none) = some r := by
            intro p q hpq σ r h
            split at h
            · exact evC_mono (callN_mono hpq) (Nat.le_refl _) h
            · cases h
          simp only [evLoop, up _ _ (Nat.le_max_left n m) _ _ h1]
          exact evLoop_mono (up _ _ (Nat.le_max_right n m)) (Nat.le_refl _) h2
        · rename_i hnn
          obtain ⟨n, h1⟩ := one _ h
          refine ⟨n, ?_⟩
          simp only [evLoop, h1]
          split
          · rename_i σ' h2; cases h2; exact absurd h (hnn _)
          · rfl
    exact key k σ h
  | ex id => exact fun h => ⟨0, h⟩
  | rt => exact fun h => ⟨0, h⟩
  | gh o => exact fun h => ⟨0, h⟩

theorem Ev_some {c : MC} {σ : St} {r : Ex × St} : Ev S c σ = some r ↔ ∃ n, evC (call S) n c σ = some r := by
  constructor
  · intro h
    unfold Ev at h
    split at h
    · exact ⟨_, h⟩
    · cases h
  · rintro ⟨n, h⟩
    have hx : ∃ n, (evC (call S) n c σ).isSome := ⟨n, by rw [h]; rfl⟩
    unfold Ev
    rw [dif_pos hx]
    obtain ⟨r', hr'⟩ := Option.isSome_iff_exists.1 hx.choose_spec
    have h1 := evC_mono (fun _ _ _ _ h => h) (Nat.le_max_left n hx.choose) h
    have h2 := evC_mono (fun _ _ _ _ h => h) (Nat.le_max_right n hx.choose) hr'
    rw [h1] at h2
    cases h2
    exact hr'
theorem opt_ext {α : Type} {a b : Option α} (h : ∀ r, a = some r ↔ b = some r) : a = b := Option.ext h

/-! ### equations -/
theorem Ev_sk {σ : St} : Ev S .sk σ = some (.nrm, σ) := Ev_some.2 ⟨0, rfl⟩
theorem Ev_ex {id : Nat} {σ : St} : Ev S (.ex id) σ = some (.ex id, σ) := Ev_some.2 ⟨0, rfl⟩
theorem Ev_rt {σ : St} : Ev S .rt σ = some (.rt, σ) := Ev_some.2 ⟨0, rfl⟩
theorem Ev_gh {o : Gop} {σ : St} : Ev S (.gh o) σ = (evG o σ).map (.nrm, ·) := opt_ext fun r => by rw [Ev_some]; exact ⟨fun ⟨_, h⟩ => h, fun h => ⟨0, h⟩⟩
theorem Ev_ops {l : List MOp} {σ : St} : Ev S (.ops l) σ = (evOps (call S) l σ).map (.nrm, ·) := opt_ext fun r => by rw [Ev_some]; exact ⟨fun ⟨_, h⟩ => h, fun h => ⟨0, h⟩⟩
theorem Ev_opsO {ord : List Nat} {l : List MOp} {σ : St} : Ev S (.opsO ord l) σ = (evOps (call S) l σ).map (.nrm, ·) := opt_ext fun r => by rw [Ev_some]; exact ⟨fun ⟨_, h⟩ => h, fun h => ⟨0, h⟩⟩
theorem Ev_sq {a b : MC} {σ : St} : Ev S (.sq a b) σ = match Ev S a σ with | some (.nrm, σ') => Ev S b σ' | r => r := by
  refine opt_ext fun r => ?_
  rw [Ev_some]
  constructor
  · rintro ⟨n, h⟩
    simp only [evC] at h
    split at h
    · rename_i σ1 h1
      rw [Ev_some.2 ⟨n, h1⟩]
      exact Ev_some.2 ⟨n, h⟩
    · rename_i hnn
      rw [Ev_some.2 ⟨n, h⟩]
      split
      · rename_i σ1 h2; cases h2; exact absurd h (hnn _)
      · rfl
  · intro h
    split at h
    · rename_i σ1 h1
      obtain ⟨n, h1⟩ := Ev_some.1 h1
      obtain ⟨m, h2⟩ := Ev_some.1 h
      refine ⟨max n m, ?_⟩
      simp only [evC, evC_mono (fun _ _ _ _ h => h) (Nat.le_max_left n m) h1]
      exact evC_mono (fun _ _ _ _ h => h) (Nat.le_max_right n m) h2
    · rename_i hnn
      obtain ⟨n, h1⟩ := Ev_some.1 h
      refine ⟨n, ?_⟩
      simp only [evC, h1]
      split
      · rename_i σ1 h2; cases h2; exact absurd h (hnn _)
      · rfl
theorem Ev_ite {x : Opd} {a b : MC} {σ : St} : Ev S (.ite x a b) σ = match x.ev σ.T with | .bool t => if t then Ev S a σ else Ev S b σ | _ => none := by
  refine opt_ext fun r => ?_
  rw [Ev_some]
  constructor
  · rintro ⟨n, h⟩
    simp only [evC] at h
    split at h
    · rename_i t ht
      rw [ht]
      simp only
      split at h
      · rename_i hb; rw [if_pos hb]; exact Ev_some.2 ⟨n, h⟩
      · rename_i hb; rw [if_neg hb]; exact Ev_some.2 ⟨n, h⟩
    · cases h
  · intro h
    split at h
    · rename_i t ht
      split at h
      · rename_i hb
        obtain ⟨n, h⟩ := Ev_some.1 h
        exact ⟨n, by simp only [evC, ht]; rw [if_pos hb]; exact h⟩
      · rename_i hb
        obtain ⟨n, h⟩ := Ev_some.1 h
        exact ⟨n, by simp only [evC, ht]; rw [if_neg hb]; exact h⟩
    · cases h
theorem Ev_blk {id : Nat} {a : MC} {σ : St} : Ev S (.blk id a) σ = match Ev S a σ with | some (.ex j, σ') => if j = id then some (.nrm, σ') else some (.ex j, σ') | r => r := by
  refine opt_ext fun r => ?_
  rw [Ev_some]
  constructor
  · rintro ⟨n, h⟩
    simp only [evC] at h
    split at h
    · rename_i j σ1 h1
      rw [Ev_some.2 ⟨n, h1⟩]
      exact h
    · rename_i hnn
      rw [Ev_some.2 ⟨n, h⟩]
      split
      · rename_i σ1 h2; cases h2; exact absurd h (hnn _ _)
      · rfl
  · intro h
    split at h
    · rename_i j σ1 h1
      obtain ⟨n, h1⟩ := Ev_some.1 h1
      refine ⟨n, ?_⟩
      simp only [evC, h1]
      exact h
    · rename_i hnn
      obtain ⟨n, h1⟩ := Ev_some.1 h
      refine ⟨n, ?_⟩
      simp only [evC, h1]
      split
      · rename_i σ1 h2; cases h2; exact absurd h (hnn _ _)
      · rfl
theorem Ev_lp {live hl : List Nat} {a : MC} {σ : St} : Ev S (.lp live hl a) σ = match restrict live hl σ with
    | some σ0 => match Ev S a σ0 with
      | some (.nrm, σ') => Ev S (.lp live hl a) σ'
      | r => r
    | none => none := by
  refine opt_ext fun r => ?_
  rw [Ev_some]
  have split_fuel : ∀ n m σ r, evLoop (fun σ => match restrict live hl σ with | some σ' => evC (call S) n a σ' | none => none) m σ = some r → Ev S (.lp live hl a) σ = some r := fun n m σ r h => Ev_some.2 ⟨max n m, by
    simp only [evC]
    refine evLoop_mono (fun σ r h => ?_) (Nat.le_max_right n m) h
    cases hx : restrict live hl σ with
    | none => rw [hx] at h; cases h
    | some σ1 => rw [hx] at h; exact evC_mono (C := call S) (fun _ _ _ _ h => h) (Nat.le_max_left n m) h⟩
  constructor
  · rintro ⟨n, h⟩
    simp only [evC] at h
    cases n with
    | zero => simp [evLoop] at h
    | succ n =>
      simp only [evLoop] at h
      cases hr : restrict live hl σ with
      | none => rw [hr] at h; cases h
      | some σ0 =>
        rw [hr] at h
        simp only at h ⊢
        split at h
        · rename_i σ1 h1
          rw [Ev_some.2 ⟨_, h1⟩]
          exact split_fuel _ _ _ _ h
        · rename_i hnn
          rw [Ev_some.2 ⟨_, h⟩]
          split
          · rename_i σ1 h2; cases h2; exact absurd h (hnn _)
          · rfl
  · intro h
    cases hr : restrict live hl σ with
    | none => rw [hr] at h; cases h
    | some σ0 =>
      rw [hr] at h
      simp only at h
      split at h
      · rename_i σ1 h1
        obtain ⟨n, h1⟩ := Ev_some.1 h1
        obtain ⟨m, h2⟩ := Ev_some.1 h
        refine ⟨max n m + 1, ?_⟩
        simp only [evC, evLoop, hr, evC_mono (fun _ _ _ _ h => h) (Nat.le_trans (Nat.le_max_left n m) (Nat.le_succ _)) h1]
        have := evC_mono (C := call S) (fun _ _ _ _ h => h) (Nat.le_max_right n m) h2
        simp only [evC] at this
        refine evLoop_mono (fun σ r h => ?_) (Nat.le_refl _) this
        cases hx : restrict live hl σ with
        | none => rw [hx] at h; cases h
        | some σ1 => rw [hx] at h; exact evC_mono (C := call S) (fun _ _ _ _ h => h) (Nat.le_succ _) h
      · rename_i hnn
        obtain ⟨n, h1⟩ := Ev_some.1 h
        refine ⟨n + 1, ?_⟩
        simp only [evC, evLoop, hr, evC_mono (C := call S) (fun _ _ _ _ h => h) (Nat.le_succ n) h1]
        split
        · rename_i σ1 h2; cases h2; exact absurd h (hnn _)
        · rfl

/-- A function's body, run to its end. -/
noncomputable def runL (S : Sys) (mf : MFun) (args : List PV) (objs : List Obj) : Option (PV × List Obj) :=
  if args.length = mf.np then
    match Ev S mf.code (enter args objs) with
    | some (.nrm, σ) | some (.rt, σ) => match evRes σ mf.res with
      | some vs => leave objs.length σ (stripR mf.own (resV vs))
      | none => none
    | _ => none
  else none

theorem call_eq {f : Nat} {args : List PV} {objs : List Obj} : call S f args objs = match S.prim f args objs with
    | some r => some r
    | none => match S.prog f with
      | some mf => runL S mf args objs
      | none => none := by
  refine opt_ext fun r => ?_
  rw [call_some]
  constructor
  · rintro ⟨n, h⟩
    cases n with
    | zero => simp [callN] at h
    | succ n =>
      simp only [callN] at h
      cases hp : S.prim f args objs with
      | some r' => rw [hp] at h; exact h
      | none =>
        rw [hp] at h
        simp only at h ⊢
        cases hm : S.prog f with
        | none => rw [hm] at h; cases h
        | some mf =>
          rw [hm] at h
          simp only at h ⊢
          unfold runF at h
          unfold runL
          split at h
          · rename_i hl
            rw [if_pos hl]
            split at h
            · rename_i σ h1; rw [Ev_some.2 ⟨n, evC_mono (callN_le n) (Nat.le_refl _) h1⟩]; exact h
            · rename_i σ h1; rw [Ev_some.2 ⟨n, evC_mono (callN_le n) (Nat.le_refl _) h1⟩]; exact h
            · cases h
          · cases h
  · intro h
    cases hp : S.prim f args objs with
    | some r' =>
      rw [hp] at h
      exact ⟨1, by simp only [callN, hp]; exact h⟩
    | none =>
      rw [hp] at h
      simp only at h
      cases hm : S.prog f with
      | none => rw [hm] at h; cases h
      | some mf =>
        rw [hm] at h
        simp only at h
        unfold runL at h
        split at h
        · rename_i hl
          have go : ∀ e σ, Ev S mf.code (enter args objs) = some (e, σ) → ∃ n, evC (callN S n) n mf.code (enter args objs) = some (e, σ) := fun e σ h1 => by
            obtain ⟨k, h1⟩ := Ev_some.1 h1
            obtain ⟨n, h2⟩ := evC_lim h1
            exact ⟨max n k, evC_mono (callN_mono (Nat.le_max_left n k)) (Nat.le_max_right n k) h2⟩
          split at h
          · rename_i σ h1
            obtain ⟨n, h2⟩ := go _ _ h1
            exact ⟨n + 1, by simp only [callN, hp, hm, runF, if_pos hl, h2]; exact h⟩
          · rename_i σ h1
            obtain ⟨n, h2⟩ := go _ _ h1
            exact ⟨n + 1, by simp only [callN, hp, hm, runF, if_pos hl, h2]; exact h⟩
          · cases h
        · cases h
theorem call_prog {f : Nat} {mf : MFun} {args : List PV} {objs : List Obj} (hp : S.prim f args objs = none) (hm : S.prog f = some mf) : call S f args objs = runL S mf args objs := by
  rw [call_eq, hp, hm]
end
end Go.Px
/- The evaluator's equations, for the simplifier. -/
set_option linter.unusedVariables false
namespace Go.Px
open Go

theorem upd_apply {α : Type} (f : Nat → α) (d e : Nat) (v : α) : upd f d v e = if e = d then v else f e := rfl
theorem objAt_zero (o : Obj) (l : List Obj) : objAt (o :: l) 0 = o := rfl
theorem objAt_succ (o : Obj) (l : List Obj) (i : Nat) : objAt (o :: l) (i+1) = objAt l i := rfl
theorem objAt_lit1 (o : Obj) (l : List Obj) : objAt (o :: l) 1 = objAt l 0 := rfl
theorem objAt_lit2 (o p : Obj) (l : List Obj) : objAt (o :: p :: l) 2 = objAt l 0 := rfl
theorem objAt_nil (i : Nat) : objAt [] i = .free := by simp [objAt]
theorem objAt_big (l : List Obj) (i : Nat) (h : l.length ≤ i) : objAt l i = .free := objAt_ge h
theorem objAt_cons (o : Obj) (l : List Obj) (i : Nat) : objAt (o :: l) i = if i = 0 then o else objAt l (i - 1) := by
  cases i <;> simp [objAt]
theorem memb_nil (i : Nat) : memb i [] = false := rfl
theorem memb_cons (i j : Nat) (r : List Nat) : memb i (j :: r) = if i = j then true else memb i r := rfl

/-! ### loops -/
theorem keepV_idem (hl : List Nat) (p : PV) : keepV hl (keepV hl p) = keepV hl p := by
  by_cases hs : ∃ i e es, p = .sl (.tok i) e es
  · obtain ⟨i, e, es, rfl⟩ := hs
    simp only [keepV]
    cases h : memb i hl
    · simp [keepV, PV.refs, PV.refs2, PV.ref1, PV.ref0, allIn]
    · simp [keepV, h]
  · have e1 : ∀ q : PV, (¬ ∃ i e es, q = .sl (.tok i) e es) → keepV hl q = if allIn q.refs hl then q else .bad := by
      intro q hq
      unfold keepV
      split
      · exact absurd ⟨_, _, _, rfl⟩ hq
      · rfl
    rw [e1 p hs]
    cases h : allIn p.refs hl
    · simp [keepV]
    · simp only [if_true]
      rw [e1 p hs, h]
      simp
def lpOk (hl : List Nat) (H : Nat → Obj) (m : Nat) : Bool := hl.all (fun i => allIn (H i).refs hl) && allIn (List.range m) hl
noncomputable def EvL (S : Sys) (live hl : List Nat) (c : MC) (vals : List PV) (os : List Obj) (m : Nat) : Option (Ex × St) := Ev S (.lp live hl c) ⟨ofL (live.zip vals), ofH (hl.zip os), m⟩
theorem zip_map_self {α β : Type} (f : α → β) : ∀ l : List α, l.zip (l.map f) = l.map fun d => (d, f d)
  | [] => rfl
  | a :: r => by simp [zip_map_self f r]
theorem restrict_eq (live hl : List Nat) (σ : St) : restrict live hl σ = if lpOk hl σ.H σ.m then some ⟨ofL (live.zip (live.map fun d => keepV hl (σ.T d))), ofH (hl.zip (hl.map σ.H)), σ.m⟩ else none := by
  unfold restrict lpOk
  rw [zip_map_self, zip_map_self]
theorem ofLz {f : Nat → PV} {l : List Nat} {d : Nat} (h : d ∈ l) : ofL (l.zip (l.map f)) d = f d := by rw [zip_map_self, ofL_in, if_pos h]
theorem ofHz {f : Nat → Obj} {l : List Nat} {d : Nat} (h : d ∈ l) : ofH (l.zip (l.map f)) d = f d := by rw [zip_map_self, ofH_in, if_pos h]
theorem Ev_lp_E (S : Sys) (live hl : List Nat) (c : MC) (σ : St) : Ev S (.lp live hl c) σ = if lpOk hl σ.H σ.m then EvL S live hl c (live.map fun d => keepV hl (σ.T d)) (hl.map σ.H) σ.m else none := by
  rw [Ev_lp, restrict_eq]
  cases hc : lpOk hl σ.H σ.m with
  | false => rfl
  | true =>
    simp only [if_true]
    unfold EvL
    rw [Ev_lp (σ := ⟨_, _, _⟩), restrict_eq]
    have h1 : lpOk hl (ofH (hl.zip (hl.map σ.H))) σ.m = true := by
      rw [← hc]
      unfold lpOk
      congr 1
      rw [Bool.eq_iff_iff, List.all_eq_true, List.all_eq_true]
      exact forall_congr' fun i => forall_congr' fun hi => by rw [ofHz hi]
    have h2 : (live.map fun d => keepV hl (ofL (live.zip (live.map fun d => keepV hl (σ.T d))) d)) = live.map fun d => keepV hl (σ.T d) :=
      List.map_congr_left fun d hd => by rw [ofLz (f := fun d => keepV hl (σ.T d)) hd, keepV_idem]
    have h3 : hl.map (ofH (hl.zip (hl.map σ.H))) = hl.map σ.H := List.map_congr_left fun i hi => ofHz hi
    simp only [h1, if_true, h2, h3]
theorem EvL_eq (S : Sys) (live hl : List Nat) (c : MC) (vals : List PV) (os : List Obj) (m : Nat) :
    EvL S live hl c vals os m = if lpOk hl (ofH (hl.zip os)) m then
      match Ev S c ⟨ofL (live.zip (live.map fun d => keepV hl (ofL (live.zip vals) d))), ofH (hl.zip (hl.map (ofH (hl.zip os)))), m⟩ with
      | some (.nrm, σ') => Ev S (.lp live hl c) σ'
      | r => r
    else none := by
  unfold EvL
  rw [Ev_lp, restrict_eq]
  cases lpOk hl (ofH (hl.zip os)) m <;> rfl

attribute [simp] upd_apply objAt_cons objAt_nil memb_nil memb_cons
attribute [simp] Ev_sk Ev_ex Ev_rt Ev_gh Ev_ops Ev_opsO Ev_sq Ev_ite Ev_blk
attribute [simp] Ev_lp_E lpOk
attribute [simp] evOps evOp evP Opd.ev ldV stV faV iaV lenV slcV mkV PV.cellsOf allCells PV.isCell imms PV.imm elemsOf partsOf putAt appV appLim evBin binI BinOp.shifts skipTo evG awayAll
attribute [simp] evRes resV stripR strip strip0 argsOf setO evCall evCallH PV.refs PV.refs2 PV.ref1 PV.ref0 Obj.refs ren ren2 ren1 ren0 renO packH mapO nodupB posOf reach back back2 back1 back0 backO backH freeFrom allPtr
attribute [simp] keepV allIn
@[simp] theorem ofL_nil (e : Nat) : ofL [] e = .bad := rfl
@[simp] theorem ofL_cons (d : Nat) (v : PV) (r : List (Nat × PV)) (e : Nat) : ofL ((d, v) :: r) e = if e = d then v else ofL r e := rfl
@[simp] theorem ofH_nil (e : Nat) : ofH [] e = .free := rfl
@[simp] theorem ofH_cons (d : Nat) (v : Obj) (r : List (Nat × Obj)) (e : Nat) : ofH ((d, v) :: r) e = if e = d then v else ofH r e := rfl
@[simp] theorem backId_nil (s j : Nat) : backId [] s j = s + j := by simp [backId]
@[simp] theorem backId_cons (i : Nat) (r : List Nat) (s j : Nat) : backId (i :: r) s j = if j = 0 then i else backId r s (j - 1) := by
  cases j with
  | zero => simp [backId]
  | succ j =>
    unfold backId
    simp only [List.length_cons, Nat.add_one_ne_zero, if_false, Nat.add_sub_cancel]
    by_cases h : j < r.length
    · rw [if_pos (by omega), if_pos h]; rfl
    · rw [if_neg (by omega), if_neg h]; omega
@[simp] theorem reachFuel_eq : reachFuel = 60 := rfl
def argAt (a : List PV) (d : Nat) : PV := a.getD d .und
@[simp] theorem enter_T (a : List PV) (o : List Obj) (d : Nat) : (enter a o).T d = argAt a d := rfl
@[simp] theorem argAt_nil (d : Nat) : argAt [] d = .und := by simp [argAt]
@[simp] theorem argAt_cons (p : PV) (a : List PV) (d : Nat) : argAt (p :: a) d = if d = 0 then p else argAt a (d - 1) := by
  cases d <;> simp [argAt]
@[simp] theorem pv_get0 {α : Type} (a : α) (l : List α) : (a :: l)[0]? = some a := rfl
@[simp] theorem pv_get1 {α : Type} (a b : α) (l : List α) : (a :: b :: l)[1]? = some b := rfl
@[simp] theorem pv_get2 {α : Type} (a b c : α) (l : List α) : (a :: b :: c :: l)[2]? = some c := rfl
@[simp] theorem pv_get3 {α : Type} (a b c d : α) (l : List α) : (a :: b :: c :: d :: l)[3]? = some d := rfl
@[simp] theorem enter_H (a : List PV) (o : List Obj) : (enter a o).H = objAt o := rfl
@[simp] theorem enter_m (a : List PV) (o : List Obj) : (enter a o).m = o.length := rfl
theorem drop_cons' {α : Type} {all rest : List α} {i : Nat} {t : α} (h : all.drop i = t :: rest) : i < all.length ∧ all[i]? = some t ∧ all.drop (i + 1) = rest := by
  have hi : i < all.length := by
    rcases Nat.lt_or_ge i all.length with h1 | h1
    · exact h1
    · rw [List.drop_eq_nil_of_le h1] at h; cases h
  rw [List.drop_eq_getElem_cons hi] at h
  injection h with h1 h2
  exact ⟨hi, by rw [List.getElem?_eq_getElem hi, h1], h2⟩
theorem drop_nil' {α : Type} {all : List α} {i : Nat} (h : all.drop i = []) : all.length ≤ i := by simpa using h
theorem wrap_i64 {n : Int} (h1 : -9223372036854775808 ≤ n) (h2 : n ≤ 9223372036854775807) : IntKind.i64.wrap n = n := by
  rw [IntKind.wrap_i64]
  omega
end Go.Px
/- The program's data, without memory: terms, arguments, sorts, constructors, blocks, declarations; sizes, kinds, what is right. -/
set_option linter.unusedVariables false
namespace Go.Px

inductive Tm where
  | mk (k n : Int) (kids : List Tm)
instance : Inhabited Tm := ⟨.mk 0 0 []⟩
def Tm.k : Tm → Int | .mk k _ _ => k
def Tm.n : Tm → Int | .mk _ n _ => n
def Tm.kids : Tm → List Tm | .mk _ _ l => l
@[simp] theorem Tm.k_mk (k n : Int) (l : List Tm) : (Tm.mk k n l).k = k := rfl
@[simp] theorem Tm.n_mk (k n : Int) (l : List Tm) : (Tm.mk k n l).n = n := rfl
@[simp] theorem Tm.kids_mk (k n : Int) (l : List Tm) : (Tm.mk k n l).kids = l := rfl
@[simp] theorem Tm.eta : ∀ t : Tm, Tm.mk t.k t.n t.kids = t
  | .mk _ _ _ => rfl
def Tm.zero : Tm := .mk 0 0 []
mutual
def Tm.size : Tm → Nat
  | .mk _ _ l => 1 + sizes l
def sizes : List Tm → Nat
  | [] => 0
  | t :: r => t.size + sizes r
end
theorem Tm.size_eq : ∀ t : Tm, t.size = 1 + sizes t.kids
  | .mk _ _ _ => by simp [Tm.size]
theorem sizes_append : ∀ (a b : List Tm), sizes (a ++ b) = sizes a + sizes b
  | [], b => by simp [sizes]
  | t :: r, b => by simp [sizes, sizes_append r b]; omega
theorem size_pos (t : Tm) : 0 < t.size := by rw [Tm.size_eq]; omega
theorem sizes_ge : ∀ l : List Tm, l.length ≤ sizes l
  | [] => by simp [sizes]
  | t :: r => by simp [sizes]; have := sizes_ge r; have := size_pos t; omega
theorem sizes_mem : ∀ {l : List Tm} {t : Tm}, t ∈ l → t.size ≤ sizes l
  | a :: r, t, h => by
    simp only [sizes]
    rcases List.mem_cons.1 h with e | h
    · rw [e]; omega
    · have := sizes_mem h; omega
theorem size_kid {t x : Tm} (h : x ∈ t.kids) : x.size < t.size := by
  have := sizes_mem h
  rw [Tm.size_eq t]; omega
mutual
def Tm.depth : Tm → Nat
  | .mk _ _ l => depths l + 1
def depths : List Tm → Nat
  | [] => 0
  | t :: r => max t.depth (depths r)
end
theorem Tm.depth_eq : ∀ t : Tm, t.depth = depths t.kids + 1
  | .mk _ _ _ => by simp [Tm.depth]
mutual
theorem depth_le : ∀ t : Tm, t.depth ≤ t.size
  | .mk _ _ l => by simp only [Tm.depth, Tm.size]; have := depths_le l; omega
theorem depths_le : ∀ l : List Tm, depths l ≤ sizes l
  | [] => by simp [depths]
  | t :: r => by simp only [depths, sizes]; have := depth_le t; have := depths_le r; omega
end
theorem Tm.ind {P : Tm → Prop} (h : ∀ t, (∀ x ∈ t.kids, P x) → P t) : ∀ t, P t := by
  have key : ∀ n, ∀ t : Tm, t.size ≤ n → P t := by
    intro n
    induction n with
    | zero => intro t ht; have := size_pos t; omega
    | succ n ih => exact fun t ht => h t fun x hx => ih x (by have := size_kid hx; omega)
  exact fun t => key t.size t (Nat.le_refl _)

structure Ag where
  rc : Bool
  type : Tm
  dom : List Tm
  sort : Int
  idx : List Tm
def Ag.size (a : Ag) : Nat := 2 + a.type.size + sizes a.dom + sizes a.idx
def agSizes : List Ag → Nat
  | [] => 0
  | a :: r => a.size + agSizes r
structure Srt where
  idx : List Ag
  level : Int
  dec : Bool
  decType : Tm
def Srt.size (s : Srt) : Nat := 3 + agSizes s.idx + s.decType.size
def srtSizes : List Srt → Nat
  | [] => 0
  | a :: r => a.size + srtSizes r
structure Cn where
  sort : Int
  args : List Ag
  idx : List Tm
  dec : Tm
def Cn.size (c : Cn) : Nat := 3 + agSizes c.args + sizes c.idx + c.dec.size
def cnSizes : List Cn → Nat
  | [] => 0
  | a :: r => a.size + cnSizes r
structure Blk where
  sorts : List Srt
  cons : List Cn
  elim : Int
def Blk.size (b : Blk) : Nat := 1 + srtSizes b.sorts + cnSizes b.cons
def Blk.zero : Blk := ⟨[], [], 0⟩
structure Dcl where
  kind : Int
  type : Tm
  body : Tm
  block : Blk
def Dcl.size (d : Dcl) : Nat := 1 + d.type.size + d.body.size + d.block.size
def dclSizes : List Dcl → Nat
  | [] => 0
  | d :: r => d.size + dclSizes r
theorem agSizes_ge : ∀ l : List Ag, l.length ≤ agSizes l
  | [] => by simp [agSizes]
  | a :: r => by have := agSizes_ge r; simp [agSizes, Ag.size]; omega
theorem srtSizes_ge : ∀ l : List Srt, l.length ≤ srtSizes l
  | [] => by simp [srtSizes]
  | a :: r => by have := srtSizes_ge r; simp [srtSizes, Srt.size]; omega
theorem cnSizes_ge : ∀ l : List Cn, l.length ≤ cnSizes l
  | [] => by simp [cnSizes]
  | a :: r => by have := cnSizes_ge r; simp [cnSizes, Cn.size]; omega
theorem dclSizes_ge : ∀ l : List Dcl, l.length ≤ dclSizes l
  | [] => by simp [dclSizes]
  | a :: r => by have := dclSizes_ge r; simp [dclSizes, Dcl.size]; omega
theorem agSizes_mem : ∀ {l : List Ag} {t : Ag}, t ∈ l → t.size ≤ agSizes l
  | a :: r, t, h => by
    simp only [agSizes]
    rcases List.mem_cons.1 h with e | h
    · rw [e]; omega
    · have := agSizes_mem h; omega
theorem srtSizes_mem : ∀ {l : List Srt} {t : Srt}, t ∈ l → t.size ≤ srtSizes l
  | a :: r, t, h => by
    simp only [srtSizes]
    rcases List.mem_cons.1 h with e | h
    · rw [e]; omega
    · have := srtSizes_mem h; omega
theorem cnSizes_mem : ∀ {l : List Cn} {t : Cn}, t ∈ l → t.size ≤ cnSizes l
  | a :: r, t, h => by
    simp only [cnSizes]
    rcases List.mem_cons.1 h with e | h
    · rw [e]; omega
    · have := cnSizes_mem h; omega
theorem dclSizes_mem : ∀ {l : List Dcl} {t : Dcl}, t ∈ l → t.size ≤ dclSizes l
  | a :: r, t, h => by
    simp only [dclSizes]
    rcases List.mem_cons.1 h with e | h
    · rw [e]; omega
    · have := dclSizes_mem h; omega
theorem agSizes_append : ∀ (a b : List Ag), agSizes (a ++ b) = agSizes a + agSizes b
  | [], b => by simp [agSizes]
  | t :: r, b => by simp [agSizes, agSizes_append r b]; omega
theorem srtSizes_append : ∀ (a b : List Srt), srtSizes (a ++ b) = srtSizes a + srtSizes b
  | [], b => by simp [srtSizes]
  | t :: r, b => by simp [srtSizes, srtSizes_append r b]; omega
theorem cnSizes_append : ∀ (a b : List Cn), cnSizes (a ++ b) = cnSizes a + cnSizes b
  | [], b => by simp [cnSizes]
  | t :: r, b => by simp [cnSizes, cnSizes_append r b]; omega
theorem dclSizes_append : ∀ (a b : List Dcl), dclSizes (a ++ b) = dclSizes a + dclSizes b
  | [], b => by simp [dclSizes]
  | t :: r, b => by simp [dclSizes, dclSizes_append r b]; omega

/-! ### kinds -/
def kindIs (k : Int) : Bool := decide (1 ≤ k) && decide (k ≤ 13)
def kidsOf (k : Int) : Int :=
  if k = 1 ∨ k = 2 ∨ k = 3 then 0 else if k = 9 ∨ k = 10 then 1 else if k = 8 ∨ k = 11 ∨ k = 13 then 3 else if kindIs k then 2 else -1
def binds (k i : Int) : Int := if i = 1 ∧ (k = 4 ∨ k = 5 ∨ k = 7) then 1 else 0
def isNone (t : Tm) : Bool := t.k == 0 && t.n == 0 && t.kids.isEmpty
theorem isNone_iff {t : Tm} : isNone t = true ↔ t = Tm.zero := by
  obtain ⟨k, n, l⟩ := t
  cases l <;> simp [isNone, Tm.zero]
mutual
def formed : Tm → Bool
  | .mk k n l => !(decide (kidsOf k < 0) || decide ((l.length : Int) ≠ kidsOf k) || decide (n < 0) || decide (65535 < n) || (decide (0 < kidsOf k) && decide (n ≠ 0))) && formeds l
def formeds : List Tm → Bool
  | [] => true
  | t :: r => formed t && formeds r
end
def tmCheck (t : Tm) : Int := if 6000 < t.size then 4 else if 200 < t.depth then 5 else if !formed t then 1 else 0
theorem formeds_all : ∀ l : List Tm, formeds l = l.all formed
  | [] => rfl
  | t :: r => by simp [formeds, formeds_all r]
theorem formed_mk {k n : Int} {l : List Tm} : formed (.mk k n l) = true ↔ (0 ≤ kidsOf k ∧ (l.length : Int) = kidsOf k ∧ 0 ≤ n ∧ n ≤ 65535 ∧ (0 < kidsOf k → n = 0)) ∧ ∀ t ∈ l, formed t = true := by
  simp only [formed, formeds_all, Bool.and_eq_true, List.all_eq_true, Bool.not_eq_true', Bool.or_eq_false_iff, decide_eq_false_iff_not, Bool.and_eq_false_iff]
  constructor
  · rintro ⟨⟨⟨⟨⟨h1, h2⟩, h3⟩, h4⟩, h5⟩, h6⟩
    refine ⟨⟨by omega, by omega, by omega, by omega, fun h => ?_⟩, h6⟩
    rcases h5 with h5 | h5 <;> omega
  · rintro ⟨⟨h1, h2, h3, h4, h5⟩, h6⟩
    refine ⟨⟨⟨⟨⟨by omega, by omega⟩, by omega⟩, by omega⟩, ?_⟩, h6⟩
    by_cases h : 0 < kidsOf k
    · exact .inr (by have := h5 h; omega)
    · exact .inl h
theorem tmCheck_zero {t : Tm} : tmCheck t = 0 ↔ t.size ≤ 6000 ∧ t.depth ≤ 200 ∧ formed t = true := by
  unfold tmCheck
  split
  · constructor
    · intro h; simp at h
    · intro h; omega
  split
  · constructor
    · intro h; simp at h
    · intro h; omega
  cases formed t <;> simp <;> omega

/-! ### alike -/
mutual
def tmEq : Tm → Tm → Bool
  | .mk k n l, .mk k' n' l' => k == k' && n == n' && tmsEq l l'
def tmsEq : List Tm → List Tm → Bool
  | [], [] => true
  | a :: r, b :: s => tmEq a b && tmsEq r s
  | _, _ => false
end
mutual
theorem tmEq_iff : ∀ (a b : Tm), tmEq a b = true ↔ a = b
  | .mk k n l, .mk k' n' l' => by simp [tmEq, tmsEq_iff l l', and_assoc]
theorem tmsEq_iff : ∀ (a b : List Tm), tmsEq a b = true ↔ a = b
  | [], [] => by simp [tmsEq]
  | [], b :: s => by simp [tmsEq]
  | a :: r, [] => by simp [tmsEq]
  | a :: r, b :: s => by simp [tmsEq, tmEq_iff a b, tmsEq_iff r s]
end
instance : DecidableEq Tm := fun a b => if h : tmEq a b = true then .isTrue ((tmEq_iff a b).1 h) else .isFalse fun e => h ((tmEq_iff a b).2 e)
deriving instance DecidableEq for Ag
deriving instance DecidableEq for Srt
deriving instance DecidableEq for Cn
deriving instance DecidableEq for Blk
deriving instance DecidableEq for Dcl
end Go.Px
/- Terms as bytes, written and read: plain. -/
set_option linter.unusedVariables false
set_option linter.unusedSimpArgs false
namespace Go.Px

def u8 (n : Int) : Int := n % 256
theorem u8_id {n : Int} (h : 0 ≤ n) (h2 : n ≤ 255) : u8 n = n := by unfold u8; omega
theorem u8_lo (n : Int) : 0 ≤ u8 n := by unfold u8; omega
theorem u8_hi (n : Int) : u8 n ≤ 255 := by unfold u8; omega
def okB (bs : List Int) : Prop := ∀ b ∈ bs, 0 ≤ b ∧ b ≤ 255
theorem okB_cons {b : Int} {r : List Int} : okB (b :: r) ↔ (0 ≤ b ∧ b ≤ 255) ∧ okB r := by simp [okB]
theorem okB_append {a b : List Int} : okB (a ++ b) ↔ okB a ∧ okB b := by
  simp only [okB, List.mem_append]
  exact ⟨fun h => ⟨fun x hx => h x (.inl hx), fun x hx => h x (.inr hx)⟩, fun h x hx => hx.elim (h.1 x) (h.2 x)⟩
theorem okB_nil : okB [] := by simp [okB]
theorem okB_u8 (n : Int) {r : List Int} (h : okB r) : okB (u8 n :: r) := okB_cons.2 ⟨⟨u8_lo n, u8_hi n⟩, h⟩
theorem okB_drop {a : List Int} (n : Nat) (h : okB a) : okB (a.drop n) := fun x hx => h x (List.mem_of_mem_drop hx)

mutual
def packT : Tm → List Int
  | .mk k n l => u8 k :: (if kidsOf k = 0 then [u8 (n / 256), u8 n] else packTs l)
def packTs : List Tm → List Int
  | [] => []
  | t :: r => packT t ++ packTs r
end
mutual
theorem packT_ok : ∀ t : Tm, okB (packT t)
  | .mk k n l => by
    simp only [packT]
    refine okB_u8 _ ?_
    split
    · exact okB_u8 _ (okB_u8 _ okB_nil)
    · exact packTs_ok l
theorem packTs_ok : ∀ l : List Tm, okB (packTs l)
  | [] => okB_nil
  | t :: r => okB_append.2 ⟨packT_ok t, packTs_ok r⟩
end
mutual
theorem packT_len : ∀ t : Tm, (packT t).length ≤ 3 * t.size
  | .mk k n l => by
    have := packTs_len l
    simp only [packT, Tm.size]
    split <;> simp <;> omega
theorem packTs_len : ∀ l : List Tm, (packTs l).length ≤ 3 * sizes l
  | [] => by simp [packTs]
  | t :: r => by
    have := packT_len t
    have := packTs_len r
    simp only [packTs, sizes, List.length_append]
    omega
end
theorem packT_ne (t : Tm) : packT t ≠ [] := by
  obtain ⟨k, n, l⟩ := t
  simp [packT]

/-! ### reading -/
def rep {α : Type} (f : Nat → List Int → Option (α × Nat × List Int)) : Nat → Nat → List Int → Option (List α × Nat × List Int)
  | 0, nd, r => some ([], nd, r)
  | n + 1, nd, r => match f nd r with
    | none => none
    | some (t, nd1, r1) => match rep f n nd1 r1 with
      | none => none
      | some (l, nd2, r2) => some (t :: l, nd2, r2)
def pkT : Nat → Nat → List Int → Option (Tm × Nat × List Int)
  | 0, _, _ => none
  | d + 1, _, [] => none
  | d + 1, nd, k :: r => if kidsOf k < 0 ∨ 6000 ≤ nd then none else if kidsOf k = 0 then
      match r with
      | a :: b :: r' => some (.mk k (a * 256 + b) [], nd + 1, r')
      | _ => none
    else match rep (pkT d) (kidsOf k).toNat (nd + 1) r with
      | none => none
      | some (l, nd', r') => some (.mk k 0 l, nd', r')

theorem kidsOf_range {k : Int} (h : 0 ≤ kidsOf k) : 1 ≤ k ∧ k ≤ 13 := by
  unfold kidsOf at h
  split at h
  · omega
  split at h
  · omega
  split at h
  · omega
  split at h
  · rename_i hk; simpa [kindIs] using hk
  · simp at h
mutual
theorem pk_pack : ∀ (t : Tm) (d nd : Nat) (rest : List Int), formed t = true → t.depth ≤ d → nd + t.size ≤ 6000 → pkT d nd (packT t ++ rest) = some (t, nd + t.size, rest)
  | .mk k n l, d, nd, rest, hf, hd, hs => by
    rw [formed_mk] at hf
    obtain ⟨⟨h1, h2, h3, h4, h5⟩, h6⟩ := hf
    simp only [Tm.depth] at hd
    simp only [Tm.size] at hs
    cases d with
    | zero => omega
    | succ d =>
      have hk := kidsOf_range h1
      have e : u8 k = k := u8_id (by omega) (by omega)
      simp only [packT, e, List.cons_append, pkT]
      rw [if_neg (by omega)]
      by_cases h0 : kidsOf k = 0
      · have hl : l = [] := List.length_eq_zero_iff.1 (by omega)
        subst hl
        have : u8 (n / 256) * 256 + u8 n = n := by unfold u8; omega
        simp [h0, this, Tm.size, sizes]
      · rw [if_neg h0, if_neg h0]
        have hn : (kidsOf k).toNat = l.length := by omega
        rw [hn, reps_pack l d (nd + 1) rest h6 (by omega) (by omega)]
        have : n = 0 := h5 (by omega)
        simp [this, Tm.size]
        omega
theorem reps_pack : ∀ (l : List Tm) (d nd : Nat) (rest : List Int), (∀ t ∈ l, formed t = true) → depths l ≤ d → nd + sizes l ≤ 6000 → rep (pkT d) l.length nd (packTs l ++ rest) = some (l, nd + sizes l, rest)
  | [], d, nd, rest, _, _, _ => by simp [rep, packTs, sizes]
  | t :: r, d, nd, rest, hf, hd, hs => by
    simp only [depths] at hd
    simp only [sizes] at hs
    simp only [packTs, List.length_cons, List.append_assoc, rep]
    rw [pk_pack t d nd _ (hf t (by simp)) (by omega) (by omega)]
    simp only
    rw [reps_pack r d (nd + t.size) rest (fun x hx => hf x (by simp [hx])) (by omega) (by omega)]
    simp [sizes]
    omega
end
def PkOk (d : Nat) : Prop := ∀ (nd : Nat) (bs : List Int) (t : Tm) (nd' : Nat) (rest : List Int), okB bs → pkT d nd bs = some (t, nd', rest) → bs = packT t ++ rest ∧ formed t = true ∧ t.depth ≤ d ∧ nd' = nd + t.size ∧ nd' ≤ 6000
theorem reps_sound {d : Nat} (h : PkOk d) : ∀ (n nd : Nat) (bs : List Int) (l : List Tm) (nd' : Nat) (rest : List Int), okB bs → nd ≤ 6000 → rep (pkT d) n nd bs = some (l, nd', rest) →
    bs = packTs l ++ rest ∧ (∀ t ∈ l, formed t = true) ∧ depths l ≤ d ∧ nd' = nd + sizes l ∧ nd' ≤ 6000 ∧ l.length = n
  | 0, nd, bs, l, nd', rest, hb, hn, he => by
    simp only [rep, Option.some.injEq, Prod.mk.injEq] at he
    obtain ⟨rfl, rfl, rfl⟩ := he
    simp [packTs, depths, sizes, hn]
  | n + 1, nd, bs, l, nd', rest, hb, hn, he => by
    simp only [rep] at he
    split at he
    · cases he
    rename_i t nd1 r1 h1
    split at he
    · cases he
    rename_i l2 nd2 r2 h2
    simp only [Option.some.injEq, Prod.mk.injEq] at he
    obtain ⟨rfl, rfl, rfl⟩ := he
    obtain ⟨e1, f1, d1, n1, m1⟩ := h nd bs t nd1 r1 hb h1
    have hb1 : okB r1 := by rw [e1] at hb; exact (okB_append.1 hb).2
    obtain ⟨e2, f2, d2, n2, m2, g2⟩ := reps_sound h n nd1 r1 l2 nd2 r2 hb1 m1 h2
    refine ⟨by rw [e1, e2]; simp [packTs], ?_, ?_, ?_, m2, by simp [g2]⟩
    · intro x hx
      rcases List.mem_cons.1 hx with e | hx
      · rw [e]; exact f1
      · exact f2 x hx
    · simp only [depths]; omega
    · simp only [sizes]; omega
theorem pk_sound : ∀ d, PkOk d
  | 0 => fun nd bs t nd' rest hb he => by simp [pkT] at he
  | d + 1 => fun nd bs t nd' rest hb he => by
    cases bs with
    | nil => simp [pkT] at he
    | cons k r =>
      simp only [pkT] at he
      obtain ⟨hk, hr⟩ := okB_cons.1 hb
      split at he
      · cases he
      rename_i hc
      have hk2 := kidsOf_range (k := k) (by omega)
      have e8 : u8 k = k := u8_id (by omega) (by omega)
      split at he
      · rename_i h0
        split at he
        · rename_i a b r'
          simp only [Option.some.injEq, Prod.mk.injEq] at he
          obtain ⟨rfl, rfl, rfl⟩ := he
          obtain ⟨ha, hr⟩ := okB_cons.1 hr
          obtain ⟨hb', hr⟩ := okB_cons.1 hr
          have e1 : u8 ((a * 256 + b) / 256) = a := by unfold u8; omega
          have e2 : u8 (a * 256 + b) = b := by unfold u8; omega
          refine ⟨by simp [packT, h0, e8, e1, e2], ?_, by simp [Tm.depth, depths], by simp [Tm.size, sizes], by omega⟩
          rw [formed_mk]
          refine ⟨⟨by omega, by simp [h0], by omega, by omega, by omega⟩, by simp⟩
        · cases he
      · rename_i h0
        split at he
        · cases he
        rename_i l nd1 r1 h1
        simp only [Option.some.injEq, Prod.mk.injEq] at he
        obtain ⟨rfl, rfl, rfl⟩ := he
        obtain ⟨e1, f1, d1, n1, m1, g1⟩ := reps_sound (pk_sound d) _ _ _ _ _ _ hr (by omega) h1
        refine ⟨by simp [packT, h0, e8, e1], ?_, by simp only [Tm.depth]; omega, by simp only [Tm.size]; omega, m1⟩
        rw [formed_mk]
        exact ⟨⟨by omega, by omega, by omega, by omega, by omega⟩, f1⟩
end Go.Px
/- Blocks' forms; right declarations: plain. -/
set_option linter.unusedVariables false
set_option linter.unusedSimpArgs false
namespace Go.Px

mutual
def within : Tm → Int → Int → Bool
  | .mk k n l, vars, consts => if k = 1 then decide (n < vars) else if k = 2 then decide (n ≤ 6) else if k = 3 then decide (n < consts) else withins l 0 k vars consts
def withins : List Tm → Int → Int → Int → Int → Bool
  | [], _, _, _, _ => true
  | t :: r, i, k, vars, consts => within t (vars + binds k i) consts && withins r (i + 1) k vars consts
end
def tmScope (t : Tm) (vars consts : Int) : Bool := decide (0 ≤ vars) && decide (0 ≤ consts) && tmCheck t == 0 && within t (min vars 65536) consts
def inS (t : Tm) (vars : Int) : Bool := tmScope t vars 65536
/-- terms, each in one variable more than the one before -/
def inRow : List Tm → Int → Bool
  | [], _ => true
  | t :: r, v => inS t v && inRow r (v + 1)
def idxLen (b : Blk) (k : Int) : Nat := ((b.sorts[k.toNat]?).map (·.idx.length)).getD 0
def sortIn (b : Blk) (k : Int) : Bool := decide (0 ≤ k) && decide (k < b.sorts.length)
def argOk (b : Blk) (a : Ag) (i : Int) : Bool :=
  if !a.rc then inS a.type i && (a.dom.isEmpty && a.idx.isEmpty) && a.sort == 0
  else isNone a.type && decide (a.dom.length ≤ 12) && sortIn b a.sort && decide (a.idx.length = idxLen b a.sort) && inRow a.dom i && a.idx.all fun t => inS t (i + a.dom.length)
def argsOk (b : Blk) : List Ag → Int → Bool
  | [], _ => true
  | a :: r, i => argOk b a i && argsOk b r (i + 1)
def rowOk (b : Blk) (l : List Ag) : Bool := decide (l.length ≤ 12) && argsOk b l 0
def levelOk (n : Int) : Bool := decide (0 ≤ n) && decide (n ≤ 6)
def maybeOk (is : Bool) (t : Tm) (vars : Int) : Bool := if is then inS t vars else isNone t
def srtOk (b : Blk) (k : Int) (s : Srt) : Bool :=
  rowOk b s.idx && levelOk s.level && maybeOk s.dec s.decType s.idx.length && !s.idx.any fun a => a.rc && (!a.dom.isEmpty || decide (k ≤ a.sort) || s.dec)
def srtsOk (b : Blk) : List Srt → Int → Bool
  | [], _ => true
  | s :: r, k => srtOk b k s && srtsOk b r (k + 1)
def sortDec (b : Blk) (k : Int) : Bool := ((b.sorts[k.toNat]?).map (·.dec)).getD false
def cnOk (b : Blk) (c : Cn) : Bool :=
  sortIn b c.sort && rowOk b c.args && decide (c.idx.length = idxLen b c.sort) && (c.idx.all fun t => inS t c.args.length) && maybeOk (sortDec b c.sort) c.dec c.args.length
def blkOk (b : Blk) : Bool :=
  decide (1 ≤ b.sorts.length) && decide (b.sorts.length ≤ 4) && decide (b.cons.length ≤ 8) && levelOk b.elim && srtsOk b b.sorts 0 && b.cons.all (cnOk b)
def isPlain (b : Blk) : Bool := b.sorts.isEmpty && b.elim == 0 && b.cons.isEmpty
theorem isPlain_iff {b : Blk} : isPlain b = true ↔ b = Blk.zero := by
  obtain ⟨s, c, e⟩ := b
  cases s <;> cases c <;> simp [isPlain, Blk.zero]
def dclOk (d : Dcl) : Bool :=
  if d.kind = 1 then tmCheck d.type == 0 && isNone d.body && isPlain d.block
  else if d.kind = 2 then tmCheck d.type == 0 && tmCheck d.body == 0 && isPlain d.block
  else if d.kind = 3 then isNone d.type && isNone d.body && blkOk d.block
  else false

/-! ### what is right can be written -/
def okTm (t : Tm) : Prop := t = Tm.zero ∨ tmCheck t = 0
def okN (n : Int) : Prop := 0 ≤ n ∧ n ≤ 255
def okTms (l : List Tm) : Prop := l.length ≤ 255 ∧ ∀ t ∈ l, okTm t
def okAg (a : Ag) : Prop := okTm a.type ∧ okTms a.dom ∧ okN a.sort ∧ okTms a.idx
def okAgs (l : List Ag) : Prop := l.length ≤ 255 ∧ ∀ a ∈ l, okAg a
def okSrt (s : Srt) : Prop := okAgs s.idx ∧ okN s.level ∧ okTm s.decType
def okCn (c : Cn) : Prop := okN c.sort ∧ okAgs c.args ∧ okTms c.idx ∧ okTm c.dec
def okBlk (b : Blk) : Prop := (b.sorts.length ≤ 255 ∧ ∀ s ∈ b.sorts, okSrt s) ∧ (b.cons.length ≤ 255 ∧ ∀ c ∈ b.cons, okCn c) ∧ okN b.elim

theorem inS_ok {t : Tm} {v : Int} (h : inS t v = true) : okTm t := by
  simp only [inS, tmScope, Bool.and_eq_true, beq_iff_eq] at h
  exact .inr h.1.2
theorem none_ok {t : Tm} (h : isNone t = true) : okTm t := .inl (isNone_iff.1 h)
theorem maybe_ok {is : Bool} {t : Tm} {v : Int} (h : maybeOk is t v = true) : okTm t := by
  unfold maybeOk at h
  cases is
  · exact none_ok (by simpa using h)
  · exact inS_ok (by simpa using h)
theorem inRow_ok : ∀ {l : List Tm} {v : Int}, inRow l v = true → ∀ t ∈ l, okTm t
  | [], _, _ => by simp
  | a :: r, v, h => by
    simp only [inRow, Bool.and_eq_true] at h
    intro t ht
    rcases List.mem_cons.1 ht with e | ht
    · rw [e]; exact inS_ok h.1
    · exact inRow_ok h.2 t ht
theorem rowOk_lens {b : Blk} (hb : ∀ s ∈ b.sorts, s.idx.length ≤ 12) (k : Int) : idxLen b k ≤ 12 := by
  unfold idxLen
  cases h : b.sorts[k.toNat]? with
  | none => simp
  | some s => simpa using hb s (List.mem_of_getElem? h)
theorem argOk_ok {b : Blk} (hs : b.sorts.length ≤ 4) (hb : ∀ s ∈ b.sorts, s.idx.length ≤ 12) {a : Ag} {i : Int} (h : argOk b a i = true) : okAg a := by
  unfold argOk at h
  split at h
  · simp only [Bool.and_eq_true, List.isEmpty_iff, beq_iff_eq] at h
    obtain ⟨⟨h1, h2, h3⟩, h4⟩ := h
    exact ⟨inS_ok h1, by simp [okTms, h2], by simp [okN, h4], by simp [okTms, h3]⟩
  · simp only [Bool.and_eq_true, decide_eq_true_eq, List.all_eq_true, sortIn] at h
    obtain ⟨⟨⟨⟨⟨h1, h2⟩, h3, h4⟩, h5⟩, h6⟩, h7⟩ := h
    have := rowOk_lens hb a.sort
    exact ⟨none_ok h1, ⟨by omega, inRow_ok h6⟩, ⟨h3, by omega⟩, ⟨by omega, fun t ht => inS_ok (h7 t ht)⟩⟩
theorem argsOk_ok {b : Blk} (hs : b.sorts.length ≤ 4) (hb : ∀ s ∈ b.sorts, s.idx.length ≤ 12) : ∀ {l : List Ag} {i : Int}, argsOk b l i = true → ∀ a ∈ l, okAg a
  | [], _, _ => by simp
  | x :: r, i, h => by
    simp only [argsOk, Bool.and_eq_true] at h
    intro a ha
    rcases List.mem_cons.1 ha with e | ha
    · rw [e]; exact argOk_ok hs hb h.1
    · exact argsOk_ok hs hb h.2 a ha
theorem rowOk_ok {b : Blk} (hs : b.sorts.length ≤ 4) (hb : ∀ s ∈ b.sorts, s.idx.length ≤ 12) {l : List Ag} (h : rowOk b l = true) : okAgs l := by
  simp only [rowOk, Bool.and_eq_true, decide_eq_true_eq] at h
  exact ⟨by omega, argsOk_ok hs hb h.2⟩
theorem levelOk_ok {n : Int} (h : levelOk n = true) : okN n := by
  simp only [levelOk, Bool.and_eq_true, decide_eq_true_eq] at h
  exact ⟨h.1, by omega⟩
theorem srtsOk_get {b : Blk} : ∀ {l : List Srt} {k : Int}, srtsOk b l k = true → ∀ s ∈ l, ∃ j, srtOk b j s = true
  | [], _, _ => by simp
  | x :: r, k, h => by
    simp only [srtsOk, Bool.and_eq_true] at h
    intro s hs
    rcases List.mem_cons.1 hs with e | hs
    · rw [e]; exact ⟨k, h.1⟩
    · exact srtsOk_get h.2 s hs
theorem blkOk_lens {b : Blk} (h : blkOk b = true) : b.sorts.length ≤ 4 ∧ b.cons.length ≤ 8 ∧ ∀ s ∈ b.sorts, s.idx.length ≤ 12 := by
  simp only [blkOk, Bool.and_eq_true, decide_eq_true_eq] at h
  refine ⟨h.1.1.1.1.2, h.1.1.1.2, fun s hs => ?_⟩
  obtain ⟨j, hj⟩ := srtsOk_get h.1.2 s hs
  simp only [srtOk, rowOk, Bool.and_eq_true, decide_eq_true_eq] at hj
  exact hj.1.1.1.1
theorem blkOk_ok {b : Blk} (h : blkOk b = true) : okBlk b := by
  obtain ⟨h1, h2, h3⟩ := blkOk_lens h
  simp only [blkOk, Bool.and_eq_true, List.all_eq_true] at h
  refine ⟨⟨by omega, fun s hs => ?_⟩, ⟨by omega, fun c hc => ?_⟩, levelOk_ok h.1.1.2⟩
  · obtain ⟨j, hj⟩ := srtsOk_get h.1.2 s hs
    simp only [srtOk, Bool.and_eq_true] at hj
    exact ⟨rowOk_ok h1 h3 hj.1.1.1, levelOk_ok hj.1.1.2, maybe_ok hj.1.2⟩
  · have hj := h.2 c hc
    simp only [cnOk, sortIn, Bool.and_eq_true, decide_eq_true_eq, List.all_eq_true] at hj
    obtain ⟨⟨⟨⟨⟨h4, h5⟩, h6⟩, h7⟩, h8⟩, h9⟩ := hj
    have := rowOk_lens h3 c.sort
    exact ⟨⟨h4, by omega⟩, rowOk_ok h1 h3 h6, ⟨by omega, fun t ht => inS_ok (h8 t ht)⟩, maybe_ok h9⟩
end Go.Px
