/- The small language and its proofs, part 2. -/
import Derived.Test.YtdijeendcpoemaaPx1
import Derived.Test.YtdijeendcpoemaaRows
import Derived.Deep.Slices
import Derived.ProofKit
import Derived.Below
import Derived.ChangeSame
import Derived.Carry
import Derived.OpenShut
import Derived.JoinedCond
import Derived.WideKeyArgs
set_option linter.all false
set_option linter.unusedVariables false
set_option linter.unusedSimpArgs false
set_option linter.unusedSectionVars false
/- Declarations as bytes, written and read: plain. -/
set_option linter.unusedVariables false
set_option linter.unusedSimpArgs false
namespace Go.Px

/-! ### written -/
def tmBytes (t : Tm) : List Int := if isNone t then [0] else packT t
def tmsBytes (l : List Tm) : List Int := l.flatMap tmBytes
def flByte (b : Bool) : Int := if b then 1 else 0
def rowBytes (l : List Tm) : List Int := u8 l.length :: tmsBytes l
def agBytes (a : Ag) : List Int := flByte a.rc :: (tmBytes a.type ++ (rowBytes a.dom ++ u8 a.sort :: rowBytes a.idx))
def agsBytes (l : List Ag) : List Int := l.flatMap agBytes
def argsBytes (l : List Ag) : List Int := u8 l.length :: agsBytes l
def srtBytes (s : Srt) : List Int := argsBytes s.idx ++ (u8 s.level :: flByte s.dec :: tmBytes s.decType)
def srtsBytes (l : List Srt) : List Int := l.flatMap srtBytes
def cnBytes (c : Cn) : List Int := u8 c.sort :: (argsBytes c.args ++ (rowBytes c.idx ++ tmBytes c.dec))
def cnsBytes (l : List Cn) : List Int := l.flatMap cnBytes
def blkBytes (b : Blk) : List Int := (u8 b.sorts.length :: srtsBytes b.sorts) ++ ((u8 b.cons.length :: cnsBytes b.cons) ++ [u8 b.elim])
def dclBytes (d : Dcl) : List Int := u8 d.kind :: (if d.kind = 1 then tmBytes d.type else if d.kind = 2 then tmBytes d.type ++ tmBytes d.body else blkBytes d.block)
def dclsBytes (l : List Dcl) : List Int := l.flatMap dclBytes
def pileBytes (l : List Dcl) : List Int := u8 l.length :: dclsBytes l

/-! ### read -/
abbrev Pr (α : Type) : Type := List Int → Option (α × List Int)
def pNum : Pr Int
  | [] => none
  | n :: r => some (n, r)
def pFlag : Pr Bool
  | [] => none
  | n :: r => if 1 < n then none else some (n == 1, r)
def pTm : Pr Tm
  | [] => none
  | k :: r => if k = 0 then some (Tm.zero, r) else (pkT 200 0 (k :: r)).map fun x => (x.1, x.2.2)
def pRep {α : Type} (f : Pr α) : Nat → Pr (List α)
  | 0, r => some ([], r)
  | n + 1, r => match f r with
    | none => none
    | some (t, r1) => match pRep f n r1 with
      | none => none
      | some (l, r2) => some (t :: l, r2)
def pSeq {α β : Type} (f : Pr α) (g : Pr β) : Pr (α × β) := fun r => match f r with
  | none => none
  | some (a, r1) => match g r1 with
    | none => none
    | some (b, r2) => some ((a, b), r2)
def pMap {α β : Type} (h : α → β) (f : Pr α) : Pr β := fun r => match f r with
  | none => none
  | some (a, r1) => some (h a, r1)
def pList {α : Type} (f : Pr α) : Pr (List α) := fun r => match pNum r with
  | none => none
  | some (n, r1) => pRep f n.toNat r1
def pRow : Pr (List Tm) := pList pTm
def pAg : Pr Ag := pMap (fun x => ⟨x.1, x.2.1, x.2.2.1, x.2.2.2.1, x.2.2.2.2⟩) (pSeq pFlag (pSeq pTm (pSeq pRow (pSeq pNum pRow))))
def pArgs : Pr (List Ag) := pList pAg
def pSrt : Pr Srt := pMap (fun x => ⟨x.1, x.2.1, x.2.2.1, x.2.2.2⟩) (pSeq pArgs (pSeq pNum (pSeq pFlag pTm)))
def pCn : Pr Cn := pMap (fun x => ⟨x.1, x.2.1, x.2.2.1, x.2.2.2⟩) (pSeq pNum (pSeq pArgs (pSeq pRow pTm)))
def pBlk : Pr Blk := pMap (fun x => ⟨x.1, x.2.1, x.2.2⟩) (pSeq (pList pSrt) (pSeq (pList pCn) pNum))
def pBody (k : Int) : Pr Dcl :=
  if k = 1 then pMap (fun t => ⟨k, t, Tm.zero, Blk.zero⟩) pTm
  else if k = 2 then pMap (fun x => ⟨k, x.1, x.2, Blk.zero⟩) (pSeq pTm pTm)
  else if k = 3 then pMap (fun b => ⟨k, Tm.zero, Tm.zero, b⟩) pBlk
  else fun _ => none
def pDcl : Pr Dcl := fun r => match pNum r with
  | none => none
  | some (k, r1) => match pBody k r1 with
    | none => none
    | some (d, r2) => if dclOk d then some (d, r2) else none
def pPile : Pr (List Dcl) := fun r => match pNum r with
  | none => none
  | some (n, r1) => if 60 < n then none else pRep pDcl n.toNat r1
def pGet (b : List Int) : Option (List Dcl) := if 65536 < b.length then none else match pPile b with
  | some (l, []) => some l
  | _ => none

/-! ### one is the other's -/
structure Iso {α : Type} (p : Pr α) (w : α → List Int) (ok : α → Prop) : Prop where
  fwd : ∀ x rest, ok x → p (w x ++ rest) = some (x, rest)
  bwd : ∀ bs x rest, okB bs → p bs = some (x, rest) → bs = w x ++ rest ∧ ok x
theorem Iso.rest {α : Type} {p : Pr α} {w : α → List Int} {ok : α → Prop} (h : Iso p w ok) {bs : List Int} {x : α} {rest : List Int} (hb : okB bs) (he : p bs = some (x, rest)) : okB rest := by
  have := (h.bwd bs x rest hb he).1
  rw [this] at hb
  exact (okB_append.1 hb).2
theorem iso_num : Iso pNum (fun n => [u8 n]) okN where
  fwd x rest h := by simp [pNum, u8_id h.1 h.2]
  bwd bs x rest hb he := by
    cases bs with
    | nil => simp [pNum] at he
    | cons n r =>
      simp only [pNum, Option.some.injEq, Prod.mk.injEq] at he
      obtain ⟨rfl, rfl⟩ := he
      have := (okB_cons.1 hb).1
      exact ⟨by simp [u8_id this.1 this.2], this⟩
theorem iso_flag : Iso pFlag (fun b => [flByte b]) (fun _ => True) where
  fwd x rest h := by cases x <;> simp [pFlag, flByte]
  bwd bs x rest hb he := by
    cases bs with
    | nil => simp [pFlag] at he
    | cons n r =>
      simp only [pFlag] at he
      have := (okB_cons.1 hb).1
      split at he
      · cases he
      · simp only [Option.some.injEq, Prod.mk.injEq] at he
        obtain ⟨rfl, rfl⟩ := he
        refine ⟨?_, trivial⟩
        by_cases h1 : n = 1
        · simp [flByte, h1]
        · have : n = 0 := by omega
          simp [flByte, this]
theorem iso_tm : Iso pTm tmBytes okTm where
  fwd t rest h := by
    unfold tmBytes
    rcases h with rfl | h
    · simp [isNone, Tm.zero, pTm]
    · obtain ⟨h1, h2, h3⟩ := tmCheck_zero.1 h
      have hp := pk_pack t 200 0 rest h3 h2 (by omega)
      obtain ⟨k, n, l⟩ := t
      have hk := kidsOf_range (formed_mk.1 h3).1.1
      have hn : isNone (.mk k n l) = false := by
        have : ¬ k = 0 := by omega
        simp [isNone, this]
      have e : u8 k = k := u8_id (by omega) (by omega)
      simp only [packT, e, List.cons_append] at hp
      have h0 : ¬ k = 0 := by omega
      simp [hn, packT, e, pTm, h0, hp]
  bwd bs t rest hb he := by
    cases bs with
    | nil => simp [pTm] at he
    | cons k r =>
      simp only [pTm] at he
      split at he
      · rename_i h0
        simp only [Option.some.injEq, Prod.mk.injEq] at he
        obtain ⟨rfl, rfl⟩ := he
        exact ⟨by simp [tmBytes, isNone, Tm.zero, h0], .inl rfl⟩
      · rename_i h0
        rw [Option.map_eq_some_iff] at he
        obtain ⟨⟨t1, nd, r1⟩, h1, h2⟩ := he
        simp only [Prod.mk.injEq] at h2
        obtain ⟨rfl, rfl⟩ := h2
        obtain ⟨e1, f1, d1, n1, m1⟩ := pk_sound 200 0 _ _ _ _ hb h1
        have hc : tmCheck t1 = 0 := tmCheck_zero.2 ⟨by omega, d1, f1⟩
        refine ⟨?_, .inr hc⟩
        have hn : isNone t1 = false := by
          obtain ⟨k', n', l'⟩ := t1
          have hk := kidsOf_range (formed_mk.1 f1).1.1
          have : ¬ k' = 0 := by omega
          simp [isNone, this]
        simp [tmBytes, hn, e1]
theorem Iso.rep {α : Type} {p : Pr α} {w : α → List Int} {ok : α → Prop} (h : Iso p w ok) : ∀ n, Iso (pRep p n) (fun l => l.flatMap w) (fun l => l.length = n ∧ ∀ x ∈ l, ok x)
  | 0 => {
    fwd := fun x rest hx => by
      obtain rfl := List.length_eq_zero_iff.1 hx.1
      simp [pRep]
    bwd := fun bs x rest hb he => by
      simp only [pRep, Option.some.injEq, Prod.mk.injEq] at he
      obtain ⟨rfl, rfl⟩ := he
      simp }
  | n + 1 => {
    fwd := fun x rest hx => by
      obtain ⟨h1, h2⟩ := hx
      cases x with
      | nil => simp at h1
      | cons a l =>
        simp only [List.flatMap_cons, List.append_assoc, pRep]
        rw [h.fwd a _ (h2 a (by simp))]
        simp only
        rw [(Iso.rep h n).fwd l rest ⟨by simpa using h1, fun y hy => h2 y (by simp [hy])⟩]
    bwd := fun bs x rest hb he => by
      simp only [pRep] at he
      split at he
      · cases he
      rename_i t r1 h1
      split at he
      · cases he
      rename_i l r2 h2
      simp only [Option.some.injEq, Prod.mk.injEq] at he
      obtain ⟨rfl, rfl⟩ := he
      obtain ⟨e1, o1⟩ := h.bwd _ _ _ hb h1
      obtain ⟨e2, o2, o3⟩ := (Iso.rep h n).bwd _ _ _ (h.rest hb h1) h2
      refine ⟨by rw [e1, e2]; simp, by simp [o2], fun y hy => ?_⟩
      rcases List.mem_cons.1 hy with e | hy
      · rw [e]; exact o1
      · exact o3 y hy }
theorem Iso.list {α : Type} {p : Pr α} {w : α → List Int} {ok : α → Prop} (h : Iso p w ok) : Iso (pList p) (fun l => u8 l.length :: l.flatMap w) (fun l => l.length ≤ 255 ∧ ∀ x ∈ l, ok x) where
  fwd x rest hx := by
    have e : u8 (x.length : Int) = x.length := u8_id (by omega) (by omega)
    simp only [pList, e, List.cons_append, pNum, Int.toNat_natCast]
    exact (h.rep x.length).fwd x rest ⟨rfl, hx.2⟩
  bwd bs x rest hb he := by
    simp only [pList] at he
    split at he
    · cases he
    rename_i n r1 h1
    obtain ⟨e1, o1⟩ := iso_num.bwd _ _ _ hb h1
    obtain ⟨e2, o2, o3⟩ := (h.rep _).bwd _ _ _ (iso_num.rest hb h1) he
    have hn : n = (x.length : Int) := by have := o1.1; omega
    refine ⟨by rw [e1, e2, hn]; simp, by have := o1.2; omega, o3⟩
theorem Iso.seq {α β : Type} {p : Pr α} {w : α → List Int} {ok : α → Prop} (h : Iso p w ok) {p' : Pr β} {w' : β → List Int} {ok' : β → Prop} (h' : Iso p' w' ok') :
    Iso (pSeq p p') (fun x => w x.1 ++ w' x.2) (fun x => ok x.1 ∧ ok' x.2) where
  fwd x rest hx := by
    simp only [pSeq, List.append_assoc]
    rw [h.fwd _ _ hx.1]
    simp only
    rw [h'.fwd _ _ hx.2]
  bwd bs x rest hb he := by
    simp only [pSeq] at he
    split at he
    · cases he
    rename_i a r1 h1
    split at he
    · cases he
    rename_i b r2 h2
    simp only [Option.some.injEq, Prod.mk.injEq] at he
    obtain ⟨rfl, rfl⟩ := he
    obtain ⟨e1, o1⟩ := h.bwd _ _ _ hb h1
    obtain ⟨e2, o2⟩ := h'.bwd _ _ _ (h.rest hb h1) h2
    exact ⟨by rw [e1, e2]; simp, o1, o2⟩
theorem Iso.map {α β : Type} {p : Pr α} {w : α → List Int} {ok : α → Prop} (h : Iso p w ok) (f : α → β) (g : β → α) (hfg : ∀ b, f (g b) = b) (hgf : ∀ a, g (f a) = a) {w' : β → List Int} {ok' : β → Prop}
    (hw : ∀ b, w' b = w (g b)) (ho : ∀ b, ok' b ↔ ok (g b)) : Iso (pMap f p) w' ok' where
  fwd x rest hx := by
    simp only [pMap, hw]
    rw [h.fwd _ _ ((ho x).1 hx)]
    simp [hfg]
  bwd bs x rest hb he := by
    simp only [pMap] at he
    split at he
    · cases he
    rename_i a r1 h1
    simp only [Option.some.injEq, Prod.mk.injEq] at he
    obtain ⟨rfl, rfl⟩ := he
    obtain ⟨e1, o1⟩ := h.bwd _ _ _ hb h1
    exact ⟨by rw [hw, hgf, e1], (ho _).2 (by rw [hgf]; exact o1)⟩
theorem iso_row : Iso pRow rowBytes okTms := iso_tm.list
theorem iso_ag : Iso pAg agBytes okAg :=
  (iso_flag.seq (iso_tm.seq (iso_row.seq (iso_num.seq iso_row)))).map _ (fun a => (a.rc, a.type, a.dom, a.sort, a.idx)) (fun _ => rfl) (fun _ => rfl) (fun _ => rfl) (fun a => by simp [okAg])
theorem iso_args : Iso pArgs argsBytes okAgs := iso_ag.list
theorem iso_srt : Iso pSrt srtBytes okSrt :=
  (iso_args.seq (iso_num.seq (iso_flag.seq iso_tm))).map _ (fun s => (s.idx, s.level, s.dec, s.decType)) (fun _ => rfl) (fun _ => rfl) (fun _ => rfl) (fun a => by simp [okSrt])
theorem iso_cn : Iso pCn cnBytes okCn :=
  (iso_num.seq (iso_args.seq (iso_row.seq iso_tm))).map _ (fun c => (c.sort, c.args, c.idx, c.dec)) (fun _ => rfl) (fun _ => rfl) (fun _ => rfl) (fun a => by simp [okCn])
theorem iso_blk : Iso pBlk blkBytes okBlk :=
  (iso_srt.list.seq (iso_cn.list.seq iso_num)).map _ (fun b => (b.sorts, b.cons, b.elim)) (fun _ => rfl) (fun _ => rfl) (fun _ => rfl) (fun a => by simp [okBlk])
theorem iso_dcl : Iso pDcl dclBytes (fun d => dclOk d = true) where
  fwd d rest h := by
    have h0 := h
    obtain ⟨k, t, u, b⟩ := d
    unfold dclOk at h
    simp only at h
    split at h
    · rename_i hk
      subst hk
      simp only [Bool.and_eq_true, beq_iff_eq] at h
      obtain ⟨⟨h1, h2⟩, h3⟩ := h
      obtain rfl := isNone_iff.1 h2
      obtain rfl := isPlain_iff.1 h3
      have e : u8 1 = 1 := by decide
      simp [pDcl, dclBytes, e, pNum, pBody, pMap, iso_tm.fwd t rest (.inr h1), h0]
    split at h
    · rename_i hk
      subst hk
      simp only [Bool.and_eq_true, beq_iff_eq] at h
      obtain ⟨⟨h1, h2⟩, h3⟩ := h
      obtain rfl := isPlain_iff.1 h3
      have e : u8 2 = 2 := by decide
      have := (iso_tm.seq iso_tm).fwd (t, u) rest ⟨.inr h1, .inr h2⟩
      simp at this
      simp [pDcl, dclBytes, e, pNum, pBody, pMap, this, h0]
    split at h
    · rename_i hk
      subst hk
      simp only [Bool.and_eq_true] at h
      obtain ⟨⟨h1, h2⟩, h3⟩ := h
      obtain rfl := isNone_iff.1 h1
      obtain rfl := isNone_iff.1 h2
      have e : u8 3 = 3 := by decide
      simp [pDcl, dclBytes, e, pNum, pBody, pMap, iso_blk.fwd b rest (blkOk_ok h3), h0]
    · cases h
  bwd bs d rest hb he := by
    simp only [pDcl] at he
    split at he
    · cases he
    rename_i k r1 h1
    split at he
    · cases he
    rename_i d1 r2 h2
    split at he
    · rename_i hd
      simp only [Option.some.injEq, Prod.mk.injEq] at he
      obtain ⟨rfl, rfl⟩ := he
      refine ⟨?_, hd⟩
      obtain ⟨e1, o1⟩ := iso_num.bwd _ _ _ hb h1
      have hb1 := iso_num.rest hb h1
      unfold pBody at h2
      split at h2
      · rename_i hk
        simp only [pMap] at h2
        split at h2
        · cases h2
        rename_i t r3 h3
        simp only [Option.some.injEq, Prod.mk.injEq] at h2
        obtain ⟨rfl, rfl⟩ := h2
        obtain ⟨e2, o2⟩ := iso_tm.bwd _ _ _ hb1 h3
        rw [e1, e2]
        simp [dclBytes, hk]
      split at h2
      · rename_i hk
        simp only [pMap] at h2
        split at h2
        · cases h2
        rename_i t r3 h3
        simp only [Option.some.injEq, Prod.mk.injEq] at h2
        obtain ⟨rfl, rfl⟩ := h2
        obtain ⟨e2, o2⟩ := (iso_tm.seq iso_tm).bwd _ _ _ hb1 h3
        rw [e1, e2]
        simp [dclBytes, hk]
      split at h2
      · rename_i hk
        simp only [pMap] at h2
        split at h2
        · cases h2
        rename_i t r3 h3
        simp only [Option.some.injEq, Prod.mk.injEq] at h2
        obtain ⟨rfl, rfl⟩ := h2
        obtain ⟨e2, o2⟩ := iso_blk.bwd _ _ _ hb1 h3
        rw [e1, e2]
        simp [dclBytes, hk]
      · cases h2
    · cases he
def okPile (l : List Dcl) : Prop := l.length ≤ 60 ∧ ∀ d ∈ l, dclOk d = true
theorem iso_pile : Iso pPile pileBytes okPile where
  fwd x rest hx := by
    have h1 := hx.1
    have e : u8 (x.length : Int) = x.length := u8_id (by omega) (by omega)
    simp only [pPile, pileBytes, e, List.cons_append, pNum, Int.toNat_natCast]
    rw [if_neg (by omega)]
    exact (iso_dcl.rep x.length).fwd x rest ⟨rfl, hx.2⟩
  bwd bs x rest hb he := by
    simp only [pPile] at he
    split at he
    · cases he
    rename_i n r1 h1
    obtain ⟨e1, o1⟩ := iso_num.bwd _ _ _ hb h1
    split at he
    · cases he
    rename_i hn60
    obtain ⟨e2, o2, o3⟩ := (iso_dcl.rep _).bwd _ _ _ (iso_num.rest hb h1) he
    have hn : n = (x.length : Int) := by have := o1.1; omega
    refine ⟨by rw [e1, e2, hn]; simp [pileBytes, dclsBytes], by omega, o3⟩
theorem get_put {l : List Dcl} (h : okPile l) (hl : (pileBytes l).length ≤ 65536) : pGet (pileBytes l) = some l := by
  unfold pGet
  rw [if_neg (by omega)]
  have := iso_pile.fwd l [] h
  rw [List.append_nil] at this
  rw [this]
theorem put_get {b : List Int} {l : List Dcl} (hb : okB b) (h : pGet b = some l) : b = pileBytes l ∧ okPile l ∧ b.length ≤ 65536 := by
  unfold pGet at h
  split at h
  · cases h
  split at h
  · rename_i l1 h1
    cases h
    obtain ⟨e1, o1⟩ := iso_pile.bwd _ _ _ hb h1
    exact ⟨by simpa using e1, o1, by omega⟩
  · cases h
/-- cut short, or longer: none -/
theorem get_cut {l : List Dcl} (h : okPile l) {c : Nat} (hc : c < (pileBytes l).length) (hb : okB (pileBytes l)) : pGet ((pileBytes l).take c) = none := by
  cases hg : pGet ((pileBytes l).take c) with
  | none => rfl
  | some k =>
    obtain ⟨e, o, _⟩ := put_get (b := (pileBytes l).take c) (fun x hx => hb x (List.mem_of_mem_take hx)) hg
    have h1 := iso_pile.fwd l [] h
    have h2 := iso_pile.fwd k ((pileBytes l).drop c) o
    rw [← e, List.take_append_drop] at h2
    rw [List.append_nil, h2] at h1
    simp only [Option.some.injEq, Prod.mk.injEq] at h1
    have := congrArg List.length h1.2
    simp at this
    omega
theorem get_more {l : List Dcl} (h : okPile l) {m : Int} (hb : okB (pileBytes l ++ [m])) : pGet (pileBytes l ++ [m]) = none := by
  cases hg : pGet (pileBytes l ++ [m]) with
  | none => rfl
  | some k =>
    obtain ⟨e, o, _⟩ := put_get hb hg
    have h1 := iso_pile.fwd l [m] h
    have h2 := iso_pile.fwd k [] o
    rw [List.append_nil, ← e, h1] at h2
    simp at h2
theorem pile_inj {l k : List Dcl} (h : okPile l) (h' : okPile k) (e : pileBytes l = pileBytes k) : l = k := by
  have h1 := iso_pile.fwd l [] h
  have h2 := iso_pile.fwd k [] h'
  rw [e] at h1
  rw [h1] at h2
  simpa using h2
theorem tmBytes_ok (t : Tm) : okB (tmBytes t) := by
  unfold tmBytes
  split
  · simp [okB]
  · exact packT_ok t
theorem tmsBytes_ok (l : List Tm) : okB (tmsBytes l) := by
  intro x hx
  obtain ⟨t, _, h⟩ := List.mem_flatMap.1 hx
  exact tmBytes_ok t x h
theorem flByte_ok (b : Bool) : 0 ≤ flByte b ∧ flByte b ≤ 255 := by cases b <;> simp [flByte]
theorem agsBytes_ok (l : List Ag) : okB (agsBytes l) := by
  intro x hx
  obtain ⟨a, _, h⟩ := List.mem_flatMap.1 hx
  refine (?_ : okB (agBytes a)) x h
  exact okB_cons.2 ⟨flByte_ok _, okB_append.2 ⟨tmBytes_ok _, okB_append.2 ⟨okB_u8 _ (tmsBytes_ok _), okB_u8 _ (okB_u8 _ (tmsBytes_ok _))⟩⟩⟩
theorem srtsBytes_ok (l : List Srt) : okB (srtsBytes l) := by
  intro x hx
  obtain ⟨a, _, h⟩ := List.mem_flatMap.1 hx
  refine (?_ : okB (srtBytes a)) x h
  exact okB_append.2 ⟨okB_u8 _ (agsBytes_ok _), okB_u8 _ (okB_cons.2 ⟨flByte_ok _, tmBytes_ok _⟩)⟩
theorem cnsBytes_ok (l : List Cn) : okB (cnsBytes l) := by
  intro x hx
  obtain ⟨a, _, h⟩ := List.mem_flatMap.1 hx
  refine (?_ : okB (cnBytes a)) x h
  exact okB_u8 _ (okB_append.2 ⟨okB_u8 _ (agsBytes_ok _), okB_append.2 ⟨okB_u8 _ (tmsBytes_ok _), tmBytes_ok _⟩⟩)
theorem dclsBytes_ok (l : List Dcl) : okB (dclsBytes l) := by
  intro x hx
  obtain ⟨a, _, h⟩ := List.mem_flatMap.1 hx
  refine (?_ : okB (dclBytes a)) x h
  refine okB_u8 _ ?_
  split
  · exact tmBytes_ok _
  split
  · exact okB_append.2 ⟨tmBytes_ok _, tmBytes_ok _⟩
  · exact okB_append.2 ⟨okB_u8 _ (srtsBytes_ok _), okB_append.2 ⟨okB_u8 _ (cnsBytes_ok _), okB_u8 _ okB_nil⟩⟩
theorem pileBytes_ok (l : List Dcl) : okB (pileBytes l) := okB_u8 _ (dclsBytes_ok l)
end Go.Px
/- The program's data in cells; the simplifier's words for it. -/
set_option linter.unusedVariables false
namespace Go.Px
open Go

mutual
def Tm.cs : Tm → List PV
  | .mk k n l => [.int .i64 k, .int .i64 n, .sl .plain 3 (css l)]
def css : List Tm → List (List PV)
  | [] => []
  | t :: r => t.cs :: css r
end
@[simp] theorem cs_eq : ∀ t : Tm, t.cs = [.int .i64 t.k, .int .i64 t.n, .sl .plain 3 (css t.kids)]
  | .mk _ _ _ => by simp [Tm.cs]
theorem css_map : ∀ l : List Tm, css l = l.map Tm.cs
  | [] => rfl
  | t :: r => by simp [css, css_map r]
@[simp] theorem css_length (l : List Tm) : (css l).length = l.length := by simp [css_map]
@[simp] theorem css_get (l : List Tm) (i : Nat) : (css l)[i]? = (l[i]?).map Tm.cs := by simp [css_map]
@[simp] theorem css_nil : css [] = [] := rfl
theorem css_cons (t : Tm) (r : List Tm) : css (t :: r) = t.cs :: css r := rfl
theorem css_append (a b : List Tm) : css (a ++ b) = css a ++ css b := by simp [css_map]
theorem css_drop (l : List Tm) (n : Nat) : (css l).drop n = css (l.drop n) := by simp [css_map]
theorem css_take (l : List Tm) (n : Nat) : (css l).take n = css (l.take n) := by simp [css_map]
def Ag.cs (a : Ag) : List PV := [.bool a.rc, .int .i64 a.type.k, .int .i64 a.type.n, .sl .plain 3 (css a.type.kids), .sl .plain 3 (css a.dom), .int .i64 a.sort, .sl .plain 3 (css a.idx)]
def acs (l : List Ag) : List (List PV) := l.map Ag.cs
def Srt.cs (s : Srt) : List PV := [.sl .plain 7 (acs s.idx), .int .i64 s.level, .bool s.dec, .int .i64 s.decType.k, .int .i64 s.decType.n, .sl .plain 3 (css s.decType.kids)]
def scs (l : List Srt) : List (List PV) := l.map Srt.cs
def Cn.cs (c : Cn) : List PV := [.int .i64 c.sort, .sl .plain 7 (acs c.args), .sl .plain 3 (css c.idx), .int .i64 c.dec.k, .int .i64 c.dec.n, .sl .plain 3 (css c.dec.kids)]
def ccs (l : List Cn) : List (List PV) := l.map Cn.cs
def Blk.cs (b : Blk) : List PV := [.sl .plain 6 (scs b.sorts), .sl .plain 6 (ccs b.cons), .int .i64 b.elim]
def Dcl.cs (d : Dcl) : List PV := [.int .i64 d.kind, .int .i64 d.type.k, .int .i64 d.type.n, .sl .plain 3 (css d.type.kids), .int .i64 d.body.k, .int .i64 d.body.n, .sl .plain 3 (css d.body.kids),
  .sl .plain 6 (scs d.block.sorts), .sl .plain 6 (ccs d.block.cons), .int .i64 d.block.elim]
def dcs (l : List Dcl) : List (List PV) := l.map Dcl.cs
attribute [simp] Ag.cs Srt.cs Cn.cs Blk.cs Dcl.cs
@[simp] theorem acs_length (l : List Ag) : (acs l).length = l.length := by simp [acs]
@[simp] theorem acs_get (l : List Ag) (i : Nat) : (acs l)[i]? = (l[i]?).map Ag.cs := by simp [acs]
@[simp] theorem scs_length (l : List Srt) : (scs l).length = l.length := by simp [scs]
@[simp] theorem scs_get (l : List Srt) (i : Nat) : (scs l)[i]? = (l[i]?).map Srt.cs := by simp [scs]
@[simp] theorem ccs_length (l : List Cn) : (ccs l).length = l.length := by simp [ccs]
@[simp] theorem ccs_get (l : List Cn) (i : Nat) : (ccs l)[i]? = (l[i]?).map Cn.cs := by simp [ccs]
@[simp] theorem dcs_length (l : List Dcl) : (dcs l).length = l.length := by simp [dcs]
@[simp] theorem dcs_get (l : List Dcl) (i : Nat) : (dcs l)[i]? = (l[i]?).map Dcl.cs := by simp [dcs]
@[simp] theorem acs_nil : acs [] = [] := rfl
@[simp] theorem scs_nil : scs [] = [] := rfl
@[simp] theorem ccs_nil : ccs [] = [] := rfl
@[simp] theorem dcs_nil : dcs [] = [] := rfl
theorem acs_cons (a : Ag) (l : List Ag) : acs (a :: l) = a.cs :: acs l := rfl
theorem scs_cons (a : Srt) (l : List Srt) : scs (a :: l) = a.cs :: scs l := rfl
theorem ccs_cons (a : Cn) (l : List Cn) : ccs (a :: l) = a.cs :: ccs l := rfl
theorem dcs_cons (a : Dcl) (l : List Dcl) : dcs (a :: l) = a.cs :: dcs l := rfl
theorem acs_append (a b : List Ag) : acs (a ++ b) = acs a ++ acs b := by simp [acs]
theorem scs_append (a b : List Srt) : scs (a ++ b) = scs a ++ scs b := by simp [scs]
theorem ccs_append (a b : List Cn) : ccs (a ++ b) = ccs a ++ ccs b := by simp [ccs]
theorem dcs_append (a b : List Dcl) : dcs (a ++ b) = dcs a ++ dcs b := by simp [dcs]
def byR (l : List Int) : List (List PV) := l.map fun n => [.int .u8 n]
@[simp] theorem byR_length (l : List Int) : (byR l).length = l.length := by simp [byR]
@[simp] theorem byR_nil : byR [] = [] := rfl
@[simp] theorem byR_get (l : List Int) (i : Nat) : (byR l)[i]? = (l[i]?).map fun n => [PV.int .u8 n] := by simp [byR]
theorem byR_append (a b : List Int) : byR (a ++ b) = byR a ++ byR b := by simp [byR]
theorem byR_cons (a : Int) (l : List Int) : byR (a :: l) = [.int .u8 a] :: byR l := rfl
theorem wrap_u8 (n : Int) : IntKind.u8.wrap n = u8 n := by
  unfold u8
  simp [IntKind.wrap, IntKind.signed, IntKind.bits]
end Go.Px
namespace Go.Px
/-! ### tables of functions -/
def lk : List (Nat × MFun) → Nat → Option MFun
  | [], _ => none
  | (f, m) :: r, g => match Nat.beq f g with
    | true => some m
    | false => lk r g
/-- the system has these functions, none of them a given one -/
structure Has (S : Sys) (tab : List (Nat × MFun)) : Prop where
  ok : ∀ f m, lk tab f = some m → S.prog f = some m ∧ ∀ a o, S.prim f a o = none
theorem Has.eq {S : Sys} {tab : List (Nat × MFun)} (h : Has S tab) {f : Nat} {m : MFun} (hl : lk tab f = some m) (args : List PV) (objs : List Obj) : call S f args objs = runL S m args objs :=
  call_prog ((h.ok f m hl).2 args objs) (h.ok f m hl).1
end Go.Px
namespace Go.Px
/-! ### how a loop ends -/
def Ends (r : Option (Ex × St)) (Q : Ex → St → Prop) : Prop := ∃ e σ, r = some (e, σ) ∧ Q e σ
theorem Ends.mk {e : Ex} {σ : St} {Q : Ex → St → Prop} (h : Q e σ) : Ends (some (e, σ)) Q := ⟨e, σ, rfl, h⟩
theorem Ends.imp {r : Option (Ex × St)} {Q Q' : Ex → St → Prop} (h : Ends r Q) (hq : ∀ e σ, Q e σ → Q' e σ) : Ends r Q' := by
  obtain ⟨e, σ, h1, h2⟩ := h
  exact ⟨e, σ, h1, hq _ _ h2⟩
theorem Ends.cps {r : Option (Ex × St)} {Q : Ex → St → Prop} (h : ∀ Q' : Ex → St → Prop, (∀ e σ, Q e σ → Q' e σ) → Ends r Q') : Ends r Q := h Q fun _ _ h => h
/-- cells that lead nowhere -/
structure Pl (cs : List PV) : Prop where
  r : cs.flatMap PV.ref1 = []
  n : ∀ f, mapO (ren1 f) cs = some cs
  b : ∀ f s, cs.map (back1 f s) = cs
end Go.Px
namespace Go.Px
@[simp] theorem wrap_0 : IntKind.i64.wrap 0 = 0 := by decide
@[simp] theorem wrap_1 : IntKind.i64.wrap 1 = 1 := by decide
@[simp] theorem wrap_2 : IntKind.i64.wrap 2 = 2 := by decide
end Go.Px
/- The functions that piles reach, in the small language. -/
set_option maxRecDepth 100000
set_option linter.unusedVariables false
namespace Go.Px.B
open Go Go.Px
/-- porism/porismlaw22.PileUnlike -/
def m5 : MFun := { np := 4, res := [.t 8], own := false, code := .sq (.ops [.p 8 (.mv (.c (.bool false)))]) (.sq (.sq (.ops [.p 15 (.mv (.t 0)), .call (some 16) 20 false (.f 24) [(.t 15, false)], .p 17 (.mv (.t 16)), .g 17 false (some 18) (.p 18 (.mv (.t 1))), .g 17 false (some 19) (.call (some 19) 21 false (.f 24) [(.t 18, false)]), .p 20 (.pick (.t 17) (.c (.bool true)) (.t 19))]) (.ite (.t 20) (.sq (.ops [.p 8 (.mv (.c (.bool true)))]) (.rt)) (.sk))) (.sq (.ops [.p 22 (.mv (.t 0)), .call (some 23) 22 false (.f 25) [(.t 22, false)], .p 21 (.mv (.t 23)), .p 24 (.ext (.t 21) 0), .p 25 (.ext (.t 21) 1), .p 9 (.mv (.t 24)), .p 10 (.mv (.t 25))]) (.sq (.ops [.p 27 (.mv (.t 1)), .call (some 28) 23 false (.f 25) [(.t 27, false)], .p 26 (.mv (.t 28)), .p 29 (.ext (.t 26) 0), .p 30 (.ext (.t 26) 1), .p 11 (.mv (.t 29)), .p 12 (.mv (.t 30))]) (.sq (.sq (.ops [.p 31 (.mv (.t 10)), .p 32 (.bin .neq (.t 31) (.c (.int .i64 0))), .p 33 (.mv (.t 32)), .g 33 false (some 34) (.p 34 (.mv (.t 12))), .g 33 false (some 35) (.p 35 (.bin .neq (.t 34) (.c (.int .i64 0)))), .p 36 (.pick (.t 33) (.c (.bool true)) (.t 35))]) (.ite (.t 36) (.sq (.ops [.p 37 (.mv (.t 10)), .p 38 (.bin .eql (.t 37) (.c (.int .i64 0))), .p 39 (.mv (.t 38)), .g 39 false (some 40) (.p 40 (.mv (.t 9))), .g 39 false (some 41) (.p 41 (.len (.t 40))), .g 39 false (some 42) (.p 42 (.bin .eql (.t 41) (.c (.int .i64 0)))), .p 43 (.pick (.t 39) (.c (.bool true)) (.t 42)), .p 44 (.mv (.t 43)), .g 44 true (some 45) (.p 45 (.mv (.t 12))), .g 44 true (some 46) (.p 46 (.bin .eql (.t 45) (.c (.int .i64 0)))), .g 44 true (some 47) (.p 47 (.mv (.t 46))), .g 47 false (some 48) (.p 48 (.mv (.t 11))), .g 47 false (some 49) (.p 49 (.len (.t 48))), .g 47 false (some 50) (.p 50 (.bin .eql (.t 49) (.c (.int .i64 0)))), .g 44 true (some 51) (.p 51 (.pick (.t 47) (.c (.bool true)) (.t 50))), .p 52 (.pick (.t 44) (.t 51) (.c (.bool false))), .p 53 (.mv (.t 52)), .g 53 true (some 54) (.call (some 54) 24 false (.f 26) []), .p 55 (.pick (.t 53) (.t 54) (.c (.bool false))), .p 8 (.mv (.t 55))]) (.rt)) (.sk))) (.sq (.sq (.ops [.p 56 (.mv (.t 9)), .p 57 (.len (.t 56)), .p 58 (.bin .eql (.t 57) (.c (.int .i64 0))), .p 59 (.mv (.t 58)), .g 59 false (some 60) (.p 60 (.mv (.t 9))), .g 59 false (some 61) (.p 61 (.mv (.t 11))), .g 59 false (some 62) (.call (some 62) 25 false (.f 27) [(.t 60, false), (.t 61, false)]), .g 59 false (some 63) (.p 63 (.mv (.t 0))), .g 59 false (some 64) (.p 64 (.mv (.t 1))), .g 59 false (some 65) (.call (some 65) 26 false (.f 28) [(.t 63, false), (.t 64, false)]), .g 59 false (some 66) (.p 66 (.beq true (.t 62) (.t 65))), .p 67 (.pick (.t 59) (.c (.bool true)) (.t 66))]) (.ite (.t 67) (.sq (.ops [.p 8 (.mv (.c (.bool false)))]) (.rt)) (.sk))) (.sq (.ops [.p 69 (.mv (.t 9)), .p 70 (.mv (.t 2)), .p 71 (.cvt .u64 (.t 70)), .p 72 (.mv (.t 9)), .p 73 (.len (.t 72)), .p 74 (.cvt .u64 (.t 73)), .p 75 (.bin .rem (.t 71) (.t 74)), .p 76 (.cvt .i64 (.t 75)), .p 77 (.slc 1 (.t 69) none (some (.t 76))), .call (some 78) 27 false (.f 29) [(.t 77, false)], .p 68 (.mv (.t 78)), .p 79 (.ext (.t 68) 0), .p 80 (.ext (.t 68) 1), .p 13 (.mv (.t 79)), .p 10 (.mv (.t 80))]) (.sq (.ops [.p 82 (.mv (.t 9)), .call (some 83) 28 false (.f 30) [(.t 82, false)], .p 84 (.mv (.t 3)), .bsl 85 29 5 1 [.t 84], .app 86 30 5 1 1 (.t 83) (.t 85), .call (some 87) 31 false (.f 29) [(.t 86, false)], .p 81 (.mv (.t 87)), .p 88 (.ext (.t 81) 0), .p 89 (.ext (.t 81) 1), .p 14 (.mv (.t 88)), .p 12 (.mv (.t 89))]) (.sq (.ops [.p 90 (.mv (.t 10)), .p 91 (.bin .eql (.t 90) (.c (.int .i64 3))), .p 92 (.mv (.t 91)), .g 92 true (some 93) (.p 93 (.mv (.t 12))), .g 92 true (some 94) (.p 94 (.bin .eql (.t 93) (.c (.int .i64 3)))), .p 95 (.pick (.t 92) (.t 94) (.c (.bool false))), .p 96 (.mv (.t 95)), .g 96 true (some 97) (.p 97 (.mv (.t 13))), .g 96 true (some 98) (.p 98 (.len (.t 97))), .g 96 true (some 99) (.p 99 (.mv (.t 14))), .g 96 true (some 100) (.p 100 (.len (.t 99))), .g 96 true (some 101) (.p 101 (.bin .add (.t 98) (.t 100))), .g 96 true (some 102) (.p 102 (.bin .eql (.t 101) (.c (.int .i64 0)))), .p 103 (.pick (.t 96) (.t 102) (.c (.bool false))), .p 104 (.mv (.t 103)), .g 104 true (some 105) (.call (some 105) 32 false (.f 26) []), .p 106 (.pick (.t 104) (.t 105) (.c (.bool false))), .p 8 (.mv (.t 106))]) (.rt))))))))) }
def m6_l0 : MC := .sq (.sq (.ops [.p 30 (.mv (.t 6)), .p 31 (.mv (.t 0)), .p 32 (.len (.t 31)), .p 33 (.bin .lss (.t 30) (.t 32))]) (.ite (.t 33) (.sk) (.ex 0))) (.sq (.blk 1 (.sq (.ops [.p 37 (.mv (.t 0)), .p 38 (.mv (.t 6)), .p 39 (.mv (.t 6)), .p 40 (.bin .add (.t 39) (.c (.int .i64 1))), .p 41 (.slc 10 (.t 37) (some (.t 38)) (some (.t 40))), .call (some 42) 26 false (.f 25) [(.t 41, false)], .p 36 (.mv (.t 42)), .p 43 (.ext (.t 36) 0), .p 44 (.ext (.t 36) 1), .p 7 (.mv (.t 43)), .p 8 (.mv (.t 44))]) (.sq (.sq (.opsO [0, 1, 2, 3, 4, 5, 6, 7, 8, 9, 10, 11, 12, 13, 14, 15, 16, 17, 18, 19, 20, 21, 22, 23, 24] [.p 45 (.mv (.t 8)), .p 46 (.bin .neq (.t 45) (.c (.int .i64 0))), .p 47 (.mv (.t 46)), .g 47 false (some 48) (.p 48 (.mv (.t 7))), .g 47 false (some 49) (.p 49 (.len (.t 48))), .g 47 false (some 50) (.p 50 (.bin .lss (.t 49) (.c (.int .i64 2)))), .p 51 (.pick (.t 47) (.c (.bool true)) (.t 50)), .p 52 (.mv (.t 51)), .g 52 false (some 53) (.p 53 (.mv (.t 7))), .g 52 false (some 54) (.p 54 (.ia 1 (.t 53) (.c (.int .i64 0)))), .g 52 false (some 55) (.p 55 (.ld 1 false (.t 54))), .g 52 false (some 56) (.p 56 (.bin .neq (.t 55) (.c (.int .u8 1)))), .p 57 (.pick (.t 52) (.c (.bool true)) (.t 56)), .p 58 (.mv (.t 57)), .g 58 false (some 59) (.p 59 (.mv (.t 7))), .g 58 false (some 60) (.p 60 (.ia 1 (.t 59) (.c (.int .i64 1)))), .g 58 false (some 61) (.p 61 (.ld 1 false (.t 60))), .g 58 false (some 62) (.p 62 (.cvt .i64 (.t 61))), .g 58 false (some 63) (.p 63 (.mv (.t 0))), .g 58 false (some 64) (.p 64 (.mv (.t 6))), .g 58 false (some 65) (.p 65 (.ia 10 (.t 63) (.t 64))), .g 58 false (some 66) (.p 66 (.fa (.t 65) 0)), .g 58 false (some 67) (.p 67 (.ld 1 false (.t 66))), .g 58 false (some 68) (.p 68 (.bin .neq (.t 62) (.t 67))), .p 69 (.pick (.t 58) (.c (.bool true)) (.t 68))]) (.ite (.t 69) (.sq (.ops [.p 2 (.mv (.c (.bool false)))]) (.rt)) (.sk))) (.ops [.p 70 (.mv (.t 5)), .p 71 (.mv (.t 7)), .p 72 (.slc 1 (.t 71) (some (.c (.int .i64 1))) none), .app 73 27 5 1 1 (.t 70) (.t 72), .p 5 (.mv (.t 73))])))) (.ops [.p 34 (.mv (.t 6)), .p 35 (.bin .add (.t 34) (.c (.int .i64 1))), .p 6 (.mv (.t 35))]))
/-- porism/porismlaw22.PileRows -/
def m6 : MFun := { np := 1, res := [.t 2], own := false, code := .sq (.ops [.p 2 (.mv (.c (.bool false)))]) (.sq (.sq (.ops [.p 9 (.mv (.t 0)), .call (some 10) 20 false (.f 24) [(.t 9, false)]]) (.ite (.t 10) (.sq (.ops [.p 2 (.mv (.c (.bool true)))]) (.rt)) (.sk))) (.sq (.ops [.p 12 (.mv (.t 0)), .call (some 13) 21 false (.f 25) [(.t 12, false)], .p 11 (.mv (.t 13)), .p 14 (.ext (.t 11) 0), .p 15 (.ext (.t 11) 1), .p 3 (.mv (.t 14)), .p 4 (.mv (.t 15))]) (.sq (.sq (.ops [.p 16 (.mv (.t 4)), .p 17 (.bin .neq (.t 16) (.c (.int .i64 0)))]) (.ite (.t 17) (.sq (.ops [.p 18 (.mv (.t 3)), .p 19 (.len (.t 18)), .p 20 (.bin .eql (.t 19) (.c (.int .i64 0))), .p 21 (.mv (.t 20)), .g 21 true (some 22) (.call (some 22) 22 false (.f 26) []), .p 23 (.pick (.t 21) (.t 22) (.c (.bool false))), .p 2 (.mv (.t 23))]) (.rt)) (.sk))) (.sq (.sq (.ops [.p 5 (.mv (.c (.sl .nil 1 [])))]) (.gh (.own 5 23 5 1))) (.sq (.ops [.p 24 (.mv (.t 5)), .p 25 (.mv (.t 0)), .p 26 (.len (.t 25)), .p 27 (.cvt .u8 (.t 26)), .bsl 28 24 5 1 [.t 27], .app 29 25 5 1 1 (.t 24) (.t 28), .p 5 (.mv (.t 29))]) (.sq (.sq (.ops [.p 6 (.mv (.c (.int .i64 0)))]) (.blk 0 (.lp [0, 3, 5, 6] [23, 25] m6_l0))) (.sq (.ops [.p 74 (.mv (.t 3)), .p 75 (.mv (.t 5)), .call (some 76) 28 false (.f 27) [(.t 74, false), (.t 75, false)], .p 77 (.mv (.t 76)), .g 77 true (some 78) (.call (some 78) 29 false (.f 26) []), .p 79 (.pick (.t 77) (.t 78) (.c (.bool false))), .p 2 (.mv (.t 79))]) (.rt)))))))) }
/-- porism/porismlaw22.PileDefs -/
def m7 : MFun := { np := 2, res := [.t 4], own := false, code := .sq (.ops [.box 2 20 3 (.t 0), .box 3 21 3 (.t 1), .p 4 (.mv (.c (.bool false)))]) (.sq (.sq (.ops [.p 13 (.ld 3 true (.t 2)), .p 14 (.ld 3 true (.t 3)), .p 15 (.bld [.int .i64 0, .int .i64 0, .int .i64 0, .sl .nil 3 [], .int .i64 0, .int .i64 0, .sl .nil 3 [], .sl .nil 6 [], .sl .nil 6 [], .int .i64 0] [(1, 3, .t 13), (4, 3, .t 14)]), .call (some 16) 22 false (.f 31) [(.t 15, false)]]) (.ite (.t 16) (.sq (.ops [.p 4 (.mv (.c (.bool true)))]) (.rt)) (.sk))) (.sq (.ops [.p 18 (.ld 3 true (.t 2)), .p 19 (.bld [.int .i64 0, .int .i64 0, .int .i64 0, .sl .nil 3 [], .int .i64 0, .int .i64 0, .sl .nil 3 [], .sl .nil 6 [], .sl .nil 6 [], .int .i64 0] [(0, 1, .c (.int .i64 1)), (1, 3, .t 18)]), .bsl 20 23 30 10 [.t 19], .call (some 21) 24 false (.f 25) [(.t 20, false)], .p 17 (.mv (.t 21)), .p 22 (.ext (.t 17) 0), .p 23 (.ext (.t 17) 1), .p 5 (.mv (.t 22)), .p 6 (.mv (.t 23))]) (.sq (.ops [.p 25 (.ld 3 true (.t 2)), .p 26 (.ld 3 true (.t 3)), .p 27 (.bld [.int .i64 0, .int .i64 0, .int .i64 0, .sl .nil 3 [], .int .i64 0, .int .i64 0, .sl .nil 3 [], .sl .nil 6 [], .sl .nil 6 [], .int .i64 0] [(0, 1, .c (.int .i64 2)), (1, 3, .t 25), (4, 3, .t 26)]), .bsl 28 25 30 10 [.t 27], .call (some 29) 26 false (.f 25) [(.t 28, false)], .p 24 (.mv (.t 29)), .p 30 (.ext (.t 24) 0), .p 31 (.ext (.t 24) 1), .p 7 (.mv (.t 30)), .p 8 (.mv (.t 31))]) (.sq (.ops [.p 33 (.ld 3 true (.t 2)), .call (some 34) 27 true (.f 32) [(.c (.sl .nil 1 []), true), (.t 33, false)], .p 32 (.mv (.t 34)), .p 35 (.ext (.t 32) 0), .p 36 (.ext (.t 32) 1), .p 9 (.mv (.t 35)), .p 10 (.mv (.t 36))]) (.sq (.ops [.p 38 (.mv (.t 9)), .p 39 (.ld 3 true (.t 3)), .call (some 40) 28 true (.f 32) [(.t 38, true), (.t 39, false)], .p 37 (.mv (.t 40)), .p 41 (.ext (.t 37) 0), .p 42 (.ext (.t 37) 1), .p 11 (.mv (.t 41)), .p 12 (.mv (.t 42))]) (.sq (.sq (.ops [.p 43 (.mv (.t 10)), .p 44 (.bin .neq (.t 43) (.c (.int .i64 0)))]) (.ite (.t 44) (.sq (.ops [.p 45 (.mv (.t 6)), .p 46 (.bin .eql (.t 45) (.c (.int .i64 12))), .p 47 (.mv (.t 46)), .g 47 true (some 48) (.p 48 (.mv (.t 8))), .g 47 true (some 49) (.p 49 (.bin .eql (.t 48) (.c (.int .i64 12)))), .p 50 (.pick (.t 47) (.t 49) (.c (.bool false))), .p 51 (.mv (.t 50)), .g 51 true (some 52) (.call (some 52) 29 false (.f 26) []), .p 53 (.pick (.t 51) (.t 52) (.c (.bool false))), .p 4 (.mv (.t 53))]) (.rt)) (.sk))) (.sq (.sq (.ops [.p 54 (.mv (.t 6)), .p 55 (.bin .neq (.t 54) (.c (.int .i64 0))), .p 56 (.mv (.t 55)), .g 56 false (some 57) (.p 57 (.mv (.t 5))), .g 56 false (some 58) (.bsl 58 30 5 1 [.c (.int .u8 1), .c (.int .u8 1)]), .g 56 false (some 59) (.p 59 (.mv (.t 9))), .g 56 false (some 60) (.app 60 31 5 1 1 (.t 58) (.t 59)), .g 56 false (some 61) (.call (some 61) 32 false (.f 27) [(.t 57, false), (.t 60, false)]), .g 56 false (some 62) (.p 62 (.not (.t 61))), .p 63 (.pick (.t 56) (.c (.bool true)) (.t 62))]) (.ite (.t 63) (.sq (.ops [.p 4 (.mv (.c (.bool false)))]) (.rt)) (.sk))) (.sq (.sq (.ops [.p 64 (.mv (.t 12)), .p 65 (.bin .neq (.t 64) (.c (.int .i64 0)))]) (.ite (.t 65) (.sq (.ops [.p 66 (.mv (.t 8)), .p 67 (.bin .eql (.t 66) (.c (.int .i64 12))), .p 68 (.mv (.t 67)), .g 68 true (some 69) (.p 69 (.mv (.t 7))), .g 68 true (some 70) (.p 70 (.len (.t 69))), .g 68 true (some 71) (.p 71 (.bin .eql (.t 70) (.c (.int .i64 0)))), .p 72 (.pick (.t 68) (.t 71) (.c (.bool false))), .p 73 (.mv (.t 72)), .g 73 true (some 74) (.call (some 74) 33 false (.f 26) []), .p 75 (.pick (.t 73) (.t 74) (.c (.bool false))), .p 4 (.mv (.t 75))]) (.rt)) (.sk))) (.sq (.ops [.p 76 (.mv (.t 8)), .p 77 (.bin .eql (.t 76) (.c (.int .i64 0))), .p 78 (.mv (.t 77)), .g 78 true (some 79) (.p 79 (.mv (.t 7))), .g 78 true (some 80) (.bsl 80 34 5 1 [.c (.int .u8 1), .c (.int .u8 2)]), .g 78 true (some 81) (.p 81 (.mv (.t 11))), .g 78 true (some 82) (.app 82 35 5 1 1 (.t 80) (.t 81)), .g 78 true (some 83) (.call (some 83) 36 false (.f 27) [(.t 79, false), (.t 82, false)]), .p 84 (.pick (.t 78) (.t 83) (.c (.bool false))), .p 85 (.mv (.t 84)), .g 85 true (some 86) (.call (some 86) 37 false (.f 26) []), .p 87 (.pick (.t 85) (.t 86) (.c (.bool false))), .p 4 (.mv (.t 87))]) (.rt)))))))))) }
def m8_l0 : MC := .sq (.sq (.ops [.p 16 (.mv (.t 4)), .p 17 (.mv (.t 0)), .p 18 (.bin .lss (.t 16) (.t 17))]) (.ite (.t 18) (.sk) (.ex 0))) (.sq (.blk 1 (.ops [.p 21 (.mv (.t 3)), .p 22 (.mv (.t 4)), .p 23 (.bin .rem (.t 22) (.c (.int .i64 5))), .call (some 24) 21 false (.f 16) [(.t 23, false)], .p 25 (.bld [.int .i64 0, .int .i64 0, .int .i64 0, .sl .nil 3 [], .int .i64 0, .int .i64 0, .sl .nil 3 [], .sl .nil 6 [], .sl .nil 6 [], .int .i64 0] [(0, 1, .c (.int .i64 1)), (1, 3, .t 24)]), .bsl 26 22 30 10 [.t 25], .app 27 23 30 10 144 (.t 21) (.t 26), .p 3 (.mv (.t 27))])) (.ops [.p 19 (.mv (.t 4)), .p 20 (.bin .add (.t 19) (.c (.int .i64 1))), .p 4 (.mv (.t 20))]))
/-- porism/porismlaw22.PileMany -/
def m8 : MFun := { np := 1, res := [.t 2], own := false, code := .sq (.ops [.p 2 (.mv (.c (.bool false)))]) (.sq (.ops [.p 11 (.mv (.t 0)), .p 12 (.cvt .u64 (.t 11)), .p 13 (.bin .rem (.t 12) (.c (.int .u64 3))), .p 14 (.cvt .i64 (.t 13)), .p 15 (.bin .add (.c (.int .i64 59)) (.t 14)), .p 0 (.mv (.t 15))]) (.sq (.sq (.ops [.p 3 (.mv (.c (.sl .nil 10 [])))]) (.gh (.own 3 20 30 10))) (.sq (.sq (.ops [.p 4 (.mv (.c (.int .i64 0)))]) (.blk 0 (.lp [0, 3, 4] [20] m8_l0))) (.sq (.ops [.p 29 (.mv (.t 3)), .call (some 30) 24 false (.f 25) [(.t 29, false)], .p 28 (.mv (.t 30)), .p 31 (.ext (.t 28) 0), .p 32 (.ext (.t 28) 1), .p 5 (.mv (.t 31)), .p 6 (.mv (.t 32))]) (.sq (.sq (.ops [.p 33 (.mv (.t 0)), .p 34 (.bin .gtr (.t 33) (.c (.int .i64 60)))]) (.ite (.t 34) (.sq (.ops [.p 35 (.mv (.t 6)), .p 36 (.bin .eql (.t 35) (.c (.int .i64 2))), .p 37 (.mv (.t 36)), .g 37 true (some 38) (.p 38 (.mv (.t 5))), .g 37 true (some 39) (.p 39 (.len (.t 38))), .g 37 true (some 40) (.p 40 (.bin .eql (.t 39) (.c (.int .i64 0)))), .p 41 (.pick (.t 37) (.t 40) (.c (.bool false))), .p 42 (.mv (.t 41)), .g 42 true (some 43) (.call (some 43) 25 false (.f 26) []), .p 44 (.pick (.t 42) (.t 43) (.c (.bool false))), .p 2 (.mv (.t 44))]) (.rt)) (.sk))) (.sq (.ops [.p 46 (.mv (.t 5)), .call (some 47) 26 false (.f 29) [(.t 46, false)], .p 45 (.mv (.t 47)), .p 48 (.ext (.t 45) 0), .p 49 (.ext (.t 45) 1), .p 7 (.mv (.t 48)), .p 8 (.mv (.t 49))]) (.sq (.ops [.bsl 51 27 5 1 [.c (.int .u8 61)], .p 52 (.mv (.t 5)), .p 53 (.mv (.t 5)), .p 54 (.len (.t 53)), .p 55 (.mm false (.c (.int .i64 1)) (.t 54)), .p 56 (.slc 1 (.t 52) (some (.t 55)) none), .app 57 28 5 1 1 (.t 51) (.t 56), .call (some 58) 29 false (.f 29) [(.t 57, false)], .p 50 (.mv (.t 58)), .p 59 (.ext (.t 50) 0), .p 60 (.ext (.t 50) 1), .p 9 (.mv (.t 59)), .p 10 (.mv (.t 60))]) (.sq (.ops [.p 61 (.mv (.t 6)), .p 62 (.bin .eql (.t 61) (.c (.int .i64 0))), .p 63 (.mv (.t 62)), .g 63 true (some 64) (.p 64 (.mv (.t 5))), .g 63 true (some 65) (.p 65 (.len (.t 64))), .g 63 true (some 66) (.p 66 (.mv (.t 0))), .g 63 true (some 67) (.p 67 (.bin .mul (.c (.int .i64 4)) (.t 66))), .g 63 true (some 68) (.p 68 (.bin .add (.c (.int .i64 1)) (.t 67))), .g 63 true (some 69) (.p 69 (.bin .eql (.t 65) (.t 68))), .p 70 (.pick (.t 63) (.t 69) (.c (.bool false))), .p 71 (.mv (.t 70)), .g 71 true (some 72) (.p 72 (.mv (.t 8))), .g 71 true (some 73) (.p 73 (.bin .eql (.t 72) (.c (.int .i64 0)))), .p 74 (.pick (.t 71) (.t 73) (.c (.bool false))), .p 75 (.mv (.t 74)), .g 75 true (some 76) (.p 76 (.mv (.t 7))), .g 75 true (some 77) (.p 77 (.mv (.t 3))), .g 75 true (some 78) (.call (some 78) 30 false (.f 28) [(.t 76, false), (.t 77, false)]), .p 79 (.pick (.t 75) (.t 78) (.c (.bool false))), .p 80 (.mv (.t 79)), .g 80 true (some 81) (.p 81 (.mv (.t 10))), .g 80 true (some 82) (.p 82 (.bin .eql (.t 81) (.c (.int .i64 3)))), .p 83 (.pick (.t 80) (.t 82) (.c (.bool false))), .p 84 (.mv (.t 83)), .g 84 true (some 85) (.call (some 85) 31 false (.f 26) []), .p 86 (.pick (.t 84) (.t 85) (.c (.bool false))), .p 2 (.mv (.t 86))]) (.rt))))))))) }
/-- porism/porismref01.U -/
def m16 : MFun := { np := 1, res := [.cell 2 3 true], own := false, code := .sq (.ops [.alloc 2 20 [.int .i64 0, .int .i64 0, .sl .nil 3 []]]) (.sq (.ops [.p 3 (.mv (.t 0)), .p 4 (.bld [.int .i64 0, .int .i64 0, .sl .nil 3 []] [(0, 1, .c (.int .i64 2)), (1, 1, .t 3)]), .st 3 (.t 2) (.t 4)]) (.rt)) }
def m19_l0 : MC := .sq (.sq (.ops [.p 39 (.mv (.t 4)), .p 40 (.fa (.t 1) 1), .p 41 (.ld 1 false (.t 40)), .p 42 (.len (.t 41)), .p 43 (.bin .lss (.t 39) (.t 42))]) (.ite (.t 43) (.sk) (.ex 2))) (.sq (.blk 3 (.sq (.ops [.p 46 (.fa (.t 1) 1), .p 47 (.ld 1 false (.t 46)), .p 48 (.mv (.t 4)), .p 49 (.ia 6 (.t 47) (.t 48)), .p 50 (.fa (.t 49) 1), .p 51 (.ld 1 false (.t 50)), .call (some 52) 24 false (.f 52) [(.t 51, false)], .p 53 (.mv (.t 52)), .g 53 false (some 54) (.p 54 (.fa (.t 1) 1)), .g 53 false (some 55) (.p 55 (.ld 1 false (.t 54))), .g 53 false (some 56) (.p 56 (.mv (.t 4))), .g 53 false (some 57) (.p 57 (.ia 6 (.t 55) (.t 56))), .g 53 false (some 58) (.p 58 (.fa (.t 57) 2)), .g 53 false (some 59) (.p 59 (.ld 1 false (.t 58))), .g 53 false (some 60) (.call (some 60) 25 false (.f 53) [(.t 59, false)]), .p 61 (.pick (.t 53) (.c (.bool true)) (.t 60)), .p 62 (.mv (.t 61)), .g 62 false (some 63) (.p 63 (.fa (.t 1) 1)), .g 62 false (some 64) (.p 64 (.ld 1 false (.t 63))), .g 62 false (some 65) (.p 65 (.mv (.t 4))), .g 62 false (some 66) (.p 66 (.ia 6 (.t 64) (.t 65))), .g 62 false (some 67) (.p 67 (.fa (.t 66) 3)), .g 62 false (some 68) (.p 68 (.ld 3 true (.t 67))), .g 62 false (some 69) (.bsl 69 26 24 3 [.t 68]), .g 62 false (some 70) (.call (some 70) 27 false (.f 53) [(.t 69, false)]), .p 71 (.pick (.t 62) (.c (.bool true)) (.t 70))]) (.ite (.t 71) (.sq (.ops [.p 2 (.mv (.c (.bool true)))]) (.rt)) (.sk)))) (.ops [.p 44 (.mv (.t 4)), .p 45 (.bin .add (.t 44) (.c (.int .i64 1))), .p 4 (.mv (.t 45))]))
def m19_l1 : MC := .sq (.sq (.ops [.p 15 (.mv (.t 3)), .p 16 (.fa (.t 1) 0), .p 17 (.ld 1 false (.t 16)), .p 18 (.len (.t 17)), .p 19 (.bin .lss (.t 15) (.t 18))]) (.ite (.t 19) (.sk) (.ex 0))) (.sq (.blk 1 (.sq (.ops [.p 22 (.fa (.t 1) 0), .p 23 (.ld 1 false (.t 22)), .p 24 (.mv (.t 3)), .p 25 (.ia 6 (.t 23) (.t 24)), .p 26 (.fa (.t 25) 0), .p 27 (.ld 1 false (.t 26)), .call (some 28) 21 false (.f 52) [(.t 27, false)], .p 29 (.mv (.t 28)), .g 29 false (some 30) (.p 30 (.fa (.t 1) 0)), .g 29 false (some 31) (.p 31 (.ld 1 false (.t 30))), .g 29 false (some 32) (.p 32 (.mv (.t 3))), .g 29 false (some 33) (.p 33 (.ia 6 (.t 31) (.t 32))), .g 29 false (some 34) (.p 34 (.fa (.t 33) 3)), .g 29 false (some 35) (.p 35 (.ld 3 true (.t 34))), .g 29 false (some 36) (.bsl 36 22 24 3 [.t 35]), .g 29 false (some 37) (.call (some 37) 23 false (.f 53) [(.t 36, false)]), .p 38 (.pick (.t 29) (.c (.bool true)) (.t 37))]) (.ite (.t 38) (.sq (.ops [.p 2 (.mv (.c (.bool true)))]) (.rt)) (.sk)))) (.ops [.p 20 (.mv (.t 3)), .p 21 (.bin .add (.t 20) (.c (.int .i64 1))), .p 3 (.mv (.t 21))]))
/-- porism/porismlaw07.Heavy -/
def m19 : MFun := { np := 1, res := [.t 2], own := false, code := .sq (.ops [.box 1 20 3 (.t 0), .p 2 (.mv (.c (.bool false)))]) (.sq (.sq (.ops [.p 5 (.fa (.t 1) 0), .p 6 (.ld 1 false (.t 5)), .p 7 (.len (.t 6)), .p 8 (.bin .gtr (.t 7) (.c (.int .i64 10))), .p 9 (.mv (.t 8)), .g 9 false (some 10) (.p 10 (.fa (.t 1) 1)), .g 9 false (some 11) (.p 11 (.ld 1 false (.t 10))), .g 9 false (some 12) (.p 12 (.len (.t 11))), .g 9 false (some 13) (.p 13 (.bin .gtr (.t 12) (.c (.int .i64 20)))), .p 14 (.pick (.t 9) (.c (.bool true)) (.t 13))]) (.ite (.t 14) (.sq (.ops [.p 2 (.mv (.c (.bool true)))]) (.rt)) (.sk))) (.sq (.sq (.ops [.p 3 (.mv (.c (.int .i64 0)))]) (.blk 0 (.lp [1, 3] [20] m19_l1))) (.sq (.sq (.ops [.p 4 (.mv (.c (.int .i64 0)))]) (.blk 2 (.lp [1, 4] [20] m19_l0))) (.sq (.ops [.p 2 (.mv (.c (.bool false)))]) (.rt))))) }
def m24_l0 : MC := .sq (.sq (.ops [.p 7 (.mv (.t 3)), .p 8 (.mv (.t 0)), .p 9 (.len (.t 8)), .p 10 (.bin .lss (.t 7) (.t 9))]) (.ite (.t 10) (.sk) (.ex 0))) (.sq (.blk 1 (.sq (.ops [.p 13 (.mv (.t 0)), .p 14 (.mv (.t 3)), .p 15 (.ia 10 (.t 13) (.t 14)), .p 16 (.ld 10 true (.t 15)), .call (some 17) 20 false (.f 31) [(.t 16, false)]]) (.ite (.t 17) (.sq (.ops [.p 2 (.mv (.c (.bool true)))]) (.rt)) (.sk)))) (.ops [.p 11 (.mv (.t 3)), .p 12 (.bin .add (.t 11) (.c (.int .i64 1))), .p 3 (.mv (.t 12))]))
/-- porism/porismlaw22.Heavy -/
def m24 : MFun := { np := 1, res := [.t 2], own := false, code := .sq (.ops [.p 2 (.mv (.c (.bool false)))]) (.sq (.sq (.ops [.p 4 (.mv (.t 0)), .p 5 (.len (.t 4)), .p 6 (.bin .gtr (.t 5) (.c (.int .i64 70)))]) (.ite (.t 6) (.sq (.ops [.p 2 (.mv (.c (.bool true)))]) (.rt)) (.sk))) (.sq (.sq (.ops [.p 3 (.mv (.c (.int .i64 0)))]) (.blk 0 (.lp [0, 3] [] m24_l0))) (.sq (.ops [.p 2 (.mv (.c (.bool false)))]) (.rt)))) }
def m25_l0 : MC := .sq (.ops [.p 34 (.bin .lss (.t 33) (.t 32))]) (.sq (.ite (.t 34) (.sk) (.ex 2)) (.sq (.blk 3 (.sq (.ops [.p 35 (.ia 10 (.t 31) (.t 33)), .p 36 (.ld 10 true (.t 35)), .alloc 9 25 [.int .i64 0, .int .i64 0, .int .i64 0, .sl .nil 3 [], .int .i64 0, .int .i64 0, .sl .nil 3 [], .sl .nil 6 [], .sl .nil 6 [], .int .i64 0], .st 10 (.t 9) (.t 36)]) (.sq (.ops [.p 37 (.mv (.t 7)), .p 38 (.fa (.t 9) 0), .p 39 (.ld 1 false (.t 38)), .call (some 40) 26 true (.f 65) [(.t 37, false), (.t 39, false)]]) (.sq (.ops [.p 41 (.fa (.t 9) 0), .p 42 (.ld 1 false (.t 41))]) (.blk 4 (.sq (.ops [.p 48 (.bin .eql (.t 42) (.c (.int .i64 1))), .p 47 (.mv (.t 48))]) (.ite (.t 47) (.ops [.p 49 (.mv (.t 7)), .p 50 (.fa (.t 9) 1), .p 51 (.ld 3 true (.t 50)), .call (some 52) 27 true (.f 66) [(.t 49, false), (.t 51, false)]]) (.sq (.ops [.p 54 (.bin .eql (.t 42) (.c (.int .i64 2))), .p 53 (.mv (.t 54))]) (.ite (.t 53) (.sq (.ops [.p 55 (.mv (.t 7)), .p 56 (.fa (.t 9) 1), .p 57 (.ld 3 true (.t 56)), .call (some 58) 28 true (.f 66) [(.t 55, false), (.t 57, false)]]) (.ops [.p 59 (.mv (.t 7)), .p 60 (.fa (.t 9) 4), .p 61 (.ld 3 true (.t 60)), .call (some 62) 29 true (.f 66) [(.t 59, false), (.t 61, false)]])) (.ops [.p 43 (.mv (.t 7)), .p 44 (.fa (.t 9) 7), .p 45 (.ld 3 true (.t 44)), .call (some 46) 30 true (.f 67) [(.t 43, false), (.t 45, false)]])))))))))) (.ops [.p 63 (.bin .add (.t 33) (.c (.int .i64 1))), .p 33 (.mv (.t 63))])))
def m25_l1 : MC := .sq (.ops [.p 16 (.bin .lss (.t 15) (.t 14))]) (.sq (.ite (.t 16) (.sk) (.ex 0)) (.sq (.blk 1 (.sq (.ops [.p 17 (.ia 10 (.t 13) (.t 15)), .p 18 (.ld 10 true (.t 17)), .alloc 5 20 [.int .i64 0, .int .i64 0, .int .i64 0, .sl .nil 3 [], .int .i64 0, .int .i64 0, .sl .nil 3 [], .sl .nil 6 [], .sl .nil 6 [], .int .i64 0], .st 10 (.t 5) (.t 18)]) (.sq (.ops [.p 19 (.ld 10 true (.t 5)), .call (some 20) 21 false (.f 64) [(.t 19, false)], .p 6 (.mv (.t 20))]) (.sq (.ops [.p 21 (.mv (.t 6)), .p 22 (.bin .neq (.t 21) (.c (.int .i64 0)))]) (.ite (.t 22) (.sq (.ops [.p 23 (.mv (.t 6)), .p 2 (.mv (.c (.sl .nil 1 []))), .p 3 (.mv (.t 23))]) (.rt)) (.sk)))))) (.ops [.p 24 (.bin .add (.t 15) (.c (.int .i64 1))), .p 15 (.mv (.t 24))])))
/-- porism/pile.Put -/
def m25 : MFun := { np := 1, res := [.t 2, .t 3], own := false, code := .sq (.ops [.p 2 (.mv (.c (.sl .nil 1 []))), .p 3 (.mv (.c (.int .i64 0)))]) (.sq (.sq (.ops [.p 10 (.mv (.t 0)), .p 11 (.len (.t 10)), .p 12 (.bin .gtr (.t 11) (.c (.int .i64 60)))]) (.ite (.t 12) (.sq (.ops [.p 2 (.mv (.c (.sl .nil 1 []))), .p 3 (.mv (.c (.int .i64 2)))]) (.rt)) (.sk))) (.sq (.sq (.ops [.p 13 (.mv (.t 0)), .p 14 (.len (.t 13)), .p 15 (.mv (.c (.int .i64 0)))]) (.blk 0 (.lp [0, 13, 14, 15] [] m25_l1))) (.sq (.sq (.ops [.p 25 (.bld [.sl .nil 1 []] []), .box 26 22 1 (.t 25), .p 7 (.mv (.t 26))]) (.gh (.ownc 26 0 23 5 1))) (.sq (.ops [.p 27 (.mv (.t 7)), .p 28 (.mv (.t 0)), .p 29 (.len (.t 28)), .call (some 30) 24 true (.f 65) [(.t 27, false), (.t 29, false)]]) (.sq (.sq (.ops [.p 31 (.mv (.t 0)), .p 32 (.len (.t 31)), .p 33 (.mv (.c (.int .i64 0)))]) (.blk 2 (.lp [7, 31, 32, 33] [22, 23] m25_l0))) (.sq (.sq (.ops [.p 64 (.mv (.t 7)), .p 65 (.nilc (.t 64)), .p 66 (.fa (.t 65) 0), .p 67 (.ld 1 false (.t 66)), .p 68 (.len (.t 67)), .p 69 (.bin .gtr (.t 68) (.c (.int .i64 65536)))]) (.ite (.t 69) (.sq (.ops [.p 2 (.mv (.c (.sl .nil 1 []))), .p 3 (.mv (.c (.int .i64 4)))]) (.rt)) (.sk))) (.sq (.ops [.p 70 (.mv (.t 7)), .p 71 (.nilc (.t 70)), .p 72 (.fa (.t 71) 0), .p 73 (.ld 1 false (.t 72)), .p 2 (.mv (.t 73)), .p 3 (.mv (.c (.int .i64 0)))]) (.rt)))))))) }
/-- porism/porismlaw22.wakes -/
def m26 : MFun := { np := 0, res := [.t 0], own := false, code := .sq (.ops [.p 0 (.mv (.c (.bool false)))]) (.sq (.ops [.call (some 6) 20 false (.f 16) [(.c (.int .i64 0), false)], .p 7 (.bld [.int .i64 0, .int .i64 0, .int .i64 0, .sl .nil 3 [], .int .i64 0, .int .i64 0, .sl .nil 3 [], .sl .nil 6 [], .sl .nil 6 [], .int .i64 0] [(0, 1, .c (.int .i64 1)), (1, 3, .t 6)]), .bsl 8 21 30 10 [.t 7], .p 1 (.mv (.t 8))]) (.sq (.ops [.p 10 (.mv (.t 1)), .call (some 11) 22 false (.f 25) [(.t 10, false)], .p 9 (.mv (.t 11)), .p 12 (.ext (.t 9) 0), .p 13 (.ext (.t 9) 1), .p 2 (.mv (.t 12)), .p 3 (.mv (.t 13))]) (.sq (.ops [.p 15 (.mv (.t 2)), .call (some 16) 23 false (.f 29) [(.t 15, false)], .p 14 (.mv (.t 16)), .p 17 (.ext (.t 14) 0), .p 18 (.ext (.t 14) 1), .p 4 (.mv (.t 17)), .p 5 (.mv (.t 18))]) (.sq (.ops [.p 19 (.mv (.t 3)), .p 20 (.bin .eql (.t 19) (.c (.int .i64 0))), .p 21 (.mv (.t 20)), .g 21 true (some 22) (.p 22 (.mv (.t 5))), .g 21 true (some 23) (.p 23 (.bin .eql (.t 22) (.c (.int .i64 0)))), .p 24 (.pick (.t 21) (.t 23) (.c (.bool false))), .p 25 (.mv (.t 24)), .g 25 true (some 26) (.p 26 (.mv (.t 2))), .g 25 true (some 27) (.bsl 27 24 5 1 [.c (.int .u8 1), .c (.int .u8 1), .c (.int .u8 2), .c (.int .u8 0), .c (.int .u8 0)]), .g 25 true (some 28) (.call (some 28) 25 false (.f 27) [(.t 26, false), (.t 27, false)]), .p 29 (.pick (.t 25) (.t 28) (.c (.bool false))), .p 30 (.mv (.t 29)), .g 30 true (some 31) (.p 31 (.mv (.t 4))), .g 30 true (some 32) (.p 32 (.mv (.t 1))), .g 30 true (some 33) (.call (some 33) 26 false (.f 28) [(.t 31, false), (.t 32, false)]), .p 34 (.pick (.t 30) (.t 33) (.c (.bool false))), .p 35 (.mv (.t 34)), .g 35 true (some 36) (.p 36 (.mv (.t 1))), .g 35 true (some 37) (.p 37 (.ia 10 (.t 36) (.c (.int .i64 0)))), .g 35 true (some 38) (.p 38 (.ld 10 true (.t 37))), .g 35 true (some 39) (.call (some 39) 27 false (.f 64) [(.t 38, false)]), .g 35 true (some 40) (.p 40 (.bin .eql (.t 39) (.c (.int .i64 0)))), .p 41 (.pick (.t 35) (.t 40) (.c (.bool false))), .p 0 (.mv (.t 41))]) (.rt))))) }
def m27_l0 : MC := .sq (.sq (.ops [.p 11 (.mv (.t 5)), .p 12 (.mv (.t 0)), .p 13 (.len (.t 12)), .p 14 (.bin .lss (.t 11) (.t 13))]) (.ite (.t 14) (.sk) (.ex 0))) (.sq (.blk 1 (.sq (.opsO [0, 1, 2, 3, 4, 5, 6, 7, 8] [.p 17 (.mv (.t 0)), .p 18 (.mv (.t 5)), .p 19 (.ia 1 (.t 17) (.t 18)), .p 20 (.ld 1 false (.t 19)), .p 21 (.mv (.t 1)), .p 22 (.mv (.t 5)), .p 23 (.ia 1 (.t 21) (.t 22)), .p 24 (.ld 1 false (.t 23)), .p 25 (.bin .neq (.t 20) (.t 24))]) (.ite (.t 25) (.sq (.ops [.p 4 (.mv (.c (.bool false)))]) (.rt)) (.sk)))) (.ops [.p 15 (.mv (.t 5)), .p 16 (.bin .add (.t 15) (.c (.int .i64 1))), .p 5 (.mv (.t 16))]))
/-- porism/porismkeep.Bytes -/
def m27 : MFun := { np := 2, res := [.t 4], own := false, code := .sq (.ops [.p 4 (.mv (.c (.bool false)))]) (.sq (.sq (.ops [.p 6 (.mv (.t 0)), .p 7 (.len (.t 6)), .p 8 (.mv (.t 1)), .p 9 (.len (.t 8)), .p 10 (.bin .neq (.t 7) (.t 9))]) (.ite (.t 10) (.sq (.ops [.p 4 (.mv (.c (.bool false)))]) (.rt)) (.sk))) (.sq (.sq (.ops [.p 5 (.mv (.c (.int .i64 0)))]) (.blk 0 (.lp [0, 1, 5] [] m27_l0))) (.sq (.ops [.p 4 (.mv (.c (.bool true)))]) (.rt)))) }
def m28_l0 : MC := .sq (.sq (.ops [.p 11 (.mv (.t 5)), .p 12 (.mv (.t 0)), .p 13 (.len (.t 12)), .p 14 (.bin .lss (.t 11) (.t 13))]) (.ite (.t 14) (.sk) (.ex 0))) (.sq (.blk 1 (.sq (.opsO [0, 1, 2, 3, 4, 5, 6, 7, 8, 9] [.p 17 (.mv (.t 0)), .p 18 (.mv (.t 5)), .p 19 (.ia 10 (.t 17) (.t 18)), .p 20 (.ld 10 true (.t 19)), .p 21 (.mv (.t 1)), .p 22 (.mv (.t 5)), .p 23 (.ia 10 (.t 21) (.t 22)), .p 24 (.ld 10 true (.t 23)), .call (some 25) 20 false (.f 68) [(.t 20, false), (.t 24, false)], .p 26 (.not (.t 25))]) (.ite (.t 26) (.sq (.ops [.p 4 (.mv (.c (.bool false)))]) (.rt)) (.sk)))) (.ops [.p 15 (.mv (.t 5)), .p 16 (.bin .add (.t 15) (.c (.int .i64 1))), .p 5 (.mv (.t 16))]))
/-- porism/porismkeep.Decls -/
def m28 : MFun := { np := 2, res := [.t 4], own := false, code := .sq (.ops [.p 4 (.mv (.c (.bool false)))]) (.sq (.sq (.ops [.p 6 (.mv (.t 0)), .p 7 (.len (.t 6)), .p 8 (.mv (.t 1)), .p 9 (.len (.t 8)), .p 10 (.bin .neq (.t 7) (.t 9))]) (.ite (.t 10) (.sq (.ops [.p 4 (.mv (.c (.bool false)))]) (.rt)) (.sk))) (.sq (.sq (.ops [.p 5 (.mv (.c (.int .i64 0)))]) (.blk 0 (.lp [0, 1, 5] [] m28_l0))) (.sq (.ops [.p 4 (.mv (.c (.bool true)))]) (.rt)))) }
def m29_l0 : MC := .sq (.sq (.ops [.p 26 (.mv (.t 5)), .p 27 (.bin .gtr (.t 26) (.c (.int .i64 0))), .p 28 (.mv (.t 27)), .g 28 true (some 29) (.p 29 (.mv (.t 4))), .g 28 true (some 30) (.p 30 (.nilc (.t 29))), .g 28 true (some 31) (.p 31 (.fa (.t 30) 2)), .g 28 true (some 32) (.p 32 (.ld 1 false (.t 31))), .g 28 true (some 33) (.p 33 (.not (.t 32))), .p 34 (.pick (.t 28) (.t 33) (.c (.bool false)))]) (.ite (.t 34) (.sk) (.ex 0))) (.sq (.blk 1 (.ops [.p 37 (.mv (.t 6)), .p 38 (.mv (.t 4)), .call (some 39) 23 true (.f 70) [(.t 38, false)], .bsl 40 24 30 10 [.t 39], .app 41 25 30 10 144 (.t 37) (.t 40), .p 6 (.mv (.t 41))])) (.ops [.p 35 (.mv (.t 5)), .p 36 (.bin .sub (.t 35) (.c (.int .i64 1))), .p 5 (.mv (.t 36))]))
/-- porism/pile.Get -/
def m29 : MFun := { np := 1, res := [.t 2, .t 3], own := false, code := .sq (.ops [.p 2 (.mv (.c (.sl .nil 10 []))), .p 3 (.mv (.c (.int .i64 0)))]) (.sq (.sq (.ops [.p 7 (.mv (.t 0)), .p 8 (.len (.t 7)), .p 9 (.bin .gtr (.t 8) (.c (.int .i64 65536)))]) (.ite (.t 9) (.sq (.ops [.p 2 (.mv (.c (.sl .nil 10 []))), .p 3 (.mv (.c (.int .i64 3)))]) (.rt)) (.sk))) (.sq (.ops [.p 10 (.mv (.t 0)), .p 11 (.bld [.sl .nil 1 [], .int .i64 0, .bool false] [(0, 1, .t 10)]), .box 12 20 3 (.t 11), .p 4 (.mv (.t 12))]) (.sq (.ops [.p 13 (.mv (.t 4)), .call (some 14) 21 true (.f 69) [(.t 13, false)], .p 5 (.mv (.t 14))]) (.sq (.ops [.p 15 (.mv (.t 4)), .p 16 (.mv (.t 4)), .p 17 (.nilc (.t 16)), .p 18 (.fa (.t 17) 2), .p 19 (.ld 1 false (.t 18)), .p 20 (.mv (.t 19)), .g 20 false (some 21) (.p 21 (.mv (.t 5))), .g 20 false (some 22) (.p 22 (.bin .gtr (.t 21) (.c (.int .i64 60)))), .p 23 (.pick (.t 20) (.c (.bool true)) (.t 22)), .p 24 (.nilc (.t 15)), .p 25 (.fa (.t 24) 2), .st 1 (.t 25) (.t 23)]) (.sq (.sq (.ops [.p 6 (.mv (.c (.sl .nil 10 [])))]) (.gh (.own 6 22 30 10))) (.sq (.blk 0 (.lp [0, 4, 5, 6] [20, 22] m29_l0)) (.sq (.sq (.ops [.p 42 (.mv (.t 4)), .p 43 (.nilc (.t 42)), .p 44 (.fa (.t 43) 2), .p 45 (.ld 1 false (.t 44)), .p 46 (.mv (.t 45)), .g 46 false (some 47) (.p 47 (.mv (.t 4))), .g 46 false (some 48) (.p 48 (.nilc (.t 47))), .g 46 false (some 49) (.p 49 (.fa (.t 48) 1)), .g 46 false (some 50) (.p 50 (.ld 1 false (.t 49))), .g 46 false (some 51) (.p 51 (.mv (.t 0))), .g 46 false (some 52) (.p 52 (.len (.t 51))), .g 46 false (some 53) (.p 53 (.bin .neq (.t 50) (.t 52))), .p 54 (.pick (.t 46) (.c (.bool true)) (.t 53))]) (.ite (.t 54) (.sq (.ops [.p 2 (.mv (.c (.sl .nil 10 []))), .p 3 (.mv (.c (.int .i64 3)))]) (.rt)) (.sk))) (.sq (.ops [.p 55 (.mv (.t 6)), .p 2 (.mv (.t 55)), .p 3 (.mv (.c (.int .i64 0)))]) (.rt))))))))) }
/-- porism/porismkeep.TwinBytes -/
def m30 : MFun := { np := 1, res := [.t 2], own := true, code := .sq (.ops [.p 2 (.mv (.c (.sl .nil 1 [])))]) (.sq (.ops [.p 3 (.mv (.c (.sl .nil 1 [])))]) (.sq (.ops [.p 4 (.mv (.t 3)), .p 5 (.mv (.t 0)), .app 6 20 5 1 1 (.t 4) (.t 5), .p 2 (.mv (.t 6))]) (.rt))) }
/-- porism/porismlaw20.Heavy -/
def m31 : MFun := { np := 1, res := [.t 2], own := false, code := .sq (.ops [.box 1 20 10 (.t 0), .p 2 (.mv (.c (.bool false)))]) (.sq (.ops [.p 3 (.fa (.t 1) 1), .p 4 (.ld 3 true (.t 3)), .p 5 (.fa (.t 1) 4), .p 6 (.ld 3 true (.t 5)), .bsl 7 21 24 3 [.t 4, .t 6], .call (some 8) 22 false (.f 53) [(.t 7, false)], .p 9 (.mv (.t 8)), .g 9 false (some 10) (.p 10 (.fa (.t 1) 7)), .g 9 false (some 11) (.p 11 (.ld 3 true (.t 10))), .g 9 false (some 12) (.call (some 12) 23 false (.f 19) [(.t 11, false)]), .p 13 (.pick (.t 9) (.c (.bool true)) (.t 12)), .p 2 (.mv (.t 13))]) (.rt)) }
/-- porism/pack.Put -/
def m32 : MFun := { np := 2, res := [.t 4, .t 5], own := true, code := .sq (.ops [.box 3 20 3 (.t 1), .p 4 (.mv (.c (.sl .nil 1 []))), .p 5 (.mv (.c (.int .i64 0)))]) (.sq (.ops [.p 7 (.ld 3 true (.t 3)), .call (some 8) 21 false (.f 71) [(.t 7, false)], .p 6 (.mv (.t 8))]) (.sq (.sq (.ops [.p 9 (.mv (.t 6)), .p 10 (.bin .neq (.t 9) (.c (.int .i64 0)))]) (.ite (.t 10) (.sq (.ops [.p 11 (.mv (.t 6)), .p 4 (.mv (.c (.sl .nil 1 []))), .p 5 (.mv (.t 11))]) (.rt)) (.sk))) (.sq (.opsO [0, 2, 1, 3, 4, 5] [.p 12 (.mv (.t 0)), .p 14 (.lda 20 3 true (.t 3)), .chk [20] (.call (some 13) 22 true (.f 73) [(.t 12, true)]), .call (some 15) 23 true (.f 72) [(.t 13, true), (.t 14, false)], .p 4 (.mv (.t 15)), .p 5 (.mv (.c (.int .i64 0)))]) (.rt)))) }
/-- porism/porismkeep.Term -/
def m36 : MFun := { np := 2, res := [.t 4], own := false, code := .sq (.ops [.box 2 20 3 (.t 0), .box 3 21 3 (.t 1), .p 4 (.mv (.c (.bool false)))]) (.sq (.ops [.p 5 (.fa (.t 2) 0), .p 6 (.ld 1 false (.t 5)), .p 7 (.fa (.t 3) 0), .p 8 (.ld 1 false (.t 7)), .p 9 (.bin .eql (.t 6) (.t 8)), .p 10 (.mv (.t 9)), .g 10 true (some 11) (.p 11 (.fa (.t 2) 1)), .g 10 true (some 12) (.p 12 (.ld 1 false (.t 11))), .g 10 true (some 13) (.p 13 (.fa (.t 3) 1)), .g 10 true (some 14) (.p 14 (.ld 1 false (.t 13))), .g 10 true (some 15) (.p 15 (.bin .eql (.t 12) (.t 14))), .p 16 (.pick (.t 10) (.t 15) (.c (.bool false))), .p 17 (.mv (.t 16)), .g 17 true (some 18) (.p 18 (.fa (.t 2) 2)), .g 17 true (some 19) (.p 19 (.ld 1 false (.t 18))), .g 17 true (some 20) (.p 20 (.fa (.t 3) 2)), .g 17 true (some 21) (.p 21 (.ld 1 false (.t 20))), .g 17 true (some 22) (.call (some 22) 22 false (.f 86) [(.t 19, false), (.t 21, false)]), .p 23 (.pick (.t 17) (.t 22) (.c (.bool false))), .p 4 (.mv (.t 23))]) (.rt)) }
def m47_l0 : MC := .sq (.ops [.p 30 (.bin .lss (.t 29) (.t 28))]) (.sq (.ite (.t 30) (.sk) (.ex 0)) (.sq (.blk 1 (.sq (.ops [.p 31 (.mv (.t 29)), .p 3 (.mv (.t 31))]) (.sq (.ops [.p 32 (.ld 3 true (.t 1)), .p 33 (.mv (.t 3)), .call (some 34) 22 false (.f 91) [(.t 32, false), (.t 33, false)], .p 35 (.not (.t 34))]) (.ite (.t 35) (.sq (.ops [.p 2 (.mv (.c (.int .i64 12)))]) (.rt)) (.sk))))) (.ops [.p 36 (.bin .add (.t 29) (.c (.int .i64 1))), .p 29 (.mv (.t 36))])))
/-- porism/shape.Check -/
def m47 : MFun := { np := 1, res := [.t 2], own := false, code := .sq (.ops [.box 1 20 3 (.t 0), .p 2 (.mv (.c (.int .i64 0)))]) (.sq (.sq (.ops [.p 4 (.fa (.t 1) 0), .p 5 (.ld 1 false (.t 4)), .p 6 (.len (.t 5)), .p 7 (.bin .lss (.t 6) (.c (.int .i64 1))), .p 8 (.mv (.t 7)), .g 8 false (some 9) (.p 9 (.fa (.t 1) 0)), .g 8 false (some 10) (.p 10 (.ld 1 false (.t 9))), .g 8 false (some 11) (.p 11 (.len (.t 10))), .g 8 false (some 12) (.p 12 (.bin .gtr (.t 11) (.c (.int .i64 4)))), .p 13 (.pick (.t 8) (.c (.bool true)) (.t 12)), .p 14 (.mv (.t 13)), .g 14 false (some 15) (.p 15 (.fa (.t 1) 1)), .g 14 false (some 16) (.p 16 (.ld 1 false (.t 15))), .g 14 false (some 17) (.p 17 (.len (.t 16))), .g 14 false (some 18) (.p 18 (.bin .gtr (.t 17) (.c (.int .i64 8)))), .p 19 (.pick (.t 14) (.c (.bool true)) (.t 18)), .p 20 (.mv (.t 19)), .g 20 false (some 21) (.p 21 (.fa (.t 1) 2)), .g 20 false (some 22) (.p 22 (.ld 1 false (.t 21))), .g 20 false (some 23) (.call (some 23) 21 false (.f 90) [(.t 22, false)]), .g 20 false (some 24) (.p 24 (.not (.t 23))), .p 25 (.pick (.t 20) (.c (.bool true)) (.t 24))]) (.ite (.t 25) (.sq (.ops [.p 2 (.mv (.c (.int .i64 12)))]) (.rt)) (.sk))) (.sq (.sq (.ops [.p 26 (.fa (.t 1) 0), .p 27 (.ld 1 false (.t 26)), .p 28 (.len (.t 27)), .p 29 (.mv (.c (.int .i64 0)))]) (.blk 0 (.lp [1, 28, 29] [20] m47_l0))) (.sq (.sq (.ops [.p 37 (.fa (.t 1) 1), .p 38 (.ld 1 false (.t 37)), .p 39 (.mkf 93 [.t 1]), .call (some 40) 23 true (.f 92) [(.t 38, false), (.t 39, false)]]) (.ite (.t 40) (.sq (.ops [.p 2 (.mv (.c (.int .i64 12)))]) (.rt)) (.sk))) (.sq (.ops [.p 2 (.mv (.c (.int .i64 0)))]) (.rt))))) }
def m52_l0 : MC := .sq (.sq (.ops [.p 7 (.mv (.t 3)), .p 8 (.mv (.t 0)), .p 9 (.len (.t 8)), .p 10 (.bin .lss (.t 7) (.t 9))]) (.ite (.t 10) (.sk) (.ex 0))) (.sq (.blk 1 (.sq (.ops [.p 13 (.mv (.t 0)), .p 14 (.mv (.t 3)), .p 15 (.ia 7 (.t 13) (.t 14)), .p 16 (.fa (.t 15) 1), .p 17 (.ld 3 true (.t 16)), .bsl 18 20 24 3 [.t 17], .call (some 19) 21 false (.f 53) [(.t 18, false)], .p 20 (.mv (.t 19)), .g 20 false (some 21) (.p 21 (.mv (.t 0))), .g 20 false (some 22) (.p 22 (.mv (.t 3))), .g 20 false (some 23) (.p 23 (.ia 7 (.t 21) (.t 22))), .g 20 false (some 24) (.p 24 (.fa (.t 23) 4)), .g 20 false (some 25) (.p 25 (.ld 1 false (.t 24))), .g 20 false (some 26) (.call (some 26) 22 false (.f 53) [(.t 25, false)]), .p 27 (.pick (.t 20) (.c (.bool true)) (.t 26)), .p 28 (.mv (.t 27)), .g 28 false (some 29) (.p 29 (.mv (.t 0))), .g 28 false (some 30) (.p 30 (.mv (.t 3))), .g 28 false (some 31) (.p 31 (.ia 7 (.t 29) (.t 30))), .g 28 false (some 32) (.p 32 (.fa (.t 31) 6)), .g 28 false (some 33) (.p 33 (.ld 1 false (.t 32))), .g 28 false (some 34) (.call (some 34) 23 false (.f 53) [(.t 33, false)]), .p 35 (.pick (.t 28) (.c (.bool true)) (.t 34))]) (.ite (.t 35) (.sq (.ops [.p 2 (.mv (.c (.bool true)))]) (.rt)) (.sk)))) (.ops [.p 11 (.mv (.t 3)), .p 12 (.bin .add (.t 11) (.c (.int .i64 1))), .p 3 (.mv (.t 12))]))
/-- porism/porismlaw07.heavyArgs -/
def m52 : MFun := { np := 1, res := [.t 2], own := false, code := .sq (.ops [.p 2 (.mv (.c (.bool false)))]) (.sq (.sq (.ops [.p 4 (.mv (.t 0)), .p 5 (.len (.t 4)), .p 6 (.bin .gtr (.t 5) (.c (.int .i64 20)))]) (.ite (.t 6) (.sq (.ops [.p 2 (.mv (.c (.bool true)))]) (.rt)) (.sk))) (.sq (.sq (.ops [.p 3 (.mv (.c (.int .i64 0)))]) (.blk 0 (.lp [0, 3] [] m52_l0))) (.sq (.ops [.p 2 (.mv (.c (.bool false)))]) (.rt)))) }
def m53_l0 : MC := .sq (.sq (.ops [.p 8 (.mv (.t 4)), .p 9 (.mv (.t 0)), .p 10 (.len (.t 9)), .p 11 (.bin .lss (.t 8) (.t 10))]) (.ite (.t 11) (.sk) (.ex 0))) (.sq (.blk 1 (.sq (.sq (.ops [.p 14 (.mv (.t 0)), .p 15 (.mv (.t 4)), .p 16 (.ia 3 (.t 14) (.t 15)), .p 17 (.ld 3 true (.t 16)), .call (some 18) 20 false (.f 101) [(.t 17, false)], .p 19 (.bin .gtr (.t 18) (.c (.int .i64 300)))]) (.ite (.t 19) (.sq (.ops [.p 2 (.mv (.c (.bool true)))]) (.rt)) (.sk))) (.ops [.p 20 (.mv (.t 3)), .p 21 (.mv (.t 0)), .p 22 (.mv (.t 4)), .p 23 (.ia 3 (.t 21) (.t 22)), .p 24 (.ld 3 true (.t 23)), .call (some 25) 21 false (.f 102) [(.t 24, false)], .p 26 (.bin .add (.t 20) (.t 25)), .p 3 (.mv (.t 26))]))) (.ops [.p 12 (.mv (.t 4)), .p 13 (.bin .add (.t 12) (.c (.int .i64 1))), .p 4 (.mv (.t 13))]))
/-- porism/porismlaw02.Heavy -/
def m53 : MFun := { np := 1, res := [.t 2], own := false, code := .sq (.ops [.p 2 (.mv (.c (.bool false)))]) (.sq (.sq (.ops [.p 5 (.mv (.t 0)), .p 6 (.len (.t 5)), .p 7 (.bin .gtr (.t 6) (.c (.int .i64 60)))]) (.ite (.t 7) (.sq (.ops [.p 2 (.mv (.c (.bool true)))]) (.rt)) (.sk))) (.sq (.ops [.p 3 (.mv (.c (.int .i64 0)))]) (.sq (.sq (.ops [.p 4 (.mv (.c (.int .i64 0)))]) (.blk 0 (.lp [0, 3, 4] [] m53_l0))) (.sq (.ops [.p 27 (.mv (.t 3)), .p 28 (.bin .gtr (.t 27) (.c (.int .i64 9000))), .p 2 (.mv (.t 28))]) (.rt))))) }
/-- porism/pile.Check -/
def m64 : MFun := { np := 1, res := [.t 2], own := false, code := .sq (.ops [.box 1 20 10 (.t 0), .p 2 (.mv (.c (.int .i64 0)))]) (.sq (.sq (.ops [.p 3 (.ld 10 true (.t 1)), .call (some 4) 21 false (.f 107) [(.t 3, false)], .p 5 (.not (.t 4))]) (.ite (.t 5) (.sq (.ops [.p 2 (.mv (.c (.int .i64 12)))]) (.rt)) (.sk))) (.sq (.ops [.p 2 (.mv (.c (.int .i64 0)))]) (.rt))) }
/-- (*porism/pile.writer).num -/
def m65 : MFun := { np := 2, res := [], own := false, code := .ops [.p 4 (.mv (.t 0)), .p 5 (.mv (.t 0)), .p 6 (.nilc (.t 5)), .p 7 (.fa (.t 6) 0), .p 8 (.ld 1 false (.t 7)), .p 9 (.mv (.t 1)), .p 10 (.cvt .u8 (.t 9)), .bsl 11 20 5 1 [.t 10], .app 12 21 5 1 1 (.t 8) (.t 11), .p 13 (.nilc (.t 4)), .p 14 (.fa (.t 13) 0), .st 1 (.t 14) (.t 12)] }
/-- (*porism/pile.writer).term -/
def m66 : MFun := { np := 2, res := [], own := false, code := .sq (.ops [.box 3 20 3 (.t 1)]) (.sq (.sq (.ops [.p 4 (.ld 3 true (.t 3)), .call (some 5) 21 false (.f 108) [(.t 4, false)]]) (.ite (.t 5) (.sq (.ops [.p 6 (.mv (.t 0)), .call (some 7) 22 true (.f 65) [(.t 6, false), (.c (.int .i64 0), false)]]) (.rt)) (.sk))) (.sq (.opsO [0, 1, 2, 3, 4, 5, 6, 7, 8, 9, 10, 11, 12] [.p 9 (.mv (.t 0)), .p 10 (.mv (.t 0)), .p 11 (.nilc (.t 10)), .p 12 (.fa (.t 11) 0), .p 13 (.ld 1 false (.t 12)), .p 14 (.ld 3 true (.t 3)), .call (some 15) 23 true (.f 32) [(.t 13, true), (.t 14, false)], .p 8 (.mv (.t 15)), .p 16 (.ext (.t 8) 0), .p 17 (.ext (.t 8) 1), .p 18 (.nilc (.t 9)), .p 19 (.fa (.t 18) 0), .st 1 (.t 19) (.t 16)]) (.gh (.mvc 0 0 1)))) }
def m67_l0 : MC := .sq (.ops [.p 46 (.bin .lss (.t 45) (.t 44))]) (.sq (.ite (.t 46) (.sk) (.ex 2)) (.sq (.blk 3 (.sq (.ops [.p 47 (.ia 6 (.t 43) (.t 45)), .p 48 (.ld 6 true (.t 47)), .alloc 7 28 [.int .i64 0, .sl .nil 7 [], .sl .nil 3 [], .int .i64 0, .int .i64 0, .sl .nil 3 []], .st 6 (.t 7) (.t 48)]) (.sq (.ops [.p 49 (.mv (.t 0)), .p 50 (.fa (.t 7) 0), .p 51 (.ld 1 false (.t 50)), .call (some 52) 29 true (.f 65) [(.t 49, false), (.t 51, false)]]) (.sq (.ops [.p 53 (.mv (.t 0)), .p 54 (.fa (.t 7) 1), .p 55 (.ld 1 false (.t 54)), .call (some 56) 30 true (.f 109) [(.t 53, false), (.t 55, false)]]) (.sq (.ops [.p 57 (.mv (.t 0)), .p 58 (.fa (.t 7) 2), .p 59 (.ld 1 false (.t 58)), .call (some 60) 31 true (.f 111) [(.t 57, false), (.t 59, false)]]) (.ops [.p 61 (.mv (.t 0)), .p 62 (.fa (.t 7) 3), .p 63 (.ld 3 true (.t 62)), .call (some 64) 32 true (.f 66) [(.t 61, false), (.t 63, false)]])))))) (.ops [.p 65 (.bin .add (.t 45) (.c (.int .i64 1))), .p 45 (.mv (.t 65))])))
def m67_l1 : MC := .sq (.ops [.p 17 (.bin .lss (.t 16) (.t 15))]) (.sq (.ite (.t 17) (.sk) (.ex 0)) (.sq (.blk 1 (.sq (.ops [.p 18 (.ia 6 (.t 14) (.t 16)), .p 19 (.ld 6 true (.t 18)), .alloc 5 22 [.sl .nil 7 [], .int .i64 0, .bool false, .int .i64 0, .int .i64 0, .sl .nil 3 []], .st 6 (.t 5) (.t 19)]) (.sq (.ops [.p 20 (.mv (.t 0)), .p 21 (.fa (.t 5) 0), .p 22 (.ld 1 false (.t 21)), .call (some 23) 23 true (.f 109) [(.t 20, false), (.t 22, false)]]) (.sq (.ops [.p 24 (.mv (.t 0)), .p 25 (.fa (.t 5) 1), .p 26 (.ld 1 false (.t 25)), .call (some 27) 24 true (.f 65) [(.t 24, false), (.t 26, false)]]) (.sq (.ops [.p 28 (.mv (.t 0)), .p 29 (.fa (.t 5) 2), .p 30 (.ld 1 false (.t 29)), .call (some 31) 25 true (.f 110) [(.t 28, false), (.t 30, false)]]) (.ops [.p 32 (.mv (.t 0)), .p 33 (.fa (.t 5) 3), .p 34 (.ld 3 true (.t 33)), .call (some 35) 26 true (.f 66) [(.t 32, false), (.t 34, false)]])))))) (.ops [.p 36 (.bin .add (.t 16) (.c (.int .i64 1))), .p 16 (.mv (.t 36))])))
/-- (*porism/pile.writer).block -/
def m67 : MFun := { np := 2, res := [], own := false, code := .sq (.ops [.box 3 20 3 (.t 1)]) (.sq (.ops [.p 8 (.mv (.t 0)), .p 9 (.fa (.t 3) 0), .p 10 (.ld 1 false (.t 9)), .p 11 (.len (.t 10)), .call (some 12) 21 true (.f 65) [(.t 8, false), (.t 11, false)]]) (.sq (.sq (.ops [.p 13 (.fa (.t 3) 0), .p 14 (.ld 1 false (.t 13)), .p 15 (.len (.t 14)), .p 16 (.mv (.c (.int .i64 0)))]) (.blk 0 (.lp [0, 3, 14, 15, 16] [0, 1, 20] m67_l1))) (.sq (.ops [.p 37 (.mv (.t 0)), .p 38 (.fa (.t 3) 1), .p 39 (.ld 1 false (.t 38)), .p 40 (.len (.t 39)), .call (some 41) 27 true (.f 65) [(.t 37, false), (.t 40, false)]]) (.sq (.sq (.ops [.p 42 (.fa (.t 3) 1), .p 43 (.ld 1 false (.t 42)), .p 44 (.len (.t 43)), .p 45 (.mv (.c (.int .i64 0)))]) (.blk 2 (.lp [0, 3, 43, 44, 45] [0, 1, 20] m67_l0))) (.ops [.p 66 (.mv (.t 0)), .p 67 (.fa (.t 3) 2), .p 68 (.ld 1 false (.t 67)), .call (some 69) 33 true (.f 65) [(.t 66, false), (.t 68, false)]]))))) }
/-- porism/porismkeep.Decl -/
def m68 : MFun := { np := 2, res := [.t 4], own := false, code := .sq (.ops [.box 2 20 10 (.t 0), .box 3 21 10 (.t 1), .p 4 (.mv (.c (.bool false)))]) (.sq (.ops [.p 5 (.fa (.t 2) 0), .p 6 (.ld 1 false (.t 5)), .p 7 (.fa (.t 3) 0), .p 8 (.ld 1 false (.t 7)), .p 9 (.bin .eql (.t 6) (.t 8)), .p 10 (.mv (.t 9)), .g 10 true (some 11) (.p 11 (.fa (.t 2) 1)), .g 10 true (some 12) (.p 12 (.ld 3 true (.t 11))), .g 10 true (some 13) (.p 13 (.fa (.t 3) 1)), .g 10 true (some 14) (.p 14 (.ld 3 true (.t 13))), .g 10 true (some 15) (.call (some 15) 22 false (.f 36) [(.t 12, false), (.t 14, false)]), .p 16 (.pick (.t 10) (.t 15) (.c (.bool false))), .p 17 (.mv (.t 16)), .g 17 true (some 18) (.p 18 (.fa (.t 2) 4)), .g 17 true (some 19) (.p 19 (.ld 3 true (.t 18))), .g 17 true (some 20) (.p 20 (.fa (.t 3) 4)), .g 17 true (some 21) (.p 21 (.ld 3 true (.t 20))), .g 17 true (some 22) (.call (some 22) 23 false (.f 36) [(.t 19, false), (.t 21, false)]), .p 23 (.pick (.t 17) (.t 22) (.c (.bool false))), .p 24 (.mv (.t 23)), .g 24 true (some 25) (.p 25 (.fa (.t 2) 7)), .g 24 true (some 26) (.p 26 (.ld 3 true (.t 25))), .g 24 true (some 27) (.p 27 (.fa (.t 3) 7)), .g 24 true (some 28) (.p 28 (.ld 3 true (.t 27))), .g 24 true (some 29) (.call (some 29) 24 false (.f 112) [(.t 26, false), (.t 28, false)]), .p 30 (.pick (.t 24) (.t 29) (.c (.bool false))), .p 4 (.mv (.t 30))]) (.rt)) }
/-- (*porism/pile.reader).num -/
def m69 : MFun := { np := 1, res := [.t 2], own := false, code := .sq (.ops [.p 2 (.mv (.c (.int .i64 0)))]) (.sq (.sq (.opsO [0, 1, 2, 3, 4, 5, 6, 7, 8, 9, 10, 11, 12, 13, 14, 15] [.p 3 (.mv (.t 0)), .p 4 (.nilc (.t 3)), .p 5 (.fa (.t 4) 2), .p 6 (.ld 1 false (.t 5)), .p 7 (.mv (.t 6)), .g 7 false (some 8) (.p 8 (.mv (.t 0))), .g 7 false (some 9) (.p 9 (.nilc (.t 8))), .g 7 false (some 10) (.p 10 (.fa (.t 9) 1)), .g 7 false (some 11) (.p 11 (.ld 1 false (.t 10))), .g 7 false (some 12) (.p 12 (.mv (.t 0))), .g 7 false (some 13) (.p 13 (.nilc (.t 12))), .g 7 false (some 14) (.p 14 (.fa (.t 13) 0)), .g 7 false (some 15) (.p 15 (.ld 1 false (.t 14))), .g 7 false (some 16) (.p 16 (.len (.t 15))), .g 7 false (some 17) (.p 17 (.bin .geq (.t 11) (.t 16))), .p 18 (.pick (.t 7) (.c (.bool true)) (.t 17))]) (.ite (.t 18) (.sq (.ops [.p 19 (.mv (.t 0)), .p 20 (.nilc (.t 19)), .p 21 (.fa (.t 20) 2), .st 1 (.t 21) (.c (.bool true))]) (.sq (.ops [.p 2 (.mv (.c (.int .i64 0)))]) (.rt))) (.sk))) (.sq (.ops [.p 22 (.mv (.t 0)), .p 23 (.nilc (.t 22)), .p 24 (.fa (.t 23) 1), .p 25 (.ld 1 false (.t 24)), .p 26 (.bin .add (.t 25) (.c (.int .i64 1))), .p 27 (.nilc (.t 22)), .p 28 (.fa (.t 27) 1), .st 1 (.t 28) (.t 26)]) (.sq (.opsO [0, 1, 2, 3, 4, 5, 6, 7, 8, 9, 10, 11, 12] [.p 29 (.mv (.t 0)), .p 30 (.nilc (.t 29)), .p 31 (.fa (.t 30) 0), .p 32 (.ld 1 false (.t 31)), .p 33 (.mv (.t 0)), .p 34 (.nilc (.t 33)), .p 35 (.fa (.t 34) 1), .p 36 (.ld 1 false (.t 35)), .p 37 (.bin .sub (.t 36) (.c (.int .i64 1))), .p 38 (.ia 1 (.t 32) (.t 37)), .p 39 (.ld 1 false (.t 38)), .p 40 (.cvt .i64 (.t 39)), .p 2 (.mv (.t 40))]) (.rt)))) }
/-- (*porism/pile.reader).decl -/
def m70 : MFun := { np := 1, res := [.cell 2 10 true], own := false, code := .sq (.ops [.alloc 2 20 [.int .i64 0, .int .i64 0, .int .i64 0, .sl .nil 3 [], .int .i64 0, .int .i64 0, .sl .nil 3 [], .sl .nil 6 [], .sl .nil 6 [], .int .i64 0]]) (.sq (.ops [.p 4 (.mv (.t 0)), .call (some 5) 21 true (.f 69) [(.t 4, false)], .p 6 (.bld [.int .i64 0, .int .i64 0, .int .i64 0, .sl .nil 3 [], .int .i64 0, .int .i64 0, .sl .nil 3 [], .sl .nil 6 [], .sl .nil 6 [], .int .i64 0] [(0, 1, .t 5)]), .alloc 3 22 [.int .i64 0, .int .i64 0, .int .i64 0, .sl .nil 3 [], .int .i64 0, .int .i64 0, .sl .nil 3 [], .sl .nil 6 [], .sl .nil 6 [], .int .i64 0], .st 10 (.t 3) (.t 6)]) (.sq (.sq (.ops [.p 7 (.fa (.t 3) 0), .p 8 (.ld 1 false (.t 7))]) (.blk 0 (.sq (.ops [.p 10 (.bin .eql (.t 8) (.c (.int .i64 1))), .p 9 (.mv (.t 10))]) (.ite (.t 9) (.ops [.p 11 (.mv (.t 0)), .call (some 12) 23 true (.f 113) [(.t 11, false)], .p 13 (.fa (.t 3) 1), .st 3 (.t 13) (.t 12)]) (.sq (.ops [.p 15 (.bin .eql (.t 8) (.c (.int .i64 2))), .p 14 (.mv (.t 15))]) (.ite (.t 14) (.sq (.ops [.p 16 (.mv (.t 0)), .call (some 17) 24 true (.f 113) [(.t 16, false)], .p 18 (.fa (.t 3) 1), .st 3 (.t 18) (.t 17)]) (.ops [.p 19 (.mv (.t 0)), .call (some 20) 25 true (.f 113) [(.t 19, false)], .p 21 (.fa (.t 3) 4), .st 3 (.t 21) (.t 20)])) (.sq (.ops [.p 23 (.bin .eql (.t 8) (.c (.int .i64 3))), .p 22 (.mv (.t 23))]) (.ite (.t 22) (.ops [.p 24 (.mv (.t 0)), .call (some 25) 26 true (.f 114) [(.t 24, false)], .p 26 (.fa (.t 3) 7), .st 3 (.t 26) (.t 25)]) (.sk))))))))) (.sq (.ops [.p 27 (.mv (.t 0)), .p 28 (.mv (.t 0)), .p 29 (.nilc (.t 28)), .p 30 (.fa (.t 29) 2), .p 31 (.ld 1 false (.t 30)), .p 32 (.mv (.t 31)), .g 32 false (some 33) (.p 33 (.ld 10 true (.t 3))), .g 32 false (some 34) (.call (some 34) 27 false (.f 107) [(.t 33, false)]), .g 32 false (some 35) (.p 35 (.not (.t 34))), .p 36 (.pick (.t 32) (.c (.bool true)) (.t 35)), .p 37 (.nilc (.t 27)), .p 38 (.fa (.t 37) 2), .st 1 (.t 38) (.t 36)]) (.sq (.ops [.p 39 (.ld 10 true (.t 3)), .st 10 (.t 2) (.t 39)]) (.rt))))) }
/-- porism/term.Check -/
def m71 : MFun := { np := 1, res := [.t 2], own := false, code := .sq (.ops [.box 1 20 3 (.t 0), .p 2 (.mv (.c (.int .i64 0)))]) (.sq (.blk 0 (.sq (.ops [.p 4 (.ld 3 true (.t 1)), .call (some 5) 21 false (.f 115) [(.t 4, false)], .p 6 (.bin .gtr (.t 5) (.c (.int .i64 6000))), .p 3 (.mv (.t 6))]) (.ite (.t 3) (.sq (.ops [.p 2 (.mv (.c (.int .i64 4)))]) (.rt)) (.sq (.ops [.p 8 (.ld 3 true (.t 1)), .call (some 9) 22 false (.f 116) [(.t 8, false)], .p 10 (.bin .gtr (.t 9) (.c (.int .i64 200))), .p 7 (.mv (.t 10))]) (.ite (.t 7) (.sq (.ops [.p 2 (.mv (.c (.int .i64 5)))]) (.rt)) (.sq (.ops [.p 12 (.ld 3 true (.t 1)), .call (some 13) 23 false (.f 117) [(.t 12, false)], .p 14 (.not (.t 13)), .p 11 (.mv (.t 14))]) (.ite (.t 11) (.sq (.ops [.p 2 (.mv (.c (.int .i64 1)))]) (.rt)) (.sk)))))))) (.sq (.ops [.p 2 (.mv (.c (.int .i64 0)))]) (.rt))) }
def m72_l0 : MC := .sq (.ops [.p 30 (.bin .lss (.t 29) (.t 28))]) (.sq (.ite (.t 30) (.sk) (.ex 0)) (.sq (.blk 1 (.sq (.ops [.p 31 (.ia 3 (.t 27) (.t 29)), .p 32 (.ld 3 true (.t 31)), .alloc 6 26 [.int .i64 0, .int .i64 0, .sl .nil 3 []], .st 3 (.t 6) (.t 32)]) (.ops [.p 33 (.mv (.t 0)), .p 34 (.ld 3 true (.t 6)), .call (some 35) 27 true (.f 72) [(.t 33, true), (.t 34, false)], .p 0 (.mv (.t 35))]))) (.ops [.p 36 (.bin .add (.t 29) (.c (.int .i64 1))), .p 29 (.mv (.t 36))])))
/-- porism/pack.add -/
def m72 : MFun := { np := 2, res := [.t 4], own := true, code := .sq (.ops [.box 3 20 3 (.t 1), .p 4 (.mv (.c (.sl .nil 1 [])))]) (.sq (.ops [.p 7 (.mv (.t 0)), .p 8 (.fa (.t 3) 0), .p 9 (.ld 1 false (.t 8)), .p 10 (.cvt .u8 (.t 9)), .bsl 11 21 5 1 [.t 10], .app 12 22 5 1 1 (.t 7) (.t 11), .p 0 (.mv (.t 12))]) (.sq (.sq (.ops [.p 13 (.fa (.t 3) 0), .p 14 (.ld 1 false (.t 13)), .call (some 15) 23 false (.f 118) [(.t 14, false)]]) (.ite (.t 15) (.sq (.ops [.p 16 (.mv (.t 0)), .p 17 (.fa (.t 3) 1), .p 18 (.ld 1 false (.t 17)), .p 19 (.bin .shr (.t 18) (.c (.int .u64 8))), .p 20 (.cvt .u8 (.t 19)), .p 21 (.fa (.t 3) 1), .p 22 (.ld 1 false (.t 21)), .p 23 (.cvt .u8 (.t 22)), .bsl 24 24 5 1 [.t 20, .t 23], .app 25 25 5 1 1 (.t 16) (.t 24), .p 4 (.mv (.t 25))]) (.rt)) (.sk))) (.sq (.sq (.ops [.p 26 (.fa (.t 3) 2), .p 27 (.ld 1 false (.t 26)), .p 28 (.len (.t 27)), .p 29 (.mv (.c (.int .i64 0)))]) (.blk 0 (.lp [0, 27, 28, 29] [0, 22] m72_l0))) (.sq (.ops [.p 37 (.mv (.t 0)), .p 4 (.mv (.t 37))]) (.rt))))) }
/-- slices.Clone[[]byte,byte] -/
def m73 : MFun := { np := 1, res := [.t 2], own := true, code := .sq (.ops [.p 2 (.mv (.c (.sl .nil 1 [])))]) (.sq (.sq (.ops [.p 3 (.mv (.t 0)), .p 4 (.isnil false (.t 3))]) (.ite (.t 4) (.sq (.sq (.ops [.p 2 (.mv (.c (.sl .nil 1 [])))]) (.gh (.own 2 20 5 1))) (.rt)) (.sk))) (.sq (.ops [.bsl 5 21 5 1 [], .p 6 (.mv (.t 0)), .app 7 22 5 1 1 (.t 5) (.t 6), .p 2 (.mv (.t 7))]) (.rt))) }
def m86_l0 : MC := .sq (.sq (.ops [.p 11 (.mv (.t 5)), .p 12 (.mv (.t 0)), .p 13 (.len (.t 12)), .p 14 (.bin .lss (.t 11) (.t 13))]) (.ite (.t 14) (.sk) (.ex 0))) (.sq (.blk 1 (.sq (.opsO [0, 1, 2, 3, 4, 5, 6, 7, 8, 9] [.p 17 (.mv (.t 0)), .p 18 (.mv (.t 5)), .p 19 (.ia 3 (.t 17) (.t 18)), .p 20 (.ld 3 true (.t 19)), .p 21 (.mv (.t 1)), .p 22 (.mv (.t 5)), .p 23 (.ia 3 (.t 21) (.t 22)), .p 24 (.ld 3 true (.t 23)), .call (some 25) 20 false (.f 36) [(.t 20, false), (.t 24, false)], .p 26 (.not (.t 25))]) (.ite (.t 26) (.sq (.ops [.p 4 (.mv (.c (.bool false)))]) (.rt)) (.sk)))) (.ops [.p 15 (.mv (.t 5)), .p 16 (.bin .add (.t 15) (.c (.int .i64 1))), .p 5 (.mv (.t 16))]))
/-- porism/porismkeep.Terms -/
def m86 : MFun := { np := 2, res := [.t 4], own := false, code := .sq (.ops [.p 4 (.mv (.c (.bool false)))]) (.sq (.sq (.ops [.p 6 (.mv (.t 0)), .p 7 (.len (.t 6)), .p 8 (.mv (.t 1)), .p 9 (.len (.t 8)), .p 10 (.bin .neq (.t 7) (.t 9))]) (.ite (.t 10) (.sq (.ops [.p 4 (.mv (.c (.bool false)))]) (.rt)) (.sk))) (.sq (.sq (.ops [.p 5 (.mv (.c (.int .i64 0)))]) (.blk 0 (.lp [0, 1, 5] [] m86_l0))) (.sq (.ops [.p 4 (.mv (.c (.bool true)))]) (.rt)))) }
/-- porism/shape.level -/
def m90 : MFun := { np := 1, res := [.t 2], own := false, code := .sq (.ops [.p 2 (.mv (.c (.bool false)))]) (.sq (.ops [.p 3 (.mv (.t 0)), .p 4 (.bin .geq (.t 3) (.c (.int .i64 0))), .p 5 (.mv (.t 4)), .g 5 true (some 6) (.p 6 (.mv (.t 0))), .g 5 true (some 7) (.p 7 (.bin .leq (.t 6) (.c (.int .i64 6)))), .p 8 (.pick (.t 5) (.t 7) (.c (.bool false))), .p 2 (.mv (.t 8))]) (.rt)) }
/-- porism/shape.sort -/
def m91 : MFun := { np := 2, res := [.t 4], own := false, code := .sq (.ops [.box 2 20 3 (.t 0), .box 3 21 1 (.t 1), .p 4 (.mv (.c (.bool false)))]) (.sq (.ops [.p 6 (.fa (.t 2) 0), .p 7 (.ld 1 false (.t 6)), .p 8 (.ld 1 false (.t 3)), .p 9 (.ia 6 (.t 7) (.t 8)), .p 10 (.ld 6 true (.t 9)), .alloc 5 22 [.sl .nil 7 [], .int .i64 0, .bool false, .int .i64 0, .int .i64 0, .sl .nil 3 []], .st 6 (.t 5) (.t 10)]) (.sq (.sq (.ops [.p 11 (.ld 3 true (.t 2)), .p 12 (.fa (.t 5) 0), .p 13 (.ld 1 false (.t 12)), .call (some 14) 23 false (.f 127) [(.t 11, false), (.t 13, false)], .p 15 (.not (.t 14)), .p 16 (.mv (.t 15)), .g 16 false (some 17) (.p 17 (.fa (.t 5) 1)), .g 16 false (some 18) (.p 18 (.ld 1 false (.t 17))), .g 16 false (some 19) (.call (some 19) 24 false (.f 90) [(.t 18, false)]), .g 16 false (some 20) (.p 20 (.not (.t 19))), .p 21 (.pick (.t 16) (.c (.bool true)) (.t 20)), .p 22 (.mv (.t 21)), .g 22 false (some 23) (.p 23 (.fa (.t 5) 2)), .g 22 false (some 24) (.p 24 (.ld 1 false (.t 23))), .g 22 false (some 25) (.p 25 (.fa (.t 5) 3)), .g 22 false (some 26) (.p 26 (.ld 3 true (.t 25))), .g 22 false (some 27) (.p 27 (.fa (.t 5) 0)), .g 22 false (some 28) (.p 28 (.ld 1 false (.t 27))), .g 22 false (some 29) (.p 29 (.len (.t 28))), .g 22 false (some 30) (.call (some 30) 25 false (.f 128) [(.t 24, false), (.t 26, false), (.t 29, false)]), .g 22 false (some 31) (.p 31 (.not (.t 30))), .p 32 (.pick (.t 22) (.c (.bool true)) (.t 31))]) (.ite (.t 32) (.sq (.ops [.p 4 (.mv (.c (.bool false)))]) (.rt)) (.sk))) (.sq (.ops [.p 33 (.fa (.t 5) 0), .p 34 (.ld 1 false (.t 33)), .p 35 (.mkf 130 [.t 3, .t 5]), .call (some 36) 26 true (.f 129) [(.t 34, false), (.t 35, false)], .p 37 (.not (.t 36)), .p 4 (.mv (.t 37))]) (.rt)))) }
/-- slices.ContainsFunc[[]porism/api.Con,porism/api.Con] -/
def m92 : MFun := { np := 2, res := [.t 4], own := false, code := .sq (.ops [.p 4 (.mv (.c (.bool false)))]) (.sq (.ops [.p 5 (.mv (.t 0)), .p 6 (.mv (.t 1)), .call (some 7) 20 true (.f 131) [(.t 5, false), (.t 6, false)], .p 8 (.bin .geq (.t 7) (.c (.int .i64 0))), .p 4 (.mv (.t 8))]) (.rt)) }
/-- porism/shape.Check$1 -/
def m93 : MFun := { np := 2, res := [.t 3], own := false, code := .sq (.ops [.box 2 20 6 (.t 0), .p 3 (.mv (.c (.bool false)))]) (.sq (.ops [.p 4 (.ld 3 true (.t 1)), .p 5 (.ld 6 true (.t 2)), .call (some 6) 21 false (.f 94) [(.t 4, false), (.t 5, false)], .p 7 (.not (.t 6)), .p 3 (.mv (.t 7))]) (.rt)) }
/-- porism/shape.con -/
def m94 : MFun := { np := 2, res := [.t 4], own := false, code := .sq (.ops [.box 2 20 3 (.t 0), .box 3 21 6 (.t 1), .p 4 (.mv (.c (.bool false)))]) (.sq (.sq (.ops [.p 6 (.fa (.t 3) 0), .p 7 (.ld 1 false (.t 6)), .p 8 (.bin .lss (.t 7) (.c (.int .i64 0))), .p 9 (.mv (.t 8)), .g 9 false (some 10) (.p 10 (.fa (.t 3) 0)), .g 9 false (some 11) (.p 11 (.ld 1 false (.t 10))), .g 9 false (some 12) (.p 12 (.fa (.t 2) 0)), .g 9 false (some 13) (.p 13 (.ld 1 false (.t 12))), .g 9 false (some 14) (.p 14 (.len (.t 13))), .g 9 false (some 15) (.p 15 (.bin .geq (.t 11) (.t 14))), .p 16 (.pick (.t 9) (.c (.bool true)) (.t 15)), .p 17 (.mv (.t 16)), .g 17 false (some 18) (.p 18 (.ld 3 true (.t 2))), .g 17 false (some 19) (.p 19 (.fa (.t 3) 1)), .g 17 false (some 20) (.p 20 (.ld 1 false (.t 19))), .g 17 false (some 21) (.call (some 21) 22 false (.f 127) [(.t 18, false), (.t 20, false)]), .g 17 false (some 22) (.p 22 (.not (.t 21))), .p 23 (.pick (.t 17) (.c (.bool true)) (.t 22))]) (.ite (.t 23) (.sq (.ops [.p 4 (.mv (.c (.bool false)))]) (.rt)) (.sk))) (.sq (.ops [.p 24 (.fa (.t 2) 0), .p 25 (.ld 1 false (.t 24)), .p 26 (.fa (.t 3) 0), .p 27 (.ld 1 false (.t 26)), .p 28 (.ia 6 (.t 25) (.t 27)), .p 29 (.ld 6 true (.t 28)), .alloc 5 23 [.sl .nil 7 [], .int .i64 0, .bool false, .int .i64 0, .int .i64 0, .sl .nil 3 []], .st 6 (.t 5) (.t 29)]) (.sq (.ops [.p 30 (.fa (.t 3) 2), .p 31 (.ld 1 false (.t 30)), .p 32 (.len (.t 31)), .p 33 (.fa (.t 5) 0), .p 34 (.ld 1 false (.t 33)), .p 35 (.len (.t 34)), .p 36 (.bin .eql (.t 32) (.t 35)), .p 37 (.mv (.t 36)), .g 37 true (some 38) (.p 38 (.fa (.t 3) 2)), .g 37 true (some 39) (.p 39 (.ld 1 false (.t 38))), .g 37 true (some 40) (.p 40 (.fa (.t 3) 1)), .g 37 true (some 41) (.p 41 (.ld 1 false (.t 40))), .g 37 true (some 42) (.p 42 (.len (.t 41))), .g 37 true (some 43) (.call (some 43) 24 false (.f 132) [(.t 39, false), (.t 42, false)]), .p 44 (.pick (.t 37) (.t 43) (.c (.bool false))), .p 45 (.mv (.t 44)), .g 45 true (some 46) (.p 46 (.fa (.t 5) 2)), .g 45 true (some 47) (.p 47 (.ld 1 false (.t 46))), .g 45 true (some 48) (.p 48 (.fa (.t 3) 3)), .g 45 true (some 49) (.p 49 (.ld 3 true (.t 48))), .g 45 true (some 50) (.p 50 (.fa (.t 3) 1)), .g 45 true (some 51) (.p 51 (.ld 1 false (.t 50))), .g 45 true (some 52) (.p 52 (.len (.t 51))), .g 45 true (some 53) (.call (some 53) 25 false (.f 128) [(.t 47, false), (.t 49, false), (.t 52, false)]), .p 54 (.pick (.t 45) (.t 53) (.c (.bool false))), .p 4 (.mv (.t 54))]) (.rt)))) }
/-- porism/kind.Binds -/
def m99 : MFun := { np := 2, res := [.t 4], own := false, code := .sq (.ops [.p 4 (.mv (.c (.int .i64 0)))]) (.sq (.sq (.ops [.p 5 (.mv (.t 1)), .p 6 (.bin .eql (.t 5) (.c (.int .i64 1))), .p 7 (.mv (.t 6)), .g 7 true (some 8) (.bsl 8 20 3 1 [.c (.int .i64 4), .c (.int .i64 5), .c (.int .i64 7)]), .g 7 true (some 9) (.p 9 (.mv (.t 0))), .g 7 true (some 10) (.call (some 10) 21 false (.f 138) [(.t 8, false), (.t 9, false)]), .p 11 (.pick (.t 7) (.t 10) (.c (.bool false)))]) (.ite (.t 11) (.sq (.ops [.p 4 (.mv (.c (.int .i64 1)))]) (.rt)) (.sk))) (.sq (.ops [.p 4 (.mv (.c (.int .i64 0)))]) (.rt))) }
def m101_l0 : MC := .sq (.sq (.ops [.p 5 (.mv (.t 4)), .p 6 (.fa (.t 1) 2), .p 7 (.ld 1 false (.t 6)), .p 8 (.len (.t 7)), .p 9 (.bin .lss (.t 5) (.t 8))]) (.ite (.t 9) (.sk) (.ex 0))) (.sq (.blk 1 (.ops [.p 12 (.mv (.t 3)), .p 13 (.fa (.t 1) 2), .p 14 (.ld 1 false (.t 13)), .p 15 (.mv (.t 4)), .p 16 (.ia 3 (.t 14) (.t 15)), .p 17 (.ld 3 true (.t 16)), .call (some 18) 21 false (.f 101) [(.t 17, false)], .p 19 (.mm true (.t 12) (.t 18)), .p 3 (.mv (.t 19))])) (.ops [.p 10 (.mv (.t 4)), .p 11 (.bin .add (.t 10) (.c (.int .i64 1))), .p 4 (.mv (.t 11))]))
/-- porism/porismref01.Depth -/
def m101 : MFun := { np := 1, res := [.t 2], own := false, code := .sq (.ops [.box 1 20 3 (.t 0), .p 2 (.mv (.c (.int .i64 0)))]) (.sq (.ops [.p 3 (.mv (.c (.int .i64 0)))]) (.sq (.sq (.ops [.p 4 (.mv (.c (.int .i64 0)))]) (.blk 0 (.lp [1, 3, 4] [20] m101_l0))) (.sq (.ops [.p 20 (.mv (.t 3)), .p 21 (.bin .add (.t 20) (.c (.int .i64 1))), .p 2 (.mv (.t 21))]) (.rt)))) }
def m102_l0 : MC := .sq (.sq (.ops [.p 5 (.mv (.t 4)), .p 6 (.fa (.t 1) 2), .p 7 (.ld 1 false (.t 6)), .p 8 (.len (.t 7)), .p 9 (.bin .lss (.t 5) (.t 8))]) (.ite (.t 9) (.sk) (.ex 0))) (.sq (.blk 1 (.ops [.p 12 (.mv (.t 3)), .p 13 (.fa (.t 1) 2), .p 14 (.ld 1 false (.t 13)), .p 15 (.mv (.t 4)), .p 16 (.ia 3 (.t 14) (.t 15)), .p 17 (.ld 3 true (.t 16)), .call (some 18) 21 false (.f 102) [(.t 17, false)], .p 19 (.bin .add (.t 12) (.t 18)), .p 3 (.mv (.t 19))])) (.ops [.p 10 (.mv (.t 4)), .p 11 (.bin .add (.t 10) (.c (.int .i64 1))), .p 4 (.mv (.t 11))]))
/-- porism/porismref01.Size -/
def m102 : MFun := { np := 1, res := [.t 2], own := false, code := .sq (.ops [.box 1 20 3 (.t 0), .p 2 (.mv (.c (.int .i64 0)))]) (.sq (.ops [.p 3 (.mv (.c (.int .i64 1)))]) (.sq (.sq (.ops [.p 4 (.mv (.c (.int .i64 0)))]) (.blk 0 (.lp [1, 3, 4] [20] m102_l0))) (.sq (.ops [.p 20 (.mv (.t 3)), .p 2 (.mv (.t 20))]) (.rt)))) }
/-- porism/pile.right -/
def m107 : MFun := { np := 1, res := [.t 2], own := false, code := .sq (.ops [.box 1 20 10 (.t 0), .p 2 (.mv (.c (.bool false)))]) (.sq (.sq (.ops [.p 3 (.fa (.t 1) 0), .p 4 (.ld 1 false (.t 3))]) (.blk 0 (.sq (.ops [.p 6 (.bin .eql (.t 4) (.c (.int .i64 1))), .p 5 (.mv (.t 6))]) (.ite (.t 5) (.sq (.ops [.p 7 (.fa (.t 1) 1), .p 8 (.ld 3 true (.t 7)), .call (some 9) 21 false (.f 71) [(.t 8, false)], .p 10 (.bin .eql (.t 9) (.c (.int .i64 0))), .p 11 (.mv (.t 10)), .g 11 true (some 12) (.p 12 (.fa (.t 1) 4)), .g 11 true (some 13) (.p 13 (.ld 3 true (.t 12))), .g 11 true (some 14) (.call (some 14) 22 false (.f 108) [(.t 13, false)]), .p 15 (.pick (.t 11) (.t 14) (.c (.bool false))), .p 16 (.mv (.t 15)), .g 16 true (some 17) (.p 17 (.ld 10 true (.t 1))), .g 16 true (some 18) (.call (some 18) 23 false (.f 142) [(.t 17, false)]), .p 19 (.pick (.t 16) (.t 18) (.c (.bool false))), .p 2 (.mv (.t 19))]) (.rt)) (.sq (.ops [.p 21 (.bin .eql (.t 4) (.c (.int .i64 2))), .p 20 (.mv (.t 21))]) (.ite (.t 20) (.sq (.ops [.p 22 (.fa (.t 1) 1), .p 23 (.ld 3 true (.t 22)), .call (some 24) 24 false (.f 71) [(.t 23, false)], .p 25 (.bin .eql (.t 24) (.c (.int .i64 0))), .p 26 (.mv (.t 25)), .g 26 true (some 27) (.p 27 (.fa (.t 1) 4)), .g 26 true (some 28) (.p 28 (.ld 3 true (.t 27))), .g 26 true (some 29) (.call (some 29) 25 false (.f 71) [(.t 28, false)]), .g 26 true (some 30) (.p 30 (.bin .eql (.t 29) (.c (.int .i64 0)))), .p 31 (.pick (.t 26) (.t 30) (.c (.bool false))), .p 32 (.mv (.t 31)), .g 32 true (some 33) (.p 33 (.ld 10 true (.t 1))), .g 32 true (some 34) (.call (some 34) 26 false (.f 142) [(.t 33, false)]), .p 35 (.pick (.t 32) (.t 34) (.c (.bool false))), .p 2 (.mv (.t 35))]) (.rt)) (.sq (.ops [.p 37 (.bin .eql (.t 4) (.c (.int .i64 3))), .p 36 (.mv (.t 37))]) (.ite (.t 36) (.sq (.ops [.p 38 (.fa (.t 1) 1), .p 39 (.ld 3 true (.t 38)), .call (some 40) 27 false (.f 108) [(.t 39, false)], .p 41 (.mv (.t 40)), .g 41 true (some 42) (.p 42 (.fa (.t 1) 4)), .g 41 true (some 43) (.p 43 (.ld 3 true (.t 42))), .g 41 true (some 44) (.call (some 44) 28 false (.f 108) [(.t 43, false)]), .p 45 (.pick (.t 41) (.t 44) (.c (.bool false))), .p 46 (.mv (.t 45)), .g 46 true (some 47) (.p 47 (.fa (.t 1) 7)), .g 46 true (some 48) (.p 48 (.ld 3 true (.t 47))), .g 46 true (some 49) (.call (some 49) 29 false (.f 47) [(.t 48, false)]), .g 46 true (some 50) (.p 50 (.bin .eql (.t 49) (.c (.int .i64 0)))), .p 51 (.pick (.t 46) (.t 50) (.c (.bool false))), .p 2 (.mv (.t 51))]) (.rt)) (.sk))))))))) (.sq (.ops [.p 2 (.mv (.c (.bool false)))]) (.rt))) }
/-- porism/term.None -/
def m108 : MFun := { np := 1, res := [.t 2], own := false, code := .sq (.ops [.box 1 20 3 (.t 0), .p 2 (.mv (.c (.bool false)))]) (.sq (.ops [.p 3 (.fa (.t 1) 0), .p 4 (.ld 1 false (.t 3)), .p 5 (.bin .eql (.t 4) (.c (.int .i64 0))), .p 6 (.mv (.t 5)), .g 6 true (some 7) (.p 7 (.fa (.t 1) 1)), .g 6 true (some 8) (.p 8 (.ld 1 false (.t 7))), .g 6 true (some 9) (.p 9 (.bin .eql (.t 8) (.c (.int .i64 0)))), .p 10 (.pick (.t 6) (.t 9) (.c (.bool false))), .p 11 (.mv (.t 10)), .g 11 true (some 12) (.p 12 (.fa (.t 1) 2)), .g 11 true (some 13) (.p 13 (.ld 1 false (.t 12))), .g 11 true (some 14) (.p 14 (.len (.t 13))), .g 11 true (some 15) (.p 15 (.bin .eql (.t 14) (.c (.int .i64 0)))), .p 16 (.pick (.t 11) (.t 15) (.c (.bool false))), .p 2 (.mv (.t 16))]) (.rt)) }
def m109_l0 : MC := .sq (.ops [.p 13 (.bin .lss (.t 12) (.t 11))]) (.sq (.ite (.t 13) (.sk) (.ex 0)) (.sq (.blk 1 (.sq (.ops [.p 14 (.ia 7 (.t 10) (.t 12)), .p 15 (.ld 7 true (.t 14)), .alloc 5 21 [.bool false, .int .i64 0, .int .i64 0, .sl .nil 3 [], .sl .nil 3 [], .int .i64 0, .sl .nil 3 []], .st 7 (.t 5) (.t 15)]) (.sq (.ops [.p 16 (.mv (.t 0)), .p 17 (.fa (.t 5) 0), .p 18 (.ld 1 false (.t 17)), .call (some 19) 22 true (.f 110) [(.t 16, false), (.t 18, false)]]) (.sq (.ops [.p 20 (.mv (.t 0)), .p 21 (.fa (.t 5) 1), .p 22 (.ld 3 true (.t 21)), .call (some 23) 23 true (.f 66) [(.t 20, false), (.t 22, false)]]) (.sq (.ops [.p 24 (.mv (.t 0)), .p 25 (.fa (.t 5) 4), .p 26 (.ld 1 false (.t 25)), .call (some 27) 24 true (.f 111) [(.t 24, false), (.t 26, false)]]) (.sq (.ops [.p 28 (.mv (.t 0)), .p 29 (.fa (.t 5) 5), .p 30 (.ld 1 false (.t 29)), .call (some 31) 25 true (.f 65) [(.t 28, false), (.t 30, false)]]) (.ops [.p 32 (.mv (.t 0)), .p 33 (.fa (.t 5) 6), .p 34 (.ld 1 false (.t 33)), .call (some 35) 26 true (.f 111) [(.t 32, false), (.t 34, false)]]))))))) (.ops [.p 36 (.bin .add (.t 12) (.c (.int .i64 1))), .p 12 (.mv (.t 36))])))
/-- (*porism/pile.writer).args -/
def m109 : MFun := { np := 2, res := [], own := false, code := .sq (.ops [.p 6 (.mv (.t 0)), .p 7 (.mv (.t 1)), .p 8 (.len (.t 7)), .call (some 9) 20 true (.f 65) [(.t 6, false), (.t 8, false)]]) (.sq (.ops [.p 10 (.mv (.t 1)), .p 11 (.len (.t 10)), .p 12 (.mv (.c (.int .i64 0)))]) (.blk 0 (.lp [0, 10, 11, 12] [0, 1] m109_l0))) }
/-- (*porism/pile.writer).flag -/
def m110 : MFun := { np := 2, res := [], own := false, code := .sq (.sq (.ops [.p 4 (.mv (.t 1))]) (.ite (.t 4) (.sq (.ops [.p 5 (.mv (.t 0)), .call (some 6) 20 true (.f 65) [(.t 5, false), (.c (.int .i64 1), false)]]) (.rt)) (.sk))) (.ops [.p 7 (.mv (.t 0)), .call (some 8) 21 true (.f 65) [(.t 7, false), (.c (.int .i64 0), false)]]) }
def m111_l0 : MC := .sq (.ops [.p 13 (.bin .lss (.t 12) (.t 11))]) (.sq (.ite (.t 13) (.sk) (.ex 0)) (.sq (.blk 1 (.sq (.ops [.p 14 (.ia 3 (.t 10) (.t 12)), .p 15 (.ld 3 true (.t 14)), .alloc 5 21 [.int .i64 0, .int .i64 0, .sl .nil 3 []], .st 3 (.t 5) (.t 15)]) (.ops [.p 16 (.mv (.t 0)), .p 17 (.ld 3 true (.t 5)), .call (some 18) 22 true (.f 66) [(.t 16, false), (.t 17, false)]]))) (.ops [.p 19 (.bin .add (.t 12) (.c (.int .i64 1))), .p 12 (.mv (.t 19))])))
/-- (*porism/pile.writer).row -/
def m111 : MFun := { np := 2, res := [], own := false, code := .sq (.ops [.p 6 (.mv (.t 0)), .p 7 (.mv (.t 1)), .p 8 (.len (.t 7)), .call (some 9) 20 true (.f 65) [(.t 6, false), (.t 8, false)]]) (.sq (.ops [.p 10 (.mv (.t 1)), .p 11 (.len (.t 10)), .p 12 (.mv (.c (.int .i64 0)))]) (.blk 0 (.lp [0, 10, 11, 12] [0, 1] m111_l0))) }
def m112_l0 : MC := .sq (.sq (.ops [.p 77 (.mv (.t 8)), .p 78 (.fa (.t 2) 1), .p 79 (.ld 1 false (.t 78)), .p 80 (.len (.t 79)), .p 81 (.bin .lss (.t 77) (.t 80))]) (.ite (.t 81) (.sk) (.ex 2))) (.sq (.blk 3 (.sq (.opsO [0, 1, 2, 3, 4, 5, 6, 7, 8, 9, 10, 11] [.p 84 (.fa (.t 2) 1), .p 85 (.ld 1 false (.t 84)), .p 86 (.mv (.t 8)), .p 87 (.ia 6 (.t 85) (.t 86)), .p 88 (.ld 6 true (.t 87)), .p 89 (.fa (.t 3) 1), .p 90 (.ld 1 false (.t 89)), .p 91 (.mv (.t 8)), .p 92 (.ia 6 (.t 90) (.t 91)), .p 93 (.ld 6 true (.t 92)), .call (some 94) 26 false (.f 144) [(.t 88, false), (.t 93, false)], .p 95 (.not (.t 94))]) (.ite (.t 95) (.sq (.ops [.p 4 (.mv (.c (.bool false)))]) (.rt)) (.sk)))) (.ops [.p 82 (.mv (.t 8)), .p 83 (.bin .add (.t 82) (.c (.int .i64 1))), .p 8 (.mv (.t 83))]))
def m112_l1 : MC := .sq (.sq (.ops [.p 32 (.mv (.t 5)), .p 33 (.fa (.t 2) 0), .p 34 (.ld 1 false (.t 33)), .p 35 (.len (.t 34)), .p 36 (.bin .lss (.t 32) (.t 35))]) (.ite (.t 36) (.sk) (.ex 0))) (.sq (.blk 1 (.sq (.opsO [0, 1, 2, 3, 4, 5, 6, 7, 8, 9, 10, 11, 12, 13] [.p 39 (.fa (.t 2) 0), .p 40 (.ld 1 false (.t 39)), .p 41 (.mv (.t 5)), .p 42 (.ia 6 (.t 40) (.t 41)), .p 43 (.ld 6 true (.t 42)), .p 44 (.fa (.t 3) 0), .p 45 (.lda 21 1 false (.t 44)), .p 46 (.mv (.t 5)), .p 47 (.ia 6 (.t 45) (.t 46)), .p 48 (.ldv 6 true (.t 47)), .alloc 6 22 [.sl .nil 7 [], .int .i64 0, .bool false, .int .i64 0, .int .i64 0, .sl .nil 3 []], .alloc 7 23 [.sl .nil 7 [], .int .i64 0, .bool false, .int .i64 0, .int .i64 0, .sl .nil 3 []], .chk [21] (.st 6 (.t 6) (.t 43)), .st 6 (.t 7) (.t 48)]) (.sq (.ops [.p 49 (.fa (.t 6) 0), .p 50 (.ld 1 false (.t 49)), .p 51 (.fa (.t 7) 0), .p 52 (.ld 1 false (.t 51)), .call (some 53) 24 false (.f 143) [(.t 50, false), (.t 52, false)], .p 54 (.not (.t 53)), .p 55 (.mv (.t 54)), .g 55 false (some 56) (.p 56 (.fa (.t 6) 1)), .g 55 false (some 57) (.p 57 (.ld 1 false (.t 56))), .g 55 false (some 58) (.p 58 (.fa (.t 7) 1)), .g 55 false (some 59) (.p 59 (.ld 1 false (.t 58))), .g 55 false (some 60) (.p 60 (.bin .neq (.t 57) (.t 59))), .p 61 (.pick (.t 55) (.c (.bool true)) (.t 60)), .p 62 (.mv (.t 61)), .g 62 false (some 63) (.p 63 (.fa (.t 6) 2)), .g 62 false (some 64) (.p 64 (.ld 1 false (.t 63))), .g 62 false (some 65) (.p 65 (.fa (.t 7) 2)), .g 62 false (some 66) (.p 66 (.ld 1 false (.t 65))), .g 62 false (some 67) (.p 67 (.beq true (.t 64) (.t 66))), .p 68 (.pick (.t 62) (.c (.bool true)) (.t 67)), .p 69 (.mv (.t 68)), .g 69 false (some 70) (.p 70 (.fa (.t 6) 3)), .g 69 false (some 71) (.p 71 (.ld 3 true (.t 70))), .g 69 false (some 72) (.p 72 (.fa (.t 7) 3)), .g 69 false (some 73) (.p 73 (.ld 3 true (.t 72))), .g 69 false (some 74) (.call (some 74) 25 false (.f 36) [(.t 71, false), (.t 73, false)]), .g 69 false (some 75) (.p 75 (.not (.t 74))), .p 76 (.pick (.t 69) (.c (.bool true)) (.t 75))]) (.ite (.t 76) (.sq (.ops [.p 4 (.mv (.c (.bool false)))]) (.rt)) (.sk))))) (.ops [.p 37 (.mv (.t 5)), .p 38 (.bin .add (.t 37) (.c (.int .i64 1))), .p 5 (.mv (.t 38))]))
/-- porism/porismkeep.Block -/
def m112 : MFun := { np := 2, res := [.t 4], own := false, code := .sq (.ops [.box 2 20 3 (.t 0), .box 3 21 3 (.t 1), .p 4 (.mv (.c (.bool false)))]) (.sq (.sq (.ops [.p 9 (.fa (.t 2) 0), .p 10 (.ld 1 false (.t 9)), .p 11 (.len (.t 10)), .p 12 (.fa (.t 3) 0), .p 13 (.ld 1 false (.t 12)), .p 14 (.len (.t 13)), .p 15 (.bin .neq (.t 11) (.t 14)), .p 16 (.mv (.t 15)), .g 16 false (some 17) (.p 17 (.fa (.t 2) 1)), .g 16 false (some 18) (.p 18 (.ld 1 false (.t 17))), .g 16 false (some 19) (.p 19 (.len (.t 18))), .g 16 false (some 20) (.p 20 (.fa (.t 3) 1)), .g 16 false (some 21) (.p 21 (.ld 1 false (.t 20))), .g 16 false (some 22) (.p 22 (.len (.t 21))), .g 16 false (some 23) (.p 23 (.bin .neq (.t 19) (.t 22))), .p 24 (.pick (.t 16) (.c (.bool true)) (.t 23)), .p 25 (.mv (.t 24)), .g 25 false (some 26) (.p 26 (.fa (.t 2) 2)), .g 25 false (some 27) (.p 27 (.ld 1 false (.t 26))), .g 25 false (some 28) (.p 28 (.fa (.t 3) 2)), .g 25 false (some 29) (.p 29 (.ld 1 false (.t 28))), .g 25 false (some 30) (.p 30 (.bin .neq (.t 27) (.t 29))), .p 31 (.pick (.t 25) (.c (.bool true)) (.t 30))]) (.ite (.t 31) (.sq (.ops [.p 4 (.mv (.c (.bool false)))]) (.rt)) (.sk))) (.sq (.sq (.ops [.p 5 (.mv (.c (.int .i64 0)))]) (.blk 0 (.lp [2, 3, 5] [20, 21] m112_l1))) (.sq (.sq (.ops [.p 8 (.mv (.c (.int .i64 0)))]) (.blk 2 (.lp [2, 3, 8] [20, 21] m112_l0))) (.sq (.ops [.p 4 (.mv (.c (.bool true)))]) (.rt))))) }
/-- (*porism/pile.reader).term -/
def m113 : MFun := { np := 1, res := [.cell 2 3 true], own := false, code := .sq (.ops [.alloc 2 20 [.int .i64 0, .int .i64 0, .sl .nil 3 []]]) (.sq (.sq (.opsO [0, 1, 2, 3, 4, 5, 6, 7, 8, 9, 10, 11, 12, 13, 14, 15] [.p 6 (.mv (.t 0)), .p 7 (.nilc (.t 6)), .p 8 (.fa (.t 7) 2), .p 9 (.ld 1 false (.t 8)), .p 10 (.mv (.t 9)), .g 10 false (some 11) (.p 11 (.mv (.t 0))), .g 10 false (some 12) (.p 12 (.nilc (.t 11))), .g 10 false (some 13) (.p 13 (.fa (.t 12) 1)), .g 10 false (some 14) (.p 14 (.ld 1 false (.t 13))), .g 10 false (some 15) (.p 15 (.mv (.t 0))), .g 10 false (some 16) (.p 16 (.nilc (.t 15))), .g 10 false (some 17) (.p 17 (.fa (.t 16) 0)), .g 10 false (some 18) (.p 18 (.ld 1 false (.t 17))), .g 10 false (some 19) (.p 19 (.len (.t 18))), .g 10 false (some 20) (.p 20 (.bin .geq (.t 14) (.t 19))), .p 21 (.pick (.t 10) (.c (.bool true)) (.t 20))]) (.ite (.t 21) (.sq (.ops [.p 22 (.mv (.t 0)), .p 23 (.nilc (.t 22)), .p 24 (.fa (.t 23) 2), .st 1 (.t 24) (.c (.bool true))]) (.sq (.ops [.p 25 (.bld [.int .i64 0, .int .i64 0, .sl .nil 3 []] []), .st 3 (.t 2) (.t 25)]) (.rt))) (.sk))) (.sq (.sq (.opsO [0, 1, 2, 3, 4, 5, 6, 7, 8, 9, 10] [.p 26 (.mv (.t 0)), .p 27 (.nilc (.t 26)), .p 28 (.fa (.t 27) 0), .p 29 (.ld 1 false (.t 28)), .p 30 (.mv (.t 0)), .p 31 (.nilc (.t 30)), .p 32 (.fa (.t 31) 1), .p 33 (.ld 1 false (.t 32)), .p 34 (.ia 1 (.t 29) (.t 33)), .p 35 (.ld 1 false (.t 34)), .p 36 (.bin .eql (.t 35) (.c (.int .u8 0)))]) (.ite (.t 36) (.sq (.ops [.p 37 (.mv (.t 0)), .p 38 (.nilc (.t 37)), .p 39 (.fa (.t 38) 1), .p 40 (.ld 1 false (.t 39)), .p 41 (.bin .add (.t 40) (.c (.int .i64 1))), .p 42 (.nilc (.t 37)), .p 43 (.fa (.t 42) 1), .st 1 (.t 43) (.t 41)]) (.sq (.ops [.p 44 (.bld [.int .i64 0, .int .i64 0, .sl .nil 3 []] []), .st 3 (.t 2) (.t 44)]) (.rt))) (.sk))) (.sq (.opsO [0, 1, 2, 3, 4, 5, 6, 7, 13, 8, 9, 10, 11, 12, 14, 15, 16] [.p 46 (.mv (.t 0)), .p 47 (.nilc (.t 46)), .p 48 (.fa (.t 47) 0), .p 49 (.ld 1 false (.t 48)), .p 50 (.mv (.t 0)), .p 51 (.nilc (.t 50)), .p 52 (.fa (.t 51) 1), .p 53 (.ld 1 false (.t 52)), .alloc 3 22 [.int .i64 0, .int .i64 0, .sl .nil 3 []], .call (some 54) 21 false (.f 145) [(.t 49, false), (.t 53, false)], .p 45 (.mv (.t 54)), .p 55 (.ext (.t 45) 0), .p 56 (.ext (.t 45) 1), .p 57 (.ext (.t 45) 2), .st 3 (.t 3) (.t 55), .p 4 (.mv (.t 56)), .p 5 (.mv (.t 57))]) (.sq (.ops [.p 58 (.mv (.t 0)), .p 59 (.mv (.t 0)), .p 60 (.mv (.t 4)), .p 61 (.mv (.t 5)), .p 62 (.bin .neq (.t 61) (.c (.int .i64 0))), .p 63 (.nilc (.t 58)), .p 64 (.fa (.t 63) 1), .st 1 (.t 64) (.t 60), .p 65 (.nilc (.t 59)), .p 66 (.fa (.t 65) 2), .st 1 (.t 66) (.t 62)]) (.sq (.ops [.p 67 (.ld 3 true (.t 3)), .st 3 (.t 2) (.t 67)]) (.rt)))))) }
def m114_l0 : MC := .sq (.sq (.ops [.p 41 (.mv (.t 6)), .p 42 (.bin .gtr (.t 41) (.c (.int .i64 0))), .p 43 (.mv (.t 42)), .g 43 true (some 44) (.p 44 (.mv (.t 0))), .g 43 true (some 45) (.p 45 (.nilc (.t 44))), .g 43 true (some 46) (.p 46 (.fa (.t 45) 2)), .g 43 true (some 47) (.p 47 (.ld 1 false (.t 46))), .g 43 true (some 48) (.p 48 (.not (.t 47))), .p 49 (.pick (.t 43) (.t 48) (.c (.bool false)))]) (.ite (.t 49) (.sk) (.ex 2))) (.sq (.blk 3 (.sq (.ops [.p 52 (.mv (.t 0)), .call (some 53) 33 true (.f 69) [(.t 52, false)], .p 54 (.bld [.int .i64 0, .sl .nil 7 [], .sl .nil 3 [], .int .i64 0, .int .i64 0, .sl .nil 3 []] [(0, 1, .t 53)]), .alloc 7 34 [.int .i64 0, .sl .nil 7 [], .sl .nil 3 [], .int .i64 0, .int .i64 0, .sl .nil 3 []], .st 6 (.t 7) (.t 54)]) (.sq (.ops [.p 55 (.mv (.t 0)), .call (some 56) 35 true (.f 146) [(.t 55, false)], .p 57 (.fa (.t 7) 1), .st 1 (.t 57) (.t 56)]) (.sq (.ops [.p 58 (.mv (.t 0)), .call (some 59) 36 true (.f 148) [(.t 58, false)], .p 60 (.fa (.t 7) 2), .st 1 (.t 60) (.t 59)]) (.sq (.ops [.p 61 (.mv (.t 0)), .call (some 62) 37 true (.f 113) [(.t 61, false)], .p 63 (.fa (.t 7) 3), .st 3 (.t 63) (.t 62)]) (.ops [.p 64 (.fa (.t 3) 1), .p 65 (.ld 1 false (.t 64)), .p 66 (.ld 6 true (.t 7)), .bsl 67 38 41 6 [.t 66], .app 68 39 41 6 96 (.t 65) (.t 67), .p 69 (.fa (.t 3) 1), .st 1 (.t 69) (.t 68)])))))) (.ops [.p 50 (.mv (.t 6)), .p 51 (.bin .sub (.t 50) (.c (.int .i64 1))), .p 6 (.mv (.t 51))]))
def m114_l1 : MC := .sq (.sq (.ops [.p 10 (.mv (.t 4)), .p 11 (.bin .gtr (.t 10) (.c (.int .i64 0))), .p 12 (.mv (.t 11)), .g 12 true (some 13) (.p 13 (.mv (.t 0))), .g 12 true (some 14) (.p 14 (.nilc (.t 13))), .g 12 true (some 15) (.p 15 (.fa (.t 14) 2)), .g 12 true (some 16) (.p 16 (.ld 1 false (.t 15))), .g 12 true (some 17) (.p 17 (.not (.t 16))), .p 18 (.pick (.t 12) (.t 17) (.c (.bool false)))]) (.ite (.t 18) (.sk) (.ex 0))) (.sq (.blk 1 (.sq (.ops [.p 21 (.mv (.t 0)), .call (some 22) 25 true (.f 146) [(.t 21, false)], .p 23 (.bld [.sl .nil 7 [], .int .i64 0, .bool false, .int .i64 0, .int .i64 0, .sl .nil 3 []] [(0, 1, .t 22)]), .alloc 5 26 [.sl .nil 7 [], .int .i64 0, .bool false, .int .i64 0, .int .i64 0, .sl .nil 3 []], .st 6 (.t 5) (.t 23)]) (.sq (.ops [.p 24 (.mv (.t 0)), .call (some 25) 27 true (.f 69) [(.t 24, false)], .p 26 (.fa (.t 5) 1), .st 1 (.t 26) (.t 25)]) (.sq (.ops [.p 27 (.mv (.t 0)), .call (some 28) 28 true (.f 147) [(.t 27, false)], .p 29 (.fa (.t 5) 2), .st 1 (.t 29) (.t 28)]) (.sq (.ops [.p 30 (.mv (.t 0)), .call (some 31) 29 true (.f 113) [(.t 30, false)], .p 32 (.fa (.t 5) 3), .st 3 (.t 32) (.t 31)]) (.ops [.p 33 (.fa (.t 3) 0), .p 34 (.ld 1 false (.t 33)), .p 35 (.ld 6 true (.t 5)), .bsl 36 30 49 6 [.t 35], .app 37 31 49 6 80 (.t 34) (.t 36), .p 38 (.fa (.t 3) 0), .st 1 (.t 38) (.t 37)])))))) (.ops [.p 19 (.mv (.t 4)), .p 20 (.bin .sub (.t 19) (.c (.int .i64 1))), .p 4 (.mv (.t 20))]))
/-- (*porism/pile.reader).block -/
def m114 : MFun := { np := 1, res := [.cell 2 3 true], own := false, code := .sq (.ops [.alloc 2 20 [.sl .nil 6 [], .sl .nil 6 [], .int .i64 0]]) (.sq (.sq (.sq (.ops [.alloc 3 21 [.sl .nil 6 [], .sl .nil 6 [], .int .i64 0]]) (.gh (.ownc 3 0 22 49 6))) (.gh (.ownc 3 1 23 41 6))) (.sq (.sq (.ops [.p 8 (.mv (.t 0)), .call (some 9) 24 true (.f 69) [(.t 8, false)], .p 4 (.mv (.t 9))]) (.blk 0 (.lp [0, 2, 3, 4] [0, 20, 21, 22, 23] m114_l1))) (.sq (.sq (.ops [.p 39 (.mv (.t 0)), .call (some 40) 32 true (.f 69) [(.t 39, false)], .p 6 (.mv (.t 40))]) (.blk 2 (.lp [0, 2, 3, 6] [0, 20, 21, 22, 23, 31] m114_l0))) (.sq (.ops [.p 70 (.mv (.t 0)), .call (some 71) 40 true (.f 69) [(.t 70, false)], .p 72 (.fa (.t 3) 2), .st 1 (.t 72) (.t 71)]) (.sq (.ops [.p 73 (.ld 3 true (.t 3)), .st 3 (.t 2) (.t 73)]) (.rt)))))) }
def m115_l0 : MC := .sq (.ops [.p 10 (.bin .lss (.t 9) (.t 8))]) (.sq (.ite (.t 10) (.sk) (.ex 0)) (.sq (.blk 1 (.sq (.ops [.p 11 (.ia 3 (.t 7) (.t 9)), .p 12 (.ld 3 true (.t 11)), .alloc 5 21 [.int .i64 0, .int .i64 0, .sl .nil 3 []], .st 3 (.t 5) (.t 12)]) (.ops [.p 13 (.mv (.t 3)), .p 14 (.ld 3 true (.t 5)), .call (some 15) 22 false (.f 115) [(.t 14, false)], .p 16 (.bin .add (.t 13) (.t 15)), .p 3 (.mv (.t 16))]))) (.ops [.p 17 (.bin .add (.t 9) (.c (.int .i64 1))), .p 9 (.mv (.t 17))])))
/-- porism/term.Size -/
def m115 : MFun := { np := 1, res := [.t 2], own := false, code := .sq (.ops [.box 1 20 3 (.t 0), .p 2 (.mv (.c (.int .i64 0)))]) (.sq (.ops [.p 3 (.mv (.c (.int .i64 1)))]) (.sq (.sq (.ops [.p 6 (.fa (.t 1) 2), .p 7 (.ld 1 false (.t 6)), .p 8 (.len (.t 7)), .p 9 (.mv (.c (.int .i64 0)))]) (.blk 0 (.lp [3, 7, 8, 9] [] m115_l0))) (.sq (.ops [.p 18 (.mv (.t 3)), .p 2 (.mv (.t 18))]) (.rt)))) }
def m116_l0 : MC := .sq (.ops [.p 10 (.bin .lss (.t 9) (.t 8))]) (.sq (.ite (.t 10) (.sk) (.ex 0)) (.sq (.blk 1 (.sq (.ops [.p 11 (.ia 3 (.t 7) (.t 9)), .p 12 (.ld 3 true (.t 11)), .alloc 5 21 [.int .i64 0, .int .i64 0, .sl .nil 3 []], .st 3 (.t 5) (.t 12)]) (.ops [.p 13 (.mv (.t 3)), .p 14 (.ld 3 true (.t 5)), .call (some 15) 22 false (.f 116) [(.t 14, false)], .p 16 (.mm true (.t 13) (.t 15)), .p 3 (.mv (.t 16))]))) (.ops [.p 17 (.bin .add (.t 9) (.c (.int .i64 1))), .p 9 (.mv (.t 17))])))
/-- porism/term.Depth -/
def m116 : MFun := { np := 1, res := [.t 2], own := false, code := .sq (.ops [.box 1 20 3 (.t 0), .p 2 (.mv (.c (.int .i64 0)))]) (.sq (.ops [.p 3 (.mv (.c (.int .i64 0)))]) (.sq (.sq (.ops [.p 6 (.fa (.t 1) 2), .p 7 (.ld 1 false (.t 6)), .p 8 (.len (.t 7)), .p 9 (.mv (.c (.int .i64 0)))]) (.blk 0 (.lp [3, 7, 8, 9] [] m116_l0))) (.sq (.ops [.p 18 (.mv (.t 3)), .p 19 (.bin .add (.t 18) (.c (.int .i64 1))), .p 2 (.mv (.t 19))]) (.rt)))) }
/-- porism/term.formed -/
def m117 : MFun := { np := 1, res := [.t 2], own := false, code := .sq (.ops [.box 1 20 3 (.t 0), .p 2 (.mv (.c (.bool false)))]) (.sq (.ops [.p 4 (.fa (.t 1) 0), .p 5 (.ld 1 false (.t 4)), .call (some 6) 21 false (.f 149) [(.t 5, false)], .p 3 (.mv (.t 6))]) (.sq (.sq (.ops [.p 7 (.mv (.t 3)), .p 8 (.bin .lss (.t 7) (.c (.int .i64 0))), .p 9 (.mv (.t 8)), .g 9 false (some 10) (.p 10 (.fa (.t 1) 2)), .g 9 false (some 11) (.p 11 (.ld 1 false (.t 10))), .g 9 false (some 12) (.p 12 (.len (.t 11))), .g 9 false (some 13) (.p 13 (.mv (.t 3))), .g 9 false (some 14) (.p 14 (.bin .neq (.t 12) (.t 13))), .p 15 (.pick (.t 9) (.c (.bool true)) (.t 14)), .p 16 (.mv (.t 15)), .g 16 false (some 17) (.p 17 (.fa (.t 1) 1)), .g 16 false (some 18) (.p 18 (.ld 1 false (.t 17))), .g 16 false (some 19) (.p 19 (.bin .lss (.t 18) (.c (.int .i64 0)))), .p 20 (.pick (.t 16) (.c (.bool true)) (.t 19)), .p 21 (.mv (.t 20)), .g 21 false (some 22) (.p 22 (.fa (.t 1) 1)), .g 21 false (some 23) (.p 23 (.ld 1 false (.t 22))), .g 21 false (some 24) (.p 24 (.bin .gtr (.t 23) (.c (.int .i64 65535)))), .p 25 (.pick (.t 21) (.c (.bool true)) (.t 24)), .p 26 (.mv (.t 25)), .g 26 false (some 27) (.p 27 (.mv (.t 3))), .g 26 false (some 28) (.p 28 (.bin .gtr (.t 27) (.c (.int .i64 0)))), .g 26 false (some 29) (.p 29 (.mv (.t 28))), .g 29 true (some 30) (.p 30 (.fa (.t 1) 1)), .g 29 true (some 31) (.p 31 (.ld 1 false (.t 30))), .g 29 true (some 32) (.p 32 (.bin .neq (.t 31) (.c (.int .i64 0)))), .g 26 false (some 33) (.p 33 (.pick (.t 29) (.t 32) (.c (.bool false)))), .p 34 (.pick (.t 26) (.c (.bool true)) (.t 33))]) (.ite (.t 34) (.sq (.ops [.p 2 (.mv (.c (.bool false)))]) (.rt)) (.sk))) (.sq (.ops [.p 35 (.fa (.t 1) 2), .p 36 (.ld 1 false (.t 35)), .call (some 37) 22 true (.f 150) [(.t 36, false), (.c (.fn 151 []), false)], .p 38 (.not (.t 37)), .p 2 (.mv (.t 38))]) (.rt)))) }
/-- porism/kind.Leaf -/
def m118 : MFun := { np := 1, res := [.t 2], own := false, code := .sq (.ops [.p 2 (.mv (.c (.bool false)))]) (.sq (.ops [.p 3 (.mv (.t 0)), .call (some 4) 20 false (.f 149) [(.t 3, false)], .p 5 (.bin .eql (.t 4) (.c (.int .i64 0))), .p 2 (.mv (.t 5))]) (.rt)) }
def m127_l0 : MC := .sq (.ops [.p 13 (.bin .lss (.t 12) (.t 11))]) (.sq (.ite (.t 13) (.sk) (.ex 0)) (.sq (.blk 1 (.sq (.ops [.p 14 (.mv (.t 12)), .p 15 (.ia 7 (.t 10) (.t 12)), .p 16 (.ld 7 true (.t 15)), .alloc 6 21 [.bool false, .int .i64 0, .int .i64 0, .sl .nil 3 [], .sl .nil 3 [], .int .i64 0, .sl .nil 3 []], .p 5 (.mv (.t 14)), .st 7 (.t 6) (.t 16)]) (.sq (.ops [.p 17 (.ld 3 true (.t 2)), .p 18 (.ld 7 true (.t 6)), .p 19 (.mv (.t 5)), .call (some 20) 22 false (.f 160) [(.t 17, false), (.t 18, false), (.t 19, false)], .p 21 (.not (.t 20))]) (.ite (.t 21) (.sq (.ops [.p 4 (.mv (.c (.bool false)))]) (.rt)) (.sk))))) (.ops [.p 22 (.bin .add (.t 12) (.c (.int .i64 1))), .p 12 (.mv (.t 22))])))
/-- porism/shape.row -/
def m127 : MFun := { np := 2, res := [.t 4], own := false, code := .sq (.ops [.box 2 20 3 (.t 0), .p 4 (.mv (.c (.bool false)))]) (.sq (.sq (.ops [.p 7 (.mv (.t 1)), .p 8 (.len (.t 7)), .p 9 (.bin .gtr (.t 8) (.c (.int .i64 12)))]) (.ite (.t 9) (.sq (.ops [.p 4 (.mv (.c (.bool false)))]) (.rt)) (.sk))) (.sq (.sq (.ops [.p 10 (.mv (.t 1)), .p 11 (.len (.t 10)), .p 12 (.mv (.c (.int .i64 0)))]) (.blk 0 (.lp [2, 10, 11, 12] [20] m127_l0))) (.sq (.ops [.p 4 (.mv (.c (.bool true)))]) (.rt)))) }
/-- porism/shape.maybe -/
def m128 : MFun := { np := 3, res := [.t 6], own := false, code := .sq (.ops [.box 4 20 3 (.t 1), .p 6 (.mv (.c (.bool false)))]) (.sq (.sq (.ops [.p 7 (.mv (.t 0)), .p 8 (.not (.t 7))]) (.ite (.t 8) (.sq (.ops [.p 9 (.ld 3 true (.t 4)), .call (some 10) 21 false (.f 108) [(.t 9, false)], .p 6 (.mv (.t 10))]) (.rt)) (.sk))) (.sq (.ops [.p 11 (.ld 3 true (.t 4)), .p 12 (.mv (.t 2)), .call (some 13) 22 false (.f 161) [(.t 11, false), (.t 12, false)], .p 6 (.mv (.t 13))]) (.rt))) }
/-- slices.ContainsFunc[[]porism/api.Arg,porism/api.Arg] -/
def m129 : MFun := { np := 2, res := [.t 4], own := false, code := .sq (.ops [.p 4 (.mv (.c (.bool false)))]) (.sq (.ops [.p 5 (.mv (.t 0)), .p 6 (.mv (.t 1)), .call (some 7) 20 true (.f 162) [(.t 5, false), (.t 6, false)], .p 8 (.bin .geq (.t 7) (.c (.int .i64 0))), .p 4 (.mv (.t 8))]) (.rt)) }
/-- porism/shape.sort$1 -/
def m130 : MFun := { np := 3, res := [.t 4], own := false, code := .sq (.ops [.box 3 20 7 (.t 0), .p 4 (.mv (.c (.bool false)))]) (.sq (.ops [.p 5 (.fa (.t 3) 0), .p 6 (.ld 1 false (.t 5)), .p 7 (.mv (.t 6)), .g 7 true (some 8) (.p 8 (.fa (.t 3) 4)), .g 7 true (some 9) (.p 9 (.ld 1 false (.t 8))), .g 7 true (some 10) (.p 10 (.len (.t 9))), .g 7 true (some 11) (.p 11 (.bin .gtr (.t 10) (.c (.int .i64 0)))), .g 7 true (some 12) (.p 12 (.mv (.t 11))), .g 12 false (some 13) (.p 13 (.fa (.t 3) 5)), .g 12 false (some 14) (.p 14 (.ld 1 false (.t 13))), .g 12 false (some 15) (.p 15 (.ld 1 false (.t 1))), .g 12 false (some 16) (.p 16 (.bin .geq (.t 14) (.t 15))), .g 7 true (some 17) (.p 17 (.pick (.t 12) (.c (.bool true)) (.t 16))), .g 7 true (some 18) (.p 18 (.mv (.t 17))), .g 18 false (some 19) (.p 19 (.fa (.t 2) 2)), .g 18 false (some 20) (.p 20 (.ld 1 false (.t 19))), .g 7 true (some 21) (.p 21 (.pick (.t 18) (.c (.bool true)) (.t 20))), .p 22 (.pick (.t 7) (.t 21) (.c (.bool false))), .p 4 (.mv (.t 22))]) (.rt)) }
def m131_l0 : MC := .sq (.ops [.p 9 (.bin .lss (.t 8) (.t 7))]) (.sq (.ite (.t 9) (.sk) (.ex 0)) (.sq (.blk 1 (.sq (.ops [.p 10 (.mv (.t 8)), .p 5 (.mv (.t 10))]) (.sq (.ops [.p 11 (.mv (.t 1)), .p 12 (.mv (.t 0)), .p 13 (.mv (.t 5)), .p 14 (.ia 6 (.t 12) (.t 13)), .p 15 (.ld 6 true (.t 14)), .call (some 16) 20 true (.v (.t 11)) [(.t 15, false)]]) (.ite (.t 16) (.sq (.ops [.p 17 (.mv (.t 5)), .p 4 (.mv (.t 17))]) (.rt)) (.sk))))) (.ops [.p 18 (.bin .add (.t 8) (.c (.int .i64 1))), .p 8 (.mv (.t 18))])))
/-- slices.IndexFunc[[]porism/api.Con,porism/api.Con] -/
def m131 : MFun := { np := 2, res := [.t 4], own := false, code := .sq (.ops [.p 4 (.mv (.c (.int .i64 0)))]) (.sq (.sq (.ops [.p 6 (.mv (.t 0)), .p 7 (.len (.t 6)), .p 8 (.mv (.c (.int .i64 0)))]) (.blk 0 (.lp [0, 1, 7, 8] [0, 1] m131_l0))) (.sq (.ops [.p 4 (.mv (.c (.int .i64 (-1))))]) (.rt))) }
/-- porism/shape.all -/
def m132 : MFun := { np := 2, res := [.t 4], own := false, code := .sq (.ops [.box 3 20 1 (.t 1), .p 4 (.mv (.c (.bool false)))]) (.sq (.ops [.p 5 (.mv (.t 0)), .p 6 (.mkf 163 [.t 3]), .call (some 7) 21 true (.f 150) [(.t 5, false), (.t 6, false)], .p 8 (.not (.t 7)), .p 4 (.mv (.t 8))]) (.rt)) }
/-- slices.Contains[[]int,int] -/
def m138 : MFun := { np := 2, res := [.t 4], own := false, code := .sq (.ops [.p 4 (.mv (.c (.bool false)))]) (.sq (.ops [.p 5 (.mv (.t 0)), .p 6 (.mv (.t 1)), .call (some 7) 20 false (.f 167) [(.t 5, false), (.t 6, false)], .p 8 (.bin .geq (.t 7) (.c (.int .i64 0))), .p 4 (.mv (.t 8))]) (.rt)) }
/-- porism/pile.plain -/
def m142 : MFun := { np := 1, res := [.t 2], own := false, code := .sq (.ops [.box 1 20 10 (.t 0), .p 2 (.mv (.c (.bool false)))]) (.sq (.ops [.p 3 (.fa (.t 1) 7), .p 4 (.ld 3 true (.t 3)), .p 5 (.bld [.sl .nil 6 [], .sl .nil 6 [], .int .i64 0] []), .call (some 6) 21 false (.f 169) [(.t 4, false), (.t 5, false)], .p 2 (.mv (.t 6))]) (.rt)) }
def m143_l0 : MC := .sq (.sq (.ops [.p 11 (.mv (.t 5)), .p 12 (.mv (.t 0)), .p 13 (.len (.t 12)), .p 14 (.bin .lss (.t 11) (.t 13))]) (.ite (.t 14) (.sk) (.ex 0))) (.sq (.blk 1 (.sq (.opsO [0, 1, 2, 3, 4, 5, 6, 7, 8, 9] [.p 17 (.mv (.t 0)), .p 18 (.mv (.t 5)), .p 19 (.ia 7 (.t 17) (.t 18)), .p 20 (.ld 7 true (.t 19)), .p 21 (.mv (.t 1)), .p 22 (.mv (.t 5)), .p 23 (.ia 7 (.t 21) (.t 22)), .p 24 (.ld 7 true (.t 23)), .call (some 25) 20 false (.f 170) [(.t 20, false), (.t 24, false)], .p 26 (.not (.t 25))]) (.ite (.t 26) (.sq (.ops [.p 4 (.mv (.c (.bool false)))]) (.rt)) (.sk)))) (.ops [.p 15 (.mv (.t 5)), .p 16 (.bin .add (.t 15) (.c (.int .i64 1))), .p 5 (.mv (.t 16))]))
/-- porism/porismkeep.Args -/
def m143 : MFun := { np := 2, res := [.t 4], own := false, code := .sq (.ops [.p 4 (.mv (.c (.bool false)))]) (.sq (.sq (.ops [.p 6 (.mv (.t 0)), .p 7 (.len (.t 6)), .p 8 (.mv (.t 1)), .p 9 (.len (.t 8)), .p 10 (.bin .neq (.t 7) (.t 9))]) (.ite (.t 10) (.sq (.ops [.p 4 (.mv (.c (.bool false)))]) (.rt)) (.sk))) (.sq (.sq (.ops [.p 5 (.mv (.c (.int .i64 0)))]) (.blk 0 (.lp [0, 1, 5] [] m143_l0))) (.sq (.ops [.p 4 (.mv (.c (.bool true)))]) (.rt)))) }
/-- porism/porismkeep.Con -/
def m144 : MFun := { np := 2, res := [.t 4], own := false, code := .sq (.ops [.box 2 20 6 (.t 0), .box 3 21 6 (.t 1), .p 4 (.mv (.c (.bool false)))]) (.sq (.ops [.p 5 (.fa (.t 2) 0), .p 6 (.ld 1 false (.t 5)), .p 7 (.fa (.t 3) 0), .p 8 (.ld 1 false (.t 7)), .p 9 (.bin .eql (.t 6) (.t 8)), .p 10 (.mv (.t 9)), .g 10 true (some 11) (.p 11 (.fa (.t 2) 1)), .g 10 true (some 12) (.p 12 (.ld 1 false (.t 11))), .g 10 true (some 13) (.p 13 (.fa (.t 3) 1)), .g 10 true (some 14) (.p 14 (.ld 1 false (.t 13))), .g 10 true (some 15) (.call (some 15) 22 false (.f 143) [(.t 12, false), (.t 14, false)]), .p 16 (.pick (.t 10) (.t 15) (.c (.bool false))), .p 17 (.mv (.t 16)), .g 17 true (some 18) (.p 18 (.fa (.t 2) 2)), .g 17 true (some 19) (.p 19 (.ld 1 false (.t 18))), .g 17 true (some 20) (.p 20 (.fa (.t 3) 2)), .g 17 true (some 21) (.p 21 (.ld 1 false (.t 20))), .g 17 true (some 22) (.call (some 22) 23 false (.f 86) [(.t 19, false), (.t 21, false)]), .p 23 (.pick (.t 17) (.t 22) (.c (.bool false))), .p 24 (.mv (.t 23)), .g 24 true (some 25) (.p 25 (.fa (.t 2) 3)), .g 24 true (some 26) (.p 26 (.ld 3 true (.t 25))), .g 24 true (some 27) (.p 27 (.fa (.t 3) 3)), .g 24 true (some 28) (.p 28 (.ld 3 true (.t 27))), .g 24 true (some 29) (.call (some 29) 24 false (.f 36) [(.t 26, false), (.t 28, false)]), .p 30 (.pick (.t 24) (.t 29) (.c (.bool false))), .p 4 (.mv (.t 30))]) (.rt)) }
/-- porism/pack.Get -/
def m145 : MFun := { np := 2, res := [.cell 4 3 true, .t 5, .t 6], own := false, code := .sq (.ops [.alloc 4 20 [.int .i64 0, .int .i64 0, .sl .nil 3 []], .p 5 (.mv (.c (.int .i64 0))), .p 6 (.mv (.c (.int .i64 0)))]) (.sq (.sq (.ops [.p 8 (.mv (.t 1)), .p 9 (.bin .lss (.t 8) (.c (.int .i64 0))), .p 10 (.mv (.t 9)), .g 10 false (some 11) (.p 11 (.mv (.t 1))), .g 10 false (some 12) (.p 12 (.mv (.t 0))), .g 10 false (some 13) (.p 13 (.len (.t 12))), .g 10 false (some 14) (.p 14 (.bin .gtr (.t 11) (.t 13))), .p 15 (.pick (.t 10) (.c (.bool true)) (.t 14))]) (.ite (.t 15) (.sq (.ops [.p 16 (.bld [.int .i64 0, .int .i64 0, .sl .nil 3 []] []), .st 3 (.t 4) (.t 16), .p 5 (.mv (.c (.int .i64 0))), .p 6 (.mv (.c (.int .i64 1)))]) (.rt)) (.sk))) (.sq (.ops [.p 17 (.mv (.t 0)), .p 18 (.mv (.t 1)), .p 19 (.slc 1 (.t 17) (some (.t 18)) none), .p 20 (.bld [.sl .nil 1 [], .int .i64 0, .bool false] [(0, 1, .t 19)]), .box 21 21 3 (.t 20), .p 7 (.mv (.t 21))]) (.sq (.ops [.p 22 (.mv (.t 7)), .call (some 23) 22 true (.f 171) [(.t 22, false), (.c (.int .i64 1), false)], .st 3 (.t 4) (.t 23)]) (.sq (.sq (.ops [.p 24 (.mv (.t 7)), .p 25 (.nilc (.t 24)), .p 26 (.fa (.t 25) 2), .p 27 (.ld 1 false (.t 26))]) (.ite (.t 27) (.sq (.ops [.p 28 (.bld [.int .i64 0, .int .i64 0, .sl .nil 3 []] []), .st 3 (.t 4) (.t 28), .p 5 (.mv (.c (.int .i64 0))), .p 6 (.mv (.c (.int .i64 3)))]) (.rt)) (.sk))) (.sq (.opsO [0, 1, 2, 3, 4, 5, 6, 7, 8, 9, 10, 11] [.p 29 (.ld 3 true (.t 4)), .p 30 (.mv (.t 0)), .p 31 (.len (.t 30)), .p 32 (.mv (.t 7)), .p 33 (.nilc (.t 32)), .p 34 (.fa (.t 33) 0), .p 35 (.lda 21 1 false (.t 34)), .p 36 (.len (.t 35)), .p 37 (.bin .sub (.t 31) (.t 36)), .chk [21] (.st 3 (.t 4) (.t 29)), .p 5 (.mv (.t 37)), .p 6 (.mv (.c (.int .i64 0)))]) (.rt)))))) }
def m146_l0 : MC := .sq (.sq (.ops [.p 8 (.mv (.t 4)), .p 9 (.bin .gtr (.t 8) (.c (.int .i64 0))), .p 10 (.mv (.t 9)), .g 10 true (some 11) (.p 11 (.mv (.t 0))), .g 10 true (some 12) (.p 12 (.nilc (.t 11))), .g 10 true (some 13) (.p 13 (.fa (.t 12) 2)), .g 10 true (some 14) (.p 14 (.ld 1 false (.t 13))), .g 10 true (some 15) (.p 15 (.not (.t 14))), .p 16 (.pick (.t 10) (.t 15) (.c (.bool false)))]) (.ite (.t 16) (.sk) (.ex 0))) (.sq (.blk 1 (.sq (.ops [.p 19 (.mv (.t 0)), .call (some 20) 22 true (.f 147) [(.t 19, false)], .p 21 (.mv (.t 0)), .call (some 22) 23 true (.f 113) [(.t 21, false)], .p 23 (.mv (.t 0)), .call (some 24) 24 true (.f 148) [(.t 23, false)], .p 25 (.bld [.bool false, .int .i64 0, .int .i64 0, .sl .nil 3 [], .sl .nil 3 [], .int .i64 0, .sl .nil 3 []] [(0, 1, .t 20), (1, 3, .t 22), (4, 1, .t 24)]), .alloc 5 25 [.bool false, .int .i64 0, .int .i64 0, .sl .nil 3 [], .sl .nil 3 [], .int .i64 0, .sl .nil 3 []], .st 7 (.t 5) (.t 25)]) (.sq (.ops [.p 26 (.mv (.t 0)), .call (some 27) 26 true (.f 69) [(.t 26, false)], .p 28 (.fa (.t 5) 5), .st 1 (.t 28) (.t 27)]) (.sq (.ops [.p 29 (.mv (.t 0)), .call (some 30) 27 true (.f 148) [(.t 29, false)], .p 31 (.fa (.t 5) 6), .st 1 (.t 31) (.t 30)]) (.ops [.p 32 (.mv (.t 3)), .p 33 (.ld 7 true (.t 5)), .bsl 34 28 38 7 [.t 33], .app 35 29 38 7 104 (.t 32) (.t 34), .p 3 (.mv (.t 35))]))))) (.ops [.p 17 (.mv (.t 4)), .p 18 (.bin .sub (.t 17) (.c (.int .i64 1))), .p 4 (.mv (.t 18))]))
/-- (*porism/pile.reader).args -/
def m146 : MFun := { np := 1, res := [.t 2], own := false, code := .sq (.ops [.p 2 (.mv (.c (.sl .nil 7 [])))]) (.sq (.sq (.ops [.p 3 (.mv (.c (.sl .nil 7 [])))]) (.gh (.own 3 20 38 7))) (.sq (.sq (.ops [.p 6 (.mv (.t 0)), .call (some 7) 21 true (.f 69) [(.t 6, false)], .p 4 (.mv (.t 7))]) (.blk 0 (.lp [0, 3, 4] [0, 20] m146_l0))) (.sq (.ops [.p 36 (.mv (.t 3)), .p 2 (.mv (.t 36))]) (.rt)))) }
/-- (*porism/pile.reader).flag -/
def m147 : MFun := { np := 1, res := [.t 2], own := false, code := .sq (.ops [.p 2 (.mv (.c (.bool false)))]) (.sq (.ops [.p 4 (.mv (.t 0)), .call (some 5) 20 true (.f 69) [(.t 4, false)], .p 3 (.mv (.t 5))]) (.sq (.ops [.p 6 (.mv (.t 0)), .p 7 (.mv (.t 0)), .p 8 (.nilc (.t 7)), .p 9 (.fa (.t 8) 2), .p 10 (.ld 1 false (.t 9)), .p 11 (.mv (.t 10)), .g 11 false (some 12) (.p 12 (.mv (.t 3))), .g 11 false (some 13) (.p 13 (.bin .gtr (.t 12) (.c (.int .i64 1)))), .p 14 (.pick (.t 11) (.c (.bool true)) (.t 13)), .p 15 (.nilc (.t 6)), .p 16 (.fa (.t 15) 2), .st 1 (.t 16) (.t 14)]) (.sq (.ops [.p 17 (.mv (.t 3)), .p 18 (.bin .eql (.t 17) (.c (.int .i64 1))), .p 2 (.mv (.t 18))]) (.rt)))) }
def m148_l0 : MC := .sq (.sq (.ops [.p 7 (.mv (.t 4)), .p 8 (.bin .gtr (.t 7) (.c (.int .i64 0))), .p 9 (.mv (.t 8)), .g 9 true (some 10) (.p 10 (.mv (.t 0))), .g 9 true (some 11) (.p 11 (.nilc (.t 10))), .g 9 true (some 12) (.p 12 (.fa (.t 11) 2)), .g 9 true (some 13) (.p 13 (.ld 1 false (.t 12))), .g 9 true (some 14) (.p 14 (.not (.t 13))), .p 15 (.pick (.t 9) (.t 14) (.c (.bool false)))]) (.ite (.t 15) (.sk) (.ex 0))) (.sq (.blk 1 (.ops [.p 18 (.mv (.t 3)), .p 19 (.mv (.t 0)), .call (some 20) 22 true (.f 113) [(.t 19, false)], .bsl 21 23 24 3 [.t 20], .app 22 24 24 3 40 (.t 18) (.t 21), .p 3 (.mv (.t 22))])) (.ops [.p 16 (.mv (.t 4)), .p 17 (.bin .sub (.t 16) (.c (.int .i64 1))), .p 4 (.mv (.t 17))]))
/-- (*porism/pile.reader).row -/
def m148 : MFun := { np := 1, res := [.t 2], own := false, code := .sq (.ops [.p 2 (.mv (.c (.sl .nil 3 [])))]) (.sq (.sq (.ops [.p 3 (.mv (.c (.sl .nil 3 [])))]) (.gh (.own 3 20 24 3))) (.sq (.sq (.ops [.p 5 (.mv (.t 0)), .call (some 6) 21 true (.f 69) [(.t 5, false)], .p 4 (.mv (.t 6))]) (.blk 0 (.lp [0, 3, 4] [0, 20] m148_l0))) (.sq (.ops [.p 23 (.mv (.t 3)), .p 2 (.mv (.t 23))]) (.rt)))) }
/-- porism/kind.Kids -/
def m149 : MFun := { np := 1, res := [.t 2], own := false, code := .sq (.ops [.p 2 (.mv (.c (.int .i64 0)))]) (.sq (.sq (.ops [.p 3 (.mv (.t 0))]) (.blk 0 (.sq (.sq (.ops [.p 5 (.bin .eql (.t 3) (.c (.int .i64 1))), .p 4 (.mv (.t 5))]) (.ite (.t 4) (.sk) (.sq (.ops [.p 6 (.bin .eql (.t 3) (.c (.int .i64 2))), .p 4 (.mv (.t 6))]) (.ite (.t 4) (.sk) (.ops [.p 7 (.bin .eql (.t 3) (.c (.int .i64 3))), .p 4 (.mv (.t 7))]))))) (.ite (.t 4) (.sq (.ops [.p 2 (.mv (.c (.int .i64 0)))]) (.rt)) (.sq (.sq (.ops [.p 9 (.bin .eql (.t 3) (.c (.int .i64 9))), .p 8 (.mv (.t 9))]) (.ite (.t 8) (.sk) (.ops [.p 10 (.bin .eql (.t 3) (.c (.int .i64 10))), .p 8 (.mv (.t 10))]))) (.ite (.t 8) (.sq (.ops [.p 2 (.mv (.c (.int .i64 1)))]) (.rt)) (.sq (.sq (.ops [.p 12 (.bin .eql (.t 3) (.c (.int .i64 8))), .p 11 (.mv (.t 12))]) (.ite (.t 11) (.sk) (.sq (.ops [.p 13 (.bin .eql (.t 3) (.c (.int .i64 11))), .p 11 (.mv (.t 13))]) (.ite (.t 11) (.sk) (.ops [.p 14 (.bin .eql (.t 3) (.c (.int .i64 13))), .p 11 (.mv (.t 14))]))))) (.ite (.t 11) (.sq (.ops [.p 2 (.mv (.c (.int .i64 3)))]) (.rt)) (.sk))))))))) (.sq (.sq (.ops [.p 15 (.mv (.t 0)), .call (some 16) 20 false (.f 172) [(.t 15, false)]]) (.ite (.t 16) (.sq (.ops [.p 2 (.mv (.c (.int .i64 2)))]) (.rt)) (.sk))) (.sq (.ops [.p 2 (.mv (.c (.int .i64 (-1))))]) (.rt)))) }
/-- slices.ContainsFunc[[]porism/api.Term,porism/api.Term] -/
def m150 : MFun := { np := 2, res := [.t 4], own := false, code := .sq (.ops [.p 4 (.mv (.c (.bool false)))]) (.sq (.ops [.p 5 (.mv (.t 0)), .p 6 (.mv (.t 1)), .call (some 7) 20 true (.f 173) [(.t 5, false), (.t 6, false)], .p 8 (.bin .geq (.t 7) (.c (.int .i64 0))), .p 4 (.mv (.t 8))]) (.rt)) }
/-- porism/term.formed$1 -/
def m151 : MFun := { np := 1, res := [.t 2], own := false, code := .sq (.ops [.box 1 20 3 (.t 0), .p 2 (.mv (.c (.bool false)))]) (.sq (.ops [.p 3 (.ld 3 true (.t 1)), .call (some 4) 21 false (.f 117) [(.t 3, false)], .p 5 (.not (.t 4)), .p 2 (.mv (.t 5))]) (.rt)) }
def m160_l0 : MC := .sq (.ops [.p 72 (.bin .lss (.t 71) (.t 70))]) (.sq (.ite (.t 72) (.sk) (.ex 0)) (.sq (.blk 1 (.sq (.ops [.p 73 (.mv (.t 71)), .p 74 (.ia 3 (.t 69) (.t 71)), .p 75 (.ld 3 true (.t 74)), .alloc 8 24 [.int .i64 0, .int .i64 0, .sl .nil 3 []], .p 7 (.mv (.t 73)), .st 3 (.t 8) (.t 75)]) (.sq (.ops [.p 76 (.ld 3 true (.t 8)), .p 77 (.mv (.t 2)), .p 78 (.mv (.t 7)), .p 79 (.bin .add (.t 77) (.t 78)), .call (some 80) 25 false (.f 161) [(.t 76, false), (.t 79, false)], .p 81 (.not (.t 80))]) (.ite (.t 81) (.sq (.ops [.p 6 (.mv (.c (.bool false)))]) (.rt)) (.sk))))) (.ops [.p 82 (.bin .add (.t 71) (.c (.int .i64 1))), .p 71 (.mv (.t 82))])))
/-- porism/shape.arg -/
def m160 : MFun := { np := 3, res := [.t 6], own := false, code := .sq (.ops [.box 3 20 3 (.t 0), .box 4 21 7 (.t 1), .p 6 (.mv (.c (.bool false)))]) (.sq (.sq (.ops [.p 9 (.fa (.t 4) 0), .p 10 (.ld 1 false (.t 9)), .p 11 (.not (.t 10))]) (.ite (.t 11) (.sq (.ops [.p 12 (.fa (.t 4) 1), .p 13 (.ld 3 true (.t 12)), .p 14 (.mv (.t 2)), .call (some 15) 22 false (.f 161) [(.t 13, false), (.t 14, false)], .p 16 (.mv (.t 15)), .g 16 true (some 17) (.p 17 (.fa (.t 4) 4)), .g 16 true (some 18) (.p 18 (.ld 1 false (.t 17))), .g 16 true (some 19) (.p 19 (.len (.t 18))), .g 16 true (some 20) (.p 20 (.fa (.t 4) 6)), .g 16 true (some 21) (.p 21 (.ld 1 false (.t 20))), .g 16 true (some 22) (.p 22 (.len (.t 21))), .g 16 true (some 23) (.p 23 (.bin .add (.t 19) (.t 22))), .g 16 true (some 24) (.p 24 (.bin .eql (.t 23) (.c (.int .i64 0)))), .p 25 (.pick (.t 16) (.t 24) (.c (.bool false))), .p 26 (.mv (.t 25)), .g 26 true (some 27) (.p 27 (.fa (.t 4) 5)), .g 26 true (some 28) (.p 28 (.ld 1 false (.t 27))), .g 26 true (some 29) (.p 29 (.bin .eql (.t 28) (.c (.int .i64 0)))), .p 30 (.pick (.t 26) (.t 29) (.c (.bool false))), .p 6 (.mv (.t 30))]) (.rt)) (.sk))) (.sq (.sq (.opsO [0, 1, 2, 3, 4, 5, 6, 7, 8, 9, 10, 11, 12, 13, 14, 15, 16, 17, 18, 19, 20, 21, 22, 23, 24, 25, 26, 27, 28, 29, 30, 31, 32, 33, 34, 35, 36] [.p 31 (.fa (.t 4) 1), .p 32 (.ld 3 true (.t 31)), .call (some 33) 23 false (.f 108) [(.t 32, false)], .p 34 (.not (.t 33)), .p 35 (.mv (.t 34)), .g 35 false (some 36) (.p 36 (.fa (.t 4) 4)), .g 35 false (some 37) (.p 37 (.ld 1 false (.t 36))), .g 35 false (some 38) (.p 38 (.len (.t 37))), .g 35 false (some 39) (.p 39 (.bin .gtr (.t 38) (.c (.int .i64 12)))), .p 40 (.pick (.t 35) (.c (.bool true)) (.t 39)), .p 41 (.mv (.t 40)), .g 41 false (some 42) (.p 42 (.fa (.t 4) 5)), .g 41 false (some 43) (.p 43 (.ld 1 false (.t 42))), .g 41 false (some 44) (.p 44 (.bin .lss (.t 43) (.c (.int .i64 0)))), .p 45 (.pick (.t 41) (.c (.bool true)) (.t 44)), .p 46 (.mv (.t 45)), .g 46 false (some 47) (.p 47 (.fa (.t 4) 5)), .g 46 false (some 48) (.p 48 (.ld 1 false (.t 47))), .g 46 false (some 49) (.p 49 (.fa (.t 3) 0)), .g 46 false (some 50) (.p 50 (.ld 1 false (.t 49))), .g 46 false (some 51) (.p 51 (.len (.t 50))), .g 46 false (some 52) (.p 52 (.bin .geq (.t 48) (.t 51))), .p 53 (.pick (.t 46) (.c (.bool true)) (.t 52)), .p 54 (.mv (.t 53)), .g 54 false (some 55) (.p 55 (.fa (.t 4) 6)), .g 54 false (some 56) (.p 56 (.ld 1 false (.t 55))), .g 54 false (some 57) (.p 57 (.len (.t 56))), .g 54 false (some 58) (.p 58 (.fa (.t 3) 0)), .g 54 false (some 59) (.p 59 (.ld 1 false (.t 58))), .g 54 false (some 60) (.p 60 (.fa (.t 4) 5)), .g 54 false (some 61) (.p 61 (.ld 1 false (.t 60))), .g 54 false (some 62) (.p 62 (.ia 6 (.t 59) (.t 61))), .g 54 false (some 63) (.p 63 (.fa (.t 62) 0)), .g 54 false (some 64) (.p 64 (.ld 1 false (.t 63))), .g 54 false (some 65) (.p 65 (.len (.t 64))), .g 54 false (some 66) (.p 66 (.bin .neq (.t 57) (.t 65))), .p 67 (.pick (.t 54) (.c (.bool true)) (.t 66))]) (.ite (.t 67) (.sq (.ops [.p 6 (.mv (.c (.bool false)))]) (.rt)) (.sk))) (.sq (.sq (.ops [.p 68 (.fa (.t 4) 4), .p 69 (.ld 1 false (.t 68)), .p 70 (.len (.t 69)), .p 71 (.mv (.c (.int .i64 0)))]) (.blk 0 (.lp [2, 4, 69, 70, 71] [21] m160_l0))) (.sq (.ops [.p 83 (.fa (.t 4) 6), .p 84 (.ld 1 false (.t 83)), .p 85 (.mv (.t 2)), .p 86 (.fa (.t 4) 4), .p 87 (.ld 1 false (.t 86)), .p 88 (.len (.t 87)), .p 89 (.bin .add (.t 85) (.t 88)), .call (some 90) 26 false (.f 132) [(.t 84, false), (.t 89, false)], .p 6 (.mv (.t 90))]) (.rt))))) }
/-- porism/shape.in -/
def m161 : MFun := { np := 2, res := [.t 4], own := false, code := .sq (.ops [.box 2 20 3 (.t 0), .p 4 (.mv (.c (.bool false)))]) (.sq (.ops [.p 5 (.ld 3 true (.t 2)), .p 6 (.mv (.t 1)), .call (some 7) 21 false (.f 176) [(.t 5, false), (.t 6, false), (.c (.int .i64 65536), false)], .p 4 (.mv (.t 7))]) (.rt)) }
def m162_l0 : MC := .sq (.ops [.p 9 (.bin .lss (.t 8) (.t 7))]) (.sq (.ite (.t 9) (.sk) (.ex 0)) (.sq (.blk 1 (.sq (.ops [.p 10 (.mv (.t 8)), .p 5 (.mv (.t 10))]) (.sq (.ops [.p 11 (.mv (.t 1)), .p 12 (.mv (.t 0)), .p 13 (.mv (.t 5)), .p 14 (.ia 7 (.t 12) (.t 13)), .p 15 (.ld 7 true (.t 14)), .call (some 16) 20 true (.v (.t 11)) [(.t 15, false)]]) (.ite (.t 16) (.sq (.ops [.p 17 (.mv (.t 5)), .p 4 (.mv (.t 17))]) (.rt)) (.sk))))) (.ops [.p 18 (.bin .add (.t 8) (.c (.int .i64 1))), .p 8 (.mv (.t 18))])))
/-- slices.IndexFunc[[]porism/api.Arg,porism/api.Arg] -/
def m162 : MFun := { np := 2, res := [.t 4], own := false, code := .sq (.ops [.p 4 (.mv (.c (.int .i64 0)))]) (.sq (.sq (.ops [.p 6 (.mv (.t 0)), .p 7 (.len (.t 6)), .p 8 (.mv (.c (.int .i64 0)))]) (.blk 0 (.lp [0, 1, 7, 8] [0, 1] m162_l0))) (.sq (.ops [.p 4 (.mv (.c (.int .i64 (-1))))]) (.rt))) }
/-- porism/shape.all$1 -/
def m163 : MFun := { np := 2, res := [.t 3], own := false, code := .sq (.ops [.box 2 20 3 (.t 0), .p 3 (.mv (.c (.bool false)))]) (.sq (.ops [.p 4 (.ld 3 true (.t 2)), .p 5 (.ld 1 false (.t 1)), .call (some 6) 21 false (.f 161) [(.t 4, false), (.t 5, false)], .p 7 (.not (.t 6)), .p 3 (.mv (.t 7))]) (.rt)) }
def m167_l0 : MC := .sq (.ops [.p 9 (.bin .lss (.t 8) (.t 7))]) (.sq (.ite (.t 9) (.sk) (.ex 0)) (.sq (.blk 1 (.sq (.ops [.p 10 (.mv (.t 8)), .p 5 (.mv (.t 10))]) (.sq (.ops [.p 11 (.mv (.t 1)), .p 12 (.mv (.t 0)), .p 13 (.mv (.t 5)), .p 14 (.ia 1 (.t 12) (.t 13)), .p 15 (.ld 1 false (.t 14)), .p 16 (.bin .eql (.t 11) (.t 15))]) (.ite (.t 16) (.sq (.ops [.p 17 (.mv (.t 5)), .p 4 (.mv (.t 17))]) (.rt)) (.sk))))) (.ops [.p 18 (.bin .add (.t 8) (.c (.int .i64 1))), .p 8 (.mv (.t 18))])))
/-- slices.Index[[]int,int] -/
def m167 : MFun := { np := 2, res := [.t 4], own := false, code := .sq (.ops [.p 4 (.mv (.c (.int .i64 0)))]) (.sq (.sq (.ops [.p 6 (.mv (.t 0)), .p 7 (.len (.t 6)), .p 8 (.mv (.c (.int .i64 0)))]) (.blk 0 (.lp [0, 1, 7, 8] [] m167_l0))) (.sq (.ops [.p 4 (.mv (.c (.int .i64 (-1))))]) (.rt))) }
/-- porism/shape.Same -/
def m169 : MFun := { np := 2, res := [.t 4], own := false, code := .sq (.ops [.box 2 20 3 (.t 0), .box 3 21 3 (.t 1), .p 4 (.mv (.c (.bool false)))]) (.sq (.ops [.p 6 (.fa (.t 2) 0), .p 7 (.ld 1 false (.t 6)), .p 8 (.fa (.t 3) 0), .p 9 (.ld 1 false (.t 8)), .call (some 10) 22 true (.f 178) [(.t 7, false), (.t 9, false), (.c (.fn 179 []), false)], .p 5 (.mv (.t 10))]) (.sq (.ops [.p 11 (.mv (.t 5)), .p 12 (.mv (.t 11)), .g 12 true (some 13) (.p 13 (.fa (.t 2) 2)), .g 12 true (some 14) (.p 14 (.ld 1 false (.t 13))), .g 12 true (some 15) (.p 15 (.fa (.t 3) 2)), .g 12 true (some 16) (.p 16 (.ld 1 false (.t 15))), .g 12 true (some 17) (.p 17 (.bin .eql (.t 14) (.t 16))), .p 18 (.pick (.t 12) (.t 17) (.c (.bool false))), .p 19 (.mv (.t 18)), .g 19 true (some 20) (.p 20 (.fa (.t 2) 1)), .g 19 true (some 21) (.p 21 (.ld 1 false (.t 20))), .g 19 true (some 22) (.p 22 (.fa (.t 3) 1)), .g 19 true (some 23) (.p 23 (.ld 1 false (.t 22))), .g 19 true (some 24) (.call (some 24) 23 true (.f 182) [(.t 21, false), (.t 23, false), (.c (.fn 183 []), false)]), .p 25 (.pick (.t 19) (.t 24) (.c (.bool false))), .p 4 (.mv (.t 25))]) (.rt))) }
/-- porism/porismkeep.Arg -/
def m170 : MFun := { np := 2, res := [.t 4], own := false, code := .sq (.ops [.box 2 20 7 (.t 0), .box 3 21 7 (.t 1), .p 4 (.mv (.c (.bool false)))]) (.sq (.ops [.p 5 (.fa (.t 2) 0), .p 6 (.ld 1 false (.t 5)), .p 7 (.fa (.t 3) 0), .p 8 (.ld 1 false (.t 7)), .p 9 (.beq false (.t 6) (.t 8)), .p 10 (.mv (.t 9)), .g 10 true (some 11) (.p 11 (.fa (.t 2) 1)), .g 10 true (some 12) (.p 12 (.ld 3 true (.t 11))), .g 10 true (some 13) (.p 13 (.fa (.t 3) 1)), .g 10 true (some 14) (.p 14 (.ld 3 true (.t 13))), .g 10 true (some 15) (.call (some 15) 22 false (.f 36) [(.t 12, false), (.t 14, false)]), .p 16 (.pick (.t 10) (.t 15) (.c (.bool false))), .p 17 (.mv (.t 16)), .g 17 true (some 18) (.p 18 (.fa (.t 2) 4)), .g 17 true (some 19) (.p 19 (.ld 1 false (.t 18))), .g 17 true (some 20) (.p 20 (.fa (.t 3) 4)), .g 17 true (some 21) (.p 21 (.ld 1 false (.t 20))), .g 17 true (some 22) (.call (some 22) 23 false (.f 86) [(.t 19, false), (.t 21, false)]), .p 23 (.pick (.t 17) (.t 22) (.c (.bool false))), .p 24 (.mv (.t 23)), .g 24 true (some 25) (.p 25 (.fa (.t 2) 5)), .g 24 true (some 26) (.p 26 (.ld 1 false (.t 25))), .g 24 true (some 27) (.p 27 (.fa (.t 3) 5)), .g 24 true (some 28) (.p 28 (.ld 1 false (.t 27))), .g 24 true (some 29) (.p 29 (.bin .eql (.t 26) (.t 28))), .p 30 (.pick (.t 24) (.t 29) (.c (.bool false))), .p 31 (.mv (.t 30)), .g 31 true (some 32) (.p 32 (.fa (.t 2) 6)), .g 31 true (some 33) (.p 33 (.ld 1 false (.t 32))), .g 31 true (some 34) (.p 34 (.fa (.t 3) 6)), .g 31 true (some 35) (.p 35 (.ld 1 false (.t 34))), .g 31 true (some 36) (.call (some 36) 24 false (.f 86) [(.t 33, false), (.t 35, false)]), .p 37 (.pick (.t 31) (.t 36) (.c (.bool false))), .p 4 (.mv (.t 37))]) (.rt)) }
def m171_l0 : MC := .sq (.sq (.ops [.p 61 (.mv (.t 6)), .p 62 (.bin .gtr (.t 61) (.c (.int .i64 0))), .p 63 (.mv (.t 62)), .g 63 true (some 64) (.p 64 (.mv (.t 0))), .g 63 true (some 65) (.p 65 (.nilc (.t 64))), .g 63 true (some 66) (.p 66 (.fa (.t 65) 2)), .g 63 true (some 67) (.p 67 (.ld 1 false (.t 66))), .g 63 true (some 68) (.p 68 (.not (.t 67))), .p 69 (.pick (.t 63) (.t 68) (.c (.bool false)))]) (.ite (.t 69) (.sk) (.ex 0))) (.sq (.blk 1 (.opsO [0, 1, 2, 3, 4, 5, 6, 7, 8, 9] [.p 72 (.fa (.t 5) 2), .p 73 (.lda 22 1 false (.t 72)), .p 74 (.mv (.t 0)), .p 75 (.mv (.t 1)), .p 76 (.bin .add (.t 75) (.c (.int .i64 1))), .chk [22] (.call (some 77) 26 true (.f 171) [(.t 74, false), (.t 76, false)]), .bsl 78 27 24 3 [.t 77], .app 79 28 24 3 40 (.t 73) (.t 78), .p 80 (.fa (.t 5) 2), .st 1 (.t 80) (.t 79)])) (.ops [.p 70 (.mv (.t 6)), .p 71 (.bin .sub (.t 70) (.c (.int .i64 1))), .p 6 (.mv (.t 71))]))
/-- (*porism/pack.reader).read -/
def m171 : MFun := { np := 2, res := [.cell 4 3 true], own := false, code := .sq (.ops [.alloc 4 20 [.int .i64 0, .int .i64 0, .sl .nil 3 []]]) (.sq (.sq (.ops [.p 8 (.mv (.t 0)), .call (some 9) 21 true (.f 185) [(.t 8, false), (.c (.int .i64 1), false)], .p 10 (.ia 1 (.t 9) (.c (.int .i64 0))), .p 11 (.ld 1 false (.t 10)), .p 12 (.cvt .i64 (.t 11)), .p 13 (.bld [.int .i64 0, .int .i64 0, .sl .nil 3 []] [(0, 1, .t 12)]), .alloc 5 22 [.int .i64 0, .int .i64 0, .sl .nil 3 []], .st 3 (.t 5) (.t 13)]) (.gh (.ownc 5 2 23 24 3))) (.sq (.ops [.p 14 (.fa (.t 5) 0), .p 15 (.ld 1 false (.t 14)), .call (some 16) 24 false (.f 149) [(.t 15, false)], .p 6 (.mv (.t 16))]) (.sq (.ops [.p 17 (.mv (.t 0)), .p 18 (.nilc (.t 17)), .p 19 (.fa (.t 18) 1), .p 20 (.ld 1 false (.t 19)), .p 21 (.bin .add (.t 20) (.c (.int .i64 1))), .p 22 (.nilc (.t 17)), .p 23 (.fa (.t 22) 1), .st 1 (.t 23) (.t 21)]) (.sq (.ops [.p 24 (.mv (.t 0)), .p 25 (.mv (.t 0)), .p 26 (.nilc (.t 25)), .p 27 (.fa (.t 26) 2), .p 28 (.ld 1 false (.t 27)), .p 29 (.mv (.t 28)), .g 29 false (some 30) (.p 30 (.mv (.t 6))), .g 29 false (some 31) (.p 31 (.bin .lss (.t 30) (.c (.int .i64 0)))), .p 32 (.pick (.t 29) (.c (.bool true)) (.t 31)), .p 33 (.mv (.t 32)), .g 33 false (some 34) (.p 34 (.mv (.t 0))), .g 33 false (some 35) (.p 35 (.nilc (.t 34))), .g 33 false (some 36) (.p 36 (.fa (.t 35) 1)), .g 33 false (some 37) (.p 37 (.ld 1 false (.t 36))), .g 33 false (some 38) (.p 38 (.bin .gtr (.t 37) (.c (.int .i64 6000)))), .p 39 (.pick (.t 33) (.c (.bool true)) (.t 38)), .p 40 (.mv (.t 39)), .g 40 false (some 41) (.p 41 (.mv (.t 1))), .g 40 false (some 42) (.p 42 (.bin .gtr (.t 41) (.c (.int .i64 200)))), .p 43 (.pick (.t 40) (.c (.bool true)) (.t 42)), .p 44 (.nilc (.t 24)), .p 45 (.fa (.t 44) 2), .st 1 (.t 45) (.t 43)]) (.sq (.sq (.ops [.p 46 (.mv (.t 6)), .p 47 (.bin .eql (.t 46) (.c (.int .i64 0)))]) (.ite (.t 47) (.sq (.ops [.p 48 (.mv (.t 0)), .call (some 49) 25 true (.f 185) [(.t 48, false), (.c (.int .i64 2), false)], .p 7 (.mv (.t 49))]) (.opsO [0, 1, 2, 3, 4, 5, 6, 7, 8, 9, 10, 11] [.p 50 (.mv (.t 7)), .p 51 (.ia 1 (.t 50) (.c (.int .i64 0))), .p 52 (.ld 1 false (.t 51)), .p 53 (.cvt .i64 (.t 52)), .p 54 (.bin .shl (.t 53) (.c (.int .u64 8))), .p 55 (.mv (.t 7)), .p 56 (.ia 1 (.t 55) (.c (.int .i64 1))), .p 57 (.ld 1 false (.t 56)), .p 58 (.cvt .i64 (.t 57)), .p 59 (.bin .or (.t 54) (.t 58)), .p 60 (.fa (.t 5) 1), .st 1 (.t 60) (.t 59)])) (.sk))) (.sq (.blk 0 (.lp [0, 1, 4, 5, 6] [0, 20, 22, 23] m171_l0)) (.sq (.ops [.p 81 (.ld 3 true (.t 5)), .st 3 (.t 4) (.t 81)]) (.rt)))))))) }
/-- porism/kind.is -/
def m172 : MFun := { np := 1, res := [.t 2], own := false, code := .sq (.ops [.p 2 (.mv (.c (.bool false)))]) (.sq (.ops [.p 3 (.mv (.t 0)), .p 4 (.bin .geq (.t 3) (.c (.int .i64 1))), .p 5 (.mv (.t 4)), .g 5 true (some 6) (.p 6 (.mv (.t 0))), .g 5 true (some 7) (.p 7 (.bin .leq (.t 6) (.c (.int .i64 13)))), .p 8 (.pick (.t 5) (.t 7) (.c (.bool false))), .p 2 (.mv (.t 8))]) (.rt)) }
def m173_l0 : MC := .sq (.ops [.p 9 (.bin .lss (.t 8) (.t 7))]) (.sq (.ite (.t 9) (.sk) (.ex 0)) (.sq (.blk 1 (.sq (.ops [.p 10 (.mv (.t 8)), .p 5 (.mv (.t 10))]) (.sq (.ops [.p 11 (.mv (.t 1)), .p 12 (.mv (.t 0)), .p 13 (.mv (.t 5)), .p 14 (.ia 3 (.t 12) (.t 13)), .p 15 (.ld 3 true (.t 14)), .call (some 16) 20 true (.v (.t 11)) [(.t 15, false)]]) (.ite (.t 16) (.sq (.ops [.p 17 (.mv (.t 5)), .p 4 (.mv (.t 17))]) (.rt)) (.sk))))) (.ops [.p 18 (.bin .add (.t 8) (.c (.int .i64 1))), .p 8 (.mv (.t 18))])))
/-- slices.IndexFunc[[]porism/api.Term,porism/api.Term] -/
def m173 : MFun := { np := 2, res := [.t 4], own := false, code := .sq (.ops [.p 4 (.mv (.c (.int .i64 0)))]) (.sq (.sq (.ops [.p 6 (.mv (.t 0)), .p 7 (.len (.t 6)), .p 8 (.mv (.c (.int .i64 0)))]) (.blk 0 (.lp [0, 1, 7, 8] [0, 1] m173_l0))) (.sq (.ops [.p 4 (.mv (.c (.int .i64 (-1))))]) (.rt))) }
/-- porism/term.Scope -/
def m176 : MFun := { np := 3, res := [.t 6], own := false, code := .sq (.ops [.box 3 20 3 (.t 0), .p 6 (.mv (.c (.bool false)))]) (.sq (.ops [.p 7 (.mv (.t 1)), .p 8 (.bin .geq (.t 7) (.c (.int .i64 0))), .p 9 (.mv (.t 8)), .g 9 true (some 10) (.p 10 (.mv (.t 2))), .g 9 true (some 11) (.p 11 (.bin .geq (.t 10) (.c (.int .i64 0)))), .p 12 (.pick (.t 9) (.t 11) (.c (.bool false))), .p 13 (.mv (.t 12)), .g 13 true (some 14) (.p 14 (.ld 3 true (.t 3))), .g 13 true (some 15) (.call (some 15) 21 false (.f 71) [(.t 14, false)]), .g 13 true (some 16) (.p 16 (.bin .eql (.t 15) (.c (.int .i64 0)))), .p 17 (.pick (.t 13) (.t 16) (.c (.bool false))), .p 18 (.mv (.t 17)), .g 18 true (some 19) (.p 19 (.ld 3 true (.t 3))), .g 18 true (some 20) (.p 20 (.mv (.t 1))), .g 18 true (some 21) (.p 21 (.mm false (.t 20) (.c (.int .i64 65536)))), .g 18 true (some 22) (.p 22 (.mv (.t 2))), .g 18 true (some 23) (.call (some 23) 22 false (.f 187) [(.t 19, false), (.t 21, false), (.t 22, false)]), .p 24 (.pick (.t 18) (.t 23) (.c (.bool false))), .p 6 (.mv (.t 24))]) (.rt)) }
def m178_l0 : MC := .sq (.ops [.p 18 (.bin .lss (.t 17) (.t 16))]) (.sq (.ite (.t 18) (.sk) (.ex 0)) (.sq (.blk 1 (.sq (.ops [.p 19 (.mv (.t 17)), .p 20 (.ia 6 (.t 15) (.t 17)), .p 21 (.ld 6 true (.t 20)), .alloc 8 20 [.sl .nil 7 [], .int .i64 0, .bool false, .int .i64 0, .int .i64 0, .sl .nil 3 []], .p 7 (.mv (.t 19)), .st 6 (.t 8) (.t 21)]) (.sq (.ops [.p 22 (.mv (.t 1)), .p 23 (.mv (.t 7)), .p 24 (.ia 6 (.t 22) (.t 23)), .p 25 (.ld 6 true (.t 24)), .alloc 9 21 [.sl .nil 7 [], .int .i64 0, .bool false, .int .i64 0, .int .i64 0, .sl .nil 3 []], .st 6 (.t 9) (.t 25)]) (.sq (.ops [.p 26 (.mv (.t 2)), .p 27 (.ld 6 true (.t 8)), .p 28 (.ld 6 true (.t 9)), .call (some 29) 22 true (.v (.t 26)) [(.t 27, false), (.t 28, false)], .p 30 (.not (.t 29))]) (.ite (.t 30) (.sq (.ops [.p 6 (.mv (.c (.bool false)))]) (.rt)) (.sk)))))) (.ops [.p 31 (.bin .add (.t 17) (.c (.int .i64 1))), .p 17 (.mv (.t 31))])))
/-- slices.EqualFunc[[]porism/api.Sort,[]porism/api.Sort,porism/api.Sort,porism/api.Sort] -/
def m178 : MFun := { np := 3, res := [.t 6], own := false, code := .sq (.ops [.p 6 (.mv (.c (.bool false)))]) (.sq (.sq (.ops [.p 10 (.mv (.t 0)), .p 11 (.len (.t 10)), .p 12 (.mv (.t 1)), .p 13 (.len (.t 12)), .p 14 (.bin .neq (.t 11) (.t 13))]) (.ite (.t 14) (.sq (.ops [.p 6 (.mv (.c (.bool false)))]) (.rt)) (.sk))) (.sq (.sq (.ops [.p 15 (.mv (.t 0)), .p 16 (.len (.t 15)), .p 17 (.mv (.c (.int .i64 0)))]) (.blk 0 (.lp [1, 2, 15, 16, 17] [0, 1] m178_l0))) (.sq (.ops [.p 6 (.mv (.c (.bool true)))]) (.rt)))) }
/-- porism/shape.Same$1 -/
def m179 : MFun := { np := 2, res := [.t 4], own := false, code := .sq (.ops [.box 2 20 6 (.t 0), .box 3 21 6 (.t 1), .p 4 (.mv (.c (.bool false)))]) (.sq (.ops [.p 5 (.fa (.t 2) 0), .p 6 (.ld 1 false (.t 5)), .p 7 (.fa (.t 3) 0), .p 8 (.ld 1 false (.t 7)), .call (some 9) 22 false (.f 180) [(.t 6, false), (.t 8, false)], .p 10 (.mv (.t 9)), .g 10 true (some 11) (.p 11 (.fa (.t 2) 1)), .g 10 true (some 12) (.p 12 (.ld 1 false (.t 11))), .g 10 true (some 13) (.p 13 (.fa (.t 3) 1)), .g 10 true (some 14) (.p 14 (.ld 1 false (.t 13))), .g 10 true (some 15) (.p 15 (.bin .eql (.t 12) (.t 14))), .p 16 (.pick (.t 10) (.t 15) (.c (.bool false))), .p 17 (.mv (.t 16)), .g 17 true (some 18) (.p 18 (.fa (.t 2) 2)), .g 17 true (some 19) (.p 19 (.ld 1 false (.t 18))), .g 17 true (some 20) (.p 20 (.fa (.t 3) 2)), .g 17 true (some 21) (.p 21 (.ld 1 false (.t 20))), .g 17 true (some 22) (.p 22 (.beq false (.t 19) (.t 21))), .p 23 (.pick (.t 17) (.t 22) (.c (.bool false))), .p 24 (.mv (.t 23)), .g 24 true (some 25) (.p 25 (.fa (.t 2) 3)), .g 24 true (some 26) (.p 26 (.ld 3 true (.t 25))), .g 24 true (some 27) (.p 27 (.fa (.t 3) 3)), .g 24 true (some 28) (.p 28 (.ld 3 true (.t 27))), .g 24 true (some 29) (.call (some 29) 23 false (.f 181) [(.t 26, false), (.t 28, false)]), .p 30 (.pick (.t 24) (.t 29) (.c (.bool false))), .p 4 (.mv (.t 30))]) (.rt)) }
/-- porism/shape.args -/
def m180 : MFun := { np := 2, res := [.t 4], own := false, code := .sq (.ops [.p 4 (.mv (.c (.bool false)))]) (.sq (.ops [.p 5 (.mv (.t 0)), .p 6 (.mv (.t 1)), .call (some 7) 20 true (.f 188) [(.t 5, false), (.t 6, false), (.c (.fn 189 []), false)], .p 4 (.mv (.t 7))]) (.rt)) }
/-- porism/term.Equal -/
def m181 : MFun := { np := 2, res := [.t 4], own := false, code := .sq (.ops [.box 2 20 3 (.t 0), .box 3 21 3 (.t 1), .p 4 (.mv (.c (.bool false)))]) (.sq (.ops [.p 5 (.fa (.t 2) 0), .p 6 (.ld 1 false (.t 5)), .p 7 (.fa (.t 3) 0), .p 8 (.ld 1 false (.t 7)), .p 9 (.bin .eql (.t 6) (.t 8)), .p 10 (.mv (.t 9)), .g 10 true (some 11) (.p 11 (.fa (.t 2) 1)), .g 10 true (some 12) (.p 12 (.ld 1 false (.t 11))), .g 10 true (some 13) (.p 13 (.fa (.t 3) 1)), .g 10 true (some 14) (.p 14 (.ld 1 false (.t 13))), .g 10 true (some 15) (.p 15 (.bin .eql (.t 12) (.t 14))), .p 16 (.pick (.t 10) (.t 15) (.c (.bool false))), .p 17 (.mv (.t 16)), .g 17 true (some 18) (.p 18 (.fa (.t 2) 2)), .g 17 true (some 19) (.p 19 (.ld 1 false (.t 18))), .g 17 true (some 20) (.p 20 (.fa (.t 3) 2)), .g 17 true (some 21) (.p 21 (.ld 1 false (.t 20))), .g 17 true (some 22) (.call (some 22) 22 true (.f 190) [(.t 19, false), (.t 21, false), (.c (.fn 181 []), false)]), .p 23 (.pick (.t 17) (.t 22) (.c (.bool false))), .p 4 (.mv (.t 23))]) (.rt)) }
def m182_l0 : MC := .sq (.ops [.p 18 (.bin .lss (.t 17) (.t 16))]) (.sq (.ite (.t 18) (.sk) (.ex 0)) (.sq (.blk 1 (.sq (.ops [.p 19 (.mv (.t 17)), .p 20 (.ia 6 (.t 15) (.t 17)), .p 21 (.ld 6 true (.t 20)), .alloc 8 20 [.int .i64 0, .sl .nil 7 [], .sl .nil 3 [], .int .i64 0, .int .i64 0, .sl .nil 3 []], .p 7 (.mv (.t 19)), .st 6 (.t 8) (.t 21)]) (.sq (.ops [.p 22 (.mv (.t 1)), .p 23 (.mv (.t 7)), .p 24 (.ia 6 (.t 22) (.t 23)), .p 25 (.ld 6 true (.t 24)), .alloc 9 21 [.int .i64 0, .sl .nil 7 [], .sl .nil 3 [], .int .i64 0, .int .i64 0, .sl .nil 3 []], .st 6 (.t 9) (.t 25)]) (.sq (.ops [.p 26 (.mv (.t 2)), .p 27 (.ld 6 true (.t 8)), .p 28 (.ld 6 true (.t 9)), .call (some 29) 22 true (.v (.t 26)) [(.t 27, false), (.t 28, false)], .p 30 (.not (.t 29))]) (.ite (.t 30) (.sq (.ops [.p 6 (.mv (.c (.bool false)))]) (.rt)) (.sk)))))) (.ops [.p 31 (.bin .add (.t 17) (.c (.int .i64 1))), .p 17 (.mv (.t 31))])))
/-- slices.EqualFunc[[]porism/api.Con,[]porism/api.Con,porism/api.Con,porism/api.Con] -/
def m182 : MFun := { np := 3, res := [.t 6], own := false, code := .sq (.ops [.p 6 (.mv (.c (.bool false)))]) (.sq (.sq (.ops [.p 10 (.mv (.t 0)), .p 11 (.len (.t 10)), .p 12 (.mv (.t 1)), .p 13 (.len (.t 12)), .p 14 (.bin .neq (.t 11) (.t 13))]) (.ite (.t 14) (.sq (.ops [.p 6 (.mv (.c (.bool false)))]) (.rt)) (.sk))) (.sq (.sq (.ops [.p 15 (.mv (.t 0)), .p 16 (.len (.t 15)), .p 17 (.mv (.c (.int .i64 0)))]) (.blk 0 (.lp [1, 2, 15, 16, 17] [0, 1] m182_l0))) (.sq (.ops [.p 6 (.mv (.c (.bool true)))]) (.rt)))) }
/-- porism/shape.Same$2 -/
def m183 : MFun := { np := 2, res := [.t 4], own := false, code := .sq (.ops [.box 2 20 6 (.t 0), .box 3 21 6 (.t 1), .p 4 (.mv (.c (.bool false)))]) (.sq (.ops [.p 5 (.fa (.t 2) 0), .p 6 (.ld 1 false (.t 5)), .p 7 (.fa (.t 3) 0), .p 8 (.ld 1 false (.t 7)), .p 9 (.bin .eql (.t 6) (.t 8)), .p 10 (.mv (.t 9)), .g 10 true (some 11) (.p 11 (.fa (.t 2) 1)), .g 10 true (some 12) (.p 12 (.ld 1 false (.t 11))), .g 10 true (some 13) (.p 13 (.fa (.t 3) 1)), .g 10 true (some 14) (.p 14 (.ld 1 false (.t 13))), .g 10 true (some 15) (.call (some 15) 22 false (.f 180) [(.t 12, false), (.t 14, false)]), .p 16 (.pick (.t 10) (.t 15) (.c (.bool false))), .p 17 (.mv (.t 16)), .g 17 true (some 18) (.p 18 (.fa (.t 2) 2)), .g 17 true (some 19) (.p 19 (.ld 1 false (.t 18))), .g 17 true (some 20) (.p 20 (.fa (.t 3) 2)), .g 17 true (some 21) (.p 21 (.ld 1 false (.t 20))), .g 17 true (some 22) (.call (some 22) 23 false (.f 184) [(.t 19, false), (.t 21, false)]), .p 23 (.pick (.t 17) (.t 22) (.c (.bool false))), .p 24 (.mv (.t 23)), .g 24 true (some 25) (.p 25 (.fa (.t 2) 3)), .g 24 true (some 26) (.p 26 (.ld 3 true (.t 25))), .g 24 true (some 27) (.p 27 (.fa (.t 3) 3)), .g 24 true (some 28) (.p 28 (.ld 3 true (.t 27))), .g 24 true (some 29) (.call (some 29) 24 false (.f 181) [(.t 26, false), (.t 28, false)]), .p 30 (.pick (.t 24) (.t 29) (.c (.bool false))), .p 4 (.mv (.t 30))]) (.rt)) }
/-- porism/shape.terms -/
def m184 : MFun := { np := 2, res := [.t 4], own := false, code := .sq (.ops [.p 4 (.mv (.c (.bool false)))]) (.sq (.ops [.p 5 (.mv (.t 0)), .p 6 (.mv (.t 1)), .call (some 7) 20 true (.f 190) [(.t 5, false), (.t 6, false), (.c (.fn 181 []), false)], .p 4 (.mv (.t 7))]) (.rt)) }
/-- (*porism/pack.reader).take -/
def m185 : MFun := { np := 2, res := [.t 4], own := false, code := .sq (.ops [.p 4 (.mv (.c (.sl .nil 1 [])))]) (.sq (.sq (.ops [.p 6 (.mv (.t 0)), .p 7 (.nilc (.t 6)), .p 8 (.fa (.t 7) 2), .p 9 (.ld 1 false (.t 8)), .p 10 (.mv (.t 9)), .g 10 false (some 11) (.p 11 (.mv (.t 0))), .g 10 false (some 12) (.p 12 (.nilc (.t 11))), .g 10 false (some 13) (.p 13 (.fa (.t 12) 0)), .g 10 false (some 14) (.p 14 (.ld 1 false (.t 13))), .g 10 false (some 15) (.p 15 (.len (.t 14))), .g 10 false (some 16) (.p 16 (.mv (.t 1))), .g 10 false (some 17) (.p 17 (.bin .lss (.t 15) (.t 16))), .p 18 (.pick (.t 10) (.c (.bool true)) (.t 17))]) (.ite (.t 18) (.sq (.ops [.p 19 (.mv (.t 0)), .p 20 (.nilc (.t 19)), .p 21 (.fa (.t 20) 2), .st 1 (.t 21) (.c (.bool true))]) (.sq (.sq (.ops [.p 22 (.mv (.t 1)), .mks 23 20 1 1 [.int .u8 0] (.t 22), .p 4 (.mv (.t 23))]) (.gh (.frz 4))) (.rt))) (.sk))) (.sq (.ops [.p 24 (.mv (.t 0)), .p 25 (.nilc (.t 24)), .p 26 (.fa (.t 25) 0), .p 27 (.ld 1 false (.t 26)), .p 28 (.mv (.t 1)), .p 29 (.slc 1 (.t 27) none (some (.t 28))), .p 5 (.mv (.t 29))]) (.sq (.ops [.p 30 (.mv (.t 0)), .p 31 (.mv (.t 0)), .p 32 (.nilc (.t 31)), .p 33 (.fa (.t 32) 0), .p 34 (.ld 1 false (.t 33)), .p 35 (.mv (.t 1)), .p 36 (.slc 1 (.t 34) (some (.t 35)) none), .p 37 (.nilc (.t 30)), .p 38 (.fa (.t 37) 0), .st 1 (.t 38) (.t 36)]) (.sq (.ops [.p 39 (.mv (.t 5)), .p 4 (.mv (.t 39))]) (.rt))))) }
def m187_l0 : MC := .sq (.ops [.p 32 (.bin .lss (.t 31) (.t 30))]) (.sq (.ite (.t 32) (.sk) (.ex 1)) (.sq (.blk 2 (.sq (.ops [.p 33 (.mv (.t 31)), .p 34 (.ia 3 (.t 29) (.t 31)), .p 35 (.ld 3 true (.t 34)), .alloc 8 21 [.int .i64 0, .int .i64 0, .sl .nil 3 []], .p 7 (.mv (.t 33)), .st 3 (.t 8) (.t 35)]) (.sq (.opsO [0, 1, 2, 3, 4, 7, 5, 6, 8, 9] [.p 36 (.ld 3 true (.t 8)), .p 37 (.mv (.t 1)), .p 38 (.fa (.t 3) 0), .p 39 (.ld 1 false (.t 38)), .p 40 (.mv (.t 7)), .p 43 (.mv (.t 2)), .call (some 41) 22 false (.f 99) [(.t 39, false), (.t 40, false)], .p 42 (.bin .add (.t 37) (.t 41)), .call (some 44) 23 false (.f 187) [(.t 36, false), (.t 42, false), (.t 43, false)], .p 45 (.not (.t 44))]) (.ite (.t 45) (.sq (.ops [.p 6 (.mv (.c (.bool false)))]) (.rt)) (.sk))))) (.ops [.p 46 (.bin .add (.t 31) (.c (.int .i64 1))), .p 31 (.mv (.t 46))])))
/-- porism/term.within -/
def m187 : MFun := { np := 3, res := [.t 6], own := false, code := .sq (.ops [.box 3 20 3 (.t 0), .p 6 (.mv (.c (.bool false)))]) (.sq (.sq (.ops [.p 9 (.fa (.t 3) 0), .p 10 (.ld 1 false (.t 9))]) (.blk 0 (.sq (.ops [.p 12 (.bin .eql (.t 10) (.c (.int .i64 1))), .p 11 (.mv (.t 12))]) (.ite (.t 11) (.sq (.ops [.p 13 (.fa (.t 3) 1), .p 14 (.ld 1 false (.t 13)), .p 15 (.mv (.t 1)), .p 16 (.bin .lss (.t 14) (.t 15)), .p 6 (.mv (.t 16))]) (.rt)) (.sq (.ops [.p 18 (.bin .eql (.t 10) (.c (.int .i64 2))), .p 17 (.mv (.t 18))]) (.ite (.t 17) (.sq (.ops [.p 19 (.fa (.t 3) 1), .p 20 (.ld 1 false (.t 19)), .p 21 (.bin .leq (.t 20) (.c (.int .i64 6))), .p 6 (.mv (.t 21))]) (.rt)) (.sq (.ops [.p 23 (.bin .eql (.t 10) (.c (.int .i64 3))), .p 22 (.mv (.t 23))]) (.ite (.t 22) (.sq (.ops [.p 24 (.fa (.t 3) 1), .p 25 (.ld 1 false (.t 24)), .p 26 (.mv (.t 2)), .p 27 (.bin .lss (.t 25) (.t 26)), .p 6 (.mv (.t 27))]) (.rt)) (.sk))))))))) (.sq (.sq (.ops [.p 28 (.fa (.t 3) 2), .p 29 (.ld 1 false (.t 28)), .p 30 (.len (.t 29)), .p 31 (.mv (.c (.int .i64 0)))]) (.blk 1 (.lp [1, 2, 3, 29, 30, 31] [20] m187_l0))) (.sq (.ops [.p 6 (.mv (.c (.bool true)))]) (.rt)))) }
def m188_l0 : MC := .sq (.ops [.p 18 (.bin .lss (.t 17) (.t 16))]) (.sq (.ite (.t 18) (.sk) (.ex 0)) (.sq (.blk 1 (.sq (.ops [.p 19 (.mv (.t 17)), .p 20 (.ia 7 (.t 15) (.t 17)), .p 21 (.ld 7 true (.t 20)), .alloc 8 20 [.bool false, .int .i64 0, .int .i64 0, .sl .nil 3 [], .sl .nil 3 [], .int .i64 0, .sl .nil 3 []], .p 7 (.mv (.t 19)), .st 7 (.t 8) (.t 21)]) (.sq (.ops [.p 22 (.mv (.t 1)), .p 23 (.mv (.t 7)), .p 24 (.ia 7 (.t 22) (.t 23)), .p 25 (.ld 7 true (.t 24)), .alloc 9 21 [.bool false, .int .i64 0, .int .i64 0, .sl .nil 3 [], .sl .nil 3 [], .int .i64 0, .sl .nil 3 []], .st 7 (.t 9) (.t 25)]) (.sq (.ops [.p 26 (.mv (.t 2)), .p 27 (.ld 7 true (.t 8)), .p 28 (.ld 7 true (.t 9)), .call (some 29) 22 true (.v (.t 26)) [(.t 27, false), (.t 28, false)], .p 30 (.not (.t 29))]) (.ite (.t 30) (.sq (.ops [.p 6 (.mv (.c (.bool false)))]) (.rt)) (.sk)))))) (.ops [.p 31 (.bin .add (.t 17) (.c (.int .i64 1))), .p 17 (.mv (.t 31))])))
/-- slices.EqualFunc[[]porism/api.Arg,[]porism/api.Arg,porism/api.Arg,porism/api.Arg] -/
def m188 : MFun := { np := 3, res := [.t 6], own := false, code := .sq (.ops [.p 6 (.mv (.c (.bool false)))]) (.sq (.sq (.ops [.p 10 (.mv (.t 0)), .p 11 (.len (.t 10)), .p 12 (.mv (.t 1)), .p 13 (.len (.t 12)), .p 14 (.bin .neq (.t 11) (.t 13))]) (.ite (.t 14) (.sq (.ops [.p 6 (.mv (.c (.bool false)))]) (.rt)) (.sk))) (.sq (.sq (.ops [.p 15 (.mv (.t 0)), .p 16 (.len (.t 15)), .p 17 (.mv (.c (.int .i64 0)))]) (.blk 0 (.lp [1, 2, 15, 16, 17] [0, 1] m188_l0))) (.sq (.ops [.p 6 (.mv (.c (.bool true)))]) (.rt)))) }
/-- porism/shape.args$1 -/
def m189 : MFun := { np := 2, res := [.t 4], own := false, code := .sq (.ops [.box 2 20 7 (.t 0), .box 3 21 7 (.t 1), .p 4 (.mv (.c (.bool false)))]) (.sq (.ops [.p 5 (.fa (.t 2) 0), .p 6 (.ld 1 false (.t 5)), .p 7 (.fa (.t 3) 0), .p 8 (.ld 1 false (.t 7)), .p 9 (.beq false (.t 6) (.t 8)), .p 10 (.mv (.t 9)), .g 10 true (some 11) (.p 11 (.fa (.t 2) 1)), .g 10 true (some 12) (.p 12 (.ld 3 true (.t 11))), .g 10 true (some 13) (.p 13 (.fa (.t 3) 1)), .g 10 true (some 14) (.p 14 (.ld 3 true (.t 13))), .g 10 true (some 15) (.call (some 15) 22 false (.f 181) [(.t 12, false), (.t 14, false)]), .p 16 (.pick (.t 10) (.t 15) (.c (.bool false))), .p 17 (.mv (.t 16)), .g 17 true (some 18) (.p 18 (.fa (.t 2) 4)), .g 17 true (some 19) (.p 19 (.ld 1 false (.t 18))), .g 17 true (some 20) (.p 20 (.fa (.t 3) 4)), .g 17 true (some 21) (.p 21 (.ld 1 false (.t 20))), .g 17 true (some 22) (.call (some 22) 23 false (.f 184) [(.t 19, false), (.t 21, false)]), .p 23 (.pick (.t 17) (.t 22) (.c (.bool false))), .p 24 (.mv (.t 23)), .g 24 true (some 25) (.p 25 (.fa (.t 2) 5)), .g 24 true (some 26) (.p 26 (.ld 1 false (.t 25))), .g 24 true (some 27) (.p 27 (.fa (.t 3) 5)), .g 24 true (some 28) (.p 28 (.ld 1 false (.t 27))), .g 24 true (some 29) (.p 29 (.bin .eql (.t 26) (.t 28))), .p 30 (.pick (.t 24) (.t 29) (.c (.bool false))), .p 31 (.mv (.t 30)), .g 31 true (some 32) (.p 32 (.fa (.t 2) 6)), .g 31 true (some 33) (.p 33 (.ld 1 false (.t 32))), .g 31 true (some 34) (.p 34 (.fa (.t 3) 6)), .g 31 true (some 35) (.p 35 (.ld 1 false (.t 34))), .g 31 true (some 36) (.call (some 36) 24 false (.f 184) [(.t 33, false), (.t 35, false)]), .p 37 (.pick (.t 31) (.t 36) (.c (.bool false))), .p 4 (.mv (.t 37))]) (.rt)) }
def m190_l0 : MC := .sq (.ops [.p 18 (.bin .lss (.t 17) (.t 16))]) (.sq (.ite (.t 18) (.sk) (.ex 0)) (.sq (.blk 1 (.sq (.ops [.p 19 (.mv (.t 17)), .p 20 (.ia 3 (.t 15) (.t 17)), .p 21 (.ld 3 true (.t 20)), .alloc 8 20 [.int .i64 0, .int .i64 0, .sl .nil 3 []], .p 7 (.mv (.t 19)), .st 3 (.t 8) (.t 21)]) (.sq (.ops [.p 22 (.mv (.t 1)), .p 23 (.mv (.t 7)), .p 24 (.ia 3 (.t 22) (.t 23)), .p 25 (.ld 3 true (.t 24)), .alloc 9 21 [.int .i64 0, .int .i64 0, .sl .nil 3 []], .st 3 (.t 9) (.t 25)]) (.sq (.ops [.p 26 (.mv (.t 2)), .p 27 (.ld 3 true (.t 8)), .p 28 (.ld 3 true (.t 9)), .call (some 29) 22 true (.v (.t 26)) [(.t 27, false), (.t 28, false)], .p 30 (.not (.t 29))]) (.ite (.t 30) (.sq (.ops [.p 6 (.mv (.c (.bool false)))]) (.rt)) (.sk)))))) (.ops [.p 31 (.bin .add (.t 17) (.c (.int .i64 1))), .p 17 (.mv (.t 31))])))
/-- slices.EqualFunc[[]porism/api.Term,[]porism/api.Term,porism/api.Term,porism/api.Term] -/
def m190 : MFun := { np := 3, res := [.t 6], own := false, code := .sq (.ops [.p 6 (.mv (.c (.bool false)))]) (.sq (.sq (.ops [.p 10 (.mv (.t 0)), .p 11 (.len (.t 10)), .p 12 (.mv (.t 1)), .p 13 (.len (.t 12)), .p 14 (.bin .neq (.t 11) (.t 13))]) (.ite (.t 14) (.sq (.ops [.p 6 (.mv (.c (.bool false)))]) (.rt)) (.sk))) (.sq (.sq (.ops [.p 15 (.mv (.t 0)), .p 16 (.len (.t 15)), .p 17 (.mv (.c (.int .i64 0)))]) (.blk 0 (.lp [1, 2, 15, 16, 17] [0, 1] m190_l0))) (.sq (.ops [.p 6 (.mv (.c (.bool true)))]) (.rt)))) }
def tabA : List (Nat × MFun) := [(5, m5), (6, m6), (7, m7), (8, m8), (16, m16), (19, m19), (24, m24), (25, m25), (26, m26), (27, m27), (28, m28), (29, m29), (30, m30), (31, m31), (32, m32), (36, m36), (47, m47), (52, m52), (53, m53), (64, m64), (65, m65), (66, m66), (67, m67), (68, m68), (69, m69), (70, m70), (71, m71), (72, m72), (73, m73), (86, m86), (90, m90), (91, m91), (92, m92), (93, m93), (94, m94), (99, m99), (101, m101), (102, m102), (107, m107), (108, m108), (109, m109), (110, m110), (111, m111), (112, m112), (113, m113), (114, m114), (115, m115), (116, m116), (117, m117), (118, m118), (127, m127), (128, m128), (129, m129), (130, m130), (131, m131), (132, m132), (138, m138), (142, m142), (143, m143), (144, m144), (145, m145), (146, m146), (147, m147), (148, m148), (149, m149), (150, m150), (151, m151), (160, m160), (161, m161), (162, m162), (163, m163), (167, m167), (169, m169), (170, m170), (171, m171), (172, m172), (173, m173), (176, m176), (178, m178), (179, m179), (180, m180), (181, m181), (182, m182), (183, m183), (184, m184), (185, m185), (187, m187), (188, m188), (189, m189), (190, m190)]
end Go.Px.B
/- The arguments, as they are read, in the small language's words. -/
set_option maxRecDepth 100000
set_option linter.unusedVariables false
set_option linter.unusedSimpArgs false
namespace Go.Px.B
open Go Go.Px Go.ChangeShapes Go.WideShapes Go.ChangeAt Go.RowKit Go.Deep
open Go.Proofs.Ytdijeendcpoemaa.Rows (uptoBulk uptoBulkAll)

/-- all that there is is settled -/
def I0 (W : World) (b : Nat) : Nat := match W.heap[b]? with
  | some (.cells c _ _) => c.size
  | _ => 0
theorem I0_cell {W : World} {b j : Nat} {v : Value} (h : W.cell? ⟨b, j, none⟩ = some v) : j < I0 W b := by
  unfold World.cell? at h
  unfold I0
  split at h
  · rename_i c _ _ hc
    simp only [hc]
    simp at h
    exact (Array.getElem?_eq_some_iff.1 h).1
  · cases h
section
variable {H : Type} {enc : TypeId × Value → H} {W : World}
theorem rd_int {P : Program} {fuel : Nat} {t : TypeId} {k : IntKind} {cs : List Value} {x : DataW H × List MemPlace} (ht : P.underlying t = some (.int k)) (h : DataW.trod enc P W 0 (fun _ => true) true fuel t cs = some x) :
    ∃ n, cs = [.int k n] ∧ x.1 = .lit (.int k n) ∧ (Lit.int k n).wf = true := by
  cases fuel with
  | zero => simp [DataW.trod] at h
  | succ n =>
    unfold DataW.trod at h
    rw [ht] at h
    split at h <;> simp_all
    obtain ⟨⟨rfl, h1⟩, h2⟩ := h
    rw [← h2]
theorem rd_bool {P : Program} {fuel : Nat} {t : TypeId} {cs : List Value} {x : DataW H × List MemPlace} (ht : P.underlying t = some .bool) (h : DataW.trod enc P W 0 (fun _ => true) true fuel t cs = some x) :
    ∃ b, cs = [.bool b] ∧ x.1 = .lit (.bool b) := by
  cases fuel with
  | zero => simp [DataW.trod] at h
  | succ n =>
    unfold DataW.trod at h
    rw [ht] at h
    split at h <;> simp_all
    rw [← h]
theorem bulk_lit_int (k : IntKind) (n : Int) : uptoBulk (DataW.lit (H := H) (.int k n)) = 1 := by simp [uptoBulk]
/-- rows of what can be read -/
theorem rd_slice {P : Program} {α : Type} [Inhabited α] (cf : α → List PV) (sz : α → Nat) (tot : List α → Nat) (h0 : tot [] = 0) (h1 : ∀ a r, tot (a :: r) = sz a + tot r) {t e : TypeId} (ht : P.underlying t = some (.slice e)) {esz : Nat} (he : P.cellsOf e = esz) (hpos : 0 < esz)
    {fuel : Nat} {cs : List Value} {x : DataW H × List MemPlace} (h : DataW.trod enc P W 0 (fun _ => true) true fuel t cs = some x)
    (hel : ∀ n cs' y, uptoBulk y.1 < uptoBulk x.1 → DataW.trod enc P W 0 (fun _ => true) true n e cs' = some y → ∃ a, All2 (RI W (I0 W)) (cf a) cs' ∧ sz a ≤ uptoBulk y.1) :
    ∃ (l : List α) (v : Value), cs = [v] ∧ RI W (I0 W) (.sl .plain esz (l.map cf)) v ∧ tot l + 1 ≤ uptoBulk x.1 := by
  rcases open_slice ht h with ⟨rfl, rfl⟩ | ⟨a, len, cap, m, n, D, Pl, rfl, hb, hl, hm, hmm, rfl, hx⟩
  · exact ⟨[], _, rfl, .sl esz [] none 0 0 (fun _ _ => .bool true) rfl (by simp) (by simp [maxLen]) (Nat.le_refl _) (by simp) (fun j q hj => by simp at hj), by simp [h0, uptoBulk]⟩
  have hmlen : len ≤ m := by rw [hmm]; split <;> omega
  have hbulk : ∀ i, i < len → uptoBulk (D i) < uptoBulk (DataW.slice ((List.range len).map D) ((List.range (m - len)).map fun j => D (len + j))) := by
    intro i hi
    have : ∀ (is : List Nat), i ∈ is → uptoBulk (D i) ≤ uptoBulkAll (is.map D) := by
      intro is
      induction is with
      | nil => simp
      | cons j r ih =>
        intro hm
        simp only [List.map_cons, uptoBulkAll]
        rcases List.mem_cons.1 hm with e | hm
        · rw [e]; omega
        · have := ih hm; omega
    have := this (List.range len) (List.mem_range.2 hi)
    simp only [uptoBulk]
    omega
  have hch : ∀ i, ∃ b : α, i < len → ∃ cs' : List Value, All2 (RI W (I0 W)) (cf b) cs' ∧ sz b ≤ uptoBulk (D i) ∧ W.cells? 0 (a.add (i * P.cellsOf e)) (P.cellsOf e) = some cs' := by
    intro i
    by_cases hi : i < len
    · obtain ⟨cs', h2, h3⟩ := hx i (by omega)
      obtain ⟨a', h4, h5⟩ := hel n cs' (D i, Pl i) (hbulk i hi) h3
      exact ⟨a', fun _ => ⟨cs', h4, h5, h2⟩⟩
    · exact ⟨default, fun h => absurd h hi⟩
  obtain ⟨f, hf⟩ := Classical.skolem.1 hch
  rw [he] at hf
  have hspot : 0 < len → a.spot = none := by
    intro hl0
    obtain ⟨cs', _, _, h3⟩ := hf 0 hl0
    obtain ⟨_, h4, h5⟩ := World.cells?_some h3
    have h6 := h5 0 hpos
    simp only [Nat.zero_mul, Addr.add, if_true] at h6
    rw [List.getElem?_eq_getElem (by omega)] at h6
    unfold World.cell? at h6
    split at h6
    · split at h6
      · cases h6
      · rename_i hs; simpa using hs
    · cases h6
  have hcell : ∀ (j q : Nat), j < len → q < esz → ∃ v, W.cell? ⟨a.block, a.off + (j * esz + q), none⟩ = some v ∧ ∃ cs', All2 (RI W (I0 W)) (cf (f j)) cs' ∧ cs'.length = esz ∧ cs'[q]? = some v := by
    intro j q hj hq
    obtain ⟨cs', h1, _, h3⟩ := hf j hj
    obtain ⟨_, h4, h5⟩ := World.cells?_some h3
    have h6 := h5 q hq
    have hs := hspot (by omega)
    rw [add_add, add_none hs] at h6
    exact ⟨cs'[q]'(by omega), by rw [h6, List.getElem?_eq_getElem (by omega)], cs', h1, h4, by rw [List.getElem?_eq_getElem (by omega)]⟩
  have hlenf : ∀ j, j < len → (cf (f j)).length = esz := by
    intro j hj
    obtain ⟨cs', h1, _, h3⟩ := hf j hj
    rw [h1.length]
    exact (World.cells?_some h3).2.1
  refine ⟨(List.range len).map f, _, rfl, .sl esz _ (some a) len cap (fun j q => (W.cell? ⟨a.block, a.off + (j * esz + q), none⟩).getD (.bool true)) (by simp) ?_ (by omega) hl ?_ ?_, ?_⟩
  · intro y hy
    simp only [List.map_map, List.mem_map, List.mem_range, Function.comp_apply] at hy
    obtain ⟨j, hj, rfl⟩ := hy
    exact hlenf j hj
  · intro hl0
    refine ⟨a, rfl, hspot hl0, ?_, fun j q hj hq => ?_⟩
    · obtain ⟨v, hv, _⟩ := hcell (len - 1) (esz - 1) (by omega) (by omega)
      have h1 := I0_cell hv
      have h2 : (len - 1) * esz + esz = len * esz := by
        rw [← Nat.succ_mul]; congr 1; omega
      omega
    · obtain ⟨v, hv, _⟩ := hcell j q hj hq
      rw [hv]; rfl
  · intro j q hj hq
    have hj' : j < len := by simpa using hj
    have e1 : ((List.range len).map f |>.map cf)[j] = cf (f j) := by simp
    have hq' : q < esz := by
      rw [← hlenf j hj', ← e1]; exact hq
    obtain ⟨v, hv, cs', h1, h2, h3⟩ := hcell j q hj' hq'
    rw [hv]
    have h4 := h1.get q (by rw [hlenf j hj']; exact hq') (by omega)
    have h5 : cs'[q]'(by omega) = v := by
      rw [List.getElem?_eq_getElem (by omega)] at h3
      exact Option.some.inj h3
    rw [h5] at h4
    simpa using h4
  · have : ∀ (is : List Nat), (∀ i ∈ is, i < len) → tot (is.map f) ≤ uptoBulkAll (is.map D) := by
      intro is
      induction is with
      | nil => simp [h0]
      | cons j r ih =>
        intro hm
        simp only [List.map_cons, h1, uptoBulkAll]
        obtain ⟨_, _, h2, _⟩ := hf j (hm j (by simp))
        have := ih fun i hi => hm i (by simp [hi])
        omega
    have := this (List.range len) (fun i hi => List.mem_range.1 hi)
    simp only [uptoBulk]
    omega

/-! ### the program's types -/
theorem cells_int : Go.Proofs.Try.prog.cellsOf 3 = 1 := by kernel_rfl
theorem cells_bool : Go.Proofs.Try.prog.cellsOf 4 = 1 := by kernel_rfl
theorem cells_byte : Go.Proofs.Try.prog.cellsOf 5 = 1 := by kernel_rfl
theorem cells_term : Go.Proofs.Try.prog.cellsOf 24 = 3 := by kernel_rfl
theorem cells_terms : Go.Proofs.Try.prog.cellsOf 22 = 1 := by kernel_rfl
theorem cells_arg : Go.Proofs.Try.prog.cellsOf 38 = 7 := by kernel_rfl
theorem cells_args : Go.Proofs.Try.prog.cellsOf 39 = 1 := by kernel_rfl
theorem cells_sort : Go.Proofs.Try.prog.cellsOf 49 = 6 := by kernel_rfl
theorem cells_sorts : Go.Proofs.Try.prog.cellsOf 25 = 1 := by kernel_rfl
theorem cells_con : Go.Proofs.Try.prog.cellsOf 41 = 6 := by kernel_rfl
theorem cells_cons : Go.Proofs.Try.prog.cellsOf 26 = 1 := by kernel_rfl
theorem cells_block : Go.Proofs.Try.prog.cellsOf 28 = 3 := by kernel_rfl
theorem cells_decl : Go.Proofs.Try.prog.cellsOf 30 = 10 := by kernel_rfl
abbrev trd (enc : TypeId × Value → H) (W : World) (fuel : Nat) (t : TypeId) (cs : List Value) (x : DataW H × List MemPlace) : Prop := DataW.trod enc Go.Proofs.Try.prog W 0 (fun _ => true) true fuel t cs = some x
theorem rd_term : ∀ (N fuel : Nat) (cs : List Value) (x : DataW H × List MemPlace), trd enc W fuel 24 cs x → uptoBulk x.1 ≤ N → ∃ t : Tm, All2 (RI W (I0 W)) t.cs cs ∧ t.size ≤ uptoBulk x.1 := by
  intro N
  induction N with
  | zero =>
    intro fuel cs x h hN
    obtain ⟨xs, n, rfl, hx, _⟩ := DataW.trod_struct Go.Proofs.Try.underlying24 h
    rw [hx] at hN
    simp [uptoBulk] at hN
  | succ N ih =>
    intro fuel cs x h hN
    obtain ⟨xs, n, rfl, hx, hl, hxl, hf⟩ := DataW.trod_struct Go.Proofs.Try.underlying24 h
    rw [cells_term] at hl
    match cs, hl, xs, hxl, hf with
    | [c0, c1, c2], _, [x0, x1, x2], _, hf =>
      have f0 := hf 0 _ rfl
      have f1 := hf 1 _ rfl
      have f2 := hf 2 _ rfl
      simp [cells_int, cells_terms] at f0 f1 f2
      obtain ⟨k, e0, b0, _⟩ := rd_int Go.Proofs.Try.underlying3 f0
      obtain ⟨m, e1, b1, _⟩ := rd_int Go.Proofs.Try.underlying3 f1
      have hb : uptoBulk x.1 = uptoBulk x0.1 + (uptoBulk x1.1 + (uptoBulk x2.1 + 0)) + 1 := by rw [hx]; simp [uptoBulk, uptoBulkAll]
      rw [b0, b1, bulk_lit_int, bulk_lit_int] at hb
      obtain ⟨l, v, e2, r2, z2⟩ := rd_slice Tm.cs Tm.size sizes rfl (fun _ _ => rfl) Go.Proofs.Try.underlying22 cells_term (by omega) f2 (fun n cs' y hy hty => ih n cs' y hty (by omega))
      cases e0
      cases e1
      cases e2
      refine ⟨.mk k m l, ?_, ?_⟩
      · rw [cs_eq]
        simp only [Tm.k_mk, Tm.n_mk, Tm.kids_mk, css_map]
        exact .cons (.int _ _) (.cons (.int _ _) (.cons r2 .nil))
      · rw [Tm.size_eq]; simp only [Tm.kids_mk]; omega
theorem rd_terms {fuel : Nat} {cs : List Value} {x : DataW H × List MemPlace} (h : trd enc W fuel 22 cs x) : ∃ (l : List Tm) (v : Value), cs = [v] ∧ RI W (I0 W) (.sl .plain 3 (css l)) v ∧ sizes l + 1 ≤ uptoBulk x.1 := by
  obtain ⟨l, v, e, r, z⟩ := rd_slice Tm.cs Tm.size sizes rfl (fun _ _ => rfl) Go.Proofs.Try.underlying22 cells_term (by omega) h (fun n cs' y hy hty => rd_term _ n cs' y hty (Nat.le_refl _))
  exact ⟨l, v, e, by rw [css_map]; exact r, z⟩
instance : Inhabited Ag := ⟨⟨false, default, [], 0, []⟩⟩
instance : Inhabited Srt := ⟨⟨[], 0, false, default⟩⟩
instance : Inhabited Cn := ⟨⟨0, [], [], default⟩⟩
instance : Inhabited Blk := ⟨⟨[], [], 0⟩⟩
instance : Inhabited Dcl := ⟨⟨0, default, default, default⟩⟩
theorem rd_arg {fuel : Nat} {cs : List Value} {x : DataW H × List MemPlace} (h : trd enc W fuel 38 cs x) : ∃ a : Ag, All2 (RI W (I0 W)) a.cs cs ∧ a.size ≤ uptoBulk x.1 := by
  obtain ⟨xs, n, rfl, hx, hl, hxl, hf⟩ := DataW.trod_struct Go.Proofs.Try.underlying38 h
  rw [cells_arg] at hl
  match cs, hl, xs, hxl, hf with
  | [c0, c1, c2, c3, c4, c5, c6], _, [x0, x1, x2, x3, x4], _, hf =>
    have f0 := hf 0 _ rfl
    have f1 := hf 1 _ rfl
    have f2 := hf 2 _ rfl
    have f3 := hf 3 _ rfl
    have f4 := hf 4 _ rfl
    simp [cells_int, cells_bool, cells_term, cells_terms] at f0 f1 f2 f3 f4
    obtain ⟨r, e0, b0⟩ := rd_bool Go.Proofs.Try.underlying4 f0
    obtain ⟨t, r1, z1⟩ := rd_term _ _ _ _ f1 (Nat.le_refl _)
    obtain ⟨l2, v2, e2, r2, z2⟩ := rd_terms f2
    obtain ⟨m, e3, b3, _⟩ := rd_int Go.Proofs.Try.underlying3 f3
    obtain ⟨l4, v4, e4, r4, z4⟩ := rd_terms f4
    have hb : uptoBulk x.1 = uptoBulk x0.1 + (uptoBulk x1.1 + (uptoBulk x2.1 + (uptoBulk x3.1 + (uptoBulk x4.1 + 0)))) + 1 := by rw [hx]; simp [uptoBulk, uptoBulkAll]
    cases e0
    cases e2
    cases e3
    cases e4
    refine ⟨⟨r, t, l2, m, l4⟩, ?_, by simp only [Ag.size]; omega⟩
    simp only [Ag.cs]
    simp only [cs_eq] at r1
    exact .cons (.bool _) (All2.append (l := [_, _, _]) (m := [_, _, _]) r1 (.cons r2 (.cons (.int _ _) (.cons r4 .nil))))
theorem rd_args {fuel : Nat} {cs : List Value} {x : DataW H × List MemPlace} (h : trd enc W fuel 39 cs x) : ∃ (l : List Ag) (v : Value), cs = [v] ∧ RI W (I0 W) (.sl .plain 7 (acs l)) v ∧ agSizes l + 1 ≤ uptoBulk x.1 :=
  rd_slice Ag.cs Ag.size agSizes rfl (fun _ _ => rfl) Go.Proofs.Try.underlying39 cells_arg (by omega) h (fun n cs' y hy hty => rd_arg hty)
theorem rd_sort {fuel : Nat} {cs : List Value} {x : DataW H × List MemPlace} (h : trd enc W fuel 49 cs x) : ∃ a : Srt, All2 (RI W (I0 W)) a.cs cs ∧ a.size ≤ uptoBulk x.1 := by
  obtain ⟨xs, n, rfl, hx, hl, hxl, hf⟩ := DataW.trod_struct Go.Proofs.Try.underlying49 h
  rw [cells_sort] at hl
  match cs, hl, xs, hxl, hf with
  | [c0, c1, c2, c3, c4, c5], _, [x0, x1, x2, x3], _, hf =>
    have f0 := hf 0 _ rfl
    have f1 := hf 1 _ rfl
    have f2 := hf 2 _ rfl
    have f3 := hf 3 _ rfl
    simp [cells_int, cells_bool, cells_term, cells_args] at f0 f1 f2 f3
    obtain ⟨l0, v0, e0, r0, z0⟩ := rd_args f0
    obtain ⟨m, e1, b1, _⟩ := rd_int Go.Proofs.Try.underlying3 f1
    obtain ⟨r, e2, b2⟩ := rd_bool Go.Proofs.Try.underlying4 f2
    obtain ⟨t, r3, z3⟩ := rd_term _ _ _ _ f3 (Nat.le_refl _)
    have hb : uptoBulk x.1 = uptoBulk x0.1 + (uptoBulk x1.1 + (uptoBulk x2.1 + (uptoBulk x3.1 + 0))) + 1 := by rw [hx]; simp [uptoBulk, uptoBulkAll]
    rw [b1, b2, bulk_lit_int] at hb
    have hbb : uptoBulk (DataW.lit (H := H) (.bool r)) = 1 := by simp [uptoBulk]
    rw [hbb] at hb
    cases e0
    cases e1
    cases e2
    refine ⟨⟨l0, m, r, t⟩, ?_, by simp only [Srt.size]; omega⟩
    simp only [Srt.cs]
    simp only [cs_eq] at r3
    exact .cons r0 (.cons (.int _ _) (.cons (.bool _) r3))
theorem rd_sorts {fuel : Nat} {cs : List Value} {x : DataW H × List MemPlace} (h : trd enc W fuel 25 cs x) : ∃ (l : List Srt) (v : Value), cs = [v] ∧ RI W (I0 W) (.sl .plain 6 (scs l)) v ∧ srtSizes l + 1 ≤ uptoBulk x.1 :=
  rd_slice Srt.cs Srt.size srtSizes rfl (fun _ _ => rfl) Go.Proofs.Try.underlying25 cells_sort (by omega) h (fun n cs' y hy hty => rd_sort hty)
theorem rd_con {fuel : Nat} {cs : List Value} {x : DataW H × List MemPlace} (h : trd enc W fuel 41 cs x) : ∃ a : Cn, All2 (RI W (I0 W)) a.cs cs ∧ a.size ≤ uptoBulk x.1 := by
  obtain ⟨xs, n, rfl, hx, hl, hxl, hf⟩ := DataW.trod_struct Go.Proofs.Try.underlying41 h
  rw [cells_con] at hl
  match cs, hl, xs, hxl, hf with
  | [c0, c1, c2, c3, c4, c5], _, [x0, x1, x2, x3], _, hf =>
    have f0 := hf 0 _ rfl
    have f1 := hf 1 _ rfl
    have f2 := hf 2 _ rfl
    have f3 := hf 3 _ rfl
    simp [cells_int, cells_bool, cells_term, cells_terms, cells_args] at f0 f1 f2 f3
    obtain ⟨m, e0, b0, _⟩ := rd_int Go.Proofs.Try.underlying3 f0
    obtain ⟨l1, v1, e1, r1, z1⟩ := rd_args f1
    obtain ⟨l2, v2, e2, r2, z2⟩ := rd_terms f2
    obtain ⟨t, r3, z3⟩ := rd_term _ _ _ _ f3 (Nat.le_refl _)
    have hb : uptoBulk x.1 = uptoBulk x0.1 + (uptoBulk x1.1 + (uptoBulk x2.1 + (uptoBulk x3.1 + 0))) + 1 := by rw [hx]; simp [uptoBulk, uptoBulkAll]
    rw [b0, bulk_lit_int] at hb
    cases e0
    cases e1
    cases e2
    refine ⟨⟨m, l1, l2, t⟩, ?_, by simp only [Cn.size]; omega⟩
    simp only [Cn.cs]
    simp only [cs_eq] at r3
    exact .cons (.int _ _) (.cons r1 (.cons r2 r3))
theorem rd_cons {fuel : Nat} {cs : List Value} {x : DataW H × List MemPlace} (h : trd enc W fuel 26 cs x) : ∃ (l : List Cn) (v : Value), cs = [v] ∧ RI W (I0 W) (.sl .plain 6 (ccs l)) v ∧ cnSizes l + 1 ≤ uptoBulk x.1 :=
  rd_slice Cn.cs Cn.size cnSizes rfl (fun _ _ => rfl) Go.Proofs.Try.underlying26 cells_con (by omega) h (fun n cs' y hy hty => rd_con hty)
theorem rd_block {fuel : Nat} {cs : List Value} {x : DataW H × List MemPlace} (h : trd enc W fuel 28 cs x) : ∃ a : Blk, All2 (RI W (I0 W)) a.cs cs ∧ a.size ≤ uptoBulk x.1 := by
  obtain ⟨xs, n, rfl, hx, hl, hxl, hf⟩ := DataW.trod_struct Go.Proofs.Try.underlying28 h
  rw [cells_block] at hl
  match cs, hl, xs, hxl, hf with
  | [c0, c1, c2], _, [x0, x1, x2], _, hf =>
    have f0 := hf 0 _ rfl
    have f1 := hf 1 _ rfl
    have f2 := hf 2 _ rfl
    simp [cells_int, cells_sorts, cells_cons] at f0 f1 f2
    obtain ⟨l0, v0, e0, r0, z0⟩ := rd_sorts f0
    obtain ⟨l1, v1, e1, r1, z1⟩ := rd_cons f1
    obtain ⟨m, e2, b2, _⟩ := rd_int Go.Proofs.Try.underlying3 f2
    have hb : uptoBulk x.1 = uptoBulk x0.1 + (uptoBulk x1.1 + (uptoBulk x2.1 + 0)) + 1 := by rw [hx]; simp [uptoBulk, uptoBulkAll]
    cases e0
    cases e1
    cases e2
    refine ⟨⟨l0, l1, m⟩, ?_, by simp only [Blk.size]; omega⟩
    simp only [Blk.cs]
    exact .cons r0 (.cons r1 (.cons (.int _ _) .nil))
theorem rd_decl {fuel : Nat} {cs : List Value} {x : DataW H × List MemPlace} (h : trd enc W fuel 30 cs x) : ∃ a : Dcl, All2 (RI W (I0 W)) a.cs cs ∧ a.size ≤ uptoBulk x.1 := by
  obtain ⟨xs, n, rfl, hx, hl, hxl, hf⟩ := DataW.trod_struct Go.Proofs.Try.underlying30 h
  rw [cells_decl] at hl
  match cs, hl, xs, hxl, hf with
  | [c0, c1, c2, c3, c4, c5, c6, c7, c8, c9], _, [x0, x1, x2, x3], _, hf =>
    have f0 := hf 0 _ rfl
    have f1 := hf 1 _ rfl
    have f2 := hf 2 _ rfl
    have f3 := hf 3 _ rfl
    simp [cells_int, cells_term, cells_block] at f0 f1 f2 f3
    obtain ⟨m, e0, b0, _⟩ := rd_int Go.Proofs.Try.underlying3 f0
    obtain ⟨t1, r1, z1⟩ := rd_term _ _ _ _ f1 (Nat.le_refl _)
    obtain ⟨t2, r2, z2⟩ := rd_term _ _ _ _ f2 (Nat.le_refl _)
    obtain ⟨t3, r3, z3⟩ := rd_block f3
    have hb : uptoBulk x.1 = uptoBulk x0.1 + (uptoBulk x1.1 + (uptoBulk x2.1 + (uptoBulk x3.1 + 0))) + 1 := by rw [hx]; simp [uptoBulk, uptoBulkAll]
    cases e0
    refine ⟨⟨m, t1, t2, t3⟩, ?_, by simp only [Dcl.size]; omega⟩
    simp only [Dcl.cs]
    simp only [cs_eq] at r1 r2
    simp only [Blk.cs] at r3
    exact .cons (.int _ _) (All2.append (l := [_, _, _]) (m := [_, _, _]) r1 (All2.append (l := [_, _, _]) (m := [_, _, _]) r2 r3))
theorem rd_decls {fuel : Nat} {cs : List Value} {x : DataW H × List MemPlace} (h : trd enc W fuel 51 cs x) : ∃ (l : List Dcl) (v : Value), cs = [v] ∧ RI W (I0 W) (.sl .plain 10 (dcs l)) v ∧ dclSizes l + 1 ≤ uptoBulk x.1 :=
  rd_slice Dcl.cs Dcl.size dclSizes rfl (fun _ _ => rfl) Go.Proofs.Try.underlying51 cells_decl (by omega) h (fun n cs' y hy hty => rd_decl hty)
end
end Go.Px.B
/- The row's end behind a call that left all that there was as it was. -/
set_option linter.unusedVariables false
namespace Go.Px.B
open Go Go.ChangeShapes Go.WideShapes Go.ChangeAt Go.RowKit
section
variable {H : Type} {enc : TypeId × Value → H} {P : Program}
theorem stays_all (hl : laidOutB P = true) {W W' : World} (hb : Below W.heap.size W W') (sp : Nat → Bool) : ∀ {ts : List TypeId} {vs : List Value} {ds : List (DataW H)} {ps : List MemPlace}, (ts.all fun t => P.readableRec t && decide (t < P.types.size)) = true →
    DataW.TrodAll enc P W 0 (fun _ => true) true ts vs ds ps → (∀ x ∈ ps, x.block < W.heap.size) → (∀ x ∈ ps, sp x.block = true) → DataW.TrodAll enc P W' 0 sp true ts vs ds ps
  | [], [], [], _, _, h, _, _ => h
  | t :: ts, v :: vs, d :: ds, ps, ht, ⟨p, q, h1, h2, e⟩, hlt, hsp => by
    subst e
    simp only [List.all_cons, Bool.and_eq_true, decide_eq_true_eq] at ht
    exact ⟨p, q, WideElems.Trod_stays hl ht.1.1 ht.1.2 h1 (fun x hx => hb.same (hlt x (by simp [hx]))) (fun x hx => hsp x (by simp [hx])),
      stays_all hl hb sp ht.2 h2 (fun x hx => hlt x (by simp [hx])) (fun x hx => hsp x (by simp [hx])), rfl⟩
/-- behind a call that left all that there was as it was -/
theorem post_grown {f : Func} {s : ChangeSpec} {apart fresh handsOn again : Bool} {W W' : World} {args : Array Value} {v : Value} {ds gs : List (DataW H)} {before pa pv : List MemPlace}
    (hW : DataW.Whole enc P f.params.toList s.vars apart W args.toList ds gs before)
    (hres : ∀ (b : Nat) (sp : Nat → Bool) (hd : Bool), DataW.TrodAll enc P W' b sp hd f.resultTypes.toList (v.resultList f.resultTypes.size) (s.fn H (ds ++ gs)).results [])
    (hargs : ∀ sp : Nat → Bool, (∀ x ∈ before, sp x.block = true) → DataW.TrodAll enc P W' 0 sp true f.params.toList args.toList (s.fn H (ds ++ gs)).args pa)
    (hvars : ∀ sp : Nat → Bool, DataW.TrodVars enc P W' sp s.vars (s.fn H (ds ++ gs)).vars pv)
    (hps : before = pa ++ pv) (hb : Below W.heap.size W W')
    (hok : ∀ (j : Nat) (t : TypeId) (r : Value), f.resultTypes[j]? = some t → (v.resultList f.resultTypes.size)[j]? = some r → Value.okWide P W' .any 0 t r) :
    s.post enc P f apart fresh handsOn again W args v W' := by
  have hlt : ∀ x ∈ before, x.block < W.heap.size := fun x hx => hW.lt x hx
  have hold : ∀ x ∈ before, (fun b => decide (b < W.heap.size)) x.block = true := fun x hx => by simpa using hlt x hx
  refine ⟨ds, gs, before, [], pa, pv, hW, hres _ _ _, hargs _ hold, hvars _, World.keptBut_mono (fun x hx => ⟨hx, ?_⟩) (hb.frame (· ∈ before)), fun _ => ?_⟩
  · rw [hps, List.mem_append] at hx
    exact Or.inr hx
  · obtain ⟨_, _, _, _, _, hz, hn⟩ := hW
    refine ⟨hok, _, _, ([] ++ pa) ++ pv, ⟨[] ++ pa, pv, trodAll_append (hargs _ (fun _ _ => rfl)) (hres _ _ _), hvars _, rfl, ?_, ?_⟩, ?_⟩
    · intro b off hp
      have hin : MemPlace.cell b off ∈ before := by rw [hps]; simpa using hp
      rw [hb.frozen (hlt _ hin)]
      exact hz b off hin
    · intro ha
      have := hn ha
      rw [hps] at this
      simpa using this
    · intro x hx _
      rw [hps]
      simpa using hx
/-- the law's end: true, and all reads as it did -/
theorem post_law (hl : laidOutB P = true) {f : Func} {s : ChangeSpec} {W W' : World} {args : Array Value} {ds gs : List (DataW H)} {before : List MemPlace} {tb : TypeId}
    (hW : DataW.Whole enc P f.params.toList s.vars false W args.toList ds gs before) (hv : s.vars = []) (hr : f.resultTypes = #[tb]) (htb : P.underlying tb = some .bool)
    (hread : (f.params.toList.all fun t => P.readableRec t && decide (t < P.types.size)) = true)
    (hfn : s.fn H ds = { results := [.lit (.bool true)], args := ds }) (hb : Below W.heap.size W W') : s.post enc P f false true false false W args (.bool true) W' := by
  have hW0 := hW
  obtain ⟨p, q, hA, hV, rfl, hfz, hnd⟩ := hW
  have hV0 := hV
  rw [hv] at hV
  obtain ⟨rfl, rfl⟩ := trodVars_none hV
  rw [← List.append_nil ds] at hfn
  have hlt : ∀ x ∈ p ++ [], x.block < W.heap.size := fun x hx => hW0.lt x hx
  have hold : ∀ x ∈ p ++ [], (fun b => decide (b < W.heap.size)) x.block = true := fun x hx => by simpa using hlt x hx
  have hres : ∀ (b : Nat) (sp : Nat → Bool) (hd : Bool), DataW.TrodAll enc P W' b sp hd f.resultTypes.toList ((Value.bool true).resultList f.resultTypes.size) (s.fn H (ds ++ [])).results [] := by
    intro b sp hd
    rw [hfn, hr]
    exact trodAll_cons_mk (shut_bool htb _) trodAll_mk0
  have hargs : ∀ sp : Nat → Bool, (∀ x ∈ p ++ [], sp x.block = true) → DataW.TrodAll enc P W' 0 sp true f.params.toList args.toList (s.fn H (ds ++ [])).args p := by
    intro sp hsp
    rw [hfn]
    simp only [List.append_nil]
    exact stays_all hl hb sp hread hA (fun x hx => hlt x (by simp [hx])) (fun x hx => hsp x (by simp [hx]))
  have hvars : ∀ sp : Nat → Bool, DataW.TrodVars enc P W' sp s.vars (s.fn H (ds ++ [])).vars [] := by
    intro sp
    rw [hfn, hv]
    rfl
  have hok : ∀ (j : Nat) (t : TypeId) (r : Value), f.resultTypes[j]? = some t → ((Value.bool true).resultList f.resultTypes.size)[j]? = some r → Value.okWide P W' .any 0 t r :=
    ok_one hr rfl (okWide_bool_mk htb _)
  exact post_grown (pa := p) (pv := []) hW0 hres hargs hvars rfl hb hok
end
end Go.Px.B
/- From the small language to the given rows. -/
set_option maxRecDepth 100000
set_option linter.unusedVariables false
set_option linter.unusedSimpArgs false
namespace Go.Px.B
open Go Go.Px Go.ChangeShapes Go.WideShapes Go.ChangeAt Go.RowKit Go.Deep

theorem lk_all {P : Nat → MFun → Bool} : ∀ {l : List (Nat × MFun)} {f : Nat} {m : MFun}, (l.all fun x => P x.1 x.2) = true → lk l f = some m → P f m = true
  | (g, n) :: r, f, m, h, he => by
    simp only [List.all_cons, Bool.and_eq_true] at h
    simp only [lk] at he
    split at he
    · rename_i hb
      cases he
      rw [← Nat.eq_of_beq_eq_true hb]
      exact h.1
    · exact lk_all h.2 he
/-- a system of a table of functions -/
def sysOf (tab : List (Nat × MFun)) : Sys := ⟨fun _ _ _ => none, lk tab⟩
theorem sysOf_ok {P : Program} {tab : List (Nat × MFun)} (h : (tab.all fun x => funOk P x.1 x.2) = true) : SysOk P (sysOf tab) :=
  ⟨fun f args objs r o he => by simp [sysOf] at he, fun f mf he => lk_all h he⟩
theorem sysOf_has (tab : List (Nat × MFun)) : Has (sysOf tab) tab := ⟨fun f m h => ⟨h, fun _ _ => rfl⟩⟩

/-! ### a call, from a world of which nothing is owned -/
def gh0 (W : World) : Gh := ⟨fun _ => 0, fun _ => .bool true, I0 W⟩
theorem hr0 (W : World) : HR (gh0 W) W (objAt []) where
  cells i cs h := by simp at h
  arr i e es h := by simp at h
  frz i e es h := by simp at h
  tok i t e n h := by simp at h
  apart i j b hij h := by simp [ownBlk] at h
  fresh b hb := by
    show I0 W b = 0
    unfold I0
    rw [Array.getElem?_eq_none hb]
theorem rc_of_ri {W : World} {H : Nat → Px.Obj} {p : PV} {v : Value} (h : RI W (I0 W) p v) (hp : p.imm = some p) : RC (gh0 W) W H p v := by
  cases h with
  | int k n => rfl
  | bool b => rfl
  | nilp => rfl
  | fn f => exact ⟨#[], rfl, .nil⟩
  | sl esz es a n c u hn hw hm hc ha hu => exact .sl esz es a n c u hn hw hm hc ha hu
theorem call_below {P : Program} {S : Sys} (hs : SysOk P S) {f : Nat} {pvs : List PV} {b : Bool} (hc : call S f pvs [] = some (.bool b, [])) {W : World} {args : Array Value} (ha : All2 (R (gh0 W) W (objAt [])) pvs args.toList) :
    Calls P f args W fun e W' => e = .returned (.bool b) ∧ Below W.heap.size W W' := by
  refine ((call_sound hs f pvs [] _ _ hc).2 W (gh0 W) args (hr0 W) ha).mono fun e W' h => ?_
  obtain ⟨v, g', rfl, _, hr, hst⟩ := h
  obtain rfl : v = .bool b := hr
  exact ⟨rfl, hst.os, hst.tape, hst.output, hst.size, fun k hk => (hst.block k hk fun i => by simp [ownBlk]).1⟩

theorem wf_u8 {n : Int} (h : (Lit.int .u8 n).wf = true) : 0 ≤ n ∧ n ≤ 255 := by
  simpa [Lit.wf, IntKind.min, IntKind.max, IntKind.signed, IntKind.bits] using h
theorem rcs_of_ris {W : World} {H : Nat → Px.Obj} {ps : List PV} {vs : List Value} (h : All2 (RI W (I0 W)) ps vs) (hp : ∀ p ∈ ps, p.imm = some p) : All2 (RC (gh0 W) W H) ps vs :=
  h.mono fun p v hm hr => rc_of_ri hr (hp p hm)
end Go.Px.B
/- The functions' texts are the program's: checked by the kernel. -/
set_option maxRecDepth 100000
namespace Go.Px.B
open Go Go.Px
theorem tabA_ok : (tabA.all fun x => funOk Go.Proofs.Try.prog x.1 x.2) = true := by kernel_rfl
theorem sysA_ok : SysOk Go.Proofs.Try.prog (sysOf tabA) := sysOf_ok tabA_ok
theorem own : ownKnob Go.Proofs.Try.prog.godebug = none := by kernel_rfl
theorem laidOut : laidOutB Go.Proofs.Try.prog = true := by kernel_rfl
end Go.Px.B
