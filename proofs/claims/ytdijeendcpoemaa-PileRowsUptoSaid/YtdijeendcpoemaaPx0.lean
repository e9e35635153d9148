/- The small language and its proofs, part 0. -/
import Derived.Orders
import Derived.Laws.AppendOwn
import Derived.Laws.Entries
import Derived.Laws.Cells
import Derived.Laws.MakeOwn
import Derived.LaidEql
import Derived.Laws.Cover3
import Derived.Lib.SliceRun
import Derived.Deep.Heap
set_option linter.all false
set_option linter.unusedVariables false
set_option linter.unusedSimpArgs false
set_option linter.unusedSectionVars false
/- The small language into which the program's functions are turned, and its evaluator over plain values: definitions alone. -/
namespace Go.Px
open Go

/-! ### values -/
/-- Whose is a slice: `plain`: it is read alone; `nil`: Go's nil; `tok i`: object `i` tells how long the row is that may be appended to. -/
inductive Tag where
  | plain | nil
  | tok (i : Nat)

inductive PV where
  | int (k : IntKind) (n : Int)
  | bool (b : Bool)
  | nilp
  | und
  | bad
  | ptr (i off : Nat)
  | aptr (i esz idx off : Nat)
  | warr (i esz n : Nat)
  | view (cs : List PV)
  | sl (t : Tag) (esz : Nat) (es : List (List PV))
  | fn (f : Nat) (caps : List PV)
  | agg (cs : List PV)
  | tup (vs : List PV)
instance : Inhabited PV := ⟨.bad⟩

inductive Obj where
  | free | gone
  | cells (cs : List PV)
  | arr (esz : Nat) (es : List (List PV))
  | frz (esz : Nat) (es : List (List PV))
  | tok (ty esz n : Nat)
instance : Inhabited Obj := ⟨.free⟩

/-- m: how many objects the caller lent (they are never let go) -/
structure St where
  T : Nat → PV
  H : Nat → Obj
  m : Nat

def upd {α : Type} (f : Nat → α) (d : Nat) (v : α) : Nat → α := fun e => if e = d then v else f e
def ofL : List (Nat × PV) → Nat → PV
  | [], _ => .bad
  | (d, v) :: r, e => if e = d then v else ofL r e
def ofH : List (Nat × Obj) → Nat → Obj
  | [], _ => .free
  | (d, v) :: r, e => if e = d then v else ofH r e
/-- objects by their place -/
def objAt (l : List Obj) : Nat → Obj := fun i => l.getD i .free

def PV.cellsOf : PV → List PV
  | .agg cs => cs
  | p => [p]
def PV.isCell : PV → Bool
  | .agg _ | .tup _ | .und | .bad => false
  | _ => true
/-- what an element of a row that nobody changes may be -/
def PV.imm : PV → Option PV
  | .int k n => some (.int k n)
  | .bool b => some (.bool b)
  | .nilp => some .nilp
  | .fn f [] => some (.fn f [])
  | .sl _ e es => some (.sl .plain e es)
  | _ => none
def imms : List PV → Option (List PV)
  | [] => some []
  | p :: r => match p.imm, imms r with
    | some q, some s => some (q :: s)
    | _, _ => none
def mkV (ag : Bool) (cs : List PV) : Option PV :=
  if ag then some (.agg cs) else match cs with
    | [p] => some p
    | _ => none
def allCells : List PV → Bool
  | [] => true
  | p :: r => p.isCell && allCells r

/-! ### references -/
def PV.ref0 : PV → List Nat
  | .ptr i _ => [i]
  | .aptr i _ _ _ => [i]
  | .warr i _ _ => [i]
  | .sl (.tok i) _ _ => [i]
  | _ => []
def PV.ref1 : PV → List Nat
  | .fn _ caps => caps.flatMap PV.ref0
  | p => p.ref0
def PV.refs2 : PV → List Nat
  | .agg cs => cs.flatMap PV.ref1
  | p => p.ref1
def PV.refs : PV → List Nat
  | .tup vs => vs.flatMap PV.refs2
  | p => p.refs2
def Obj.refs : Obj → List Nat
  | .cells cs => cs.flatMap PV.ref1
  | _ => []
def memb (i : Nat) : List Nat → Bool
  | [] => false
  | j :: r => if i = j then true else memb i r
def allIn (l hl : List Nat) : Bool := l.all fun i => memb i hl
/-- a value whose objects are all kept; else nothing is known of it -/
def keepV (hl : List Nat) : PV → PV
  | .sl (.tok i) e es => if memb i hl then .sl (.tok i) e es else .sl .plain e es
  | p => if allIn p.refs hl then p else .bad

/-! ### operands -/
inductive Opd where
  | t (d : Nat)
  | c (p : PV)
def Opd.ev (T : Nat → PV) : Opd → PV
  | .t d => T d
  | .c p => p

/-! ### numbers -/
def binI (op : BinOp) (k : IntKind) (x y : Int) : Option PV :=
  match op with
  | .add => some (.int k (k.wrap (x + y)))
  | .sub => some (.int k (k.wrap (x - y)))
  | .mul => some (.int k (k.wrap (x * y)))
  | .quo => if y = 0 then none else some (.int k (k.wrap (x.tdiv y)))
  | .rem => if y = 0 then none else some (.int k (x.tmod y))
  | .eql => some (.bool (x == y))
  | .neq => some (.bool (x != y))
  | .lss => some (.bool (decide (x < y)))
  | .leq => some (.bool (decide (x ≤ y)))
  | .gtr => some (.bool (decide (x > y)))
  | .geq => some (.bool (decide (x ≥ y)))
  | .shl => if y < 0 then none else some (.int k (k.wrap (x * 2 ^ min y.toNat k.bits)))
  | .shr => if y < 0 then none else some (.int k (x.fdiv (2 ^ min y.toNat k.bits)))
  | .or => some (.int k (k.wrap (BitVec.ofInt k.bits x ||| BitVec.ofInt k.bits y).toNat))
  | .and => some (.int k (k.wrap (BitVec.ofInt k.bits x &&& BitVec.ofInt k.bits y).toNat))
  | _ => none
/-- shifts may have operands of two kinds -/
def BinOp.shifts : BinOp → Bool
  | .shl | .shr => true
  | _ => false
def evBin (op : BinOp) : PV → PV → Option PV
  | .int k x, .int k' y => if BinOp.shifts op then binI op k x y else if k = k' then binI op k x y else none
  | _, _ => none

/-! ### operations -/
inductive Callee' where
  | f (n : Nat)
  | v (x : Opd)

/-- what only reads -/
inductive POp where
  | mv (x : Opd)
  | pick (c a b : Opd)
  | bld (zs : List PV) (ps : List (Nat × Nat × Opd))
  | ld (n : Nat) (ag : Bool) (x : Opd)
  | nilc (x : Opd)
  | bin (op : BinOp) (x y : Opd)
  | beq (neg : Bool) (x y : Opd)
  | not (x : Opd)
  | cvt (k : IntKind) (x : Opd)
  | slc (esz : Nat) (x : Opd) (lo hi : Option Opd)
  | fa (x : Opd) (off : Nat)
  | fld (n : Nat) (ag : Bool) (x : Opd) (off : Nat)
  | ia (esz : Nat) (x i : Opd)
  | ext (x : Opd) (i : Nat)
  | len (x : Opd)
  | mm (mx : Bool) (x y : Opd)
  | mkf (f : Nat) (caps : List Opd)
  | isnil (neg : Bool) (x : Opd)
  | lda (i n : Nat) (ag : Bool) (x : Opd)
  | ldv (n : Nat) (ag : Bool) (x : Opd)
inductive MOp where
  | p (d : Nat) (o : POp)
  | box (d s n : Nat) (x : Opd)
  | alloc (d s : Nat) (zs : List PV)
  | bsl (d s ty esz : Nat) (xs : List Opd)
  | st (n : Nat) (x v : Opd)
  | mks (d s esz bytes : Nat) (zs : List PV) (x : Opd)
  | app (d s ty esz bytes : Nat) (x y : Opd)
  | call (d : Option Nat) (s : Nat) (lend : Bool) (f : Callee') (args : List (Opd × Bool))
  | g (j : Nat) (b : Bool) (d : Option Nat) (o : MOp)
  | chk (is : List Nat) (o : MOp)

/-- a pointer of which one may read -/
def ldV (H : Nat → Obj) (n : Nat) (ag : Bool) : PV → Option PV
  | .ptr i off => match H i with
    | .cells cs => if off + n ≤ cs.length then mkV ag ((cs.drop off).take n) else none
    | _ => none
  | .view cs => if n ≤ cs.length then mkV ag (cs.take n) else none
  | .aptr i esz idx off => match H i with
    | .arr e es => if e = esz then match es[idx]? with
        | some cs => if off + n ≤ cs.length then mkV ag ((cs.drop off).take n) else none
        | none => none
      else none
    | .frz e es => if e = esz then match es[idx]? with
        | some cs => if off + n ≤ cs.length then mkV ag ((cs.drop off).take n) else none
        | none => none
      else none
    | _ => none
  | _ => none
def stV (H : Nat → Obj) (n : Nat) (x v : PV) : Option (Nat → Obj) :=
  match x with
  | .ptr i off => match H i with
    | .cells cs => if v.cellsOf.length = n ∧ off + n ≤ cs.length ∧ allCells v.cellsOf = true then
        some (upd H i (.cells (cs.take off ++ (v.cellsOf ++ cs.drop (off + n))))) else none
    | _ => none
  | .aptr i esz idx off => match H i, imms v.cellsOf with
    | .arr e es, some vs => if e = esz ∧ vs.length = n then match es[idx]? with
        | some cs => if off + n ≤ cs.length then some (upd H i (.arr e (es.set idx (cs.take off ++ (vs ++ cs.drop (off + n)))))) else none
        | none => none
      else none
    | _, _ => none
  | _ => none
def faV (off : Nat) : PV → Option PV
  | .ptr i o => some (.ptr i (o + off))
  | .view cs => if off ≤ cs.length then some (.view (cs.drop off)) else none
  | .aptr i e x o => some (.aptr i e x (o + off))
  | _ => none
def iaV (esz : Nat) : PV → PV → Option PV
  | .sl _ e es, .int _ i => if e = esz ∧ 0 ≤ i then (es[i.toNat]?).map .view else none
  | .warr a e n, .int _ i => if e = esz ∧ 0 ≤ i ∧ i < (n : Int) then some (.aptr a e i.toNat 0) else none
  | _, _ => none
def lenV : PV → Option PV
  | .sl _ _ es => some (.int .i64 (es.length : Int))
  | .warr _ _ n => some (.int .i64 (n : Int))
  | _ => none
def slcV (esz : Nat) (x : PV) (lo hi : Option PV) : Option PV :=
  match x with
  | .sl _ e es =>
    let h : Option Int := match hi with
      | none => some (es.length : Int)
      | some (.int _ h) => some h
      | _ => none
    let l : Option Int := match lo with
      | none => some 0
      | some (.int _ l) => some l
      | _ => none
    match l, h with
    | some l, some h => if e = esz ∧ 0 ≤ l ∧ l ≤ h ∧ h ≤ (es.length : Int) then some (.sl .plain e ((es.take h.toNat).drop l.toNat)) else none
    | _, _ => none
  | _ => none
def putAt (cs : List PV) : List (Nat × List PV) → Option (List PV)
  | [] => some cs
  | (off, vs) :: r => if off + vs.length ≤ cs.length then putAt (cs.take off ++ (vs ++ cs.drop (off + vs.length))) r else none
def partsOf (T : Nat → PV) : List (Nat × Nat × Opd) → Option (List (Nat × List PV))
  | [] => some []
  | (off, n, x) :: r => if (x.ev T).cellsOf.length = n ∧ allCells (x.ev T).cellsOf = true then (partsOf T r).map ((off, (x.ev T).cellsOf) :: ·) else none
def elemsOf (T : Nat → PV) (esz : Nat) : List Opd → Option (List (List PV))
  | [] => some []
  | x :: r => match imms (x.ev T).cellsOf, elemsOf T esz r with
    | some vs, some s => if vs.length = esz then some (vs :: s) else none
    | _, _ => none
def appLim : Nat := 140737488355328
def appV (H : Nat → Obj) (s ty esz bytes : Nat) : PV → PV → Option (PV × (Nat → Obj))
  | .sl tg e es, .sl _ e' es' =>
    if (e = esz ∨ es = []) ∧ (e' = esz ∨ es' = []) ∧ (es.length + es'.length) * bytes ≤ appLim then
      match tg with
      | .nil => match H s with
        | .free => if es = [] then some (.sl (.tok s) esz es', upd H s (.tok ty esz es'.length)) else none
        | _ => none
      | .tok i => match H i with
        | .tok ty2 e2 n => if ty2 = ty ∧ e2 = esz ∧ e = esz ∧ n = es.length then some (.sl (.tok i) esz (es ++ es'), upd H i (.tok ty esz (es.length + es'.length))) else none
        | _ => none
      | .plain => none
    else none
  | _, _ => none

/-! ### calls -/
/-- without the right to append, if that isn't handed over -/
def strip0 : PV → PV
  | .sl _ e es => .sl .plain e es
  | p => p
def strip (own : Bool) (p : PV) : PV :=
  if own then p else match p with
    | .agg cs => .agg (cs.map strip0)
    | p => strip0 p
def reach (H : Nat → Obj) : Nat → List Nat → List Nat → Option (List Nat)
  | 0, _, _ => none
  | _ + 1, [], found => some found
  | k + 1, i :: rest, found =>
    if memb i found then reach H k rest found else
      match H i with
      | .cells cs => reach H k (rest ++ cs.flatMap PV.ref1) (found ++ [i])
      | .tok _ _ _ => reach H k rest (found ++ [i])
      | .gone => reach H k rest (found ++ [i])
      | _ => none
def posOf (i : Nat) : List Nat → Option Nat
  | [] => none
  | j :: r => if i = j then some 0 else (posOf i r).map (· + 1)
def mapO {α β : Type} (f : α → Option β) : List α → Option (List β)
  | [] => some []
  | a :: r => match f a, mapO f r with
    | some b, some s => some (b :: s)
    | _, _ => none
def ren0 (found : List Nat) : PV → Option PV
  | .ptr i off => (posOf i found).map (.ptr · off)
  | .sl (.tok i) e es => (posOf i found).map fun j => .sl (.tok j) e es
  | .aptr .. | .warr .. | .fn .. | .agg .. | .tup .. => none
  | p => some p
def ren1 (found : List Nat) : PV → Option PV
  | .fn f caps => (mapO (ren0 found) caps).map (.fn f)
  | p => ren0 found p
def ren2 (found : List Nat) : PV → Option PV
  | .agg cs => (mapO (ren1 found) cs).map .agg
  | p => ren1 found p
def ren (found : List Nat) : PV → Option PV
  | .tup vs => (mapO (ren2 found) vs).map .tup
  | p => ren2 found p
def renO (found : List Nat) : Obj → Option Obj
  | .cells cs => (mapO (ren1 found) cs).map .cells
  | .tok t e n => some (.tok t e n)
  | .gone => some .gone
  | _ => none
/-- the objects found, in the new numbers -/
def packH (H : Nat → Obj) (found : List Nat) : Option (List Obj) := mapO (fun i => renO found (H i)) found
def backId (found : List Nat) (s j : Nat) : Nat := if j < found.length then found.getD j 0 else s + (j - found.length)
def back0 (found : List Nat) (s : Nat) : PV → PV
  | .ptr i off => .ptr (backId found s i) off
  | .aptr i e x o => .aptr (backId found s i) e x o
  | .warr i e n => .warr (backId found s i) e n
  | .sl (.tok i) e es => .sl (.tok (backId found s i)) e es
  | p => p
def back1 (found : List Nat) (s : Nat) : PV → PV
  | .fn f caps => .fn f (caps.map (back0 found s))
  | p => back0 found s p
def back2 (found : List Nat) (s : Nat) : PV → PV
  | .agg cs => .agg (cs.map (back1 found s))
  | p => back1 found s p
def back (found : List Nat) (s : Nat) : PV → PV
  | .tup vs => .tup (vs.map (back2 found s))
  | p => back2 found s p
def backO (found : List Nat) (s : Nat) : Obj → Obj
  | .cells cs => .cells (cs.map (back1 found s))
  | o => o
/-- the objects behind a call -/
def backH (H : Nat → Obj) (found : List Nat) (s : Nat) : Nat → List Obj → (Nat → Obj)
  | _, [] => H
  | j, o :: r => upd (backH H found s (j + 1) r) (backId found s j) (backO found s o)
def nodupB : List Nat → Bool
  | [] => true
  | i :: r => !(memb i r) && nodupB r
def freeFrom (H : Nat → Obj) (s : Nat) : Nat → Bool
  | 0 => true
  | k + 1 => (match H (s + k) with | .free => true | _ => false) && freeFrom H s k

abbrev CallF := Nat → List PV → List Obj → Option (PV × List Obj)
def reachFuel : Nat := 60
def argsOf (T : Nat → PV) (l : List (Opd × Bool)) : List PV := l.map fun (x, own) => strip own (x.ev T)
def setO (T : Nat → PV) : Option Nat → PV → (Nat → PV)
  | some d, v => upd T d v
  | none, _ => T
def evCallH (C : CallF) (H : Nat → Obj) (s : Nat) (lend : Bool) (f : Nat) (vs : List PV) : Option (PV × (Nat → Obj)) :=
  match (if lend then reach H reachFuel (vs.flatMap PV.refs) [] else if (vs.flatMap PV.refs).isEmpty then some [] else none) with
  | none => none
  | some found => match mapO (ren found) vs, packH H found with
    | some args, some objs => match C f args objs with
      | none => none
      | some (r, objs') =>
        if found.length ≤ objs'.length ∧ freeFrom H s (objs'.length - found.length) = true ∧ nodupB found = true then
          some (back found s r, backH H found s 0 objs')
        else none
    | _, _ => none
def evCall (C : CallF) (σ : St) (d : Option Nat) (s : Nat) (lend : Bool) (f : Nat) (vs : List PV) : Option St :=
  (evCallH C σ.H s lend f vs).map fun x => { σ with T := setO σ.T d x.1, H := x.2 }

def allPtr : List PV → Bool
  | [] => true
  | .ptr _ 0 :: r => allPtr r
  | _ => false
def evP (T : Nat → PV) (H : Nat → Obj) : POp → Option PV
  | .mv x => some (x.ev T)
  | .pick c a b => match c.ev T with
    | .bool t => some (if t then a.ev T else b.ev T)
    | _ => none
  | .bld zs ps => match partsOf T ps with
    | some l => (putAt zs l).map .agg
    | none => none
  | .ld n ag x => ldV H n ag (x.ev T)
  | .nilc x => match x.ev T with
    | .ptr i o => some (.ptr i o)
    | .view cs => some (.view cs)
    | .aptr i e x o => some (.aptr i e x o)
    | _ => none
  | .bin op x y => evBin op (x.ev T) (y.ev T)
  | .beq neg x y => match x.ev T, y.ev T with
    | .bool a, .bool b => some (.bool (if neg then a != b else a == b))
    | _, _ => none
  | .not x => match x.ev T with
    | .bool b => some (.bool (!b))
    | _ => none
  | .cvt k x => match x.ev T with
    | .int _ n => some (.int k (k.wrap n))
    | _ => none
  | .slc esz x lo hi => slcV esz (x.ev T) (lo.map (·.ev T)) (hi.map (·.ev T))
  | .fa x off => faV off (x.ev T)
  | .fld n ag x off => match x.ev T with
    | .agg cs => if off + n ≤ cs.length then mkV ag ((cs.drop off).take n) else none
    | _ => none
  | .ia esz x i => iaV esz (x.ev T) (i.ev T)
  | .ext x i => match x.ev T with
    | .tup vs => vs[i]?
    | _ => none
  | .len x => lenV (x.ev T)
  | .mm mx x y => match x.ev T, y.ev T with
    | .int k a, .int _ b => some (.int k (if mx then (if b > a then b else a) else if b < a then b else a))
    | _, _ => none
  | .lda i n ag x => match x.ev T with
    | .ptr j off => if j = i then ldV H n ag (.ptr j off) else none
    | _ => none
  | .ldv n ag x => match x.ev T with
    | .view cs => if n ≤ cs.length then mkV ag (cs.take n) else none
    | _ => none
  | .isnil neg x => match x.ev T with
    | .sl .nil _ [] => some (.bool (!neg))
    | .sl _ _ (_ :: _) => some (.bool neg)
    | _ => none
  | .mkf f caps => if allPtr (caps.map (·.ev T)) then some (.fn f (caps.map (·.ev T))) else none

def skipTo (σ : St) : Option Nat → St
  | some d => { σ with T := upd σ.T d .und }
  | none => σ
/-- these objects are as they were -/
def awayAll (H H' : Nat → Obj) : List Nat → Prop
  | [] => True
  | i :: r => H' i = H i ∧ awayAll H H' r
open Classical in
noncomputable def evOp (C : CallF) : MOp → St → Option St
  | .p d o, σ => match evP σ.T σ.H o with
    | some v => some { σ with T := upd σ.T d v }
    | none => none
  | .box d s n x, σ => match σ.H s with
    | .free => if (x.ev σ.T).cellsOf.length = n ∧ allCells (x.ev σ.T).cellsOf = true then
        some { σ with T := upd σ.T d (.ptr s 0), H := upd σ.H s (.cells (x.ev σ.T).cellsOf) } else none
    | _ => none
  | .alloc d s zs, σ => match σ.H s with
    | .free => some { σ with T := upd σ.T d (.ptr s 0), H := upd σ.H s (.cells zs) }
    | _ => none
  | .bsl d s ty esz xs, σ => match σ.H s, elemsOf σ.T esz xs with
    | .free, some es => some { σ with T := upd σ.T d (.sl (.tok s) esz es), H := upd σ.H s (.tok ty esz es.length) }
    | _, _ => none
  | .st n x v, σ => (stV σ.H n (x.ev σ.T) (v.ev σ.T)).map fun H => { σ with H := H }
  | .mks d s esz bytes zs x, σ => match σ.H s, x.ev σ.T with
    | .free, .int .i64 n => if 0 ≤ n ∧ n * bytes ≤ 140737488355328 ∧ n ≤ 9223372036854775807 then
        some { σ with T := upd σ.T d (.warr s esz n.toNat), H := upd σ.H s (.arr esz (List.replicate n.toNat zs)) } else none
    | _, _ => none
  | .app d s ty esz bytes x y, σ => (appV σ.H s ty esz bytes (x.ev σ.T) (y.ev σ.T)).map fun (v, H) => { σ with T := upd σ.T d v, H := H }
  | .call d s lend f args, σ => match f with
    | .f n => evCall C σ d s lend n (argsOf σ.T args)
    | .v x => match x.ev σ.T with
      | .fn n caps => evCall C σ d s lend n (argsOf σ.T args ++ caps)
      | _ => none
  | .g j b d o, σ => match σ.T j with
    | .bool b' => if b' = b then evOp C o σ else some (skipTo σ d)
    | .und => some (skipTo σ d)
    | _ => none
  | .chk ds o, σ => match evOp C o σ with
    | some σ' => if awayAll σ.H σ'.H ds then some σ' else none
    | none => none

noncomputable def evOps (C : CallF) : List MOp → St → Option St
  | [], σ => some σ
  | o :: r, σ => match evOp C o σ with
    | some σ' => evOps C r σ'
    | none => none

/-! ### code -/
inductive Gop where
  | frz (d : Nat)
  | own (d s ty esz : Nat)
  | ownc (d off s ty esz : Nat)
  | mvc (d off b : Nat)
def evG : Gop → St → Option St
  | .frz d, σ => match σ.T d with
    | .warr i e _ => match σ.H i with
      | .arr e' es => if e = e' then some { σ with T := upd σ.T d (.sl .plain e es), H := upd σ.H i (.frz e es) } else none
      | .frz e' es => if e = e' then some { σ with T := upd σ.T d (.sl .plain e es) } else none
      | _ => none
    | _ => none
  | .own d s ty esz, σ => match σ.T d, σ.H s with
    | .sl .nil _ [], .free => if 0 < esz then some { σ with T := upd σ.T d (.sl (.tok s) esz []), H := upd σ.H s (.tok ty esz 0) } else none
    | _, _ => none
  | .ownc d off s ty esz, σ => match σ.T d, σ.H s with
    | .ptr i o, .free => match σ.H i with
      | .cells cs => match cs[o + off]? with
        | some (.sl .nil _ []) => if 0 < esz then some { σ with H := upd (upd σ.H s (.tok ty esz 0)) i (.cells (cs.set (o + off) (.sl (.tok s) esz []))) } else none
        | _ => none
      | _ => none
    | _, _ => none
  | .mvc d off b, σ => match σ.T d with
    | .ptr i o => match σ.H i with
      | .cells cs => match cs[o + off]? with
        | some (.sl (.tok a) e es) => match σ.H a, σ.H b with
          | .tok t1 e1 n1, .tok t2 e2 n2 => if t1 = t2 ∧ e1 = e2 ∧ n2 < n1 ∧ a ≠ b then
              some { σ with H := upd (upd (upd σ.H a .gone) b (.tok t1 e1 n1)) i (.cells (cs.set (o + off) (.sl (.tok b) e es))) } else none
          | _, _ => none
        | _ => none
      | _ => none
    | _ => none

inductive MC where
  | sk
  | ops (l : List MOp)
  | opsO (ord : List Nat) (l : List MOp)
  | sq (a b : MC)
  | ite (x : Opd) (a b : MC)
  | blk (id : Nat) (c : MC)
  | lp (live hl : List Nat) (c : MC)
  | ex (id : Nat)
  | rt
  | gh (g : Gop)

inductive Ex where
  | nrm
  | ex (id : Nat)
  | rt

def restrict (live hl : List Nat) (σ : St) : Option St :=
  if hl.all (fun i => allIn (σ.H i).refs hl) && allIn (List.range σ.m) hl then
    some { σ with T := ofL (live.map fun d => (d, keepV hl (σ.T d))), H := ofH (hl.map fun i => (i, σ.H i)) }
  else none

def evLoop (step : St → Option (Ex × St)) : Nat → St → Option (Ex × St)
  | 0, _ => none
  | k + 1, σ => match step σ with
    | some (.nrm, σ') => evLoop step k σ'
    | r => r

noncomputable def evC (C : CallF) (fuel : Nat) : MC → St → Option (Ex × St)
  | .sk, σ => some (.nrm, σ)
  | .ops l, σ => (evOps C l σ).map (.nrm, ·)
  | .opsO _ l, σ => (evOps C l σ).map (.nrm, ·)
  | .sq a b, σ => match evC C fuel a σ with
    | some (.nrm, σ') => evC C fuel b σ'
    | r => r
  | .ite x a b, σ => match x.ev σ.T with
    | .bool t => if t then evC C fuel a σ else evC C fuel b σ
    | _ => none
  | .blk id c, σ => match evC C fuel c σ with
    | some (.ex j, σ') => if j = id then some (.nrm, σ') else some (.ex j, σ')
    | r => r
  | .lp live hl c, σ => evLoop (fun σ => match restrict live hl σ with | some σ' => evC C fuel c σ' | none => none) fuel σ
  | .ex id, σ => some (.ex id, σ)
  | .rt, σ => some (.rt, σ)
  | .gh g, σ => (evG g σ).map (.nrm, ·)

/-- where a result stands -/
inductive RV where
  | t (d : Nat)
  | cell (d n : Nat) (ag : Bool)

structure MFun where
  np : Nat
  res : List RV
  own : Bool
  code : MC

def evRes (σ : St) : List RV → Option (List PV)
  | [] => some []
  | .t d :: r => (evRes σ r).map (σ.T d :: ·)
  | .cell d n ag :: r => match ldV σ.H n ag (σ.T d), evRes σ r with
    | some v, some s => some (v :: s)
    | _, _ => none
def resV : List PV → PV
  | [p] => p
  | l => .tup l
def stripR (own : Bool) : PV → PV
  | .tup vs => .tup (vs.map (strip own))
  | p => strip own p
/-- what a function leaves behind: what is kept, what its results lead to -/
def leave (m : Nat) (σ : St) (r : PV) : Option (PV × List Obj) :=
  match reach σ.H reachFuel ((List.range m).flatMap (fun i => (σ.H i).refs) ++ r.refs) (List.range m) with
  | none => none
  | some found => match ren found r, packH σ.H found with
    | some v, some objs => if nodupB found then some (v, objs) else none
    | _, _ => none
def enter (args : List PV) (objs : List Obj) : St :=
  { T := fun d => args.getD d .und, H := objAt objs, m := objs.length }

noncomputable def runF (C : CallF) (fuel : Nat) (mf : MFun) (args : List PV) (objs : List Obj) : Option (PV × List Obj) :=
  if args.length = mf.np then
    match evC C fuel mf.code (enter args objs) with
    | some (.nrm, σ) | some (.rt, σ) => match evRes σ mf.res with
      | some vs => leave objs.length σ (stripR mf.own (resV vs))
      | none => none
    | _ => none
  else none

structure Sys where
  prim : CallF
  prog : Nat → Option MFun
noncomputable def callN (S : Sys) : Nat → CallF
  | 0 => fun _ _ _ => none
  | n + 1 => fun f args objs =>
    match S.prim f args objs with
    | some r => some r
    | none => match S.prog f with
      | some mf => runF (callN S n) n mf args objs
      | none => none
open Classical in
/-- THE ANSWER OF A CALL, whatever the rounds. -/
noncomputable def call (S : Sys) : CallF := fun f args objs =>
  if h : ∃ n, (callN S n f args objs).isSome then callN S h.choose f args objs else none
open Classical in
noncomputable def Ev (S : Sys) (c : MC) (σ : St) : Option (Ex × St) :=
  if h : ∃ n, (evC (call S) n c σ).isSome then evC (call S) h.choose c σ else none
end Go.Px
/- What the small language's values and objects are in the machine's memory; what stays when memory goes on. -/
set_option linter.unusedVariables false
namespace Go.Px
open Go

inductive All2 {α β : Type} (R : α → β → Prop) : List α → List β → Prop where
  | nil : All2 R [] []
  | cons {a : α} {b : β} {l : List α} {m : List β} : R a b → All2 R l m → All2 R (a :: l) (b :: m)
namespace All2
variable {α β : Type} {R S : α → β → Prop}
theorem mono {l : List α} {m : List β} (h : All2 R l m) (hs : ∀ a b, a ∈ l → R a b → S a b) : All2 S l m := by
  induction h with
  | nil => exact .nil
  | cons h _ ih => exact .cons (hs _ _ (by simp) h) (ih fun a b ha => hs a b (List.mem_cons_of_mem _ ha))
theorem length {l : List α} {m : List β} (h : All2 R l m) : l.length = m.length := by
  induction h with
  | nil => rfl
  | cons _ _ ih => simp [ih]
theorem get {l : List α} {m : List β} (h : All2 R l m) : ∀ (i : Nat) (h1 : i < l.length) (h2 : i < m.length), R l[i] m[i] := by
  induction h with
  | nil => intro i h1; cases h1
  | cons hr _ ih =>
    intro i h1 h2
    cases i with
    | zero => exact hr
    | succ i => exact ih i (by simpa using h1) (by simpa using h2)
theorem of_get : ∀ {l : List α} {m : List β}, l.length = m.length → (∀ (i : Nat) (h1 : i < l.length) (h2 : i < m.length), R l[i] m[i]) → All2 R l m
  | [], [], _, _ => .nil
  | [], b :: m, h, _ => by simp at h
  | a :: l, [], h, _ => by simp at h
  | a :: l, b :: m, h, H => .cons (H 0 (by simp) (by simp)) (of_get (by simpa using h) fun i h1 h2 => H (i + 1) (by simp; omega) (by simp; omega))
theorem append {l l' : List α} {m m' : List β} (h : All2 R l m) (h' : All2 R l' m') : All2 R (l ++ l') (m ++ m') := by
  induction h with
  | nil => exact h'
  | cons hr _ ih => exact .cons hr ih
theorem take {l : List α} {m : List β} (h : All2 R l m) (n : Nat) : All2 R (l.take n) (m.take n) := by
  induction h generalizing n with
  | nil => simp; exact .nil
  | cons hr _ ih => cases n with
    | zero => simp; exact .nil
    | succ n => simp only [List.take_succ_cons]; exact .cons hr (ih n)
theorem drop {l : List α} {m : List β} (h : All2 R l m) (n : Nat) : All2 R (l.drop n) (m.drop n) := by
  induction h generalizing n with
  | nil => simp; exact .nil
  | cons hr h' ih => cases n with
    | zero => simp only [List.drop_zero]; exact .cons hr h'
    | succ n => simp only [List.drop_succ_cons]; exact ih n
end All2

/-! ### memory that nobody changes -/
theorem add_none {a : Addr} (h : a.spot = none) (n : Nat) : a.add n = ⟨a.block, a.off + n, none⟩ := by
  unfold Addr.add
  split
  · subst_vars; cases a; simp_all
  · cases a; simp_all

theorem idx_lt {j q n e : Nat} (hj : j < n) (hq : q < e) : j * e + q < n * e := by
  have h1 : (j + 1) * e ≤ n * e := Nat.mul_le_mul_right e hj
  rw [Nat.add_mul, Nat.one_mul] at h1
  omega

inductive RI (w : World) (I : Nat → Nat) : PV → Value → Prop where
  | int (k : IntKind) (n : Int) : RI w I (.int k n) (.int k n)
  | bool (b : Bool) : RI w I (.bool b) (.bool b)
  | nilp : RI w I .nilp (.pointer none)
  | fn (f : Nat) : RI w I (.fn f []) (.func (.func f) #[] #[])
  | sl (esz : Nat) (es : List (List PV)) (a : Option Addr) (n c : Nat) (u : Nat → Nat → Value) (hn : n = es.length) (hw : ∀ x ∈ es, x.length = esz) (hm : n ≤ maxLen) (hc : n ≤ c)
      (ha : 0 < n → ∃ ad, a = some ad ∧ ad.spot = none ∧ ad.off + n * esz ≤ I ad.block ∧ ∀ j q, j < n → q < esz → w.cell? ⟨ad.block, ad.off + (j * esz + q), none⟩ = some (u j q))
      (hu : ∀ (j q : Nat) (hj : j < es.length) (hq : q < es[j].length), RI w I (es[j][q]) (u j q)) : RI w I (.sl .plain esz es) (.slice a n c)

/-- Cells that were settled are settled still. -/
structure Keeps (w : World) (I : Nat → Nat) (w' : World) (I' : Nat → Nat) : Prop where
  cell : ∀ b j, j < I b → w'.cell? ⟨b, j, none⟩ = w.cell? ⟨b, j, none⟩
  le : ∀ b, I b ≤ I' b
theorem Keeps.refl (w : World) (I : Nat → Nat) : Keeps w I w I := ⟨fun _ _ _ => rfl, fun _ => Nat.le_refl _⟩
theorem Keeps.trans {w w1 w2 : World} {I I1 I2 : Nat → Nat} (h : Keeps w I w1 I1) (k : Keeps w1 I1 w2 I2) : Keeps w I w2 I2 :=
  ⟨fun b j hj => (k.cell b j (Nat.lt_of_lt_of_le hj (h.le b))).trans (h.cell b j hj), fun b => Nat.le_trans (h.le b) (k.le b)⟩

theorem RI.mono {w w' : World} {I I' : Nat → Nat} (k : Keeps w I w' I') {p : PV} {v : Value} (h : RI w I p v) : RI w' I' p v := by
  induction h with
  | int k n => exact .int k n
  | bool b => exact .bool b
  | nilp => exact .nilp
  | fn f => exact .fn f
  | sl esz es a n c u hn hw hm hc ha hu ih =>
    refine .sl esz es a n c u hn hw hm hc (fun h0 => ?_) ih
    obtain ⟨ad, h1, h2, h3, h4⟩ := ha h0
    refine ⟨ad, h1, h2, Nat.le_trans h3 (k.le _), fun j q hj hq => ?_⟩
    rw [k.cell _ _ (by have := idx_lt hj hq; omega)]
    exact h4 j q hj hq
theorem RI.oneCell {w : World} {I : Nat → Nat} {p : PV} {v : Value} (h : RI w I p v) : v.oneCell' = true := by
  cases h <;> rfl
theorem RI.cells {w : World} {I : Nat → Nat} {p : PV} {v : Value} (h : RI w I p v) : v.cells = #[v] := by
  cases h <;> rfl

/-! ### ghosts -/
structure Gh where
  κ : Nat → Nat
  τ : Nat → Value
  I : Nat → Nat

def CellsAt (g : Gh) (w : World) (ad : Addr) (cs : List PV) : Prop :=
  ad.spot = none ∧ ∀ (j : Nat) (h : j < cs.length), ad.off + j < g.I ad.block ∧ ∃ u, w.cell? ⟨ad.block, ad.off + j, none⟩ = some u ∧ RI w g.I cs[j] u
def TokR (g : Gh) (H : Nat → Obj) (i esz n : Nat) (v : Value) : Prop :=
  match H i with
  | .tok _ e m => n ≤ m ∧ (e = esz → m = n → v = g.τ i)
  | .gone => True
  | _ => False
def PtrR (g : Gh) (H : Nat → Obj) : PV → Value → Prop
  | .ptr i off, v => (∃ cs, H i = .cells cs) ∧ v = .pointer (some ⟨g.κ i, off, none⟩)
  | _, _ => False
def RC (g : Gh) (w : World) (H : Nat → Obj) : PV → Value → Prop
  | .int k n, v => v = .int k n
  | .bool b, v => v = .bool b
  | .nilp, v => v = .pointer none
  | .ptr i off, v => PtrR g H (.ptr i off) v
  | .aptr i esz idx off, v => (∃ es, H i = .arr esz es ∨ H i = .frz esz es) ∧ v = .pointer (some ⟨g.κ i, idx * esz + off, none⟩)
  | .warr i esz n, v => (∃ es, (H i = .arr esz es ∨ H i = .frz esz es) ∧ es.length = n) ∧ v = .slice (some ⟨g.κ i, 0, none⟩) n n
  | .view cs, v => ∃ ad, v = .pointer (some ad) ∧ CellsAt g w ad cs
  | .sl .plain esz es, v => RI w g.I (.sl .plain esz es) v
  | .sl .nil _ es, v => es = [] ∧ v = .slice none 0 0
  | .sl (.tok i) esz es, v => RI w g.I (.sl .plain esz es) v ∧ TokR g H i esz es.length v
  | .fn f caps, v => ∃ vs : Array Value, v = .func (.func f) #[] vs ∧ All2 (PtrR g H) caps vs.toList
  | _, _ => False
def R1 (g : Gh) (w : World) (H : Nat → Obj) : PV → Value → Prop
  | .agg cs, v => ∃ vs : Array Value, v = .agg vs ∧ All2 (RC g w H) cs vs.toList
  | .und, v => v = undef
  | .bad, _ => True
  | p, v => RC g w H p v
def R (g : Gh) (w : World) (H : Nat → Obj) : PV → Value → Prop
  | .tup ps, v => ∃ vs : Array Value, v = .tuple vs ∧ All2 (R1 g w H) ps vs.toList
  | p, v => R1 g w H p v

def ownBlk (g : Gh) (H : Nat → Obj) (i : Nat) : Option Nat :=
  match H i with
  | .cells _ | .arr _ _ => some (g.κ i)
  | .tok _ _ _ => (g.τ i).ownBlock
  | _ => none

def ArrAt (w : World) (I : Nat → Nat) (vs : Array Value) (e : Nat) (es : List (List PV)) : Prop :=
  vs.size = es.length * e ∧ (∀ x ∈ es, x.length = e) ∧ ∀ (j q : Nat) (hj : j < es.length) (hq : q < es[j].length), ∃ u, vs[j * e + q]? = some u ∧ RI w I es[j][q] u

structure HR (g : Gh) (w : World) (H : Nat → Obj) : Prop where
  cells : ∀ i cs, H i = .cells cs → ∃ vs ty, w.heap[g.κ i]? = some (.cells vs ty (0, 0)) ∧ All2 (RC g w H) cs vs.toList ∧ g.I (g.κ i) = 0
  arr : ∀ i e es, H i = .arr e es → ∃ vs ty, w.heap[g.κ i]? = some (.cells vs ty (0, 0)) ∧ ArrAt w g.I vs e es ∧ g.I (g.κ i) = 0 ∧ es.length ≤ maxLen
  frz : ∀ i e es, H i = .frz e es → RI w g.I (.sl .plain e es) (.slice (some ⟨g.κ i, 0, none⟩) es.length es.length)
  tok : ∀ i t e n, H i = .tok t e n → ∃ xs, w.ownsRow 0 t e (g.τ i) n xs ∧ (∀ b, (g.τ i).ownBlock = some b → g.I b = n * e) ∧ 0 < e
  apart : ∀ i j b, i ≠ j → ownBlk g H i = some b → ownBlk g H j ≠ some b
  fresh : ∀ b, w.heap.size ≤ b → g.I b = 0

/-- What a lent object stays. -/
structure Pers (g : Gh) (H : Nat → Obj) (g' : Gh) (H' : Nat → Obj) (i : Nat) : Prop where
  cells : ∀ cs, H i = .cells cs → (∃ cs', H' i = .cells cs') ∧ g'.κ i = g.κ i
  gone : H i = .gone → H' i = .gone
  tok : ∀ t e n, H i = .tok t e n → H' i = .gone ∨ ∃ n', H' i = .tok t e n' ∧ n ≤ n' ∧ (n' = n → g'.τ i = g.τ i)
theorem Pers.refl (g : Gh) (H : Nat → Obj) (i : Nat) : Pers g H g H i :=
  ⟨fun cs h => ⟨⟨cs, h⟩, rfl⟩, fun h => h, fun t e n h => .inr ⟨n, h, Nat.le_refl _, fun _ => rfl⟩⟩
theorem Pers.trans {g g1 g2 : Gh} {H H1 H2 : Nat → Obj} {i : Nat} (h : Pers g H g1 H1 i) (k : Pers g1 H1 g2 H2 i) : Pers g H g2 H2 i := by
  refine ⟨fun cs hc => ?_, fun hg => k.gone (h.gone hg), fun t e n ht => ?_⟩
  · obtain ⟨⟨cs', h1⟩, h2⟩ := h.cells cs hc
    obtain ⟨h3, h4⟩ := k.cells cs' h1
    exact ⟨h3, h4.trans h2⟩
  · rcases h.tok t e n ht with h1 | ⟨n', h1, h2, h3⟩
    · exact .inl (k.gone h1)
    · rcases k.tok t e n' h1 with h4 | ⟨n2, h4, h5, h6⟩
      · exact .inl h4
      · exact .inr ⟨n2, h4, Nat.le_trans h2 h5, fun e2 => by
          have e3 : n' = n := by omega
          have e4 : n2 = n' := by omega
          exact (h6 e4).trans (h3 e3)⟩

/-- ONE STEP'S FRAME: what nobody owned is as it was; what was settled is settled; what was lent stays. -/
structure Stp (m : Nat) (w : World) (g : Gh) (H : Nat → Obj) (w' : World) (g' : Gh) (H' : Nat → Obj) : Prop where
  os : w'.os = w.os
  tape : w'.tape = w.tape
  output : w'.output = w.output
  size : w.heap.size ≤ w'.heap.size
  keeps : Keeps w g.I w' g'.I
  block : ∀ b, b < w.heap.size → (∀ i, ownBlk g H i ≠ some b) → w'.heap[b]? = w.heap[b]? ∧ g'.I b = g.I b
  own : ∀ i b, ownBlk g' H' i = some b → (∃ j, ownBlk g H j = some b) ∨ w.heap.size ≤ b
  pers : ∀ i, i < m → Pers g H g' H' i
theorem Stp.refl (m : Nat) (w : World) (g : Gh) (H : Nat → Obj) : Stp m w g H w g H :=
  ⟨rfl, rfl, rfl, Nat.le_refl _, .refl _ _, fun _ _ _ => ⟨rfl, rfl⟩, fun i b h => .inl ⟨i, h⟩, fun i _ => .refl g H i⟩
theorem Stp.trans {m : Nat} {w w1 w2 : World} {g g1 g2 : Gh} {H H1 H2 : Nat → Obj} (h : Stp m w g H w1 g1 H1) (k : Stp m w1 g1 H1 w2 g2 H2) : Stp m w g H w2 g2 H2 := by
  refine ⟨k.os.trans h.os, k.tape.trans h.tape, k.output.trans h.output, Nat.le_trans h.size k.size, h.keeps.trans k.keeps, fun b hb hno => ?_, fun i b hi => ?_, fun i hi => (h.pers i hi).trans (k.pers i hi)⟩
  · have h1 := h.block b hb hno
    have hno1 : ∀ i, ownBlk g1 H1 i ≠ some b := fun i hi => by
      rcases h.own i b hi with ⟨j, hj⟩ | hge
      · exact hno j hj
      · omega
    have h2 := k.block b (Nat.lt_of_lt_of_le hb h.size) hno1
    exact ⟨h2.1.trans h1.1, h2.2.trans h1.2⟩
  · rcases k.own i b hi with ⟨j, hj⟩ | hge
    · exact h.own j b hj
    · exact .inr (Nat.le_trans h.size hge)

/-! ### values live on -/
/-- What a value needs to be told in the new objects. -/
structure Lives (g : Gh) (H : Nat → Obj) (g' : Gh) (H' : Nat → Obj) : Prop where
  cells : ∀ i cs, H i = .cells cs → (∃ cs', H' i = .cells cs') ∧ g'.κ i = g.κ i
  arr : ∀ i e es, (H i = .arr e es ∨ H i = .frz e es) → (∃ es', (H' i = .arr e es' ∨ H' i = .frz e es') ∧ es'.length = es.length) ∧ g'.κ i = g.κ i
  tok : ∀ i esz n v, TokR g H i esz n v → TokR g' H' i esz n v
theorem Lives.refl (g : Gh) (H : Nat → Obj) : Lives g H g H :=
  ⟨fun i cs h => ⟨⟨cs, h⟩, rfl⟩, fun i e es h => ⟨⟨es, h, rfl⟩, rfl⟩, fun _ _ _ _ h => h⟩

theorem CellsAt.mono {g g' : Gh} {w w' : World} (k : Keeps w g.I w' g'.I) {ad : Addr} {cs : List PV} (h : CellsAt g w ad cs) : CellsAt g' w' ad cs :=
  ⟨h.1, fun j hj => by
    obtain ⟨h1, u, h2, h3⟩ := h.2 j hj
    exact ⟨Nat.lt_of_lt_of_le h1 (k.le _), u, (k.cell _ _ h1).trans h2, h3.mono k⟩⟩
theorem PtrR.mono {g g' : Gh} {H H' : Nat → Obj} (l : Lives g H g' H') {p : PV} {v : Value} (h : PtrR g H p v) : PtrR g' H' p v := by
  cases p <;> simp only [PtrR] at h ⊢
  obtain ⟨⟨cs, hc⟩, rfl⟩ := h
  obtain ⟨h1, h2⟩ := l.cells _ _ hc
  exact ⟨h1, by rw [h2]⟩
theorem RC.mono {g g' : Gh} {w w' : World} {H H' : Nat → Obj} (k : Keeps w g.I w' g'.I) (l : Lives g H g' H') {p : PV} {v : Value} (h : RC g w H p v) : RC g' w' H' p v := by
  cases p with
  | ptr i off => exact PtrR.mono (p := .ptr i off) l h
  | aptr i e x o =>
    obtain ⟨⟨es, he⟩, rfl⟩ := h
    obtain ⟨⟨es', h1, _⟩, h2⟩ := l.arr _ _ _ he
    exact ⟨⟨es', h1⟩, by rw [h2]⟩
  | warr i e n =>
    obtain ⟨⟨es, he, hn⟩, rfl⟩ := h
    obtain ⟨⟨es', h1, h3⟩, h2⟩ := l.arr _ _ _ he
    exact ⟨⟨es', h1, h3.trans hn⟩, by rw [h2]⟩
  | view cs =>
    obtain ⟨ad, h1, h2⟩ := h
    exact ⟨ad, h1, h2.mono k⟩
  | sl t e es =>
    cases t with
    | plain => exact RI.mono k h
    | nil => exact h
    | tok i => exact ⟨RI.mono k h.1, l.tok _ _ _ _ h.2⟩
  | fn f caps =>
    obtain ⟨vs, h1, h2⟩ := h
    exact ⟨vs, h1, h2.mono fun a b _ h => PtrR.mono l h⟩
  | _ => exact h
theorem R1.mono {g g' : Gh} {w w' : World} {H H' : Nat → Obj} (k : Keeps w g.I w' g'.I) (l : Lives g H g' H') {p : PV} {v : Value} (h : R1 g w H p v) : R1 g' w' H' p v := by
  cases p with
  | agg cs =>
    obtain ⟨vs, h1, h2⟩ := h
    exact ⟨vs, h1, h2.mono fun a b _ h => RC.mono k l h⟩
  | und => exact h
  | bad => exact h
  | tup vs => exact h
  | int => exact h
  | bool => exact h
  | nilp => exact h
  | ptr => exact RC.mono (p := .ptr ..) k l h
  | aptr => exact RC.mono (p := .aptr ..) k l h
  | warr => exact RC.mono (p := .warr ..) k l h
  | view => exact RC.mono (p := .view ..) k l h
  | sl => exact RC.mono (p := .sl ..) k l h
  | fn => exact RC.mono (p := .fn ..) k l h
theorem R.mono {g g' : Gh} {w w' : World} {H H' : Nat → Obj} (k : Keeps w g.I w' g'.I) (l : Lives g H g' H') {p : PV} {v : Value} (h : R g w H p v) : R g' w' H' p v := by
  cases p with
  | tup cs =>
    obtain ⟨vs, h1, h2⟩ := h
    exact ⟨vs, h1, h2.mono fun a b _ h => R1.mono k l h⟩
  | agg => exact R1.mono (p := .agg ..) k l h
  | und => exact h
  | bad => exact h
  | int => exact h
  | bool => exact h
  | nilp => exact h
  | ptr => exact RC.mono (p := .ptr ..) k l h
  | aptr => exact RC.mono (p := .aptr ..) k l h
  | warr => exact RC.mono (p := .warr ..) k l h
  | view => exact RC.mono (p := .view ..) k l h
  | sl => exact RC.mono (p := .sl ..) k l h
  | fn => exact RC.mono (p := .fn ..) k l h
end Go.Px
/- The operations that only read: the machine's comes to what the small language's says. -/
set_option linter.unusedVariables false
set_option linter.unusedSimpArgs false
namespace Go.Px
open Go

structure Rel (N : Nat) (σ : St) (a : Act) (w : World) (g : Gh) : Prop where
  defers : a.defers = []
  size : a.tmps.size = N
  tm : ∀ d, R g w σ.H (σ.T d) (a.tmps.getD d undef)
  hr : HR g w σ.H

/-! ### operands -/
def constC : Value → PV → Bool
  | .int k n, .int k' n' => decide (k = k') && decide (n = n')
  | .bool a, .bool b => a == b
  | .pointer none, .nilp => true
  | .slice none n c, .sl .nil _ es => decide (n = 0) && decide (c = 0) && es.isEmpty
  | _, _ => false
def constCs : List Value → List PV → Bool
  | [], [] => true
  | v :: l, p :: r => constC v p && constCs l r
  | _, _ => false
def constP : Value → PV → Bool
  | .agg vs, .agg cs => constCs vs.toList cs
  | v, p => constC v p
def opdOk : Operand → Opd → Bool
  | .tmp t, .t d => t == d
  | .const v, .c p => constP v p
  | .func f, .c (.fn f' caps) => f == f' && caps.isEmpty
  | _, _ => false
def opdsOk : List Operand → List Opd → Bool
  | [], [] => true
  | x :: l, y :: r => opdOk x y && opdsOk l r
  | _, _ => false

theorem constC_RC {v : Value} {p : PV} (h : constC v p = true) (g : Gh) (w : World) (H : Nat → Obj) : RC g w H p v := by
  unfold constC at h
  split at h
  · simp at h; obtain ⟨rfl, rfl⟩ := h; rfl
  · simp at h; subst h; rfl
  · rfl
  · simp at h; obtain ⟨⟨rfl, rfl⟩, h⟩ := h; exact ⟨by simpa using h, rfl⟩
  · cases h
theorem constCs_RC : ∀ {l : List Value} {r : List PV}, constCs l r = true → ∀ (g : Gh) (w : World) (H : Nat → Obj), All2 (RC g w H) r l
  | [], [], _, _, _, _ => .nil
  | v :: l, p :: r, h, g, w, H => by
    simp [constCs] at h
    exact .cons (constC_RC h.1 g w H) (constCs_RC h.2 g w H)
  | [], _ :: _, h, _, _, _ => by simp [constCs] at h
  | _ :: _, [], h, _, _, _ => by simp [constCs] at h
theorem RC.cell {g : Gh} {w : World} {H : Nat → Obj} {p : PV} {v : Value} (h : RC g w H p v) : p.isCell = true ∧ v.oneCell' = true := by
  cases p with
  | agg => exact h.elim
  | tup => exact h.elim
  | und => exact h.elim
  | bad => exact h.elim
  | int => refine ⟨rfl, ?_⟩; rw [show v = _ from h]; rfl
  | bool => refine ⟨rfl, ?_⟩; rw [show v = _ from h]; rfl
  | nilp => refine ⟨rfl, ?_⟩; rw [show v = _ from h]; rfl
  | ptr i off => obtain ⟨_, rfl⟩ := h; exact ⟨rfl, rfl⟩
  | aptr => obtain ⟨_, rfl⟩ := h; exact ⟨rfl, rfl⟩
  | warr => obtain ⟨_, rfl⟩ := h; exact ⟨rfl, rfl⟩
  | view => obtain ⟨_, rfl, _⟩ := h; exact ⟨rfl, rfl⟩
  | fn => obtain ⟨_, rfl, _⟩ := h; exact ⟨rfl, rfl⟩
  | sl t e es =>
    refine ⟨rfl, ?_⟩
    cases t with
    | plain => exact RI.oneCell h
    | nil => obtain ⟨_, rfl⟩ := h; rfl
    | tok i => exact RI.oneCell h.1
theorem R_of_RC {g : Gh} {w : World} {H : Nat → Obj} {p : PV} {v : Value} (h : RC g w H p v) : R g w H p v := by
  cases p <;> first | exact h | exact h.elim
theorem R1_of_RC {g : Gh} {w : World} {H : Nat → Obj} {p : PV} {v : Value} (h : RC g w H p v) : R1 g w H p v := by
  cases p <;> first | exact h | exact h.elim
theorem R_of_R1 {g : Gh} {w : World} {H : Nat → Obj} {p : PV} {v : Value} (h : R1 g w H p v) : R g w H p v := by
  cases p <;> first | exact h | exact h.elim
theorem RC_of_R {g : Gh} {w : World} {H : Nat → Obj} {p : PV} {v : Value} (h : R g w H p v) (hc : p.isCell = true) : RC g w H p v := by
  cases p <;> first | exact h | (simp [PV.isCell] at hc)
theorem R_agg {g : Gh} {w : World} {H : Nat → Obj} {cs : List PV} {v : Value} : R g w H (.agg cs) v ↔ ∃ vs : Array Value, v = .agg vs ∧ All2 (RC g w H) cs vs.toList := Iff.rfl
theorem constP_R {v : Value} {p : PV} (h : constP v p = true) (g : Gh) (w : World) (H : Nat → Obj) : R g w H p v := by
  unfold constP at h
  split at h
  · exact ⟨_, rfl, constCs_RC h g w H⟩
  · exact R_of_RC (constC_RC h g w H)
theorem opd_R {N : Nat} {σ : St} {a : Act} {w : World} {g : Gh} (hr : Rel N σ a w g) {x : Operand} {y : Opd} (h : opdOk x y = true) : R g w σ.H (y.ev σ.T) (a.eval x) := by
  unfold opdOk at h
  split at h
  · simp at h; subst h; exact hr.tm _
  · exact constP_R h _ _ _
  · simp at h; obtain ⟨rfl, rfl⟩ := h; exact ⟨#[], rfl, .nil⟩
  · cases h

/-- How a value lies in cells. -/
theorem cells_R {g : Gh} {w : World} {H : Nat → Obj} {p : PV} {v : Value} (h : R g w H p v) (hc : allCells p.cellsOf = true) : All2 (RC g w H) p.cellsOf v.cells.toList := by
  cases p with
  | agg cs =>
    obtain ⟨vs, rfl, h2⟩ := h
    exact h2
  | und => simp [PV.cellsOf, allCells, PV.isCell] at hc
  | bad => simp [PV.cellsOf, allCells, PV.isCell] at hc
  | tup => simp [PV.cellsOf, allCells, PV.isCell] at hc
  | _ =>
    have h1 := RC_of_R h rfl
    have h2 := (RC.cell h1).2
    have h3 : v.cells = #[v] := by cases v <;> first | rfl | (simp [Value.oneCell'] at h2)
    simp only [PV.cellsOf, h3]
    exact .cons h1 .nil

/-! ### reading -/
theorem mkV_R {g : Gh} {w : World} {H : Nat → Obj} {ag : Bool} {cs : List PV} {p : PV} (h : mkV ag cs = some p) {vs : List Value} (ha : All2 (RC g w H) cs vs) :
    if ag then R g w H p (.agg vs.toArray) else ∃ v, vs = [v] ∧ R g w H p v := by
  unfold mkV at h
  cases ag with
  | true =>
    simp at h
    subst h
    exact ⟨vs.toArray, rfl, by simpa using ha⟩
  | false =>
    simp at h
    split at h
    · cases h
      cases ha with
      | cons h1 h2 => cases h2; exact ⟨_, rfl, R_of_RC h1⟩
    · cases h

/-- is a value of this type told as a whole of cells? -/
def aggT (P : Program) (t : TypeId) : Option Bool :=
  match P.underlying t with
  | some (.struct _) | some (.array _ _) => some true
  | some _ => some false
  | none => none
theorem run_isAgg {P : Program} {t : TypeId} {b : Bool} (h : aggT P t = some b) (w : World) : (isAgg t).run P w = .ok b w := by
  unfold aggT at h
  unfold isAgg
  split at h
  · rename_i h'; cases h; simp [run_underlying h']
  · rename_i h'; cases h; simp [run_underlying h']
  · rename_i d hn1 hn2 h'
    cases h
    simp [run_underlying h']
  · cases h
theorem run_sizeOf {P : Program} {t : TypeId} {n : Nat} (h : (P.info? t).map (·.size) = some n) (w : World) : (sizeOf t).run P w = .ok n w := by
  cases hi : P.info? t with
  | none => simp [hi] at h
  | some i => simp [hi] at h; simp [sizeOf, typeInfo, hi, h]
/-- loading what stands in cells -/
theorem run_loadVar_cells {P : Program} {t : TypeId} {n : Nat} {ag : Bool} (ha : aggT P t = some ag) (hn : (P.info? t).map (·.size) = some n) {w : World} {ad : Addr} (hs : ad.spot = none) {vs : List Value}
    (hl : vs.length = n) (h1 : ag = true ∨ n = 1) (hc : ∀ j u, vs[j]? = some u → w.cell? ⟨ad.block, ad.off + j, none⟩ = some u) :
    (loadVar t ad).run P w = .ok (if ag then .agg vs.toArray else vs.headD undef) w := by
  have hc' : ∀ j v, vs[j]? = some v → w.cell? (ad.add j) = some v := fun j v h => by rw [add_none hs]; exact hc j v h
  unfold loadVar
  simp only [Sem.run_bind, run_isAgg ha, Result.andThen_ok]
  cases ag with
  | true =>
    have hl' := run_loadCells_list (P := P) w ad vs hc'
    rw [hl] at hl'
    simp [run_sizeOf hn, hl']
  | false =>
    have hn1 : n = 1 := by simpa using h1
    subst hn1
    match vs, hl with
    | [v], _ =>
      have := hc' 0 v rfl
      rw [add_none hs] at this
      have e : (⟨ad.block, ad.off + 0, none⟩ : Addr) = ad := by cases ad; simp_all
      rw [e] at this
      simp [this]

theorem All2_getElem? {α β : Type} {R : α → β → Prop} {l : List α} {m : List β} (h : All2 R l m) {i : Nat} {a : α} (ha : l[i]? = some a) : ∃ b, m[i]? = some b ∧ R a b := by
  obtain ⟨hi, rfl⟩ := List.getElem?_eq_some_iff.1 ha
  have hm : i < m.length := by rw [← h.length]; exact hi
  exact ⟨m[i], List.getElem?_eq_getElem hm, h.get i hi hm⟩

theorem RI_RC {g : Gh} {w : World} {H : Nat → Obj} {p : PV} {u : Value} (h : RI w g.I p u) : RC g w H p u := by
  cases h with
  | int => rfl
  | bool => rfl
  | nilp => rfl
  | fn f => exact ⟨#[], rfl, .nil⟩
  | sl e es a n c u hn hw hm hc ha hu => exact .sl e es a n c u hn hw hm hc ha hu

theorem cellsAt_vals {g : Gh} {w : World} {H : Nat → Obj} {ad : Addr} {cs : List PV} (h : CellsAt g w ad cs) : ∃ vs : List Value, All2 (RC g w H) cs vs ∧ ∀ j u, vs[j]? = some u → w.cell? ⟨ad.block, ad.off + j, none⟩ = some u := by
  have : ∀ cs' : List PV, (∀ j (hj : j < cs'.length), ∃ u, w.cell? ⟨ad.block, ad.off + j, none⟩ = some u ∧ RI w g.I cs'[j] u) →
      ∃ vs : List Value, All2 (RC g w H) cs' vs ∧ ∀ j u, vs[j]? = some u → w.cell? ⟨ad.block, ad.off + j, none⟩ = some u := by
    intro cs'
    intro hh
    refine ⟨(List.range cs'.length).map fun j => (w.cell? ⟨ad.block, ad.off + j, none⟩).getD undef, All2.of_get (by simp) (fun i h1 h2 => ?_), fun j u hu => ?_⟩
    · obtain ⟨u, h3, h4⟩ := hh i h1
      simp only [List.getElem_map, List.getElem_range, h3, Option.getD_some]
      exact RI_RC h4
    · obtain ⟨hj, h5⟩ := List.getElem?_eq_some_iff.1 hu
      have hj' : j < cs'.length := by simpa using hj
      obtain ⟨u', h3, h4⟩ := hh j hj'
      simp only [List.getElem_map, List.getElem_range, h3, Option.getD_some] at h5
      subst h5
      exact h3
  exact this cs fun j hj => (h.2 j hj).2

/-- reading through a pointer -/
theorem ldV_R {g : Gh} {w : World} {H : Nat → Obj} (hr : HR g w H) {n : Nat} {ag : Bool} {p q : PV} (h : ldV H n ag p = some q) {v : Value} (hv : R g w H p v) (h1 : ag = true ∨ n = 1) :
    ∃ (ad : Addr) (vs : List Value), v = .pointer (some ad) ∧ ad.spot = none ∧ vs.length = n ∧ (∀ j u, vs[j]? = some u → w.cell? ⟨ad.block, ad.off + j, none⟩ = some u) ∧ R g w H q (if ag then .agg vs.toArray else vs.headD undef) := by
  have fin : ∀ (cs : List PV) (vs : List Value), mkV ag cs = some q → All2 (RC g w H) cs vs → cs.length = n → vs.length = n ∧ R g w H q (if ag then .agg vs.toArray else vs.headD undef) := by
    intro cs vs h2 h3 h4
    have h5 := mkV_R h2 h3
    refine ⟨by rw [← h3.length]; exact h4, ?_⟩
    cases ag with
    | true => exact h5
    | false => obtain ⟨v, rfl, h6⟩ := h5; exact h6
  unfold ldV at h
  split at h
  · -- a box
    rename_i i off
    split at h
    · rename_i cs hH
      split at h
      · rename_i hle
        obtain ⟨_, rfl⟩ := hv
        obtain ⟨vs, ty, hb, ha, _⟩ := hr.cells i cs hH
        have ha' := (ha.drop off).take n
        obtain ⟨f1, f2⟩ := fin _ _ h ha' (by simp; omega)
        refine ⟨_, _, rfl, rfl, f1, fun j u hu => ?_, f2⟩
        rw [cell_of_row w _ _ vs ty _ hb]
        rw [List.getElem?_take] at hu
        split at hu
        · rw [List.getElem?_drop] at hu
          simpa using hu
        · cases hu
      · cases h
    · cases h
  · -- settled cells
    rename_i cs
    split at h
    · rename_i hle
      obtain ⟨ad, rfl, hc⟩ := hv
      obtain ⟨vs, h2, h3⟩ := cellsAt_vals (H := H) hc
      have ha' := h2.take n
      obtain ⟨f1, f2⟩ := fin _ _ h ha' (by simp; omega)
      refine ⟨_, _, rfl, hc.1, f1, fun j u hu => h3 j u ?_, f2⟩
      rw [List.getElem?_take] at hu
      split at hu
      · exact hu
      · cases hu
    · cases h
  · -- an array
    rename_i i esz idx off
    obtain ⟨hes, rfl⟩ := hv
    split at h
    · rename_i e es hH
      split at h
      · rename_i he
        subst he
        split at h
        · rename_i cs hcs
          split at h
          · rename_i hle
            obtain ⟨vs, ty, hb, hat, _⟩ := hr.arr i e es hH
            obtain ⟨hidx, rfl⟩ := List.getElem?_eq_some_iff.1 hcs
            have hlen : es[idx].length = e := hat.2.1 _ (List.getElem_mem _)
            have hat' : CellsAt { g with I := fun b => if b = g.κ i then vs.size else g.I b } w ⟨g.κ i, idx * e + off, none⟩ [] := ⟨rfl, fun j hj => by cases hj⟩
            have hall : All2 (RC g w H) (es[idx]) ((vs.toList.drop (idx * e)).take e) := by
              have hsz : idx * e + e ≤ vs.toList.length := by
                have h9 : (idx + 1) * e ≤ es.length * e := Nat.mul_le_mul_right e hidx
                have h8 := hat.1
                simp only [Array.length_toList]
                rw [Nat.add_mul, Nat.one_mul] at h9
                omega
              refine All2.of_get (by simp only [List.length_take, List.length_drop]; omega) fun q h2 h3 => ?_
              obtain ⟨u, h4, h5⟩ := hat.2.2 idx q hidx h2
              have h6 : ((vs.toList.drop (idx * e)).take e)[q] = u := by
                simp only [List.getElem_take, List.getElem_drop]
                have h7 : vs.toList[idx * e + q]? = some u := by simpa using h4
                obtain ⟨_, h8⟩ := List.getElem?_eq_some_iff.1 h7
                exact h8
              rw [h6]
              exact RI_RC h5
            have ha' := (hall.drop off).take n
            obtain ⟨f1, f2⟩ := fin _ _ h ha' (by simp only [List.length_take, List.length_drop]; omega)
            refine ⟨_, _, rfl, rfl, f1, fun j u hu => ?_, f2⟩
            rw [cell_of_row w _ _ vs ty _ hb]
            rw [List.getElem?_take] at hu
            split at hu
            · rw [List.getElem?_drop, List.getElem?_take] at hu
              split at hu
              · rw [List.getElem?_drop] at hu
                simp only [Array.getElem?_toList] at hu
                rw [← hu]
                congr 1
                show idx * e + off + j = idx * e + (off + j)
                omega
              · cases hu
            · cases hu
          · cases h
        · cases h
      · cases h
    · rename_i e es hH
      split at h
      · rename_i he
        subst he
        split at h
        · rename_i cs hcs
          split at h
          · rename_i hle
            have hf := hr.frz i e es hH
            obtain ⟨hidx, rfl⟩ := List.getElem?_eq_some_iff.1 hcs
            cases hf with
            | sl _ _ _ _ _ u hn hw hm hc ha hu =>
              obtain ⟨ad, hea, hsp, hI, hcell⟩ := ha (by omega)
              cases hea
              have hlen : es[idx].length = e := hw _ (List.getElem_mem _)
              have hat : CellsAt g w ⟨g.κ i, idx * e, none⟩ (es[idx]) := by
                refine ⟨rfl, fun q hq => ?_⟩
                have h2 := idx_lt hidx (show q < e by omega)
                refine ⟨by simp only at hI ⊢; omega, u idx q, ?_, hu idx q hidx hq⟩
                have h3 := hcell idx q hidx (by omega)
                simpa using h3
              obtain ⟨vs, h2, h3⟩ := cellsAt_vals (H := H) hat
              have ha' := (h2.drop off).take n
              obtain ⟨f1, f2⟩ := fin _ _ h ha' (by simp only [List.length_take, List.length_drop]; omega)
              refine ⟨_, _, rfl, rfl, f1, fun j u' hu' => ?_, f2⟩
              rw [List.getElem?_take] at hu'
              split at hu'
              · rw [List.getElem?_drop] at hu'
                have h4 := h3 _ _ hu'
                simp only at h4 ⊢
                rw [Nat.add_assoc]
                exact h4
              · cases hu'
          · cases h
        · cases h
      · cases h
    · cases h
  · cases h
end Go.Px
/- Each operation that only reads, held against the machine's. -/
set_option linter.unusedVariables false
set_option linter.unusedSimpArgs false
namespace Go.Px
open Go

def szOk (P : Program) (t : TypeId) (n : Nat) : Bool := (P.info? t).map (·.size) == some n
def sliceElem (P : Program) (t : TypeId) : Option TypeId :=
  match P.underlying t with
  | some (.slice e) => some e
  | _ => none
def structFields (P : Program) (t : TypeId) : Option (Array Field) :=
  match P.underlying t with
  | some (.struct fs) => some fs
  | _ => none
def intKindOf (P : Program) (t : TypeId) : Option IntKind :=
  match P.underlying t with
  | some (.int k) => some k
  | _ => none
def isBoolT (P : Program) (t : TypeId) : Bool :=
  match P.underlying t with
  | some .bool => true
  | _ => false
def partOk (P : Program) (fs : Array Field) : List (Nat × Operand) → List (Nat × Nat × Opd) → Bool
  | [], [] => true
  | (i, x) :: l, (off, n, y) :: r => (match fs[i]? with
      | some f => f.offset == off && szOk P f.type n
      | none => false) && opdOk x y && partOk P fs l r
  | _, _ => false
def optOk : Option Operand → Option Opd → Bool
  | none, none => true
  | some x, some y => opdOk x y
  | _, _ => false
def zeroOk (P : Program) (t : TypeId) (zs : List PV) : Bool :=
  match (P.info? t).bind (·.zero) with
  | some z => constCs z.cells.toList zs
  | none => false

def popOk (P : Program) : Op → POp → Bool
  | .move x, .mv y => opdOk x y
  | .assign x, .mv y => opdOk x y
  | .pick c a b, .pick c' a' b' => opdOk c c' && opdOk a a' && opdOk b b'
  | .build t parts, .bld zs ps => match structFields P t with
    | some fs => zeroOk P t zs && partOk P fs parts.toList ps
    | none => false
  | .load t x, .ld n ag y => opdOk x y && szOk P t n && aggT P t == some ag && (ag || n == 1)
  | .load t x, .lda _ n ag y => opdOk x y && szOk P t n && aggT P t == some ag && (ag || n == 1)
  | .load t x, .ldv n ag y => opdOk x y && szOk P t n && aggT P t == some ag && (ag || n == 1)
  | .nilCheck x, .nilc y => opdOk x y
  | .binOp op _ x y _, .bin op' x' y' => decide (op = op') && opdOk x x' && opdOk y y'
  | .binOp op t x y _, .beq neg x' y' => (if neg then decide (op = .neq) else decide (op = .eql)) && isBoolT P t && opdOk x x' && opdOk y y'
  | .unOp op _ x, .not y => decide (op = .not) && opdOk x y
  | .convert s t x, .cvt k y => (P.underlying s).isSome && intKindOf P t == some k && opdOk x y
  | .slice t x lo hi none, .slc esz y lo' hi' => (match sliceElem P t with
    | some e => szOk P e esz
    | none => false) && opdOk x y && optOk lo lo' && optOk hi hi'
  | .fieldAddr t x f, .fa y off => (match structFields P t with
    | some fs => match fs[f]? with
      | some fd => fd.offset == off && (match (P.info? fd.type).map (·.size) with | some n => n != 0 | none => false)
      | none => false
    | none => false) && opdOk x y
  | .field t x f, .fld n ag y off => (match structFields P t with
    | some fs => match fs[f]? with
      | some fd => fd.offset == off && szOk P fd.type n && aggT P fd.type == some ag && (ag || n == 1)
      | none => false
    | none => false) && opdOk x y
  | .indexAddr t x i, .ia esz y j => (match sliceElem P t with
    | some e => szOk P e esz
    | none => false) && opdOk x y && opdOk i j
  | .extract x i, .ext y j => i == j && opdOk x y
  | .call c, .len y => match c.callee, c.args.toList, c.argTypes.toList with
    | .builtin .len, [x], [t] => (sliceElem P t).isSome && opdOk x y
    | _, _, _ => false
  | .call c, .mm mx x' y' => match c.callee, c.args.toList with
    | .builtin .max, [x, y] => mx && opdOk x x' && opdOk y y'
    | .builtin .min, [x, y] => !mx && opdOk x x' && opdOk y y'
    | _, _ => false
  | .makeFunc fn first caps, .mkf f cs => (match fn with | .func f' => f == f' | _ => false) && first.isEmpty && opdsOk caps.toList cs
  | .binOp op t x y _, .isnil neg x' => (match y with | .const (.slice none 0 0) => true | _ => false) && (sliceElem P t).isSome && (if neg then decide (op = .neq) else decide (op = .eql)) && opdOk x x'
  | _, _ => false

theorem szOk_eq {P : Program} {t : TypeId} {n : Nat} (h : szOk P t n = true) : (P.info? t).map (·.size) = some n := by simpa [szOk] using h
theorem sliceElem_eq {P : Program} {t e : TypeId} (h : sliceElem P t = some e) : P.underlying t = some (.slice e) := by
  unfold sliceElem at h
  split at h
  · rename_i h'; cases h; exact h'
  · cases h
theorem structFields_eq {P : Program} {t : TypeId} {fs : Array Field} (h : structFields P t = some fs) : P.underlying t = some (.struct fs) := by
  unfold structFields at h
  split at h
  · rename_i h'; cases h; exact h'
  · cases h

theorem run_equalIn_bool {P : Program} {t : TypeId} (hu : P.underlying t = some .bool) (w : World) (d : Nat) (x y : Bool) : (Op.equalIn (d + 1) t (.bool x) (.bool y)).run P w = .ok (x == y) w := by
  simp only [Op.equalIn, Sem.run_bind, run_underlying hu, Result.andThen_ok, Sem.run_pure]
theorem run_eql_bool' {P : Program} {t : TypeId} (hu : P.underlying t = some .bool) (w : World) (x y : Bool) : (binOp .eql t (.bool x) (.bool y)).run P w = .ok (.bool (x == y)) w := by
  unfold binOp
  simp only [Sem.run_bind, Op.equal, Op.maxDepth, run_equalIn_bool hu w 9999 x y, Result.andThen_ok, Sem.run_pure]
theorem run_neq_bool' {P : Program} {t : TypeId} (hu : P.underlying t = some .bool) (w : World) (x y : Bool) : (binOp .neq t (.bool x) (.bool y)).run P w = .ok (.bool (x != y)) w := by
  unfold binOp
  simp only [Sem.run_bind, Op.equal, Op.maxDepth, run_equalIn_bool hu w 9999 x y, Result.andThen_ok, Sem.run_pure]
  rfl

section
variable {P : Program} {N : Nat} {σ : St} {a : Act} {w : World} {g : Gh} (hr : Rel N σ a w g)
include hr

theorem opds_R : ∀ {l : List Operand} {r : List Opd}, opdsOk l r = true → All2 (R g w σ.H) (r.map (·.ev σ.T)) (l.map a.eval)
  | [], [], _ => .nil
  | x :: l, y :: r, h => by
    simp [opdsOk] at h
    exact .cons (opd_R hr h.1) (opds_R h.2)
  | [], _ :: _, h => by simp [opdsOk] at h
  | _ :: _, [], h => by simp [opdsOk] at h

theorem R_bool {y : Opd} {x : Operand} {t : Bool} (h : opdOk x y = true) (e : y.ev σ.T = .bool t) : a.eval x = .bool t := by
  have := opd_R hr h
  rw [e] at this
  exact this
theorem R_int {y : Opd} {x : Operand} {k : IntKind} {n : Int} (h : opdOk x y = true) (e : y.ev σ.T = .int k n) : a.eval x = .int k n := by
  have := opd_R hr h
  rw [e] at this
  exact this

theorem s_mv {x : Operand} {y : Opd} {p : PV} (h : opdOk x y = true) (he : evP σ.T σ.H (.mv y) = some p) : R g w σ.H p (a.eval x) := by
  simp [evP] at he
  subst he
  exact opd_R hr h

theorem s_pick {c x y : Operand} {c' x' y' : Opd} {p : PV} (h1 : opdOk c c' = true) (h2 : opdOk x x' = true) (h3 : opdOk y y' = true) (he : evP σ.T σ.H (.pick c' x' y') = some p) :
    ∃ t, a.eval c = .bool t ∧ R g w σ.H p (if t then a.eval x else a.eval y) := by
  simp only [evP] at he
  split at he
  · rename_i t e
    refine ⟨t, R_bool hr h1 e, ?_⟩
    cases he
    cases t
    · exact opd_R hr h3
    · exact opd_R hr h2
  · cases he

theorem s_ld {t : TypeId} {x : Operand} {y : Opd} {n : Nat} {ag : Bool} {p : PV} (h1 : opdOk x y = true) (hn : szOk P t n = true) (ha : aggT P t = some ag) (h2 : ag = true ∨ n = 1) (he : evP σ.T σ.H (.ld n ag y) = some p) :
    ∃ v, (Instr.loadAt t (a.eval x)).run P w = .ok v w ∧ R g w σ.H p v := by
  obtain ⟨ad, vs, e1, e2, e3, e4, e5⟩ := ldV_R hr.hr he (opd_R hr h1) h2
  refine ⟨_, ?_, e5⟩
  simp only [Instr.loadAt, e1, Instr.sureAddr, Sem.run_bind, Sem.run_pure, Result.andThen_ok]
  exact run_loadVar_cells ha (szOk_eq hn) e2 e3 h2 e4

theorem s_lda {i n : Nat} {y : Opd} {ag : Bool} {p : PV} (he : evP σ.T σ.H (.lda i n ag y) = some p) : evP σ.T σ.H (.ld n ag y) = some p := by
  simp only [evP] at he ⊢
  split at he
  · rename_i e
    rw [e]
    split at he
    · exact he
    · cases he
  · cases he
theorem s_ldv {n : Nat} {y : Opd} {ag : Bool} {p : PV} (he : evP σ.T σ.H (.ldv n ag y) = some p) : evP σ.T σ.H (.ld n ag y) = some p := by
  simp only [evP] at he ⊢
  split at he
  · rename_i e
    rw [e]
    exact he
  · cases he
theorem s_nilc {x : Operand} {y : Opd} {p : PV} (h : opdOk x y = true) (he : evP σ.T σ.H (.nilc y) = some p) : ∃ ad, a.eval x = .pointer (some ad) ∧ R g w σ.H p (a.eval x) := by
  have hx := opd_R hr h
  simp only [evP] at he
  split at he <;> cases he
  · rename_i e; rw [e] at hx; exact ⟨_, hx.2, hx⟩
  · rename_i e; rw [e] at hx; obtain ⟨ad, h1, h2⟩ := hx; exact ⟨ad, h1, ⟨ad, h1, h2⟩⟩
  · rename_i e; rw [e] at hx; exact ⟨_, hx.2, hx⟩

theorem s_bin {op : BinOp} {t ty : TypeId} {x y : Operand} {x' y' : Opd} {p : PV} (h1 : opdOk x x' = true) (h2 : opdOk y y' = true) (he : evP σ.T σ.H (.bin op x' y') = some p) :
    ∃ v, (do eqGuard op t x y (a.eval x) (a.eval y); binOp op t (a.eval x) (a.eval y) : Sem Value).run P w = .ok v w ∧ R g w σ.H p v := by
  simp only [evP, evBin] at he
  split at he
  · rename_i k m k' n e1 e2
    have ex := R_int hr h1 e1
    have ey := R_int hr h2 e2
    have hg : (eqGuard op t x y (.int k m) (.int k' n)).run P w = .ok () w := by
      cases op <;> simp [eqGuard]
    simp only [ex, ey, Sem.run_bind, hg, Result.andThen_ok]
    split at he
    · rename_i hs
      cases op <;> simp [BinOp.shifts] at hs <;> simp only [binI] at he <;> split at he <;> cases he <;> rename_i hn
      · exact ⟨_, by simp only [binOp, Op.shift]; rw [if_neg hn]; rfl, rfl⟩
      · exact ⟨_, by simp only [binOp, Op.shift]; rw [if_neg hn]; rfl, rfl⟩
    · rename_i hs
      split at he
      · rename_i hk
        subst hk
        cases op <;> simp [BinOp.shifts] at hs <;> simp only [binI] at he
        case add => cases he; exact ⟨_, by simp [binOp, Op.intArith], rfl⟩
        case sub => cases he; exact ⟨_, by simp [binOp, Op.intArith], rfl⟩
        case mul => cases he; exact ⟨_, by simp [binOp, Op.intArith], rfl⟩
        case quo =>
          split at he
          · cases he
          · rename_i hn; cases he; exact ⟨_, by simp [binOp, Op.intDiv, hn], rfl⟩
        case rem =>
          split at he
          · cases he
          · rename_i hn; cases he; exact ⟨_, by simp [binOp, Op.intDiv, hn], rfl⟩
        case and => cases he; exact ⟨_, by simp [binOp, Op.intBits], rfl⟩
        case or => cases he; exact ⟨_, by simp [binOp, Op.intBits], rfl⟩
        case xor => cases he
        case andNot => cases he
        case eql => cases he; exact ⟨_, by simp [binOp, Op.intCmp], rfl⟩
        case neq => cases he; exact ⟨_, by simp [binOp, Op.intCmp], rfl⟩
        case lss => cases he; exact ⟨_, by simp [binOp, Op.intCmp], rfl⟩
        case leq => cases he; exact ⟨_, by simp [binOp, Op.intCmp], rfl⟩
        case gtr => cases he; exact ⟨_, by simp [binOp, Op.intCmp], rfl⟩
        case geq => cases he; exact ⟨_, by simp [binOp, Op.intCmp], rfl⟩
      · cases he
  · cases he

theorem s_isnil {op : BinOp} {t ty : TypeId} {x y : Operand} {x' : Opd} {neg : Bool} {p : PV} (hy : (match y with | .const (.slice none 0 0) => true | _ => false) = true) (ht : (sliceElem P t).isSome = true)
    (ho : (if neg then decide (op = .neq) else decide (op = .eql)) = true) (h1 : opdOk x x' = true) (he : evP σ.T σ.H (.isnil neg x') = some p) :
    ∃ v, (do eqGuard op t x y (a.eval x) (a.eval y); binOp op t (a.eval x) (a.eval y) : Sem Value).run P w = .ok v w ∧ R g w σ.H p v := by
  obtain ⟨e, hte⟩ := Option.isSome_iff_exists.1 ht
  have hu := sliceElem_eq hte
  have hy' : a.eval y = .slice none 0 0 := by
    split at hy
    · rfl
    · cases hy
  have hx := opd_R hr h1
  have fin : ∀ (ad : Option Addr) (n c : Nat), a.eval x = .slice ad n c → (do eqGuard op t x y (a.eval x) (a.eval y); binOp op t (a.eval x) (a.eval y) : Sem Value).run P w = .ok (.bool (if neg then !ad.isNone else ad.isNone)) w := by
    intro ad n c hv
    rw [hv, hy']
    have hg : (eqGuard op t x y (.slice ad n c) (.slice none 0 0)).run P w = .ok () w := by
      cases op <;> simp [eqGuard]
    cases neg
    · simp at ho; subst ho
      simp only [Sem.run_bind, hg, Result.andThen_ok, Lib.run_eql_slice_nil w t e ad n c 0 0 hu]
      rfl
    · simp at ho; subst ho
      simp only [Sem.run_bind, hg, Result.andThen_ok, run_neq_slice_nil w t e ad n c hu]
      rfl
  simp only [evP] at he
  split at he
  · rename_i e' hxe
    rw [hxe] at hx
    cases he
    exact ⟨_, fin _ _ _ hx.2, by cases neg <;> rfl⟩
  · rename_i tg e' z zs hxe
    rw [hxe] at hx
    cases he
    have hx' : RI w g.I (.sl .plain e' (z :: zs)) (a.eval x) := by
      cases tg with
      | plain => exact hx
      | nil => exact absurd hx.1 (by simp)
      | tok i => exact hx.1
    generalize hv : a.eval x = v at hx'
    cases hx' with
    | sl _ _ ad n c u hn hw hm hc ha hu =>
      obtain ⟨ad', h2, _⟩ := ha (by rw [hn]; simp)
      subst h2
      have f := fin _ _ _ hv
      rw [hv] at f
      exact ⟨_, f, by cases neg <;> rfl⟩
  · cases he
theorem s_beq {op : BinOp} {t ty : TypeId} {x y : Operand} {x' y' : Opd} {neg : Bool} {p : PV} (ho : (if neg then decide (op = .neq) else decide (op = .eql)) = true) (ht : isBoolT P t = true)
    (h1 : opdOk x x' = true) (h2 : opdOk y y' = true) (he : evP σ.T σ.H (.beq neg x' y') = some p) :
    ∃ v, (do eqGuard op t x y (a.eval x) (a.eval y); binOp op t (a.eval x) (a.eval y) : Sem Value).run P w = .ok v w ∧ R g w σ.H p v := by
  have hu : P.underlying t = some .bool := by
    unfold isBoolT at ht
    split at ht
    · assumption
    · cases ht
  simp only [evP] at he
  split at he
  · rename_i b c e1 e2
    have ex := R_bool hr h1 e1
    have ey := R_bool hr h2 e2
    cases he
    cases neg
    · simp at ho; subst ho
      have hg : (eqGuard .eql t x y (.bool b) (.bool c)).run P w = .ok () w := by simp [eqGuard]
      exact ⟨.bool (b == c), by simp only [ex, ey, Sem.run_bind, hg, Result.andThen_ok, run_eql_bool' hu], rfl⟩
    · simp at ho; subst ho
      have hg : (eqGuard .neq t x y (.bool b) (.bool c)).run P w = .ok () w := by simp [eqGuard]
      exact ⟨.bool (b != c), by simp only [ex, ey, Sem.run_bind, hg, Result.andThen_ok, run_neq_bool' hu], rfl⟩
  · cases he

theorem s_not {x : Operand} {y : Opd} {p : PV} (h : opdOk x y = true) (he : evP σ.T σ.H (.not y) = some p) : ∃ b, a.eval x = .bool b ∧ p = .bool (!b) := by
  simp only [evP] at he
  split at he
  · rename_i b e; cases he; exact ⟨b, R_bool hr h e, rfl⟩
  · cases he

theorem s_cvt {s t : TypeId} {x : Operand} {y : Opd} {k : IntKind} {p : PV} (hs : (P.underlying s).isSome = true) (hk : intKindOf P t = some k) (h : opdOk x y = true) (he : evP σ.T σ.H (.cvt k y) = some p) :
    ∃ v, (convert s t (a.eval x)).run P w = .ok v w ∧ R g w σ.H p v := by
  have hu : P.underlying t = some (.int k) := by
    unfold intKindOf at hk
    split at hk
    · rename_i h'; cases hk; exact h'
    · cases hk
  obtain ⟨d, hd⟩ := Option.isSome_iff_exists.1 hs
  simp only [evP] at he
  split at he
  · rename_i k' n e
    cases he
    refine ⟨.int k (k.wrap n), ?_, rfl⟩
    rw [R_int hr h e]
    simp [convert, run_underlying hu, run_underlying hd, Conv.intToInt]
  · cases he

theorem s_len {t e : TypeId} {ty : TypeId} {x : Operand} {y : Opd} {p : PV} (ht : sliceElem P t = some e) (h : opdOk x y = true) (he : evP σ.T σ.H (.len y) = some p) :
    ∃ v, (Builtin.len_ #[t] ty #[a.eval x]).run P w = .ok v w ∧ R g w σ.H p v := by
  have hu := sliceElem_eq ht
  have hx := opd_R hr h
  simp only [evP, lenV] at he
  split at he
  · rename_i tg e2 es e1
    rw [e1] at hx
    have hh : ∃ aa c, a.eval x = .slice aa es.length c := by
      cases tg with
      | plain =>
        generalize hv : a.eval x = v at hx
        have hx' : RI w g.I (.sl .plain e2 es) v := hx
        cases hx' with
        | sl _ _ aa n c u hn => exact ⟨aa, c, by rw [hn]⟩
      | nil => obtain ⟨rfl, h2⟩ := hx; exact ⟨none, 0, h2⟩
      | tok i =>
        generalize hv : a.eval x = v at hx
        have hx' : RI w g.I (.sl .plain e2 es) v := hx.1
        cases hx' with
        | sl _ _ aa n c u hn => exact ⟨aa, c, by rw [hn]⟩
    obtain ⟨aa, c, hv⟩ := hh
    cases he
    exact ⟨_, by simp [Builtin.len_, run_underlying hu, hv, goInt], rfl⟩
  · rename_i i e2 n e1
    rw [e1] at hx
    cases he
    exact ⟨_, by simp [Builtin.len_, run_underlying hu, hx.2, goInt], rfl⟩
  · cases he

theorem s_fa {t : TypeId} {x : Operand} {y : Opd} {f off : Nat} {fs : Array Field} {fd : Field} {p : PV} (ht : structFields P t = some fs) (hf : fs[f]? = some fd) (ho : fd.offset = off)
    (hn : ∃ n, (P.info? fd.type).map (·.size) = some n ∧ n ≠ 0) (h : opdOk x y = true) (he : evP σ.T σ.H (.fa y off) = some p) :
    ∃ v, (Instr.fieldAt t (a.eval x) f).run P w = .ok v w ∧ R g w σ.H p v := by
  have hu := structFields_eq ht
  obtain ⟨n, hn1, hn0⟩ := hn
  have hx := opd_R hr h
  have key : ∀ ad : Addr, ad.spot = none → a.eval x = .pointer (some ad) → (Instr.fieldAt t (a.eval x) f).run P w = .ok (.pointer (some ⟨ad.block, ad.off + off, none⟩)) w := fun ad hs hv => by
    simp [Instr.fieldAt, run_underlying hu, hf, hv, Instr.sureAddr, fieldPlace, run_sizeOf hn1, hn0, ho, add_none hs]
  simp only [evP, faV] at he
  split at he
  · rename_i i o e
    rw [e] at hx
    cases he
    exact ⟨_, key _ rfl hx.2, ⟨hx.1, rfl⟩⟩
  · rename_i cs e
    rw [e] at hx
    split at he
    · rename_i hle
      cases he
      obtain ⟨ad, h1, h2⟩ := hx
      refine ⟨_, key ad h2.1 h1, ⟨_, rfl, rfl, fun j hj => ?_⟩⟩
      have hj' : off + j < cs.length := by simp at hj; omega
      obtain ⟨h3, u, h4, h5⟩ := h2.2 (off + j) hj'
      refine ⟨by simp only; omega, u, ?_, ?_⟩
      · simp only; rw [Nat.add_assoc]; exact h4
      · simpa [List.getElem_drop] using h5
    · cases he
  · rename_i i e2 idx o e
    rw [e] at hx
    cases he
    refine ⟨_, key _ rfl hx.2, ⟨hx.1, ?_⟩⟩
    simp only [Nat.add_assoc]
  · cases he

theorem s_ext {x : Operand} {y : Opd} {i : Nat} {p : PV} (h : opdOk x y = true) (he : evP σ.T σ.H (.ext y i) = some p) :
    ∃ v, (Instr.extract (a.eval x) i).run P w = .ok v w ∧ R g w σ.H p v := by
  have hx := opd_R hr h
  simp only [evP] at he
  split at he
  · rename_i ps e
    rw [e] at hx
    obtain ⟨vs, hv, h2⟩ := hx
    obtain ⟨v, h3, h4⟩ := All2_getElem? h2 he
    refine ⟨v, ?_, R_of_R1 h4⟩
    have h3' : vs[i]? = some v := by simpa using h3
    simp [Instr.extract, hv, h3']
  · cases he

theorem s_mm {ty : TypeId} {ats : Array TypeId} {mx : Bool} {x y : Operand} {x' y' : Opd} {p : PV} (h1 : opdOk x x' = true) (h2 : opdOk y y' = true) (he : evP σ.T σ.H (.mm mx x' y') = some p) :
    ∃ v, ((if mx then Builtin.max_ ats ty #[a.eval x, a.eval y] else Builtin.min_ ats ty #[a.eval x, a.eval y])).run P w = .ok v w ∧ R g w σ.H p v := by
  simp only [evP] at he
  split at he
  · rename_i k m k' n e1 e2
    cases he
    refine ⟨_, ?_, rfl⟩
    cases mx
    · simp [Builtin.min_, R_int hr h1 e1, R_int hr h2 e2, Builtin.min2]
    · simp [Builtin.max_, R_int hr h1 e1, R_int hr h2 e2, Builtin.max2]
  · cases he

theorem s_mkf {caps : List Operand} {cs : List Opd} {f : Nat} {p : PV} (h : opdsOk caps cs = true) (he : evP σ.T σ.H (.mkf f cs) = some p) :
    R g w σ.H p (.func (.func f) #[] (caps.map a.eval).toArray) := by
  simp only [evP] at he
  split at he
  · rename_i hp
    cases he
    have h2 := opds_R hr h
    refine ⟨_, rfl, ?_⟩
    simp only
    generalize cs.map (·.ev σ.T) = ps at hp h2
    generalize caps.map a.eval = vs at h2
    induction h2 with
    | nil => exact .nil
    | @cons q v ps vs h3 _ ih =>
      cases q with
      | ptr i off =>
        cases off with
        | zero => exact .cons h3 (ih hp)
        | succ => simp [allPtr] at hp
      | _ => simp [allPtr] at hp
  · cases he
end
end Go.Px
/- Cuts, elements, wholes: held against the machine's. -/
set_option linter.unusedVariables false
set_option linter.unusedSimpArgs false
namespace Go.Px
open Go

/-- The form of a slice's value. -/
theorem sl_R {g : Gh} {w : World} {H : Nat → Obj} {tg : Tag} {e : Nat} {es : List (List PV)} {v : Value} (h : R g w H (.sl tg e es) v) : RI w g.I (.sl .plain e es) v := by
  cases tg with
  | plain => exact h
  | nil =>
    obtain ⟨rfl, rfl⟩ := h
    exact .sl e [] none 0 0 (fun _ _ => undef) rfl (by simp) (Nat.zero_le _) (Nat.le_refl _) (fun h => absurd h (by omega)) (fun j q hj => absurd hj (by simp))
  | tok i => exact h.1

theorem run_asIntOf (P : Program) (w : World) (k : IntKind) (n : Int) : (asIntOf (.int k n)).run P w = .ok (k, n) w := rfl

section
variable {P : Program} {N : Nat} {σ : St} {a : Act} {w : World} {g : Gh} (hr : Rel N σ a w g)
include hr

theorem s_ia {t e : TypeId} {x i : Operand} {y j : Opd} {esz : Nat} {p : PV} (ht : sliceElem P t = some e) (hs : szOk P e esz = true) (h1 : opdOk x y = true) (h2 : opdOk i j = true) (he : evP σ.T σ.H (.ia esz y j) = some p) :
    ∃ v, (Instr.indexAt t (a.eval x) (a.eval i)).run P w = .ok v w ∧ R g w σ.H p v := by
  have hu := sliceElem_eq ht
  have hsz := run_sizeOf (szOk_eq hs)
  have hx := opd_R hr h1
  simp only [evP, iaV] at he
  split at he
  · rename_i tg e2 es k n e1 e3
    rw [e1] at hx
    have hi := R_int hr h2 e3
    split at he
    · rename_i hc
      obtain ⟨rfl, h0⟩ := hc
      simp only [Option.map_eq_some_iff] at he
      obtain ⟨cs, hcs, rfl⟩ := he
      obtain ⟨hlt, rfl⟩ := List.getElem?_eq_some_iff.1 hcs
      have hri := sl_R hx
      generalize a.eval x = v at hri hx ⊢
      cases hri with
      | sl _ _ ao m c u hn hw hm hc ha hu' =>
        obtain ⟨ad, rfl, hsp, hI, hcell⟩ := ha (by omega)
        refine ⟨.pointer (some (ad.add (n.toNat * e2))), ?_, ⟨_, rfl, by rw [add_none hsp], fun q hq => ?_⟩⟩
        · have hb : 0 ≤ n ∧ n < (m : Int) := ⟨h0, by omega⟩
          simp [Instr.indexAt, hi, run_asIntOf, run_underlying hu, hsz, hb]
        · have hw' : es[n.toNat].length = e2 := hw _ (List.getElem_mem _)
          rw [add_none hsp]
          have h3 := idx_lt (show n.toNat < m by omega) (show q < e2 by omega)
          refine ⟨by simp only; omega, u n.toNat q, ?_, hu' _ _ hlt hq⟩
          have := hcell n.toNat q (by omega) (by omega)
          simp only
          rw [Nat.add_assoc]
          exact this
    · cases he
  · rename_i b e2 m k n e1 e3
    rw [e1] at hx
    have hi := R_int hr h2 e3
    split at he
    · rename_i hc
      obtain ⟨rfl, h0, hlt⟩ := hc
      cases he
      obtain ⟨⟨es, hes, hlen⟩, hv⟩ := hx
      refine ⟨.pointer (some ((⟨g.κ b, 0, none⟩ : Addr).add (n.toNat * e2))), ?_, ⟨⟨es, hes⟩, by rw [add_none rfl]; simp⟩⟩
      simp [Instr.indexAt, hi, hv, run_asIntOf, run_underlying hu, hsz, h0, hlt]
    · cases he
  · cases he

theorem opt_ev {x : Option Operand} {y : Option Opd} {n : Int} {k : IntKind} (h : optOk x y = true) (e : y.map (·.ev σ.T) = some (.int k n)) : x.map a.eval = some (.int k n) := by
  cases x with
  | none => cases y <;> simp [optOk] at h e
  | some x => cases y with
    | none => simp at e
    | some y =>
      simp [optOk] at h
      simp at e
      simp [R_int hr h e]
omit hr in
theorem opt_none {x : Option Operand} {y : Option Opd} (h : optOk x y = true) (e : y.map (·.ev σ.T) = none) : x.map a.eval = none := by
  cases x with
  | none => rfl
  | some x => cases y <;> simp [optOk] at h e

theorem s_slc {t e : TypeId} {x : Operand} {lo hi : Option Operand} {y : Opd} {lo' hi' : Option Opd} {esz : Nat} {p : PV} (ht : sliceElem P t = some e) (hs : szOk P e esz = true) (h1 : opdOk x y = true)
    (hl : optOk lo lo' = true) (hh : optOk hi hi' = true) (he : evP σ.T σ.H (.slc esz y lo' hi') = some p) :
    ∃ v, (Instr.sliceAt t (a.eval x) (lo.map a.eval) (hi.map a.eval) none).run P w = .ok v w ∧ R g w σ.H p v := by
  have hu := sliceElem_eq ht
  have hsz := run_sizeOf (szOk_eq hs)
  have hx := opd_R hr h1
  simp only [evP, slcV] at he
  split at he
  · rename_i tg e2 es e1
    rw [e1] at hx
    have hri := sl_R hx
    split at he
    · rename_i l h hL hH
      split at he
      · rename_i hc
        obtain ⟨rfl, h0, hlh, hhn⟩ := hc
        cases he
        generalize a.eval x = v at hri hx ⊢
        cases hri with
        | sl _ _ ao m c u hn hw hm hcap ha hu' =>
          -- the bounds
          have bh : (match hi.map a.eval, (none : Option Value) with
              | some v, some _ => Instr.sliceBound v c .slice3B
              | some v, none => Instr.sliceBound v c .sliceAcap
              | none, none => pure m
              | none, some _ => stuck "Slice: max without high" : Sem Nat).run P w = .ok h.toNat w := by
            cases hq : hi'.map (·.ev σ.T) with
            | none =>
              rw [hq] at hH
              cases hH
              simp [opt_none hh hq, hn]
            | some pv =>
              rw [hq] at hH
              cases pv <;> simp at hH
              subst hH
              rw [opt_ev hr hh hq]
              simp only [Instr.sliceBound, Sem.run_bind, run_asIntOf, Result.andThen_ok]
              rw [if_pos (by omega)]
              rfl
          have bl : (match lo.map a.eval with
              | some v => Instr.sliceBound v h.toNat .sliceB
              | none => pure 0 : Sem Nat).run P w = .ok l.toNat w := by
            cases hq : lo'.map (·.ev σ.T) with
            | none =>
              rw [hq] at hL
              cases hL
              simp [opt_none hl hq]
            | some pv =>
              rw [hq] at hL
              cases pv <;> simp at hL
              subst hL
              rw [opt_ev hr hl hq]
              simp only [Instr.sliceBound, Sem.run_bind, run_asIntOf, Result.andThen_ok]
              rw [if_pos (by omega)]
              rfl
          have hrun : (Instr.sliceAt t (.slice ao m c) (lo.map a.eval) (hi.map a.eval) none).run P w =
              .ok (.slice (if c = l.toNat then ao else ao.map (·.add (l.toNat * e2))) (h.toNat - l.toNat) (c - l.toNat)) w := by
            have b1 : (Instr.sliceBounds true m c (lo.map a.eval) (hi.map a.eval) none).run P w = .ok (l.toNat, h.toNat, c) w := by
              unfold Instr.sliceBounds
              simp only [Sem.run_bind, Sem.run_pure, Result.andThen_ok, if_true, Option.isSome_none, Bool.false_eq_true, if_false]
              have bh' := bh
              have bl' := bl
              cases hq : hi.map a.eval with
              | none =>
                rw [hq] at bh'
                simp only [Sem.run_pure] at bh'
                simp only [Sem.run_bind, bh', Result.andThen_ok, Sem.run_pure]
                cases hq2 : lo.map a.eval with
                | none => rw [hq2] at bl'; simp only [Sem.run_bind, bl', Result.andThen_ok, Sem.run_pure]
                | some v2 => rw [hq2] at bl'; simp only at bl'; simp only [Sem.run_bind, bl', Result.andThen_ok, Sem.run_pure]
              | some v1 =>
                rw [hq] at bh'
                simp only at bh'
                simp only [Sem.run_bind, bh', Result.andThen_ok, Sem.run_pure]
                cases hq2 : lo.map a.eval with
                | none => rw [hq2] at bl'; simp only [Sem.run_bind, bl', Result.andThen_ok, Sem.run_pure]
                | some v2 => rw [hq2] at bl'; simp only at bl'; simp only [Sem.run_bind, bl', Result.andThen_ok, Sem.run_pure]
            unfold Instr.sliceAt
            simp only [Sem.run_bind, run_underlying hu, Result.andThen_ok]
            unfold Instr.slice
            simp only [Sem.run_bind, run_underlying hu, Result.andThen_ok, b1, hsz, Sem.run_pure]
          refine ⟨_, hrun, ?_⟩
          refine .sl e2 _ _ _ _ (fun j q => u (l.toNat + j) q) (by clear ha; simp; omega) (fun z hz => hw z (List.mem_of_mem_take (List.mem_of_mem_drop hz))) (by clear ha; omega) (by clear ha; omega) (fun hpos => ?_) (fun j q hj hq => ?_)
          · have hm0 : 0 < m := by clear ha; omega
            have ha0 := ha hm0
            clear ha
            obtain ⟨ad, rfl, hsp, hI, hcell⟩ := ha0
            have hne : c ≠ l.toNat := by omega
            rw [if_neg hne]
            refine ⟨ad.add (l.toNat * e2), rfl, by rw [add_none hsp], ?_, fun j q hj hq => ?_⟩
            · rw [add_none hsp]
              simp only
              have h5 : l.toNat * e2 + (h.toNat - l.toNat) * e2 ≤ m * e2 := by
                rw [← Nat.add_mul]
                exact Nat.mul_le_mul_right e2 (by omega)
              omega
            · rw [add_none hsp]
              have h6 := hcell (l.toNat + j) q (by omega) hq
              simp only
              rw [← h6]
              congr 2
              rw [Nat.add_mul]
              omega
          · have hj' : l.toNat + j < es.length := by simp at hj; omega
            have e6 : ((es.take h.toNat).drop l.toNat)[j] = es[l.toNat + j] := by simp [List.getElem_drop, List.getElem_take]
            have hq' : q < es[l.toNat + j].length := by rw [← e6]; exact hq
            have h7 := hu' (l.toNat + j) q hj' hq'
            simp only [List.getElem_drop, List.getElem_take]
            exact h7
      · cases he
    · cases he
  · cases he

end
end Go.Px
/- Fields of wholes, and wholes that are built. -/
set_option linter.unusedVariables false
set_option linter.unusedSimpArgs false
namespace Go.Px
open Go

theorem extract_eq (vs : Array Value) (off n : Nat) : vs.extract off (off + n) = ((vs.toList.drop off).take n).toArray := by
  apply Array.ext'
  simp [List.extract_eq_take_drop, List.take_drop]

section
variable {P : Program} {N : Nat} {σ : St} {a : Act} {w : World} {g : Gh} (hr : Rel N σ a w g)
include hr
theorem s_fld {t : TypeId} {x : Operand} {y : Opd} {f off n : Nat} {ag : Bool} {fs : Array Field} {fd : Field} {p : PV} (ht : structFields P t = some fs) (hf : fs[f]? = some fd) (ho : fd.offset = off)
    (hn : szOk P fd.type n = true) (ha : aggT P fd.type = some ag) (h1 : ag = true ∨ n = 1) (h : opdOk x y = true) (he : evP σ.T σ.H (.fld n ag y off) = some p) :
    ∃ v, (Instr.field t (a.eval x) f).run P w = .ok v w ∧ R g w σ.H p v := by
  have hu := structFields_eq ht
  have hsz := run_sizeOf (szOk_eq hn)
  have hx := opd_R hr h
  simp only [evP] at he
  split at he
  · rename_i cs e
    rw [e] at hx
    obtain ⟨vs, hv, h2⟩ := hx
    split at he
    · rename_i hle
      have h3 := (h2.drop off).take n
      have h4 := mkV_R he h3
      have hl := h2.length
      have hrun : (Instr.field t (a.eval x) f).run P w = (part fd.type vs off).run P w := by
        unfold Instr.field
        rw [hv]
        simp only [Sem.run_bind, run_underlying hu, Result.andThen_ok, hf, asAgg, Sem.run_pure, ho]
      rw [hrun]
      unfold part
      simp only [Sem.run_bind, run_isAgg ha, Result.andThen_ok]
      cases ag with
      | true =>
        refine ⟨_, ?_, h4⟩
        simp only [if_true, Sem.run_bind, hsz, Result.andThen_ok, Sem.run_pure, extract_eq]
      | false =>
        have hn1 : n = 1 := by simpa using h1
        subst hn1
        simp only [Bool.false_eq_true, if_false] at h4 ⊢
        obtain ⟨v, h5, h6⟩ := h4
        refine ⟨v, ?_, h6⟩
        have h7 : vs[off]? = some v := by
          have h8 : ((vs.toList.drop off).take 1)[0]? = some v := by rw [h5]; rfl
          rw [List.getElem?_take] at h8
          simpa using h8
        rw [h7]
        rfl
    · cases he
  · cases he
end

/-! ### built wholes -/
theorem splice_foldl (cells : List Value) (off : Nat) : ∀ (vs : List Value) (k : Nat), off + k + vs.length ≤ cells.length →
    ((vs.zipIdx k).foldl (fun (cs : Array Value) (x : Value × Nat) => cs.setIfInBounds (off + x.2) x.1) cells.toArray).toList = cells.take (off + k) ++ (vs ++ cells.drop (off + k + vs.length))
  | [], k, _ => by simp
  | v :: vs, k, h => by
    simp only [List.zipIdx_cons, List.foldl_cons, List.length_cons] at h ⊢
    have e : (cells.toArray.setIfInBounds (off + k) v) = (cells.set (off + k) v).toArray := by simp
    rw [e, splice_foldl (cells.set (off + k) v) off vs (k + 1) (by simp; omega)]
    have hlt : off + k < cells.length := by omega
    rw [List.set_eq_take_append_cons_drop, if_pos hlt]
    have l1 : (cells.take (off + k)).length = off + k := by simp; omega
    rw [List.take_append, List.drop_append, l1]
    have e1 : off + (k + 1) - (off + k) = 1 := by omega
    have e2 : off + (k + 1) + vs.length - (off + k) = vs.length + 1 := by omega
    rw [e1, e2]
    simp only [List.take_succ_cons, List.take_zero, List.drop_succ_cons, List.drop_drop]
    have e3 : List.take (off + (k + 1)) (List.take (off + k) cells) = List.take (off + k) cells := by
      rw [List.take_take]; congr 1; omega
    have e4 : List.drop (off + (k + 1) + vs.length) (List.take (off + k) cells) = [] := by
      apply List.drop_eq_nil_of_le; simp; omega
    rw [e3, e4]
    simp only [List.append_assoc, List.cons_append, List.nil_append]
    congr 4
    omega

theorem fill_R {g : Gh} {w : World} {H : Nat → Obj} (place : Nat → Option (Nat × Nat)) : ∀ (parts : List (Nat × Value)) (l : List (Nat × List PV)) (cells : List Value) (cs cs' : List PV),
    All2 (fun (x : Nat × Value) (y : Nat × List PV) => place x.1 = some (y.1, y.2.length) ∧ All2 (RC g w H) y.2 x.2.cells.toList) parts l → All2 (RC g w H) cs cells → putAt cs l = some cs' →
    ∃ cells' : List Value, Instr.fill place cells.toArray parts = some cells'.toArray ∧ All2 (RC g w H) cs' cells'
  | [], [], cells, cs, cs', _, h2, h3 => by
    simp [putAt] at h3
    subst h3
    exact ⟨cells, rfl, h2⟩
  | x :: parts, y :: l, cells, cs, cs', h1, h2, h3 => by
    cases h1 with
    | cons hx hrest =>
      obtain ⟨i, v⟩ := x
      obtain ⟨off, ps⟩ := y
      simp only at hx
      have hlen : v.cells.size = ps.length := by have := hx.2.length; simpa using this.symm
      simp only [putAt] at h3
      split at h3
      · rename_i hle
        have hcl := h2.length
        have hsp := splice_foldl cells off v.cells.toList 0 (by simp; omega)
        have hnew : All2 (RC g w H) (cs.take off ++ (ps ++ cs.drop (off + ps.length))) ((v.cells.zipIdx.foldl (fun cs (c, j) => cs.setIfInBounds (off + j) c) cells.toArray).toList) := by
          have e1 : v.cells.zipIdx.foldl (fun cs (c, j) => cs.setIfInBounds (off + j) c) cells.toArray = (v.cells.toList.zipIdx 0).foldl (fun (cs : Array Value) (x : Value × Nat) => cs.setIfInBounds (off + x.2) x.1) cells.toArray := by
            rw [← Array.foldl_toList]
            simp
          rw [e1, hsp]
          simp only [Nat.add_zero, Array.length_toList, hlen]
          exact (h2.take off).append (hx.2.append (h2.drop _))
        obtain ⟨cells', h4, h5⟩ := fill_R place parts l _ _ _ hrest hnew h3
        refine ⟨cells', ?_, h5⟩
        simp only [Instr.fill, hx.1]
        have c1 : (decide (v.cells.size ≠ ps.length) || decide (off + v.cells.size > cells.toArray.size)) = false := by
          simp [hlen]; omega
        rw [if_neg (by rw [c1]; simp)]
        rw [← h4]
      · cases h3
  | [], _ :: _, _, _, _, h, _, _ => by cases h
  | _ :: _, [], _, _, _, h, _, _ => by cases h

theorem mapM_places {P : Program} (w : World) : ∀ (fs : List Field), (∀ f ∈ fs, ∃ n, (P.info? f.type).map (·.size) = some n) →
    (fs.mapM fun f => (do pure (f.offset, ← sizeOf f.type) : Sem (Nat × Nat))).run P w = .ok (fs.map fun f => (f.offset, ((P.info? f.type).map (·.size)).getD 0)) w
  | [], _ => rfl
  | f :: fs, h => by
    obtain ⟨n, hn⟩ := h f (by simp)
    have ih := mapM_places w fs fun f hf => h f (by simp [hf])
    simp only [List.mapM_cons, Sem.run_bind, run_sizeOf hn, Result.andThen_ok, Sem.run_pure, ih, List.map_cons, hn, Option.getD_some]

section
variable {P : Program} {N : Nat} {σ : St} {a : Act} {w : World} {g : Gh} (hr : Rel N σ a w g)
include hr
theorem partsOf_R (fs : Array Field) : ∀ (parts : List (Nat × Operand)) (ps : List (Nat × Nat × Opd)) (l : List (Nat × List PV)), partOk P fs parts ps = true → partsOf σ.T ps = some l →
    All2 (fun (x : Nat × Value) (y : Nat × List PV) => ((fs.map fun f => (f.offset, ((P.info? f.type).map (·.size)).getD 0)))[x.1]? = some (y.1, y.2.length) ∧ All2 (RC g w σ.H) y.2 x.2.cells.toList) (parts.map fun (i, x) => (i, a.eval x)) l
  | [], [], l, _, h => by simp [partsOf] at h; subst h; exact .nil
  | (i, x) :: parts, (off, n, y) :: ps, l, h1, h2 => by
    simp only [partOk, Bool.and_eq_true] at h1
    obtain ⟨⟨h3, h4⟩, h5⟩ := h1
    split at h3
    · rename_i f hf
      simp only [Bool.and_eq_true, beq_iff_eq] at h3
      simp only [partsOf] at h2
      split at h2
      · rename_i hc
        simp only [Option.map_eq_some_iff] at h2
        obtain ⟨l', h6, rfl⟩ := h2
        refine .cons ⟨?_, cells_R (opd_R hr h4) hc.2⟩ (partsOf_R fs parts ps l' h5 h6)
        simp only [Array.getElem?_map, hf, Option.map_some, h3.1, szOk_eq h3.2, Option.getD_some, hc.1]
      · cases h2
    · cases h3
  | [], _ :: _, _, h, _ => by simp [partOk] at h
  | _ :: _, [], _, h, _ => by simp [partOk] at h

theorem s_bld {t : TypeId} {parts : Array (Nat × Operand)} {zs : List PV} {ps : List (Nat × Nat × Opd)} {fs : Array Field} {p : PV} (ht : structFields P t = some fs) (hfs : (fs.toList.all fun f => (P.info? f.type).isSome) = true)
    (hz : zeroOk P t zs = true) (hp : partOk P fs parts.toList ps = true) (he : evP σ.T σ.H (.bld zs ps) = some p) :
    ∃ v, (Instr.build t (parts.map fun (i, x) => (i, a.eval x))).run P w = .ok v w ∧ R g w σ.H p v := by
  have hu := structFields_eq ht
  simp only [evP] at he
  split at he
  · rename_i l hl
    simp only [Option.map_eq_some_iff] at he
    obtain ⟨cs, hcs, rfl⟩ := he
    unfold zeroOk at hz
    split at hz
    · rename_i z hzz
      have h1 := partsOf_R hr fs parts.toList ps l hp hl
      obtain ⟨cells', h2, h3⟩ := fill_R _ _ _ _ _ _ h1 (constCs_RC hz g w σ.H) hcs
      refine ⟨.agg cells'.toArray, ?_, ⟨_, rfl, by simpa using h3⟩⟩
      have hzv : (zeroValue t).run P w = .ok z w := by
        cases hi : P.info? t with
        | none => simp [hi] at hzz
        | some i => simp [hi] at hzz; simp [zeroValue, typeInfo, hi, hzz]
      have hpl : (fs.mapM fun f => (do pure (f.offset, ← sizeOf f.type) : Sem (Nat × Nat))).run P w = .ok (fs.map fun f => (f.offset, ((P.info? f.type).map (·.size)).getD 0)) w := by
        rw [Array.mapM_eq_mapM_toList]
        have := mapM_places (P := P) w fs.toList fun f hf => by
          have h4 := List.all_eq_true.1 hfs f hf
          obtain ⟨i, hi⟩ := Option.isSome_iff_exists.1 h4
          exact ⟨i.size, by simp [hi]⟩
        simp only [Sem.run_map, this, Result.andThen_ok]
        congr 1
        apply Array.ext'
        simp
      unfold Instr.build
      simp only [Sem.run_bind, hzv, Result.andThen_ok, run_underlying hu, hpl]
      have e1 : (parts.map fun (x : Nat × Operand) => (x.1, a.eval x.2)).toList = parts.toList.map fun (i, x) => (i, a.eval x) := by simp
      rw [e1]
      have h2' : Instr.fill (fun x => (fs.map fun f => (f.offset, ((P.info? f.type).map (·.size)).getD 0))[x]?) z.cells (parts.toList.map fun (i, x) => (i, a.eval x)) = some cells'.toArray := by
        rw [Array.toArray_toList] at h2
        exact h2
      rw [h2']
      rfl
    · cases hz
  · cases he

def fieldsKnown (P : Program) (t : TypeId) : Bool :=
  match structFields P t with
  | some fs => fs.toList.all fun f => (P.info? f.type).isSome
  | none => false
def popOk' (P : Program) (o : Op) (m : POp) : Bool :=
  popOk P o m && (match o with | .build t _ => fieldsKnown P t | _ => true)

/-- EVERY OPERATION THAT ONLY READS. -/
theorem pop_sound {o : Oper} {m : POp} {p : PV} (h : popOk' P o.op m = true) (he : evP σ.T σ.H m = some p) :
    ∃ v, (execOp a.eval o).run P w = .ok (.value v) w ∧ R g w σ.H p v := by
  simp only [popOk', Bool.and_eq_true] at h
  obtain ⟨h, hk⟩ := h
  obtain ⟨dst, op, type, pos, after, guard⟩ := o
  simp only at h hk
  cases m with
  | mv y =>
    cases op <;> simp only [popOk] at h <;> first | (exact Bool.noConfusion h) | skip
    · exact ⟨_, rfl, s_mv hr h he⟩
    · exact ⟨_, rfl, s_mv hr h he⟩
  | pick c a' b' =>
    cases op <;> simp only [popOk] at h <;> first | (exact Bool.noConfusion h) | skip
    simp only [Bool.and_eq_true] at h
    obtain ⟨t, h1, h2⟩ := s_pick hr h.1.1 h.1.2 h.2 he
    refine ⟨_, ?_, h2⟩
    simp only [execOp, h1, asBool, Sem.run_bind, Sem.run_pure, Result.andThen_ok]
  | bld zs ps =>
    cases op <;> simp only [popOk] at h <;> first | (exact Bool.noConfusion h) | skip
    split at h
    · rename_i fs hfs
      simp only [Bool.and_eq_true] at h
      simp only [fieldsKnown, hfs] at hk
      obtain ⟨v, h1, h2⟩ := s_bld hr hfs hk h.1 h.2 he
      refine ⟨v, ?_, h2⟩
      simp only [execOp, Sem.run_bind, h1, Result.andThen_ok, Sem.run_pure]
    · cases h
  | ld n ag y =>
    cases op <;> simp only [popOk] at h <;> first | (exact Bool.noConfusion h) | skip
    simp only [Bool.and_eq_true, beq_iff_eq, Bool.or_eq_true] at h
    obtain ⟨v, h1, h2⟩ := s_ld hr h.1.1.1 h.1.1.2 h.1.2 h.2 he
    exact ⟨v, by simp only [execOp, Sem.run_bind, h1, Result.andThen_ok, Sem.run_pure], h2⟩
  | lda i n ag y =>
    cases op <;> simp only [popOk] at h <;> first | (exact Bool.noConfusion h) | skip
    simp only [Bool.and_eq_true, beq_iff_eq, Bool.or_eq_true] at h
    obtain ⟨v, h1, h2⟩ := s_ld hr h.1.1.1 h.1.1.2 h.1.2 h.2 (s_lda hr he)
    exact ⟨v, by simp only [execOp, Sem.run_bind, h1, Result.andThen_ok, Sem.run_pure], h2⟩
  | ldv n ag y =>
    cases op <;> simp only [popOk] at h <;> first | (exact Bool.noConfusion h) | skip
    simp only [Bool.and_eq_true, beq_iff_eq, Bool.or_eq_true] at h
    obtain ⟨v, h1, h2⟩ := s_ld hr h.1.1.1 h.1.1.2 h.1.2 h.2 (s_ldv hr he)
    exact ⟨v, by simp only [execOp, Sem.run_bind, h1, Result.andThen_ok, Sem.run_pure], h2⟩
  | nilc y =>
    cases op <;> simp only [popOk] at h <;> first | (exact Bool.noConfusion h) | skip
    obtain ⟨ad, h1, h2⟩ := s_nilc hr h he
    refine ⟨_, ?_, h2⟩
    simp only [execOp, h1, Sem.run_pure]
  | bin op' x y =>
    cases op <;> simp only [popOk] at h <;> first | (exact Bool.noConfusion h) | skip
    simp only [Bool.and_eq_true, decide_eq_true_eq] at h
    obtain ⟨⟨rfl, h1⟩, h2⟩ := h
    rename_i t x0 y0 ty
    obtain ⟨v, h3, h4⟩ := s_bin hr (t := t) (ty := ty) h1 h2 he
    refine ⟨v, ?_, h4⟩
    simp only [execOp, Sem.run_bind] at h3 ⊢
    rw [h3]
    rfl
  | beq neg x y =>
    cases op <;> simp only [popOk] at h <;> first | (exact Bool.noConfusion h) | skip
    simp only [Bool.and_eq_true] at h
    obtain ⟨⟨⟨h0, ht⟩, h1⟩, h2⟩ := h
    rename_i op0 t x0 y0 ty
    obtain ⟨v, h3, h4⟩ := s_beq hr (t := t) (ty := ty) h0 ht h1 h2 he
    refine ⟨v, ?_, h4⟩
    simp only [execOp, Sem.run_bind] at h3 ⊢
    rw [h3]
    rfl
  | isnil neg x =>
    cases op <;> simp only [popOk] at h <;> first | (exact Bool.noConfusion h) | skip
    simp only [Bool.and_eq_true] at h
    obtain ⟨⟨⟨h0, ht⟩, h1⟩, h2⟩ := h
    rename_i op0 t x0 y0 ty
    obtain ⟨v, h3, h4⟩ := s_isnil hr (t := t) (ty := ty) h0 ht h1 h2 he
    refine ⟨v, ?_, h4⟩
    simp only [execOp, Sem.run_bind] at h3 ⊢
    rw [h3]
    rfl
  | not y =>
    cases op <;> simp only [popOk] at h <;> first | (exact Bool.noConfusion h) | skip
    simp only [Bool.and_eq_true, decide_eq_true_eq] at h
    obtain ⟨rfl, h1⟩ := h
    obtain ⟨b, h2, rfl⟩ := s_not hr h1 he
    refine ⟨.bool (!b), ?_, rfl⟩
    simp only [execOp, h2, Op.unary, Sem.run_bind, Sem.run_pure, Result.andThen_ok]
  | cvt k y =>
    cases op <;> simp only [popOk] at h <;> first | (exact Bool.noConfusion h) | skip
    simp only [Bool.and_eq_true, beq_iff_eq] at h
    obtain ⟨v, h1, h2⟩ := s_cvt hr h.1.1 h.1.2 h.2 he
    exact ⟨v, by simp only [execOp, Sem.run_bind, h1, Result.andThen_ok, Sem.run_pure], h2⟩
  | slc esz y lo hi =>
    cases op <;> simp only [popOk] at h <;> first | (exact Bool.noConfusion h) | skip
    rename_i t x0 lo0 hi0 mx
    cases mx with
    | some _ => simp [popOk] at h
    | none =>
      simp only [popOk, Bool.and_eq_true] at h
      obtain ⟨⟨⟨h1, h2⟩, h3⟩, h4⟩ := h
      split at h1
      · rename_i e he'
        obtain ⟨v, h5, h6⟩ := s_slc hr he' h1 h2 h3 h4 he
        refine ⟨v, ?_, h6⟩
        simp only [execOp, Sem.run_bind, Option.map_none, h5, Result.andThen_ok, Sem.run_pure]
      · cases h1
  | fa y off =>
    cases op <;> simp only [popOk] at h <;> first | (exact Bool.noConfusion h) | skip
    simp only [Bool.and_eq_true] at h
    obtain ⟨h1, h2⟩ := h
    split at h1
    · rename_i fs hfs
      split at h1
      · rename_i fd hfd
        simp only [Bool.and_eq_true, beq_iff_eq] at h1
        obtain ⟨h3, h4⟩ := h1
        split at h4
        · rename_i n hn
          obtain ⟨v, h5, h6⟩ := s_fa hr hfs hfd h3 ⟨n, hn, by simpa using h4⟩ h2 he
          exact ⟨v, by simp only [execOp, Sem.run_bind, h5, Result.andThen_ok, Sem.run_pure], h6⟩
        · cases h4
      · cases h1
    · cases h1
  | fld n ag y off =>
    cases op <;> simp only [popOk] at h <;> first | (exact Bool.noConfusion h) | skip
    simp only [Bool.and_eq_true] at h
    obtain ⟨h1, h2⟩ := h
    split at h1
    · rename_i fs hfs
      split at h1
      · rename_i fd hfd
        simp only [Bool.and_eq_true, beq_iff_eq, Bool.or_eq_true] at h1
        obtain ⟨⟨⟨h3, h4⟩, h5⟩, h6⟩ := h1
        obtain ⟨v, h7, h8⟩ := s_fld hr hfs hfd h3 h4 h5 h6 h2 he
        exact ⟨v, by simp only [execOp, Sem.run_bind, h7, Result.andThen_ok, Sem.run_pure], h8⟩
      · cases h1
    · cases h1
  | ia esz y j =>
    cases op <;> simp only [popOk] at h <;> first | (exact Bool.noConfusion h) | skip
    simp only [Bool.and_eq_true] at h
    obtain ⟨⟨h1, h2⟩, h3⟩ := h
    split at h1
    · rename_i e he'
      obtain ⟨v, h5, h6⟩ := s_ia hr he' h1 h2 h3 he
      exact ⟨v, by simp only [execOp, Sem.run_bind, h5, Result.andThen_ok, Sem.run_pure], h6⟩
    · cases h1
  | ext y j =>
    cases op <;> simp only [popOk] at h <;> first | (exact Bool.noConfusion h) | skip
    simp only [Bool.and_eq_true, beq_iff_eq] at h
    obtain ⟨rfl, h2⟩ := h
    obtain ⟨v, h5, h6⟩ := s_ext (P := P) hr h2 he
    exact ⟨v, by simp only [execOp, Sem.run_bind, h5, Result.andThen_ok, Sem.run_pure], h6⟩
  | len y =>
    cases op <;> simp only [popOk] at h <;> first | (exact Bool.noConfusion h) | skip
    rename_i c
    obtain ⟨callee, args, argTypes⟩ := c
    simp only at h
    split at h
    · rename_i h2 h3
      obtain rfl : args = #[_] := by apply Array.ext'; simpa using h2
      obtain rfl : argTypes = #[_] := by apply Array.ext'; simpa using h3
      simp only [Bool.and_eq_true] at h
      obtain ⟨e, he'⟩ := Option.isSome_iff_exists.1 h.1
      obtain ⟨v, h5, h6⟩ := s_len hr (ty := type) he' h.2 he
      refine ⟨v, ?_, h6⟩
      simp only [execOp, resolve, Sem.run_bind, Sem.run_pure, Result.andThen_ok, invoke, builtin, List.map_toArray, List.map_cons, List.map_nil, h5]
    · cases h
  | mm mx x y =>
    cases op <;> simp only [popOk] at h <;> first | (exact Bool.noConfusion h) | skip
    rename_i c
    obtain ⟨callee, args, argTypes⟩ := c
    simp only at h
    split at h
    · rename_i h2
      obtain rfl : args = #[_, _] := by apply Array.ext'; simpa using h2
      simp only [Bool.and_eq_true] at h
      obtain ⟨⟨rfl, h3⟩, h4⟩ := h
      obtain ⟨v, h5, h6⟩ := s_mm (P := P) hr (ty := type) (ats := argTypes) h3 h4 he
      refine ⟨v, ?_, h6⟩
      simp only [if_true] at h5
      simp only [execOp, resolve, Sem.run_bind, Sem.run_pure, Result.andThen_ok, invoke, builtin, List.map_toArray, List.map_cons, List.map_nil, h5]
    · rename_i h2
      obtain rfl : args = #[_, _] := by apply Array.ext'; simpa using h2
      simp only [Bool.and_eq_true, Bool.not_eq_true'] at h
      obtain ⟨⟨rfl, h3⟩, h4⟩ := h
      obtain ⟨v, h5, h6⟩ := s_mm (P := P) hr (ty := type) (ats := argTypes) h3 h4 he
      refine ⟨v, ?_, h6⟩
      simp only [Bool.false_eq_true, if_false] at h5
      simp only [execOp, resolve, Sem.run_bind, Sem.run_pure, Result.andThen_ok, invoke, builtin, List.map_toArray, List.map_cons, List.map_nil, h5]
    · cases h
  | mkf f cs =>
    cases op <;> simp only [popOk] at h <;> first | (exact Bool.noConfusion h) | skip
    rename_i fn first caps
    simp only [Bool.and_eq_true] at h
    obtain ⟨⟨h1, h2⟩, h3⟩ := h
    split at h1
    · simp only [beq_iff_eq] at h1
      subst h1
      obtain rfl : first = #[] := by simpa using h2
      have h4 := s_mkf hr h3 he
      refine ⟨_, ?_, h4⟩
      simp only [execOp, Instr.makeFunc, Sem.run_bind, Sem.run_pure, Result.andThen_ok]
      have e1 : Array.map a.eval caps = (List.map a.eval caps.toList).toArray := by
        apply Array.ext'
        simp
      rw [e1]
      simp
    · cases h1
end
end Go.Px
/- One object changes, or comes: all else lives on. -/
set_option linter.unusedVariables false
set_option linter.unusedSimpArgs false
namespace Go.Px
open Go

/-- What memory holds of one object. -/
def ObjOk (g : Gh) (w : World) (H : Nat → Obj) (i : Nat) : Prop :=
  match H i with
  | .cells cs => ∃ vs ty, w.heap[g.κ i]? = some (.cells vs ty (0, 0)) ∧ All2 (RC g w H) cs vs.toList ∧ g.I (g.κ i) = 0
  | .arr e es => ∃ vs ty, w.heap[g.κ i]? = some (.cells vs ty (0, 0)) ∧ ArrAt w g.I vs e es ∧ g.I (g.κ i) = 0 ∧ es.length ≤ maxLen
  | .frz e es => RI w g.I (.sl .plain e es) (.slice (some ⟨g.κ i, 0, none⟩) es.length es.length)
  | .tok t e n => ∃ xs, w.ownsRow 0 t e (g.τ i) n xs ∧ (∀ b, (g.τ i).ownBlock = some b → g.I b = n * e) ∧ 0 < e
  | _ => True
theorem HR.obj {g : Gh} {w : World} {H : Nat → Obj} (h : HR g w H) (i : Nat) : ObjOk g w H i := by
  unfold ObjOk
  split
  · rename_i cs e; exact h.cells i cs e
  · rename_i e es he; exact h.arr i e es he
  · rename_i e es he; exact h.frz i e es he
  · rename_i t e n he; exact h.tok i t e n he
  · trivial
theorem HR.mk' {g : Gh} {w : World} {H : Nat → Obj} (h : ∀ i, ObjOk g w H i) (ha : ∀ i j b, i ≠ j → ownBlk g H i = some b → ownBlk g H j ≠ some b) (hf : ∀ b, w.heap.size ≤ b → g.I b = 0) : HR g w H :=
  ⟨fun i cs e => by have := h i; unfold ObjOk at this; rw [e] at this; exact this,
   fun i e es he => by have := h i; unfold ObjOk at this; rw [he] at this; exact this,
   fun i e es he => by have := h i; unfold ObjOk at this; rw [he] at this; exact this,
   fun i t e n he => by have := h i; unfold ObjOk at this; rw [he] at this; exact this, ha, hf⟩

theorem ownBlk_lt {g : Gh} {w : World} {H : Nat → Obj} (h : HR g w H) {i b : Nat} (ho : ownBlk g H i = some b) : b < w.heap.size := by
  unfold ownBlk at ho
  split at ho
  · rename_i cs e
    cases ho
    obtain ⟨vs, ty, h1, _⟩ := h.cells i cs e
    exact (Array.getElem?_eq_some_iff.1 h1).1
  · rename_i e es he
    cases ho
    obtain ⟨vs, ty, h1, _⟩ := h.arr i e es he
    exact (Array.getElem?_eq_some_iff.1 h1).1
  · rename_i t e n he
    obtain ⟨xs, h1, _⟩ := h.tok i t e n he
    exact (h1.lt b ho).2
  · cases ho

theorem ownsRow_of_block {w w' : World} {t e n : Nat} {v : Value} {xs : List Value} (h : w.ownsRow 0 t e v n xs) (hb : ∀ b, v.ownBlock = some b → w'.heap[b]? = w.heap[b]?) : w'.ownsRow 0 t e v n xs := by
  refine ⟨h.1, ?_⟩
  rcases h.2 with h1 | ⟨g, cap, cur, rfl, h2, h3, h4⟩
  · exact .inl h1
  · exact .inr ⟨g, cap, cur, rfl, h2, by rw [hb g rfl]; exact h3, h4⟩

theorem RIsl_arr {w w' : World} {I I' : Nat → Nat} (k : Keeps w I w' I') {vs : Array Value} {e : Nat} {es : List (List PV)} (h : ArrAt w I vs e es) : ArrAt w' I' vs e es :=
  ⟨h.1, h.2.1, fun j q hj hq => by obtain ⟨u, h1, h2⟩ := h.2.2 j q hj hq; exact ⟨u, h1, h2.mono k⟩⟩

/-- What one changed object owes to the values that name it. -/
structure LivesAt (g : Gh) (H : Nat → Obj) (g' : Gh) (H' : Nat → Obj) (s : Nat) : Prop where
  cells : ∀ cs, H s = .cells cs → (∃ cs', H' s = .cells cs') ∧ g'.κ s = g.κ s
  arr : ∀ e es, (H s = .arr e es ∨ H s = .frz e es) → (∃ es', (H' s = .arr e es' ∨ H' s = .frz e es') ∧ es'.length = es.length) ∧ g'.κ s = g.κ s
  tok : ∀ esz n v, TokR g H s esz n v → TokR g' H' s esz n v

theorem LivesAt.free {g : Gh} {H : Nat → Obj} {g' : Gh} {H' : Nat → Obj} {s : Nat} (h : H s = .free) : LivesAt g H g' H' s :=
  ⟨(fun cs e => by rw [h] at e; cases e), (fun e es he => by rw [h] at he; rcases he with he | he <;> cases he), (fun esz n v ht => by simp [TokR, h] at ht)⟩

theorem obj_upd {g g' : Gh} {w w' : World} {H H' : Nat → Obj} (s : Nat) (hr : HR g w H) (hsz : w.heap.size ≤ w'.heap.size) (hos : w'.os = w.os) (htp : w'.tape = w.tape) (hout : w'.output = w.output)
    (hH : ∀ i, i ≠ s → H' i = H i) (hκ : ∀ i, i ≠ s → g'.κ i = g.κ i ∧ g'.τ i = g.τ i)
    (hblk : ∀ b, b < w.heap.size → ownBlk g H s ≠ some b → w'.heap[b]? = w.heap[b]? ∧ g'.I b = g.I b)
    (hkeep : ∀ b, ownBlk g H s = some b → g.I b ≤ g'.I b ∧ ∀ j, j < g.I b → w'.cell? ⟨b, j, none⟩ = w.cell? ⟨b, j, none⟩)
    (hfresh : ∀ b, w'.heap.size ≤ b → g'.I b = 0) (hl : LivesAt g H g' H' s) (hown : ∀ b, ownBlk g' H' s = some b → ownBlk g H s = some b ∨ w.heap.size ≤ b)
    (hs : Keeps w g.I w' g'.I → Lives g H g' H' → ObjOk g' w' H' s) :
    HR g' w' H' ∧ Keeps w g.I w' g'.I ∧ Lives g H g' H' ∧ ∀ m, (s < m → Pers g H g' H' s) → Stp m w g H w' g' H' := by
  have hk : Keeps w g.I w' g'.I := by
    refine ⟨fun b j hj => ?_, fun b => ?_⟩
    · by_cases ho : ownBlk g H s = some b
      · exact (hkeep b ho).2 j hj
      · have hb : b < w.heap.size := by
          rcases Nat.lt_or_ge b w.heap.size with h | h
          · exact h
          · rw [hr.fresh b h] at hj; cases hj
        exact World.cell?_of_block (w := w) (hblk b hb ho).1
    · by_cases ho : ownBlk g H s = some b
      · exact (hkeep b ho).1
      · rcases Nat.lt_or_ge b w.heap.size with h | h
        · exact Nat.le_of_eq (hblk b h ho).2.symm
        · rw [hr.fresh b h]; exact Nat.zero_le _
  have hlv : Lives g H g' H' := by
    refine ⟨fun i cs e => ?_, fun i e es he => ?_, fun i esz n v ht => ?_⟩
    · by_cases hi : i = s
      · subst hi; exact hl.cells cs e
      · exact ⟨⟨cs, by rw [hH i hi]; exact e⟩, (hκ i hi).1⟩
    · by_cases hi : i = s
      · subst hi; exact hl.arr e es he
      · exact ⟨⟨es, by rw [hH i hi]; exact he, rfl⟩, (hκ i hi).1⟩
    · by_cases hi : i = s
      · subst hi; exact hl.tok esz n v ht
      · unfold TokR at ht ⊢
        rw [hH i hi, (hκ i hi).2]
        exact ht
  have hob : ∀ i, i ≠ s → ownBlk g' H' i = ownBlk g H i := fun i hi => by
    unfold ownBlk
    rw [hH i hi, (hκ i hi).1, (hκ i hi).2]
  have hother : ∀ i b, i ≠ s → ownBlk g H i = some b → w'.heap[b]? = w.heap[b]? ∧ g'.I b = g.I b := fun i b hi ho =>
    hblk b (ownBlk_lt hr ho) (hr.apart i s b hi ho)
  refine ⟨HR.mk' (fun i => ?_) (fun i j b hij h1 h2 => ?_) hfresh, hk, hlv, fun m hp => ⟨hos, htp, hout, hsz, hk, fun b hb hno => hblk b hb (hno s), fun i b ho => ?_, fun i hi => ?_⟩⟩
  · by_cases hi : i = s
    · subst hi; exact hs hk hlv
    · have h0 := hr.obj i
      unfold ObjOk at h0 ⊢
      rw [hH i hi, (hκ i hi).1, (hκ i hi).2]
      cases hHi : H i with
      | free => trivial
      | gone => trivial
      | cells cs =>
        rw [hHi] at h0
        obtain ⟨vs, ty, h1, h2, h3⟩ := h0
        have ho : ownBlk g H i = some (g.κ i) := by unfold ownBlk; rw [hHi]
        obtain ⟨h4, h5⟩ := hother i _ hi ho
        exact ⟨vs, ty, by rw [h4]; exact h1, h2.mono fun a b _ h => RC.mono hk hlv h, by rw [h5]; exact h3⟩
      | arr e es =>
        rw [hHi] at h0
        obtain ⟨vs, ty, h1, h2, h3, h6⟩ := h0
        have ho : ownBlk g H i = some (g.κ i) := by unfold ownBlk; rw [hHi]
        obtain ⟨h4, h5⟩ := hother i _ hi ho
        exact ⟨vs, ty, by rw [h4]; exact h1, RIsl_arr hk h2, by rw [h5]; exact h3, h6⟩
      | frz e es =>
        rw [hHi] at h0
        exact RI.mono hk h0
      | tok t e n =>
        rw [hHi] at h0
        obtain ⟨xs, h1, h2, h3⟩ := h0
        have ho : ∀ b, (g.τ i).ownBlock = some b → w'.heap[b]? = w.heap[b]? ∧ g'.I b = g.I b := fun b hb => hother i b hi (by unfold ownBlk; rw [hHi]; exact hb)
        exact ⟨xs, ownsRow_of_block h1 fun b hb => (ho b hb).1, fun b hb => by rw [(ho b hb).2]; exact h2 b hb, h3⟩
  · by_cases hi : i = s
    · subst hi
      have hj : j ≠ i := fun e => hij e.symm
      rw [hob j hj] at h2
      rcases hown b h1 with h3 | h3
      · exact hr.apart i j b hij h3 h2
      · have := ownBlk_lt hr h2; omega
    · rw [hob i hi] at h1
      by_cases hj : j = s
      · subst hj
        rcases hown b h2 with h3 | h3
        · exact hr.apart i j b hij h1 h3
        · have := ownBlk_lt hr h1; omega
      · rw [hob j hj] at h2
        exact hr.apart i j b hij h1 h2
  · by_cases hi : i = s
    · subst hi
      rcases hown b ho with h | h
      · exact .inl ⟨i, h⟩
      · exact .inr h
    · rw [hob i hi] at ho
      exact .inl ⟨i, ho⟩
  · by_cases his : i = s
    · subst his; exact hp hi
    · refine ⟨fun cs e => ⟨⟨cs, by rw [hH i his]; exact e⟩, (hκ i his).1⟩, fun e => by rw [hH i his]; exact e, fun t e n he => .inr ⟨n, by rw [hH i his]; exact he, Nat.le_refl _, fun _ => (hκ i his).2⟩⟩
end Go.Px
/- The operations that make or change memory. -/
set_option linter.unusedVariables false
set_option linter.unusedSimpArgs false
namespace Go.Px
open Go

theorem Rel.put {N : Nat} {σ : St} {a : Act} {w w' : World} {g g' : Gh} {H' : Nat → Obj} (hr : Rel N σ a w g) (hk : Keeps w g.I w' g'.I) (hl : Lives g σ.H g' H') (hh : HR g' w' H') {d : Nat} (hd : d < N) {p : PV} {v : Value} (hv : R g' w' H' p v) :
    Rel N { σ with T := upd σ.T d p, H := H' } (a.put (some d) v) w' g' := by
  refine ⟨hr.defers, by simp [Act.put, hr.size], fun e => ?_, hh⟩
  simp only [Act.put, upd]
  by_cases he : e = d
  · subst he
    have : (a.tmps.setIfInBounds e v).getD e undef = v := by
      simp [Array.getD_eq_getD_getElem?, hr.size, hd]
    rw [this, if_pos rfl]
    exact hv
  · have : (a.tmps.setIfInBounds d v).getD e undef = a.tmps.getD e undef := by
      simp only [Array.getD_eq_getD_getElem?, Array.getElem?_setIfInBounds_ne (Ne.symm he)]
    rw [this, if_neg he]
    exact R.mono hk hl (hr.tm e)
theorem Rel.same {N : Nat} {σ : St} {a : Act} {w w' : World} {g g' : Gh} {H' : Nat → Obj} (hr : Rel N σ a w g) (hk : Keeps w g.I w' g'.I) (hl : Lives g σ.H g' H') (hh : HR g' w' H') :
    Rel N { σ with H := H' } a w' g' := ⟨hr.defers, hr.size, fun e => R.mono hk hl (hr.tm e), hh⟩

theorem upd_self {α : Type} (f : Nat → α) (d : Nat) (v : α) : upd f d v d = v := by simp [upd]
theorem upd_ne {α : Type} (f : Nat → α) {d e : Nat} (v : α) (h : e ≠ d) : upd f d v e = f e := by simp [upd, h]

/-- A new block for a new object. -/
theorem new_obj {g : Gh} {w wd : World} {H : Nat → Obj} (hr : HR g w H) (hwd : wd.heap = w.heap) (hos : wd.os = w.os) (htp : wd.tape = w.tape) (hout : wd.output = w.output) {s : Nat} (hs : H s = .free)
    (o : Obj) (τ' : Value) (k : Nat) (vs : Array Value) (ty : TypeId)
    (hown : ∀ b, ownBlk { κ := upd g.κ s w.heap.size, τ := upd g.τ s τ', I := upd g.I w.heap.size k } (upd H s o) s = some b → b = w.heap.size)
    (hob : ∀ w' : World, w'.heap = (w.alloc (.cells vs ty)).heap → Keeps w g.I w' (upd g.I w.heap.size k) → Lives g H { κ := upd g.κ s w.heap.size, τ := upd g.τ s τ', I := upd g.I w.heap.size k } (upd H s o) →
      ObjOk { κ := upd g.κ s w.heap.size, τ := upd g.τ s τ', I := upd g.I w.heap.size k } w' (upd H s o) s) :
    let g' : Gh := { κ := upd g.κ s w.heap.size, τ := upd g.τ s τ', I := upd g.I w.heap.size k }
    let w' := wd.alloc (.cells vs ty)
    HR g' w' (upd H s o) ∧ Keeps w g.I w' g'.I ∧ Lives g H g' (upd H s o) ∧ ∀ m, Stp m w g H w' g' (upd H s o) := by
  intro g' w'
  have hheap : w'.heap = (w.alloc (.cells vs ty)).heap := by
    show (wd.alloc _).heap = _
    unfold World.alloc
    rw [hwd]
  have hsize : w'.heap.size = w.heap.size + 1 := by rw [hheap]; exact Deep.nblk_alloc _ _
  have hno : ∀ b, ownBlk g H s ≠ some b := fun b h => by unfold ownBlk at h; rw [hs] at h; cases h
  have hold : ∀ b, b < w.heap.size → w'.heap[b]? = w.heap[b]? := fun b hb => by rw [hheap]; exact Deep.blk_alloc_lt _ _ _ hb
  obtain ⟨h1, h2, h3, h4⟩ := obj_upd (g' := g') (w' := w') (H' := upd H s o) s hr (by omega) (by show (wd.alloc _).os = _; exact hos) (by show (wd.alloc _).tape = _; exact htp) (by show (wd.alloc _).output = _; exact hout)
    (fun i hi => upd_ne _ _ hi) (fun i hi => ⟨upd_ne _ _ hi, upd_ne _ _ hi⟩) (fun b hb _ => ⟨hold b hb, upd_ne _ _ (by omega)⟩) (fun b h => absurd h (hno b))
    (fun b hb => by rw [hsize] at hb; show upd g.I w.heap.size k b = 0; rw [upd_ne _ _ (by omega)]; exact hr.fresh b (by omega)) (.free hs) (fun b hb => .inr (by rw [hown b hb]; exact Nat.le_refl _))
    (fun hk hl => hob w' hheap hk hl)
  exact ⟨h1, h2, h3, fun m => h4 m fun _ => ⟨(fun cs e => by rw [hs] at e; cases e), (fun e => by rw [hs] at e; cases e), (fun t e n he => by rw [hs] at he; cases he)⟩⟩

/-! ### what an operation's step owes -/
def StepTo (P : Program) (N : Nat) (o : Oper) (σ σ' : St) (a : Act) (w : World) (g : Gh) : Prop :=
  ∀ (K : Act → World → Prop) (Q : Exit → Act → World → Prop),
    (∀ a' w' g', Rel N σ' a' w' g' → Stp σ.m w g σ.H w' g' σ'.H → K a' w') → o.wp P a w K Q

theorem stepTo_value {P : Program} {N : Nat} {o : Oper} {σ σ' : St} {a : Act} {w w' : World} {g g' : Gh} {v : Value} (h : (execOp a.eval o).run P w = .ok (.value v) w') (hr : Rel N σ' (a.put o.dst v) w' g') (hs : Stp σ.m w g σ.H w' g' σ'.H) :
    StepTo P N o σ σ' a w g := by
  intro K Q hK
  unfold Oper.wp
  rw [h]
  exact hK _ _ _ hr hs

section
variable {P : Program} {N : Nat} {σ σ' : St} {a : Act} {w : World} {g : Gh} (hr : Rel N σ a w g)
include hr

theorem eff_p {o : Oper} {m : POp} {d : Nat} {C : CallF} (hd : o.dst = some d) (hN : d < N) (h : popOk' P o.op m = true) (he : evOp C (.p d m) σ = some σ') : StepTo P N o σ σ' a w g := by
  simp only [evOp] at he
  split at he
  · rename_i p hp
    cases he
    obtain ⟨v, h1, h2⟩ := pop_sound hr h hp
    have := hr.put (Keeps.refl _ _) (Lives.refl _ _) hr.hr hN h2
    exact stepTo_value h1 (by rw [hd]; exact this) (.refl _ _ _ _)
  · cases he

/-- a box of a value -/
theorem eff_box {o : Oper} {t : TypeId} {x : Operand} {y : Opd} {d s n : Nat} {C : CallF} (ho : o.op = .box t x) (hd : o.dst = some d) (hN : d < N) (hx : opdOk x y = true) (he : evOp C (.box d s n y) σ = some σ') : StepTo P N o σ σ' a w g := by
  simp only [evOp] at he
  split at he
  · rename_i hfree
    split at he
    · rename_i hc
      cases he
      have hcells := cells_R (opd_R hr hx) hc.2
      obtain ⟨h1, h2, h3, h4⟩ := new_obj hr.hr rfl rfl rfl rfl hfree (.cells (y.ev σ.T).cellsOf) undef 0 (a.eval x).cells t
        (fun b hb => by unfold ownBlk at hb; rw [upd_self] at hb; simp only [upd_self] at hb; cases hb; rfl)
        (fun w' hw' hk hl => by
          unfold ObjOk
          rw [upd_self]
          refine ⟨(a.eval x).cells, t, ?_, hcells.mono fun p v _ h => RC.mono hk hl h, ?_⟩
          · simp only [upd_self]; rw [hw']; exact Deep.blk_alloc_new _ _
          · simp only [upd_self])
      refine stepTo_value (v := .pointer (some ⟨w.heap.size, 0, none⟩)) (w' := w.alloc (.cells (a.eval x).cells t)) ?_ ?_ (h4 _)
      · simp only [execOp, ho, Instr.box, newVar, newRow, Sem.run_bind, run_newObj, Result.andThen_ok, Sem.run_pure]
        rfl
      · rw [hd]
        exact hr.put h2 h3 h1 hN ⟨⟨_, upd_self _ _ _⟩, by simp only [upd_self]⟩
    · cases he
  · cases he

/-- a variable of a type's zero value -/
theorem eff_alloc {o : Oper} {t : TypeId} {zs : List PV} {d s : Nat} {C : CallF} (ho : o.op = .alloc t) (hd : o.dst = some d) (hN : d < N) (hz : zeroOk P t zs = true) (he : evOp C (.alloc d s zs) σ = some σ') : StepTo P N o σ σ' a w g := by
  simp only [evOp] at he
  split at he
  · rename_i hfree
    cases he
    unfold zeroOk at hz
    split at hz
    · rename_i z hzz
      have hzv : (zeroValue t).run P w = .ok z w := by
        cases hi : P.info? t with
        | none => simp [hi] at hzz
        | some i => simp [hi] at hzz; simp [zeroValue, typeInfo, hi, hzz]
      obtain ⟨h1, h2, h3, h4⟩ := new_obj hr.hr rfl rfl rfl rfl hfree (.cells zs) undef 0 z.cells t
        (fun b hb => by unfold ownBlk at hb; rw [upd_self] at hb; simp only [upd_self] at hb; cases hb; rfl)
        (fun w' hw' hk hl => by
          unfold ObjOk
          rw [upd_self]
          refine ⟨z.cells, t, ?_, constCs_RC hz _ _ _, ?_⟩
          · simp only [upd_self]; rw [hw']; exact Deep.blk_alloc_new _ _
          · simp only [upd_self])
      refine stepTo_value (v := .pointer (some ⟨w.heap.size, 0, none⟩)) (w' := w.alloc (.cells z.cells t)) ?_ ?_ (h4 _)
      · simp only [execOp, ho, Instr.alloc, Sem.run_bind, hzv, Result.andThen_ok, newVar, newRow, run_newObj, Sem.run_pure]
        rfl
      · rw [hd]
        exact hr.put h2 h3 h1 hN ⟨⟨_, upd_self _ _ _⟩, by simp only [upd_self]⟩
    · cases hz
  · cases he
end
end Go.Px
/- Rows of elements. -/
set_option linter.unusedVariables false
set_option linter.unusedSimpArgs false
namespace Go.Px
open Go

structure Row (w : World) (I : Nat → Nat) (xs : List Value) (e : Nat) (es : List (List PV)) : Prop where
  len : xs.length = es.length * e
  wid : ∀ x ∈ es, x.length = e
  cell : ∀ (j q : Nat) (hj : j < es.length) (hq : q < es[j].length), ∃ u, xs[j * e + q]? = some u ∧ RI w I es[j][q] u

theorem Row.mono {w w' : World} {I I' : Nat → Nat} (k : Keeps w I w' I') {xs : List Value} {e : Nat} {es : List (List PV)} (h : Row w I xs e es) : Row w' I' xs e es :=
  ⟨h.len, h.wid, fun j q hj hq => by obtain ⟨u, h1, h2⟩ := h.cell j q hj hq; exact ⟨u, h1, h2.mono k⟩⟩
theorem Row.nil (w : World) (I : Nat → Nat) (e : Nat) : Row w I [] e [] := ⟨by simp, by simp, fun j q hj => absurd hj (by simp)⟩
theorem Row.append {w : World} {I : Nat → Nat} {xs ys : List Value} {e : Nat} {es fs : List (List PV)} (h : Row w I xs e es) (k : Row w I ys e fs) : Row w I (xs ++ ys) e (es ++ fs) := by
  refine ⟨by rw [List.length_append, h.len, k.len, List.length_append, Nat.add_mul], fun x hx => ?_, fun j q hj hq => ?_⟩
  · rcases List.mem_append.1 hx with hx | hx
    · exact h.wid x hx
    · exact k.wid x hx
  · by_cases hlt : j < es.length
    · have e1 : (es ++ fs)[j] = es[j] := List.getElem_append_left hlt
      have hq' : q < es[j].length := by rw [← e1]; exact hq
      obtain ⟨u, h1, h2⟩ := h.cell j q hlt hq'
      have hw := h.wid es[j] (List.getElem_mem _)
      have h3 := idx_lt hlt (show q < e by omega)
      have hl := h.len
      refine ⟨u, by rw [List.getElem?_append_left (by omega)]; exact h1, ?_⟩
      simp only [e1]
      exact h2
    · have e1 : (es ++ fs)[j] = fs[j - es.length]'(by simp at hj; omega) := List.getElem_append_right (by omega)
      have hj' : j - es.length < fs.length := by simp at hj; omega
      have hq' : q < (fs[j - es.length]).length := by rw [← e1]; exact hq
      obtain ⟨u, h1, h2⟩ := k.cell (j - es.length) q hj' hq'
      have hl := h.len
      have h4 : es.length * e + (j - es.length) * e = j * e := by rw [← Nat.add_mul]; congr 1; omega
      refine ⟨u, by rw [List.getElem?_append_right (by omega)]; rw [← h1]; congr 1; omega, ?_⟩
      simp only [e1]
      exact h2
theorem Row.singleton {w : World} {I : Nat → Nat} {xs : List Value} {e : Nat} {cs : List PV} (h : All2 (RI w I) cs xs) (hl : cs.length = e) : Row w I xs e [cs] := by
  refine ⟨by rw [← h.length, hl]; simp, by simp [hl], fun j q hj hq => ?_⟩
  have : j = 0 := by simp at hj; omega
  subst this
  simp at hq
  have hx : q < xs.length := by rw [← h.length]; exact hq
  refine ⟨xs[q], by simp [hx], ?_⟩
  simp only [List.getElem_cons_zero]
  exact h.get q hq hx
theorem Row.oneCell {w : World} {I : Nat → Nat} {xs : List Value} {e : Nat} {es : List (List PV)} (h : Row w I xs e es) : ∀ u ∈ xs, u.oneCell' = true := by
  intro u hu
  obtain ⟨i, hi, rfl⟩ := List.getElem_of_mem hu
  have he : 0 < e := by
    rcases Nat.eq_zero_or_pos e with h0 | h0
    · have h1 := h.len; rw [h0, Nat.mul_zero] at h1; omega
    · exact h0
  have hj : i / e < es.length := by rw [Nat.div_lt_iff_lt_mul he, ← h.len]; exact hi
  have hw := h.wid es[i / e] (List.getElem_mem _)
  have hq : i % e < es[i / e].length := by rw [hw]; exact Nat.mod_lt _ he
  obtain ⟨u, h1, h2⟩ := h.cell (i / e) (i % e) hj hq
  have h3 : i / e * e + i % e = i := by rw [Nat.mul_comm]; exact Nat.div_add_mod i e
  rw [h3, List.getElem?_eq_getElem hi] at h1
  cases h1
  exact h2.oneCell

theorem Row.toRI {w : World} {I : Nat → Nat} {xs : List Value} {e : Nat} {es : List (List PV)} (h : Row w I xs e es) (hm : es.length ≤ maxLen) {c : Nat} (hc : es.length ≤ c) {ad : Addr} (hs : ad.spot = none)
    (hI : 0 < es.length → ad.off + es.length * e ≤ I ad.block) (hcell : ∀ i u, xs[i]? = some u → w.cell? ⟨ad.block, ad.off + i, none⟩ = some u) : RI w I (.sl .plain e es) (.slice (some ad) es.length c) := by
  refine .sl e es _ _ c (fun j q => (xs[j * e + q]?).getD undef) rfl h.wid hm hc (fun h0 => ⟨ad, rfl, hs, hI h0, fun j q hj hq => ?_⟩) (fun j q hj hq => ?_)
  · have hw := h.wid es[j] (List.getElem_mem _)
    obtain ⟨u, h1, _⟩ := h.cell j q hj (by omega)
    simp only [h1, Option.getD_some]
    exact hcell _ _ h1
  · obtain ⟨u, h1, h2⟩ := h.cell j q hj hq
    simp only [h1, Option.getD_some]
    exact h2

/-- The row that a slice's value shows. -/
theorem Row.ofRI {w : World} {I : Nat → Nat} {e : Nat} {es : List (List PV)} {v : Value} (h : RI w I (.sl .plain e es) v) :
    ∃ a c xs, v = .slice a es.length c ∧ es.length ≤ c ∧ es.length ≤ maxLen ∧ Row w I xs e es ∧ (0 < es.length → ∃ ad, a = some ad ∧ ad.spot = none ∧ ad.off + es.length * e ≤ I ad.block ∧ ∀ i u, xs[i]? = some u → w.cell? ⟨ad.block, ad.off + i, none⟩ = some u) := by
  cases h with
  | sl _ _ a n c u hn hw hm hc ha hu =>
    subst hn
    refine ⟨a, c, (List.range (es.length * e)).map fun i => u (i / e) (i % e), rfl, hc, hm, ⟨by simp, hw, fun j q hj hq => ?_⟩, fun h0 => ?_⟩
    · have hwj := hw es[j] (List.getElem_mem _)
      have hq' : q < e := by omega
      have h3 := idx_lt hj hq'
      have he : 0 < e := by omega
      have e1 : (j * e + q) / e = j := by
        rw [Nat.mul_comm, Nat.mul_add_div he, Nat.div_eq_of_lt hq']; omega
      have e2 : (j * e + q) % e = q := by
        rw [Nat.mul_comm, Nat.mul_add_mod, Nat.mod_eq_of_lt hq']
      refine ⟨u j q, ?_, hu j q hj hq⟩
      simp [h3, e1, e2]
    · obtain ⟨ad, h1, h2, h3, h4⟩ := ha h0
      refine ⟨ad, h1, h2, h3, fun i v hv => ?_⟩
      obtain ⟨hi, h5⟩ := List.getElem?_eq_some_iff.1 hv
      have hi' : i < es.length * e := by simpa using hi
      simp at h5
      have he : 0 < e := by
        rcases Nat.eq_zero_or_pos e with h0 | h0
        · rw [h0] at hi'; simp at hi'
        · exact h0
      have hj : i / e < es.length := by rw [Nat.div_lt_iff_lt_mul he]; exact hi'
      have h6 := h4 (i / e) (i % e) hj (Nat.mod_lt _ he)
      have h7 : i / e * e + i % e = i := by rw [Nat.mul_comm]; exact Nat.div_add_mod i e
      rw [h7, h5] at h6
      exact h6

/-- what may lie in a settled row -/
theorem imm_RI {g : Gh} {w : World} {H : Nat → Obj} {p q : PV} {v : Value} (h : p.imm = some q) (hv : RC g w H p v) : RI w g.I q v := by
  cases p with
  | int k n => simp [PV.imm] at h; subst h; rw [show v = _ from hv]; exact .int k n
  | bool b => simp [PV.imm] at h; subst h; rw [show v = _ from hv]; exact .bool b
  | nilp => simp [PV.imm] at h; subst h; rw [show v = _ from hv]; exact .nilp
  | fn f caps =>
    cases caps with
    | nil =>
      simp [PV.imm] at h; subst h
      obtain ⟨vs, rfl, h2⟩ := hv
      have : vs = #[] := by cases vs; cases h2; rfl
      subst this
      exact .fn f
    | cons => simp [PV.imm] at h
  | sl t e es => simp [PV.imm] at h; subst h; exact sl_R (R_of_RC hv)
  | _ => simp [PV.imm] at h
theorem imms_RI {g : Gh} {w : World} {H : Nat → Obj} : ∀ {cs qs : List PV} {vs : List Value}, imms cs = some qs → All2 (RC g w H) cs vs → All2 (RI w g.I) qs vs ∧ qs.length = cs.length
  | [], qs, _, h, h2 => by simp [imms] at h; subst h; cases h2; exact ⟨.nil, rfl⟩
  | p :: cs, qs, _, h, h2 => by
    simp only [imms] at h
    split at h
    · rename_i q s h3 h4
      cases h
      cases h2 with
      | cons h5 h6 =>
        obtain ⟨h7, h8⟩ := imms_RI h4 h6
        exact ⟨.cons (imm_RI h3 h5) h7, by simp [h8]⟩
    · cases h
theorem imms_allCells : ∀ {cs qs : List PV}, imms cs = some qs → allCells cs = true
  | [], _, _ => rfl
  | p :: cs, qs, h => by
    simp only [imms] at h
    split at h
    · rename_i q s h3 h4
      simp only [allCells, Bool.and_eq_true]
      refine ⟨?_, imms_allCells h4⟩
      cases p <;> first | rfl | simp [PV.imm] at h3
    · cases h
end Go.Px
/- Literals of slices, arrays that are made, and append. -/
set_option linter.unusedVariables false
set_option linter.unusedSimpArgs false
namespace Go.Px
open Go

/-! ### the literal of a slice -/
def bslOk : Nat → List (Nat × Operand) → List Opd → Bool
  | _, [], [] => true
  | k, (i, x) :: l, y :: r => i == k && opdOk x y && bslOk (k + 1) l r
  | _, _, _ => false

theorem splice_foldl' (cells : List Value) (off : Nat) (v : Value) (h : off + v.cells.size ≤ cells.length) :
    (v.cells.zipIdx.foldl (fun cs (c, j) => cs.setIfInBounds (off + j) c) cells.toArray).toList = cells.take off ++ (v.cells.toList ++ cells.drop (off + v.cells.size)) := by
  have hsp := splice_foldl cells off v.cells.toList 0 (by simpa using h)
  have e1 : v.cells.zipIdx.foldl (fun cs (c, j) => cs.setIfInBounds (off + j) c) cells.toArray = (v.cells.toList.zipIdx 0).foldl (fun (cs : Array Value) (x : Value × Nat) => cs.setIfInBounds (off + x.2) x.1) cells.toArray := by
    rw [← Array.foldl_toList]
    simp
  rw [e1, hsp]
  simp

theorem fill_flat (e : Nat) : ∀ (vs : List Value) (k : Nat) (pre rest : List Value) (l : List (Nat × Value)), pre.length = k * e → rest.length = vs.length * e → (∀ v ∈ vs, v.cells.size = e) → All2 (fun (x : Nat × Value) (y : Value × Nat) => x = (y.2, y.1)) l (vs.zipIdx k) →
    Instr.fill (fun i => some (i * e, e)) (pre ++ rest).toArray l = some (pre ++ vs.flatMap (·.cells.toList)).toArray
  | [], k, pre, rest, l, hp, hr, _, hl => by
    cases hl
    have : rest = [] := List.eq_nil_of_length_eq_zero (by simpa using hr)
    subst this
    simp [Instr.fill]
  | v :: vs, k, pre, rest, l, hp, hr, hv, hl => by
    simp only [List.zipIdx_cons] at hl
    cases hl with
    | @cons x _ l' _ hx hl' =>
      subst hx
      have hve := hv v (by simp)
      have hr' : rest.length = vs.length * e + e := by rw [hr, List.length_cons, Nat.add_mul, Nat.one_mul]
      simp only [Instr.fill]
      rw [if_neg (by simp [hve]; omega)]
      have hs := splice_foldl' (pre ++ rest) (k * e) v (by simp; omega)
      have e2 : v.cells.zipIdx.foldl (fun cs (c, j) => cs.setIfInBounds (k * e + j) c) (pre ++ rest).toArray = ((pre ++ v.cells.toList) ++ rest.drop e).toArray := by
        apply Array.ext'
        rw [hs, ← hp, List.take_left, hve]
        have : List.drop (pre.length + e) (pre ++ rest) = rest.drop e := by rw [List.drop_append]; simp
        rw [this]
        simp
      rw [e2]
      have ih := fill_flat e vs (k + 1) (pre ++ v.cells.toList) (rest.drop e) l' (by simp [hve, hp, Nat.add_mul]) (by simp; omega) (fun v hv' => hv v (by simp [hv'])) hl'
      rw [ih]
      simp

section
variable {P : Program} {N : Nat} {σ σ' : St} {a : Act} {w : World} {g : Gh} (hr : Rel N σ a w g)
include hr

theorem bsl_R {esz : Nat} : ∀ (l : List (Nat × Operand)) (xs : List Opd) (k : Nat) (es : List (List PV)), bslOk k l xs = true → elemsOf σ.T esz xs = some es →
    ∃ vs : List Value, All2 (fun (x : Nat × Value) (y : Value × Nat) => x = (y.2, y.1)) (l.map fun (i, x) => (i, a.eval x)) (vs.zipIdx k) ∧ (∀ v ∈ vs, v.cells.size = esz) ∧ vs.length = es.length ∧ Row w g.I (vs.flatMap (·.cells.toList)) esz es
  | [], [], k, es, _, h => by simp [elemsOf] at h; subst h; exact ⟨[], .nil, by simp, rfl, .nil _ _ _⟩
  | (i, x) :: l, y :: xs, k, es, h1, h2 => by
    simp only [bslOk, Bool.and_eq_true, beq_iff_eq] at h1
    obtain ⟨⟨rfl, hx⟩, h1⟩ := h1
    simp only [elemsOf] at h2
    split at h2
    · rename_i qs s h3 h4
      split at h2
      · rename_i hl
        cases h2
        obtain ⟨vs, h5, h6, h7, h8⟩ := bsl_R l xs (i + 1) s h1 h4
        have h9 := cells_R (opd_R hr hx) (imms_allCells h3)
        obtain ⟨h10, h11⟩ := imms_RI h3 h9
        have hsz : (a.eval x).cells.size = esz := by rw [← Array.length_toList, ← h9.length, ← h11]; exact hl
        refine ⟨a.eval x :: vs, .cons rfl h5, fun v hv => ?_, by simp [h7], ?_⟩
        · rcases List.mem_cons.1 hv with rfl | hv
          · exact hsz
          · exact h6 v hv
        · have := Row.append (Row.singleton h10 hl) h8
          simpa using this
      · cases h2
    · cases h2
  | [], _ :: _, _, _, h, _ => by simp [bslOk] at h
  | _ :: _, [], _, _, h, _ => by simp [bslOk] at h

theorem eff_bsl {o : Oper} {t ty : TypeId} {len : Nat} {parts : Array (Nat × Operand)} {xs : List Opd} {d s esz : Nat} {C : CallF} (ho : o.op = .buildSlice t len parts) (hd : o.dst = some d) (hN : d < N)
    (ht : sliceElem P t = some ty) (hs : szOk P ty esz = true) (h0 : 0 < esz) (hz : ∃ z, (P.info? ty).bind (·.zero) = some z ∧ z.cells.size = esz) (hlen : len = xs.length) (hmax : len * esz ≤ 16777216)
    (hp : bslOk 0 parts.toList xs = true) (he : evOp C (.bsl d s ty esz xs) σ = some σ') : StepTo P N o σ σ' a w g := by
  simp only [evOp] at he
  split at he
  · rename_i es hfree hes
    cases he
    obtain ⟨vs, h1, h2, h3, h4⟩ := bsl_R hr parts.toList xs 0 es hp hes
    have hlx : es.length = len := by
      have : ∀ (xs : List Opd) (es : List (List PV)), elemsOf σ.T esz xs = some es → es.length = xs.length := by
        intro xs
        induction xs with
        | nil => intro es h; simp [elemsOf] at h; subst h; rfl
        | cons x xs ih =>
          intro es h
          simp only [elemsOf] at h
          split at h
          · rename_i q s' hq hs'
            split at h
            · cases h; simp [ih s' hs']
            · cases h
          · cases h
      rw [this xs es hes, hlen]
    obtain ⟨z, hz1, hz2⟩ := hz
    have hzv : (zeroValue ty).run P w = .ok z w := by
      cases hi : P.info? ty with
      | none => simp [hi] at hz1
      | some i => simp [hi] at hz1; simp [zeroValue, typeInfo, hi, hz1]
    -- the machine's cells
    have hfill : Instr.fill (fun i => some (i * esz, esz)) ((Array.range (len * esz)).map fun x => (if len * esz = 0 then (#[] : Array Value) else z.cells)[x % (if len * esz = 0 then (#[] : Array Value) else z.cells).size]!) (parts.toList.map fun (i, x) => (i, a.eval x)) = some (vs.flatMap (·.cells.toList)).toArray := by
      have := fill_flat esz vs 0 [] ((Array.range (len * esz)).map fun x => (if len * esz = 0 then (#[] : Array Value) else z.cells)[x % (if len * esz = 0 then (#[] : Array Value) else z.cells).size]!).toList _ (by simp) (by simp [h3, hlx]) h2 h1
      simp only [List.nil_append, Array.toArray_toList] at this
      exact this
    have hrun : (execOp a.eval o).run P w = .ok (.value (.slice (some ⟨w.heap.size, 0, none⟩) len len)) (w.alloc (.cells (vs.flatMap (·.cells.toList)).toArray ty)) := by
      simp only [execOp, ho, Instr.buildSlice, Sem.run_bind, run_underlying (sliceElem_eq ht), Result.andThen_ok, run_sizeOf (szOk_eq hs)]
      rw [if_neg (by omega)]
      have e1 : (parts.map fun (x : Nat × Operand) => (x.1, a.eval x.2)).toList = parts.toList.map fun (i, x) => (i, a.eval x) := by simp
      by_cases hz0 : len * esz = 0
      · rw [if_pos hz0] at hfill ⊢
        simp only [Sem.run_pure, Result.andThen_ok, e1, hfill, newRow, Sem.run_bind, run_newObj]
        rfl
      · rw [if_neg hz0] at hfill ⊢
        simp only [Sem.run_bind, hzv, Sem.run_pure, Result.andThen_ok, e1, hfill, newRow, run_newObj]
        rfl
    have hml : len ≤ maxLen := by
      have : len ≤ len * esz := Nat.le_mul_of_pos_right len h0
      simp only [maxLen]; omega
    have hsize : (vs.flatMap (·.cells.toList)).length = len * esz := by rw [h4.len, hlx]
    obtain ⟨k1, k2, k3, k4⟩ := new_obj hr.hr rfl rfl rfl rfl hfree (.tok ty esz es.length) (.slice (some ⟨w.heap.size, 0, none⟩) len len) (len * esz) (vs.flatMap (·.cells.toList)).toArray ty
      (fun b hb => by unfold ownBlk at hb; rw [upd_self] at hb; simp only [upd_self, Value.ownBlock] at hb; cases hb; rfl)
      (fun w' hw' hk hl => by
        unfold ObjOk
        rw [upd_self]
        refine ⟨vs.flatMap (·.cells.toList), ⟨hsize.trans (by rw [hlx]), .inr ⟨w.heap.size, len, (vs.flatMap (·.cells.toList)).toArray, ?_, Nat.zero_le _, ?_, by omega, hml, by simp [hsize], ?_⟩⟩, fun b hb => ?_, h0⟩
        · simp only [upd_self, hlx]
        · rw [hw']; exact Deep.blk_alloc_new _ _
        · simp [List.take_of_length_le, hsize, hlx]
        · simp only [upd_self, Value.ownBlock] at hb
          cases hb
          simp only [upd_self, hlx])
    refine stepTo_value hrun ?_ (k4 _)
    rw [hd]
    refine hr.put k2 k3 k1 hN ⟨?_, ?_⟩
    · have hrow := h4.mono k2
      have := Row.toRI (c := len) (ad := ⟨w.heap.size, 0, none⟩) hrow (by rw [hlx]; exact hml) (by omega) rfl (fun _ => by simp only [upd_self, hlx]; omega) (fun i u hu => by
        have hb := Deep.blk_alloc_new w (.cells (vs.flatMap (·.cells.toList)).toArray ty)
        rw [cell_of_row _ _ _ _ _ _ hb]
        simpa using hu)
      rw [hlx] at this
      exact this
    · unfold TokR
      rw [upd_self]
      exact ⟨Nat.le_refl _, fun _ _ => by simp only [upd_self]⟩
  · cases he
end
end Go.Px
/- Stores, arrays that are made, and append. -/
set_option linter.unusedVariables false
set_option linter.unusedSimpArgs false
namespace Go.Px
open Go

theorem All2.all_right {α β : Type} {R : α → β → Prop} {Q : β → Prop} {l : List α} {m : List β} (h : All2 R l m) (hq : ∀ a b, R a b → Q b) : ∀ b ∈ m, Q b := by
  induction h with
  | nil => intro b hb; cases hb
  | cons h1 _ ih =>
    intro b hb
    rcases List.mem_cons.1 hb with rfl | hb
    · exact hq _ _ h1
    · exact ih b hb

theorem stepTo_skip {P : Program} {N : Nat} {o : Oper} {σ σ' : St} {a : Act} {w w' : World} {g g' : Gh} (hd : o.dst = none) (h : (execOp a.eval o).run P w = .ok .skip w') (hr : Rel N σ' a w' g') (hs : Stp σ.m w g σ.H w' g' σ'.H) :
    StepTo P N o σ σ' a w g := by
  intro K Q hK
  unfold Oper.wp
  rw [h]
  show K (a.put o.dst undef) w'
  rw [hd]
  exact hK _ _ _ hr hs

theorem run_storeAt {P : Program} {t : TypeId} {n : Nat} (hn : szOk P t n = true) {w : World} {b off : Nat} {v : Value} {cur : Array Value} {ty : TypeId} (hb : w.heap[b]? = some (.cells cur ty (0, 0))) (hv : v.cells.size = n)
    (h1 : ∀ u ∈ v.cells.toList, u.oneCell' = true) (hfit : off + n ≤ cur.size) :
    (Instr.storeAt t (.pointer (some ⟨b, off, none⟩)) v).run P w = .ok () (w.setRow b (cur.toList.take off ++ v.cells.toList ++ cur.toList.drop (off + n)).toArray) := by
  have hst := run_storeCells_at P b off ty v.cells.toList 0 cur w hb (by simp [hv]; omega) h1
  simp only [Nat.add_zero, Array.length_toList, hv] at hst
  simp only [Instr.storeAt, Instr.sureAddr, Sem.run_bind, Sem.run_pure, Result.andThen_ok, storeVar, run_sizeOf (szOk_eq hn)]
  rw [if_neg (by simp [hv])]
  exact hst

theorem Row.set {w : World} {I : Nat → Nat} {xs : List Value} {e : Nat} {es : List (List PV)} (h : Row w I xs e es) {idx off : Nat} (hi : idx < es.length) {qs : List PV} {ys : List Value} (hq : All2 (RI w I) qs ys) (hoff : off + qs.length ≤ e) :
    Row w I (xs.take (idx * e + off) ++ ys ++ xs.drop (idx * e + off + ys.length)) e (es.set idx ((es[idx]).take off ++ (qs ++ (es[idx]).drop (off + qs.length)))) := by
  have hl := h.len
  have hwi := h.wid es[idx] (List.getElem_mem _)
  have hql := hq.length
  have hb : idx * e + e ≤ es.length * e := by
    have := Nat.mul_le_mul_right e (show idx + 1 ≤ es.length from hi)
    rw [Nat.add_mul, Nat.one_mul] at this
    exact this
  have hnl : ((es[idx]).take off ++ (qs ++ (es[idx]).drop (off + qs.length))).length = e := by simp [hwi]; omega
  refine ⟨by simp [hl]; omega, fun x hx => ?_, fun j q hj hqq => ?_⟩
  · rcases List.mem_or_eq_of_mem_set hx with hx | rfl
    · exact h.wid x hx
    · exact hnl
  · have hj' : j < es.length := by simpa using hj
    have hwj := h.wid es[j] (List.getElem_mem _)
    have ltk : (xs.take (idx * e + off)).length = idx * e + off := by simp [hl]; omega
    -- the cell of the new row
    have keyO : (j * e + q < idx * e + off ∨ idx * e + off + ys.length ≤ j * e + q) → (xs.take (idx * e + off) ++ ys ++ xs.drop (idx * e + off + ys.length))[j * e + q]? = xs[j * e + q]? := by
      rintro (hlt | hge)
      · rw [List.append_assoc, List.getElem?_append_left (by omega), List.getElem?_take, if_pos hlt]
      · rw [List.getElem?_append_right (by simp [ltk]; omega), List.getElem?_drop]
        congr 1
        simp [ltk]
        omega
    have keyI : idx * e + off ≤ j * e + q → j * e + q < idx * e + off + ys.length → (xs.take (idx * e + off) ++ ys ++ xs.drop (idx * e + off + ys.length))[j * e + q]? = ys[j * e + q - (idx * e + off)]? := by
      intro h1 h2
      rw [List.append_assoc, List.getElem?_append_right (by omega), ltk, List.getElem?_append_left (by omega)]
    by_cases hji : j = idx
    · subst hji
      have e1 : (es.set j ((es[j]).take off ++ (qs ++ (es[j]).drop (off + qs.length))))[j] = (es[j]).take off ++ (qs ++ (es[j]).drop (off + qs.length)) := List.getElem_set_self _
      have hq2 : q < e := by rw [e1, hnl] at hqq; exact hqq
      simp only [e1]
      by_cases h1 : q < off
      · obtain ⟨u, h2, h3⟩ := h.cell j q hj' (by omega)
        refine ⟨u, by rw [keyO (.inl (by omega))]; exact h2, ?_⟩
        rw [List.getElem_append_left (by simp [hwi]; omega)]
        simpa using h3
      · by_cases h4 : q < off + qs.length
        · have h5 : q - off < qs.length := by omega
          have h6 : q - off < ys.length := by omega
          refine ⟨ys[q - off], ?_, ?_⟩
          · rw [keyI (by omega) (by omega)]
            have : j * e + q - (j * e + off) = q - off := by omega
            rw [this]
            simp [h6]
          · have e2 : ((es[j]).take off ++ (qs ++ (es[j]).drop (off + qs.length)))[q]'(by rw [hnl]; exact hq2) = qs[q - off] := by
              have lt2 : ((es[j]).take off).length = off := by simp [hwi]; omega
              rw [List.getElem_append_right (by omega)]
              rw [List.getElem_append_left (by omega)]
              congr 1
              omega
            rw [e2]
            exact hq.get _ h5 h6
        · obtain ⟨u, h2, h3⟩ := h.cell j q hj' (by omega)
          refine ⟨u, by rw [keyO (.inr (by omega))]; exact h2, ?_⟩
          have e2 : ((es[j]).take off ++ (qs ++ (es[j]).drop (off + qs.length)))[q]'(by rw [hnl]; exact hq2) = (es[j])[q]'(by omega) := by
            have lt2 : ((es[j]).take off).length = off := by simp [hwi]; omega
            rw [List.getElem_append_right (by omega)]
            rw [List.getElem_append_right (by omega)]
            rw [List.getElem_drop]
            congr 1
            omega
          rw [e2]
          exact h3
    · have e1 : (es.set idx ((es[idx]).take off ++ (qs ++ (es[idx]).drop (off + qs.length))))[j] = es[j] := List.getElem_set_ne (Ne.symm hji) _
      have hq2 : q < es[j].length := by rw [← e1]; exact hqq
      obtain ⟨u, h2, h3⟩ := h.cell j q hj' hq2
      simp only [e1]
      refine ⟨u, ?_, h3⟩
      rw [keyO]
      · exact h2
      · rcases Nat.lt_or_gt_of_ne hji with hlt | hgt
        · have := Nat.mul_le_mul_right e (show j + 1 ≤ idx from hlt)
          rw [Nat.add_mul, Nat.one_mul] at this
          exact .inl (by omega)
        · have := Nat.mul_le_mul_right e (show idx + 1 ≤ j from hgt)
          rw [Nat.add_mul, Nat.one_mul] at this
          exact .inr (by omega)

theorem arrAt_row {w : World} {I : Nat → Nat} {vs : Array Value} {e : Nat} {es : List (List PV)} : ArrAt w I vs e es ↔ Row w I vs.toList e es := by
  constructor
  · rintro ⟨h1, h2, h3⟩
    exact ⟨by simpa using h1, h2, fun j q hj hq => by obtain ⟨u, h4, h5⟩ := h3 j q hj hq; exact ⟨u, by simpa using h4, h5⟩⟩
  · rintro ⟨h1, h2, h3⟩
    exact ⟨by simpa using h1, h2, fun j q hj hq => by obtain ⟨u, h4, h5⟩ := h3 j q hj hq; exact ⟨u, by simpa using h4, h5⟩⟩

theorem upd_same_val {α : Type} (f : Nat → α) (d : Nat) (v : α) (h : f d = v) : upd f d v = f := by
  funext e; unfold upd; split
  · subst_vars; rfl
  · rfl

section
variable {P : Program} {N : Nat} {σ σ' : St} {a : Act} {w : World} {g : Gh} (hr : Rel N σ a w g)
include hr

theorem eff_st {o : Oper} {t : TypeId} {x v : Operand} {y z : Opd} {n : Nat} {C : CallF} (ho : o.op = .store t x v) (hd : o.dst = none) (hx : opdOk x y = true) (hv : opdOk v z = true) (hn : szOk P t n = true) (he : evOp C (.st n y z) σ = some σ') : StepTo P N o σ σ' a w g := by
  simp only [evOp, Option.map_eq_some_iff] at he
  obtain ⟨H', he, rfl⟩ := he
  have hX := opd_R hr hx
  have hV := opd_R hr hv
  unfold stV at he
  split at he
  · rename_i i off e1
    rw [e1] at hX
    split at he
    · rename_i cs hH
      split at he
      · rename_i hc
        cases he
        obtain ⟨_, hX⟩ := hX
        obtain ⟨vs, ty, hb, ha, hI⟩ := hr.hr.cells i cs hH
        have hcells := cells_R hV hc.2.2
        have hsz : (a.eval v).cells.size = n := by rw [← Array.length_toList, ← hcells.length]; exact hc.1
        have hvl : vs.size = cs.length := by rw [← Array.length_toList]; exact ha.length.symm
        have hrun := run_storeAt hn hb hsz (hcells.all_right fun p u h => h.cell.2) (off := off) (by omega)
        have hown : ownBlk g σ.H i = some (g.κ i) := by unfold ownBlk; rw [hH]
        have hnew : All2 (RC g w σ.H) (cs.take off ++ ((z.ev σ.T).cellsOf ++ cs.drop (off + n))) ((vs.toList.take off ++ (a.eval v).cells.toList ++ vs.toList.drop (off + n)).toArray).toList := by
          simp only [List.append_assoc]
          exact (ha.take off).append (hcells.append (ha.drop _))
        obtain ⟨h1, h2, h3, h4⟩ := obj_upd (g' := g) (w' := w.setRow (g.κ i) (vs.toList.take off ++ (a.eval v).cells.toList ++ vs.toList.drop (off + n)).toArray) (H' := upd σ.H i (.cells (cs.take off ++ ((z.ev σ.T).cellsOf ++ cs.drop (off + n))))) i hr.hr
          (by simp) rfl rfl rfl (fun j hj => upd_ne _ _ hj) (fun j hj => ⟨rfl, rfl⟩) (fun b hb hno => ⟨setRow_other w (g.κ i) b _ (fun e => hno (by rw [hown, e])), rfl⟩)
          (fun b hb => by rw [hown] at hb; cases hb; exact ⟨Nat.le_refl _, fun j hj => by rw [hI] at hj; cases hj⟩) (fun b hb => hr.hr.fresh b (by simpa using hb))
          ⟨(fun cs' e => ⟨⟨_, upd_self _ _ _⟩, rfl⟩), (fun e es hh => by rw [hH] at hh; rcases hh with hh | hh <;> cases hh), (fun e2 n2 u ht => by simp [TokR, hH] at ht)⟩
          (fun b hb => by unfold ownBlk at hb; rw [upd_self] at hb; exact .inl (by rw [hown]; exact hb))
          (fun hk hl => by
            unfold ObjOk
            rw [upd_self]
            exact ⟨_, ty, setRow_heap w (g.κ i) vs _ ty _ hb, hnew.mono fun p u _ h => RC.mono hk hl h, hI⟩)
        refine stepTo_skip hd ?_ (hr.same h2 h3 h1) (h4 _ fun _ => ⟨(fun cs' e => ⟨⟨_, upd_self _ _ _⟩, rfl⟩), (fun e => by rw [hH] at e; cases e), (fun t2 e2 n2 hh => by rw [hH] at hh; cases hh)⟩)
        simp only [execOp, ho, Sem.run_bind, hX, hrun, Result.andThen_ok, Sem.run_pure]
      · cases he
    · cases he
  · rename_i i esz idx off e1
    rw [e1] at hX
    obtain ⟨_, hX⟩ := hX
    split at he
    · rename_i e es qs hH hq
      split at he
      · rename_i hc
        obtain ⟨rfl, hql⟩ := hc
        split at he
        · rename_i cs hcs
          split at he
          · rename_i hle
            cases he
            obtain ⟨hidx, rfl⟩ := List.getElem?_eq_some_iff.1 hcs
            obtain ⟨vs, ty, hb, hat, hI, hml⟩ := hr.hr.arr i e es hH
            have hrow := arrAt_row.1 hat
            have hcells := cells_R hV (imms_allCells hq)
            obtain ⟨hqi, hqlen⟩ := imms_RI hq hcells
            have hsz : (a.eval v).cells.size = n := by rw [← Array.length_toList, ← hcells.length, ← hqlen]; exact hql
            have hwi := hrow.wid es[idx] (List.getElem_mem _)
            have hle' : off + n ≤ e := by omega
            have hfit : idx * e + off + n ≤ vs.size := by
              have h9 := Nat.mul_le_mul_right e (show idx + 1 ≤ es.length from hidx)
              rw [Nat.add_mul, Nat.one_mul] at h9
              rw [hat.1]
              omega
            have hrun := run_storeAt hn hb hsz (hcells.all_right fun p u h => h.cell.2) (off := idx * e + off) hfit
            have hown : ownBlk g σ.H i = some (g.κ i) := by unfold ownBlk; rw [hH]
            have hnew := Row.set hrow hidx (off := off) hqi (by omega)
            have hyl : (a.eval v).cells.toList.length = n := by simpa using hsz
            rw [hyl, hql] at hnew
            obtain ⟨h1, h2, h3, h4⟩ := obj_upd (g' := g) (w' := w.setRow (g.κ i) (vs.toList.take (idx * e + off) ++ (a.eval v).cells.toList ++ vs.toList.drop (idx * e + off + n)).toArray)
              (H' := upd σ.H i (.arr e (es.set idx ((es[idx]).take off ++ (qs ++ (es[idx]).drop (off + n)))))) i hr.hr
              (by simp) rfl rfl rfl (fun j hj => upd_ne _ _ hj) (fun j hj => ⟨rfl, rfl⟩) (fun b hb hno => ⟨setRow_other w (g.κ i) b _ (fun e => hno (by rw [hown, e])), rfl⟩)
              (fun b hb => by rw [hown] at hb; cases hb; exact ⟨Nat.le_refl _, fun j hj => by rw [hI] at hj; cases hj⟩) (fun b hb => hr.hr.fresh b (by simpa using hb))
              ⟨(fun cs' e => by rw [hH] at e; cases e), (fun e2 es2 hh => by
                  rw [hH] at hh
                  rcases hh with hh | hh <;> cases hh
                  exact ⟨⟨_, .inl (upd_self _ _ _), by simp⟩, rfl⟩), (fun e2 n2 u ht => by simp [TokR, hH] at ht)⟩
              (fun b hb => by unfold ownBlk at hb; rw [upd_self] at hb; exact .inl (by rw [hown]; exact hb))
              (fun hk hl => by
                unfold ObjOk
                rw [upd_self]
                exact ⟨_, ty, setRow_heap w (g.κ i) vs _ ty _ hb, arrAt_row.2 (by simpa using hnew.mono hk), hI, by simpa using hml⟩)
            refine stepTo_skip hd ?_ (hr.same h2 h3 h1) (h4 _ fun _ => ⟨(fun cs' e => by rw [hH] at e; cases e), (fun e => by rw [hH] at e; cases e), (fun t2 e2 n2 hh => by rw [hH] at hh; cases hh)⟩)
            simp only [execOp, ho, Sem.run_bind, hX, hrun, Result.andThen_ok, Sem.run_pure]
          · cases he
        · cases he
      · cases he
    · cases he
  · cases he

/-- what a made array's cells are -/
def constI : Value → PV → Bool
  | .int k n, .int k' n' => decide (k = k') && decide (n = n')
  | .bool a, .bool b => a == b
  | .pointer none, .nilp => true
  | .slice none n c, .sl .plain _ es => decide (n = 0) && decide (c = 0) && es.isEmpty
  | _, _ => false
def constIs : List Value → List PV → Bool
  | [], [] => true
  | v :: l, p :: r => constI v p && constIs l r
  | _, _ => false
omit hr in
theorem constI_RI {v : Value} {p : PV} (h : constI v p = true) (w : World) (I : Nat → Nat) : RI w I p v := by
  unfold constI at h
  split at h
  · simp at h; obtain ⟨rfl, rfl⟩ := h; exact .int _ _
  · simp at h; subst h; exact .bool _
  · exact .nilp
  · simp at h; obtain ⟨⟨rfl, rfl⟩, h⟩ := h
    subst h
    exact .sl _ [] none 0 0 (fun _ _ => undef) rfl (by simp) (Nat.zero_le _) (Nat.le_refl _) (fun h => absurd h (by omega)) (fun j q hj => absurd hj (by simp))
  · cases h
omit hr in
theorem constIs_RI : ∀ {l : List Value} {r : List PV}, constIs l r = true → ∀ (w : World) (I : Nat → Nat), All2 (RI w I) r l
  | [], [], _, _, _ => .nil
  | v :: l, p :: r, h, w, I => by
    simp [constIs] at h
    exact .cons (constI_RI h.1 w I) (constIs_RI h.2 w I)
  | [], _ :: _, h, _, _ => by simp [constIs] at h
  | _ :: _, [], h, _, _ => by simp [constIs] at h

theorem eff_mks {o : Oper} {t ty : TypeId} {x x2 : Operand} {y : Opd} {d s esz bytes : Nat} {zs : List PV} {C : CallF} {i : TypeInfo} {z : Value} (ho : o.op = .makeSlice t x x2) (hd : o.dst = some d) (hN : d < N)
    (ht : sliceElem P t = some ty) (hi : P.info? ty = some i) (hs : i.size = esz) (hby : i.bytes = bytes) (h0 : 0 < esz) (hz : i.zero = some z) (hzs : z.cells.size = esz) (hc : constIs z.cells.toList zs = true) (hb8 : 0 < bytes)
    (hx : opdOk x y = true) (hx2 : opdOk x2 y = true) (he : evOp C (.mks d s esz bytes zs y) σ = some σ') : StepTo P N o σ σ' a w g := by
  simp only [evOp] at he
  split at he
  · rename_i n hfree e1
    split at he
    · rename_i hcond
      cases he
      obtain ⟨c1, c2, c3⟩ := hcond
      have hxv := R_int hr hx e1
      have hxv2 := R_int hr hx2 e1
      have hrun0 := run_make (P := P) w t ty i z (sliceElem_eq ht) hi hz .i64 .i64 n n c1 (Int.le_refl _) (by rw [hby, Int.mul_comm]; omega) c3
      rw [hs] at hrun0
      have hrow : ∀ (w' : World) (I' : Nat → Nat), Row w' I' (madeCells z.cells (n.toNat * esz)).toList esz (List.replicate n.toNat zs) := by
        intro w' I'
        have hzr := constIs_RI hc w' I'
        have hzl : zs.length = esz := by rw [hzr.length]; simpa using hzs
        refine ⟨by simp [size_madeCells], fun x hx => by rw [List.eq_of_mem_replicate hx]; exact hzl, fun j q hj hq => ?_⟩
        have e2 : (List.replicate n.toNat zs)[j] = zs := by simp
        have hq' : q < esz := by rw [e2, hzl] at hq; exact hq
        have hj' : j < n.toNat := by simpa using hj
        have h3 := idx_lt hj' hq'
        have hqz : q < z.cells.toList.length := by simpa [hzs] using hq'
        have hqz' : q < zs.length := by omega
        refine ⟨z.cells.toList[q], ?_, ?_⟩
        · have e3 : (j * esz + q) % z.cells.size = q := by rw [hzs, Nat.mul_comm, Nat.mul_add_mod, Nat.mod_eq_of_lt hq']
          simp [madeCells, h3, e3]
          rw [getElem!_pos z.cells q (by omega)]
        · simp only [e2]
          exact hzr.get q hqz' hqz
      have hml : n.toNat ≤ maxLen := by simp only [maxLen]; omega
      obtain ⟨k1, k2, k3, k4⟩ := new_obj hr.hr rfl rfl rfl rfl hfree (.arr esz (List.replicate n.toNat zs)) undef 0 (madeCells z.cells (n.toNat * esz)) ty
        (fun b hb => by unfold ownBlk at hb; rw [upd_self] at hb; simp only [upd_self] at hb; cases hb; rfl)
        (fun w' hw' hk hl => by
          unfold ObjOk
          rw [upd_self]
          refine ⟨madeCells z.cells (n.toNat * esz), ty, ?_, arrAt_row.2 (hrow _ _), ?_, by simpa using hml⟩
          · simp only [upd_self]; rw [hw']; exact Deep.blk_alloc_new _ _
          · simp only [upd_self])
      refine stepTo_value (v := .slice (some ⟨w.heap.size, 0, none⟩) n.toNat n.toNat) (w' := w.alloc (.cells (madeCells z.cells (n.toNat * esz)) ty)) ?_ ?_ (k4 _)
      · simp only [execOp, ho, hxv, hxv2, Sem.run_bind, hrun0, Result.andThen_ok, Sem.run_pure]
      · rw [hd]
        exact hr.put k2 k3 k1 hN ⟨⟨_, .inl (upd_self _ _ _), by simp⟩, by simp only [upd_self]⟩
    · cases he
  · cases he
end
end Go.Px
/- Append. -/
set_option linter.unusedVariables false
set_option linter.unusedSimpArgs false
namespace Go.Px
open Go

theorem append_nothing {P : Program} {t ty e : TypeId} {i : TypeInfo} (ht : P.underlying t = some (.slice e)) (hi : P.info? e = some i) (w : World) (base a2 : Option Addr) (n c c2 : Nat) (hle : n ≤ c) :
    (Builtin.append_ #[t, t] ty #[.slice base n c, .slice a2 0 c2]).run P w = .ok (.slice base n c) w := by
  cases a2 <;> cases base <;> simp [Builtin.append_, run_underlying ht, sizeOf, typeInfo, hi, Builtin.lenOf, hle, Builtin.firstCells, loadCells, loadCellsFrom, storeCells]

theorem tok_row {w : World} {I : Nat → Nat} {ty esz n B cap : Nat} {xs : List Value} {es : List (List PV)} (ho : w.ownsRow 0 ty esz (.slice (some ⟨B, 0, none⟩) n cap) n xs) (hr : RI w I (.sl .plain esz es) (.slice (some ⟨B, 0, none⟩) n cap)) (hn : n = es.length) :
    Row w I xs esz es := by
  obtain ⟨a, c, ys, h1, h2, h3, h4, h5⟩ := Row.ofRI hr
  cases h1
  have hx : xs = ys := by
    rcases Nat.eq_zero_or_pos es.length with h0 | h0
    · have l1 := ho.1
      have l2 := h4.len
      rw [h0, Nat.zero_mul] at l1 l2
      rw [List.eq_nil_of_length_eq_zero l1, List.eq_nil_of_length_eq_zero l2]
    · obtain ⟨ad, e1, e2, e3, e4⟩ := h5 h0
      cases e1
      have l1 := ho.1
      have l2 := h4.len
      apply List.ext_getElem (by omega)
      intro j hj1 hj2
      have c1 := ho.cells (g := B) rfl j xs[j] (by simp [hj1])
      have c2 := e4 j ys[j] (by simp [hj2])
      rw [add_none rfl] at c1
      simp only [Nat.zero_add] at c1 c2
      rw [c2] at c1
      exact (Option.some.inj c1).symm
  rw [hx]
  exact h4

section
variable {P : Program} {N : Nat} {σ σ' : St} {a : Act} {w : World} {g : Gh} (hr : Rel N σ a w g)
include hr

theorem eff_app {o : Oper} {t ty : TypeId} {x y : Operand} {x' y' : Opd} {d s esz bytes : Nat} {C : CallF} {i : TypeInfo} {z : Value}
    (ho : o.op = .call { callee := .builtin .append, args := #[x, y], argTypes := #[t, t] }) (hd : o.dst = some d) (hN : d < N)
    (ht : sliceElem P t = some ty) (hi : P.info? ty = some i) (hs : i.size = esz) (hby : i.bytes = bytes) (h0 : 0 < esz) (hz : i.zero = some z) (hzs : z.cells.size = esz) (hb8 : 0 < bytes)
    (hx : opdOk x x' = true) (hy : opdOk y y' = true) (he : evOp C (.app d s ty esz bytes x' y') σ = some σ') : StepTo P N o σ σ' a w g := by
  have hu := sliceElem_eq ht
  have hX := opd_R hr hx
  have hY := opd_R hr hy
  simp only [evOp, Option.map_eq_some_iff] at he
  obtain ⟨⟨pv, H'⟩, he, rfl⟩ := he
  -- what the machine does, given the append's own run
  have run_of : ∀ v w', (Builtin.append_ #[t, t] o.type #[a.eval x, a.eval y]).run P w = .ok v w' → (execOp a.eval o).run P w = .ok (.value v) w' := fun v w' h => by
    simp only [execOp, ho, resolve, Sem.run_bind, Sem.run_pure, Result.andThen_ok, invoke, builtin, List.map_toArray, List.map_cons, List.map_nil, h]
  unfold appV at he
  split at he
  · rename_i tg e es tg' e' es' e1 e2
    rw [e1] at hX
    rw [e2] at hY
    split at he
    · rename_i hc
      obtain ⟨hc1, hc2, hc3⟩ := hc
      obtain ⟨a2, c2, ys, hy1, hy2, hy3, hy4, hy5⟩ := Row.ofRI (sl_R hY)
      have hsmall : es.length + es'.length ≤ 140737488355328 := by
        have : es.length + es'.length ≤ (es.length + es'.length) * bytes := Nat.le_mul_of_pos_right _ hb8
        simp only [appLim] at hc3
        omega
      have hml : es.length + es'.length ≤ maxLen := by simp only [maxLen]; omega
      split at he
      · -- behind nil
        split at he
        · rename_i hfree
          split at he
          · rename_i hes
            subst hes
            cases he
            obtain ⟨_, hX⟩ := hX
            simp only [List.length_nil, Nat.zero_add] at hsmall hml hc3
            rcases Nat.eq_zero_or_pos es'.length with hm | hm
            · have hes' : es' = [] := List.eq_nil_of_length_eq_zero hm
              subst hes'
              have hrun := append_nothing (P := P) (ty := o.type) hu hi w none a2 0 0 c2 (Nat.le_refl _)
              obtain ⟨k1, k2, k3, k4⟩ := obj_upd (g' := { g with τ := upd g.τ s (.slice none 0 0) }) (w' := w) (H' := upd σ.H s (.tok ty esz 0)) s hr.hr (Nat.le_refl _) rfl rfl rfl (fun j hj => upd_ne _ _ hj) (fun j hj => ⟨rfl, upd_ne _ _ hj⟩)
                (fun b hb _ => ⟨rfl, rfl⟩) (fun b hb => ⟨Nat.le_refl _, fun _ _ => rfl⟩) hr.hr.fresh (.free hfree) (fun b hb => by unfold ownBlk at hb; rw [upd_self] at hb; simp only [upd_self, Value.ownBlock] at hb; cases hb)
                (fun hk hl => by
                  unfold ObjOk
                  rw [upd_self]
                  exact ⟨[], by simp only [upd_self]; exact World.ownsRow_nil w 0 ty esz, (fun b hb => by simp only [upd_self, Value.ownBlock] at hb; cases hb), h0⟩)
              refine stepTo_value (v := .slice none 0 0) (w' := w) (run_of _ _ (by rw [hX, hy1]; exact hrun)) ?_ (k4 _ fun _ => ⟨(fun cs e => by rw [hfree] at e; cases e), (fun e => by rw [hfree] at e; cases e), (fun t e n hh => by rw [hfree] at hh; cases hh)⟩)
              rw [hd]
              refine hr.put k2 k3 k1 hN ⟨.sl esz [] none 0 0 (fun _ _ => undef) rfl (by simp) (Nat.zero_le _) (Nat.le_refl _) (fun h => absurd h (by omega)) (fun j q hj => absurd hj (by simp)), ?_⟩
              unfold TokR
              rw [upd_self]
              exact ⟨Nat.le_refl _, fun _ _ => by simp only [upd_self]⟩
            · obtain ⟨ad, rfl, hsp, hI, hcell⟩ := hy5 hm
              have hee : e' = esz := by
                rcases hc2 with h | h
                · exact h
                · rw [h] at hm; cases hm
              subst hee
              have hrun := run_append_nil (P := P) w t o.type ty i z hu hi hz ad es'.length c2 ys (by rw [hs]; exact hy4.len) (fun j v hv => by rw [add_none hsp]; exact hcell j v hv) hm (by omega) (by rw [hby]; simp only [appLim] at hc3; omega)
              have hge := grownCap_ge w es'.length 0 ty
              have hcm := grownCap_le_maxLen w es'.length 0 ty hml
              have hcur : (ys.toArray ++ Builtin.zeroCells z.cells (grownCap w es'.length 0 ty - es'.length)).size = grownCap w es'.length 0 ty * e' := by
                simp only [Array.size_append, List.size_toArray, size_zeroCells, hzs, hy4.len, ← Nat.add_mul]
                congr 1
                omega
              obtain ⟨k1, k2, k3, k4⟩ := new_obj (wd := w.drew) hr.hr rfl rfl rfl rfl hfree (.tok ty e' es'.length) (.slice (some ⟨w.heap.size, 0, none⟩) es'.length (grownCap w es'.length 0 ty)) (es'.length * e')
                (ys.toArray ++ Builtin.zeroCells z.cells (grownCap w es'.length 0 ty - es'.length)) ty
                (fun b hb => by unfold ownBlk at hb; rw [upd_self] at hb; simp only [upd_self, Value.ownBlock] at hb; cases hb; rfl)
                (fun w' hw' hk hl => by
                  unfold ObjOk
                  rw [upd_self]
                  refine ⟨ys, ⟨hy4.len, .inr ⟨w.heap.size, _, _, by simp only [upd_self], Nat.zero_le _, by rw [hw']; exact Deep.blk_alloc_new _ _, hge, hcm, hcur, ?_⟩⟩, fun b hb => ?_, h0⟩
                  · simp only [Array.toList_append]
                    rw [← hy4.len]
                    exact List.take_left
                  · simp only [upd_self, Value.ownBlock] at hb
                    cases hb
                    simp only [upd_self])
              refine stepTo_value (run_of _ _ (by rw [hX, hy1]; exact hrun)) ?_ (k4 _)
              rw [hd]
              refine hr.put k2 k3 k1 hN ⟨?_, ?_⟩
              · refine Row.toRI (ad := ⟨w.heap.size, 0, none⟩) (hy4.mono k2) hml hge rfl (fun _ => by simp only [upd_self]; omega) (fun j u hu' => ?_)
                have hb : (w.drew.alloc (.cells (ys.toArray ++ Builtin.zeroCells z.cells (grownCap w es'.length 0 ty - es'.length)) ty)).heap[w.heap.size]? = some (.cells (ys.toArray ++ Builtin.zeroCells z.cells (grownCap w es'.length 0 ty - es'.length)) ty) := Deep.blk_alloc_new w.drew _
                rw [cell_of_row _ _ _ _ _ _ hb]
                obtain ⟨hj, _⟩ := List.getElem?_eq_some_iff.1 hu'
                simp only [Nat.zero_add]
                rw [Array.getElem?_append_left (by simpa using hj)]
                simpa using hu'
              · unfold TokR
                rw [upd_self]
                exact ⟨Nat.le_refl _, fun _ _ => by simp only [upd_self]⟩
          · cases he
        · cases he
      · -- a row of one's own
        rename_i idx
        split at he
        · rename_i ty2 e3 n hH
          split at he
          · rename_i hcond
            obtain ⟨rfl, rfl, rfl, rfl⟩ := hcond
            cases he
            obtain ⟨hXri, hXt⟩ := hX
            have hv : a.eval x = g.τ idx := by
              unfold TokR at hXt
              rw [hH] at hXt
              exact hXt.2 rfl rfl
            obtain ⟨xs, hown, hIown, _⟩ := hr.hr.tok idx ty2 e es.length hH
            rw [hv] at hXri
            -- nothing is added
            rcases Nat.eq_zero_or_pos es'.length with hm | hm
            · have hes' : es' = [] := List.eq_nil_of_length_eq_zero hm
              subst hes'
              obtain ⟨a1, c1, _, hx1, hx2, _⟩ := Row.ofRI hXri
              have hrun := append_nothing (P := P) (ty := o.type) hu hi w a1 a2 es.length c1 c2 hx2
              simp only [List.append_nil, List.length_nil, Nat.add_zero]
              rw [upd_same_val σ.H idx _ hH]
              refine stepTo_value (v := g.τ idx) (w' := w) (run_of _ _ (by rw [hv, hx1, hy1]; exact hrun)) ?_ (.refl _ _ _ _)
              rw [hd]
              refine hr.put (Keeps.refl _ _) (Lives.refl _ _) hr.hr hN ⟨hXri, ?_⟩
              rw [← hv]
              exact hXt
            · obtain ⟨ad, rfl, hsp, hI, hcell⟩ := hy5 hm
              have hee : e' = e := by
                rcases hc2 with h | h
                · exact h
                · rw [h] at hm; cases hm
              subst hee
              have hcell' : ∀ j v, ys[j]? = some v → w.cell? (ad.add j) = some v := fun j v hv' => by rw [add_none hsp]; exact hcell j v hv'
              have hyl : ys.length = es'.length * i.size := by rw [hs]; exact hy4.len
              have hpers : ∀ (g' : Gh) , Pers g σ.H g' (upd σ.H idx (.tok ty2 e' (es.length + es'.length))) idx := fun g' =>
                ⟨(fun cs e => by rw [hH] at e; cases e), (fun e => by rw [hH] at e; cases e), (fun t2 e2 n2 hh => by
                  rw [hH] at hh
                  cases hh
                  exact .inr ⟨_, upd_self _ _ _, by omega, fun h => absurd h (by omega)⟩)⟩
              have hlives : ∀ (g' : Gh), LivesAt g σ.H g' (upd σ.H idx (.tok ty2 e' (es.length + es'.length))) idx := fun g' =>
                ⟨(fun cs e => by rw [hH] at e; cases e), (fun e es hh => by rw [hH] at hh; rcases hh with hh | hh <;> cases hh), (fun e2 n2 u htk => by
                  unfold TokR at htk ⊢
                  rw [hH] at htk
                  rw [upd_self]
                  exact ⟨by have := htk.1; omega, fun _ h => by have := htk.1; omega⟩)⟩
              have hlen2 : ((es.length + es'.length : Nat) : Int) ≤ 9223372036854775807 := by omega
              -- where the row goes on in a new block
              have grow : ∀ (olds : List Value) (cap : Nat), Row w g.I olds e' es → es.length + es'.length ≤ cap → cap ≤ maxLen → (Builtin.append_ #[t, t] o.type #[a.eval x, a.eval y]).run P w =
                    .ok (.slice (some ⟨w.heap.size, 0, none⟩) (es.length + es'.length) cap) (w.drew.alloc (.cells (olds.toArray ++ ys.toArray ++ Builtin.zeroCells z.cells (cap - (es.length + es'.length))) ty2)) →
                  StepTo P N o σ { σ with T := upd σ.T d (.sl (.tok idx) e' (es ++ es')), H := upd σ.H idx (.tok ty2 e' (es.length + es'.length)) } a w g := by
                intro olds cap hrow hge hcm hrun
                have hcur : (olds.toArray ++ ys.toArray ++ Builtin.zeroCells z.cells (cap - (es.length + es'.length))).size = cap * e' := by
                  simp only [Array.size_append, List.size_toArray, size_zeroCells, hzs, hrow.len, hy4.len, ← Nat.add_mul]
                  congr 1
                  omega
                have hsize : (w.drew.alloc (.cells (olds.toArray ++ ys.toArray ++ Builtin.zeroCells z.cells (cap - (es.length + es'.length))) ty2)).heap.size = w.heap.size + 1 := Deep.nblk_alloc w.drew _
                have hnewb : (w.drew.alloc (.cells (olds.toArray ++ ys.toArray ++ Builtin.zeroCells z.cells (cap - (es.length + es'.length))) ty2)).heap[w.heap.size]? = some (.cells (olds.toArray ++ ys.toArray ++ Builtin.zeroCells z.cells (cap - (es.length + es'.length))) ty2) := Deep.blk_alloc_new w.drew _
                have hold : ∀ b, b < w.heap.size → (w.drew.alloc (.cells (olds.toArray ++ ys.toArray ++ Builtin.zeroCells z.cells (cap - (es.length + es'.length))) ty2)).heap[b]? = w.heap[b]? := fun b hb => Deep.blk_alloc_lt w.drew _ b hb
                obtain ⟨k1, k2, k3, k4⟩ := obj_upd (g' := { κ := g.κ, τ := upd g.τ idx (.slice (some ⟨w.heap.size, 0, none⟩) (es.length + es'.length) cap), I := upd g.I w.heap.size ((es.length + es'.length) * e') })
                  (w' := w.drew.alloc (.cells (olds.toArray ++ ys.toArray ++ Builtin.zeroCells z.cells (cap - (es.length + es'.length))) ty2)) (H' := upd σ.H idx (.tok ty2 e' (es.length + es'.length))) idx hr.hr (by omega) rfl rfl rfl
                  (fun j hj => upd_ne _ _ hj) (fun j hj => ⟨rfl, upd_ne _ _ hj⟩) (fun b hb _ => ⟨hold b hb, upd_ne _ _ (by omega)⟩)
                  (fun b hb => by
                    have hlt := ownBlk_lt hr.hr hb
                    exact ⟨Nat.le_of_eq (upd_ne _ _ (by omega)).symm, fun j _ => World.cell?_of_block (w := w) (hold b hlt)⟩)
                  (fun b hb => by
                    rw [hsize] at hb
                    show upd g.I w.heap.size _ b = 0
                    rw [upd_ne _ _ (by omega)]
                    exact hr.hr.fresh b (by omega)) (hlives _)
                  (fun b hb => by unfold ownBlk at hb; rw [upd_self] at hb; simp only [upd_self, Value.ownBlock] at hb; cases hb; exact .inr (Nat.le_refl _))
                  (fun hk hl => by
                    unfold ObjOk
                    rw [upd_self]
                    refine ⟨olds ++ ys, ⟨by rw [List.length_append, hrow.len, hy4.len, Nat.add_mul], .inr ⟨w.heap.size, _, _, by simp only [upd_self], Nat.zero_le _, hnewb, hge, hcm, hcur, ?_⟩⟩, fun b hb => ?_, h0⟩
                    · simp only [Array.toList_append]
                      have : (es.length + es'.length) * e' = (olds ++ ys).length := by rw [List.length_append, hrow.len, hy4.len, Nat.add_mul]
                      rw [this]
                      exact List.take_left
                    · simp only [upd_self, Value.ownBlock] at hb
                      cases hb
                      simp only [upd_self])
                refine stepTo_value (run_of _ _ hrun) ?_ (k4 _ fun _ => hpers _)
                rw [hd]
                refine hr.put k2 k3 k1 hN ⟨?_, ?_⟩
                · have hrow2 := (Row.append hrow hy4).mono k2
                  have := Row.toRI (ad := ⟨w.heap.size, 0, none⟩) (c := cap) hrow2 (by simpa using hml) (by simpa using hge) rfl (fun _ => by simp only [upd_self, List.length_append]; omega) (fun j u hu' => by
                    rw [cell_of_row _ _ _ _ _ _ hnewb]
                    obtain ⟨hj, _⟩ := List.getElem?_eq_some_iff.1 hu'
                    simp only [Nat.zero_add]
                    rw [Array.getElem?_append_left (by simpa using hj)]
                    simpa using hu')
                  rw [List.length_append] at this
                  exact this
                · unfold TokR
                  rw [upd_self]
                  exact ⟨by simp, fun _ _ => by simp only [upd_self]⟩
              rcases hown.2 with ⟨hnil, hn0⟩ | ⟨B, cap, cur, hB, _, hgb, hnc, hcm, hcs, htake⟩
              · have hes : es = [] := List.eq_nil_of_length_eq_zero hn0
                have hrun := run_append_nil (P := P) w t o.type ty2 i z hu hi hz ad es'.length c2 ys hyl hcell' hm (by omega) (by rw [hby]; simp only [appLim] at hc3; have : es'.length * bytes ≤ (es.length + es'.length) * bytes := Nat.mul_le_mul_right _ (by omega); omega)
                have hgr := grow [] (grownCap w es'.length 0 ty2) (by rw [hes]; exact .nil _ _ _) (by rw [hes]; simpa using grownCap_ge w es'.length 0 ty2) (grownCap_le_maxLen w es'.length 0 ty2 (by omega))
                refine hgr ?_
                rw [hv, hnil, hy1, hrun, hes]
                simp
              · rw [hB] at hXri hown hIown
                have hrow := tok_row hown hXri rfl
                have hIB := hIown B rfl
                by_cases hroom : es.length + es'.length ≤ cap
                · have hfit : es.length * i.size + ys.length ≤ cur.size := by rw [hyl, hcs, hs, ← Nat.add_mul]; exact Nat.mul_le_mul_right _ hroom
                  have hrun := run_append_room (P := P) w t o.type ty2 i hu hi B es.length cap cur hgb ad es'.length c2 ys hyl hcell' hy4.oneCell hroom hfit
                  rw [hs] at hrun
                  have hownB : ownBlk g σ.H idx = some B := by unfold ownBlk; rw [hH]; simp only [hB, Value.ownBlock]
                  have hsr := setRow_heap w B cur (cur.toList.take (es.length * e') ++ ys ++ cur.toList.drop (es.length * e' + ys.length)).toArray ty2 _ hgb
                  have hcur2 : (cur.toList.take (es.length * e') ++ ys ++ cur.toList.drop (es.length * e' + ys.length)).toArray.size = cap * e' := by
                    rw [hs] at hfit
                    simp only [List.size_toArray, List.length_append, List.length_take, List.length_drop, Array.length_toList, hcs]
                    rw [hcs] at hfit
                    omega
                  obtain ⟨k1, k2, k3, k4⟩ := obj_upd (g' := { κ := g.κ, τ := upd g.τ idx (.slice (some ⟨B, 0, none⟩) (es.length + es'.length) cap), I := upd g.I B ((es.length + es'.length) * e') })
                    (w' := w.setRow B (cur.toList.take (es.length * e') ++ ys ++ cur.toList.drop (es.length * e' + ys.length)).toArray) (H' := upd σ.H idx (.tok ty2 e' (es.length + es'.length))) idx hr.hr (by simp) rfl rfl rfl
                    (fun j hj => upd_ne _ _ hj) (fun j hj => ⟨rfl, upd_ne _ _ hj⟩) (fun b hb hno => by
                      have hne : b ≠ B := fun e => hno (by rw [hownB, e])
                      exact ⟨setRow_other w B b _ hne, upd_ne _ _ hne⟩)
                    (fun b hb => by
                      rw [hownB] at hb
                      cases hb
                      refine ⟨by simp only [upd_self]; rw [hIB]; exact Nat.mul_le_mul_right _ (by omega), fun j hj => ?_⟩
                      rw [hIB] at hj
                      rw [cell_of_row _ _ _ _ _ _ hsr, cell_of_row _ _ _ _ _ _ hgb]
                      have hjc : j < cur.toList.length := by
                        have h9 : es.length * e' ≤ cap * e' := Nat.mul_le_mul_right _ hnc
                        simp only [Array.length_toList, hcs]; omega
                      simp only [List.getElem?_toArray, List.append_assoc]
                      rw [List.getElem?_append_left (by simp only [List.length_take]; omega), List.getElem?_take, if_pos hj]
                      simp)
                    (fun b hb => by
                      have hb' : w.heap.size ≤ b := by simpa using hb
                      have hlt : B < w.heap.size := (Array.getElem?_eq_some_iff.1 hgb).1
                      show upd g.I B _ b = 0
                      rw [upd_ne _ _ (by omega)]
                      exact hr.hr.fresh b hb') (hlives _)
                    (fun b hb => by unfold ownBlk at hb; rw [upd_self] at hb; simp only [upd_self, Value.ownBlock] at hb; cases hb; exact .inl hownB)
                    (fun hk hl => by
                      unfold ObjOk
                      rw [upd_self]
                      refine ⟨xs ++ ys, ⟨by rw [List.length_append, hrow.len, hy4.len, Nat.add_mul], .inr ⟨B, cap, _, by simp only [upd_self], Nat.zero_le _, hsr, hroom, hcm, hcur2, ?_⟩⟩, fun b hb => ?_, h0⟩
                      · rw [htake]
                        have : (es.length + es'.length) * e' = (xs ++ ys).length := by rw [List.length_append, hrow.len, hy4.len, Nat.add_mul]
                        rw [this]
                        exact List.take_left
                      · simp only [upd_self, Value.ownBlock] at hb
                        cases hb
                        simp only [upd_self])
                  refine stepTo_value (run_of _ _ (by rw [hv, hB, hy1]; exact hrun)) ?_ (k4 _ fun _ => hpers _)
                  rw [hd]
                  refine hr.put k2 k3 k1 hN ⟨?_, ?_⟩
                  · have hrow2 := (Row.append hrow hy4).mono k2
                    have := Row.toRI (ad := ⟨B, 0, none⟩) (c := cap) hrow2 (by simpa using hml) (by simpa using hroom) rfl (fun _ => by simp only [upd_self, List.length_append]; omega) (fun j u hu' => by
                      rw [cell_of_row _ _ _ _ _ _ hsr]
                      obtain ⟨hj, _⟩ := List.getElem?_eq_some_iff.1 hu'
                      simp only [Nat.zero_add, List.getElem?_toArray, htake]
                      rw [List.getElem?_append_left hj]
                      exact hu')
                    rw [List.length_append] at this
                    exact this
                  · unfold TokR
                    rw [upd_self]
                    exact ⟨by simp, fun _ _ => by simp only [upd_self]⟩
                · have hrun := run_append_grow (P := P) w t o.type ty2 i z hu hi hz ⟨B, 0, none⟩ es.length cap xs (by rw [hs]; exact hrow.len) (hown.cells (g := B) rfl) ad es'.length c2 ys hyl hcell' (by omega) hlen2 (growslice_fits (by omega) (by rw [hby]; simp only [appLim] at hc3; exact hc3))
                  have hgr := grow xs (grownCap w (es.length + es'.length) cap ty2) hrow (grownCap_ge _ _ _ _) (grownCap_le_maxLen _ _ _ _ hml)
                  exact hgr (by rw [hv, hB, hy1]; exact hrun)
          · cases he
        · cases he
      · cases he
    · cases he
  · cases he
end
end Go.Px
/- Calls: what is lent, and what comes back. -/
set_option linter.unusedVariables false
set_option linter.unusedSimpArgs false
namespace Go.Px
open Go

def FnOk (P : Program) (f : Nat) : Prop := ∃ fn, P.funcs[f]? = some fn ∧ fn.body.isSome = true ∧ fn.name ≠ "runtime.NumGoroutine"
def Snd (P : Program) (f : Nat) (args : List PV) (objs : List Obj) (res : PV) (objs' : List Obj) : Prop :=
  ∀ (w : World) (g : Gh) (vs : Array Value), HR g w (objAt objs) → All2 (R g w (objAt objs)) args vs.toList →
    Calls P f vs w fun e w' => ∃ v g', e = .returned v ∧ HR g' w' (objAt objs') ∧ R g' w' (objAt objs') res v ∧ Stp objs.length w g (objAt objs) w' g' (objAt objs')
def CSound (P : Program) (C : CallF) : Prop := ∀ f args objs res objs', C f args objs = some (res, objs') → FnOk P f ∧ Snd P f args objs res objs'

/-! ### lists of numbers -/
theorem memb_iff {i : Nat} : ∀ {l : List Nat}, memb i l = true ↔ i ∈ l
  | [] => by simp [memb]
  | j :: r => by
    simp only [memb]
    split
    · subst_vars; simp
    · rename_i h; rw [memb_iff (l := r)]; simp [h]
theorem nodupB_get : ∀ {l : List Nat}, nodupB l = true → ∀ (i j : Nat) (hi : i < l.length) (hj : j < l.length), l[i] = l[j] → i = j
  | [], _, i, _, hi, _, _ => by cases hi
  | a :: r, h, i, j, hi, hj, e => by
    simp only [nodupB, Bool.and_eq_true, Bool.not_eq_true'] at h
    have hm : a ∉ r := fun hm => by rw [memb_iff.2 hm] at h; cases h.1
    cases i with
    | zero => cases j with
      | zero => rfl
      | succ j => simp at e hj; exact absurd (e ▸ List.getElem_mem _) hm
    | succ i => cases j with
      | zero => simp at e hi; exact absurd (e ▸ List.getElem_mem _) hm
      | succ j => simp at e hi hj; rw [nodupB_get h.2 i j hi hj e]
theorem posOf_some : ∀ {l : List Nat} {i j : Nat}, posOf i l = some j → ∃ h : j < l.length, l[j] = i
  | [], _, _, h => by simp [posOf] at h
  | a :: r, i, j, h => by
    simp only [posOf] at h
    split at h
    · cases h; subst_vars; exact ⟨by simp, rfl⟩
    · simp only [Option.map_eq_some_iff] at h
      obtain ⟨k, h1, rfl⟩ := h
      obtain ⟨h2, h3⟩ := posOf_some h1
      exact ⟨by simp; omega, by simpa using h3⟩
theorem posOf_none : ∀ {l : List Nat} {i : Nat}, posOf i l = none → i ∉ l
  | [], _, _ => by simp
  | a :: r, i, h => by
    simp only [posOf] at h
    split at h
    · cases h
    · rename_i hne
      have : posOf i r = none := by cases hp : posOf i r <;> simp [hp] at h ⊢
      have := posOf_none this
      simp [hne, this]
theorem posOf_get {l : List Nat} (hn : nodupB l = true) {j : Nat} (hj : j < l.length) : posOf l[j] l = some j := by
  cases h : posOf l[j] l with
  | none => exact absurd (List.getElem_mem hj) (posOf_none h)
  | some k =>
    obtain ⟨h1, h2⟩ := posOf_some h
    rw [nodupB_get hn k j h1 hj h2]
theorem mapO_get {α β : Type} {f : α → Option β} : ∀ {l : List α} {m : List β}, mapO f l = some m → m.length = l.length ∧ ∀ (i : Nat) (h : i < l.length) (h2 : i < m.length), f l[i] = some m[i]
  | [], m, h => by simp [mapO] at h; subst h; exact ⟨rfl, fun i h => by cases h⟩
  | a :: r, m, h => by
    simp only [mapO] at h
    split at h
    · rename_i b s h1 h2
      cases h
      obtain ⟨h3, h4⟩ := mapO_get h2
      refine ⟨by simp [h3], fun i hi hi2 => ?_⟩
      cases i with
      | zero => exact h1
      | succ i => simp; exact h4 i (by simpa using hi) (by simpa using hi2)
    · cases h
theorem All2.mapO {α β γ : Type} {R : α → γ → Prop} {S : β → γ → Prop} {f : α → Option β} : ∀ {l : List α} {m : List β} {n : List γ}, mapO f l = some m → All2 R l n → (∀ a b c, f a = some b → R a c → S b c) → All2 S m n
  | [], _, _, h, h2, _ => by simp [Px.mapO] at h; subst h; cases h2; exact .nil
  | a :: r, m, _, h, h2, hs => by
    simp only [Px.mapO] at h
    split at h
    · rename_i b s h1 h3
      cases h
      cases h2 with
      | cons h4 h5 => exact .cons (hs _ _ _ h1 h4) (All2.mapO h3 h5 hs)
    · cases h
theorem All2.map_left {α β γ : Type} {R : α → γ → Prop} {S : β → γ → Prop} {f : α → β} {l : List α} {n : List γ} (h : All2 R l n) (hs : ∀ a c, R a c → S (f a) c) : All2 S (l.map f) n := by
  induction h with
  | nil => exact .nil
  | cons h1 _ ih => exact .cons (hs _ _ h1) ih

/-! ### other numbers for the objects -/
/-- Values go over from one numbering into another. -/
structure Moves (g : Gh) (H : Nat → Obj) (g' : Gh) (H' : Nat → Obj) (i j : Nat) : Prop where
  cells : ∀ cs, H i = .cells cs → (∃ cs', H' j = .cells cs') ∧ g'.κ j = g.κ i
  tok : ∀ esz n v, TokR g H i esz n v → TokR g' H' j esz n v
  arr : ∀ e es, (H i = .arr e es ∨ H i = .frz e es) → (∃ es', (H' j = .arr e es' ∨ H' j = .frz e es') ∧ es'.length = es.length) ∧ g'.κ j = g.κ i
section
variable {g g' : Gh} {w : World} {H H' : Nat → Obj} {found : List Nat}
theorem ren0_RC (hI : g'.I = g.I) (hm : ∀ i j, posOf i found = some j → Moves g H g' H' i j) {p q : PV} {v : Value} (h : ren0 found p = some q) (hv : RC g w H p v) : RC g' w H' q v := by
  cases p with
  | ptr i off =>
    simp only [ren0, Option.map_eq_some_iff] at h
    obtain ⟨j, h1, rfl⟩ := h
    obtain ⟨⟨cs, h2⟩, rfl⟩ := hv
    obtain ⟨h3, h4⟩ := (hm i j h1).cells cs h2
    exact ⟨h3, by rw [h4]⟩
  | sl t e es =>
    cases t with
    | plain => simp [ren0] at h; subst h; show RI w g'.I _ v; rw [hI]; exact hv
    | nil => simp [ren0] at h; subst h; exact hv
    | tok i =>
      simp only [ren0, Option.map_eq_some_iff] at h
      obtain ⟨j, h1, rfl⟩ := h
      exact ⟨by rw [hI]; exact hv.1, (hm i j h1).tok _ _ _ hv.2⟩
  | view cs =>
    simp [ren0] at h
    subst h
    obtain ⟨ad, h1, h2, h3⟩ := hv
    exact ⟨ad, h1, h2, fun j hj => by rw [hI]; exact h3 j hj⟩
  | aptr => simp [ren0] at h
  | warr => simp [ren0] at h
  | fn => simp [ren0] at h
  | agg => simp [ren0] at h
  | tup => simp [ren0] at h
  | int => simp [ren0] at h; subst h; exact hv
  | bool => simp [ren0] at h; subst h; exact hv
  | nilp => simp [ren0] at h; subst h; exact hv
  | und => exact hv.elim
  | bad => exact hv.elim
theorem PtrR_RC {p : PV} {v : Value} (h : PtrR g H p v) : RC g w H p v := by
  cases p <;> first | exact h | exact h.elim
theorem PtrR_of_RC {p : PV} {v : Value} (h : RC g w H p v) {i off : Nat} (e : p = .ptr i off) : PtrR g H p v := by subst e; exact h
theorem ren1_RC (hI : g'.I = g.I) (hm : ∀ i j, posOf i found = some j → Moves g H g' H' i j) {p q : PV} {v : Value} (h : ren1 found p = some q) (hv : RC g w H p v) : RC g' w H' q v := by
  cases p with
  | fn f caps =>
    simp only [ren1, Option.map_eq_some_iff] at h
    obtain ⟨cs, h1, rfl⟩ := h
    obtain ⟨vs, rfl, h2⟩ := hv
    refine ⟨vs, rfl, All2.mapO h1 h2 fun a b c h3 h4 => ?_⟩
    cases a with
    | ptr i off =>
      have h5 := ren0_RC (w := w) hI hm h3 h4
      simp only [ren0, Option.map_eq_some_iff] at h3
      obtain ⟨j, _, rfl⟩ := h3
      exact h5
    | _ => exact h4.elim
  | ptr => exact ren0_RC (p := .ptr _ _) hI hm h hv
  | sl => exact ren0_RC (p := .sl _ _ _) hI hm h hv
  | view => exact ren0_RC (p := .view _) hI hm h hv
  | aptr => simp [ren1, ren0] at h
  | warr => simp [ren1, ren0] at h
  | agg => simp [ren1, ren0] at h
  | tup => simp [ren1, ren0] at h
  | int => exact ren0_RC (p := .int _ _) hI hm h hv
  | bool => exact ren0_RC (p := .bool _) hI hm h hv
  | nilp => exact ren0_RC (p := .nilp) hI hm h hv
  | und => exact hv.elim
  | bad => exact hv.elim
theorem ren2_R1 (hI : g'.I = g.I) (hm : ∀ i j, posOf i found = some j → Moves g H g' H' i j) {p q : PV} {v : Value} (h : ren2 found p = some q) (hv : R1 g w H p v) : R1 g' w H' q v := by
  cases p with
  | agg cs =>
    simp only [ren2, Option.map_eq_some_iff] at h
    obtain ⟨cs', h1, rfl⟩ := h
    obtain ⟨vs, rfl, h2⟩ := hv
    exact ⟨vs, rfl, All2.mapO h1 h2 fun a b c h3 h4 => ren1_RC hI hm h3 h4⟩
  | und => simp [ren2, ren1, ren0] at h; subst h; exact hv
  | bad => simp [ren2, ren1, ren0] at h; subst h; exact hv
  | tup => simp [ren2, ren1, ren0] at h
  | fn => exact R1_of_RC (ren1_RC (p := .fn _ _) hI hm h hv)
  | ptr => exact R1_of_RC (ren1_RC (p := .ptr _ _) hI hm h hv)
  | sl => exact R1_of_RC (ren1_RC (p := .sl _ _ _) hI hm h hv)
  | view => exact R1_of_RC (ren1_RC (p := .view _) hI hm h hv)
  | aptr => simp [ren2, ren1, ren0] at h
  | warr => simp [ren2, ren1, ren0] at h
  | int => exact R1_of_RC (ren1_RC (p := .int _ _) hI hm h hv)
  | bool => exact R1_of_RC (ren1_RC (p := .bool _) hI hm h hv)
  | nilp => exact R1_of_RC (ren1_RC (p := .nilp) hI hm h hv)
theorem R1_of_R {p : PV} {v : Value} (h : R g w H p v) (hp : ∀ vs, p ≠ .tup vs) : R1 g w H p v := by
  cases p <;> first | exact h | exact absurd rfl (hp _)
theorem ren_R (hI : g'.I = g.I) (hm : ∀ i j, posOf i found = some j → Moves g H g' H' i j) {p q : PV} {v : Value} (h : ren found p = some q) (hv : R g w H p v) : R g' w H' q v := by
  by_cases hp : ∃ vs, p = .tup vs
  · obtain ⟨ps, rfl⟩ := hp
    simp only [ren, Option.map_eq_some_iff] at h
    obtain ⟨cs', h1, rfl⟩ := h
    obtain ⟨vs, rfl, h2⟩ := hv
    exact ⟨vs, rfl, All2.mapO h1 h2 fun a b c h3 h4 => ren2_R1 hI hm h3 h4⟩
  · have hp' : ∀ vs, p ≠ .tup vs := fun vs e => hp ⟨vs, e⟩
    have h' : ren2 found p = some q := by
      cases p <;> first | exact h | exact absurd rfl (hp' _)
    exact R_of_R1 (ren2_R1 hI hm h' (R1_of_R hv hp'))

/-! back -/
variable {s : Nat}
theorem back0_RC (hI : g'.I = g.I) (hm : ∀ j, H j ≠ .free → Moves g H g' H' j (backId found s j)) {p : PV} {v : Value} (hv : RC g w H p v) (hp : ∀ f caps, p ≠ .fn f caps) : RC g' w H' (back0 found s p) v := by
  cases p with
  | ptr i off =>
    obtain ⟨⟨cs, h2⟩, rfl⟩ := hv
    obtain ⟨h3, h4⟩ := (hm i (by rw [h2]; simp)).cells cs h2
    exact ⟨h3, by rw [h4]⟩
  | sl t e es =>
    cases t with
    | plain => show RI w g'.I _ v; rw [hI]; exact hv
    | nil => exact hv
    | tok i =>
      have hne : H i ≠ .free := fun e => by have := hv.2; simp [TokR, e] at this
      exact ⟨by rw [hI]; exact hv.1, (hm i hne).tok _ _ _ hv.2⟩
  | view cs =>
    obtain ⟨ad, h1, h2, h3⟩ := hv
    exact ⟨ad, h1, h2, fun j hj => by rw [hI]; exact h3 j hj⟩
  | aptr i e x o =>
    obtain ⟨⟨es, h2⟩, rfl⟩ := hv
    obtain ⟨⟨es', h3, _⟩, h4⟩ := (hm i (by rcases h2 with h2 | h2 <;> rw [h2] <;> simp)).arr e es h2
    exact ⟨⟨es', h3⟩, by rw [h4]⟩
  | warr i e n =>
    obtain ⟨⟨es, h2, h5⟩, rfl⟩ := hv
    obtain ⟨⟨es', h3, h6⟩, h4⟩ := (hm i (by rcases h2 with h2 | h2 <;> rw [h2] <;> simp)).arr e es h2
    exact ⟨⟨es', h3, h6.trans h5⟩, by rw [h4]⟩
  | fn => exact absurd rfl (hp _ _)
  | agg => exact hv.elim
  | tup => exact hv.elim
  | int => exact hv
  | bool => exact hv
  | nilp => exact hv
  | und => exact hv.elim
  | bad => exact hv.elim
theorem back1_RC (hI : g'.I = g.I) (hm : ∀ j, H j ≠ .free → Moves g H g' H' j (backId found s j)) {p : PV} {v : Value} (hv : RC g w H p v) : RC g' w H' (back1 found s p) v := by
  by_cases hp : ∃ f caps, p = .fn f caps
  · obtain ⟨f, caps, rfl⟩ := hp
    obtain ⟨vs, rfl, h2⟩ := hv
    refine ⟨vs, rfl, h2.map_left fun a c h => ?_⟩
    cases a with
    | ptr i off => exact back0_RC (w := w) (p := .ptr i off) hI hm h (by simp)
    | _ => exact h.elim
  · have hp' : ∀ f caps, p ≠ .fn f caps := fun f caps e => hp ⟨f, caps, e⟩
    have := back0_RC hI hm hv hp' (found := found) (s := s)
    cases p <;> first | exact this | exact absurd rfl (hp' _ _)
theorem back2_R1 (hI : g'.I = g.I) (hm : ∀ j, H j ≠ .free → Moves g H g' H' j (backId found s j)) {p : PV} {v : Value} (hv : R1 g w H p v) : R1 g' w H' (back2 found s p) v := by
  by_cases hp : ∃ cs, p = .agg cs
  · obtain ⟨cs, rfl⟩ := hp
    obtain ⟨vs, rfl, h2⟩ := hv
    exact ⟨vs, rfl, h2.map_left fun a c h => back1_RC hI hm h⟩
  · by_cases hc : p.isCell = true
    · have := R1_of_RC (back1_RC (found := found) (s := s) hI hm (p := p) (by cases p <;> first | exact hv | simp [PV.isCell] at hc))
      cases p <;> first | exact this | exact absurd ⟨_, rfl⟩ hp
    · cases p <;> first | exact hv | (simp [PV.isCell] at hc; done) | exact absurd ⟨_, rfl⟩ hp
theorem back_R (hI : g'.I = g.I) (hm : ∀ j, H j ≠ .free → Moves g H g' H' j (backId found s j)) {p : PV} {v : Value} (hv : R g w H p v) : R g' w H' (back found s p) v := by
  by_cases hp : ∃ cs, p = .tup cs
  · obtain ⟨cs, rfl⟩ := hp
    obtain ⟨vs, rfl, h2⟩ := hv
    exact ⟨vs, rfl, h2.map_left fun a c h => back2_R1 hI hm h⟩
  · have hp' : ∀ vs, p ≠ .tup vs := fun vs e => hp ⟨vs, e⟩
    have := R_of_R1 (back2_R1 (found := found) (s := s) hI hm (R1_of_R hv hp'))
    cases p <;> first | exact this | exact absurd rfl (hp' _)
end
end Go.Px
