/-
  NARROWER THAN 'FOR EVERY INPUT', by the rows' own cells (each row's printed sentence says how): PositPlain: loops · PileUnlike: loops · PileRows: loops · PileDefs: loops.
  DERIVED. THE GIVEN ROWS OF THIS SEAT. 8 by the template 'for every input the law returns true; each argument reads behind the call as it read before'; 0 by the template 'total and deterministic' (their statements: YtdijeendcpoemaaTotals.lean).
  GIVEN WITH THE SEED: the statements are not yours to turn. If you find one false, say at which input.
  Laid BY PROGRAM, IN A SANDBOX (cutbox-rows.mjs): the forced cells as the released guide's own fill.sh prints them over the translation 8c409ea71f349816… (all of the seat's roots in one cut). By AI agents, Wed Nov 11 2026. No macro, syntax, notation, axiom, sorry.
-/
import Derived.Test.YtdijeendcpoemaaChecked
import GoSem.Claim
import GoSem.ClaimJoined
import GoSem.ClaimMapViews
import Derived.JoinedTies
import Derived.KernelRfl
namespace Go.Proofs.Ytdijeendcpoemaa
/- THE CELL 'sum', in the pinned program and in every row, IS THE sha256 OF THE DUMP (.gsa) THAT YtdijeendcpoemaaProg.lean LOADS. Nothing in Lean hashes anything: it is a label: what it is worth is what the hold of that sum in a sandbox is worth. -/
noncomputable def Try.pinned : Pinned := { name := "ytdijeendcpoemaa", sum := "8c409ea71f3498162a2edf4699f3a7a56228ac1823b0992cb4633a9442a52547", checked := Try.checked }
namespace Rows
def none {H : Type} : Left H := { results := [], args := [] }

/-- 'porismlaw08.PositLater': WHATEVER THE INPUT: true; the input reads as it did. -/
def positLaterSpec : ChangeSpec := { name := "positLater", fn := fun _ => fun
  | [d] => { results := [.lit (.bool true)], args := [d] }
  | _ => none }
def positLaterRow : OpenClaim := { program := "ytdijeendcpoemaa", sum := "8c409ea71f3498162a2edf4699f3a7a56228ac1823b0992cb4633a9442a52547", func := "porism/porismlaw08.PositLater", spec := "positLater", unfollowed := true, recurses := true, apart := false }
def PositLaterSaid : Prop := positLaterRow.holds Try.pinned (OpenSpec.ofChange positLaterSpec)

/-- ITS FALSE NEIGHBOUR: 'it returns false'. Refute it at one input. -/
def positLaterWrong : ChangeSpec := { name := "positLater", fn := fun _ => fun
  | [d] => { results := [.lit (.bool false)], args := [d] }
  | _ => none }
def PositLaterWrongFalsely : Prop := positLaterRow.holds Try.pinned (OpenSpec.ofChange positLaterWrong)

/-- 'porismlaw08.PositPlain': WHATEVER THE INPUT: true; the input reads as it did. -/
def positPlainSpec : ChangeSpec := { name := "positPlain", fn := fun _ => fun
  | [d1, d2] => { results := [.lit (.bool true)], args := [d1, d2] }
  | _ => none }
def positPlainRow : OpenClaim := { program := "ytdijeendcpoemaa", sum := "8c409ea71f3498162a2edf4699f3a7a56228ac1823b0992cb4633a9442a52547", func := "porism/porismlaw08.PositPlain", spec := "positPlain", unfollowed := true, recurses := true, loops := true, apart := false }
def PositPlainSaid : Prop := positPlainRow.holds Try.pinned (OpenSpec.ofChange positPlainSpec)

/-- ITS FALSE NEIGHBOUR: 'it returns false'. Refute it at one input. -/
def positPlainWrong : ChangeSpec := { name := "positPlain", fn := fun _ => fun
  | [d1, d2] => { results := [.lit (.bool false)], args := [d1, d2] }
  | _ => none }
def PositPlainWrongFalsely : Prop := positPlainRow.holds Try.pinned (OpenSpec.ofChange positPlainWrong)

/-- 'porismlaw22.PileUnlike': WHATEVER THE INPUT: true; the input reads as it did. -/
def pileUnlikeSpec : ChangeSpec := { name := "pileUnlike", fn := fun _ => fun
  | [d1, d2, d3, d4] => { results := [.lit (.bool true)], args := [d1, d2, d3, d4] }
  | _ => none }
def pileUnlikeRow : OpenClaim := { program := "ytdijeendcpoemaa", sum := "8c409ea71f3498162a2edf4699f3a7a56228ac1823b0992cb4633a9442a52547", func := "porism/porismlaw22.PileUnlike", spec := "pileUnlike", unfollowed := true, recurses := true, loops := true, apart := false }
def PileUnlikeSaid : Prop := pileUnlikeRow.holds Try.pinned (OpenSpec.ofChange pileUnlikeSpec)

/-- ITS FALSE NEIGHBOUR: 'it returns false'. Refute it at one input. -/
def pileUnlikeWrong : ChangeSpec := { name := "pileUnlike", fn := fun _ => fun
  | [d1, d2, d3, d4] => { results := [.lit (.bool false)], args := [d1, d2, d3, d4] }
  | _ => none }
def PileUnlikeWrongFalsely : Prop := pileUnlikeRow.holds Try.pinned (OpenSpec.ofChange pileUnlikeWrong)

/-- 'porismlaw22.PileRows': WHATEVER THE INPUT: true; the input reads as it did. -/
def pileRowsSpec : ChangeSpec := { name := "pileRows", fn := fun _ => fun
  | [d] => { results := [.lit (.bool true)], args := [d] }
  | _ => none }
def pileRowsRow : OpenClaim := { program := "ytdijeendcpoemaa", sum := "8c409ea71f3498162a2edf4699f3a7a56228ac1823b0992cb4633a9442a52547", func := "porism/porismlaw22.PileRows", spec := "pileRows", unfollowed := true, recurses := true, loops := true, apart := false }
def PileRowsSaid : Prop := pileRowsRow.holds Try.pinned (OpenSpec.ofChange pileRowsSpec)

/-- ITS FALSE NEIGHBOUR: 'it returns false'. Refute it at one input. -/
def pileRowsWrong : ChangeSpec := { name := "pileRows", fn := fun _ => fun
  | [d] => { results := [.lit (.bool false)], args := [d] }
  | _ => none }
def PileRowsWrongFalsely : Prop := pileRowsRow.holds Try.pinned (OpenSpec.ofChange pileRowsWrong)

/-- 'porismlaw22.PileDefs': WHATEVER THE INPUT: true; the input reads as it did. -/
def pileDefsSpec : ChangeSpec := { name := "pileDefs", fn := fun _ => fun
  | [d1, d2] => { results := [.lit (.bool true)], args := [d1, d2] }
  | _ => none }
def pileDefsRow : OpenClaim := { program := "ytdijeendcpoemaa", sum := "8c409ea71f3498162a2edf4699f3a7a56228ac1823b0992cb4633a9442a52547", func := "porism/porismlaw22.PileDefs", spec := "pileDefs", unfollowed := true, recurses := true, loops := true, apart := false }
def PileDefsSaid : Prop := pileDefsRow.holds Try.pinned (OpenSpec.ofChange pileDefsSpec)

/-- ITS FALSE NEIGHBOUR: 'it returns false'. Refute it at one input. -/
def pileDefsWrong : ChangeSpec := { name := "pileDefs", fn := fun _ => fun
  | [d1, d2] => { results := [.lit (.bool false)], args := [d1, d2] }
  | _ => none }
def PileDefsWrongFalsely : Prop := pileDefsRow.holds Try.pinned (OpenSpec.ofChange pileDefsWrong)

/-- 'porismlaw22.PileMany': WHATEVER THE INPUT: true; the input reads as it did. -/
def pileManySpec : ChangeSpec := { name := "pileMany", fn := fun _ => fun
  | [d] => { results := [.lit (.bool true)], args := [d] }
  | _ => none }
def pileManyRow : OpenClaim := { program := "ytdijeendcpoemaa", sum := "8c409ea71f3498162a2edf4699f3a7a56228ac1823b0992cb4633a9442a52547", func := "porism/porismlaw22.PileMany", spec := "pileMany", unfollowed := true, recurses := true, apart := false }
def PileManySaid : Prop := pileManyRow.holds Try.pinned (OpenSpec.ofChange pileManySpec)

/-- ITS FALSE NEIGHBOUR: 'it returns false'. Refute it at one input. -/
def pileManyWrong : ChangeSpec := { name := "pileMany", fn := fun _ => fun
  | [d] => { results := [.lit (.bool false)], args := [d] }
  | _ => none }
def PileManyWrongFalsely : Prop := pileManyRow.holds Try.pinned (OpenSpec.ofChange pileManyWrong)

/-- 'porismlaw11.DispKnown': WHATEVER THE INPUT: true; the input reads as it did. -/
def dispKnownSpec : ChangeSpec := { name := "dispKnown", fn := fun _ => fun
  | [d] => { results := [.lit (.bool true)], args := [d] }
  | _ => none }
def dispKnownRow : OpenClaim := { program := "ytdijeendcpoemaa", sum := "8c409ea71f3498162a2edf4699f3a7a56228ac1823b0992cb4633a9442a52547", func := "porism/porismlaw11.DispKnown", spec := "dispKnown", unfollowed := true, recurses := true, apart := false }
def DispKnownSaid : Prop := dispKnownRow.holds Try.pinned (OpenSpec.ofChange dispKnownSpec)

/-- ITS FALSE NEIGHBOUR: 'it returns false'. Refute it at one input. -/
def dispKnownWrong : ChangeSpec := { name := "dispKnown", fn := fun _ => fun
  | [d] => { results := [.lit (.bool false)], args := [d] }
  | _ => none }
def DispKnownWrongFalsely : Prop := dispKnownRow.holds Try.pinned (OpenSpec.ofChange dispKnownWrong)

/-- 'porismlaw11.DispTrees': WHATEVER THE INPUT: true; the input reads as it did. -/
def dispTreesSpec : ChangeSpec := { name := "dispTrees", fn := fun _ => fun
  | [d1, d2, d3] => { results := [.lit (.bool true)], args := [d1, d2, d3] }
  | _ => none }
def dispTreesRow : OpenClaim := { program := "ytdijeendcpoemaa", sum := "8c409ea71f3498162a2edf4699f3a7a56228ac1823b0992cb4633a9442a52547", func := "porism/porismlaw11.DispTrees", spec := "dispTrees", unfollowed := true, recurses := true, apart := false }
def DispTreesSaid : Prop := dispTreesRow.holds Try.pinned (OpenSpec.ofChange dispTreesSpec)

/-- ITS FALSE NEIGHBOUR: 'it returns false'. Refute it at one input. -/
def dispTreesWrong : ChangeSpec := { name := "dispTrees", fn := fun _ => fun
  | [d1, d2, d3] => { results := [.lit (.bool false)], args := [d1, d2, d3] }
  | _ => none }
def DispTreesWrongFalsely : Prop := dispTreesRow.holds Try.pinned (OpenSpec.ofChange dispTreesWrong)

/- THE SECOND FORM. 'bulk': how many values and letters a reading holds, each counted each time it is reached (what is shared counts as often as it is met; a slice's spare places count too). A statement '..UptoSaid' is the law's where the arguments, and the package variables that the reading takes, are together of bulk at most 1048576: NARROWER than '..Said'. Prove '..Said' where nothing that the law and all that it calls make is longer than what came in: it says more and counts as full. Else prove '..UptoSaid'. A law counts once. -/
mutual
def uptoBulk {H : Type} : DataW H → Nat
  | .lit (.string bytes) => bytes.length + 1
  | .lit _ => 1
  | .nil => 1
  | .ptr d => uptoBulk d + 1
  | .slice elems spare => uptoBulkAll elems + uptoBulkAll spare + 1
  | .agg parts => uptoBulkAll parts + 1
  | .iface _ d => uptoBulk d + 1
  | .map entries => uptoBulkEntries entries + 1
  | .held _ => 1
def uptoBulkAll {H : Type} : List (DataW H) → Nat
  | [] => 0
  | d :: r => uptoBulk d + uptoBulkAll r
def uptoBulkEntries {H : Type} : List (Lit × DataW H) → Nat
  | [] => 0
  | x :: r => uptoBulkEntry x + uptoBulkEntries r
def uptoBulkEntry {H : Type} : Lit × DataW H → Nat
  | (.string bytes, d) => bytes.length + uptoBulk d + 1
  | (_, d) => uptoBulk d + 1
 end
def uptoSmall : (H : Type) → List (DataW H) → Bool := fun _ ds => decide (uptoBulkAll ds ≤ 1048576)
def OpenSpec.upto (s : _root_.Go.ChangeSpec) : _root_.Go.OpenSpec := { _root_.Go.OpenSpec.ofChange s with cond := some uptoSmall }

/-- 'porismlaw08.PositLater', WHERE WHAT IT READS IS OF BULK AT MOST 1048576: true; the input reads as it did. -/
def positLaterUptoRow : OpenClaim := { program := "ytdijeendcpoemaa", sum := "8c409ea71f3498162a2edf4699f3a7a56228ac1823b0992cb4633a9442a52547", func := "porism/porismlaw08.PositLater", spec := "positLater", unfollowed := true, recurses := true, apart := false, narrowed := true }
def PositLaterUptoSaid : Prop := positLaterUptoRow.holds Try.pinned (OpenSpec.upto positLaterSpec)

/-- 'porismlaw08.PositPlain', WHERE WHAT IT READS IS OF BULK AT MOST 1048576: true; the input reads as it did. -/
def positPlainUptoRow : OpenClaim := { program := "ytdijeendcpoemaa", sum := "8c409ea71f3498162a2edf4699f3a7a56228ac1823b0992cb4633a9442a52547", func := "porism/porismlaw08.PositPlain", spec := "positPlain", unfollowed := true, recurses := true, loops := true, apart := false, narrowed := true }
def PositPlainUptoSaid : Prop := positPlainUptoRow.holds Try.pinned (OpenSpec.upto positPlainSpec)

/-- 'porismlaw22.PileUnlike', WHERE WHAT IT READS IS OF BULK AT MOST 1048576: true; the input reads as it did. -/
def pileUnlikeUptoRow : OpenClaim := { program := "ytdijeendcpoemaa", sum := "8c409ea71f3498162a2edf4699f3a7a56228ac1823b0992cb4633a9442a52547", func := "porism/porismlaw22.PileUnlike", spec := "pileUnlike", unfollowed := true, recurses := true, loops := true, apart := false, narrowed := true }
def PileUnlikeUptoSaid : Prop := pileUnlikeUptoRow.holds Try.pinned (OpenSpec.upto pileUnlikeSpec)

/-- 'porismlaw22.PileRows', WHERE WHAT IT READS IS OF BULK AT MOST 1048576: true; the input reads as it did. -/
def pileRowsUptoRow : OpenClaim := { program := "ytdijeendcpoemaa", sum := "8c409ea71f3498162a2edf4699f3a7a56228ac1823b0992cb4633a9442a52547", func := "porism/porismlaw22.PileRows", spec := "pileRows", unfollowed := true, recurses := true, loops := true, apart := false, narrowed := true }
def PileRowsUptoSaid : Prop := pileRowsUptoRow.holds Try.pinned (OpenSpec.upto pileRowsSpec)

/-- 'porismlaw22.PileDefs', WHERE WHAT IT READS IS OF BULK AT MOST 1048576: true; the input reads as it did. -/
def pileDefsUptoRow : OpenClaim := { program := "ytdijeendcpoemaa", sum := "8c409ea71f3498162a2edf4699f3a7a56228ac1823b0992cb4633a9442a52547", func := "porism/porismlaw22.PileDefs", spec := "pileDefs", unfollowed := true, recurses := true, loops := true, apart := false, narrowed := true }
def PileDefsUptoSaid : Prop := pileDefsUptoRow.holds Try.pinned (OpenSpec.upto pileDefsSpec)

/-- 'porismlaw22.PileMany', WHERE WHAT IT READS IS OF BULK AT MOST 1048576: true; the input reads as it did. -/
def pileManyUptoRow : OpenClaim := { program := "ytdijeendcpoemaa", sum := "8c409ea71f3498162a2edf4699f3a7a56228ac1823b0992cb4633a9442a52547", func := "porism/porismlaw22.PileMany", spec := "pileMany", unfollowed := true, recurses := true, apart := false, narrowed := true }
def PileManyUptoSaid : Prop := pileManyUptoRow.holds Try.pinned (OpenSpec.upto pileManySpec)

/-- 'porismlaw11.DispKnown', WHERE WHAT IT READS IS OF BULK AT MOST 1048576: true; the input reads as it did. -/
def dispKnownUptoRow : OpenClaim := { program := "ytdijeendcpoemaa", sum := "8c409ea71f3498162a2edf4699f3a7a56228ac1823b0992cb4633a9442a52547", func := "porism/porismlaw11.DispKnown", spec := "dispKnown", unfollowed := true, recurses := true, apart := false, narrowed := true }
def DispKnownUptoSaid : Prop := dispKnownUptoRow.holds Try.pinned (OpenSpec.upto dispKnownSpec)

/-- 'porismlaw11.DispTrees', WHERE WHAT IT READS IS OF BULK AT MOST 1048576: true; the input reads as it did. -/
def dispTreesUptoRow : OpenClaim := { program := "ytdijeendcpoemaa", sum := "8c409ea71f3498162a2edf4699f3a7a56228ac1823b0992cb4633a9442a52547", func := "porism/porismlaw11.DispTrees", spec := "dispTrees", unfollowed := true, recurses := true, apart := false, narrowed := true }
def DispTreesUptoSaid : Prop := dispTreesUptoRow.holds Try.pinned (OpenSpec.upto dispTreesSpec)

end Rows
end Go.Proofs.Ytdijeendcpoemaa
