/-
  No cell of these rows narrows 'for every input' (looked for: loops, veiled, ifaces, maps, wideKeys, modest, calm, conditions, laid).
  DERIVED. THE GIVEN ROWS OF THIS SEAT. 6 by the template 'for every input the law returns true; each argument reads behind the call as it read before'; 0 by the template 'total and deterministic' (their statements: YtfnflbclhaeedaaTotals.lean).
  GIVEN WITH THE SEED: the statements are not yours to turn. If you find one false, say at which input.
  Laid BY PROGRAM, IN A SANDBOX (cutbox-rows.mjs): the forced cells as the released guide's own fill.sh prints them over the translation 53df9ccb39b3ea24… (all of the seat's roots in one cut). By AI agents, Wed Nov 11 2026. No macro, syntax, notation, axiom, sorry.
-/
import Derived.Test.YtfnflbclhaeedaaChecked
import GoSem.Claim
import GoSem.ClaimJoined
import GoSem.ClaimMapViews
import Derived.JoinedTies
import Derived.KernelRfl
namespace Go.Proofs.Ytfnflbclhaeedaa
/- THE CELL 'sum', in the pinned program and in every row, IS THE sha256 OF THE DUMP (.gsa) THAT YtfnflbclhaeedaaProg.lean LOADS. Nothing in Lean hashes anything: it is a label: what it is worth is what the hold of that sum in a sandbox is worth. -/
noncomputable def Try.pinned : Pinned := { name := "ytfnflbclhaeedaa", sum := "53df9ccb39b3ea24b0634222f6af6d5e6083aee31ff340398efdf906c707aa62", checked := Try.checked }
namespace Rows
def none {H : Type} : Left H := { results := [], args := [] }

/-- 'ladelaw12.SparseTells': WHATEVER THE INPUT: true; the input reads as it did. -/
def sparseTellsSpec : ChangeSpec := { name := "sparseTells", fn := fun _ => fun
  | [d1, d2] => { results := [.lit (.bool true)], args := [d1, d2] }
  | _ => none }
def sparseTellsRow : OpenClaim := { program := "ytfnflbclhaeedaa", sum := "53df9ccb39b3ea24b0634222f6af6d5e6083aee31ff340398efdf906c707aa62", func := "lade/ladelaw12.SparseTells", spec := "sparseTells", unfollowed := true, recurses := true, apart := false }
def SparseTellsSaid : Prop := sparseTellsRow.holds Try.pinned (OpenSpec.ofChange sparseTellsSpec)

/-- ITS FALSE NEIGHBOUR: 'it returns false'. Refute it at one input. -/
def sparseTellsWrong : ChangeSpec := { name := "sparseTells", fn := fun _ => fun
  | [d1, d2] => { results := [.lit (.bool false)], args := [d1, d2] }
  | _ => none }
def SparseTellsWrongFalsely : Prop := sparseTellsRow.holds Try.pinned (OpenSpec.ofChange sparseTellsWrong)

/-- 'ladelaw12.SparseDense': WHATEVER THE INPUT: true; the input reads as it did. -/
def sparseDenseSpec : ChangeSpec := { name := "sparseDense", fn := fun _ => fun
  | [d1, d2] => { results := [.lit (.bool true)], args := [d1, d2] }
  | _ => none }
def sparseDenseRow : OpenClaim := { program := "ytfnflbclhaeedaa", sum := "53df9ccb39b3ea24b0634222f6af6d5e6083aee31ff340398efdf906c707aa62", func := "lade/ladelaw12.SparseDense", spec := "sparseDense", unfollowed := true, recurses := true, apart := false }
def SparseDenseSaid : Prop := sparseDenseRow.holds Try.pinned (OpenSpec.ofChange sparseDenseSpec)

/-- ITS FALSE NEIGHBOUR: 'it returns false'. Refute it at one input. -/
def sparseDenseWrong : ChangeSpec := { name := "sparseDense", fn := fun _ => fun
  | [d1, d2] => { results := [.lit (.bool false)], args := [d1, d2] }
  | _ => none }
def SparseDenseWrongFalsely : Prop := sparseDenseRow.holds Try.pinned (OpenSpec.ofChange sparseDenseWrong)

/-- 'ladelaw12.SparseForward': WHATEVER THE INPUT: true; the input reads as it did. -/
def sparseForwardSpec : ChangeSpec := { name := "sparseForward", fn := fun _ => fun
  | [d1, d2, d3] => { results := [.lit (.bool true)], args := [d1, d2, d3] }
  | _ => none }
def sparseForwardRow : OpenClaim := { program := "ytfnflbclhaeedaa", sum := "53df9ccb39b3ea24b0634222f6af6d5e6083aee31ff340398efdf906c707aa62", func := "lade/ladelaw12.SparseForward", spec := "sparseForward", unfollowed := true, recurses := true, apart := false }
def SparseForwardSaid : Prop := sparseForwardRow.holds Try.pinned (OpenSpec.ofChange sparseForwardSpec)

/-- ITS FALSE NEIGHBOUR: 'it returns false'. Refute it at one input. -/
def sparseForwardWrong : ChangeSpec := { name := "sparseForward", fn := fun _ => fun
  | [d1, d2, d3] => { results := [.lit (.bool false)], args := [d1, d2, d3] }
  | _ => none }
def SparseForwardWrongFalsely : Prop := sparseForwardRow.holds Try.pinned (OpenSpec.ofChange sparseForwardWrong)

/-- 'ladelaw12.SparseOrders': WHATEVER THE INPUT: true; the input reads as it did. -/
def sparseOrdersSpec : ChangeSpec := { name := "sparseOrders", fn := fun _ => fun
  | [d1, d2, d3] => { results := [.lit (.bool true)], args := [d1, d2, d3] }
  | _ => none }
def sparseOrdersRow : OpenClaim := { program := "ytfnflbclhaeedaa", sum := "53df9ccb39b3ea24b0634222f6af6d5e6083aee31ff340398efdf906c707aa62", func := "lade/ladelaw12.SparseOrders", spec := "sparseOrders", unfollowed := true, recurses := true, apart := false }
def SparseOrdersSaid : Prop := sparseOrdersRow.holds Try.pinned (OpenSpec.ofChange sparseOrdersSpec)

/-- ITS FALSE NEIGHBOUR: 'it returns false'. Refute it at one input. -/
def sparseOrdersWrong : ChangeSpec := { name := "sparseOrders", fn := fun _ => fun
  | [d1, d2, d3] => { results := [.lit (.bool false)], args := [d1, d2, d3] }
  | _ => none }
def SparseOrdersWrongFalsely : Prop := sparseOrdersRow.holds Try.pinned (OpenSpec.ofChange sparseOrdersWrong)

/-- 'ladelaw12.SparseMarks': WHATEVER THE INPUT: true; the input reads as it did. -/
def sparseMarksSpec : ChangeSpec := { name := "sparseMarks", fn := fun _ => fun
  | [d1, d2, d3] => { results := [.lit (.bool true)], args := [d1, d2, d3] }
  | _ => none }
def sparseMarksRow : OpenClaim := { program := "ytfnflbclhaeedaa", sum := "53df9ccb39b3ea24b0634222f6af6d5e6083aee31ff340398efdf906c707aa62", func := "lade/ladelaw12.SparseMarks", spec := "sparseMarks", unfollowed := true, recurses := true, apart := false }
def SparseMarksSaid : Prop := sparseMarksRow.holds Try.pinned (OpenSpec.ofChange sparseMarksSpec)

/-- ITS FALSE NEIGHBOUR: 'it returns false'. Refute it at one input. -/
def sparseMarksWrong : ChangeSpec := { name := "sparseMarks", fn := fun _ => fun
  | [d1, d2, d3] => { results := [.lit (.bool false)], args := [d1, d2, d3] }
  | _ => none }
def SparseMarksWrongFalsely : Prop := sparseMarksRow.holds Try.pinned (OpenSpec.ofChange sparseMarksWrong)

/-- 'ladelaw12.SparseAppends': WHATEVER THE INPUT: true; the input reads as it did. -/
def sparseAppendsSpec : ChangeSpec := { name := "sparseAppends", fn := fun _ => fun
  | [d1, d2, d3, d4] => { results := [.lit (.bool true)], args := [d1, d2, d3, d4] }
  | _ => none }
def sparseAppendsRow : OpenClaim := { program := "ytfnflbclhaeedaa", sum := "53df9ccb39b3ea24b0634222f6af6d5e6083aee31ff340398efdf906c707aa62", func := "lade/ladelaw12.SparseAppends", spec := "sparseAppends", unfollowed := true, recurses := true, apart := false }
def SparseAppendsSaid : Prop := sparseAppendsRow.holds Try.pinned (OpenSpec.ofChange sparseAppendsSpec)

/-- ITS FALSE NEIGHBOUR: 'it returns false'. Refute it at one input. -/
def sparseAppendsWrong : ChangeSpec := { name := "sparseAppends", fn := fun _ => fun
  | [d1, d2, d3, d4] => { results := [.lit (.bool false)], args := [d1, d2, d3, d4] }
  | _ => none }
def SparseAppendsWrongFalsely : Prop := sparseAppendsRow.holds Try.pinned (OpenSpec.ofChange sparseAppendsWrong)

/- THE SECOND FORM. 'bulk': how many values and letters a reading holds, each counted each time it is reached (what is shared counts as often as it is met; a slice's spare places count too). A statement '..UptoSaid' is the law's where the arguments, and the package variables that the reading takes, are together of bulk at most 1048576: NARROWER than '..Said'. Prove '..Said' where nothing that the law and all that it calls make is longer than what came in: it says more and counts as full. Else prove '..UptoSaid'. A law counts once. -/
mutual
def uptoBulk {H : Type} : DataW H → Nat
  | .lit (.string bytes) => bytes.length + 1
  | .lit _ => 1
  | .nil => 1
  | .ptr d => uptoBulk d + 1
  | .slice elems spare => uptoBulkAll elems + uptoBulkAll spare + 1
  | .agg parts => uptoBulkAll parts + 1
  | .iface _ d => uptoBulk d + 1
  | .map entries => uptoBulkEntries entries + 1
  | .held _ => 1
def uptoBulkAll {H : Type} : List (DataW H) → Nat
  | [] => 0
  | d :: r => uptoBulk d + uptoBulkAll r
def uptoBulkEntries {H : Type} : List (Lit × DataW H) → Nat
  | [] => 0
  | x :: r => uptoBulkEntry x + uptoBulkEntries r
def uptoBulkEntry {H : Type} : Lit × DataW H → Nat
  | (.string bytes, d) => bytes.length + uptoBulk d + 1
  | (_, d) => uptoBulk d + 1
 end
def uptoSmall : (H : Type) → List (DataW H) → Bool := fun _ ds => decide (uptoBulkAll ds ≤ 1048576)
def OpenSpec.upto (s : _root_.Go.ChangeSpec) : _root_.Go.OpenSpec := { _root_.Go.OpenSpec.ofChange s with cond := some uptoSmall }

/-- 'ladelaw12.SparseTells', WHERE WHAT IT READS IS OF BULK AT MOST 1048576: true; the input reads as it did. -/
def sparseTellsUptoRow : OpenClaim := { program := "ytfnflbclhaeedaa", sum := "53df9ccb39b3ea24b0634222f6af6d5e6083aee31ff340398efdf906c707aa62", func := "lade/ladelaw12.SparseTells", spec := "sparseTells", unfollowed := true, recurses := true, apart := false, narrowed := true }
def SparseTellsUptoSaid : Prop := sparseTellsUptoRow.holds Try.pinned (OpenSpec.upto sparseTellsSpec)

/-- 'ladelaw12.SparseDense', WHERE WHAT IT READS IS OF BULK AT MOST 1048576: true; the input reads as it did. -/
def sparseDenseUptoRow : OpenClaim := { program := "ytfnflbclhaeedaa", sum := "53df9ccb39b3ea24b0634222f6af6d5e6083aee31ff340398efdf906c707aa62", func := "lade/ladelaw12.SparseDense", spec := "sparseDense", unfollowed := true, recurses := true, apart := false, narrowed := true }
def SparseDenseUptoSaid : Prop := sparseDenseUptoRow.holds Try.pinned (OpenSpec.upto sparseDenseSpec)

/-- 'ladelaw12.SparseForward', WHERE WHAT IT READS IS OF BULK AT MOST 1048576: true; the input reads as it did. -/
def sparseForwardUptoRow : OpenClaim := { program := "ytfnflbclhaeedaa", sum := "53df9ccb39b3ea24b0634222f6af6d5e6083aee31ff340398efdf906c707aa62", func := "lade/ladelaw12.SparseForward", spec := "sparseForward", unfollowed := true, recurses := true, apart := false, narrowed := true }
def SparseForwardUptoSaid : Prop := sparseForwardUptoRow.holds Try.pinned (OpenSpec.upto sparseForwardSpec)

/-- 'ladelaw12.SparseOrders', WHERE WHAT IT READS IS OF BULK AT MOST 1048576: true; the input reads as it did. -/
def sparseOrdersUptoRow : OpenClaim := { program := "ytfnflbclhaeedaa", sum := "53df9ccb39b3ea24b0634222f6af6d5e6083aee31ff340398efdf906c707aa62", func := "lade/ladelaw12.SparseOrders", spec := "sparseOrders", unfollowed := true, recurses := true, apart := false, narrowed := true }
def SparseOrdersUptoSaid : Prop := sparseOrdersUptoRow.holds Try.pinned (OpenSpec.upto sparseOrdersSpec)

/-- 'ladelaw12.SparseMarks', WHERE WHAT IT READS IS OF BULK AT MOST 1048576: true; the input reads as it did. -/
def sparseMarksUptoRow : OpenClaim := { program := "ytfnflbclhaeedaa", sum := "53df9ccb39b3ea24b0634222f6af6d5e6083aee31ff340398efdf906c707aa62", func := "lade/ladelaw12.SparseMarks", spec := "sparseMarks", unfollowed := true, recurses := true, apart := false, narrowed := true }
def SparseMarksUptoSaid : Prop := sparseMarksUptoRow.holds Try.pinned (OpenSpec.upto sparseMarksSpec)

/-- 'ladelaw12.SparseAppends', WHERE WHAT IT READS IS OF BULK AT MOST 1048576: true; the input reads as it did. -/
def sparseAppendsUptoRow : OpenClaim := { program := "ytfnflbclhaeedaa", sum := "53df9ccb39b3ea24b0634222f6af6d5e6083aee31ff340398efdf906c707aa62", func := "lade/ladelaw12.SparseAppends", spec := "sparseAppends", unfollowed := true, recurses := true, apart := false, narrowed := true }
def SparseAppendsUptoSaid : Prop := sparseAppendsUptoRow.holds Try.pinned (OpenSpec.upto sparseAppendsSpec)

end Rows
end Go.Proofs.Ytfnflbclhaeedaa
