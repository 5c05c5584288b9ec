/-
  No cell of these rows narrows 'for every input' (looked for: loops, veiled, ifaces, maps, wideKeys, modest, calm, conditions, laid).
  DERIVED. THE GIVEN ROWS OF THIS SEAT. 7 by the template 'for every input the law returns true; each argument reads behind the call as it read before'; 0 by the template 'total and deterministic' (their statements: YtokjhocjemjfiaaTotals.lean).
  GIVEN WITH THE SEED: the statements are not yours to turn. If you find one false, say at which input.
  Laid BY PROGRAM, IN A SANDBOX (cutbox-rows.mjs): the forced cells as the released guide's own fill.sh prints them over the translation c3fbbfb46f4a6cd1… (all of the seat's roots in one cut). By AI agents, Wed Nov 11 2026. No macro, syntax, notation, axiom, sorry.
-/
import Derived.Test.YtokjhocjemjfiaaChecked
import GoSem.Claim
import GoSem.ClaimJoined
import GoSem.ClaimMapViews
import Derived.JoinedTies
import Derived.KernelRfl
namespace Go.Proofs.Ytokjhocjemjfiaa
/- THE CELL 'sum', in the pinned program and in every row, IS THE sha256 OF THE DUMP (.gsa) THAT YtokjhocjemjfiaaProg.lean LOADS. Nothing in Lean hashes anything: it is a label: what it is worth is what the hold of that sum in a sandbox is worth. -/
noncomputable def Try.pinned : Pinned := { name := "ytokjhocjemjfiaa", sum := "c3fbbfb46f4a6cd1269c082a29d7201c257723263f7c7c31b6faa3b2232c6c07", checked := Try.checked }
namespace Rows
def none {H : Type} : Left H := { results := [], args := [] }

/-- 'ladelaw4.PartTells': WHATEVER THE INPUT: true; the input reads as it did. -/
def partTellsSpec : ChangeSpec := { name := "partTells", fn := fun _ => fun
  | [d1, d2, d3] => { results := [.lit (.bool true)], args := [d1, d2, d3] }
  | _ => none }
def partTellsRow : OpenClaim := { program := "ytokjhocjemjfiaa", sum := "c3fbbfb46f4a6cd1269c082a29d7201c257723263f7c7c31b6faa3b2232c6c07", func := "lade/ladelaw4.PartTells", spec := "partTells", unfollowed := true, recurses := true, apart := false }
def PartTellsSaid : Prop := partTellsRow.holds Try.pinned (OpenSpec.ofChange partTellsSpec)

/-- ITS FALSE NEIGHBOUR: 'it returns false'. Refute it at one input. -/
def partTellsWrong : ChangeSpec := { name := "partTells", fn := fun _ => fun
  | [d1, d2, d3] => { results := [.lit (.bool false)], args := [d1, d2, d3] }
  | _ => none }
def PartTellsWrongFalsely : Prop := partTellsRow.holds Try.pinned (OpenSpec.ofChange partTellsWrong)

/-- 'ladelaw4.PartReads': WHATEVER THE INPUT: true; the input reads as it did. -/
def partReadsSpec : ChangeSpec := { name := "partReads", fn := fun _ => fun
  | [d] => { results := [.lit (.bool true)], args := [d] }
  | _ => none }
def partReadsRow : OpenClaim := { program := "ytokjhocjemjfiaa", sum := "c3fbbfb46f4a6cd1269c082a29d7201c257723263f7c7c31b6faa3b2232c6c07", func := "lade/ladelaw4.PartReads", spec := "partReads", unfollowed := true, recurses := true, apart := false }
def PartReadsSaid : Prop := partReadsRow.holds Try.pinned (OpenSpec.ofChange partReadsSpec)

/-- ITS FALSE NEIGHBOUR: 'it returns false'. Refute it at one input. -/
def partReadsWrong : ChangeSpec := { name := "partReads", fn := fun _ => fun
  | [d] => { results := [.lit (.bool false)], args := [d] }
  | _ => none }
def PartReadsWrongFalsely : Prop := partReadsRow.holds Try.pinned (OpenSpec.ofChange partReadsWrong)

/-- 'ladelaw4.PartBack': WHATEVER THE INPUT: true; the input reads as it did. -/
def partBackSpec : ChangeSpec := { name := "partBack", fn := fun _ => fun
  | [d1, d2, d3, d4] => { results := [.lit (.bool true)], args := [d1, d2, d3, d4] }
  | _ => none }
def partBackRow : OpenClaim := { program := "ytokjhocjemjfiaa", sum := "c3fbbfb46f4a6cd1269c082a29d7201c257723263f7c7c31b6faa3b2232c6c07", func := "lade/ladelaw4.PartBack", spec := "partBack", unfollowed := true, recurses := true, apart := false }
def PartBackSaid : Prop := partBackRow.holds Try.pinned (OpenSpec.ofChange partBackSpec)

/-- ITS FALSE NEIGHBOUR: 'it returns false'. Refute it at one input. -/
def partBackWrong : ChangeSpec := { name := "partBack", fn := fun _ => fun
  | [d1, d2, d3, d4] => { results := [.lit (.bool false)], args := [d1, d2, d3, d4] }
  | _ => none }
def PartBackWrongFalsely : Prop := partBackRow.holds Try.pinned (OpenSpec.ofChange partBackWrong)

/-- 'ladelaw4.PartSpoils': WHATEVER THE INPUT: true; the input reads as it did. -/
def partSpoilsSpec : ChangeSpec := { name := "partSpoils", fn := fun _ => fun
  | [d1, d2] => { results := [.lit (.bool true)], args := [d1, d2] }
  | _ => none }
def partSpoilsRow : OpenClaim := { program := "ytokjhocjemjfiaa", sum := "c3fbbfb46f4a6cd1269c082a29d7201c257723263f7c7c31b6faa3b2232c6c07", func := "lade/ladelaw4.PartSpoils", spec := "partSpoils", unfollowed := true, recurses := true, apart := false }
def PartSpoilsSaid : Prop := partSpoilsRow.holds Try.pinned (OpenSpec.ofChange partSpoilsSpec)

/-- ITS FALSE NEIGHBOUR: 'it returns false'. Refute it at one input. -/
def partSpoilsWrong : ChangeSpec := { name := "partSpoils", fn := fun _ => fun
  | [d1, d2] => { results := [.lit (.bool false)], args := [d1, d2] }
  | _ => none }
def PartSpoilsWrongFalsely : Prop := partSpoilsRow.holds Try.pinned (OpenSpec.ofChange partSpoilsWrong)

/-- 'ladelaw4.PartRows': WHATEVER THE INPUT: true; the input reads as it did. -/
def partRowsSpec : ChangeSpec := { name := "partRows", fn := fun _ => fun
  | [d] => { results := [.lit (.bool true)], args := [d] }
  | _ => none }
def partRowsRow : OpenClaim := { program := "ytokjhocjemjfiaa", sum := "c3fbbfb46f4a6cd1269c082a29d7201c257723263f7c7c31b6faa3b2232c6c07", func := "lade/ladelaw4.PartRows", spec := "partRows", unfollowed := true, recurses := true, apart := false }
def PartRowsSaid : Prop := partRowsRow.holds Try.pinned (OpenSpec.ofChange partRowsSpec)

/-- ITS FALSE NEIGHBOUR: 'it returns false'. Refute it at one input. -/
def partRowsWrong : ChangeSpec := { name := "partRows", fn := fun _ => fun
  | [d] => { results := [.lit (.bool false)], args := [d] }
  | _ => none }
def PartRowsWrongFalsely : Prop := partRowsRow.holds Try.pinned (OpenSpec.ofChange partRowsWrong)

/-- 'ladelaw4.PartSizes': WHATEVER THE INPUT: true; the input reads as it did. -/
def partSizesSpec : ChangeSpec := { name := "partSizes", fn := fun _ => fun
  | [d1, d2, d3] => { results := [.lit (.bool true)], args := [d1, d2, d3] }
  | _ => none }
def partSizesRow : OpenClaim := { program := "ytokjhocjemjfiaa", sum := "c3fbbfb46f4a6cd1269c082a29d7201c257723263f7c7c31b6faa3b2232c6c07", func := "lade/ladelaw4.PartSizes", spec := "partSizes", unfollowed := true, recurses := true, apart := false }
def PartSizesSaid : Prop := partSizesRow.holds Try.pinned (OpenSpec.ofChange partSizesSpec)

/-- ITS FALSE NEIGHBOUR: 'it returns false'. Refute it at one input. -/
def partSizesWrong : ChangeSpec := { name := "partSizes", fn := fun _ => fun
  | [d1, d2, d3] => { results := [.lit (.bool false)], args := [d1, d2, d3] }
  | _ => none }
def PartSizesWrongFalsely : Prop := partSizesRow.holds Try.pinned (OpenSpec.ofChange partSizesWrong)

/-- 'ladelaw4.PartFlags': WHATEVER THE INPUT: true; the input reads as it did. -/
def partFlagsSpec : ChangeSpec := { name := "partFlags", fn := fun _ => fun
  | [d1, d2, d3, d4] => { results := [.lit (.bool true)], args := [d1, d2, d3, d4] }
  | _ => none }
def partFlagsRow : OpenClaim := { program := "ytokjhocjemjfiaa", sum := "c3fbbfb46f4a6cd1269c082a29d7201c257723263f7c7c31b6faa3b2232c6c07", func := "lade/ladelaw4.PartFlags", spec := "partFlags", unfollowed := true, recurses := true, apart := false }
def PartFlagsSaid : Prop := partFlagsRow.holds Try.pinned (OpenSpec.ofChange partFlagsSpec)

/-- ITS FALSE NEIGHBOUR: 'it returns false'. Refute it at one input. -/
def partFlagsWrong : ChangeSpec := { name := "partFlags", fn := fun _ => fun
  | [d1, d2, d3, d4] => { results := [.lit (.bool false)], args := [d1, d2, d3, d4] }
  | _ => none }
def PartFlagsWrongFalsely : Prop := partFlagsRow.holds Try.pinned (OpenSpec.ofChange partFlagsWrong)

/- THE SECOND FORM. 'bulk': how many values and letters a reading holds, each counted each time it is reached (what is shared counts as often as it is met; a slice's spare places count too). A statement '..UptoSaid' is the law's where the arguments, and the package variables that the reading takes, are together of bulk at most 1048576: NARROWER than '..Said'. Prove '..Said' where nothing that the law and all that it calls make is longer than what came in: it says more and counts as full. Else prove '..UptoSaid'. A law counts once. -/
mutual
def uptoBulk {H : Type} : DataW H → Nat
  | .lit (.string bytes) => bytes.length + 1
  | .lit _ => 1
  | .nil => 1
  | .ptr d => uptoBulk d + 1
  | .slice elems spare => uptoBulkAll elems + uptoBulkAll spare + 1
  | .agg parts => uptoBulkAll parts + 1
  | .iface _ d => uptoBulk d + 1
  | .map entries => uptoBulkEntries entries + 1
  | .held _ => 1
def uptoBulkAll {H : Type} : List (DataW H) → Nat
  | [] => 0
  | d :: r => uptoBulk d + uptoBulkAll r
def uptoBulkEntries {H : Type} : List (Lit × DataW H) → Nat
  | [] => 0
  | x :: r => uptoBulkEntry x + uptoBulkEntries r
def uptoBulkEntry {H : Type} : Lit × DataW H → Nat
  | (.string bytes, d) => bytes.length + uptoBulk d + 1
  | (_, d) => uptoBulk d + 1
 end
def uptoSmall : (H : Type) → List (DataW H) → Bool := fun _ ds => decide (uptoBulkAll ds ≤ 1048576)
def OpenSpec.upto (s : _root_.Go.ChangeSpec) : _root_.Go.OpenSpec := { _root_.Go.OpenSpec.ofChange s with cond := some uptoSmall }

/-- 'ladelaw4.PartTells', WHERE WHAT IT READS IS OF BULK AT MOST 1048576: true; the input reads as it did. -/
def partTellsUptoRow : OpenClaim := { program := "ytokjhocjemjfiaa", sum := "c3fbbfb46f4a6cd1269c082a29d7201c257723263f7c7c31b6faa3b2232c6c07", func := "lade/ladelaw4.PartTells", spec := "partTells", unfollowed := true, recurses := true, apart := false, narrowed := true }
def PartTellsUptoSaid : Prop := partTellsUptoRow.holds Try.pinned (OpenSpec.upto partTellsSpec)

/-- 'ladelaw4.PartReads', WHERE WHAT IT READS IS OF BULK AT MOST 1048576: true; the input reads as it did. -/
def partReadsUptoRow : OpenClaim := { program := "ytokjhocjemjfiaa", sum := "c3fbbfb46f4a6cd1269c082a29d7201c257723263f7c7c31b6faa3b2232c6c07", func := "lade/ladelaw4.PartReads", spec := "partReads", unfollowed := true, recurses := true, apart := false, narrowed := true }
def PartReadsUptoSaid : Prop := partReadsUptoRow.holds Try.pinned (OpenSpec.upto partReadsSpec)

/-- 'ladelaw4.PartBack', WHERE WHAT IT READS IS OF BULK AT MOST 1048576: true; the input reads as it did. -/
def partBackUptoRow : OpenClaim := { program := "ytokjhocjemjfiaa", sum := "c3fbbfb46f4a6cd1269c082a29d7201c257723263f7c7c31b6faa3b2232c6c07", func := "lade/ladelaw4.PartBack", spec := "partBack", unfollowed := true, recurses := true, apart := false, narrowed := true }
def PartBackUptoSaid : Prop := partBackUptoRow.holds Try.pinned (OpenSpec.upto partBackSpec)

/-- 'ladelaw4.PartSpoils', WHERE WHAT IT READS IS OF BULK AT MOST 1048576: true; the input reads as it did. -/
def partSpoilsUptoRow : OpenClaim := { program := "ytokjhocjemjfiaa", sum := "c3fbbfb46f4a6cd1269c082a29d7201c257723263f7c7c31b6faa3b2232c6c07", func := "lade/ladelaw4.PartSpoils", spec := "partSpoils", unfollowed := true, recurses := true, apart := false, narrowed := true }
def PartSpoilsUptoSaid : Prop := partSpoilsUptoRow.holds Try.pinned (OpenSpec.upto partSpoilsSpec)

/-- 'ladelaw4.PartRows', WHERE WHAT IT READS IS OF BULK AT MOST 1048576: true; the input reads as it did. -/
def partRowsUptoRow : OpenClaim := { program := "ytokjhocjemjfiaa", sum := "c3fbbfb46f4a6cd1269c082a29d7201c257723263f7c7c31b6faa3b2232c6c07", func := "lade/ladelaw4.PartRows", spec := "partRows", unfollowed := true, recurses := true, apart := false, narrowed := true }
def PartRowsUptoSaid : Prop := partRowsUptoRow.holds Try.pinned (OpenSpec.upto partRowsSpec)

/-- 'ladelaw4.PartSizes', WHERE WHAT IT READS IS OF BULK AT MOST 1048576: true; the input reads as it did. -/
def partSizesUptoRow : OpenClaim := { program := "ytokjhocjemjfiaa", sum := "c3fbbfb46f4a6cd1269c082a29d7201c257723263f7c7c31b6faa3b2232c6c07", func := "lade/ladelaw4.PartSizes", spec := "partSizes", unfollowed := true, recurses := true, apart := false, narrowed := true }
def PartSizesUptoSaid : Prop := partSizesUptoRow.holds Try.pinned (OpenSpec.upto partSizesSpec)

/-- 'ladelaw4.PartFlags', WHERE WHAT IT READS IS OF BULK AT MOST 1048576: true; the input reads as it did. -/
def partFlagsUptoRow : OpenClaim := { program := "ytokjhocjemjfiaa", sum := "c3fbbfb46f4a6cd1269c082a29d7201c257723263f7c7c31b6faa3b2232c6c07", func := "lade/ladelaw4.PartFlags", spec := "partFlags", unfollowed := true, recurses := true, apart := false, narrowed := true }
def PartFlagsUptoSaid : Prop := partFlagsUptoRow.holds Try.pinned (OpenSpec.upto partFlagsSpec)

end Rows
end Go.Proofs.Ytokjhocjemjfiaa
