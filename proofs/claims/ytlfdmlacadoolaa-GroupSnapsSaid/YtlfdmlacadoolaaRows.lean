/-
  No cell of these rows narrows 'for every input' (looked for: loops, veiled, ifaces, maps, wideKeys, modest, calm, conditions, laid).
  DERIVED. THE GIVEN ROWS OF THIS SEAT. 9 by the template 'for every input the law returns true; each argument reads behind the call as it read before'; 0 by the template 'total and deterministic' (their statements: YtlfdmlacadoolaaTotals.lean).
  GIVEN WITH THE SEED: the statements are not yours to turn. If you find one false, say at which input.
  Laid BY PROGRAM, IN A SANDBOX (cutbox-rows.mjs): the forced cells as the released guide's own fill.sh prints them over the translation 3c1d4778e8d14316… (all of the seat's roots in one cut). By AI agents, Wed Nov 11 2026. No macro, syntax, notation, axiom, sorry.
-/
import Derived.Test.YtlfdmlacadoolaaChecked
import GoSem.Claim
import GoSem.ClaimJoined
import GoSem.ClaimMapViews
import Derived.JoinedTies
import Derived.KernelRfl
namespace Go.Proofs.Ytlfdmlacadoolaa
/- THE CELL 'sum', in the pinned program and in every row, IS THE sha256 OF THE DUMP (.gsa) THAT YtlfdmlacadoolaaProg.lean LOADS. Nothing in Lean hashes anything: it is a label: what it is worth is what the hold of that sum in a sandbox is worth. -/
noncomputable def Try.pinned : Pinned := { name := "ytlfdmlacadoolaa", sum := "3c1d4778e8d143162e76f59b043d2dc99f14140ab920ebacc5b52d4a42842d6c", checked := Try.checked }
namespace Rows
def none {H : Type} : Left H := { results := [], args := [] }

/-- 'ladelaw6.GroupTells': WHATEVER THE INPUT: true; the input reads as it did. -/
def groupTellsSpec : ChangeSpec := { name := "groupTells", fn := fun _ => fun
  | [d1, d2, d3] => { results := [.lit (.bool true)], args := [d1, d2, d3] }
  | _ => none }
def groupTellsRow : OpenClaim := { program := "ytlfdmlacadoolaa", sum := "3c1d4778e8d143162e76f59b043d2dc99f14140ab920ebacc5b52d4a42842d6c", func := "lade/ladelaw6.GroupTells", spec := "groupTells", unfollowed := true, recurses := true, apart := false }
def GroupTellsSaid : Prop := groupTellsRow.holds Try.pinned (OpenSpec.ofChange groupTellsSpec)

/-- ITS FALSE NEIGHBOUR: 'it returns false'. Refute it at one input. -/
def groupTellsWrong : ChangeSpec := { name := "groupTells", fn := fun _ => fun
  | [d1, d2, d3] => { results := [.lit (.bool false)], args := [d1, d2, d3] }
  | _ => none }
def GroupTellsWrongFalsely : Prop := groupTellsRow.holds Try.pinned (OpenSpec.ofChange groupTellsWrong)

/-- 'ladelaw6.GroupReads': WHATEVER THE INPUT: true; the input reads as it did. -/
def groupReadsSpec : ChangeSpec := { name := "groupReads", fn := fun _ => fun
  | [d1, d2, d3, d4] => { results := [.lit (.bool true)], args := [d1, d2, d3, d4] }
  | _ => none }
def groupReadsRow : OpenClaim := { program := "ytlfdmlacadoolaa", sum := "3c1d4778e8d143162e76f59b043d2dc99f14140ab920ebacc5b52d4a42842d6c", func := "lade/ladelaw6.GroupReads", spec := "groupReads", unfollowed := true, recurses := true, apart := false }
def GroupReadsSaid : Prop := groupReadsRow.holds Try.pinned (OpenSpec.ofChange groupReadsSpec)

/-- ITS FALSE NEIGHBOUR: 'it returns false'. Refute it at one input. -/
def groupReadsWrong : ChangeSpec := { name := "groupReads", fn := fun _ => fun
  | [d1, d2, d3, d4] => { results := [.lit (.bool false)], args := [d1, d2, d3, d4] }
  | _ => none }
def GroupReadsWrongFalsely : Prop := groupReadsRow.holds Try.pinned (OpenSpec.ofChange groupReadsWrong)

/-- 'ladelaw6.GroupStands': WHATEVER THE INPUT: true; the input reads as it did. -/
def groupStandsSpec : ChangeSpec := { name := "groupStands", fn := fun _ => fun
  | [d1, d2] => { results := [.lit (.bool true)], args := [d1, d2] }
  | _ => none }
def groupStandsRow : OpenClaim := { program := "ytlfdmlacadoolaa", sum := "3c1d4778e8d143162e76f59b043d2dc99f14140ab920ebacc5b52d4a42842d6c", func := "lade/ladelaw6.GroupStands", spec := "groupStands", unfollowed := true, recurses := true, apart := false }
def GroupStandsSaid : Prop := groupStandsRow.holds Try.pinned (OpenSpec.ofChange groupStandsSpec)

/-- ITS FALSE NEIGHBOUR: 'it returns false'. Refute it at one input. -/
def groupStandsWrong : ChangeSpec := { name := "groupStands", fn := fun _ => fun
  | [d1, d2] => { results := [.lit (.bool false)], args := [d1, d2] }
  | _ => none }
def GroupStandsWrongFalsely : Prop := groupStandsRow.holds Try.pinned (OpenSpec.ofChange groupStandsWrong)

/-- 'ladelaw6.GroupAppends': WHATEVER THE INPUT: true; the input reads as it did. -/
def groupAppendsSpec : ChangeSpec := { name := "groupAppends", fn := fun _ => fun
  | [d1, d2] => { results := [.lit (.bool true)], args := [d1, d2] }
  | _ => none }
def groupAppendsRow : OpenClaim := { program := "ytlfdmlacadoolaa", sum := "3c1d4778e8d143162e76f59b043d2dc99f14140ab920ebacc5b52d4a42842d6c", func := "lade/ladelaw6.GroupAppends", spec := "groupAppends", unfollowed := true, recurses := true, apart := false }
def GroupAppendsSaid : Prop := groupAppendsRow.holds Try.pinned (OpenSpec.ofChange groupAppendsSpec)

/-- ITS FALSE NEIGHBOUR: 'it returns false'. Refute it at one input. -/
def groupAppendsWrong : ChangeSpec := { name := "groupAppends", fn := fun _ => fun
  | [d1, d2] => { results := [.lit (.bool false)], args := [d1, d2] }
  | _ => none }
def GroupAppendsWrongFalsely : Prop := groupAppendsRow.holds Try.pinned (OpenSpec.ofChange groupAppendsWrong)

/-- 'ladelaw6.GroupConflicts': WHATEVER THE INPUT: true; the input reads as it did. -/
def groupConflictsSpec : ChangeSpec := { name := "groupConflicts", fn := fun _ => fun
  | [d1, d2, d3, d4] => { results := [.lit (.bool true)], args := [d1, d2, d3, d4] }
  | _ => none }
def groupConflictsRow : OpenClaim := { program := "ytlfdmlacadoolaa", sum := "3c1d4778e8d143162e76f59b043d2dc99f14140ab920ebacc5b52d4a42842d6c", func := "lade/ladelaw6.GroupConflicts", spec := "groupConflicts", unfollowed := true, recurses := true, apart := false }
def GroupConflictsSaid : Prop := groupConflictsRow.holds Try.pinned (OpenSpec.ofChange groupConflictsSpec)

/-- ITS FALSE NEIGHBOUR: 'it returns false'. Refute it at one input. -/
def groupConflictsWrong : ChangeSpec := { name := "groupConflicts", fn := fun _ => fun
  | [d1, d2, d3, d4] => { results := [.lit (.bool false)], args := [d1, d2, d3, d4] }
  | _ => none }
def GroupConflictsWrongFalsely : Prop := groupConflictsRow.holds Try.pinned (OpenSpec.ofChange groupConflictsWrong)

/-- 'ladelaw6.GroupCompacts': WHATEVER THE INPUT: true; the input reads as it did. -/
def groupCompactsSpec : ChangeSpec := { name := "groupCompacts", fn := fun _ => fun
  | [d1, d2, d3] => { results := [.lit (.bool true)], args := [d1, d2, d3] }
  | _ => none }
def groupCompactsRow : OpenClaim := { program := "ytlfdmlacadoolaa", sum := "3c1d4778e8d143162e76f59b043d2dc99f14140ab920ebacc5b52d4a42842d6c", func := "lade/ladelaw6.GroupCompacts", spec := "groupCompacts", unfollowed := true, recurses := true, apart := false }
def GroupCompactsSaid : Prop := groupCompactsRow.holds Try.pinned (OpenSpec.ofChange groupCompactsSpec)

/-- ITS FALSE NEIGHBOUR: 'it returns false'. Refute it at one input. -/
def groupCompactsWrong : ChangeSpec := { name := "groupCompacts", fn := fun _ => fun
  | [d1, d2, d3] => { results := [.lit (.bool false)], args := [d1, d2, d3] }
  | _ => none }
def GroupCompactsWrongFalsely : Prop := groupCompactsRow.holds Try.pinned (OpenSpec.ofChange groupCompactsWrong)

/-- 'ladelaw6.GroupSnaps': WHATEVER THE INPUT: true; the input reads as it did. -/
def groupSnapsSpec : ChangeSpec := { name := "groupSnaps", fn := fun _ => fun
  | [d1, d2, d3] => { results := [.lit (.bool true)], args := [d1, d2, d3] }
  | _ => none }
def groupSnapsRow : OpenClaim := { program := "ytlfdmlacadoolaa", sum := "3c1d4778e8d143162e76f59b043d2dc99f14140ab920ebacc5b52d4a42842d6c", func := "lade/ladelaw6.GroupSnaps", spec := "groupSnaps", unfollowed := true, recurses := true, apart := false }
def GroupSnapsSaid : Prop := groupSnapsRow.holds Try.pinned (OpenSpec.ofChange groupSnapsSpec)

/-- ITS FALSE NEIGHBOUR: 'it returns false'. Refute it at one input. -/
def groupSnapsWrong : ChangeSpec := { name := "groupSnaps", fn := fun _ => fun
  | [d1, d2, d3] => { results := [.lit (.bool false)], args := [d1, d2, d3] }
  | _ => none }
def GroupSnapsWrongFalsely : Prop := groupSnapsRow.holds Try.pinned (OpenSpec.ofChange groupSnapsWrong)

/-- 'ladelaw6.GroupHards': WHATEVER THE INPUT: true; the input reads as it did. -/
def groupHardsSpec : ChangeSpec := { name := "groupHards", fn := fun _ => fun
  | [d1, d2, d3, d4] => { results := [.lit (.bool true)], args := [d1, d2, d3, d4] }
  | _ => none }
def groupHardsRow : OpenClaim := { program := "ytlfdmlacadoolaa", sum := "3c1d4778e8d143162e76f59b043d2dc99f14140ab920ebacc5b52d4a42842d6c", func := "lade/ladelaw6.GroupHards", spec := "groupHards", unfollowed := true, recurses := true, apart := false }
def GroupHardsSaid : Prop := groupHardsRow.holds Try.pinned (OpenSpec.ofChange groupHardsSpec)

/-- ITS FALSE NEIGHBOUR: 'it returns false'. Refute it at one input. -/
def groupHardsWrong : ChangeSpec := { name := "groupHards", fn := fun _ => fun
  | [d1, d2, d3, d4] => { results := [.lit (.bool false)], args := [d1, d2, d3, d4] }
  | _ => none }
def GroupHardsWrongFalsely : Prop := groupHardsRow.holds Try.pinned (OpenSpec.ofChange groupHardsWrong)

/-- 'ladelaw6.GroupGaps': WHATEVER THE INPUT: true; the input reads as it did. -/
def groupGapsSpec : ChangeSpec := { name := "groupGaps", fn := fun _ => fun
  | [d1, d2, d3] => { results := [.lit (.bool true)], args := [d1, d2, d3] }
  | _ => none }
def groupGapsRow : OpenClaim := { program := "ytlfdmlacadoolaa", sum := "3c1d4778e8d143162e76f59b043d2dc99f14140ab920ebacc5b52d4a42842d6c", func := "lade/ladelaw6.GroupGaps", spec := "groupGaps", unfollowed := true, recurses := true, apart := false }
def GroupGapsSaid : Prop := groupGapsRow.holds Try.pinned (OpenSpec.ofChange groupGapsSpec)

/-- ITS FALSE NEIGHBOUR: 'it returns false'. Refute it at one input. -/
def groupGapsWrong : ChangeSpec := { name := "groupGaps", fn := fun _ => fun
  | [d1, d2, d3] => { results := [.lit (.bool false)], args := [d1, d2, d3] }
  | _ => none }
def GroupGapsWrongFalsely : Prop := groupGapsRow.holds Try.pinned (OpenSpec.ofChange groupGapsWrong)

/- THE SECOND FORM. 'bulk': how many values and letters a reading holds, each counted each time it is reached (what is shared counts as often as it is met; a slice's spare places count too). A statement '..UptoSaid' is the law's where the arguments, and the package variables that the reading takes, are together of bulk at most 1048576: NARROWER than '..Said'. Prove '..Said' where nothing that the law and all that it calls make is longer than what came in: it says more and counts as full. Else prove '..UptoSaid'. A law counts once. -/
mutual
def uptoBulk {H : Type} : DataW H → Nat
  | .lit (.string bytes) => bytes.length + 1
  | .lit _ => 1
  | .nil => 1
  | .ptr d => uptoBulk d + 1
  | .slice elems spare => uptoBulkAll elems + uptoBulkAll spare + 1
  | .agg parts => uptoBulkAll parts + 1
  | .iface _ d => uptoBulk d + 1
  | .map entries => uptoBulkEntries entries + 1
  | .held _ => 1
def uptoBulkAll {H : Type} : List (DataW H) → Nat
  | [] => 0
  | d :: r => uptoBulk d + uptoBulkAll r
def uptoBulkEntries {H : Type} : List (Lit × DataW H) → Nat
  | [] => 0
  | x :: r => uptoBulkEntry x + uptoBulkEntries r
def uptoBulkEntry {H : Type} : Lit × DataW H → Nat
  | (.string bytes, d) => bytes.length + uptoBulk d + 1
  | (_, d) => uptoBulk d + 1
 end
def uptoSmall : (H : Type) → List (DataW H) → Bool := fun _ ds => decide (uptoBulkAll ds ≤ 1048576)
def OpenSpec.upto (s : _root_.Go.ChangeSpec) : _root_.Go.OpenSpec := { _root_.Go.OpenSpec.ofChange s with cond := some uptoSmall }

/-- 'ladelaw6.GroupTells', WHERE WHAT IT READS IS OF BULK AT MOST 1048576: true; the input reads as it did. -/
def groupTellsUptoRow : OpenClaim := { program := "ytlfdmlacadoolaa", sum := "3c1d4778e8d143162e76f59b043d2dc99f14140ab920ebacc5b52d4a42842d6c", func := "lade/ladelaw6.GroupTells", spec := "groupTells", unfollowed := true, recurses := true, apart := false, narrowed := true }
def GroupTellsUptoSaid : Prop := groupTellsUptoRow.holds Try.pinned (OpenSpec.upto groupTellsSpec)

/-- 'ladelaw6.GroupReads', WHERE WHAT IT READS IS OF BULK AT MOST 1048576: true; the input reads as it did. -/
def groupReadsUptoRow : OpenClaim := { program := "ytlfdmlacadoolaa", sum := "3c1d4778e8d143162e76f59b043d2dc99f14140ab920ebacc5b52d4a42842d6c", func := "lade/ladelaw6.GroupReads", spec := "groupReads", unfollowed := true, recurses := true, apart := false, narrowed := true }
def GroupReadsUptoSaid : Prop := groupReadsUptoRow.holds Try.pinned (OpenSpec.upto groupReadsSpec)

/-- 'ladelaw6.GroupStands', WHERE WHAT IT READS IS OF BULK AT MOST 1048576: true; the input reads as it did. -/
def groupStandsUptoRow : OpenClaim := { program := "ytlfdmlacadoolaa", sum := "3c1d4778e8d143162e76f59b043d2dc99f14140ab920ebacc5b52d4a42842d6c", func := "lade/ladelaw6.GroupStands", spec := "groupStands", unfollowed := true, recurses := true, apart := false, narrowed := true }
def GroupStandsUptoSaid : Prop := groupStandsUptoRow.holds Try.pinned (OpenSpec.upto groupStandsSpec)

/-- 'ladelaw6.GroupAppends', WHERE WHAT IT READS IS OF BULK AT MOST 1048576: true; the input reads as it did. -/
def groupAppendsUptoRow : OpenClaim := { program := "ytlfdmlacadoolaa", sum := "3c1d4778e8d143162e76f59b043d2dc99f14140ab920ebacc5b52d4a42842d6c", func := "lade/ladelaw6.GroupAppends", spec := "groupAppends", unfollowed := true, recurses := true, apart := false, narrowed := true }
def GroupAppendsUptoSaid : Prop := groupAppendsUptoRow.holds Try.pinned (OpenSpec.upto groupAppendsSpec)

/-- 'ladelaw6.GroupConflicts', WHERE WHAT IT READS IS OF BULK AT MOST 1048576: true; the input reads as it did. -/
def groupConflictsUptoRow : OpenClaim := { program := "ytlfdmlacadoolaa", sum := "3c1d4778e8d143162e76f59b043d2dc99f14140ab920ebacc5b52d4a42842d6c", func := "lade/ladelaw6.GroupConflicts", spec := "groupConflicts", unfollowed := true, recurses := true, apart := false, narrowed := true }
def GroupConflictsUptoSaid : Prop := groupConflictsUptoRow.holds Try.pinned (OpenSpec.upto groupConflictsSpec)

/-- 'ladelaw6.GroupCompacts', WHERE WHAT IT READS IS OF BULK AT MOST 1048576: true; the input reads as it did. -/
def groupCompactsUptoRow : OpenClaim := { program := "ytlfdmlacadoolaa", sum := "3c1d4778e8d143162e76f59b043d2dc99f14140ab920ebacc5b52d4a42842d6c", func := "lade/ladelaw6.GroupCompacts", spec := "groupCompacts", unfollowed := true, recurses := true, apart := false, narrowed := true }
def GroupCompactsUptoSaid : Prop := groupCompactsUptoRow.holds Try.pinned (OpenSpec.upto groupCompactsSpec)

/-- 'ladelaw6.GroupSnaps', WHERE WHAT IT READS IS OF BULK AT MOST 1048576: true; the input reads as it did. -/
def groupSnapsUptoRow : OpenClaim := { program := "ytlfdmlacadoolaa", sum := "3c1d4778e8d143162e76f59b043d2dc99f14140ab920ebacc5b52d4a42842d6c", func := "lade/ladelaw6.GroupSnaps", spec := "groupSnaps", unfollowed := true, recurses := true, apart := false, narrowed := true }
def GroupSnapsUptoSaid : Prop := groupSnapsUptoRow.holds Try.pinned (OpenSpec.upto groupSnapsSpec)

/-- 'ladelaw6.GroupHards', WHERE WHAT IT READS IS OF BULK AT MOST 1048576: true; the input reads as it did. -/
def groupHardsUptoRow : OpenClaim := { program := "ytlfdmlacadoolaa", sum := "3c1d4778e8d143162e76f59b043d2dc99f14140ab920ebacc5b52d4a42842d6c", func := "lade/ladelaw6.GroupHards", spec := "groupHards", unfollowed := true, recurses := true, apart := false, narrowed := true }
def GroupHardsUptoSaid : Prop := groupHardsUptoRow.holds Try.pinned (OpenSpec.upto groupHardsSpec)

/-- 'ladelaw6.GroupGaps', WHERE WHAT IT READS IS OF BULK AT MOST 1048576: true; the input reads as it did. -/
def groupGapsUptoRow : OpenClaim := { program := "ytlfdmlacadoolaa", sum := "3c1d4778e8d143162e76f59b043d2dc99f14140ab920ebacc5b52d4a42842d6c", func := "lade/ladelaw6.GroupGaps", spec := "groupGaps", unfollowed := true, recurses := true, apart := false, narrowed := true }
def GroupGapsUptoSaid : Prop := groupGapsUptoRow.holds Try.pinned (OpenSpec.upto groupGapsSpec)

end Rows
end Go.Proofs.Ytlfdmlacadoolaa
