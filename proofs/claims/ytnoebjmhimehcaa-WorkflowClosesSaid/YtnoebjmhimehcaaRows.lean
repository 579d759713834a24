/-
  No cell of these rows narrows 'for every input' (looked for: loops, veiled, ifaces, maps, wideKeys, modest, calm, conditions, laid).
  DERIVED. THE GIVEN ROWS OF THIS SEAT. 7 by the template 'for every input the law returns true; each argument reads behind the call as it read before'; 0 by the template 'total and deterministic' (their statements: YtnoebjmhimehcaaTotals.lean).
  GIVEN WITH THE SEED: the statements are not yours to turn. If you find one false, say at which input.
  Laid BY PROGRAM, IN A SANDBOX (cutbox-rows.mjs): the forced cells as the released guide's own fill.sh prints them over the translation e85362665c640d3c… (all of the seat's roots in one cut). By AI agents, Wed Nov 11 2026. No macro, syntax, notation, axiom, sorry.
-/
import Derived.Test.YtnoebjmhimehcaaChecked
import GoSem.Claim
import GoSem.ClaimJoined
import GoSem.ClaimMapViews
import Derived.JoinedTies
import Derived.KernelRfl
namespace Go.Proofs.Ytnoebjmhimehcaa
/- THE CELL 'sum', in the pinned program and in every row, IS THE sha256 OF THE DUMP (.gsa) THAT YtnoebjmhimehcaaProg.lean LOADS. Nothing in Lean hashes anything: it is a label: what it is worth is what the hold of that sum in a sandbox is worth. -/
noncomputable def Try.pinned : Pinned := { name := "ytnoebjmhimehcaa", sum := "e85362665c640d3ca57f4541561407149621d8ad55c9e27bdbcd8fe414fe2e29", checked := Try.checked }
namespace Rows
def none {H : Type} : Left H := { results := [], args := [] }

/-- 'petrinetlaw43.WorkflowEnds': WHATEVER THE INPUT: true; the input reads as it did. -/
def workflowEndsSpec : ChangeSpec := { name := "workflowEnds", fn := fun _ => fun
  | [d] => { results := [.lit (.bool true)], args := [d] }
  | _ => none }
def workflowEndsRow : OpenClaim := { program := "ytnoebjmhimehcaa", sum := "e85362665c640d3ca57f4541561407149621d8ad55c9e27bdbcd8fe414fe2e29", func := "petrinet/petrinetlaw43.WorkflowEnds", spec := "workflowEnds", unfollowed := true, recurses := true, apart := false }
def WorkflowEndsSaid : Prop := workflowEndsRow.holds Try.pinned (OpenSpec.ofChange workflowEndsSpec)

/-- ITS FALSE NEIGHBOUR: 'it returns false'. Refute it at one input. -/
def workflowEndsWrong : ChangeSpec := { name := "workflowEnds", fn := fun _ => fun
  | [d] => { results := [.lit (.bool false)], args := [d] }
  | _ => none }
def WorkflowEndsWrongFalsely : Prop := workflowEndsRow.holds Try.pinned (OpenSpec.ofChange workflowEndsWrong)

/-- 'petrinetlaw43.WorkflowProblems': WHATEVER THE INPUT: true; the input reads as it did. -/
def workflowProblemsSpec : ChangeSpec := { name := "workflowProblems", fn := fun _ => fun
  | [d] => { results := [.lit (.bool true)], args := [d] }
  | _ => none }
def workflowProblemsRow : OpenClaim := { program := "ytnoebjmhimehcaa", sum := "e85362665c640d3ca57f4541561407149621d8ad55c9e27bdbcd8fe414fe2e29", func := "petrinet/petrinetlaw43.WorkflowProblems", spec := "workflowProblems", unfollowed := true, recurses := true, apart := false }
def WorkflowProblemsSaid : Prop := workflowProblemsRow.holds Try.pinned (OpenSpec.ofChange workflowProblemsSpec)

/-- ITS FALSE NEIGHBOUR: 'it returns false'. Refute it at one input. -/
def workflowProblemsWrong : ChangeSpec := { name := "workflowProblems", fn := fun _ => fun
  | [d] => { results := [.lit (.bool false)], args := [d] }
  | _ => none }
def WorkflowProblemsWrongFalsely : Prop := workflowProblemsRow.holds Try.pinned (OpenSpec.ofChange workflowProblemsWrong)

/-- 'petrinetlaw43.WorkflowBuilds': WHATEVER THE INPUT: true; the input reads as it did. -/
def workflowBuildsSpec : ChangeSpec := { name := "workflowBuilds", fn := fun _ => fun
  | [d] => { results := [.lit (.bool true)], args := [d] }
  | _ => none }
def workflowBuildsRow : OpenClaim := { program := "ytnoebjmhimehcaa", sum := "e85362665c640d3ca57f4541561407149621d8ad55c9e27bdbcd8fe414fe2e29", func := "petrinet/petrinetlaw43.WorkflowBuilds", spec := "workflowBuilds", unfollowed := true, recurses := true, apart := false }
def WorkflowBuildsSaid : Prop := workflowBuildsRow.holds Try.pinned (OpenSpec.ofChange workflowBuildsSpec)

/-- ITS FALSE NEIGHBOUR: 'it returns false'. Refute it at one input. -/
def workflowBuildsWrong : ChangeSpec := { name := "workflowBuilds", fn := fun _ => fun
  | [d] => { results := [.lit (.bool false)], args := [d] }
  | _ => none }
def WorkflowBuildsWrongFalsely : Prop := workflowBuildsRow.holds Try.pinned (OpenSpec.ofChange workflowBuildsWrong)

/-- 'petrinetlaw43.WorkflowAgrees': WHATEVER THE INPUT: true; the input reads as it did. -/
def workflowAgreesSpec : ChangeSpec := { name := "workflowAgrees", fn := fun _ => fun
  | [d] => { results := [.lit (.bool true)], args := [d] }
  | _ => none }
def workflowAgreesRow : OpenClaim := { program := "ytnoebjmhimehcaa", sum := "e85362665c640d3ca57f4541561407149621d8ad55c9e27bdbcd8fe414fe2e29", func := "petrinet/petrinetlaw43.WorkflowAgrees", spec := "workflowAgrees", unfollowed := true, recurses := true, apart := false }
def WorkflowAgreesSaid : Prop := workflowAgreesRow.holds Try.pinned (OpenSpec.ofChange workflowAgreesSpec)

/-- ITS FALSE NEIGHBOUR: 'it returns false'. Refute it at one input. -/
def workflowAgreesWrong : ChangeSpec := { name := "workflowAgrees", fn := fun _ => fun
  | [d] => { results := [.lit (.bool false)], args := [d] }
  | _ => none }
def WorkflowAgreesWrongFalsely : Prop := workflowAgreesRow.holds Try.pinned (OpenSpec.ofChange workflowAgreesWrong)

/-- 'petrinetlaw43.WorkflowStrays': WHATEVER THE INPUT: true; the input reads as it did. -/
def workflowStraysSpec : ChangeSpec := { name := "workflowStrays", fn := fun _ => fun
  | [d] => { results := [.lit (.bool true)], args := [d] }
  | _ => none }
def workflowStraysRow : OpenClaim := { program := "ytnoebjmhimehcaa", sum := "e85362665c640d3ca57f4541561407149621d8ad55c9e27bdbcd8fe414fe2e29", func := "petrinet/petrinetlaw43.WorkflowStrays", spec := "workflowStrays", unfollowed := true, recurses := true, apart := false }
def WorkflowStraysSaid : Prop := workflowStraysRow.holds Try.pinned (OpenSpec.ofChange workflowStraysSpec)

/-- ITS FALSE NEIGHBOUR: 'it returns false'. Refute it at one input. -/
def workflowStraysWrong : ChangeSpec := { name := "workflowStrays", fn := fun _ => fun
  | [d] => { results := [.lit (.bool false)], args := [d] }
  | _ => none }
def WorkflowStraysWrongFalsely : Prop := workflowStraysRow.holds Try.pinned (OpenSpec.ofChange workflowStraysWrong)

/-- 'petrinetlaw43.WorkflowNames': WHATEVER THE INPUT: true; the input reads as it did. -/
def workflowNamesSpec : ChangeSpec := { name := "workflowNames", fn := fun _ => fun
  | [d1, d2] => { results := [.lit (.bool true)], args := [d1, d2] }
  | _ => none }
def workflowNamesRow : OpenClaim := { program := "ytnoebjmhimehcaa", sum := "e85362665c640d3ca57f4541561407149621d8ad55c9e27bdbcd8fe414fe2e29", func := "petrinet/petrinetlaw43.WorkflowNames", spec := "workflowNames", unfollowed := true, recurses := true, apart := false }
def WorkflowNamesSaid : Prop := workflowNamesRow.holds Try.pinned (OpenSpec.ofChange workflowNamesSpec)

/-- ITS FALSE NEIGHBOUR: 'it returns false'. Refute it at one input. -/
def workflowNamesWrong : ChangeSpec := { name := "workflowNames", fn := fun _ => fun
  | [d1, d2] => { results := [.lit (.bool false)], args := [d1, d2] }
  | _ => none }
def WorkflowNamesWrongFalsely : Prop := workflowNamesRow.holds Try.pinned (OpenSpec.ofChange workflowNamesWrong)

/-- 'petrinetlaw43.WorkflowCloses': WHATEVER THE INPUT: true; the input reads as it did. -/
def workflowClosesSpec : ChangeSpec := { name := "workflowCloses", fn := fun _ => fun
  | [d] => { results := [.lit (.bool true)], args := [d] }
  | _ => none }
def workflowClosesRow : OpenClaim := { program := "ytnoebjmhimehcaa", sum := "e85362665c640d3ca57f4541561407149621d8ad55c9e27bdbcd8fe414fe2e29", func := "petrinet/petrinetlaw43.WorkflowCloses", spec := "workflowCloses", unfollowed := true, recurses := true, apart := false }
def WorkflowClosesSaid : Prop := workflowClosesRow.holds Try.pinned (OpenSpec.ofChange workflowClosesSpec)

/-- ITS FALSE NEIGHBOUR: 'it returns false'. Refute it at one input. -/
def workflowClosesWrong : ChangeSpec := { name := "workflowCloses", fn := fun _ => fun
  | [d] => { results := [.lit (.bool false)], args := [d] }
  | _ => none }
def WorkflowClosesWrongFalsely : Prop := workflowClosesRow.holds Try.pinned (OpenSpec.ofChange workflowClosesWrong)

/- THE SECOND FORM. 'bulk': how many values and letters a reading holds, each counted each time it is reached (what is shared counts as often as it is met; a slice's spare places count too). A statement '..UptoSaid' is the law's where the arguments, and the package variables that the reading takes, are together of bulk at most 1048576: NARROWER than '..Said'. Prove '..Said' where nothing that the law and all that it calls make is longer than what came in: it says more and counts as full. Else prove '..UptoSaid'. A law counts once. -/
mutual
def uptoBulk {H : Type} : DataW H → Nat
  | .lit (.string bytes) => bytes.length + 1
  | .lit _ => 1
  | .nil => 1
  | .ptr d => uptoBulk d + 1
  | .slice elems spare => uptoBulkAll elems + uptoBulkAll spare + 1
  | .agg parts => uptoBulkAll parts + 1
  | .iface _ d => uptoBulk d + 1
  | .map entries => uptoBulkEntries entries + 1
  | .held _ => 1
def uptoBulkAll {H : Type} : List (DataW H) → Nat
  | [] => 0
  | d :: r => uptoBulk d + uptoBulkAll r
def uptoBulkEntries {H : Type} : List (Lit × DataW H) → Nat
  | [] => 0
  | x :: r => uptoBulkEntry x + uptoBulkEntries r
def uptoBulkEntry {H : Type} : Lit × DataW H → Nat
  | (.string bytes, d) => bytes.length + uptoBulk d + 1
  | (_, d) => uptoBulk d + 1
 end
def uptoSmall : (H : Type) → List (DataW H) → Bool := fun _ ds => decide (uptoBulkAll ds ≤ 1048576)
def OpenSpec.upto (s : _root_.Go.ChangeSpec) : _root_.Go.OpenSpec := { _root_.Go.OpenSpec.ofChange s with cond := some uptoSmall }

/-- 'petrinetlaw43.WorkflowEnds', WHERE WHAT IT READS IS OF BULK AT MOST 1048576: true; the input reads as it did. -/
def workflowEndsUptoRow : OpenClaim := { program := "ytnoebjmhimehcaa", sum := "e85362665c640d3ca57f4541561407149621d8ad55c9e27bdbcd8fe414fe2e29", func := "petrinet/petrinetlaw43.WorkflowEnds", spec := "workflowEnds", unfollowed := true, recurses := true, apart := false, narrowed := true }
def WorkflowEndsUptoSaid : Prop := workflowEndsUptoRow.holds Try.pinned (OpenSpec.upto workflowEndsSpec)

/-- 'petrinetlaw43.WorkflowProblems', WHERE WHAT IT READS IS OF BULK AT MOST 1048576: true; the input reads as it did. -/
def workflowProblemsUptoRow : OpenClaim := { program := "ytnoebjmhimehcaa", sum := "e85362665c640d3ca57f4541561407149621d8ad55c9e27bdbcd8fe414fe2e29", func := "petrinet/petrinetlaw43.WorkflowProblems", spec := "workflowProblems", unfollowed := true, recurses := true, apart := false, narrowed := true }
def WorkflowProblemsUptoSaid : Prop := workflowProblemsUptoRow.holds Try.pinned (OpenSpec.upto workflowProblemsSpec)

/-- 'petrinetlaw43.WorkflowBuilds', WHERE WHAT IT READS IS OF BULK AT MOST 1048576: true; the input reads as it did. -/
def workflowBuildsUptoRow : OpenClaim := { program := "ytnoebjmhimehcaa", sum := "e85362665c640d3ca57f4541561407149621d8ad55c9e27bdbcd8fe414fe2e29", func := "petrinet/petrinetlaw43.WorkflowBuilds", spec := "workflowBuilds", unfollowed := true, recurses := true, apart := false, narrowed := true }
def WorkflowBuildsUptoSaid : Prop := workflowBuildsUptoRow.holds Try.pinned (OpenSpec.upto workflowBuildsSpec)

/-- 'petrinetlaw43.WorkflowAgrees', WHERE WHAT IT READS IS OF BULK AT MOST 1048576: true; the input reads as it did. -/
def workflowAgreesUptoRow : OpenClaim := { program := "ytnoebjmhimehcaa", sum := "e85362665c640d3ca57f4541561407149621d8ad55c9e27bdbcd8fe414fe2e29", func := "petrinet/petrinetlaw43.WorkflowAgrees", spec := "workflowAgrees", unfollowed := true, recurses := true, apart := false, narrowed := true }
def WorkflowAgreesUptoSaid : Prop := workflowAgreesUptoRow.holds Try.pinned (OpenSpec.upto workflowAgreesSpec)

/-- 'petrinetlaw43.WorkflowStrays', WHERE WHAT IT READS IS OF BULK AT MOST 1048576: true; the input reads as it did. -/
def workflowStraysUptoRow : OpenClaim := { program := "ytnoebjmhimehcaa", sum := "e85362665c640d3ca57f4541561407149621d8ad55c9e27bdbcd8fe414fe2e29", func := "petrinet/petrinetlaw43.WorkflowStrays", spec := "workflowStrays", unfollowed := true, recurses := true, apart := false, narrowed := true }
def WorkflowStraysUptoSaid : Prop := workflowStraysUptoRow.holds Try.pinned (OpenSpec.upto workflowStraysSpec)

/-- 'petrinetlaw43.WorkflowNames', WHERE WHAT IT READS IS OF BULK AT MOST 1048576: true; the input reads as it did. -/
def workflowNamesUptoRow : OpenClaim := { program := "ytnoebjmhimehcaa", sum := "e85362665c640d3ca57f4541561407149621d8ad55c9e27bdbcd8fe414fe2e29", func := "petrinet/petrinetlaw43.WorkflowNames", spec := "workflowNames", unfollowed := true, recurses := true, apart := false, narrowed := true }
def WorkflowNamesUptoSaid : Prop := workflowNamesUptoRow.holds Try.pinned (OpenSpec.upto workflowNamesSpec)

/-- 'petrinetlaw43.WorkflowCloses', WHERE WHAT IT READS IS OF BULK AT MOST 1048576: true; the input reads as it did. -/
def workflowClosesUptoRow : OpenClaim := { program := "ytnoebjmhimehcaa", sum := "e85362665c640d3ca57f4541561407149621d8ad55c9e27bdbcd8fe414fe2e29", func := "petrinet/petrinetlaw43.WorkflowCloses", spec := "workflowCloses", unfollowed := true, recurses := true, apart := false, narrowed := true }
def WorkflowClosesUptoSaid : Prop := workflowClosesUptoRow.holds Try.pinned (OpenSpec.upto workflowClosesSpec)

end Rows
end Go.Proofs.Ytnoebjmhimehcaa
