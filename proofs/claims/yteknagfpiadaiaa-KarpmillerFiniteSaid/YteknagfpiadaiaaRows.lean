/-
  No cell of these rows narrows 'for every input' (looked for: loops, veiled, ifaces, maps, wideKeys, modest, calm, conditions, laid).
  DERIVED. THE GIVEN ROWS OF THIS SEAT. 7 by the template 'for every input the law returns true; each argument reads behind the call as it read before'; 0 by the template 'total and deterministic' (their statements: YteknagfpiadaiaaTotals.lean).
  GIVEN WITH THE SEED: the statements are not yours to turn. If you find one false, say at which input.
  Laid BY PROGRAM, IN A SANDBOX (cutbox-rows.mjs): the forced cells as the released guide's own fill.sh prints them over the translation ca3a63ee51018d04… (all of the seat's roots in one cut). By AI agents, Wed Nov 11 2026. No macro, syntax, notation, axiom, sorry.
-/
import Derived.Test.YteknagfpiadaiaaChecked
import GoSem.Claim
import GoSem.ClaimJoined
import GoSem.ClaimMapViews
import Derived.JoinedTies
import Derived.KernelRfl
namespace Go.Proofs.Yteknagfpiadaiaa
/- THE CELL 'sum', in the pinned program and in every row, IS THE sha256 OF THE DUMP (.gsa) THAT YteknagfpiadaiaaProg.lean LOADS. Nothing in Lean hashes anything: it is a label: what it is worth is what the hold of that sum in a sandbox is worth. -/
noncomputable def Try.pinned : Pinned := { name := "yteknagfpiadaiaa", sum := "ca3a63ee51018d0414251914d59df6e6f96bf19ec11a0904fef39888f898ece5", checked := Try.checked }
namespace Rows
def none {H : Type} : Left H := { results := [], args := [] }

/-- 'petrinetlaw22.KarpmillerFires': WHATEVER THE INPUT: true; the input reads as it did. -/
def karpmillerFiresSpec : ChangeSpec := { name := "karpmillerFires", fn := fun _ => fun
  | [d1, d2, d3] => { results := [.lit (.bool true)], args := [d1, d2, d3] }
  | _ => none }
def karpmillerFiresRow : OpenClaim := { program := "yteknagfpiadaiaa", sum := "ca3a63ee51018d0414251914d59df6e6f96bf19ec11a0904fef39888f898ece5", func := "petrinet/petrinetlaw22.KarpmillerFires", spec := "karpmillerFires", unfollowed := true, recurses := true, apart := false }
def KarpmillerFiresSaid : Prop := karpmillerFiresRow.holds Try.pinned (OpenSpec.ofChange karpmillerFiresSpec)

/-- ITS FALSE NEIGHBOUR: 'it returns false'. Refute it at one input. -/
def karpmillerFiresWrong : ChangeSpec := { name := "karpmillerFires", fn := fun _ => fun
  | [d1, d2, d3] => { results := [.lit (.bool false)], args := [d1, d2, d3] }
  | _ => none }
def KarpmillerFiresWrongFalsely : Prop := karpmillerFiresRow.holds Try.pinned (OpenSpec.ofChange karpmillerFiresWrong)

/-- 'petrinetlaw22.KarpmillerTrees': WHATEVER THE INPUT: true; the input reads as it did. -/
def karpmillerTreesSpec : ChangeSpec := { name := "karpmillerTrees", fn := fun _ => fun
  | [d1, d2] => { results := [.lit (.bool true)], args := [d1, d2] }
  | _ => none }
def karpmillerTreesRow : OpenClaim := { program := "yteknagfpiadaiaa", sum := "ca3a63ee51018d0414251914d59df6e6f96bf19ec11a0904fef39888f898ece5", func := "petrinet/petrinetlaw22.KarpmillerTrees", spec := "karpmillerTrees", unfollowed := true, recurses := true, apart := false }
def KarpmillerTreesSaid : Prop := karpmillerTreesRow.holds Try.pinned (OpenSpec.ofChange karpmillerTreesSpec)

/-- ITS FALSE NEIGHBOUR: 'it returns false'. Refute it at one input. -/
def karpmillerTreesWrong : ChangeSpec := { name := "karpmillerTrees", fn := fun _ => fun
  | [d1, d2] => { results := [.lit (.bool false)], args := [d1, d2] }
  | _ => none }
def KarpmillerTreesWrongFalsely : Prop := karpmillerTreesRow.holds Try.pinned (OpenSpec.ofChange karpmillerTreesWrong)

/-- 'petrinetlaw22.KarpmillerValid': WHATEVER THE INPUT: true; the input reads as it did. -/
def karpmillerValidSpec : ChangeSpec := { name := "karpmillerValid", fn := fun _ => fun
  | [d1, d2] => { results := [.lit (.bool true)], args := [d1, d2] }
  | _ => none }
def karpmillerValidRow : OpenClaim := { program := "yteknagfpiadaiaa", sum := "ca3a63ee51018d0414251914d59df6e6f96bf19ec11a0904fef39888f898ece5", func := "petrinet/petrinetlaw22.KarpmillerValid", spec := "karpmillerValid", unfollowed := true, recurses := true, apart := false }
def KarpmillerValidSaid : Prop := karpmillerValidRow.holds Try.pinned (OpenSpec.ofChange karpmillerValidSpec)

/-- ITS FALSE NEIGHBOUR: 'it returns false'. Refute it at one input. -/
def karpmillerValidWrong : ChangeSpec := { name := "karpmillerValid", fn := fun _ => fun
  | [d1, d2] => { results := [.lit (.bool false)], args := [d1, d2] }
  | _ => none }
def KarpmillerValidWrongFalsely : Prop := karpmillerValidRow.holds Try.pinned (OpenSpec.ofChange karpmillerValidWrong)

/-- 'petrinetlaw22.KarpmillerCovers': WHATEVER THE INPUT: true; the input reads as it did. -/
def karpmillerCoversSpec : ChangeSpec := { name := "karpmillerCovers", fn := fun _ => fun
  | [d1, d2] => { results := [.lit (.bool true)], args := [d1, d2] }
  | _ => none }
def karpmillerCoversRow : OpenClaim := { program := "yteknagfpiadaiaa", sum := "ca3a63ee51018d0414251914d59df6e6f96bf19ec11a0904fef39888f898ece5", func := "petrinet/petrinetlaw22.KarpmillerCovers", spec := "karpmillerCovers", unfollowed := true, recurses := true, apart := false }
def KarpmillerCoversSaid : Prop := karpmillerCoversRow.holds Try.pinned (OpenSpec.ofChange karpmillerCoversSpec)

/-- ITS FALSE NEIGHBOUR: 'it returns false'. Refute it at one input. -/
def karpmillerCoversWrong : ChangeSpec := { name := "karpmillerCovers", fn := fun _ => fun
  | [d1, d2] => { results := [.lit (.bool false)], args := [d1, d2] }
  | _ => none }
def KarpmillerCoversWrongFalsely : Prop := karpmillerCoversRow.holds Try.pinned (OpenSpec.ofChange karpmillerCoversWrong)

/-- 'petrinetlaw22.KarpmillerFinite': WHATEVER THE INPUT: true; the input reads as it did. -/
def karpmillerFiniteSpec : ChangeSpec := { name := "karpmillerFinite", fn := fun _ => fun
  | [d] => { results := [.lit (.bool true)], args := [d] }
  | _ => none }
def karpmillerFiniteRow : OpenClaim := { program := "yteknagfpiadaiaa", sum := "ca3a63ee51018d0414251914d59df6e6f96bf19ec11a0904fef39888f898ece5", func := "petrinet/petrinetlaw22.KarpmillerFinite", spec := "karpmillerFinite", unfollowed := true, recurses := true, apart := false }
def KarpmillerFiniteSaid : Prop := karpmillerFiniteRow.holds Try.pinned (OpenSpec.ofChange karpmillerFiniteSpec)

/-- ITS FALSE NEIGHBOUR: 'it returns false'. Refute it at one input. -/
def karpmillerFiniteWrong : ChangeSpec := { name := "karpmillerFinite", fn := fun _ => fun
  | [d] => { results := [.lit (.bool false)], args := [d] }
  | _ => none }
def KarpmillerFiniteWrongFalsely : Prop := karpmillerFiniteRow.holds Try.pinned (OpenSpec.ofChange karpmillerFiniteWrong)

/-- 'petrinetlaw22.KarpmillerReads': WHATEVER THE INPUT: true; the input reads as it did. -/
def karpmillerReadsSpec : ChangeSpec := { name := "karpmillerReads", fn := fun _ => fun
  | [d1, d2] => { results := [.lit (.bool true)], args := [d1, d2] }
  | _ => none }
def karpmillerReadsRow : OpenClaim := { program := "yteknagfpiadaiaa", sum := "ca3a63ee51018d0414251914d59df6e6f96bf19ec11a0904fef39888f898ece5", func := "petrinet/petrinetlaw22.KarpmillerReads", spec := "karpmillerReads", unfollowed := true, recurses := true, apart := false }
def KarpmillerReadsSaid : Prop := karpmillerReadsRow.holds Try.pinned (OpenSpec.ofChange karpmillerReadsSpec)

/-- ITS FALSE NEIGHBOUR: 'it returns false'. Refute it at one input. -/
def karpmillerReadsWrong : ChangeSpec := { name := "karpmillerReads", fn := fun _ => fun
  | [d1, d2] => { results := [.lit (.bool false)], args := [d1, d2] }
  | _ => none }
def KarpmillerReadsWrongFalsely : Prop := karpmillerReadsRow.holds Try.pinned (OpenSpec.ofChange karpmillerReadsWrong)

/-- 'petrinetlaw22.KarpmillerPaths': WHATEVER THE INPUT: true; the input reads as it did. -/
def karpmillerPathsSpec : ChangeSpec := { name := "karpmillerPaths", fn := fun _ => fun
  | [d] => { results := [.lit (.bool true)], args := [d] }
  | _ => none }
def karpmillerPathsRow : OpenClaim := { program := "yteknagfpiadaiaa", sum := "ca3a63ee51018d0414251914d59df6e6f96bf19ec11a0904fef39888f898ece5", func := "petrinet/petrinetlaw22.KarpmillerPaths", spec := "karpmillerPaths", unfollowed := true, recurses := true, apart := false }
def KarpmillerPathsSaid : Prop := karpmillerPathsRow.holds Try.pinned (OpenSpec.ofChange karpmillerPathsSpec)

/-- ITS FALSE NEIGHBOUR: 'it returns false'. Refute it at one input. -/
def karpmillerPathsWrong : ChangeSpec := { name := "karpmillerPaths", fn := fun _ => fun
  | [d] => { results := [.lit (.bool false)], args := [d] }
  | _ => none }
def KarpmillerPathsWrongFalsely : Prop := karpmillerPathsRow.holds Try.pinned (OpenSpec.ofChange karpmillerPathsWrong)

/- THE SECOND FORM. 'bulk': how many values and letters a reading holds, each counted each time it is reached (what is shared counts as often as it is met; a slice's spare places count too). A statement '..UptoSaid' is the law's where the arguments, and the package variables that the reading takes, are together of bulk at most 1048576: NARROWER than '..Said'. Prove '..Said' where nothing that the law and all that it calls make is longer than what came in: it says more and counts as full. Else prove '..UptoSaid'. A law counts once. -/
mutual
def uptoBulk {H : Type} : DataW H → Nat
  | .lit (.string bytes) => bytes.length + 1
  | .lit _ => 1
  | .nil => 1
  | .ptr d => uptoBulk d + 1
  | .slice elems spare => uptoBulkAll elems + uptoBulkAll spare + 1
  | .agg parts => uptoBulkAll parts + 1
  | .iface _ d => uptoBulk d + 1
  | .map entries => uptoBulkEntries entries + 1
  | .held _ => 1
def uptoBulkAll {H : Type} : List (DataW H) → Nat
  | [] => 0
  | d :: r => uptoBulk d + uptoBulkAll r
def uptoBulkEntries {H : Type} : List (Lit × DataW H) → Nat
  | [] => 0
  | x :: r => uptoBulkEntry x + uptoBulkEntries r
def uptoBulkEntry {H : Type} : Lit × DataW H → Nat
  | (.string bytes, d) => bytes.length + uptoBulk d + 1
  | (_, d) => uptoBulk d + 1
 end
def uptoSmall : (H : Type) → List (DataW H) → Bool := fun _ ds => decide (uptoBulkAll ds ≤ 1048576)
def OpenSpec.upto (s : _root_.Go.ChangeSpec) : _root_.Go.OpenSpec := { _root_.Go.OpenSpec.ofChange s with cond := some uptoSmall }

/-- 'petrinetlaw22.KarpmillerFires', WHERE WHAT IT READS IS OF BULK AT MOST 1048576: true; the input reads as it did. -/
def karpmillerFiresUptoRow : OpenClaim := { program := "yteknagfpiadaiaa", sum := "ca3a63ee51018d0414251914d59df6e6f96bf19ec11a0904fef39888f898ece5", func := "petrinet/petrinetlaw22.KarpmillerFires", spec := "karpmillerFires", unfollowed := true, recurses := true, apart := false, narrowed := true }
def KarpmillerFiresUptoSaid : Prop := karpmillerFiresUptoRow.holds Try.pinned (OpenSpec.upto karpmillerFiresSpec)

/-- 'petrinetlaw22.KarpmillerTrees', WHERE WHAT IT READS IS OF BULK AT MOST 1048576: true; the input reads as it did. -/
def karpmillerTreesUptoRow : OpenClaim := { program := "yteknagfpiadaiaa", sum := "ca3a63ee51018d0414251914d59df6e6f96bf19ec11a0904fef39888f898ece5", func := "petrinet/petrinetlaw22.KarpmillerTrees", spec := "karpmillerTrees", unfollowed := true, recurses := true, apart := false, narrowed := true }
def KarpmillerTreesUptoSaid : Prop := karpmillerTreesUptoRow.holds Try.pinned (OpenSpec.upto karpmillerTreesSpec)

/-- 'petrinetlaw22.KarpmillerValid', WHERE WHAT IT READS IS OF BULK AT MOST 1048576: true; the input reads as it did. -/
def karpmillerValidUptoRow : OpenClaim := { program := "yteknagfpiadaiaa", sum := "ca3a63ee51018d0414251914d59df6e6f96bf19ec11a0904fef39888f898ece5", func := "petrinet/petrinetlaw22.KarpmillerValid", spec := "karpmillerValid", unfollowed := true, recurses := true, apart := false, narrowed := true }
def KarpmillerValidUptoSaid : Prop := karpmillerValidUptoRow.holds Try.pinned (OpenSpec.upto karpmillerValidSpec)

/-- 'petrinetlaw22.KarpmillerCovers', WHERE WHAT IT READS IS OF BULK AT MOST 1048576: true; the input reads as it did. -/
def karpmillerCoversUptoRow : OpenClaim := { program := "yteknagfpiadaiaa", sum := "ca3a63ee51018d0414251914d59df6e6f96bf19ec11a0904fef39888f898ece5", func := "petrinet/petrinetlaw22.KarpmillerCovers", spec := "karpmillerCovers", unfollowed := true, recurses := true, apart := false, narrowed := true }
def KarpmillerCoversUptoSaid : Prop := karpmillerCoversUptoRow.holds Try.pinned (OpenSpec.upto karpmillerCoversSpec)

/-- 'petrinetlaw22.KarpmillerFinite', WHERE WHAT IT READS IS OF BULK AT MOST 1048576: true; the input reads as it did. -/
def karpmillerFiniteUptoRow : OpenClaim := { program := "yteknagfpiadaiaa", sum := "ca3a63ee51018d0414251914d59df6e6f96bf19ec11a0904fef39888f898ece5", func := "petrinet/petrinetlaw22.KarpmillerFinite", spec := "karpmillerFinite", unfollowed := true, recurses := true, apart := false, narrowed := true }
def KarpmillerFiniteUptoSaid : Prop := karpmillerFiniteUptoRow.holds Try.pinned (OpenSpec.upto karpmillerFiniteSpec)

/-- 'petrinetlaw22.KarpmillerReads', WHERE WHAT IT READS IS OF BULK AT MOST 1048576: true; the input reads as it did. -/
def karpmillerReadsUptoRow : OpenClaim := { program := "yteknagfpiadaiaa", sum := "ca3a63ee51018d0414251914d59df6e6f96bf19ec11a0904fef39888f898ece5", func := "petrinet/petrinetlaw22.KarpmillerReads", spec := "karpmillerReads", unfollowed := true, recurses := true, apart := false, narrowed := true }
def KarpmillerReadsUptoSaid : Prop := karpmillerReadsUptoRow.holds Try.pinned (OpenSpec.upto karpmillerReadsSpec)

/-- 'petrinetlaw22.KarpmillerPaths', WHERE WHAT IT READS IS OF BULK AT MOST 1048576: true; the input reads as it did. -/
def karpmillerPathsUptoRow : OpenClaim := { program := "yteknagfpiadaiaa", sum := "ca3a63ee51018d0414251914d59df6e6f96bf19ec11a0904fef39888f898ece5", func := "petrinet/petrinetlaw22.KarpmillerPaths", spec := "karpmillerPaths", unfollowed := true, recurses := true, apart := false, narrowed := true }
def KarpmillerPathsUptoSaid : Prop := karpmillerPathsUptoRow.holds Try.pinned (OpenSpec.upto karpmillerPathsSpec)

end Rows
end Go.Proofs.Yteknagfpiadaiaa
