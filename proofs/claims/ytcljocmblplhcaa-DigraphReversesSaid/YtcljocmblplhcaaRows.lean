/-
  No cell of these rows narrows 'for every input' (looked for: loops, veiled, ifaces, maps, wideKeys, modest, calm, conditions, laid).
  DERIVED. THE GIVEN ROWS OF THIS SEAT. 7 by the template 'for every input the law returns true; each argument reads behind the call as it read before'; 0 by the template 'total and deterministic' (their statements: YtcljocmblplhcaaTotals.lean).
  GIVEN WITH THE SEED: the statements are not yours to turn. If you find one false, say at which input.
  Laid BY PROGRAM, IN A SANDBOX (cutbox-rows.mjs): the forced cells as the released guide's own fill.sh prints them over the translation 949882f1585e9904… (all of the seat's roots in one cut). By AI agents, Wed Nov 11 2026. No macro, syntax, notation, axiom, sorry.
-/
import Derived.Test.YtcljocmblplhcaaChecked
import GoSem.Claim
import GoSem.ClaimJoined
import GoSem.ClaimMapViews
import Derived.JoinedTies
import Derived.KernelRfl
namespace Go.Proofs.Ytcljocmblplhcaa
/- THE CELL 'sum', in the pinned program and in every row, IS THE sha256 OF THE DUMP (.gsa) THAT YtcljocmblplhcaaProg.lean LOADS. Nothing in Lean hashes anything: it is a label: what it is worth is what the hold of that sum in a sandbox is worth. -/
noncomputable def Try.pinned : Pinned := { name := "ytcljocmblplhcaa", sum := "949882f1585e9904b7938f77b2a4c954a71a43e49bcdc89d35b891b94a584b86", checked := Try.checked }
namespace Rows
def none {H : Type} : Left H := { results := [], args := [] }

/-- 'petrinetlaw07.DigraphComponents': WHATEVER THE INPUT: true; the input reads as it did. -/
def digraphComponentsSpec : ChangeSpec := { name := "digraphComponents", fn := fun _ => fun
  | [d] => { results := [.lit (.bool true)], args := [d] }
  | _ => none }
def digraphComponentsRow : OpenClaim := { program := "ytcljocmblplhcaa", sum := "949882f1585e9904b7938f77b2a4c954a71a43e49bcdc89d35b891b94a584b86", func := "petrinet/petrinetlaw07.DigraphComponents", spec := "digraphComponents", unfollowed := true, recurses := true, apart := false }
def DigraphComponentsSaid : Prop := digraphComponentsRow.holds Try.pinned (OpenSpec.ofChange digraphComponentsSpec)

/-- ITS FALSE NEIGHBOUR: 'it returns false'. Refute it at one input. -/
def digraphComponentsWrong : ChangeSpec := { name := "digraphComponents", fn := fun _ => fun
  | [d] => { results := [.lit (.bool false)], args := [d] }
  | _ => none }
def DigraphComponentsWrongFalsely : Prop := digraphComponentsRow.holds Try.pinned (OpenSpec.ofChange digraphComponentsWrong)

/-- 'petrinetlaw07.DigraphPaths': WHATEVER THE INPUT: true; the input reads as it did. -/
def digraphPathsSpec : ChangeSpec := { name := "digraphPaths", fn := fun _ => fun
  | [d1, d2, d3] => { results := [.lit (.bool true)], args := [d1, d2, d3] }
  | _ => none }
def digraphPathsRow : OpenClaim := { program := "ytcljocmblplhcaa", sum := "949882f1585e9904b7938f77b2a4c954a71a43e49bcdc89d35b891b94a584b86", func := "petrinet/petrinetlaw07.DigraphPaths", spec := "digraphPaths", unfollowed := true, recurses := true, apart := false }
def DigraphPathsSaid : Prop := digraphPathsRow.holds Try.pinned (OpenSpec.ofChange digraphPathsSpec)

/-- ITS FALSE NEIGHBOUR: 'it returns false'. Refute it at one input. -/
def digraphPathsWrong : ChangeSpec := { name := "digraphPaths", fn := fun _ => fun
  | [d1, d2, d3] => { results := [.lit (.bool false)], args := [d1, d2, d3] }
  | _ => none }
def DigraphPathsWrongFalsely : Prop := digraphPathsRow.holds Try.pinned (OpenSpec.ofChange digraphPathsWrong)

/-- 'petrinetlaw07.DigraphLists': WHATEVER THE INPUT: true; the input reads as it did. -/
def digraphListsSpec : ChangeSpec := { name := "digraphLists", fn := fun _ => fun
  | [d] => { results := [.lit (.bool true)], args := [d] }
  | _ => none }
def digraphListsRow : OpenClaim := { program := "ytcljocmblplhcaa", sum := "949882f1585e9904b7938f77b2a4c954a71a43e49bcdc89d35b891b94a584b86", func := "petrinet/petrinetlaw07.DigraphLists", spec := "digraphLists", unfollowed := true, recurses := true, apart := false }
def DigraphListsSaid : Prop := digraphListsRow.holds Try.pinned (OpenSpec.ofChange digraphListsSpec)

/-- ITS FALSE NEIGHBOUR: 'it returns false'. Refute it at one input. -/
def digraphListsWrong : ChangeSpec := { name := "digraphLists", fn := fun _ => fun
  | [d] => { results := [.lit (.bool false)], args := [d] }
  | _ => none }
def DigraphListsWrongFalsely : Prop := digraphListsRow.holds Try.pinned (OpenSpec.ofChange digraphListsWrong)

/-- 'petrinetlaw07.DigraphMutual': WHATEVER THE INPUT: true; the input reads as it did. -/
def digraphMutualSpec : ChangeSpec := { name := "digraphMutual", fn := fun _ => fun
  | [d] => { results := [.lit (.bool true)], args := [d] }
  | _ => none }
def digraphMutualRow : OpenClaim := { program := "ytcljocmblplhcaa", sum := "949882f1585e9904b7938f77b2a4c954a71a43e49bcdc89d35b891b94a584b86", func := "petrinet/petrinetlaw07.DigraphMutual", spec := "digraphMutual", unfollowed := true, recurses := true, apart := false }
def DigraphMutualSaid : Prop := digraphMutualRow.holds Try.pinned (OpenSpec.ofChange digraphMutualSpec)

/-- ITS FALSE NEIGHBOUR: 'it returns false'. Refute it at one input. -/
def digraphMutualWrong : ChangeSpec := { name := "digraphMutual", fn := fun _ => fun
  | [d] => { results := [.lit (.bool false)], args := [d] }
  | _ => none }
def DigraphMutualWrongFalsely : Prop := digraphMutualRow.holds Try.pinned (OpenSpec.ofChange digraphMutualWrong)

/-- 'petrinetlaw07.DigraphTopo': WHATEVER THE INPUT: true; the input reads as it did. -/
def digraphTopoSpec : ChangeSpec := { name := "digraphTopo", fn := fun _ => fun
  | [d] => { results := [.lit (.bool true)], args := [d] }
  | _ => none }
def digraphTopoRow : OpenClaim := { program := "ytcljocmblplhcaa", sum := "949882f1585e9904b7938f77b2a4c954a71a43e49bcdc89d35b891b94a584b86", func := "petrinet/petrinetlaw07.DigraphTopo", spec := "digraphTopo", unfollowed := true, recurses := true, apart := false }
def DigraphTopoSaid : Prop := digraphTopoRow.holds Try.pinned (OpenSpec.ofChange digraphTopoSpec)

/-- ITS FALSE NEIGHBOUR: 'it returns false'. Refute it at one input. -/
def digraphTopoWrong : ChangeSpec := { name := "digraphTopo", fn := fun _ => fun
  | [d] => { results := [.lit (.bool false)], args := [d] }
  | _ => none }
def DigraphTopoWrongFalsely : Prop := digraphTopoRow.holds Try.pinned (OpenSpec.ofChange digraphTopoWrong)

/-- 'petrinetlaw07.DigraphReaches': WHATEVER THE INPUT: true; the input reads as it did. -/
def digraphReachesSpec : ChangeSpec := { name := "digraphReaches", fn := fun _ => fun
  | [d1, d2, d3] => { results := [.lit (.bool true)], args := [d1, d2, d3] }
  | _ => none }
def digraphReachesRow : OpenClaim := { program := "ytcljocmblplhcaa", sum := "949882f1585e9904b7938f77b2a4c954a71a43e49bcdc89d35b891b94a584b86", func := "petrinet/petrinetlaw07.DigraphReaches", spec := "digraphReaches", unfollowed := true, recurses := true, apart := false }
def DigraphReachesSaid : Prop := digraphReachesRow.holds Try.pinned (OpenSpec.ofChange digraphReachesSpec)

/-- ITS FALSE NEIGHBOUR: 'it returns false'. Refute it at one input. -/
def digraphReachesWrong : ChangeSpec := { name := "digraphReaches", fn := fun _ => fun
  | [d1, d2, d3] => { results := [.lit (.bool false)], args := [d1, d2, d3] }
  | _ => none }
def DigraphReachesWrongFalsely : Prop := digraphReachesRow.holds Try.pinned (OpenSpec.ofChange digraphReachesWrong)

/-- 'petrinetlaw07.DigraphReverses': WHATEVER THE INPUT: true; the input reads as it did. -/
def digraphReversesSpec : ChangeSpec := { name := "digraphReverses", fn := fun _ => fun
  | [d] => { results := [.lit (.bool true)], args := [d] }
  | _ => none }
def digraphReversesRow : OpenClaim := { program := "ytcljocmblplhcaa", sum := "949882f1585e9904b7938f77b2a4c954a71a43e49bcdc89d35b891b94a584b86", func := "petrinet/petrinetlaw07.DigraphReverses", spec := "digraphReverses", unfollowed := true, recurses := true, apart := false }
def DigraphReversesSaid : Prop := digraphReversesRow.holds Try.pinned (OpenSpec.ofChange digraphReversesSpec)

/-- ITS FALSE NEIGHBOUR: 'it returns false'. Refute it at one input. -/
def digraphReversesWrong : ChangeSpec := { name := "digraphReverses", fn := fun _ => fun
  | [d] => { results := [.lit (.bool false)], args := [d] }
  | _ => none }
def DigraphReversesWrongFalsely : Prop := digraphReversesRow.holds Try.pinned (OpenSpec.ofChange digraphReversesWrong)

/- THE SECOND FORM. 'bulk': how many values and letters a reading holds, each counted each time it is reached (what is shared counts as often as it is met; a slice's spare places count too). A statement '..UptoSaid' is the law's where the arguments, and the package variables that the reading takes, are together of bulk at most 1048576: NARROWER than '..Said'. Prove '..Said' where nothing that the law and all that it calls make is longer than what came in: it says more and counts as full. Else prove '..UptoSaid'. A law counts once. -/
mutual
def uptoBulk {H : Type} : DataW H → Nat
  | .lit (.string bytes) => bytes.length + 1
  | .lit _ => 1
  | .nil => 1
  | .ptr d => uptoBulk d + 1
  | .slice elems spare => uptoBulkAll elems + uptoBulkAll spare + 1
  | .agg parts => uptoBulkAll parts + 1
  | .iface _ d => uptoBulk d + 1
  | .map entries => uptoBulkEntries entries + 1
  | .held _ => 1
def uptoBulkAll {H : Type} : List (DataW H) → Nat
  | [] => 0
  | d :: r => uptoBulk d + uptoBulkAll r
def uptoBulkEntries {H : Type} : List (Lit × DataW H) → Nat
  | [] => 0
  | x :: r => uptoBulkEntry x + uptoBulkEntries r
def uptoBulkEntry {H : Type} : Lit × DataW H → Nat
  | (.string bytes, d) => bytes.length + uptoBulk d + 1
  | (_, d) => uptoBulk d + 1
 end
def uptoSmall : (H : Type) → List (DataW H) → Bool := fun _ ds => decide (uptoBulkAll ds ≤ 1048576)
def OpenSpec.upto (s : _root_.Go.ChangeSpec) : _root_.Go.OpenSpec := { _root_.Go.OpenSpec.ofChange s with cond := some uptoSmall }

/-- 'petrinetlaw07.DigraphComponents', WHERE WHAT IT READS IS OF BULK AT MOST 1048576: true; the input reads as it did. -/
def digraphComponentsUptoRow : OpenClaim := { program := "ytcljocmblplhcaa", sum := "949882f1585e9904b7938f77b2a4c954a71a43e49bcdc89d35b891b94a584b86", func := "petrinet/petrinetlaw07.DigraphComponents", spec := "digraphComponents", unfollowed := true, recurses := true, apart := false, narrowed := true }
def DigraphComponentsUptoSaid : Prop := digraphComponentsUptoRow.holds Try.pinned (OpenSpec.upto digraphComponentsSpec)

/-- 'petrinetlaw07.DigraphPaths', WHERE WHAT IT READS IS OF BULK AT MOST 1048576: true; the input reads as it did. -/
def digraphPathsUptoRow : OpenClaim := { program := "ytcljocmblplhcaa", sum := "949882f1585e9904b7938f77b2a4c954a71a43e49bcdc89d35b891b94a584b86", func := "petrinet/petrinetlaw07.DigraphPaths", spec := "digraphPaths", unfollowed := true, recurses := true, apart := false, narrowed := true }
def DigraphPathsUptoSaid : Prop := digraphPathsUptoRow.holds Try.pinned (OpenSpec.upto digraphPathsSpec)

/-- 'petrinetlaw07.DigraphLists', WHERE WHAT IT READS IS OF BULK AT MOST 1048576: true; the input reads as it did. -/
def digraphListsUptoRow : OpenClaim := { program := "ytcljocmblplhcaa", sum := "949882f1585e9904b7938f77b2a4c954a71a43e49bcdc89d35b891b94a584b86", func := "petrinet/petrinetlaw07.DigraphLists", spec := "digraphLists", unfollowed := true, recurses := true, apart := false, narrowed := true }
def DigraphListsUptoSaid : Prop := digraphListsUptoRow.holds Try.pinned (OpenSpec.upto digraphListsSpec)

/-- 'petrinetlaw07.DigraphMutual', WHERE WHAT IT READS IS OF BULK AT MOST 1048576: true; the input reads as it did. -/
def digraphMutualUptoRow : OpenClaim := { program := "ytcljocmblplhcaa", sum := "949882f1585e9904b7938f77b2a4c954a71a43e49bcdc89d35b891b94a584b86", func := "petrinet/petrinetlaw07.DigraphMutual", spec := "digraphMutual", unfollowed := true, recurses := true, apart := false, narrowed := true }
def DigraphMutualUptoSaid : Prop := digraphMutualUptoRow.holds Try.pinned (OpenSpec.upto digraphMutualSpec)

/-- 'petrinetlaw07.DigraphTopo', WHERE WHAT IT READS IS OF BULK AT MOST 1048576: true; the input reads as it did. -/
def digraphTopoUptoRow : OpenClaim := { program := "ytcljocmblplhcaa", sum := "949882f1585e9904b7938f77b2a4c954a71a43e49bcdc89d35b891b94a584b86", func := "petrinet/petrinetlaw07.DigraphTopo", spec := "digraphTopo", unfollowed := true, recurses := true, apart := false, narrowed := true }
def DigraphTopoUptoSaid : Prop := digraphTopoUptoRow.holds Try.pinned (OpenSpec.upto digraphTopoSpec)

/-- 'petrinetlaw07.DigraphReaches', WHERE WHAT IT READS IS OF BULK AT MOST 1048576: true; the input reads as it did. -/
def digraphReachesUptoRow : OpenClaim := { program := "ytcljocmblplhcaa", sum := "949882f1585e9904b7938f77b2a4c954a71a43e49bcdc89d35b891b94a584b86", func := "petrinet/petrinetlaw07.DigraphReaches", spec := "digraphReaches", unfollowed := true, recurses := true, apart := false, narrowed := true }
def DigraphReachesUptoSaid : Prop := digraphReachesUptoRow.holds Try.pinned (OpenSpec.upto digraphReachesSpec)

/-- 'petrinetlaw07.DigraphReverses', WHERE WHAT IT READS IS OF BULK AT MOST 1048576: true; the input reads as it did. -/
def digraphReversesUptoRow : OpenClaim := { program := "ytcljocmblplhcaa", sum := "949882f1585e9904b7938f77b2a4c954a71a43e49bcdc89d35b891b94a584b86", func := "petrinet/petrinetlaw07.DigraphReverses", spec := "digraphReverses", unfollowed := true, recurses := true, apart := false, narrowed := true }
def DigraphReversesUptoSaid : Prop := digraphReversesUptoRow.holds Try.pinned (OpenSpec.upto digraphReversesSpec)

end Rows
end Go.Proofs.Ytcljocmblplhcaa
