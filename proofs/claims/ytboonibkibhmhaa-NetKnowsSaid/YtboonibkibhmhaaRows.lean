/-
  No cell of these rows narrows 'for every input' (looked for: loops, veiled, ifaces, maps, wideKeys, modest, calm, conditions, laid).
  DERIVED. THE GIVEN ROWS OF THIS SEAT. 8 by the template 'for every input the law returns true; each argument reads behind the call as it read before'; 0 by the template 'total and deterministic' (their statements: YtboonibkibhmhaaTotals.lean).
  GIVEN WITH THE SEED: the statements are not yours to turn. If you find one false, say at which input.
  Laid BY PROGRAM, IN A SANDBOX (cutbox-rows.mjs): the forced cells as the released guide's own fill.sh prints them over the translation 012702859da5e90c… (all of the seat's roots in one cut). By AI agents, Wed Nov 11 2026. No macro, syntax, notation, axiom, sorry.
-/
import Derived.Test.YtboonibkibhmhaaChecked
import GoSem.Claim
import GoSem.ClaimJoined
import GoSem.ClaimMapViews
import Derived.JoinedTies
import Derived.KernelRfl
namespace Go.Proofs.Ytboonibkibhmhaa
/- THE CELL 'sum', in the pinned program and in every row, IS THE sha256 OF THE DUMP (.gsa) THAT YtboonibkibhmhaaProg.lean LOADS. Nothing in Lean hashes anything: it is a label: what it is worth is what the hold of that sum in a sandbox is worth. -/
noncomputable def Try.pinned : Pinned := { name := "ytboonibkibhmhaa", sum := "012702859da5e90c892f580bf1de419def458880de32c8ecce3ed88c992dced7", checked := Try.checked }
namespace Rows
def none {H : Type} : Left H := { results := [], args := [] }

/-- 'petrinetlaw09.NetChecks': WHATEVER THE INPUT: true; the input reads as it did. -/
def netChecksSpec : ChangeSpec := { name := "netChecks", fn := fun _ => fun
  | [d] => { results := [.lit (.bool true)], args := [d] }
  | _ => none }
def netChecksRow : OpenClaim := { program := "ytboonibkibhmhaa", sum := "012702859da5e90c892f580bf1de419def458880de32c8ecce3ed88c992dced7", func := "petrinet/petrinetlaw09.NetChecks", spec := "netChecks", unfollowed := true, recurses := true, apart := false }
def NetChecksSaid : Prop := netChecksRow.holds Try.pinned (OpenSpec.ofChange netChecksSpec)

/-- ITS FALSE NEIGHBOUR: 'it returns false'. Refute it at one input. -/
def netChecksWrong : ChangeSpec := { name := "netChecks", fn := fun _ => fun
  | [d] => { results := [.lit (.bool false)], args := [d] }
  | _ => none }
def NetChecksWrongFalsely : Prop := netChecksRow.holds Try.pinned (OpenSpec.ofChange netChecksWrong)

/-- 'petrinetlaw09.NetFinds': WHATEVER THE INPUT: true; the input reads as it did. -/
def netFindsSpec : ChangeSpec := { name := "netFinds", fn := fun _ => fun
  | [d1, d2, d3] => { results := [.lit (.bool true)], args := [d1, d2, d3] }
  | _ => none }
def netFindsRow : OpenClaim := { program := "ytboonibkibhmhaa", sum := "012702859da5e90c892f580bf1de419def458880de32c8ecce3ed88c992dced7", func := "petrinet/petrinetlaw09.NetFinds", spec := "netFinds", unfollowed := true, recurses := true, apart := false }
def NetFindsSaid : Prop := netFindsRow.holds Try.pinned (OpenSpec.ofChange netFindsSpec)

/-- ITS FALSE NEIGHBOUR: 'it returns false'. Refute it at one input. -/
def netFindsWrong : ChangeSpec := { name := "netFinds", fn := fun _ => fun
  | [d1, d2, d3] => { results := [.lit (.bool false)], args := [d1, d2, d3] }
  | _ => none }
def NetFindsWrongFalsely : Prop := netFindsRow.holds Try.pinned (OpenSpec.ofChange netFindsWrong)

/-- 'petrinetlaw09.NetNeighbors': WHATEVER THE INPUT: true; the input reads as it did. -/
def netNeighborsSpec : ChangeSpec := { name := "netNeighbors", fn := fun _ => fun
  | [d1, d2] => { results := [.lit (.bool true)], args := [d1, d2] }
  | _ => none }
def netNeighborsRow : OpenClaim := { program := "ytboonibkibhmhaa", sum := "012702859da5e90c892f580bf1de419def458880de32c8ecce3ed88c992dced7", func := "petrinet/petrinetlaw09.NetNeighbors", spec := "netNeighbors", unfollowed := true, recurses := true, apart := false }
def NetNeighborsSaid : Prop := netNeighborsRow.holds Try.pinned (OpenSpec.ofChange netNeighborsSpec)

/-- ITS FALSE NEIGHBOUR: 'it returns false'. Refute it at one input. -/
def netNeighborsWrong : ChangeSpec := { name := "netNeighbors", fn := fun _ => fun
  | [d1, d2] => { results := [.lit (.bool false)], args := [d1, d2] }
  | _ => none }
def NetNeighborsWrongFalsely : Prop := netNeighborsRow.holds Try.pinned (OpenSpec.ofChange netNeighborsWrong)

/-- 'petrinetlaw09.NetNames': WHATEVER THE INPUT: true; the input reads as it did. -/
def netNamesSpec : ChangeSpec := { name := "netNames", fn := fun _ => fun
  | [d] => { results := [.lit (.bool true)], args := [d] }
  | _ => none }
def netNamesRow : OpenClaim := { program := "ytboonibkibhmhaa", sum := "012702859da5e90c892f580bf1de419def458880de32c8ecce3ed88c992dced7", func := "petrinet/petrinetlaw09.NetNames", spec := "netNames", unfollowed := true, recurses := true, apart := false }
def NetNamesSaid : Prop := netNamesRow.holds Try.pinned (OpenSpec.ofChange netNamesSpec)

/-- ITS FALSE NEIGHBOUR: 'it returns false'. Refute it at one input. -/
def netNamesWrong : ChangeSpec := { name := "netNames", fn := fun _ => fun
  | [d] => { results := [.lit (.bool false)], args := [d] }
  | _ => none }
def NetNamesWrongFalsely : Prop := netNamesRow.holds Try.pinned (OpenSpec.ofChange netNamesWrong)

/-- 'petrinetlaw09.NetSames': WHATEVER THE INPUT: true; the input reads as it did. -/
def netSamesSpec : ChangeSpec := { name := "netSames", fn := fun _ => fun
  | [d1, d2] => { results := [.lit (.bool true)], args := [d1, d2] }
  | _ => none }
def netSamesRow : OpenClaim := { program := "ytboonibkibhmhaa", sum := "012702859da5e90c892f580bf1de419def458880de32c8ecce3ed88c992dced7", func := "petrinet/petrinetlaw09.NetSames", spec := "netSames", unfollowed := true, recurses := true, apart := false }
def NetSamesSaid : Prop := netSamesRow.holds Try.pinned (OpenSpec.ofChange netSamesSpec)

/-- ITS FALSE NEIGHBOUR: 'it returns false'. Refute it at one input. -/
def netSamesWrong : ChangeSpec := { name := "netSames", fn := fun _ => fun
  | [d1, d2] => { results := [.lit (.bool false)], args := [d1, d2] }
  | _ => none }
def NetSamesWrongFalsely : Prop := netSamesRow.holds Try.pinned (OpenSpec.ofChange netSamesWrong)

/-- 'petrinetlaw09.NetOpposites': WHATEVER THE INPUT: true; the input reads as it did. -/
def netOppositesSpec : ChangeSpec := { name := "netOpposites", fn := fun _ => fun
  | [d] => { results := [.lit (.bool true)], args := [d] }
  | _ => none }
def netOppositesRow : OpenClaim := { program := "ytboonibkibhmhaa", sum := "012702859da5e90c892f580bf1de419def458880de32c8ecce3ed88c992dced7", func := "petrinet/petrinetlaw09.NetOpposites", spec := "netOpposites", unfollowed := true, recurses := true, apart := false }
def NetOppositesSaid : Prop := netOppositesRow.holds Try.pinned (OpenSpec.ofChange netOppositesSpec)

/-- ITS FALSE NEIGHBOUR: 'it returns false'. Refute it at one input. -/
def netOppositesWrong : ChangeSpec := { name := "netOpposites", fn := fun _ => fun
  | [d] => { results := [.lit (.bool false)], args := [d] }
  | _ => none }
def NetOppositesWrongFalsely : Prop := netOppositesRow.holds Try.pinned (OpenSpec.ofChange netOppositesWrong)

/-- 'petrinetlaw09.NetSpoils': WHATEVER THE INPUT: true; the input reads as it did. -/
def netSpoilsSpec : ChangeSpec := { name := "netSpoils", fn := fun _ => fun
  | [d] => { results := [.lit (.bool true)], args := [d] }
  | _ => none }
def netSpoilsRow : OpenClaim := { program := "ytboonibkibhmhaa", sum := "012702859da5e90c892f580bf1de419def458880de32c8ecce3ed88c992dced7", func := "petrinet/petrinetlaw09.NetSpoils", spec := "netSpoils", unfollowed := true, recurses := true, apart := false }
def NetSpoilsSaid : Prop := netSpoilsRow.holds Try.pinned (OpenSpec.ofChange netSpoilsSpec)

/-- ITS FALSE NEIGHBOUR: 'it returns false'. Refute it at one input. -/
def netSpoilsWrong : ChangeSpec := { name := "netSpoils", fn := fun _ => fun
  | [d] => { results := [.lit (.bool false)], args := [d] }
  | _ => none }
def NetSpoilsWrongFalsely : Prop := netSpoilsRow.holds Try.pinned (OpenSpec.ofChange netSpoilsWrong)

/-- 'petrinetlaw09.NetKnows': WHATEVER THE INPUT: true; the input reads as it did. -/
def netKnowsSpec : ChangeSpec := { name := "netKnows", fn := fun _ => fun
  | [d] => { results := [.lit (.bool true)], args := [d] }
  | _ => none }
def netKnowsRow : OpenClaim := { program := "ytboonibkibhmhaa", sum := "012702859da5e90c892f580bf1de419def458880de32c8ecce3ed88c992dced7", func := "petrinet/petrinetlaw09.NetKnows", spec := "netKnows", unfollowed := true, recurses := true, apart := false }
def NetKnowsSaid : Prop := netKnowsRow.holds Try.pinned (OpenSpec.ofChange netKnowsSpec)

/-- ITS FALSE NEIGHBOUR: 'it returns false'. Refute it at one input. -/
def netKnowsWrong : ChangeSpec := { name := "netKnows", fn := fun _ => fun
  | [d] => { results := [.lit (.bool false)], args := [d] }
  | _ => none }
def NetKnowsWrongFalsely : Prop := netKnowsRow.holds Try.pinned (OpenSpec.ofChange netKnowsWrong)

/- THE SECOND FORM. 'bulk': how many values and letters a reading holds, each counted each time it is reached (what is shared counts as often as it is met; a slice's spare places count too). A statement '..UptoSaid' is the law's where the arguments, and the package variables that the reading takes, are together of bulk at most 1048576: NARROWER than '..Said'. Prove '..Said' where nothing that the law and all that it calls make is longer than what came in: it says more and counts as full. Else prove '..UptoSaid'. A law counts once. -/
mutual
def uptoBulk {H : Type} : DataW H → Nat
  | .lit (.string bytes) => bytes.length + 1
  | .lit _ => 1
  | .nil => 1
  | .ptr d => uptoBulk d + 1
  | .slice elems spare => uptoBulkAll elems + uptoBulkAll spare + 1
  | .agg parts => uptoBulkAll parts + 1
  | .iface _ d => uptoBulk d + 1
  | .map entries => uptoBulkEntries entries + 1
  | .held _ => 1
def uptoBulkAll {H : Type} : List (DataW H) → Nat
  | [] => 0
  | d :: r => uptoBulk d + uptoBulkAll r
def uptoBulkEntries {H : Type} : List (Lit × DataW H) → Nat
  | [] => 0
  | x :: r => uptoBulkEntry x + uptoBulkEntries r
def uptoBulkEntry {H : Type} : Lit × DataW H → Nat
  | (.string bytes, d) => bytes.length + uptoBulk d + 1
  | (_, d) => uptoBulk d + 1
 end
def uptoSmall : (H : Type) → List (DataW H) → Bool := fun _ ds => decide (uptoBulkAll ds ≤ 1048576)
def OpenSpec.upto (s : _root_.Go.ChangeSpec) : _root_.Go.OpenSpec := { _root_.Go.OpenSpec.ofChange s with cond := some uptoSmall }

/-- 'petrinetlaw09.NetChecks', WHERE WHAT IT READS IS OF BULK AT MOST 1048576: true; the input reads as it did. -/
def netChecksUptoRow : OpenClaim := { program := "ytboonibkibhmhaa", sum := "012702859da5e90c892f580bf1de419def458880de32c8ecce3ed88c992dced7", func := "petrinet/petrinetlaw09.NetChecks", spec := "netChecks", unfollowed := true, recurses := true, apart := false, narrowed := true }
def NetChecksUptoSaid : Prop := netChecksUptoRow.holds Try.pinned (OpenSpec.upto netChecksSpec)

/-- 'petrinetlaw09.NetFinds', WHERE WHAT IT READS IS OF BULK AT MOST 1048576: true; the input reads as it did. -/
def netFindsUptoRow : OpenClaim := { program := "ytboonibkibhmhaa", sum := "012702859da5e90c892f580bf1de419def458880de32c8ecce3ed88c992dced7", func := "petrinet/petrinetlaw09.NetFinds", spec := "netFinds", unfollowed := true, recurses := true, apart := false, narrowed := true }
def NetFindsUptoSaid : Prop := netFindsUptoRow.holds Try.pinned (OpenSpec.upto netFindsSpec)

/-- 'petrinetlaw09.NetNeighbors', WHERE WHAT IT READS IS OF BULK AT MOST 1048576: true; the input reads as it did. -/
def netNeighborsUptoRow : OpenClaim := { program := "ytboonibkibhmhaa", sum := "012702859da5e90c892f580bf1de419def458880de32c8ecce3ed88c992dced7", func := "petrinet/petrinetlaw09.NetNeighbors", spec := "netNeighbors", unfollowed := true, recurses := true, apart := false, narrowed := true }
def NetNeighborsUptoSaid : Prop := netNeighborsUptoRow.holds Try.pinned (OpenSpec.upto netNeighborsSpec)

/-- 'petrinetlaw09.NetNames', WHERE WHAT IT READS IS OF BULK AT MOST 1048576: true; the input reads as it did. -/
def netNamesUptoRow : OpenClaim := { program := "ytboonibkibhmhaa", sum := "012702859da5e90c892f580bf1de419def458880de32c8ecce3ed88c992dced7", func := "petrinet/petrinetlaw09.NetNames", spec := "netNames", unfollowed := true, recurses := true, apart := false, narrowed := true }
def NetNamesUptoSaid : Prop := netNamesUptoRow.holds Try.pinned (OpenSpec.upto netNamesSpec)

/-- 'petrinetlaw09.NetSames', WHERE WHAT IT READS IS OF BULK AT MOST 1048576: true; the input reads as it did. -/
def netSamesUptoRow : OpenClaim := { program := "ytboonibkibhmhaa", sum := "012702859da5e90c892f580bf1de419def458880de32c8ecce3ed88c992dced7", func := "petrinet/petrinetlaw09.NetSames", spec := "netSames", unfollowed := true, recurses := true, apart := false, narrowed := true }
def NetSamesUptoSaid : Prop := netSamesUptoRow.holds Try.pinned (OpenSpec.upto netSamesSpec)

/-- 'petrinetlaw09.NetOpposites', WHERE WHAT IT READS IS OF BULK AT MOST 1048576: true; the input reads as it did. -/
def netOppositesUptoRow : OpenClaim := { program := "ytboonibkibhmhaa", sum := "012702859da5e90c892f580bf1de419def458880de32c8ecce3ed88c992dced7", func := "petrinet/petrinetlaw09.NetOpposites", spec := "netOpposites", unfollowed := true, recurses := true, apart := false, narrowed := true }
def NetOppositesUptoSaid : Prop := netOppositesUptoRow.holds Try.pinned (OpenSpec.upto netOppositesSpec)

/-- 'petrinetlaw09.NetSpoils', WHERE WHAT IT READS IS OF BULK AT MOST 1048576: true; the input reads as it did. -/
def netSpoilsUptoRow : OpenClaim := { program := "ytboonibkibhmhaa", sum := "012702859da5e90c892f580bf1de419def458880de32c8ecce3ed88c992dced7", func := "petrinet/petrinetlaw09.NetSpoils", spec := "netSpoils", unfollowed := true, recurses := true, apart := false, narrowed := true }
def NetSpoilsUptoSaid : Prop := netSpoilsUptoRow.holds Try.pinned (OpenSpec.upto netSpoilsSpec)

/-- 'petrinetlaw09.NetKnows', WHERE WHAT IT READS IS OF BULK AT MOST 1048576: true; the input reads as it did. -/
def netKnowsUptoRow : OpenClaim := { program := "ytboonibkibhmhaa", sum := "012702859da5e90c892f580bf1de419def458880de32c8ecce3ed88c992dced7", func := "petrinet/petrinetlaw09.NetKnows", spec := "netKnows", unfollowed := true, recurses := true, apart := false, narrowed := true }
def NetKnowsUptoSaid : Prop := netKnowsUptoRow.holds Try.pinned (OpenSpec.upto netKnowsSpec)

end Rows
end Go.Proofs.Ytboonibkibhmhaa
