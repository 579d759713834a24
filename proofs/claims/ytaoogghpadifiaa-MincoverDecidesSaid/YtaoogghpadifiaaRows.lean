/-
  No cell of these rows narrows 'for every input' (looked for: loops, veiled, ifaces, maps, wideKeys, modest, calm, conditions, laid).
  DERIVED. THE GIVEN ROWS OF THIS SEAT. 7 by the template 'for every input the law returns true; each argument reads behind the call as it read before'; 0 by the template 'total and deterministic' (their statements: YtaoogghpadifiaaTotals.lean).
  GIVEN WITH THE SEED: the statements are not yours to turn. If you find one false, say at which input.
  Laid BY PROGRAM, IN A SANDBOX (cutbox-rows.mjs): the forced cells as the released guide's own fill.sh prints them over the translation 7679b305f0883790… (all of the seat's roots in one cut). By AI agents, Wed Nov 11 2026. No macro, syntax, notation, axiom, sorry.
-/
import Derived.Test.YtaoogghpadifiaaChecked
import GoSem.Claim
import GoSem.ClaimJoined
import GoSem.ClaimMapViews
import Derived.JoinedTies
import Derived.KernelRfl
namespace Go.Proofs.Ytaoogghpadifiaa
/- THE CELL 'sum', in the pinned program and in every row, IS THE sha256 OF THE DUMP (.gsa) THAT YtaoogghpadifiaaProg.lean LOADS. Nothing in Lean hashes anything: it is a label: what it is worth is what the hold of that sum in a sandbox is worth. -/
noncomputable def Try.pinned : Pinned := { name := "ytaoogghpadifiaa", sum := "7679b305f0883790d01b71d7ac3ae6f1931078d0db03dbe3aa367cad79ef2a79", checked := Try.checked }
namespace Rows
def none {H : Type} : Left H := { results := [], args := [] }

/-- 'petrinetlaw23.MincoverSets': WHATEVER THE INPUT: true; the input reads as it did. -/
def mincoverSetsSpec : ChangeSpec := { name := "mincoverSets", fn := fun _ => fun
  | [d1, d2] => { results := [.lit (.bool true)], args := [d1, d2] }
  | _ => none }
def mincoverSetsRow : OpenClaim := { program := "ytaoogghpadifiaa", sum := "7679b305f0883790d01b71d7ac3ae6f1931078d0db03dbe3aa367cad79ef2a79", func := "petrinet/petrinetlaw23.MincoverSets", spec := "mincoverSets", unfollowed := true, recurses := true, apart := false }
def MincoverSetsSaid : Prop := mincoverSetsRow.holds Try.pinned (OpenSpec.ofChange mincoverSetsSpec)

/-- ITS FALSE NEIGHBOUR: 'it returns false'. Refute it at one input. -/
def mincoverSetsWrong : ChangeSpec := { name := "mincoverSets", fn := fun _ => fun
  | [d1, d2] => { results := [.lit (.bool false)], args := [d1, d2] }
  | _ => none }
def MincoverSetsWrongFalsely : Prop := mincoverSetsRow.holds Try.pinned (OpenSpec.ofChange mincoverSetsWrong)

/-- 'petrinetlaw23.MincoverOrder': WHATEVER THE INPUT: true; the input reads as it did. -/
def mincoverOrderSpec : ChangeSpec := { name := "mincoverOrder", fn := fun _ => fun
  | [d] => { results := [.lit (.bool true)], args := [d] }
  | _ => none }
def mincoverOrderRow : OpenClaim := { program := "ytaoogghpadifiaa", sum := "7679b305f0883790d01b71d7ac3ae6f1931078d0db03dbe3aa367cad79ef2a79", func := "petrinet/petrinetlaw23.MincoverOrder", spec := "mincoverOrder", unfollowed := true, recurses := true, apart := false }
def MincoverOrderSaid : Prop := mincoverOrderRow.holds Try.pinned (OpenSpec.ofChange mincoverOrderSpec)

/-- ITS FALSE NEIGHBOUR: 'it returns false'. Refute it at one input. -/
def mincoverOrderWrong : ChangeSpec := { name := "mincoverOrder", fn := fun _ => fun
  | [d] => { results := [.lit (.bool false)], args := [d] }
  | _ => none }
def MincoverOrderWrongFalsely : Prop := mincoverOrderRow.holds Try.pinned (OpenSpec.ofChange mincoverOrderWrong)

/-- 'petrinetlaw23.MincoverLooks': WHATEVER THE INPUT: true; the input reads as it did. -/
def mincoverLooksSpec : ChangeSpec := { name := "mincoverLooks", fn := fun _ => fun
  | [d1, d2] => { results := [.lit (.bool true)], args := [d1, d2] }
  | _ => none }
def mincoverLooksRow : OpenClaim := { program := "ytaoogghpadifiaa", sum := "7679b305f0883790d01b71d7ac3ae6f1931078d0db03dbe3aa367cad79ef2a79", func := "petrinet/petrinetlaw23.MincoverLooks", spec := "mincoverLooks", unfollowed := true, recurses := true, apart := false }
def MincoverLooksSaid : Prop := mincoverLooksRow.holds Try.pinned (OpenSpec.ofChange mincoverLooksSpec)

/-- ITS FALSE NEIGHBOUR: 'it returns false'. Refute it at one input. -/
def mincoverLooksWrong : ChangeSpec := { name := "mincoverLooks", fn := fun _ => fun
  | [d1, d2] => { results := [.lit (.bool false)], args := [d1, d2] }
  | _ => none }
def MincoverLooksWrongFalsely : Prop := mincoverLooksRow.holds Try.pinned (OpenSpec.ofChange mincoverLooksWrong)

/-- 'petrinetlaw23.MincoverQuasis': WHATEVER THE INPUT: true; the input reads as it did. -/
def mincoverQuasisSpec : ChangeSpec := { name := "mincoverQuasis", fn := fun _ => fun
  | [d1, d2] => { results := [.lit (.bool true)], args := [d1, d2] }
  | _ => none }
def mincoverQuasisRow : OpenClaim := { program := "ytaoogghpadifiaa", sum := "7679b305f0883790d01b71d7ac3ae6f1931078d0db03dbe3aa367cad79ef2a79", func := "petrinet/petrinetlaw23.MincoverQuasis", spec := "mincoverQuasis", unfollowed := true, recurses := true, apart := false }
def MincoverQuasisSaid : Prop := mincoverQuasisRow.holds Try.pinned (OpenSpec.ofChange mincoverQuasisSpec)

/-- ITS FALSE NEIGHBOUR: 'it returns false'. Refute it at one input. -/
def mincoverQuasisWrong : ChangeSpec := { name := "mincoverQuasis", fn := fun _ => fun
  | [d1, d2] => { results := [.lit (.bool false)], args := [d1, d2] }
  | _ => none }
def MincoverQuasisWrongFalsely : Prop := mincoverQuasisRow.holds Try.pinned (OpenSpec.ofChange mincoverQuasisWrong)

/-- 'petrinetlaw23.MincoverDecides': WHATEVER THE INPUT: true; the input reads as it did. -/
def mincoverDecidesSpec : ChangeSpec := { name := "mincoverDecides", fn := fun _ => fun
  | [d1, d2, d3] => { results := [.lit (.bool true)], args := [d1, d2, d3] }
  | _ => none }
def mincoverDecidesRow : OpenClaim := { program := "ytaoogghpadifiaa", sum := "7679b305f0883790d01b71d7ac3ae6f1931078d0db03dbe3aa367cad79ef2a79", func := "petrinet/petrinetlaw23.MincoverDecides", spec := "mincoverDecides", unfollowed := true, recurses := true, apart := false }
def MincoverDecidesSaid : Prop := mincoverDecidesRow.holds Try.pinned (OpenSpec.ofChange mincoverDecidesSpec)

/-- ITS FALSE NEIGHBOUR: 'it returns false'. Refute it at one input. -/
def mincoverDecidesWrong : ChangeSpec := { name := "mincoverDecides", fn := fun _ => fun
  | [d1, d2, d3] => { results := [.lit (.bool false)], args := [d1, d2, d3] }
  | _ => none }
def MincoverDecidesWrongFalsely : Prop := mincoverDecidesRow.holds Try.pinned (OpenSpec.ofChange mincoverDecidesWrong)

/-- 'petrinetlaw23.MincoverTerminates': WHATEVER THE INPUT: true; the input reads as it did. -/
def mincoverTerminatesSpec : ChangeSpec := { name := "mincoverTerminates", fn := fun _ => fun
  | [d1, d2] => { results := [.lit (.bool true)], args := [d1, d2] }
  | _ => none }
def mincoverTerminatesRow : OpenClaim := { program := "ytaoogghpadifiaa", sum := "7679b305f0883790d01b71d7ac3ae6f1931078d0db03dbe3aa367cad79ef2a79", func := "petrinet/petrinetlaw23.MincoverTerminates", spec := "mincoverTerminates", unfollowed := true, recurses := true, apart := false }
def MincoverTerminatesSaid : Prop := mincoverTerminatesRow.holds Try.pinned (OpenSpec.ofChange mincoverTerminatesSpec)

/-- ITS FALSE NEIGHBOUR: 'it returns false'. Refute it at one input. -/
def mincoverTerminatesWrong : ChangeSpec := { name := "mincoverTerminates", fn := fun _ => fun
  | [d1, d2] => { results := [.lit (.bool false)], args := [d1, d2] }
  | _ => none }
def MincoverTerminatesWrongFalsely : Prop := mincoverTerminatesRow.holds Try.pinned (OpenSpec.ofChange mincoverTerminatesWrong)

/-- 'petrinetlaw23.MincoverCycles': WHATEVER THE INPUT: true; the input reads as it did. -/
def mincoverCyclesSpec : ChangeSpec := { name := "mincoverCycles", fn := fun _ => fun
  | [d] => { results := [.lit (.bool true)], args := [d] }
  | _ => none }
def mincoverCyclesRow : OpenClaim := { program := "ytaoogghpadifiaa", sum := "7679b305f0883790d01b71d7ac3ae6f1931078d0db03dbe3aa367cad79ef2a79", func := "petrinet/petrinetlaw23.MincoverCycles", spec := "mincoverCycles", unfollowed := true, recurses := true, apart := false }
def MincoverCyclesSaid : Prop := mincoverCyclesRow.holds Try.pinned (OpenSpec.ofChange mincoverCyclesSpec)

/-- ITS FALSE NEIGHBOUR: 'it returns false'. Refute it at one input. -/
def mincoverCyclesWrong : ChangeSpec := { name := "mincoverCycles", fn := fun _ => fun
  | [d] => { results := [.lit (.bool false)], args := [d] }
  | _ => none }
def MincoverCyclesWrongFalsely : Prop := mincoverCyclesRow.holds Try.pinned (OpenSpec.ofChange mincoverCyclesWrong)

/- THE SECOND FORM. 'bulk': how many values and letters a reading holds, each counted each time it is reached (what is shared counts as often as it is met; a slice's spare places count too). A statement '..UptoSaid' is the law's where the arguments, and the package variables that the reading takes, are together of bulk at most 1048576: NARROWER than '..Said'. Prove '..Said' where nothing that the law and all that it calls make is longer than what came in: it says more and counts as full. Else prove '..UptoSaid'. A law counts once. -/
mutual
def uptoBulk {H : Type} : DataW H → Nat
  | .lit (.string bytes) => bytes.length + 1
  | .lit _ => 1
  | .nil => 1
  | .ptr d => uptoBulk d + 1
  | .slice elems spare => uptoBulkAll elems + uptoBulkAll spare + 1
  | .agg parts => uptoBulkAll parts + 1
  | .iface _ d => uptoBulk d + 1
  | .map entries => uptoBulkEntries entries + 1
  | .held _ => 1
def uptoBulkAll {H : Type} : List (DataW H) → Nat
  | [] => 0
  | d :: r => uptoBulk d + uptoBulkAll r
def uptoBulkEntries {H : Type} : List (Lit × DataW H) → Nat
  | [] => 0
  | x :: r => uptoBulkEntry x + uptoBulkEntries r
def uptoBulkEntry {H : Type} : Lit × DataW H → Nat
  | (.string bytes, d) => bytes.length + uptoBulk d + 1
  | (_, d) => uptoBulk d + 1
 end
def uptoSmall : (H : Type) → List (DataW H) → Bool := fun _ ds => decide (uptoBulkAll ds ≤ 1048576)
def OpenSpec.upto (s : _root_.Go.ChangeSpec) : _root_.Go.OpenSpec := { _root_.Go.OpenSpec.ofChange s with cond := some uptoSmall }

/-- 'petrinetlaw23.MincoverSets', WHERE WHAT IT READS IS OF BULK AT MOST 1048576: true; the input reads as it did. -/
def mincoverSetsUptoRow : OpenClaim := { program := "ytaoogghpadifiaa", sum := "7679b305f0883790d01b71d7ac3ae6f1931078d0db03dbe3aa367cad79ef2a79", func := "petrinet/petrinetlaw23.MincoverSets", spec := "mincoverSets", unfollowed := true, recurses := true, apart := false, narrowed := true }
def MincoverSetsUptoSaid : Prop := mincoverSetsUptoRow.holds Try.pinned (OpenSpec.upto mincoverSetsSpec)

/-- 'petrinetlaw23.MincoverOrder', WHERE WHAT IT READS IS OF BULK AT MOST 1048576: true; the input reads as it did. -/
def mincoverOrderUptoRow : OpenClaim := { program := "ytaoogghpadifiaa", sum := "7679b305f0883790d01b71d7ac3ae6f1931078d0db03dbe3aa367cad79ef2a79", func := "petrinet/petrinetlaw23.MincoverOrder", spec := "mincoverOrder", unfollowed := true, recurses := true, apart := false, narrowed := true }
def MincoverOrderUptoSaid : Prop := mincoverOrderUptoRow.holds Try.pinned (OpenSpec.upto mincoverOrderSpec)

/-- 'petrinetlaw23.MincoverLooks', WHERE WHAT IT READS IS OF BULK AT MOST 1048576: true; the input reads as it did. -/
def mincoverLooksUptoRow : OpenClaim := { program := "ytaoogghpadifiaa", sum := "7679b305f0883790d01b71d7ac3ae6f1931078d0db03dbe3aa367cad79ef2a79", func := "petrinet/petrinetlaw23.MincoverLooks", spec := "mincoverLooks", unfollowed := true, recurses := true, apart := false, narrowed := true }
def MincoverLooksUptoSaid : Prop := mincoverLooksUptoRow.holds Try.pinned (OpenSpec.upto mincoverLooksSpec)

/-- 'petrinetlaw23.MincoverQuasis', WHERE WHAT IT READS IS OF BULK AT MOST 1048576: true; the input reads as it did. -/
def mincoverQuasisUptoRow : OpenClaim := { program := "ytaoogghpadifiaa", sum := "7679b305f0883790d01b71d7ac3ae6f1931078d0db03dbe3aa367cad79ef2a79", func := "petrinet/petrinetlaw23.MincoverQuasis", spec := "mincoverQuasis", unfollowed := true, recurses := true, apart := false, narrowed := true }
def MincoverQuasisUptoSaid : Prop := mincoverQuasisUptoRow.holds Try.pinned (OpenSpec.upto mincoverQuasisSpec)

/-- 'petrinetlaw23.MincoverDecides', WHERE WHAT IT READS IS OF BULK AT MOST 1048576: true; the input reads as it did. -/
def mincoverDecidesUptoRow : OpenClaim := { program := "ytaoogghpadifiaa", sum := "7679b305f0883790d01b71d7ac3ae6f1931078d0db03dbe3aa367cad79ef2a79", func := "petrinet/petrinetlaw23.MincoverDecides", spec := "mincoverDecides", unfollowed := true, recurses := true, apart := false, narrowed := true }
def MincoverDecidesUptoSaid : Prop := mincoverDecidesUptoRow.holds Try.pinned (OpenSpec.upto mincoverDecidesSpec)

/-- 'petrinetlaw23.MincoverTerminates', WHERE WHAT IT READS IS OF BULK AT MOST 1048576: true; the input reads as it did. -/
def mincoverTerminatesUptoRow : OpenClaim := { program := "ytaoogghpadifiaa", sum := "7679b305f0883790d01b71d7ac3ae6f1931078d0db03dbe3aa367cad79ef2a79", func := "petrinet/petrinetlaw23.MincoverTerminates", spec := "mincoverTerminates", unfollowed := true, recurses := true, apart := false, narrowed := true }
def MincoverTerminatesUptoSaid : Prop := mincoverTerminatesUptoRow.holds Try.pinned (OpenSpec.upto mincoverTerminatesSpec)

/-- 'petrinetlaw23.MincoverCycles', WHERE WHAT IT READS IS OF BULK AT MOST 1048576: true; the input reads as it did. -/
def mincoverCyclesUptoRow : OpenClaim := { program := "ytaoogghpadifiaa", sum := "7679b305f0883790d01b71d7ac3ae6f1931078d0db03dbe3aa367cad79ef2a79", func := "petrinet/petrinetlaw23.MincoverCycles", spec := "mincoverCycles", unfollowed := true, recurses := true, apart := false, narrowed := true }
def MincoverCyclesUptoSaid : Prop := mincoverCyclesUptoRow.holds Try.pinned (OpenSpec.upto mincoverCyclesSpec)

end Rows
end Go.Proofs.Ytaoogghpadifiaa
