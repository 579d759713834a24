/-
  No cell of these rows narrows 'for every input' (looked for: loops, veiled, ifaces, maps, wideKeys, modest, calm, conditions, laid).
  DERIVED. THE GIVEN ROWS OF THIS SEAT. 6 by the template 'for every input the law returns true; each argument reads behind the call as it read before'; 0 by the template 'total and deterministic' (their statements: YtplljicodflagaaTotals.lean).
  GIVEN WITH THE SEED: the statements are not yours to turn. If you find one false, say at which input.
  Laid BY PROGRAM, IN A SANDBOX (cutbox-rows.mjs): the forced cells as the released guide's own fill.sh prints them over the translation d1be42854e6e0a0d… (all of the seat's roots in one cut). By AI agents, Wed Nov 11 2026. No macro, syntax, notation, axiom, sorry.
-/
import Derived.Test.YtplljicodflagaaChecked
import GoSem.Claim
import GoSem.ClaimJoined
import GoSem.ClaimMapViews
import Derived.JoinedTies
import Derived.KernelRfl
namespace Go.Proofs.Ytplljicodflagaa
/- THE CELL 'sum', in the pinned program and in every row, IS THE sha256 OF THE DUMP (.gsa) THAT YtplljicodflagaaProg.lean LOADS. Nothing in Lean hashes anything: it is a label: what it is worth is what the hold of that sum in a sandbox is worth. -/
noncomputable def Try.pinned : Pinned := { name := "ytplljicodflagaa", sum := "d1be42854e6e0a0df52488a54f18e12372f5e28ca29ee6a4fa27b65442ebeb60", checked := Try.checked }
namespace Rows
def none {H : Type} : Left H := { results := [], args := [] }

/-- 'petrinetlaw13.NetclassFlows': WHATEVER THE INPUT: true; the input reads as it did. -/
def netclassFlowsSpec : ChangeSpec := { name := "netclassFlows", fn := fun _ => fun
  | [d] => { results := [.lit (.bool true)], args := [d] }
  | _ => none }
def netclassFlowsRow : OpenClaim := { program := "ytplljicodflagaa", sum := "d1be42854e6e0a0df52488a54f18e12372f5e28ca29ee6a4fa27b65442ebeb60", func := "petrinet/petrinetlaw13.NetclassFlows", spec := "netclassFlows", unfollowed := true, recurses := true, apart := false }
def NetclassFlowsSaid : Prop := netclassFlowsRow.holds Try.pinned (OpenSpec.ofChange netclassFlowsSpec)

/-- ITS FALSE NEIGHBOUR: 'it returns false'. Refute it at one input. -/
def netclassFlowsWrong : ChangeSpec := { name := "netclassFlows", fn := fun _ => fun
  | [d] => { results := [.lit (.bool false)], args := [d] }
  | _ => none }
def NetclassFlowsWrongFalsely : Prop := netclassFlowsRow.holds Try.pinned (OpenSpec.ofChange netclassFlowsWrong)

/-- 'petrinetlaw13.NetclassKinds': WHATEVER THE INPUT: true; the input reads as it did. -/
def netclassKindsSpec : ChangeSpec := { name := "netclassKinds", fn := fun _ => fun
  | [d] => { results := [.lit (.bool true)], args := [d] }
  | _ => none }
def netclassKindsRow : OpenClaim := { program := "ytplljicodflagaa", sum := "d1be42854e6e0a0df52488a54f18e12372f5e28ca29ee6a4fa27b65442ebeb60", func := "petrinet/petrinetlaw13.NetclassKinds", spec := "netclassKinds", unfollowed := true, recurses := true, apart := false }
def NetclassKindsSaid : Prop := netclassKindsRow.holds Try.pinned (OpenSpec.ofChange netclassKindsSpec)

/-- ITS FALSE NEIGHBOUR: 'it returns false'. Refute it at one input. -/
def netclassKindsWrong : ChangeSpec := { name := "netclassKinds", fn := fun _ => fun
  | [d] => { results := [.lit (.bool false)], args := [d] }
  | _ => none }
def NetclassKindsWrongFalsely : Prop := netclassKindsRow.holds Try.pinned (OpenSpec.ofChange netclassKindsWrong)

/-- 'petrinetlaw13.NetclassWords': WHATEVER THE INPUT: true; the input reads as it did. -/
def netclassWordsSpec : ChangeSpec := { name := "netclassWords", fn := fun _ => fun
  | [d] => { results := [.lit (.bool true)], args := [d] }
  | _ => none }
def netclassWordsRow : OpenClaim := { program := "ytplljicodflagaa", sum := "d1be42854e6e0a0df52488a54f18e12372f5e28ca29ee6a4fa27b65442ebeb60", func := "petrinet/petrinetlaw13.NetclassWords", spec := "netclassWords", unfollowed := true, recurses := true, apart := false }
def NetclassWordsSaid : Prop := netclassWordsRow.holds Try.pinned (OpenSpec.ofChange netclassWordsSpec)

/-- ITS FALSE NEIGHBOUR: 'it returns false'. Refute it at one input. -/
def netclassWordsWrong : ChangeSpec := { name := "netclassWords", fn := fun _ => fun
  | [d] => { results := [.lit (.bool false)], args := [d] }
  | _ => none }
def NetclassWordsWrongFalsely : Prop := netclassWordsRow.holds Try.pinned (OpenSpec.ofChange netclassWordsWrong)

/-- 'petrinetlaw13.NetclassImplies': WHATEVER THE INPUT: true; the input reads as it did. -/
def netclassImpliesSpec : ChangeSpec := { name := "netclassImplies", fn := fun _ => fun
  | [d] => { results := [.lit (.bool true)], args := [d] }
  | _ => none }
def netclassImpliesRow : OpenClaim := { program := "ytplljicodflagaa", sum := "d1be42854e6e0a0df52488a54f18e12372f5e28ca29ee6a4fa27b65442ebeb60", func := "petrinet/petrinetlaw13.NetclassImplies", spec := "netclassImplies", unfollowed := true, recurses := true, apart := false }
def NetclassImpliesSaid : Prop := netclassImpliesRow.holds Try.pinned (OpenSpec.ofChange netclassImpliesSpec)

/-- ITS FALSE NEIGHBOUR: 'it returns false'. Refute it at one input. -/
def netclassImpliesWrong : ChangeSpec := { name := "netclassImplies", fn := fun _ => fun
  | [d] => { results := [.lit (.bool false)], args := [d] }
  | _ => none }
def NetclassImpliesWrongFalsely : Prop := netclassImpliesRow.holds Try.pinned (OpenSpec.ofChange netclassImpliesWrong)

/-- 'petrinetlaw13.NetclassClusters': WHATEVER THE INPUT: true; the input reads as it did. -/
def netclassClustersSpec : ChangeSpec := { name := "netclassClusters", fn := fun _ => fun
  | [d] => { results := [.lit (.bool true)], args := [d] }
  | _ => none }
def netclassClustersRow : OpenClaim := { program := "ytplljicodflagaa", sum := "d1be42854e6e0a0df52488a54f18e12372f5e28ca29ee6a4fa27b65442ebeb60", func := "petrinet/petrinetlaw13.NetclassClusters", spec := "netclassClusters", unfollowed := true, recurses := true, apart := false }
def NetclassClustersSaid : Prop := netclassClustersRow.holds Try.pinned (OpenSpec.ofChange netclassClustersSpec)

/-- ITS FALSE NEIGHBOUR: 'it returns false'. Refute it at one input. -/
def netclassClustersWrong : ChangeSpec := { name := "netclassClusters", fn := fun _ => fun
  | [d] => { results := [.lit (.bool false)], args := [d] }
  | _ => none }
def NetclassClustersWrongFalsely : Prop := netclassClustersRow.holds Try.pinned (OpenSpec.ofChange netclassClustersWrong)

/-- 'petrinetlaw13.NetclassSpreads': WHATEVER THE INPUT: true; the input reads as it did. -/
def netclassSpreadsSpec : ChangeSpec := { name := "netclassSpreads", fn := fun _ => fun
  | [d] => { results := [.lit (.bool true)], args := [d] }
  | _ => none }
def netclassSpreadsRow : OpenClaim := { program := "ytplljicodflagaa", sum := "d1be42854e6e0a0df52488a54f18e12372f5e28ca29ee6a4fa27b65442ebeb60", func := "petrinet/petrinetlaw13.NetclassSpreads", spec := "netclassSpreads", unfollowed := true, recurses := true, apart := false }
def NetclassSpreadsSaid : Prop := netclassSpreadsRow.holds Try.pinned (OpenSpec.ofChange netclassSpreadsSpec)

/-- ITS FALSE NEIGHBOUR: 'it returns false'. Refute it at one input. -/
def netclassSpreadsWrong : ChangeSpec := { name := "netclassSpreads", fn := fun _ => fun
  | [d] => { results := [.lit (.bool false)], args := [d] }
  | _ => none }
def NetclassSpreadsWrongFalsely : Prop := netclassSpreadsRow.holds Try.pinned (OpenSpec.ofChange netclassSpreadsWrong)

/- THE SECOND FORM. 'bulk': how many values and letters a reading holds, each counted each time it is reached (what is shared counts as often as it is met; a slice's spare places count too). A statement '..UptoSaid' is the law's where the arguments, and the package variables that the reading takes, are together of bulk at most 1048576: NARROWER than '..Said'. Prove '..Said' where nothing that the law and all that it calls make is longer than what came in: it says more and counts as full. Else prove '..UptoSaid'. A law counts once. -/
mutual
def uptoBulk {H : Type} : DataW H → Nat
  | .lit (.string bytes) => bytes.length + 1
  | .lit _ => 1
  | .nil => 1
  | .ptr d => uptoBulk d + 1
  | .slice elems spare => uptoBulkAll elems + uptoBulkAll spare + 1
  | .agg parts => uptoBulkAll parts + 1
  | .iface _ d => uptoBulk d + 1
  | .map entries => uptoBulkEntries entries + 1
  | .held _ => 1
def uptoBulkAll {H : Type} : List (DataW H) → Nat
  | [] => 0
  | d :: r => uptoBulk d + uptoBulkAll r
def uptoBulkEntries {H : Type} : List (Lit × DataW H) → Nat
  | [] => 0
  | x :: r => uptoBulkEntry x + uptoBulkEntries r
def uptoBulkEntry {H : Type} : Lit × DataW H → Nat
  | (.string bytes, d) => bytes.length + uptoBulk d + 1
  | (_, d) => uptoBulk d + 1
 end
def uptoSmall : (H : Type) → List (DataW H) → Bool := fun _ ds => decide (uptoBulkAll ds ≤ 1048576)
def OpenSpec.upto (s : _root_.Go.ChangeSpec) : _root_.Go.OpenSpec := { _root_.Go.OpenSpec.ofChange s with cond := some uptoSmall }

/-- 'petrinetlaw13.NetclassFlows', WHERE WHAT IT READS IS OF BULK AT MOST 1048576: true; the input reads as it did. -/
def netclassFlowsUptoRow : OpenClaim := { program := "ytplljicodflagaa", sum := "d1be42854e6e0a0df52488a54f18e12372f5e28ca29ee6a4fa27b65442ebeb60", func := "petrinet/petrinetlaw13.NetclassFlows", spec := "netclassFlows", unfollowed := true, recurses := true, apart := false, narrowed := true }
def NetclassFlowsUptoSaid : Prop := netclassFlowsUptoRow.holds Try.pinned (OpenSpec.upto netclassFlowsSpec)

/-- 'petrinetlaw13.NetclassKinds', WHERE WHAT IT READS IS OF BULK AT MOST 1048576: true; the input reads as it did. -/
def netclassKindsUptoRow : OpenClaim := { program := "ytplljicodflagaa", sum := "d1be42854e6e0a0df52488a54f18e12372f5e28ca29ee6a4fa27b65442ebeb60", func := "petrinet/petrinetlaw13.NetclassKinds", spec := "netclassKinds", unfollowed := true, recurses := true, apart := false, narrowed := true }
def NetclassKindsUptoSaid : Prop := netclassKindsUptoRow.holds Try.pinned (OpenSpec.upto netclassKindsSpec)

/-- 'petrinetlaw13.NetclassWords', WHERE WHAT IT READS IS OF BULK AT MOST 1048576: true; the input reads as it did. -/
def netclassWordsUptoRow : OpenClaim := { program := "ytplljicodflagaa", sum := "d1be42854e6e0a0df52488a54f18e12372f5e28ca29ee6a4fa27b65442ebeb60", func := "petrinet/petrinetlaw13.NetclassWords", spec := "netclassWords", unfollowed := true, recurses := true, apart := false, narrowed := true }
def NetclassWordsUptoSaid : Prop := netclassWordsUptoRow.holds Try.pinned (OpenSpec.upto netclassWordsSpec)

/-- 'petrinetlaw13.NetclassImplies', WHERE WHAT IT READS IS OF BULK AT MOST 1048576: true; the input reads as it did. -/
def netclassImpliesUptoRow : OpenClaim := { program := "ytplljicodflagaa", sum := "d1be42854e6e0a0df52488a54f18e12372f5e28ca29ee6a4fa27b65442ebeb60", func := "petrinet/petrinetlaw13.NetclassImplies", spec := "netclassImplies", unfollowed := true, recurses := true, apart := false, narrowed := true }
def NetclassImpliesUptoSaid : Prop := netclassImpliesUptoRow.holds Try.pinned (OpenSpec.upto netclassImpliesSpec)

/-- 'petrinetlaw13.NetclassClusters', WHERE WHAT IT READS IS OF BULK AT MOST 1048576: true; the input reads as it did. -/
def netclassClustersUptoRow : OpenClaim := { program := "ytplljicodflagaa", sum := "d1be42854e6e0a0df52488a54f18e12372f5e28ca29ee6a4fa27b65442ebeb60", func := "petrinet/petrinetlaw13.NetclassClusters", spec := "netclassClusters", unfollowed := true, recurses := true, apart := false, narrowed := true }
def NetclassClustersUptoSaid : Prop := netclassClustersUptoRow.holds Try.pinned (OpenSpec.upto netclassClustersSpec)

/-- 'petrinetlaw13.NetclassSpreads', WHERE WHAT IT READS IS OF BULK AT MOST 1048576: true; the input reads as it did. -/
def netclassSpreadsUptoRow : OpenClaim := { program := "ytplljicodflagaa", sum := "d1be42854e6e0a0df52488a54f18e12372f5e28ca29ee6a4fa27b65442ebeb60", func := "petrinet/petrinetlaw13.NetclassSpreads", spec := "netclassSpreads", unfollowed := true, recurses := true, apart := false, narrowed := true }
def NetclassSpreadsUptoSaid : Prop := netclassSpreadsUptoRow.holds Try.pinned (OpenSpec.upto netclassSpreadsSpec)

end Rows
end Go.Proofs.Ytplljicodflagaa
