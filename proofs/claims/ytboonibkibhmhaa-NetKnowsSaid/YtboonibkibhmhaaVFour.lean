/- Words that the walks of this claim use: those of the print's words that are needed. -/
import Derived.Test.YtboonibkibhmhaaVTab
/-! ### 56. Four, five, six operations that may come up next, in any order -/
namespace Go.Proofs.YtboonibkibhmhaaW.PrintLast
end Go.Proofs.YtboonibkibhmhaaW.PrintLast
