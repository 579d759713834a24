/- Words that the walks of this claim use: those of the print's words that are needed. -/
import Derived.Test.YtboonibkibhmhaaVN
/-! ### 52. A row that stays read whatever happens to a block (a set of blocks) doesn't lie there -/
namespace Go.Proofs.YtboonibkibhmhaaW.PrintWords
open Go.RowKit
namespace Kd
end Kd
end Go.Proofs.YtboonibkibhmhaaW.PrintWords
