/- Words that the walks of this claim use: those of the print's words that are needed. -/
import Derived.Test.YtboonibkibhmhaaVFootNe
/-! ### 54. Behind orders that were drawn quietly: the same facts at the world's new name; a flat row's foot -/
namespace Go.Proofs.YtboonibkibhmhaaW.PrintWords
open Go.RowKit
namespace Kd
end Kd
end Go.Proofs.YtboonibkibhmhaaW.PrintWords
