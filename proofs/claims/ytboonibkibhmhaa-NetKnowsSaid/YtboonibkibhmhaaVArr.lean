/- Words that the walks of this claim use: those of the print's words that are needed. -/
import Derived.Test.YtboonibkibhmhaaVWords
/-! ### 41. Arrays '[n]T' as_ values: a kind (a field, an element of a row), an element read, an element set -/
namespace Go.Proofs.YtboonibkibhmhaaW.PrintWords
open Go.RowKit
namespace Kd
end Kd
end Go.Proofs.YtboonibkibhmhaaW.PrintWords
