/- Words that the walks of this claim use: those of the print's words that are needed. -/
import Derived.Test.YtboonibkibhmhaaVInv
import Derived.Test.YtboonibkibhmhaaVFootNe
namespace Go.Proofs.YtboonibkibhmhaaW.PrintWords
open Go.RowKit
end Go.Proofs.YtboonibkibhmhaaW.PrintWords
namespace Go.Proofs.YtboonibkibhmhaaW.PrintLast
end Go.Proofs.YtboonibkibhmhaaW.PrintLast
