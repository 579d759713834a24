/- Words that the walks of this claim use: those of the print's words that are needed. -/
import Derived.Test.YtboonibkibhmhaaVWords
import Derived.Test.YtboonibkibhmhaaVLast
/-! ### 39. Stores into a row that may begin inside its block (Q): Q_form, Q_elem, Q_seg; scalars: Q_cell, Q_putg -/
namespace Go.Proofs.YtboonibkibhmhaaW.PrintWords
open Go.RowKit
namespace Kd
end Kd
end Go.Proofs.YtboonibkibhmhaaW.PrintWords
