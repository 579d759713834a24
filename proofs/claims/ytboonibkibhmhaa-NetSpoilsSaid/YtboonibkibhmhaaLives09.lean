/- The check of fixed results, and what the laws over one net have in common. -/
import Derived.Test.YtboonibkibhmhaaPx14
import Derived.Test.YtboonibkibhmhaaEvL
namespace Go.Proofs.Ytboonibkibhmhaa.Pure
open Go.RowKit Go.Proofs.Ytboonibkibhmhaa.P Go.Proofs.Ytboonibkibhmhaa.Pl Go.Proofs.YtboonibkibhmhaaW.PrintWords
theorem lives : Ev (fun k => petrinetlaw09_lives.f k) true := Ev.of (fun k => petrinetlaw09_lives.mono k) (k := 60) (by decide +kernel)
end Go.Proofs.Ytboonibkibhmhaa.Pure
