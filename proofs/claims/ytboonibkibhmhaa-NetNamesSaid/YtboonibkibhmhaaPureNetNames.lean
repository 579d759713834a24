/- The plain law of NetNames: for every string the law's function answers true, with rounds enough. -/
import Derived.Test.YtboonibkibhmhaaPx25
import Derived.Test.YtboonibkibhmhaaRefN
import Derived.Test.YtboonibkibhmhaaLives09
namespace Go.Proofs.Ytboonibkibhmhaa.Pure
open Go.RowKit Go.Proofs.Ytboonibkibhmhaa.P Go.Proofs.Ytboonibkibhmhaa.Pl Go.Proofs.YtboonibkibhmhaaW.PrintWords
theorem NetNames (a0 : ByteArray) (_h : a0.size ≤ maxLen) : ∃ k, petrinetlaw09_NetNames.f k a0 = some true := by
  refine Ev.rounds (g := fun k => petrinetlaw09_NetNames.f k a0) ?_
  unfold petrinetlaw09_NetNames.f net_Name.f
  by_cases c : (a0.size : Int) > 100
  · simp only [c, ↓reduceIte]
    exact Ev.bind lives (Ev.some _)
  · simp only [c, ↓reduceIte, Option.bind_some]
    refine Ev.bind (refname_ev a0) ?_
    simp only [BEq.rfl, ↓reduceIte]
    exact Ev.bind lives (Ev.some _)
end Go.Proofs.Ytboonibkibhmhaa.Pure
