/- What the reference's functions over lists of arcs answer. -/
import Derived.Test.YtboonibkibhmhaaPx18
import Derived.Test.YtboonibkibhmhaaRef1
import Derived.Test.YtboonibkibhmhaaNetD
namespace Go.Proofs.Ytboonibkibhmhaa.Pl
open Go.RowKit Go.Proofs.Ytboonibkibhmhaa.P Go.Proofs.YtboonibkibhmhaaW.PrintWords Go.Proofs.YtboonibkibhmhaaW.PrintMore
theorem refweight_ev (l : List Ac) (p : Int) (hl : l.length ≤ 1000000) : Ev (fun k => petrinetref09_Weight.f k l p) (weightS l p) :=
  Ev_loop (L := fun k i => petrinetref09_Weight.l0 k l p (i : Int)) 1 _ (fun k i hi => by
    simp only [petrinetref09_Weight.l0]
    rw [if_pos (by omega), if_pos (by omega), rdA, wrap_up hi (by omega)]
    by_cases c : (l.getD i zA).f0 = p
    · rw [if_pos c, if_pos c]; rfl
    · rw [if_neg c, if_neg c]; rfl) (Ev.one (fun k => by simp only [petrinetref09_Weight.l0]; rw [if_neg (by omega)]))
end Go.Proofs.Ytboonibkibhmhaa.Pl
