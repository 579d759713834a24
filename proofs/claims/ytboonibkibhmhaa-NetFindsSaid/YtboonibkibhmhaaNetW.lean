/- What the program's functions over nets answer: what the arcs of a list say. -/
import Derived.Test.YtboonibkibhmhaaPx6
import Derived.Test.YtboonibkibhmhaaPx6
import Derived.Test.YtboonibkibhmhaaNetD
namespace Go.Proofs.Ytboonibkibhmhaa.Pl
set_option linter.unusedVariables false
open Go.RowKit Go.Proofs.Ytboonibkibhmhaa.P Go.Proofs.YtboonibkibhmhaaW.PrintWords Go.Proofs.YtboonibkibhmhaaW.PrintMore

theorem weight_ev (l : List Ac) (p : Int) (hl : l.length ≤ 1000000) : Ev (fun k => net_weight.f k l p) (weightS l p) :=
  Ev_loop (L := fun k i => net_weight.l0 k p l (l.length : Int) (i : Int)) 1 _ (fun k i hi => by
    simp only [net_weight.l0]
    rw [if_pos (by omega), if_pos (by omega), if_pos (by omega), rdA, wrap_up hi (by omega)]
    by_cases c : (l.getD i zA).f0 = p
    · rw [if_pos c, if_pos c]; rfl
    · rw [if_neg c, if_neg c]; rfl) (Ev.one (fun k => by simp only [net_weight.l0]; rw [if_neg (by omega)]))
theorem targets_ev (l : List Ac) (hl : l.length ≤ 1000000) : Ev (fun k => net_targets.f k l) (l.map (·.f0)) := by
  have h := Ev_up (L := fun k i => net_targets.l0 k ((l.take i).map (·.f0)) l (l.length : Int) (i : Int)) (n := l.length) (r := l.map (·.f0))
    (fun i hi hr => Ev.step (fun k => by
      simp only [net_targets.l0]
      rw [if_pos (by omega), if_pos (by omega), if_pos (by omega), if_pos (by simp only [List.length_map, List.length_take]; omega), rdA, wrap_up hi (by omega), ← take_map_succ l (fun a => a.f0) zA hi]) hr)
    (Ev.one (fun k => by simp only [net_targets.l0]; rw [if_neg (by omega), List.take_length]))
  unfold net_targets.f
  simpa using h
end Go.Proofs.Ytboonibkibhmhaa.Pl
