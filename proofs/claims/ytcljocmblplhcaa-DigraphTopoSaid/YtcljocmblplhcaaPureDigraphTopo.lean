/- The plain law of DigraphTopo: for every graph the law's function answers true, with rounds enough. -/
import Derived.Test.YtcljocmblplhcaaPx17
import Derived.Test.YtcljocmblplhcaaSpecH
namespace Go.Proofs.Ytcljocmblplhcaa.Pure
open Go.RowKit Go.Proofs.Ytcljocmblplhcaa.P Go.Proofs.Ytcljocmblplhcaa.Pl Go.Proofs.YtcljocmblplhcaaW.PrintWords
theorem alive : Ev (fun k => petrinetlaw07_alive.f k) true := Ev.of (fun k => petrinetlaw07_alive.mono k) (k := 60) (by decide +kernel)
theorem DigraphTopo (l0 : List (List Int)) (_h : l0.length ≤ maxLen ∧ ∀ x ∈ l0, x.length ≤ maxLen ∧ ∀ y ∈ x, (Lit.int .i64 y).wf = true) : ∃ k, petrinetlaw07_DigraphTopo.f k l0 = some true := by
  obtain ⟨b, hb, hf⟩ := few_ev l0
  refine Ev.rounds (g := fun k => petrinetlaw07_DigraphTopo.f k l0) ?_
  unfold petrinetlaw07_DigraphTopo.f
  refine Ev.bind hb ?_
  cases b with
  | false =>
    simp only [Bool.false_eq_true, ↓reduceIte]
    exact Ev.bind alive (Ev.some _)
  | true =>
    have hf := hf rfl
    have h12 := hf.1
    simp only [↓reduceIte]
    obtain ⟨r1, e1, t1⟩ := topo_ev hf
    obtain ⟨r2, e2, t2⟩ := reftopo_ev hf
    have hu := t1.uniq t2
    subst hu
    refine Ev.bind e1 ?_
    try dsimp only
    refine Ev.bind e2 ?_
    try dsimp only
    refine Ev.bind (same_ev r1.1 r1.1 (by have := t1.len; omega)) ?_
    simp only [decide_true, BEq.rfl, ↓reduceIte]
    exact Ev.bind alive (Ev.some _)
end Go.Proofs.Ytcljocmblplhcaa.Pure
