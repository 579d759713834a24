/- The plain law of DigraphComponents: for every graph the law's function answers true, with rounds enough. -/
import Derived.Test.YtcljocmblplhcaaPx7
import Derived.Test.YtcljocmblplhcaaSpecJR
namespace Go.Proofs.Ytcljocmblplhcaa.Pure
open Go.RowKit Go.Proofs.Ytcljocmblplhcaa.P Go.Proofs.Ytcljocmblplhcaa.Pl Go.Proofs.YtcljocmblplhcaaW.PrintWords
theorem alive : Ev (fun k => petrinetlaw07_alive.f k) true := Ev.of (fun k => petrinetlaw07_alive.mono k) (k := 60) (by decide +kernel)
theorem DigraphComponents (l0 : List (List Int)) (_h : l0.length ≤ maxLen ∧ ∀ x ∈ l0, x.length ≤ maxLen ∧ ∀ y ∈ x, (Lit.int .i64 y).wf = true) : ∃ k, petrinetlaw07_DigraphComponents.f k l0 = some true := by
  obtain ⟨b, hb, hf⟩ := few_ev l0
  refine Ev.rounds (g := fun k => petrinetlaw07_DigraphComponents.f k l0) ?_
  unfold petrinetlaw07_DigraphComponents.f
  refine Ev.bind hb ?_
  cases b with
  | false =>
    simp only [Bool.false_eq_true, ↓reduceIte]
    exact Ev.bind alive (Ev.some _)
  | true =>
    have hf := hf rfl
    have h12 := hf.1
    simp only [↓reduceIte]
    obtain ⟨c1, e1, t1⟩ := comp_ev hf
    obtain ⟨c2, e2, t2⟩ := refcomp_ev hf
    have hu := t1.uniq t2
    subst hu
    refine Ev.bind e1 ?_
    try dsimp only
    refine Ev.bind e2 ?_
    try dsimp only
    refine Ev.bind (same_ev c1 c1 (by rw [t1.1]; omega)) ?_
    simp only [decide_true, ↓reduceIte]
    refine Ev.bind (bottom_ev hf) ?_
    try dsimp only
    refine Ev.bind (refbottom_ev hf) ?_
    try dsimp only
    refine Ev.bind (same_ev _ _ (by have := bots_len (g := l0) l0.length; omega)) ?_
    simp only [decide_true, ↓reduceIte]
    exact Ev.bind alive (Ev.some _)
end Go.Proofs.Ytcljocmblplhcaa.Pure
