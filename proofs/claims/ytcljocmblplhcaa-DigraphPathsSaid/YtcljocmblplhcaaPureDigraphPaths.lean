/- The plain law of DigraphPaths: for every graph and any two numbers the law's function answers true, with rounds enough. -/
import Derived.Test.YtcljocmblplhcaaPx11
import Derived.Test.YtcljocmblplhcaaSpecE
namespace Go.Proofs.Ytcljocmblplhcaa.Pure
open Go.RowKit Go.Proofs.Ytcljocmblplhcaa.P Go.Proofs.Ytcljocmblplhcaa.Pl Go.Proofs.YtcljocmblplhcaaW.PrintWords
theorem alive : Ev (fun k => petrinetlaw07_alive.f k) true := Ev.of (fun k => petrinetlaw07_alive.mono k) (k := 60) (by decide +kernel)
theorem DigraphPaths (l0 : List (List Int)) (_h : l0.length ≤ maxLen ∧ ∀ x ∈ l0, x.length ≤ maxLen ∧ ∀ y ∈ x, (Lit.int .i64 y).wf = true) (a1 : Int) (_h1 : (Lit.int .i64 a1).wf = true) (a2 : Int) (_h2 : (Lit.int .i64 a2).wf = true) : ∃ k, petrinetlaw07_DigraphPaths.f k l0 a1 a2 = some true := by
  obtain ⟨b, hb, hf⟩ := few_ev l0
  refine Ev.rounds (g := fun k => petrinetlaw07_DigraphPaths.f k l0 a1 a2) ?_
  unfold petrinetlaw07_DigraphPaths.f
  refine Ev.bind hb ?_
  cases b with
  | false =>
    simp only [Bool.false_eq_true, ↓reduceIte]
    exact Ev.bind alive (Ev.some _)
  | true =>
    obtain ⟨l, ok, p1, p2, hl⟩ := paths_ev (hf rfl) a1 a2
    simp only [↓reduceIte]
    refine Ev.bind p1 ?_
    dsimp only
    refine Ev.bind p2 ?_
    dsimp only
    refine Ev.bind (same_ev l l (by omega)) ?_
    simp only [decide_true, BEq.rfl, ↓reduceIte]
    exact Ev.bind alive (Ev.some _)
end Go.Proofs.Ytcljocmblplhcaa.Pure
