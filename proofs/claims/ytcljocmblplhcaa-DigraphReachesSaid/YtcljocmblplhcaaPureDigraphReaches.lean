/- The plain law of DigraphReaches: for every graph, list and number the law's function answers true, with rounds enough. -/
import Derived.Test.YtcljocmblplhcaaPx21
import Derived.Test.YtcljocmblplhcaaSpecG
namespace Go.Proofs.Ytcljocmblplhcaa.Pure
open Go.RowKit Go.Proofs.Ytcljocmblplhcaa.P Go.Proofs.Ytcljocmblplhcaa.Pl Go.Proofs.YtcljocmblplhcaaW.PrintWords
theorem alive : Ev (fun k => petrinetlaw07_alive.f k) true := Ev.of (fun k => petrinetlaw07_alive.mono k) (k := 60) (by decide +kernel)
open Classical in
theorem DigraphReaches (l0 : List (List Int)) (_h : l0.length ≤ maxLen ∧ ∀ x ∈ l0, x.length ≤ maxLen ∧ ∀ y ∈ x, (Lit.int .i64 y).wf = true) (l1 : List Int) (_h1 : l1.length ≤ maxLen ∧ ∀ y ∈ l1, (Lit.int .i64 y).wf = true) (a2 : Int) (_h2 : (Lit.int .i64 a2).wf = true) : ∃ k, petrinetlaw07_DigraphReaches.f k l0 l1 a2 = some true := by
  obtain ⟨b, hb, hf⟩ := few_ev l0
  refine Ev.rounds (g := fun k => petrinetlaw07_DigraphReaches.f k l0 l1 a2) ?_
  unfold petrinetlaw07_DigraphReaches.f
  refine Ev.bind hb ?_
  have idle : Ev (fun k => petrinetlaw07_DigraphReaches.j0 k l0 l1 a2 true) true := Ev.step (f := fun k => (petrinetlaw07_alive.f k).bind fun t => some t) (fun k => by simp only [petrinetlaw07_DigraphReaches.j0]; rw [if_pos trivial]) (Ev.bind alive (Ev.some _))
  cases b with
  | false =>
    simp only [Bool.false_eq_true, ↓reduceIte]
    exact idle
  | true =>
    have hf := hf rfl
    have h12 := hf.1
    simp only [↓reduceIte]
    by_cases c : (l1.length : Int) > 20
    · rw [decide_eq_true c]
      exact idle
    · rw [decide_eq_false c]
      obtain ⟨o1, e1, r1⟩ := reach_ev hf l1 (by omega)
      obtain ⟨o2, e2, r2⟩ := refreach_ev hf l1 (by omega)
      have hu := r1.uniq r2
      subst hu
      refine Ev.step (fun k => by simp only [petrinetlaw07_DigraphReaches.j0]; rw [if_neg Bool.false_ne_true]) ?_
      refine Ev.bind e1 ?_
      try dsimp only
      refine Ev.bind e2 ?_
      try dsimp only
      refine Ev.bind (bools_ev o1 (by rw [r1.1]; omega)) ?_
      simp only [↓reduceIte]
      refine Ev.bind (cyclic_ev hf a2).1 ?_
      try dsimp only
      refine Ev.bind (cyclic_ev hf a2).2 ?_
      simp only [BEq.rfl, ↓reduceIte]
      exact Ev.bind alive (Ev.some _)
end Go.Proofs.Ytcljocmblplhcaa.Pure
