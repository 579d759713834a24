/- The plain law of DigraphLists: for every graph the law's function answers true, with rounds enough. -/
import Derived.Test.YtcljocmblplhcaaPx13
import Derived.Test.YtcljocmblplhcaaSpecF
namespace Go.Proofs.Ytcljocmblplhcaa.Pure
open Go.RowKit Go.Proofs.Ytcljocmblplhcaa.P Go.Proofs.Ytcljocmblplhcaa.Pl Go.Proofs.YtcljocmblplhcaaW.PrintWords
theorem alive : Ev (fun k => petrinetlaw07_alive.f k) true := Ev.of (fun k => petrinetlaw07_alive.mono k) (k := 60) (by decide +kernel)
open Classical in
theorem DigraphLists (l0 : List (List Int)) (_h : l0.length ≤ maxLen ∧ ∀ x ∈ l0, x.length ≤ maxLen ∧ ∀ y ∈ x, (Lit.int .i64 y).wf = true) : ∃ k, petrinetlaw07_DigraphLists.f k l0 = some true := by
  obtain ⟨b, hb, hf⟩ := few_ev l0
  refine Ev.rounds (g := fun k => petrinetlaw07_DigraphLists.f k l0) ?_
  unfold petrinetlaw07_DigraphLists.f
  refine Ev.bind hb ?_
  cases b with
  | false =>
    simp only [Bool.false_eq_true, ↓reduceIte]
    exact Ev.bind alive (Ev.some _)
  | true =>
    have hf := hf rfl
    have h12 := hf.1
    simp only [↓reduceIte]
    refine Ev.bind (valid_ev hf) ?_
    try dsimp only
    refine Ev.bind (refvalid_ev hf) ?_
    simp only [BEq.rfl, ↓reduceIte]
    refine Ev.bind (reverse_ev l0 hf) ?_
    try dsimp only
    refine Ev.bind (refrev_ev l0 hf) ?_
    try dsimp only
    refine Ev.bind (lists_ev (rev l0) (by rw [rev_len]; omega) (fun u hu => by rw [rev_len] at hu; rw [rev_row l0 u hu]; have := preds_len l0 u l0.length; omega)) ?_
    simp only [↓reduceIte]
    refine Ev.bind (reverse_ev l0 hf) ?_
    try dsimp only
    refine Ev.bind (valid_ev (rev_few hf)) ?_
    simp only [decide_eq_true (rev_valid l0), ↓reduceIte]
    exact Ev.bind alive (Ev.some _)
end Go.Proofs.Ytcljocmblplhcaa.Pure
