/- The plain law of NetSames: for every two nets the law's function answers true, with rounds enough. -/
import Derived.Test.YtboonibkibhmhaaPx27
import Derived.Test.YtboonibkibhmhaaLives09
import Derived.Test.YtboonibkibhmhaaSmall
import Derived.Test.YtboonibkibhmhaaNetE
import Derived.Test.YtboonibkibhmhaaRef1
import Derived.Test.YtboonibkibhmhaaRefE
namespace Go.Proofs.Ytboonibkibhmhaa.Pure
open Go.RowKit Go.Proofs.Ytboonibkibhmhaa.P Go.Proofs.Ytboonibkibhmhaa.Pl Go.Proofs.YtboonibkibhmhaaW.PrintWords
theorem refsame_ev (nm : ByteArray) {ps : List Pla} {ts : List Tra} (nm' : ByteArray) {ps' : List Pla} {ts' : List Tra} (hp : ps.length ≤ 1000000) (ht : ts.length ≤ 1000000) (hT : Thin ts) :
    Ev (fun k => petrinetref09_Same.f k nm ps ts nm' ps' ts') (if validS nm ps ts = true then equalS nm ps ts nm' ps' ts' else false) := by
  unfold petrinetref09_Same.f
  refine Ev.bind (refvalid_ev nm hT) ?_
  by_cases h : validS nm ps ts = true
  · simp only [h, ↓reduceIte]
    exact Ev.bind (refequal_ev nm nm' hp ht hT) (Ev.some _)
  · simp only [h]; exact Ev.some _
theorem equal_comm (nm : ByteArray) (ps : List Pla) (ts : List Tra) (nm' : ByteArray) (ps' : List Pla) (ts' : List Tra) : equalS nm' ps' ts' nm ps ts = equalS nm ps ts nm' ps' ts' := by
  rw [Bool.eq_iff_iff, equalS_iff, equalS_iff]
  exact ⟨fun h => ⟨h.1.symm, h.2.1.symm, h.2.2.symm⟩, fun h => ⟨h.1.symm, h.2.1.symm, h.2.2.symm⟩⟩
theorem same_both (nm : ByteArray) (ps : List Pla) (ts : List Tra) (nm' : ByteArray) (ps' : List Pla) (ts' : List Tra) : (if validS nm ps ts = true then (if validS nm' ps' ts' = true then equalS nm ps ts nm' ps' ts' else false) else false) = if validS nm ps ts = true then equalS nm ps ts nm' ps' ts' else false := by
  by_cases h : equalS nm ps ts nm' ps' ts' = true
  · obtain ⟨rfl, rfl, rfl⟩ := equalS_iff.1 h
    by_cases hv : validS nm ps ts = true
    · simp only [hv, ↓reduceIte]
    · simp only [hv, ↓reduceIte, Bool.false_eq_true]
  · simp only [Bool.eq_false_iff.2 h, ite_self]
theorem same_rev (nm : ByteArray) (ps : List Pla) (ts : List Tra) (nm' : ByteArray) (ps' : List Pla) (ts' : List Tra) : (if validS nm' ps' ts' = true then (if validS nm ps ts = true then equalS nm' ps' ts' nm ps ts else false) else false) = if validS nm ps ts = true then equalS nm ps ts nm' ps' ts' else false := by
  rw [← same_both, equal_comm]
  cases validS nm ps ts <;> cases validS nm' ps' ts' <;> rfl
theorem NetSames (nm : ByteArray) (ps : List Pla) (ts : List Tra) {w : Prop} (_h : w) (nm' : ByteArray) (ps' : List Pla) (ts' : List Tra) {w1 : Prop} (_h1 : w1) : ∃ k, petrinetlaw09_NetSames.f k nm ps ts nm' ps' ts' = some true := by
  refine Ev.rounds (g := fun k => petrinetlaw09_NetSames.f k nm ps ts nm' ps' ts') ?_
  unfold petrinetlaw09_NetSames.f
  refine Ev.bind (small_ev nm ps ts) (Ev.bind (small_ev nm' ps' ts') ?_)
  have idle : ∀ a b c d e f, Ev (fun k => petrinetlaw09_NetSames.j0 k true a b c d e f) true := fun a b c d e f => Ev.step (f := fun k => (petrinetlaw09_lives.f k).bind fun t => some t) (fun k => by simp only [petrinetlaw09_NetSames.j0]; rw [if_pos trivial]) (Ev.bind lives (Ev.some _))
  cases hs : smallS nm ps ts with
  | false =>
    simp only [smallR, Bool.false_eq_true, ↓reduceIte]
    exact idle _ _ _ _ _ _
  | true =>
    cases hs' : smallS nm' ps' ts' with
    | false =>
      simp only [smallR, Bool.false_eq_true, ↓reduceIte, Bool.not_false]
      exact idle _ _ _ _ _ _
    | true =>
      have hS := smallS_true hs
      have hS' := smallS_true hs'
      have hT := hS.thin
      have hT' := hS'.thin
      have hp := hS.p
      have ht := hS.t
      have hp' := hS'.p
      have ht' := hS'.t
      simp only [smallR, ↓reduceIte, Bool.not_true]
      refine Ev.step (fun k => by simp only [petrinetlaw09_NetSames.j0]; rw [if_neg Bool.false_ne_true]) ?_
      refine Ev.bind (refsame_ev nm nm' (by omega) (by omega) hT) ?_
      refine Ev.bind (same_ev nm nm' (by omega) (by omega) hT hT') ?_
      rw [same_both]
      simp only [BEq.rfl, ↓reduceIte]
      refine Ev.bind (same_ev nm' nm (by omega) (by omega) hT' hT) ?_
      rw [same_rev]
      simp only [BEq.rfl, ↓reduceIte]
      refine Ev.bind (same_ev nm nm (by omega) (by omega) hT hT) ?_
      rw [same_both, equalS_iff.2 ⟨rfl, rfl, rfl⟩]
      refine Ev.bind (refvalid_ev nm hT) ?_
      have e : (if validS nm ps ts = true then true else false) = validS nm ps ts := by cases validS nm ps ts <;> rfl
      rw [e]
      simp only [BEq.rfl, ↓reduceIte]
      exact Ev.bind lives (Ev.some _)
end Go.Proofs.Ytboonibkibhmhaa.Pure
