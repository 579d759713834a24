/- The plain law of NetFinds: for every net, name and list the law's function answers true, with rounds enough. -/
import Derived.Test.YtboonibkibhmhaaPx22
import Derived.Test.YtboonibkibhmhaaLives09
import Derived.Test.YtboonibkibhmhaaSmall
import Derived.Test.YtboonibkibhmhaaNetB
import Derived.Test.YtboonibkibhmhaaRefB
namespace Go.Proofs.Ytboonibkibhmhaa.Pure
open Go.RowKit Go.Proofs.Ytboonibkibhmhaa.P Go.Proofs.Ytboonibkibhmhaa.Pl Go.Proofs.YtboonibkibhmhaaW.PrintWords
theorem NetFinds (nm : ByteArray) (ps : List Pla) (ts : List Tra) {w : Prop} (_h : w) (s : ByteArray) {w1 : Prop} (_h1 : w1) (l : List Int) {w2 : Prop} (_h2 : w2) : ∃ k, petrinetlaw09_NetFinds.f k nm ps ts s l = some true := by
  refine Ev.rounds (g := fun k => petrinetlaw09_NetFinds.f k nm ps ts s l) ?_
  unfold petrinetlaw09_NetFinds.f
  refine Ev.bind (small_ev nm ps ts) ?_
  have idle : ∀ nm ps ts, Ev (fun k => petrinetlaw09_NetFinds.j0 k s l true nm ps ts) true := fun nm ps ts => Ev.step (f := fun k => (petrinetlaw09_lives.f k).bind fun t => some t) (fun k => by simp only [petrinetlaw09_NetFinds.j0]; rw [if_pos trivial]) (Ev.bind lives (Ev.some _))
  cases hs : smallS nm ps ts with
  | false =>
    simp only [smallR, Bool.false_eq_true, ↓reduceIte]
    exact idle _ _ _
  | true =>
    have hS := smallS_true hs
    have hT := hS.thin
    have hp := hS.p
    have ht := hS.t
    simp only [smallR, ↓reduceIte]
    refine Ev.congr (fun k => ite_or _ _ (fun b => petrinetlaw09_NetFinds.j0 k s l b nm ps ts)) ?_
    by_cases c : (s.size : Int) > 40 ∨ (l.length : Int) > 6
    · rw [decide_eq_true c]; exact idle _ _ _
    · rw [decide_eq_false c]
      refine Ev.step (fun k => by simp only [petrinetlaw09_NetFinds.j0]; rw [if_neg Bool.false_ne_true]) ?_
      refine Ev.bind (place_ev nm s (by omega) hT) ?_
      refine Ev.bind (refplaceat_ev nm s (by omega) hT) ?_
      simp only [↓reduceIte]
      refine Ev.bind (trans_ev nm s (by omega) hT) ?_
      refine Ev.bind (reftransat_ev nm s (by omega) hT) ?_
      refine Ev.step (f := fun k => petrinetlaw09_NetFinds.l0 k l ((0 : Nat) : Int) nm ps ts) (fun k => by simp only [petrinetlaw09_NetFinds.j1]; rw [if_neg (by simp)]; rfl) ?_
      refine Ev_up (L := fun k i => petrinetlaw09_NetFinds.l0 k l (i : Int) nm ps ts) (n := l.length) (fun i hi hr => ?_) (Ev.step (f := fun k => (petrinetlaw09_lives.f k).bind fun t => some t) (fun k => by simp only [petrinetlaw09_NetFinds.l0]; rw [if_neg (by omega)]) (Ev.bind lives (Ev.some _)))
      refine Ev.step (f := fun k => petrinetlaw09_NetFinds.l1 k l (i : Int) ((0 : Nat) : Int) nm ps ts) (fun k => by simp only [petrinetlaw09_NetFinds.l0]; rw [if_pos (by omega)]; rfl) ?_
      refine Ev_up (L := fun k j => petrinetlaw09_NetFinds.l1 k l (i : Int) (j : Int) nm ps ts) (n := l.length) (fun j hj hr2 => ?_) (Ev.step (fun k => by simp only [petrinetlaw09_NetFinds.l1]; rw [if_neg (by omega), wrap_up hi (by omega)]) hr)
      refine Ev.step (fun k => by simp only [petrinetlaw09_NetFinds.l1]; rw [if_pos (by omega), if_pos (by omega), if_pos (by omega), if_pos (by omega), wrap_up hj (by omega)]) ?_
      refine Ev.bind (pre_ev nm _ _ (by omega) hT) ?_
      refine Ev.bind (refpre_ev nm _ _ hT) ?_
      simp only [↓reduceIte]
      refine Ev.bind (post_ev nm _ _ (by omega) hT) ?_
      refine Ev.bind (refpost_ev nm _ _ hT) ?_
      simp only [↓reduceIte]
      exact hr2
end Go.Proofs.Ytboonibkibhmhaa.Pure
