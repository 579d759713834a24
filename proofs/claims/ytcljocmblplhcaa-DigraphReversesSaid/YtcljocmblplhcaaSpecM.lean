/- Lists of lists, compared. -/
import Derived.Test.YtcljocmblplhcaaPx11
import Derived.Test.YtcljocmblplhcaaSpecA
namespace Go.Proofs.Ytcljocmblplhcaa.Pl
open Go.RowKit Go.Proofs.Ytcljocmblplhcaa.P Go.Proofs.YtcljocmblplhcaaW.PrintWords Go.Proofs.YtcljocmblplhcaaW.PrintMore
theorem lists_ev (a : List (List Int)) (ha : a.length ≤ 1000000000) (hr : ∀ u, u < a.length → (a.getD u []).length ≤ 1000000000) : Ev (fun k => petrinetref04_Lists.f k a a) true := by
  refine Ev.congr (f := fun k => petrinetref04_Lists.l0 k a a 0) (fun k => by unfold petrinetref04_Lists.f; rw [if_pos rfl]) ?_
  obtain ⟨_, _, hk⟩ := Ev_for (l := fun k (_ : Unit) i => petrinetref04_Lists.l0 k a a i) (n := a.length) (inv := fun _ _ => True)
    (fun i _ hi _ => ⟨(), trivial, fun r h => by
      refine Ev.step (f := fun k => (petrinetref04_Same.f k (a.getD i []) (a.getD i [])).bind fun t326 => (if t326 = true then (petrinetref04_Lists.l0 k a a ((i + 1 : Nat) : Int)) else (some false))) (fun k => ?_) (Ev.bind (same_ev _ _ (hr i hi)) ?_)
      · simp only [petrinetref04_Lists.l0]
        rw [if_pos (by omega), if_pos (by omega), if_pos (by omega), rdL, wrap_up hi (by omega)]
      · simp only [decide_true, ↓reduceIte]
        exact h⟩) (Nat.zero_le _) (s := ()) trivial
  exact hk true (Ev.one (fun k => by simp only [petrinetref04_Lists.l0]; rw [if_neg (by omega)]))
end Go.Proofs.Ytcljocmblplhcaa.Pl
