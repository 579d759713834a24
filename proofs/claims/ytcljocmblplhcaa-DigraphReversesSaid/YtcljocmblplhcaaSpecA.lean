/- What small functions of the graphs' law answer. -/
import Derived.Test.YtcljocmblplhcaaPx1
import Derived.Test.YtcljocmblplhcaaPx1
import Derived.Test.YtcljocmblplhcaaPx1
import Derived.Test.YtcljocmblplhcaaGraph
namespace Go.Proofs.Ytcljocmblplhcaa.Pl
open Go.RowKit Go.Proofs.Ytcljocmblplhcaa.P Go.Proofs.YtcljocmblplhcaaW.PrintWords Go.Proofs.YtcljocmblplhcaaW.PrintMore

theorem rdL (xs : List (List Int)) (i : Nat) : rd_L1 xs (i : Int) = xs.getD i [] := by simp [rd_L1]
theorem rdB (xs : List (List Bool)) (i : Nat) : rd_L4 xs (i : Int) = xs.getD i [] := by simp [rd_L4]

/-! ### few -/
def Few (g : List (List Int)) : Prop := g.length ≤ 12 ∧ ∀ u, u < g.length → (g.getD u []).length ≤ 20
theorem few_go (g : List (List Int)) : ∀ (d i : Nat), 13 - i = d → i ≤ g.length → i ≤ 13 → (∀ u, u < i → (g.getD u []).length ≤ 20) → ∃ b, Ev (fun k => petrinetlaw07_few.l0 k g (i : Int)) b ∧ (b = true → Few g) := by
  intro d
  induction d with
  | zero =>
    intro i hd hi hi2 hr
    have e : i = 13 := by omega
    refine ⟨decide ((g.length : Int) ≤ 12), ?_, fun h => absurd (of_decide_eq_true h) (by omega)⟩
    refine Ev.step (f := fun k => petrinetlaw07_few.j1 k g (i : Int) false) (fun k => ?_) (Ev.one (fun k => by simp only [petrinetlaw07_few.j1]; rw [if_neg (by decide)]))
    simp only [petrinetlaw07_few.l0]
    rw [decide_eq_false (show ¬ (i : Int) < 13 by omega), ite_self]
  | succ d ih =>
    intro i hd hi hi2 hr
    by_cases h : i < g.length
    · by_cases h20 : ((g.getD i []).length : Int) > 20
      · refine ⟨false, ?_, fun h => by cases h⟩
        refine Ev.step (f := fun k => petrinetlaw07_few.j1 k g (i : Int) true) (fun k => ?_) (Ev.one (fun k => ?_))
        · simp only [petrinetlaw07_few.l0]
          rw [if_pos (by omega), decide_eq_true (by omega)]
        · simp only [petrinetlaw07_few.j1]
          rw [if_pos trivial, if_pos (by omega), if_pos (by omega), rdL, if_pos h20]
      · obtain ⟨b, hb, hb2⟩ := ih (i + 1) (by omega) (by omega) (by omega) (fun u hu => by
          by_cases e : u = i
          · subst e; omega
          · exact hr u (by omega))
        refine ⟨b, Ev.step (f := fun k => petrinetlaw07_few.j1 k g (i : Int) true) (fun k => ?_) (Ev.step (fun k => ?_) hb), hb2⟩
        · simp only [petrinetlaw07_few.l0]
          rw [if_pos (by omega), decide_eq_true (by omega)]
        · simp only [petrinetlaw07_few.j1]
          rw [if_pos trivial, if_pos (by omega), if_pos (by omega), rdL, if_neg h20, wrap_ok (by omega) (by omega)]
          rfl
    · refine ⟨decide ((g.length : Int) ≤ 12), ?_, fun h2 => ⟨by have := of_decide_eq_true h2; omega, fun u hu => hr u (by omega)⟩⟩
      refine Ev.step (f := fun k => petrinetlaw07_few.j1 k g (i : Int) false) (fun k => ?_) (Ev.one (fun k => by simp only [petrinetlaw07_few.j1]; rw [if_neg (by decide)]))
      simp only [petrinetlaw07_few.l0]
      rw [if_neg (by omega)]
theorem few_ev (g : List (List Int)) : ∃ b, Ev (fun k => petrinetlaw07_few.f k g) b ∧ (b = true → Few g) :=
  few_go g 13 0 rfl (Nat.zero_le _) (by omega) (fun u hu => absurd hu (Nat.not_lt_zero _))

/-! ### Same -/
theorem same_ev (a b : List Int) (ha : a.length ≤ 1000000000) : Ev (fun k => petrinetref04_Same.f k a b) (decide (a = b)) := by
  by_cases hl : (a.length : Int) = (b.length : Int)
  · refine Ev.congr (f := fun k => petrinetref04_Same.l0 k a b 0) (fun k => by unfold petrinetref04_Same.f; rw [if_pos hl]) ?_
    rcases Ev_scan (l := fun k i => petrinetref04_Same.l0 k a b i) (n := a.length) (bad := fun i => rd a (i : Int) ≠ rd b (i : Int)) (rb := false)
      (fun i hi hb r h => Ev.step (fun k => by
        simp only [petrinetref04_Same.l0]
        rw [if_pos (by omega), if_pos (by omega), if_pos (by omega), if_pos (by simpa using hb), wrap_up hi (by omega)]) h)
      (fun i hi hb => Ev.one (fun k => by
        simp only [petrinetref04_Same.l0]
        rw [if_pos (by omega), if_pos (by omega), if_pos (by omega), if_neg hb])) (Nat.zero_le _) with ⟨j, _, hj, hb, _, h⟩ | ⟨h1, h2⟩
    · rw [decide_eq_false (fun e => hb (by rw [e]))]
      exact h
    · rw [decide_eq_true (ext_rd (by omega) (fun i hi => by simpa using h1 i (Nat.zero_le _) hi))]
      exact h2 true (Ev.one (fun k => by simp only [petrinetref04_Same.l0]; rw [if_neg (by omega)]))
  · rw [decide_eq_false (fun e => hl (by rw [e]))]
    exact Ev.congr (f := fun _ => some false) (fun k => by unfold petrinetref04_Same.f; rw [if_neg hl]) (Ev.some _)

theorem getD_app {α : Type} (xs : List α) (x d : α) (j : Nat) : (xs ++ [x]).getD j d = if j = xs.length then x else xs.getD j d := by
  have := rdOf_app d xs x (j : Int) (by omega)
  rw [rdOf_nat, rdOf_nat] at this
  rw [this]
  by_cases e : j = xs.length
  · rw [if_pos e, if_pos (by omega)]
  · rw [if_neg e, if_neg (by omega)]
end Go.Proofs.Ytcljocmblplhcaa.Pl
