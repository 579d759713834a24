/- What small functions of the graphs' law answer, and the reference's table of edges. -/
import Derived.Test.YtcljocmblplhcaaPx1
import Derived.Test.YtcljocmblplhcaaPx1
import Derived.Test.YtcljocmblplhcaaPx1
import Derived.Test.YtcljocmblplhcaaPx4
import Derived.Test.YtcljocmblplhcaaGraph
namespace Go.Proofs.Ytcljocmblplhcaa.Pl
open Go.RowKit Go.Proofs.Ytcljocmblplhcaa.P Go.Proofs.YtcljocmblplhcaaW.PrintWords Go.Proofs.YtcljocmblplhcaaW.PrintMore

theorem rdL (xs : List (List Int)) (i : Nat) : rd_L1 xs (i : Int) = xs.getD i [] := by simp [rd_L1]
theorem rdB (xs : List (List Bool)) (i : Nat) : rd_L4 xs (i : Int) = xs.getD i [] := by simp [rd_L4]

/-! ### few -/
def Few (g : List (List Int)) : Prop := g.length ≤ 12 ∧ ∀ u, u < g.length → (g.getD u []).length ≤ 20
theorem few_go (g : List (List Int)) : ∀ (d i : Nat), 13 - i = d → i ≤ g.length → i ≤ 13 → (∀ u, u < i → (g.getD u []).length ≤ 20) → ∃ b, Ev (fun k => petrinetlaw07_few.l0 k g (i : Int)) b ∧ (b = true → Few g) := by
  intro d
  induction d with
  | zero =>
    intro i hd hi hi2 hr
    have e : i = 13 := by omega
    refine ⟨decide ((g.length : Int) ≤ 12), ?_, fun h => absurd (of_decide_eq_true h) (by omega)⟩
    refine Ev.step (f := fun k => petrinetlaw07_few.j1 k g (i : Int) false) (fun k => ?_) (Ev.one (fun k => by simp only [petrinetlaw07_few.j1]; rw [if_neg (by decide)]))
    simp only [petrinetlaw07_few.l0]
    rw [decide_eq_false (show ¬ (i : Int) < 13 by omega), ite_self]
  | succ d ih =>
    intro i hd hi hi2 hr
    by_cases h : i < g.length
    · by_cases h20 : ((g.getD i []).length : Int) > 20
      · refine ⟨false, ?_, fun h => by cases h⟩
        refine Ev.step (f := fun k => petrinetlaw07_few.j1 k g (i : Int) true) (fun k => ?_) (Ev.one (fun k => ?_))
        · simp only [petrinetlaw07_few.l0]
          rw [if_pos (by omega), decide_eq_true (by omega)]
        · simp only [petrinetlaw07_few.j1]
          rw [if_pos trivial, if_pos (by omega), if_pos (by omega), rdL, if_pos h20]
      · obtain ⟨b, hb, hb2⟩ := ih (i + 1) (by omega) (by omega) (by omega) (fun u hu => by
          by_cases e : u = i
          · subst e; omega
          · exact hr u (by omega))
        refine ⟨b, Ev.step (f := fun k => petrinetlaw07_few.j1 k g (i : Int) true) (fun k => ?_) (Ev.step (fun k => ?_) hb), hb2⟩
        · simp only [petrinetlaw07_few.l0]
          rw [if_pos (by omega), decide_eq_true (by omega)]
        · simp only [petrinetlaw07_few.j1]
          rw [if_pos trivial, if_pos (by omega), if_pos (by omega), rdL, if_neg h20, wrap_ok (by omega) (by omega)]
          rfl
    · refine ⟨decide ((g.length : Int) ≤ 12), ?_, fun h2 => ⟨by have := of_decide_eq_true h2; omega, fun u hu => hr u (by omega)⟩⟩
      refine Ev.step (f := fun k => petrinetlaw07_few.j1 k g (i : Int) false) (fun k => ?_) (Ev.one (fun k => by simp only [petrinetlaw07_few.j1]; rw [if_neg (by decide)]))
      simp only [petrinetlaw07_few.l0]
      rw [if_neg (by omega)]
theorem few_ev (g : List (List Int)) : ∃ b, Ev (fun k => petrinetlaw07_few.f k g) b ∧ (b = true → Few g) :=
  few_go g 13 0 rfl (Nat.zero_le _) (by omega) (fun u hu => absurd hu (Nat.not_lt_zero _))

/-! ### Same -/
theorem same_ev (a b : List Int) (ha : a.length ≤ 1000000000) : Ev (fun k => petrinetref04_Same.f k a b) (decide (a = b)) := by
  by_cases hl : (a.length : Int) = (b.length : Int)
  · refine Ev.congr (f := fun k => petrinetref04_Same.l0 k a b 0) (fun k => by unfold petrinetref04_Same.f; rw [if_pos hl]) ?_
    rcases Ev_scan (l := fun k i => petrinetref04_Same.l0 k a b i) (n := a.length) (bad := fun i => rd a (i : Int) ≠ rd b (i : Int)) (rb := false)
      (fun i hi hb r h => Ev.step (fun k => by
        simp only [petrinetref04_Same.l0]
        rw [if_pos (by omega), if_pos (by omega), if_pos (by omega), if_pos (by simpa using hb), wrap_up hi (by omega)]) h)
      (fun i hi hb => Ev.one (fun k => by
        simp only [petrinetref04_Same.l0]
        rw [if_pos (by omega), if_pos (by omega), if_pos (by omega), if_neg hb])) (Nat.zero_le _) with ⟨j, _, hj, hb, _, h⟩ | ⟨h1, h2⟩
    · rw [decide_eq_false (fun e => hb (by rw [e]))]
      exact h
    · rw [decide_eq_true (ext_rd (by omega) (fun i hi => by simpa using h1 i (Nat.zero_le _) hi))]
      exact h2 true (Ev.one (fun k => by simp only [petrinetref04_Same.l0]; rw [if_neg (by omega)]))
  · rw [decide_eq_false (fun e => hl (by rw [e]))]
    exact Ev.congr (f := fun _ => some false) (fun k => by unfold petrinetref04_Same.f; rw [if_neg hl]) (Ev.some _)

/-! ### the table of edges -/
/-- A table of n rows of n, that holds where p does. -/
def IsTab (t : List (List Bool)) (n : Nat) (p : Nat → Nat → Prop) : Prop := t.length = n ∧ ∀ u, u < n → (t.getD u []).length = n ∧ ∀ v, v < n → ((t.getD u []).getD v false = true ↔ p u v)
theorem table_row (g : List (List Int)) (hg : Few g) (x3 : List (List Bool)) (u : Nat) (hu : u < g.length) (hx : x3.length = u) :
    ∃ row : List Bool, (row.length = g.length ∧ ∀ v, v < g.length → (row.getD v false = true ↔ Ed g u v)) ∧ ∀ r, Ev (fun k => petrinetref07_Table.l0 k g (x3 ++ [row]) ((u + 1 : Nat) : Int)) r → Ev (fun k => petrinetref07_Table.l0 k g x3 (u : Int)) r := by
  have h20 := hg.2 u hu
  obtain ⟨row, ⟨hl, hrow⟩, hk⟩ := Ev_for (l := fun k (row : List Bool) i => petrinetref07_Table.l1 k g x3 (u : Int) row i) (n := (g.getD u []).length)
    (inv := fun i row => row.length = g.length ∧ ∀ v, v < g.length → (row.getD v false = true ↔ ∃ j, j < i ∧ rd (g.getD u []) (j : Int) = (v : Int)))
    (fun i row hi ⟨hl, hrow⟩ => by
      by_cases h : 0 ≤ rd (g.getD u []) (i : Int) ∧ rd (g.getD u []) (i : Int) < (g.length : Int)
      · obtain ⟨h0, h1⟩ := h
        refine ⟨row.set (rd (g.getD u []) (i : Int)).toNat true, ⟨by rw [List.length_set]; exact hl, fun v hv => ?_⟩, fun r h => Ev.step (fun k => ?_) h⟩
        · rw [getD_set _ _ _ _ _ (by omega)]
          by_cases e : v = (rd (g.getD u []) (i : Int)).toNat
          · rw [if_pos e]
            exact ⟨fun _ => ⟨i, by omega, by omega⟩, fun _ => rfl⟩
          · rw [if_neg e, hrow v hv]
            exact ⟨fun ⟨j, hj, he⟩ => ⟨j, by omega, he⟩, fun ⟨j, hj, he⟩ => ⟨j, by
              by_cases hji : j = i
              · subst hji; omega
              · omega, he⟩⟩
        · simp only [petrinetref07_Table.l1]
          rw [if_pos (by omega), if_pos (by omega), rdL, if_pos (by omega), if_pos (by omega), if_pos h0, if_pos h1, if_pos h0, if_pos (by omega), wrap_up hi (by omega)]
      · refine ⟨row, ⟨hl, fun v hv => ?_⟩, fun r h2 => Ev.step (fun k => ?_) h2⟩
        · rw [hrow v hv]
          exact ⟨fun ⟨j, hj, he⟩ => ⟨j, by omega, he⟩, fun ⟨j, hj, he⟩ => ⟨j, by
            by_cases hji : j = i
            · subst hji; omega
            · omega, he⟩⟩
        · simp only [petrinetref07_Table.l1]
          rw [if_pos (by omega), if_pos (by omega), rdL, if_pos (by omega), if_pos (by omega)]
          by_cases h0 : 0 ≤ rd (g.getD u []) (i : Int)
          · rw [if_pos h0, if_neg (fun h1 => h ⟨h0, h1⟩), wrap_up hi (by omega)]
          · rw [if_neg h0, wrap_up hi (by omega)])
    (Nat.zero_le _) (s := List.replicate g.length false) ⟨by simp, fun v hv => ⟨fun h => by rw [List.getD_eq_getElem?_getD, List.getElem?_replicate, if_pos hv] at h; simp at h, fun ⟨j, hj, _⟩ => absurd hj (Nat.not_lt_zero _)⟩⟩
  have g12 := hg.1
  refine ⟨row, ⟨hl, fun v hv => ?_⟩, fun r h => ?_⟩
  · rw [hrow v hv]
    constructor
    · rintro ⟨j, hj, he⟩
      exact ⟨hu, hv, by rw [← he]; exact rd_mem (by omega) (by omega)⟩
    · rintro ⟨_, _, hm⟩
      exact mem_rd hm
  · refine Ev.step (f := fun k => petrinetref07_Table.l1 k g x3 (u : Int) (List.replicate g.length false) 0) (fun k => ?_) (hk r (Ev.step (fun k => ?_) h))
    · simp only [petrinetref07_Table.l0]
      rw [if_pos (by omega), if_pos (by omega), Int.toNat_natCast, if_pos (by omega)]
    · simp only [petrinetref07_Table.l1]
      rw [if_pos (by omega), if_pos (by omega), rdL, if_neg (by omega), if_pos (by omega), wrap_up hu (by omega)]
theorem getD_app {α : Type} (xs : List α) (x d : α) (j : Nat) : (xs ++ [x]).getD j d = if j = xs.length then x else xs.getD j d := by
  have := rdOf_app d xs x (j : Int) (by omega)
  rw [rdOf_nat, rdOf_nat] at this
  rw [this]
  by_cases e : j = xs.length
  · rw [if_pos e, if_pos (by omega)]
  · rw [if_neg e, if_neg (by omega)]
theorem table_ev (g : List (List Int)) (hg : Few g) : ∃ t, Ev (fun k => petrinetref07_Table.f k g) t ∧ IsTab t g.length (Ed g) := by
  obtain ⟨t, ⟨hl, ht⟩, hk⟩ := Ev_for (l := fun k (t : List (List Bool)) i => petrinetref07_Table.l0 k g t i) (n := g.length)
    (inv := fun i t => t.length = i ∧ ∀ u, u < i → (t.getD u []).length = g.length ∧ ∀ v, v < g.length → ((t.getD u []).getD v false = true ↔ Ed g u v))
    (fun i t hi ⟨hl, ht⟩ => by
      obtain ⟨row, h1, h2⟩ := table_row g hg t i hi hl
      refine ⟨t ++ [row], ⟨by simp [hl], fun u hu => ?_⟩, h2⟩
      rw [getD_app]
      by_cases e : u = t.length
      · rw [if_pos e]
        rw [hl] at e
        subst e
        exact h1
      · rw [if_neg e]
        exact ht u (by omega))
    (Nat.zero_le _) (s := []) ⟨rfl, fun u hu => absurd hu (Nat.not_lt_zero _)⟩
  exact ⟨t, hk t (Ev.one (fun k => by simp only [petrinetref07_Table.l0]; rw [if_neg (by omega)])), hl, ht⟩
end Go.Proofs.Ytcljocmblplhcaa.Pl
