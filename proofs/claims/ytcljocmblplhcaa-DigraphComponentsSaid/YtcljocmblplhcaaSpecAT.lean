/- The reference's table of edges. -/
import Derived.Test.YtcljocmblplhcaaPx4
import Derived.Test.YtcljocmblplhcaaSpecA
namespace Go.Proofs.Ytcljocmblplhcaa.Pl
open Go.RowKit Go.Proofs.Ytcljocmblplhcaa.P Go.Proofs.YtcljocmblplhcaaW.PrintWords Go.Proofs.YtcljocmblplhcaaW.PrintMore
/-! ### the table of edges -/
/-- A table of n rows of n, that holds where p does. -/
def IsTab (t : List (List Bool)) (n : Nat) (p : Nat → Nat → Prop) : Prop := t.length = n ∧ ∀ u, u < n → (t.getD u []).length = n ∧ ∀ v, v < n → ((t.getD u []).getD v false = true ↔ p u v)
theorem table_row (g : List (List Int)) (hg : Few g) (x3 : List (List Bool)) (u : Nat) (hu : u < g.length) (hx : x3.length = u) :
    ∃ row : List Bool, (row.length = g.length ∧ ∀ v, v < g.length → (row.getD v false = true ↔ Ed g u v)) ∧ ∀ r, Ev (fun k => petrinetref07_Table.l0 k g (x3 ++ [row]) ((u + 1 : Nat) : Int)) r → Ev (fun k => petrinetref07_Table.l0 k g x3 (u : Int)) r := by
  have h20 := hg.2 u hu
  obtain ⟨row, ⟨hl, hrow⟩, hk⟩ := Ev_for (l := fun k (row : List Bool) i => petrinetref07_Table.l1 k g x3 (u : Int) row i) (n := (g.getD u []).length)
    (inv := fun i row => row.length = g.length ∧ ∀ v, v < g.length → (row.getD v false = true ↔ ∃ j, j < i ∧ rd (g.getD u []) (j : Int) = (v : Int)))
    (fun i row hi ⟨hl, hrow⟩ => by
      by_cases h : 0 ≤ rd (g.getD u []) (i : Int) ∧ rd (g.getD u []) (i : Int) < (g.length : Int)
      · obtain ⟨h0, h1⟩ := h
        refine ⟨row.set (rd (g.getD u []) (i : Int)).toNat true, ⟨by rw [List.length_set]; exact hl, fun v hv => ?_⟩, fun r h => Ev.step (fun k => ?_) h⟩
        · rw [getD_set _ _ _ _ _ (by omega)]
          by_cases e : v = (rd (g.getD u []) (i : Int)).toNat
          · rw [if_pos e]
            exact ⟨fun _ => ⟨i, by omega, by omega⟩, fun _ => rfl⟩
          · rw [if_neg e, hrow v hv]
            exact ⟨fun ⟨j, hj, he⟩ => ⟨j, by omega, he⟩, fun ⟨j, hj, he⟩ => ⟨j, by
              by_cases hji : j = i
              · subst hji; omega
              · omega, he⟩⟩
        · simp only [petrinetref07_Table.l1]
          rw [if_pos (by omega), if_pos (by omega), rdL, if_pos (by omega), if_pos (by omega), if_pos h0, if_pos h1, if_pos h0, if_pos (by omega), wrap_up hi (by omega)]
      · refine ⟨row, ⟨hl, fun v hv => ?_⟩, fun r h2 => Ev.step (fun k => ?_) h2⟩
        · rw [hrow v hv]
          exact ⟨fun ⟨j, hj, he⟩ => ⟨j, by omega, he⟩, fun ⟨j, hj, he⟩ => ⟨j, by
            by_cases hji : j = i
            · subst hji; omega
            · omega, he⟩⟩
        · simp only [petrinetref07_Table.l1]
          rw [if_pos (by omega), if_pos (by omega), rdL, if_pos (by omega), if_pos (by omega)]
          by_cases h0 : 0 ≤ rd (g.getD u []) (i : Int)
          · rw [if_pos h0, if_neg (fun h1 => h ⟨h0, h1⟩), wrap_up hi (by omega)]
          · rw [if_neg h0, wrap_up hi (by omega)])
    (Nat.zero_le _) (s := List.replicate g.length false) ⟨by simp, fun v hv => ⟨fun h => by rw [List.getD_eq_getElem?_getD, List.getElem?_replicate, if_pos hv] at h; simp at h, fun ⟨j, hj, _⟩ => absurd hj (Nat.not_lt_zero _)⟩⟩
  have g12 := hg.1
  refine ⟨row, ⟨hl, fun v hv => ?_⟩, fun r h => ?_⟩
  · rw [hrow v hv]
    constructor
    · rintro ⟨j, hj, he⟩
      exact ⟨hu, hv, by rw [← he]; exact rd_mem (by omega) (by omega)⟩
    · rintro ⟨_, _, hm⟩
      exact mem_rd hm
  · refine Ev.step (f := fun k => petrinetref07_Table.l1 k g x3 (u : Int) (List.replicate g.length false) 0) (fun k => ?_) (hk r (Ev.step (fun k => ?_) h))
    · simp only [petrinetref07_Table.l0]
      rw [if_pos (by omega), if_pos (by omega), Int.toNat_natCast, if_pos (by omega)]
    · simp only [petrinetref07_Table.l1]
      rw [if_pos (by omega), if_pos (by omega), rdL, if_neg (by omega), if_pos (by omega), wrap_up hu (by omega)]
theorem table_ev (g : List (List Int)) (hg : Few g) : ∃ t, Ev (fun k => petrinetref07_Table.f k g) t ∧ IsTab t g.length (Ed g) := by
  obtain ⟨t, ⟨hl, ht⟩, hk⟩ := Ev_for (l := fun k (t : List (List Bool)) i => petrinetref07_Table.l0 k g t i) (n := g.length)
    (inv := fun i t => t.length = i ∧ ∀ u, u < i → (t.getD u []).length = g.length ∧ ∀ v, v < g.length → ((t.getD u []).getD v false = true ↔ Ed g u v))
    (fun i t hi ⟨hl, ht⟩ => by
      obtain ⟨row, h1, h2⟩ := table_row g hg t i hi hl
      refine ⟨t ++ [row], ⟨by simp [hl], fun u hu => ?_⟩, h2⟩
      rw [getD_app]
      by_cases e : u = t.length
      · rw [if_pos e]
        rw [hl] at e
        subst e
        exact h1
      · rw [if_neg e]
        exact ht u (by omega))
    (Nat.zero_le _) (s := []) ⟨rfl, fun u hu => absurd hu (Nat.not_lt_zero _)⟩
  exact ⟨t, hk t (Ev.one (fun k => by simp only [petrinetref07_Table.l0]; rw [if_neg (by omega)])), hl, ht⟩
end Go.Proofs.Ytcljocmblplhcaa.Pl
