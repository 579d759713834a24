/- Validity of a graph by both texts; lists of lists compared. -/
import Derived.Test.YtcljocmblplhcaaPx12
import Derived.Test.YtcljocmblplhcaaPx12
import Derived.Test.YtcljocmblplhcaaPx13
import Derived.Test.YtcljocmblplhcaaSpecC
namespace Go.Proofs.Ytcljocmblplhcaa.Pl
open Go.RowKit Go.Proofs.Ytcljocmblplhcaa.P Go.Proofs.YtcljocmblplhcaaW.PrintWords Go.Proofs.YtcljocmblplhcaaW.PrintMore

/-- What is wrong at place i of u's list. -/
def BadAt (g : List (List Int)) (u i : Nat) : Prop := rd (g.getD u []) (i : Int) < 0 ∨ rd (g.getD u []) (i : Int) ≥ (g.length : Int) ∨ (0 < i ∧ rd (g.getD u []) ((i : Int) - 1) ≥ rd (g.getD u []) (i : Int))
def BadRow (g : List (List Int)) (u : Nat) : Prop := ∃ i, i < (g.getD u []).length ∧ BadAt g u i
def ValidP (g : List (List Int)) : Prop := ∀ u, u < g.length → ¬ BadRow g u
section
variable {g : List (List Int)}
theorem bad_cases (g : List (List Int)) (u i : Nat) : (rd (g.getD u []) (i : Int) < 0) ∨ (¬ rd (g.getD u []) (i : Int) < 0 ∧ rd (g.getD u []) (i : Int) ≥ (g.length : Int)) ∨ (¬ rd (g.getD u []) (i : Int) < 0 ∧ ¬ rd (g.getD u []) (i : Int) ≥ (g.length : Int)) := by
  by_cases h : rd (g.getD u []) (i : Int) < 0
  · exact .inl h
  · by_cases h2 : rd (g.getD u []) (i : Int) ≥ (g.length : Int)
    · exact .inr (.inl ⟨h, h2⟩)
    · exact .inr (.inr ⟨h, h2⟩)

theorem valid_row (hf : Few g) (u : Nat) (hu : u < g.length) :
    (BadRow g u ∧ Ev (fun k => digraph_Valid.l0 k g g (g.length : Int) (u : Int)) false) ∨ (¬ BadRow g u ∧ ∀ r, Ev (fun k => digraph_Valid.l0 k g g (g.length : Int) ((u + 1 : Nat) : Int)) r → Ev (fun k => digraph_Valid.l0 k g g (g.length : Int) (u : Int)) r) := by
  have g12 := hf.1
  have g20 := hf.2 u hu
  have head : ∀ r, Ev (fun k => digraph_Valid.l1 k g (g.getD u []) g (g.length : Int) (u : Int) (g.getD u []) ((g.getD u []).length : Int) 0) r → Ev (fun k => digraph_Valid.l0 k g g (g.length : Int) (u : Int)) r := fun r h => Ev.step (fun k => by
    simp only [digraph_Valid.l0]
    rw [if_pos (by omega), if_pos (by omega), if_pos (by omega), rdL]) h
  rcases Ev_scan (l := fun k i => digraph_Valid.l1 k g (g.getD u []) g (g.length : Int) (u : Int) (g.getD u []) ((g.getD u []).length : Int) i) (n := (g.getD u []).length) (bad := BadAt g u) (rb := false)
    (fun i hi hb r h => Ev.step (fun k => by
      have b1 : ¬ rd (g.getD u []) (i : Int) < 0 := fun h => hb (.inl h)
      have b2 : ¬ rd (g.getD u []) (i : Int) ≥ (g.length : Int) := fun h => hb (.inr (.inl h))
      simp only [digraph_Valid.l1]
      rw [if_pos (by omega), if_pos (by omega), if_pos (by omega), if_neg b1, if_neg b2]
      by_cases h0 : (i : Int) > 0
      · rw [if_pos h0, wrap_ok (by omega) (by omega), if_pos (by omega), if_pos (by omega), if_neg (fun h => hb (.inr (.inr ⟨by omega, h⟩))), wrap_up hi (by omega)]
      · rw [if_neg h0, wrap_up hi (by omega)]) h)
    (fun i hi hb => Ev.one (fun k => by
      simp only [digraph_Valid.l1]
      rw [if_pos (by omega), if_pos (by omega), if_pos (by omega)]
      rcases bad_cases g u i with h | ⟨h1, h2⟩ | ⟨h1, h2⟩
      · rw [if_pos h]
      · rw [if_neg h1, if_pos h2]
      · rw [if_neg h1, if_neg h2]
        rcases hb with h | h | ⟨h3, h4⟩
        · exact absurd h h1
        · exact absurd h h2
        · rw [if_pos (by omega), wrap_ok (by omega) (by omega), if_pos (by omega), if_pos (by omega), if_pos h4])) (Nat.zero_le _) with ⟨j, _, hj, hb, _, h⟩ | ⟨h1, h2⟩
  · exact .inl ⟨⟨j, hj, hb⟩, head _ h⟩
  · refine .inr ⟨fun ⟨j, hj, hb⟩ => h1 j (Nat.zero_le _) hj hb, fun r h => head r (h2 r (Ev.step (fun k => ?_) h))⟩
    simp only [digraph_Valid.l1]
    rw [if_neg (by omega), wrap_up hu (by omega)]
open Classical in
theorem valid_ev (hf : Few g) : Ev (fun k => digraph_Valid.f k g) (decide (ValidP g)) := by
  have g12 := hf.1
  rcases Ev_scan (l := fun k i => digraph_Valid.l0 k g g (g.length : Int) i) (n := g.length) (bad := BadRow g) (rb := false)
    (fun u hu hb r h => (valid_row hf u hu).elim (fun h1 => absurd h1.1 hb) (fun h1 => h1.2 r h))
    (fun u hu hb => (valid_row hf u hu).elim (fun h1 => h1.2) (fun h1 => absurd hb h1.1)) (Nat.zero_le _) with ⟨j, _, hj, hb, _, h⟩ | ⟨h1, h2⟩
  · rw [decide_eq_false (fun hv => hv j hj hb)]; exact h
  · rw [decide_eq_true (show ValidP g from fun u hu => h1 u (Nat.zero_le _) hu)]
    exact h2 true (Ev.one (fun k => by simp only [digraph_Valid.l0]; rw [if_neg (by omega)]))

theorem refvalid_row (hf : Few g) (u : Nat) (hu : u < g.length) :
    (BadRow g u ∧ Ev (fun k => petrinetref07_Valid.l0 k g (u : Int)) false) ∨ (¬ BadRow g u ∧ ∀ r, Ev (fun k => petrinetref07_Valid.l0 k g ((u + 1 : Nat) : Int)) r → Ev (fun k => petrinetref07_Valid.l0 k g (u : Int)) r) := by
  have g12 := hf.1
  have g20 := hf.2 u hu
  have head : ∀ r, Ev (fun k => petrinetref07_Valid.l1 k g (u : Int) 0) r → Ev (fun k => petrinetref07_Valid.l0 k g (u : Int)) r := fun r h => Ev.step (fun k => by
    simp only [petrinetref07_Valid.l0]
    rw [if_pos (by omega)]) h
  rcases Ev_scan (l := fun k i => petrinetref07_Valid.l1 k g (u : Int) i) (n := (g.getD u []).length) (bad := BadAt g u) (rb := false)
    (fun i hi hb r h => Ev.step (fun k => by
      have b1 : ¬ rd (g.getD u []) (i : Int) < 0 := fun h => hb (.inl h)
      have b2 : ¬ rd (g.getD u []) (i : Int) ≥ (g.length : Int) := fun h => hb (.inr (.inl h))
      simp only [petrinetref07_Valid.l1]
      rw [if_pos (by omega), if_pos (by omega), rdL, if_pos (by omega), if_pos (by omega), if_neg b1, if_neg b2]
      by_cases h0 : (i : Int) > 0
      · rw [if_pos h0, wrap_ok (by omega) (by omega), if_pos (by omega), if_pos (by omega), if_neg (fun h => hb (.inr (.inr ⟨by omega, h⟩))), wrap_up hi (by omega)]
      · rw [if_neg h0, wrap_up hi (by omega)]) h)
    (fun i hi hb => Ev.one (fun k => by
      simp only [petrinetref07_Valid.l1]
      rw [if_pos (by omega), if_pos (by omega), rdL, if_pos (by omega), if_pos (by omega)]
      rcases bad_cases g u i with h | ⟨h1, h2⟩ | ⟨h1, h2⟩
      · rw [if_pos h]
      · rw [if_neg h1, if_pos h2]
      · rw [if_neg h1, if_neg h2]
        rcases hb with h | h | ⟨h3, h4⟩
        · exact absurd h h1
        · exact absurd h h2
        · rw [if_pos (by omega), wrap_ok (by omega) (by omega), if_pos (by omega), if_pos (by omega), if_pos h4])) (Nat.zero_le _) with ⟨j, _, hj, hb, _, h⟩ | ⟨h1, h2⟩
  · exact .inl ⟨⟨j, hj, hb⟩, head _ h⟩
  · refine .inr ⟨fun ⟨j, hj, hb⟩ => h1 j (Nat.zero_le _) hj hb, fun r h => head r (h2 r (Ev.step (fun k => ?_) h))⟩
    simp only [petrinetref07_Valid.l1]
    rw [if_pos (by omega), if_pos (by omega), rdL, if_neg (by omega), wrap_up hu (by omega)]
open Classical in
theorem refvalid_ev (hf : Few g) : Ev (fun k => petrinetref07_Valid.f k g) (decide (ValidP g)) := by
  have g12 := hf.1
  rcases Ev_scan (l := fun k i => petrinetref07_Valid.l0 k g i) (n := g.length) (bad := BadRow g) (rb := false)
    (fun u hu hb r h => (refvalid_row hf u hu).elim (fun h1 => absurd h1.1 hb) (fun h1 => h1.2 r h))
    (fun u hu hb => (refvalid_row hf u hu).elim (fun h1 => h1.2) (fun h1 => absurd hb h1.1)) (Nat.zero_le _) with ⟨j, _, hj, hb, _, h⟩ | ⟨h1, h2⟩
  · rw [decide_eq_false (fun hv => hv j hj hb)]; exact h
  · rw [decide_eq_true (show ValidP g from fun u hu => h1 u (Nat.zero_le _) hu)]
    exact h2 true (Ev.one (fun k => by simp only [petrinetref07_Valid.l0]; rw [if_neg (by omega)]))
end
theorem preds_pair (g : List (List Int)) (v u : Nat) : (preds g v u).Pairwise (· < ·) := by
  unfold preds
  refine List.Pairwise.map _ (fun a b h => ?_) (List.Pairwise.filter _ List.pairwise_lt_range)
  show (a : Int) < (b : Int)
  omega
theorem rev_valid (g : List (List Int)) : ValidP (rev g) := by
  rintro u hu ⟨i, hi, hb⟩
  rw [rev_len] at hu
  unfold BadAt at hb
  rw [rev_row g u hu] at hi hb
  have hm := rd_mem (xs := preds g u g.length) (i := (i : Int)) (by omega) (by omega)
  obtain ⟨y, hy, e, _⟩ := preds_mem.1 hm
  rw [rev_len] at hb
  rcases hb with h | h | ⟨h1, h2⟩
  · omega
  · omega
  · have hp := List.pairwise_iff_getElem.1 (preds_pair g u g.length) (i - 1) i (by omega) hi (by omega)
    have e1 : rd (preds g u g.length) ((i : Int) - 1) = (preds g u g.length)[i - 1] := by
      rw [show (i : Int) - 1 = ((i - 1 : Nat) : Int) by omega, rd_nat, List.getD_eq_getElem?_getD, List.getElem?_eq_getElem (by omega)]; rfl
    have e2 : rd (preds g u g.length) (i : Int) = (preds g u g.length)[i] := by
      rw [rd_nat, List.getD_eq_getElem?_getD, List.getElem?_eq_getElem hi]; rfl
    omega
theorem lists_ev (a : List (List Int)) (ha : a.length ≤ 1000000000) (hr : ∀ u, u < a.length → (a.getD u []).length ≤ 1000000000) : Ev (fun k => petrinetref04_Lists.f k a a) true := by
  refine Ev.congr (f := fun k => petrinetref04_Lists.l0 k a a 0) (fun k => by unfold petrinetref04_Lists.f; rw [if_pos rfl]) ?_
  obtain ⟨_, _, hk⟩ := Ev_for (l := fun k (_ : Unit) i => petrinetref04_Lists.l0 k a a i) (n := a.length) (inv := fun _ _ => True)
    (fun i _ hi _ => ⟨(), trivial, fun r h => by
      refine Ev.step (f := fun k => (petrinetref04_Same.f k (a.getD i []) (a.getD i [])).bind fun t326 => (if t326 = true then (petrinetref04_Lists.l0 k a a ((i + 1 : Nat) : Int)) else (some false))) (fun k => ?_) (Ev.bind (same_ev _ _ (hr i hi)) ?_)
      · simp only [petrinetref04_Lists.l0]
        rw [if_pos (by omega), if_pos (by omega), if_pos (by omega), rdL, wrap_up hi (by omega)]
      · simp only [decide_true, ↓reduceIte]
        exact h⟩) (Nat.zero_le _) (s := ()) trivial
  exact hk true (Ev.one (fun k => by simp only [petrinetref04_Lists.l0]; rw [if_neg (by omega)]))
end Go.Proofs.Ytcljocmblplhcaa.Pl
