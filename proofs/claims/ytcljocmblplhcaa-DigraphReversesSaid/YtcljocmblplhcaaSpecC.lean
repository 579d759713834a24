/- Reversal: the lists of predecessors, ascending, without repetitions. -/
import Derived.Test.YtcljocmblplhcaaPx1
import Derived.Test.YtcljocmblplhcaaSpecA
namespace Go.Proofs.Ytcljocmblplhcaa.Pl
open Go.RowKit Go.Proofs.Ytcljocmblplhcaa.P Go.Proofs.YtcljocmblplhcaaW.PrintWords Go.Proofs.YtcljocmblplhcaaW.PrintMore

/-- The predecessors of v below u. -/
def preds (g : List (List Int)) (v u : Nat) : List Int := ((List.range u).filter (fun x => decide ((v : Int) ∈ g.getD x []))).map (fun x : Nat => (x : Int))
theorem preds_succ (g : List (List Int)) (v u : Nat) : preds g v (u + 1) = preds g v u ++ (if (v : Int) ∈ g.getD u [] then [(u : Int)] else []) := by
  unfold preds
  rw [List.range_succ, List.filter_append, List.map_append]
  congr 1
  by_cases h : (v : Int) ∈ g.getD u []
  · rw [if_pos h, List.filter_cons_of_pos (by simpa using h)]; rfl
  · rw [if_neg h, List.filter_cons_of_neg (by simpa using h)]; rfl
theorem preds_mem {g : List (List Int)} {v u : Nat} {x : Int} : x ∈ preds g v u ↔ ∃ y : Nat, y < u ∧ x = (y : Int) ∧ (v : Int) ∈ g.getD y [] := by
  unfold preds
  simp only [List.mem_map, List.mem_filter, List.mem_range, decide_eq_true_eq]
  constructor
  · rintro ⟨y, ⟨h1, h2⟩, rfl⟩; exact ⟨y, h1, rfl, h2⟩
  · rintro ⟨y, h1, rfl, h2⟩; exact ⟨y, ⟨h1, h2⟩, rfl⟩
theorem preds_len (g : List (List Int)) (v u : Nat) : (preds g v u).length ≤ u := by
  unfold preds
  rw [List.length_map]
  exact Nat.le_trans (List.length_filter_le _ _) (by simp)
/-- The lists of predecessors. -/
def rev (g : List (List Int)) : List (List Int) := (List.range g.length).map (fun v => preds g v g.length)
theorem rev_len (g : List (List Int)) : (rev g).length = g.length := by simp [rev]
theorem rev_row (g : List (List Int)) (v : Nat) (hv : v < g.length) : (rev g).getD v [] = preds g v g.length := by
  unfold rev
  rw [List.getD_eq_getElem?_getD, List.getElem?_map, List.getElem?_range hv]; rfl
theorem rev_ed {g : List (List Int)} {u v : Nat} : Ed (rev g) u v ↔ Ed g v u := by
  unfold Ed
  rw [rev_len]
  constructor
  · rintro ⟨h1, h2, h3⟩
    rw [rev_row g u h1, preds_mem] at h3
    obtain ⟨y, hy, e, hm⟩ := h3
    have : y = v := by omega
    subst this
    exact ⟨h2, h1, hm⟩
  · rintro ⟨h1, h2, h3⟩
    refine ⟨h2, h1, ?_⟩
    rw [rev_row g u h2, preds_mem]
    exact ⟨v, h1, rfl, h3⟩
theorem rev_few {g : List (List Int)} (h : Few g) : Few (rev g) := by
  have g12 := h.1
  refine ⟨by rw [rev_len]; exact g12, fun u hu => ?_⟩
  rw [rev_len] at hu
  rw [rev_row g u hu]
  have := preds_len g u g.length
  omega

/-- Rows while vertex u's list is gone through, up to place i. -/
def RevAt (g : List (List Int)) (u i : Nat) (x : List (List Int)) : Prop := x.length = g.length ∧ ∀ v, v < g.length → x.getD v [] = preds g v u ++ (if (v : Int) ∈ (g.getD u []).take i then [(u : Int)] else [])
theorem last_is (l : List Int) (u : Int) : rd (l ++ [u]) (((l ++ [u]).length : Int) - 1) = u := by
  rw [rd_app _ _ _ (by simp), if_pos (by simp)]
theorem last_not {l : List Int} {u : Int} (h0 : l.length ≠ 0) (h : ∀ x ∈ l, x ≠ u) : rd l ((l.length : Int) - 1) ≠ u := h _ (rd_mem (by omega) (by omega))
theorem take_succ_mem {l : List Int} {i : Nat} (hi : i < l.length) {x : Int} : x ∈ l.take (i + 1) ↔ x ∈ l.take i ∨ x = rd l (i : Int) := by
  rw [List.take_succ_eq_append_getElem hi, List.mem_append, rd_nat, List.getD_eq_getElem?_getD, List.getElem?_eq_getElem hi]
  simp
theorem rev_step (g : List (List Int)) (hg : Few g) (u : Nat) (hu : u < g.length) (i : Nat) (hi : i < (g.getD u []).length) (x : List (List Int)) (h : RevAt g u i x) :
    ∃ x', RevAt g u (i + 1) x' ∧ ∀ r, Ev (fun k => digraph_Reverse.l1 k g x' (u : Int) g (g.length : Int) (u : Int) (g.getD u []) ((g.getD u []).length : Int) ((i + 1 : Nat) : Int)) r → Ev (fun k => digraph_Reverse.l1 k g x (u : Int) g (g.length : Int) (u : Int) (g.getD u []) ((g.getD u []).length : Int) (i : Int)) r := by
  obtain ⟨hl, hx⟩ := h
  have h20 := hg.2 u hu
  have g12 := hg.1
  obtain ⟨w, hw⟩ : ∃ w, w = rd (g.getD u []) (i : Int) := ⟨_, rfl⟩
  by_cases c1 : 0 ≤ w ∧ w < (g.length : Int)
  · obtain ⟨w0, w1⟩ := c1
    have hin : digraph_inside.f g w = some true := by unfold digraph_inside.f; rw [if_pos w0, decide_eq_true w1]
    obtain ⟨v, rfl⟩ : ∃ v : Nat, w = (v : Int) := ⟨w.toNat, by omega⟩
    have hv : v < g.length := by omega
    by_cases c2 : (v : Int) ∈ (g.getD u []).take i
    · have hrow := hx v hv
      rw [if_pos c2] at hrow
      refine ⟨x, ⟨hl, fun y hy => ?_⟩, fun r h => Ev.step (fun k => ?_) h⟩
      · rw [hx y hy]
        congr 1
        have e : ((y : Int) ∈ (g.getD u []).take (i + 1)) ↔ ((y : Int) ∈ (g.getD u []).take i) := by
          rw [take_succ_mem hi, ← hw]
          exact ⟨fun h => h.elim id (fun h => by rw [h]; exact c2), .inl⟩
        simp only [e]
      · simp only [digraph_Reverse.l1]
        rw [if_pos (by omega), if_pos (by omega), if_pos (by omega), ← hw, hin]
        simp only [Option.bind_some]
        rw [if_pos trivial, if_pos w0, if_pos (by omega), rdL, hrow, if_neg (by simp; omega), wrap_ok (by rw [List.length_append]; omega) (by have := preds_len g v u; simp; omega), if_pos (by simp), if_pos (by omega), if_pos (last_is _ _), wrap_up hi (by omega)]
    · have hrow := hx v hv
      rw [if_neg c2, List.append_nil] at hrow
      refine ⟨x.set v (preds g v u ++ [(u : Int)]), ⟨by rw [List.length_set]; exact hl, fun y hy => ?_⟩, fun r h => Ev.step (fun k => ?_) h⟩
      · rw [getD_set _ _ _ _ _ (by omega)]
        by_cases e : y = v
        · subst e
          rw [if_pos rfl, if_pos ((take_succ_mem hi).2 (.inr hw))]
        · rw [if_neg e, hx y hy]
          congr 1
          have e : ((y : Int) ∈ (g.getD u []).take (i + 1)) ↔ ((y : Int) ∈ (g.getD u []).take i) := by
            rw [take_succ_mem hi, ← hw]
            exact ⟨fun h => h.elim id (fun h => by omega), .inl⟩
          simp only [e]
      · simp only [digraph_Reverse.l1]
        have hp := preds_len g v u
        rw [if_pos (by omega), if_pos (by omega), if_pos (by omega), ← hw, hin]
        simp only [Option.bind_some]
        rw [if_pos trivial, if_pos w0, if_pos (by omega), rdL, hrow]
        by_cases c3 : ((preds g v u).length : Int) = 0
        · rw [if_pos c3, if_pos (by omega), wrap_up hi (by omega), Int.toNat_natCast]
        · rw [if_neg c3, wrap_ok (by omega) (by omega), if_pos (by omega), if_pos (by omega), if_neg (last_not (by omega) (fun z hz => by
            obtain ⟨y, hy, rfl, _⟩ := preds_mem.1 hz
            omega)), if_pos (by omega), wrap_up hi (by omega), Int.toNat_natCast]
  · have hin : digraph_inside.f g w = some false := by
      unfold digraph_inside.f
      by_cases h0 : w ≥ 0
      · rw [if_pos h0, decide_eq_false (fun h1 => c1 ⟨h0, h1⟩)]
      · rw [if_neg h0]
    refine ⟨x, ⟨hl, fun y hy => ?_⟩, fun r h => Ev.step (fun k => ?_) h⟩
    · rw [hx y hy]
      congr 1
      have e : ((y : Int) ∈ (g.getD u []).take (i + 1)) ↔ ((y : Int) ∈ (g.getD u []).take i) := by
        rw [take_succ_mem hi, ← hw]
        exact ⟨fun h => h.elim id (fun h => absurd (by omega) c1), .inl⟩
      simp only [e]
    · simp only [digraph_Reverse.l1]
      rw [if_pos (by omega), if_pos (by omega), if_pos (by omega), ← hw, hin]
      simp only [Option.bind_some]
      rw [if_neg (by decide), wrap_up hi (by omega)]
theorem reverse_ev (g : List (List Int)) (hg : Few g) : Ev (fun k => digraph_Reverse.f k g) (rev g) := by
  have g12 := hg.1
  obtain ⟨x, ⟨hl, hx⟩, hk⟩ := Ev_for (l := fun k (x : List (List Int)) i => digraph_Reverse.l0 k g x g (g.length : Int) i) (n := g.length) (inv := fun u x => x.length = g.length ∧ ∀ v, v < g.length → x.getD v [] = preds g v u)
    (fun u x hu ⟨hl, hx⟩ => by
      obtain ⟨x', ⟨hl', hx'⟩, hk'⟩ := Ev_for (l := fun k (x : List (List Int)) i => digraph_Reverse.l1 k g x (u : Int) g (g.length : Int) (u : Int) (g.getD u []) ((g.getD u []).length : Int) i) (n := (g.getD u []).length) (inv := fun i x => RevAt g u i x) (fun i x hi h => rev_step g hg u hu i hi x h) (Nat.zero_le _) (s := x) ⟨hl, fun v hv => by rw [hx v hv]; simp⟩
      refine ⟨x', ⟨hl', fun v hv => ?_⟩, fun r h => Ev.step (f := fun k => digraph_Reverse.l1 k g x (u : Int) g (g.length : Int) (u : Int) (g.getD u []) ((g.getD u []).length : Int) 0) (fun k => ?_) (hk' r (Ev.step (fun k => ?_) h))⟩
      · rw [hx' v hv, preds_succ, List.take_length]
      · simp only [digraph_Reverse.l0]
        rw [if_pos (by omega), if_pos (by omega), if_pos (by omega), rdL]
      · simp only [digraph_Reverse.l1]
        rw [if_neg (by omega), wrap_up hu (by omega)])
    (Nat.zero_le _) (s := List.replicate g.length []) ⟨by simp, fun v hv => by rw [List.getD_eq_getElem?_getD, List.getElem?_replicate, if_pos hv]; rfl⟩
  have e : x = rev g := by
    refine List.ext_getElem (by rw [hl, rev_len]) (fun i h1 h2 => ?_)
    have h3 := hx i (by omega)
    rw [← rev_row g i (by omega), List.getD_eq_getElem?_getD, List.getD_eq_getElem?_getD, List.getElem?_eq_getElem h1, List.getElem?_eq_getElem h2] at h3
    exact h3
  rw [← e]
  refine Ev.congr (f := fun k => digraph_Reverse.l0 k g (List.replicate g.length []) g (g.length : Int) 0) (fun k => ?_) (hk x (Ev.one (fun k => by simp only [digraph_Reverse.l0]; rw [if_neg (by omega)])))
  unfold digraph_Reverse.f
  rw [if_pos (by omega), if_pos (by omega), Int.toNat_natCast]

end Go.Proofs.Ytcljocmblplhcaa.Pl
