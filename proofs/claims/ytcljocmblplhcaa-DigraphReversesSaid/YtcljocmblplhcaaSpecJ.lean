/- Bottom components: the components that no edge leaves. -/
import Derived.Test.YtcljocmblplhcaaPx3
import Derived.Test.YtcljocmblplhcaaSpecA
import Derived.Test.YtcljocmblplhcaaSpecI
namespace Go.Proofs.Ytcljocmblplhcaa.Pl
open Go.RowKit Go.Proofs.Ytcljocmblplhcaa.P Go.Proofs.YtcljocmblplhcaaW.PrintWords Go.Proofs.YtcljocmblplhcaaW.PrintMore
section
variable {g : List (List Int)}
theorem comp_ev (hf : Few g) : ∃ c, Ev (fun k => digraph_Components.f k g) c ∧ IsComp g c := components_ev (by have := hf.1; omega) (fun u hu => by have := hf.2 u hu; omega) (rdL g)
theorem IsL.same {u w : Nat} {x : Int} (h : IsL g u x) (h1 : R g u w) (h2 : R g w u) : IsL g w x := by
  obtain ⟨m, rfl, a1, a2, a3⟩ := h
  exact ⟨m, rfl, h2.trans a1, a2.trans h1, fun y y1 y2 => a3 y (h1.trans y1) (y2.trans h2)⟩
/-- The least of a component that no edge leaves. -/
def Bot (g : List (List Int)) (v : Nat) : Prop := IsL g v (v : Int) ∧ ∀ w, R g v w → R g w v
open Classical in
noncomputable def bots (g : List (List Int)) (u : Nat) : List Int := ((List.range u).filter (fun v => decide (Bot g v))).map (fun v : Nat => (v : Int))
open Classical in
theorem bots_succ (u : Nat) : bots g (u + 1) = bots g u ++ (if Bot g u then [(u : Int)] else []) := by
  unfold bots
  rw [List.range_succ, List.filter_append, List.map_append]
  congr 1
  by_cases h : Bot g u
  · rw [if_pos h, List.filter_cons_of_pos (by simpa using h)]; rfl
  · rw [if_neg h, List.filter_cons_of_neg (by simpa using h)]; rfl
theorem bots_len (u : Nat) : (bots g u).length ≤ u := by
  unfold bots
  rw [List.length_map]
  exact Nat.le_trans (List.length_filter_le _ _) (by simp)
theorem bots_mem {u : Nat} {x : Int} : x ∈ bots g u ↔ ∃ v : Nat, v < u ∧ x = (v : Int) ∧ Bot g v := by
  unfold bots
  simp only [List.mem_map, List.mem_filter, List.mem_range, decide_eq_true_eq]
  constructor
  · rintro ⟨y, ⟨h1, h2⟩, rfl⟩; exact ⟨y, h1, rfl, h2⟩
  · rintro ⟨y, h1, rfl, h2⟩; exact ⟨y, ⟨h1, h2⟩, rfl⟩
theorem IsComp.at {c : List Int} (h : IsComp g c) {v : Nat} (hv : v < g.length) : ∃ m : Nat, rd c (v : Int) = (m : Int) ∧ m < g.length ∧ R g v m ∧ R g m v := by
  obtain ⟨m, h1, h2, h3, _⟩ := h.2 v hv
  exact ⟨m, h1, h2.lt.2, h2, h3⟩
theorem IsComp.same {c : List Int} (h : IsComp g c) {u v : Nat} (hu : u < g.length) (hv : v < g.length) : rd c (u : Int) = rd c (v : Int) ↔ R g u v ∧ R g v u := by
  constructor
  · intro e
    obtain ⟨m, h1, _, h3, h4⟩ := h.at hu
    obtain ⟨m', k1, _, k3, k4⟩ := h.at hv
    have : m' = m := by omega
    subst this
    exact ⟨h3.trans k4, k3.trans h4⟩
  · rintro ⟨h1, h2⟩
    exact ((h.2 u hu).same h1 h2).uniq (h.2 v hv)

/-- An edge that leaves the component of x, from a vertex below u or from u by the first i of its list. -/
def Out (g : List (List Int)) (c : List Int) (u i x : Nat) : Prop := ∃ v w : Nat, Ed g v w ∧ rd c (v : Int) = (x : Int) ∧ rd c (w : Int) ≠ rd c (v : Int) ∧ (v < u ∨ (v = u ∧ (w : Int) ∈ (g.getD u []).take i))
theorem bot_iff {c : List Int} (h : IsComp g c) {v : Nat} (hv : v < g.length) : (rd c (v : Int) = (v : Int) ∧ ¬ Out g c g.length 0 v) ↔ Bot g v := by
  constructor
  · rintro ⟨h1, h2⟩
    have hL := h.2 v hv
    rw [h1] at hL
    refine ⟨hL, fun w hw => ?_⟩
    have e : rd c (w : Int) = rd c (v : Int) := R.closed (p := fun w => rd c (w : Int) = rd c (v : Int)) (fun a b ha hab => by
      refine Classical.byContradiction fun hne => h2 ⟨a, b, hab, ha.trans h1, fun e => hne (e.trans ha), .inl hab.1⟩) hw rfl
    exact ((h.same hw.lt.2 hv).1 e).1
  · rintro ⟨h1, h2⟩
    refine ⟨(h.2 v hv).uniq h1, ?_⟩
    rintro ⟨a, b, hab, e1, e2, _⟩
    have e3 := (h.2 v hv).uniq h1
    obtain ⟨r1, r2⟩ := (h.same hab.1 hv).1 (e1.trans e3.symm)
    have r3 := h2 b (r2.trans (R.edge hab))
    exact e2 ((h.same hab.2.1 hab.1).2 ⟨r3.trans r2, R.edge hab⟩)
theorem take_succ_in {l : List Int} {i : Nat} (hi : i < l.length) {x : Int} : x ∈ l.take (i + 1) ↔ x ∈ l.take i ∨ x = rd l (i : Int) := by
  rw [List.take_succ_eq_append_getElem hi, List.mem_append, rd_nat, List.getD_eq_getElem?_getD, List.getElem?_eq_getElem hi]
  simp
def LeftIs (g : List (List Int)) (c : List Int) (u i : Nat) (left : List Bool) : Prop := left.length = g.length ∧ ∀ x, x < g.length → (left.getD x false = true ↔ Out g c u i x)
theorem left_step (hf : Few g) {c : List Int} (hc : IsComp g c) {u : Nat} (hu : u < g.length) (i : Nat) (hi : i < (g.getD u []).length) (left : List Bool) (h : LeftIs g c u i left) :
    ∃ left', LeftIs g c u (i + 1) left' ∧ ∀ r, Ev (fun k => digraph_Bottom.l1 k g c left' (u : Int) g (g.length : Int) (u : Int) (g.getD u []) ((g.getD u []).length : Int) ((i + 1 : Nat) : Int)) r → Ev (fun k => digraph_Bottom.l1 k g c left (u : Int) g (g.length : Int) (u : Int) (g.getD u []) ((g.getD u []).length : Int) (i : Int)) r := by
  have g12 := hf.1
  have h20 := hf.2 u hu
  have hcl := hc.1
  obtain ⟨hl, hx⟩ := h
  obtain ⟨a, ha⟩ : ∃ a, a = rd (g.getD u []) (i : Int) := ⟨_, rfl⟩
  have skip : (∀ w : Nat, a = (w : Int) → w < g.length → rd c (w : Int) = rd c (u : Int)) → LeftIs g c u (i + 1) left := fun hs => ⟨hl, fun x hxg => (hx x hxg).trans ⟨fun ⟨v, w, h1, h2, h3, h4⟩ => ⟨v, w, h1, h2, h3, h4.imp id fun h => ⟨h.1, (take_succ_in hi).2 (.inl h.2)⟩⟩, fun ⟨v, w, h1, h2, h3, h4⟩ => ⟨v, w, h1, h2, h3, h4.imp id fun h => ⟨h.1, ((take_succ_in hi).1 h.2).elim id fun e => by
    exfalso
    obtain ⟨hvu, _⟩ := h
    subst hvu
    exact h3 (hs w (ha.trans e.symm) h1.2.1)⟩⟩⟩⟩
  by_cases c1 : 0 ≤ a ∧ a < (g.length : Int)
  · obtain ⟨w0, w1⟩ := c1
    have hin : digraph_inside.f g a = some true := by unfold digraph_inside.f; rw [if_pos w0, decide_eq_true w1]
    obtain ⟨w, rfl⟩ : ∃ w : Nat, a = (w : Int) := ⟨a.toNat, by omega⟩
    have hw : w < g.length := by omega
    by_cases c2 : rd c (w : Int) = rd c (u : Int)
    · refine ⟨left, skip (fun y hy hyg => by rw [← hy]; exact c2), fun r h => Ev.step (fun k => ?_) h⟩
      simp only [digraph_Bottom.l1]
      rw [if_pos (by omega), if_pos (by omega), if_pos (by omega), ← ha, hin]
      simp only [Option.bind_some]
      rw [if_pos trivial, if_pos w0, if_pos (by omega), if_pos (by omega), if_pos (by omega), if_pos c2, wrap_up hi (by omega)]
    · obtain ⟨m, m1, m2, _⟩ := hc.at hu
      have he : Ed g u w := ⟨hu, hw, by rw [ha]; exact rd_mem (by omega) (by omega)⟩
      refine ⟨left.set m true, ⟨by rw [List.length_set]; exact hl, fun x hxg => ?_⟩, fun r h => Ev.step (fun k => ?_) h⟩
      · rw [getD_set _ _ _ _ _ (by omega)]
        by_cases e : x = m
        · rw [if_pos e]
          subst e
          exact ⟨fun _ => ⟨u, w, he, m1, c2, .inr ⟨rfl, (take_succ_in hi).2 (.inr ha)⟩⟩, fun _ => rfl⟩
        · rw [if_neg e, hx x hxg]
          exact ⟨fun ⟨v, w, h1, h2, h3, h4⟩ => ⟨v, w, h1, h2, h3, h4.imp id fun h => ⟨h.1, (take_succ_in hi).2 (.inl h.2)⟩⟩, fun ⟨v, w, h1, h2, h3, h4⟩ => ⟨v, w, h1, h2, h3, h4.imp id fun h => ⟨h.1, by
            obtain ⟨hvu, _⟩ := h
            subst hvu
            omega⟩⟩⟩
      · simp only [digraph_Bottom.l1]
        rw [if_pos (by omega), if_pos (by omega), if_pos (by omega), ← ha, hin]
        simp only [Option.bind_some]
        rw [if_pos trivial, if_pos w0, if_pos (by omega), if_pos (by omega), if_pos (by omega), if_neg c2, m1, if_pos (by omega), if_pos (by omega), wrap_up hi (by omega), Int.toNat_natCast]
  · have hin : digraph_inside.f g a = some false := by
      unfold digraph_inside.f
      by_cases h0 : a ≥ 0
      · rw [if_pos h0, decide_eq_false (fun h1 => c1 ⟨h0, h1⟩)]
      · rw [if_neg h0]
    refine ⟨left, skip (fun y hy hyg => absurd (by omega) c1), fun r h => Ev.step (fun k => ?_) h⟩
    simp only [digraph_Bottom.l1]
    rw [if_pos (by omega), if_pos (by omega), if_pos (by omega), ← ha, hin]
    simp only [Option.bind_some]
    rw [if_neg (by decide), wrap_up hi (by omega)]
theorem bottom_ev (hf : Few g) : Ev (fun k => digraph_Bottom.f k g) (bots g g.length) := by
  have g12 := hf.1
  obtain ⟨c, hcev, hc⟩ := comp_ev hf
  have hcl := hc.1
  obtain ⟨left, ⟨hll, hleft⟩, hk⟩ := Ev_for (l := fun k (left : List Bool) u => digraph_Bottom.l0 k g c left g (g.length : Int) u) (n := g.length) (inv := fun u left => LeftIs g c u 0 left)
    (fun u left hu h => by
      have h20 := hf.2 u hu
      obtain ⟨left', h', hk'⟩ := Ev_for (l := fun k (left : List Bool) i => digraph_Bottom.l1 k g c left (u : Int) g (g.length : Int) (u : Int) (g.getD u []) ((g.getD u []).length : Int) i) (n := (g.getD u []).length) (inv := fun i left => LeftIs g c u i left) (fun i left hi h => left_step hf hc hu i hi left h) (Nat.zero_le _) h
      refine ⟨left', ⟨h'.1, fun x hxg => (h'.2 x hxg).trans ⟨fun ⟨v, w, h1, h2, h3, h4⟩ => ⟨v, w, h1, h2, h3, .inl (h4.elim (fun h => by omega) fun h => by omega)⟩, fun ⟨v, w, h1, h2, h3, h4⟩ => ⟨v, w, h1, h2, h3, h4.elim (fun h => ?_) (fun h => absurd h.2 (by simp))⟩⟩⟩, fun r h => Ev.step (f := fun k => digraph_Bottom.l1 k g c left (u : Int) g (g.length : Int) (u : Int) (g.getD u []) ((g.getD u []).length : Int) 0) (fun k => ?_) (hk' r (Ev.step (fun k => ?_) h))⟩
      · by_cases e : v = u
        · subst e; exact .inr ⟨rfl, by rw [List.take_length]; exact h1.2.2⟩
        · exact .inl (by omega)
      · simp only [digraph_Bottom.l0]
        rw [if_pos (by omega), if_pos (by omega), if_pos (by omega), rdL]
      · simp only [digraph_Bottom.l1]
        rw [if_neg (by omega), wrap_up hu (by omega)])
    (Nat.zero_le _) (s := List.replicate g.length false) ⟨by simp, fun x hxg => ⟨fun h => by simp [List.getD_eq_getElem?_getD, hxg] at h, fun ⟨v, w, h1, h2, h3, h4⟩ => h4.elim (fun h => absurd h (Nat.not_lt_zero _)) (fun h => absurd h.2 (by simp))⟩⟩
  obtain ⟨out, hout, hk2⟩ := Ev_for (l := fun k (out : List Int) u => digraph_Bottom.l2 k c left out (g.length : Int) u) (n := g.length) (inv := fun u out => out = bots g u)
    (fun u out hu ho => by
      subst ho
      have hbl := bots_len (g := g) u
      have hiff := bot_iff hc hu
      refine ⟨_, rfl, fun r h => Ev.step (fun k => ?_) h⟩
      simp only [digraph_Bottom.l2]
      rw [if_pos (by omega), if_pos (by omega), if_pos (by omega)]
      by_cases e1 : rd c (u : Int) = (u : Int)
      · rw [if_pos e1, if_pos (by omega), rdOf_nat]
        by_cases e2 : left.getD u false = true
        · rw [if_pos e2, wrap_up hu (by omega), bots_succ, if_neg (fun hb => (hiff.2 hb).2 ((hleft u hu).1 e2)), List.append_nil]
        · rw [if_neg e2, if_pos (by omega), wrap_up hu (by omega), bots_succ, if_pos (hiff.1 ⟨e1, fun ho => e2 ((hleft u hu).2 ho)⟩)]
      · rw [if_neg e1, wrap_up hu (by omega), bots_succ, if_neg (fun hb => e1 (hiff.2 hb).1), List.append_nil])
    (Nat.zero_le _) (s := []) rfl
  subst hout
  refine Ev.bind hcev (Ev.congr (f := fun k => digraph_Bottom.l0 k g c (List.replicate g.length false) g (g.length : Int) 0) (fun k => ?_) (hk _ (Ev.step (f := fun k => digraph_Bottom.l2 k c left [] (g.length : Int) 0) (fun k => ?_) (hk2 _ (Ev.one (fun k => ?_))))))
  · rw [if_pos (by omega), if_pos (by omega), Int.toNat_natCast]
  · simp only [digraph_Bottom.l0]
    rw [if_neg (by omega)]
  · simp only [digraph_Bottom.l2]
    rw [if_neg (by omega)]
end
end Go.Proofs.Ytcljocmblplhcaa.Pl
