/- Least shortest paths: both texts come to the same path. -/
import Derived.Test.YtcljocmblplhcaaPx11
import Derived.Test.YtcljocmblplhcaaPx6
import Derived.Test.YtcljocmblplhcaaSpecD
namespace Go.Proofs.Ytcljocmblplhcaa.Pl
open Go.RowKit Go.Proofs.Ytcljocmblplhcaa.P Go.Proofs.YtcljocmblplhcaaW.PrintWords Go.Proofs.YtcljocmblplhcaaW.PrintMore

/-- The least number with a property. -/
theorem least {p : Nat → Prop} {n : Nat} (h : p n) : ∃ m, p m ∧ m ≤ n ∧ ∀ j, j < m → ¬ p j := by
  induction n using Nat.strongRecOn with
  | _ n ih =>
    by_cases e : ∃ j, j < n ∧ p j
    · obtain ⟨j, hj, hp⟩ := e
      obtain ⟨m, h1, h2, h3⟩ := ih j hj hp
      exact ⟨m, h1, by omega, h3⟩
    · exact ⟨n, h, Nat.le_refl _, fun j hj hp => e ⟨j, hj, hp⟩⟩

section
variable {g : List (List Int)} {t : Nat} {d : List Int}
/-- Is u one step nearer? -/
def Step (g : List (List Int)) (d : List Int) (v k u : Nat) : Prop := Ed g v u ∧ rd d (u : Int) = (k : Int)

theorem path_pick (hf : Few g) (hd : IsDist g t d) {v k m : Nat} (hv : v < g.length) (hdv : rd d (v : Int) = ((k + 1 : Nat) : Int)) (hk : k < g.length) (hm : Step g d v k m) (hl : ∀ j, j < m → ¬ Step g d v k j) (out : List Int) (hout : out.length ≤ 1000) :
    ∀ r, Ev (fun f => digraph_Path.l0 f g (t : Int) d (out ++ [(m : Int)]) (m : Int)) r → Ev (fun f => digraph_Path.l1 f g (t : Int) d out (v : Int) (-1) (g.getD v []) ((g.getD v []).length : Int) 0) r := by
  have g12 := hf.1
  have h20 := hf.2 v hv
  have hdl := hd.1
  obtain ⟨x, hx, hk'⟩ := Ev_for (l := fun f (x : Int) i => digraph_Path.l1 f g (t : Int) d out (v : Int) x (g.getD v []) ((g.getD v []).length : Int) i) (n := (g.getD v []).length)
    (inv := fun i x => (x = -1 ∧ ∀ j, j < i → ∀ u : Nat, rd (g.getD v []) (j : Int) = (u : Int) → ¬ Step g d v k u) ∨ ∃ u : Nat, x = (u : Int) ∧ Step g d v k u ∧ ∀ j, j < i → ∀ y : Nat, rd (g.getD v []) (j : Int) = (y : Int) → Step g d v k y → u ≤ y)
    (fun i x hi hx => by
      obtain ⟨w, hw⟩ : ∃ w, w = rd (g.getD v []) (i : Int) := ⟨_, rfl⟩
      have hmem : w ∈ g.getD v [] := by rw [hw]; exact rd_mem (by omega) (by omega)
      -- where the element doesn't count
      have skip : (∀ u : Nat, w = (u : Int) → ¬ Step g d v k u) → ((x = -1 ∧ ∀ j, j < i + 1 → ∀ u : Nat, rd (g.getD v []) (j : Int) = (u : Int) → ¬ Step g d v k u) ∨ ∃ u : Nat, x = (u : Int) ∧ Step g d v k u ∧ ∀ j, j < i + 1 → ∀ y : Nat, rd (g.getD v []) (j : Int) = (y : Int) → Step g d v k y → u ≤ y) := fun hs => by
        rcases hx with ⟨h1, h2⟩ | ⟨u, h1, h2, h3⟩
        · refine .inl ⟨h1, fun j hj u hu => ?_⟩
          rcases Nat.lt_or_ge j i with h | h
          · exact h2 j h u hu
          · exact hs u (by rw [hw, show i = j by omega]; exact hu)
        · refine .inr ⟨u, h1, h2, fun j hj y hy hst => ?_⟩
          rcases Nat.lt_or_ge j i with h | h
          · exact h3 j h y hy hst
          · exact absurd hst (hs y (by rw [hw, show i = j by omega]; exact hy))
      by_cases c1 : 0 ≤ w ∧ w < (g.length : Int)
      · obtain ⟨w0, w1⟩ := c1
        have hin : digraph_inside.f g w = some true := by unfold digraph_inside.f; rw [if_pos w0, decide_eq_true w1]
        obtain ⟨u, rfl⟩ : ∃ u : Nat, w = (u : Int) := ⟨w.toNat, by omega⟩
        have hed : Ed g v u := ⟨hv, by omega, hmem⟩
        by_cases c2 : rd d (u : Int) = (k : Int)
        · have hst : Step g d v k u := ⟨hed, c2⟩
          by_cases c3 : x < 0
          · refine ⟨(u : Int), .inr ⟨u, rfl, hst, fun j hj y hy hsy => ?_⟩, fun r h => Ev.step (fun f => ?_) h⟩
            · rcases Nat.lt_or_ge j i with h | h
              · rcases hx with ⟨_, h2⟩ | ⟨u', h1, _⟩
                · exact absurd hsy (h2 j h y hy)
                · omega
              · have : rd (g.getD v []) (j : Int) = (u : Int) := by rw [show j = i by omega, ← hw]
                omega
            · simp only [digraph_Path.l1]
              rw [if_pos (by omega), if_pos (by omega), if_pos (by omega), ← hw, hin]
              simp only [Option.bind_some]
              rw [if_pos trivial, if_pos w0, if_pos (by omega), if_pos (by omega), if_pos (by omega), hdv, wrap_ok (by omega) (by omega), if_pos (by omega), if_pos c3, wrap_up hi (by omega)]
          · by_cases c4 : (u : Int) < x
            · refine ⟨(u : Int), .inr ⟨u, rfl, hst, fun j hj y hy hsy => ?_⟩, fun r h => Ev.step (fun f => ?_) h⟩
              · rcases Nat.lt_or_ge j i with h | h
                · rcases hx with ⟨h1, h2⟩ | ⟨u', h1, _, h3⟩
                  · omega
                  · have := h3 j h y hy hsy
                    omega
                · have : rd (g.getD v []) (j : Int) = (u : Int) := by rw [show j = i by omega, ← hw]
                  omega
              · simp only [digraph_Path.l1]
                rw [if_pos (by omega), if_pos (by omega), if_pos (by omega), ← hw, hin]
                simp only [Option.bind_some]
                rw [if_pos trivial, if_pos w0, if_pos (by omega), if_pos (by omega), if_pos (by omega), hdv, wrap_ok (by omega) (by omega), if_pos (by omega), if_neg c3, if_pos c4, wrap_up hi (by omega)]
            · refine ⟨x, ?_, fun r h => Ev.step (fun f => ?_) h⟩
              · rcases hx with ⟨h1, h2⟩ | ⟨u', h1, h2, h3⟩
                · omega
                · refine .inr ⟨u', h1, h2, fun j hj y hy hsy => ?_⟩
                  rcases Nat.lt_or_ge j i with h | h
                  · exact h3 j h y hy hsy
                  · have : rd (g.getD v []) (j : Int) = (u : Int) := by rw [show j = i by omega, ← hw]
                    omega
              · simp only [digraph_Path.l1]
                rw [if_pos (by omega), if_pos (by omega), if_pos (by omega), ← hw, hin]
                simp only [Option.bind_some]
                rw [if_pos trivial, if_pos w0, if_pos (by omega), if_pos (by omega), if_pos (by omega), hdv, wrap_ok (by omega) (by omega), if_pos (by omega), if_neg c3, if_neg c4, wrap_up hi (by omega)]
        · refine ⟨x, skip (fun y hy hst => c2 (by rw [show u = y by omega]; exact hst.2)), fun r h => Ev.step (fun f => ?_) h⟩
          simp only [digraph_Path.l1]
          rw [if_pos (by omega), if_pos (by omega), if_pos (by omega), ← hw, hin]
          simp only [Option.bind_some]
          rw [if_pos trivial, if_pos w0, if_pos (by omega), if_pos (by omega), if_pos (by omega), hdv, wrap_ok (by omega) (by omega), if_neg (by omega), wrap_up hi (by omega)]
      · have hin : digraph_inside.f g w = some false := by
          unfold digraph_inside.f
          by_cases h0 : w ≥ 0
          · rw [if_pos h0, decide_eq_false (fun h1 => c1 ⟨h0, h1⟩)]
          · rw [if_neg h0]
        refine ⟨x, skip (fun y hy hst => c1 (by have := hst.1.2.1; omega)), fun r h => Ev.step (fun f => ?_) h⟩
        simp only [digraph_Path.l1]
        rw [if_pos (by omega), if_pos (by omega), if_pos (by omega), ← hw, hin]
        simp only [Option.bind_some]
        rw [if_neg (by decide), wrap_up hi (by omega)])
    (Nat.zero_le _) (s := -1) (.inl ⟨rfl, fun j hj => absurd hj (Nat.not_lt_zero _)⟩)
  have hxm : x = (m : Int) := by
    obtain ⟨j, hj, e⟩ := mem_rd hm.1.2.2
    rcases hx with ⟨_, h2⟩ | ⟨u, h1, h2, h3⟩
    · exact absurd hm (h2 j hj m e)
    · have := h3 j hj m e hm
      have : ¬ u < m := fun h => hl u h h2
      omega
  subst hxm
  exact fun r h => hk' r (Ev.step (fun f => by simp only [digraph_Path.l1]; rw [if_neg (by omega), if_pos (by omega)]) h)

theorem refpath_pick (hf : Few g) (hd : IsDist g t d) {tab : List (List Bool)} (ht : IsTab tab g.length (Ed g)) {v k m : Nat} (hv : v < g.length) (hdv : rd d (v : Int) = ((k + 1 : Nat) : Int)) (hk : k < g.length) (hm : Step g d v k m) (hl : ∀ j, j < m → ¬ Step g d v k j) (out : List Int) (hout : out.length ≤ 1000) :
    ∀ r, Ev (fun f => petrinetref07_Path.l0 f d tab (out ++ [(m : Int)]) (m : Int)) r → Ev (fun f => petrinetref07_Path.l1 f d tab out (v : Int) 0) r := by
  have g12 := hf.1
  have hdl := hd.1
  obtain ⟨ht1, ht2⟩ := ht.2 v hv
  have hmg := hm.1.2.1
  intro r h
  rcases Ev_scan (l := fun f i => petrinetref07_Path.l1 f d tab out (v : Int) i) (n := m) (bad := fun _ => False) (rb := r)
    (fun i hi _ r h => Ev.step (fun f => by
      simp only [petrinetref07_Path.l1]
      rw [if_pos (by omega), if_pos (by have := ht.1; omega), if_pos (by omega), rdB, if_pos (by omega), rdOf_nat]
      by_cases c : (tab.getD v []).getD i false = true
      · have he := (ht2 i (by omega)).1 c
        have := hl i hi
        rw [if_pos c, if_pos (by omega), if_pos (by omega), hdv, wrap_ok (by omega) (by omega), if_neg (fun e => this ⟨he, by omega⟩), wrap_up hi (by omega)]
      · rw [if_neg c, wrap_up hi (by omega)]) h)
    (fun i hi hb => hb.elim) (Nat.zero_le _) with ⟨_, _, _, hb, _⟩ | ⟨_, h2⟩
  · exact hb.elim
  · refine h2 r (Ev.step (fun f => ?_) h)
    simp only [petrinetref07_Path.l1]
    rw [if_pos (by omega), if_pos (by have := ht.1; omega), if_pos (by omega), rdB, if_pos (by omega), rdOf_nat, if_pos ((ht2 m hmg).2 hm.1), if_pos (by omega), if_pos (by omega), hdv, wrap_ok (by omega) (by omega), if_pos (by rw [hm.2]; omega), if_pos (by omega)]

theorem path_both (hf : Few g) (hd : IsDist g t d) {tab : List (List Bool)} (ht : IsTab tab g.length (Ed g)) : ∀ (k v : Nat), Near g k v t → ∀ out : List Int, out.length + k ≤ 1000 →
    ∃ l, Ev (fun f => digraph_Path.l0 f g (t : Int) d out (v : Int)) (l, true) ∧ Ev (fun f => petrinetref07_Path.l0 f d tab out (v : Int)) (l, true) ∧ l.length = out.length + k := by
  have g12 := hf.1
  have hdl := hd.1
  have hdist : ∀ {k v : Nat}, Near g k v t → rd d (v : Int) = (k : Int) := fun {k v} hn => by
    rcases hd.2 v hn.1.lt.1 with ⟨_, h⟩ | ⟨j, h1, h2⟩
    · exact absurd ⟨_, hn.1⟩ h
    · rw [h1, h2.uniq hn]
  intro k
  induction k with
  | zero =>
    intro v hn out hout
    have hv := hn.1.lt.1
    have e := hdist hn
    have ev : v = t := hn.1.1
    refine ⟨out, Ev.one (fun f => ?_), Ev.one (fun f => ?_), by omega⟩
    · simp only [digraph_Path.l0]
      rw [if_pos (by rw [ev])]
    · simp only [petrinetref07_Path.l0]
      rw [if_pos (by omega), if_pos (by omega), e, if_neg (by omega)]
  | succ k ih =>
    intro v hn out hout
    have hv := hn.1.lt.1
    have hk := hn.lt
    have e := hdist hn
    obtain ⟨w, hw1, hw2⟩ := hn.next
    obtain ⟨m, hm, _, hl⟩ := least (p := Step g d v k) ⟨hw1, hdist hw2⟩
    have hmn : Near g k m t := by
      rcases hd.2 m hm.1.2.1 with ⟨h, _⟩ | ⟨j, h1, h2⟩
      · have := hm.2; omega
      · have := hm.2
        have : j = k := by omega
        exact this ▸ h2
    obtain ⟨l, h1, h2, h3⟩ := ih m hmn (out ++ [(m : Int)]) (by simp; omega)
    have hvt : v ≠ t := fun e2 => by
      have n0 : Near g 0 v t := ⟨⟨e2, hv⟩, fun j hj => absurd hj (Nat.not_lt_zero _)⟩
      have := hn.uniq n0
      omega
    refine ⟨l, Ev.step (f := fun f => digraph_Path.l1 f g (t : Int) d out (v : Int) (-1) (g.getD v []) ((g.getD v []).length : Int) 0) (fun f => ?_) (path_pick hf hd hv e (by omega) hm hl out (by omega) _ h1), Ev.step (f := fun f => petrinetref07_Path.l1 f d tab out (v : Int) 0) (fun f => ?_) (refpath_pick hf hd ht hv e (by omega) hm hl out (by omega) _ h2), by rw [h3]; simp; omega⟩
    · simp only [digraph_Path.l0]
      rw [if_neg (by omega), if_pos (by omega), if_pos (by omega), rdL]
    · simp only [petrinetref07_Path.l0]
      rw [if_pos (by omega), if_pos (by omega), e, if_pos (by omega)]

/-- Both texts, any two numbers. -/
theorem paths_ev (hf : Few g) (a b : Int) : ∃ l : List Int, ∃ ok : Bool, Ev (fun f => digraph_Path.f f g a b) (l, ok) ∧ Ev (fun f => petrinetref07_Path.f f g a b) (l, ok) ∧ l.length ≤ 1000 := by
  have g12 := hf.1
  by_cases c : (0 ≤ a ∧ a < (g.length : Int)) ∧ (0 ≤ b ∧ b < (g.length : Int))
  · obtain ⟨⟨a0, a1⟩, b0, b1⟩ := c
    obtain ⟨v, rfl⟩ : ∃ v : Nat, a = (v : Int) := ⟨a.toNat, by omega⟩
    obtain ⟨t, rfl⟩ : ∃ t : Nat, b = (t : Int) := ⟨b.toNat, by omega⟩
    have ht : t < g.length := by omega
    have hv : v < g.length := by omega
    obtain ⟨d, hd1, hd⟩ := dist_ev (h := rev g) (g := g) (t := t) (rev_few hf) (fun u v => rev_ed) (rev_len g) ht
    obtain ⟨d', hd2, hd'⟩ := refdist_ev hf ht
    obtain rfl := hd'.uniq hd
    obtain ⟨tab, htab, hT⟩ := table_ev g hf
    have i1 : digraph_inside.f g (v : Int) = some true := by unfold digraph_inside.f; rw [if_pos a0, decide_eq_true a1]
    have i2 : digraph_inside.f g (t : Int) = some true := by unfold digraph_inside.f; rw [if_pos b0, decide_eq_true b1]
    have hdl := hd.1
    have key : ∀ (l : List Int) (ok : Bool), Ev (fun f => if 0 ≤ (v : Int) then (if (v : Int) < (d'.length : Int) then (if (rd d' (v : Int)) < 0 then (some (([] : List Int), false)) else (digraph_Path.l0 f g (t : Int) d' (([(v : Int)] : List Int)) (v : Int))) else (none)) else (none)) (l, ok) → Ev (fun f => digraph_Path.f f g (v : Int) (t : Int)) (l, ok) := fun l ok h => by
      refine Ev.congr (f := fun f => digraph_Path.j0 f g (v : Int) (t : Int) false) (fun f => by
        unfold digraph_Path.f
        rw [i1, i2]
        rfl) (Ev.step (f := fun f => (digraph_Reverse.f f g).bind fun t164 => ((digraph_distances.f f t164 (t : Int)).bind fun t167 => (if 0 ≤ (v : Int) then (if (v : Int) < (t167.length : Int) then (if (rd t167 (v : Int)) < 0 then (some (([] : List Int), false)) else (digraph_Path.l0 f g (t : Int) t167 (([(v : Int)] : List Int)) (v : Int))) else (none)) else (none)))) (fun f => by
          simp only [digraph_Path.j0]
          rw [if_neg (by decide)]) (Ev.bind (reverse_ev g hf) (Ev.bind hd1 h)))
    have key2 : ∀ (l : List Int) (ok : Bool), Ev (fun f => if 0 ≤ (v : Int) then (if (v : Int) < (d'.length : Int) then (if (rd d' (v : Int)) < 0 then (some (([] : List Int), false)) else ((petrinetref07_Table.f f g).bind fun t286 => (petrinetref07_Path.l0 f d' t286 (([(v : Int)] : List Int)) (v : Int)))) else (none)) else (none)) (l, ok) → Ev (fun f => petrinetref07_Path.f f g (v : Int) (t : Int)) (l, ok) := fun l ok h => by
      refine Ev.congr (f := fun f => petrinetref07_Path.j0 f g (v : Int) (t : Int) false) (fun f => by
        unfold petrinetref07_Path.f
        rw [if_neg (by omega), if_neg (by omega), if_neg (by omega), decide_eq_false (by omega)]) (Ev.step (f := fun f => (petrinetref07_Distances.f f g (t : Int)).bind fun t282 => (if 0 ≤ (v : Int) then (if (v : Int) < (t282.length : Int) then (if (rd t282 (v : Int)) < 0 then (some (([] : List Int), false)) else ((petrinetref07_Table.f f g).bind fun t286 => (petrinetref07_Path.l0 f t282 t286 (([(v : Int)] : List Int)) (v : Int)))) else (none)) else (none))) (fun f => by
          simp only [petrinetref07_Path.j0]
          rw [if_neg (by decide)]) (Ev.bind hd2 h))
    rcases hd.2 v hv with ⟨h1, _⟩ | ⟨k, h1, h2⟩
    · refine ⟨[], false, key _ _ (Ev.congr (fun f => ?_) (Ev.some _)), key2 _ _ (Ev.congr (fun f => ?_) (Ev.some _)), by simp⟩
      · rw [if_pos (by omega), if_pos (by omega), if_pos (by omega)]
      · rw [if_pos (by omega), if_pos (by omega), if_pos (by omega)]
    · have hk := h2.lt
      obtain ⟨l, p1, p2, p3⟩ := path_both hf hd hT k v h2 [(v : Int)] (by simp; omega)
      refine ⟨l, true, key _ _ (Ev.congr (fun f => ?_) p1), key2 _ _ (Ev.congr (fun f => ?_) (Ev.bind (f := fun f t286 => petrinetref07_Path.l0 f d' t286 [(v : Int)] (v : Int)) htab p2)), by rw [p3]; simp; omega⟩
      · rw [if_pos (by omega), if_pos (by omega), if_neg (by omega)]
      · rw [if_pos (by omega), if_pos (by omega), if_neg (by omega)]
  · refine ⟨[], false, ?_, ?_, by simp⟩
    · have h1 : Ev (fun f => digraph_Path.j0 f g a b true) (([] : List Int), false) := Ev.one (fun f => by simp only [digraph_Path.j0]; rw [if_pos trivial])
      refine Ev.congr (fun f => ?_) h1
      unfold digraph_Path.f digraph_inside.f
      by_cases a0 : a ≥ 0
      · rw [if_pos a0]
        by_cases a1 : a < (g.length : Int)
        · rw [decide_eq_true a1]
          simp only [Option.bind_some, if_true]
          by_cases b0 : b ≥ 0
          · rw [if_pos b0, decide_eq_false (fun b1 => c ⟨⟨a0, a1⟩, b0, b1⟩)]; rfl
          · rw [if_neg b0]; rfl
        · rw [decide_eq_false a1]; rfl
      · rw [if_neg a0]; rfl
    · have h1 : Ev (fun f => petrinetref07_Path.j0 f g a b true) (([] : List Int), false) := Ev.one (fun f => by simp only [petrinetref07_Path.j0]; rw [if_pos trivial])
      refine Ev.congr (fun f => ?_) h1
      unfold petrinetref07_Path.f
      by_cases a0 : a < 0
      · rw [if_pos a0]
      · rw [if_neg a0]
        by_cases a1 : a ≥ (g.length : Int)
        · rw [if_pos a1]
        · rw [if_neg a1]
          by_cases b0 : b < 0
          · rw [if_pos b0]
          · rw [if_neg b0, decide_eq_true (show b ≥ (g.length : Int) by omega)]
end
end Go.Proofs.Ytcljocmblplhcaa.Pl
