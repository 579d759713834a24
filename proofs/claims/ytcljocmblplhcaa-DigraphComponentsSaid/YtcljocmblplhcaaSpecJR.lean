/- Components and bottom components, the reference's. -/
import Derived.Test.YtcljocmblplhcaaPx6
import Derived.Test.YtcljocmblplhcaaPx6
import Derived.Test.YtcljocmblplhcaaSpecJ
import Derived.Test.YtcljocmblplhcaaSpecK
namespace Go.Proofs.Ytcljocmblplhcaa.Pl
open Go.RowKit Go.Proofs.Ytcljocmblplhcaa.P Go.Proofs.YtcljocmblplhcaaW.PrintWords Go.Proofs.YtcljocmblplhcaaW.PrintMore
section
variable {g : List (List Int)}
theorem refcomp_row (hf : Few g) {t : List (List Bool)} (ht : IsTab t g.length (Rp g)) (v : Nat) (hv : v < g.length) (c : List Int) (hcl : c.length = v) :
    ∃ m : Nat, IsL g v (m : Int) ∧ ∀ r, Ev (fun k => petrinetref07_Components.l0 k g t (c ++ [(m : Int)]) ((v + 1 : Nat) : Int)) r → Ev (fun k => petrinetref07_Components.l0 k g t c (v : Int)) r := by
  have g12 := hf.1
  have htl := ht.1
  obtain ⟨hv1, hv2⟩ := ht.2 v hv
  have fin : ∀ u : Nat, u ≤ v → IsL g v (u : Int) → (∀ r, Ev (fun k => petrinetref07_Components.l0 k g t (c ++ [(u : Int)]) ((v + 1 : Nat) : Int)) r → Ev (fun k => petrinetref07_Components.l1 k g t c (v : Int) (u : Int)) r) → (∀ r, Ev (fun k => petrinetref07_Components.l1 k g t c (v : Int) (u : Int)) r → Ev (fun k => petrinetref07_Components.l1 k g t c (v : Int) 0) r) → ∃ m : Nat, IsL g v (m : Int) ∧ ∀ r, Ev (fun k => petrinetref07_Components.l0 k g t (c ++ [(m : Int)]) ((v + 1 : Nat) : Int)) r → Ev (fun k => petrinetref07_Components.l0 k g t c (v : Int)) r := fun u _ hL h1 h2 => ⟨u, hL, fun r h => Ev.step (fun k => by
    simp only [petrinetref07_Components.l0]
    rw [if_pos (by omega)]) (h2 r (h1 r h))⟩
  have skip : ∀ u : Nat, u < v → ¬ (Rp g u v ∧ Rp g v u) → ∀ r, Ev (fun k => petrinetref07_Components.l1 k g t c (v : Int) ((u + 1 : Nat) : Int)) r → Ev (fun k => petrinetref07_Components.l1 k g t c (v : Int) (u : Int)) r := fun u hu hn r h => Ev.step (fun k => by
    obtain ⟨hu1, hu2⟩ := ht.2 u (by omega)
    simp only [petrinetref07_Components.l1]
    rw [if_pos (by omega), if_pos (by omega), if_pos (by omega), if_pos (by omega), rdB, rdB, if_pos (by omega), rdOf_nat, rdOf_nat]
    by_cases e1 : (t.getD u []).getD v false = true
    · rw [if_pos e1, if_pos (by omega), if_pos (by omega), if_neg (fun e2 => hn ⟨(hu2 v hv).1 e1, (hv2 u (by omega)).1 e2⟩), wrap_up hu (by omega)]
    · rw [if_neg e1, wrap_up hu (by omega)]) h
  have last : ∀ u : Nat, u < v → Rp g u v ∧ Rp g v u → ∀ r, Ev (fun k => petrinetref07_Components.l0 k g t (c ++ [(u : Int)]) ((v + 1 : Nat) : Int)) r → Ev (fun k => petrinetref07_Components.l1 k g t c (v : Int) (u : Int)) r := fun u hu hn r h => Ev.step (fun k => by
    obtain ⟨hu1, hu2⟩ := ht.2 u (by omega)
    simp only [petrinetref07_Components.l1]
    rw [if_pos (by omega), if_pos (by omega), if_pos (by omega), if_pos (by omega), rdB, rdB, if_pos (by omega), rdOf_nat, rdOf_nat, if_pos ((hu2 v hv).2 hn.1), if_pos (by omega), if_pos (by omega), if_pos ((hv2 u (by omega)).2 hn.2), if_pos (by omega), wrap_up hv (by omega)]) h
  rcases least_or (fun u => Rp g u v ∧ Rp g v u) v with ⟨u, hu, h1, h2⟩ | hno
  · obtain ⟨_, _, hk⟩ := Ev_for (l := fun k (_ : Unit) i => petrinetref07_Components.l1 k g t c (v : Int) i) (n := u) (inv := fun _ _ => True) (fun i _ hi _ => ⟨(), trivial, skip i (by omega) (h2 i hi)⟩) (Nat.zero_le _) (s := ()) trivial
    refine fin u (by omega) ⟨u, rfl, h1.2.toR, h1.1.toR, fun w w1 w2 => ?_⟩ (last u hu h1) hk
    refine Nat.le_of_not_lt fun hlt => h2 w hlt ⟨?_, ?_⟩
    · exact (R_iff.1 w2).elim (fun h => by omega) id
    · exact (R_iff.1 w1).elim (fun h => by omega) id
  · obtain ⟨_, _, hk⟩ := Ev_for (l := fun k (_ : Unit) i => petrinetref07_Components.l1 k g t c (v : Int) i) (n := v) (inv := fun _ _ => True) (fun i _ hi _ => ⟨(), trivial, skip i (by omega) (hno i hi)⟩) (Nat.zero_le _) (s := ()) trivial
    refine fin v (Nat.le_refl _) ⟨v, rfl, R.refl hv, R.refl hv, fun w w1 w2 => ?_⟩ (fun r h => Ev.step (fun k => ?_) h) hk
    · refine Nat.le_of_not_lt fun hlt => hno w hlt ⟨?_, ?_⟩
      · exact (R_iff.1 w2).elim (fun h => by omega) id
      · exact (R_iff.1 w1).elim (fun h => by omega) id
    · simp only [petrinetref07_Components.l1]
      rw [if_neg (by omega), if_pos (by omega), wrap_up hv (by omega)]
theorem refcomp_ev (hf : Few g) : ∃ c, Ev (fun k => petrinetref07_Components.f k g) c ∧ IsComp g c := by
  have g12 := hf.1
  obtain ⟨t, htab, ht⟩ := tab_ev hf
  obtain ⟨c, ⟨hcl, hc⟩, hk⟩ := Ev_for (l := fun k (c : List Int) v => petrinetref07_Components.l0 k g t c v) (n := g.length) (inv := fun v c => c.length = v ∧ ∀ u, u < v → IsL g u (rd c (u : Int)))
    (fun v c hv ⟨hcl, hc⟩ => by
      obtain ⟨m, hm, hk⟩ := refcomp_row hf ht v hv c hcl
      refine ⟨_, ⟨by simp [hcl], fun u hu => ?_⟩, hk⟩
      rw [rd_app _ _ _ (by omega)]
      by_cases e : u = v
      · subst e; rw [if_pos (by omega)]; exact hm
      · rw [if_neg (by omega)]; exact hc u (by omega))
    (Nat.zero_le _) (s := []) ⟨rfl, fun u hu => absurd hu (Nat.not_lt_zero _)⟩
  exact ⟨c, Ev.bind htab (hk c (Ev.one (fun k => by simp only [petrinetref07_Components.l0]; rw [if_neg (by omega)]))), hcl, hc⟩
theorem refbot_row (hf : Few g) {t : List (List Bool)} (ht : IsTab t g.length (Rp g)) {c : List Int} (hc : IsComp g c) (v : Nat) (hv : v < g.length) :
    ∀ r, Ev (fun k => petrinetref07_Bottom.l0 k g t c (bots g (v + 1)) ((v + 1 : Nat) : Int)) r → Ev (fun k => petrinetref07_Bottom.l0 k g t c (bots g v) (v : Int)) r := by
  have g12 := hf.1
  have htl := ht.1
  have hcl := hc.1
  have hbl := bots_len (g := g) v
  obtain ⟨hv1, hv2⟩ := ht.2 v hv
  obtain ⟨b, hb, hk⟩ := Ev_for (l := fun k (b : Bool) u => petrinetref07_Bottom.l1 k g t c (bots g v) (v : Int) b u) (n := g.length) (inv := fun u b => b = false ↔ (rd c (v : Int) = (v : Int) ∧ ∀ w, w < u → Rp g v w → rd c (w : Int) = (v : Int)))
    (fun u b hu hb => by
      cases b with
      | true =>
        refine ⟨true, ⟨fun h => (by cases h), fun h => (hb.2 ⟨h.1, fun w hw => h.2 w (by omega)⟩)⟩, fun r h => Ev.step (fun k => ?_) h⟩
        simp only [petrinetref07_Bottom.l1]
        rw [if_pos (by omega), if_pos trivial, wrap_up hu (by omega)]
      | false =>
        obtain ⟨hb1, hb2⟩ := hb.1 rfl
        by_cases e : (t.getD v []).getD u false = true
        · refine ⟨(rd c (u : Int)) != (v : Int), ⟨fun h => ⟨hb1, fun w hw hr => ?_⟩, fun h => ?_⟩, fun r h => Ev.step (fun k => ?_) h⟩
          · by_cases e2 : w = u
            · subst e2; simpa using h
            · exact hb2 w (by omega) hr
          · have := h.2 u (Nat.lt_succ_self _) ((hv2 u hu).1 e)
            simpa using this
          · simp only [petrinetref07_Bottom.l1]
            rw [if_pos (by omega), if_neg Bool.false_ne_true, if_pos (by omega), if_pos (by omega), if_pos (by omega), rdB, if_pos (by omega), rdOf_nat, if_pos e, if_pos (by omega), wrap_up hu (by omega)]
        · refine ⟨false, ⟨fun _ => ⟨hb1, fun w hw hr => ?_⟩, fun _ => rfl⟩, fun r h => Ev.step (fun k => ?_) h⟩
          · by_cases e2 : w = u
            · subst e2; exact absurd ((hv2 w hu).2 hr) e
            · exact hb2 w (by omega) hr
          · simp only [petrinetref07_Bottom.l1]
            rw [if_pos (by omega), if_neg Bool.false_ne_true, if_pos (by omega), if_pos (by omega), if_pos (by omega), rdB, if_pos (by omega), rdOf_nat, if_neg e, wrap_up hu (by omega)])
    (Nat.zero_le _) (s := (rd c (v : Int)) != (v : Int)) ⟨fun h => ⟨by simpa using h, fun w hw => absurd hw (Nat.not_lt_zero _)⟩, fun h => by simpa using h.1⟩
  have hiff : b = false ↔ Bot g v := by
    rw [hb]
    constructor
    · rintro ⟨h1, h2⟩
      have hL := hc.2 v hv
      rw [h1] at hL
      refine ⟨hL, fun w hw => ?_⟩
      rcases R_iff.1 hw with ⟨rfl, _⟩ | h
      · exact hw
      · exact ((hc.same hw.lt.2 hv).1 ((h2 w hw.lt.2 h).trans h1.symm)).1
    · rintro ⟨h1, h2⟩
      have e := (hc.2 v hv).uniq h1
      exact ⟨e, fun w hw hr => ((hc.same hw hv).2 ⟨h2 w hr.toR, hr.toR⟩).trans e⟩
  refine fun r h => Ev.step (f := fun k => petrinetref07_Bottom.l1 k g t c (bots g v) (v : Int) ((rd c (v : Int)) != (v : Int)) 0) (fun k => ?_) (hk r (Ev.step (fun k => ?_) h))
  · simp only [petrinetref07_Bottom.l0]
    rw [if_pos (by omega), if_pos (by omega), if_pos (by omega)]
  · simp only [petrinetref07_Bottom.l1]
    rw [if_neg (by omega)]
    cases b with
    | true => rw [if_pos rfl, wrap_up hv (by omega), bots_succ, if_neg (fun hB => by have := hiff.2 hB; cases this), List.append_nil]
    | false => rw [if_neg Bool.false_ne_true, if_pos (by omega), wrap_up hv (by omega), bots_succ, if_pos (hiff.1 rfl)]
theorem refbottom_ev (hf : Few g) : Ev (fun k => petrinetref07_Bottom.f k g) (bots g g.length) := by
  have g12 := hf.1
  obtain ⟨t, htab, ht⟩ := tab_ev hf
  obtain ⟨c, hcev, hc⟩ := refcomp_ev hf
  obtain ⟨out, hout, hk⟩ := Ev_for (l := fun k (out : List Int) v => petrinetref07_Bottom.l0 k g t c out v) (n := g.length) (inv := fun v out => out = bots g v)
    (fun v out hv ho => by subst ho; exact ⟨_, rfl, refbot_row hf ht hc v hv⟩) (Nat.zero_le _) (s := []) rfl
  subst hout
  exact Ev.bind htab (Ev.bind hcev (hk _ (Ev.one (fun k => by simp only [petrinetref07_Bottom.l0]; rw [if_neg (by omega)]))))
end
end Go.Proofs.Ytcljocmblplhcaa.Pl
