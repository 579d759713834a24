/- The plain law of DigraphMutual: for every graph the law's function answers true, with rounds enough. -/
import Derived.Test.YtcljocmblplhcaaPx14
import Derived.Test.YtcljocmblplhcaaSpecN
import Derived.Test.YtcljocmblplhcaaSpecG
namespace Go.Proofs.Ytcljocmblplhcaa.Pure
open Go.RowKit Go.Proofs.Ytcljocmblplhcaa.P Go.Proofs.Ytcljocmblplhcaa.Pl Go.Proofs.YtcljocmblplhcaaW.PrintWords
theorem alive : Ev (fun k => petrinetlaw07_alive.f k) true := Ev.of (fun k => petrinetlaw07_alive.mono k) (k := 60) (by decide +kernel)
section
variable {g : List (List Int)} {c : List Int} {t : List (List Bool)}
/-- What can be reached, from each of the first u vertices. -/
def Tab (g : List (List Int)) (u : Nat) (t : List (List Bool)) : Prop := t.length = u ∧ ∀ a, a < u → (t.getD a []).length = g.length ∧ ∀ v, v < g.length → ((t.getD a []).getD v false = true ↔ R g a v)
theorem from_one {u v : Nat} : From g [(u : Int)] [(u : Int)].length v ↔ R g u v := by
  constructor
  · rintro ⟨j, s, h1, h2, h3⟩
    have hj : j = 0 := by simpa using h1
    subst hj
    have : s = u := by
      have h2' : (u : Int) = (s : Int) := h2
      omega
    rw [this] at h3
    exact h3
  · intro h
    exact ⟨0, u, by simp, rfl, h⟩
theorem tab_made (hf : Few g) (c b : List Int) : ∃ t, Tab g g.length t ∧ ∀ r, Ev (fun k => petrinetlaw07_DigraphMutual.l0 k g c b t (g.length : Int)) r → Ev (fun k => petrinetlaw07_DigraphMutual.l0 k g c b [] 0) r := by
  have g12 := hf.1
  exact Ev_for (l := fun k (t : List (List Bool)) u => petrinetlaw07_DigraphMutual.l0 k g c b t u) (n := g.length) (inv := fun u t => Tab g u t)
    (fun u t hu ⟨hl, ht⟩ => by
      obtain ⟨o, ho, hol, hov⟩ := reach_ev hf [(u : Int)] (by simp)
      refine ⟨t ++ [o], ⟨by simp [hl], fun a ha => ?_⟩, fun r h => Ev.step (fun k => by simp only [petrinetlaw07_DigraphMutual.l0]; rw [if_pos (by omega)]) (Ev.bind ho (Ev.congr (fun k => ?_) h))⟩
      · rw [getD_app]
        by_cases e : a = t.length
        · rw [if_pos e]
          refine ⟨hol, fun v hv => (hov v hv).trans ?_⟩
          rw [show a = u by omega]
          exact from_one
        · rw [if_neg e]
          exact ht a (by omega)
      · rw [if_pos (by omega), if_pos (by omega), if_pos (by omega), rdOf_nat, if_pos ((hov u hu).2 (from_one.2 (R.refl hu))), if_pos (by omega), wrap_up hu (by omega)])
    (Nat.zero_le _) (s := []) ⟨rfl, fun a ha => absurd ha (Nat.not_lt_zero _)⟩
theorem found (hf : Few g) (ht : Tab g g.length t) (c : List Int) (u : Nat) (hu : u < g.length) : ∀ r, Ev (fun k => petrinetlaw07_DigraphMutual.l3 k g c (bots g g.length) t (u : Int) 0) r → Ev (fun k => petrinetlaw07_DigraphMutual.l2 k g c (bots g g.length) t (u : Int) false 0) r := by
  have g12 := hf.1
  obtain ⟨htl, htv⟩ := ht
  obtain ⟨hr1, hr2⟩ := htv u hu
  obtain ⟨bs, hbs⟩ : ∃ bs, bs = bots g g.length := ⟨_, rfl⟩
  have hbl : bs.length ≤ g.length := by rw [hbs]; exact bots_len _
  rw [← hbs]
  have at_ : ∀ j : Nat, j < bs.length → ∃ v : Nat, v < g.length ∧ rd bs (j : Int) = (v : Int) ∧ Bot g v := fun j hj => by
    obtain ⟨v, h1, h2, h3⟩ := bots_mem.1 (hbs ▸ rd_mem (xs := bs) (i := (j : Int)) (by omega) (by omega))
    exact ⟨v, h1, by rw [hbs]; exact h2, h3⟩
  obtain ⟨b, hb, hk⟩ := Ev_for (l := fun k (b : Bool) i => petrinetlaw07_DigraphMutual.l2 k g c bs t (u : Int) b i) (n := bs.length) (inv := fun i b => b = true ↔ ∃ j v : Nat, j < i ∧ rd bs (j : Int) = (v : Int) ∧ R g u v)
    (fun i b hi hb => by
      cases b with
      | true =>
        obtain ⟨j, v, h1, h2, h3⟩ := hb.1 rfl
        refine ⟨true, ⟨fun _ => ⟨j, v, by omega, h2, h3⟩, fun _ => rfl⟩, fun r h => Ev.step (fun k => ?_) h⟩
        simp only [petrinetlaw07_DigraphMutual.l2]
        rw [if_pos (by omega), if_pos trivial, wrap_up hi (by omega)]
      | false =>
        obtain ⟨v, hv, he, _⟩ := at_ i hi
        refine ⟨(t.getD u []).getD v false, ⟨fun h => ⟨i, v, Nat.lt_succ_self _, he, (hr2 v hv).1 h⟩, fun ⟨j, w, h1, h2, h3⟩ => ?_⟩, fun r h => Ev.step (fun k => ?_) h⟩
        · by_cases e : j = i
          · subst e
            have : w = v := by omega
            subst this
            exact (hr2 w hv).2 h3
          · have := hb.2 ⟨j, w, by omega, h2, h3⟩
            cases this
        · simp only [petrinetlaw07_DigraphMutual.l2]
          rw [if_pos (by omega), if_neg Bool.false_ne_true, if_pos (by omega), he, if_pos (by omega), if_pos (by omega), if_pos (by omega), if_pos (by omega), if_pos (by omega), rdB, if_pos (by omega), rdOf_nat, wrap_up hi (by omega)])
    (Nat.zero_le _) (s := false) ⟨fun h => (by cases h), fun ⟨j, _, h, _⟩ => absurd h (Nat.not_lt_zero _)⟩
  have hbt : b = true := hb.2 (by
    obtain ⟨v, h1, h2⟩ := reaches_bot hu
    obtain ⟨j, hj, e⟩ := mem_rd (hbs ▸ bots_mem.2 ⟨v, h2.lt.2, rfl, h1⟩ : (v : Int) ∈ bs)
    exact ⟨j, v, hj, e, h2⟩)
  subst hbt
  exact fun r h => hk r (Ev.step (fun k => by simp only [petrinetlaw07_DigraphMutual.l2]; rw [if_neg (by omega), if_pos trivial]) h)
theorem mutual_row (hf : Few g) (hc : IsComp g c) (ht : Tab g g.length t) (u : Nat) (hu : u < g.length) : ∀ r, Ev (fun k => petrinetlaw07_DigraphMutual.l1 k g c (bots g g.length) t ((u + 1 : Nat) : Int)) r → Ev (fun k => petrinetlaw07_DigraphMutual.l1 k g c (bots g g.length) t (u : Int)) r := by
  have g12 := hf.1
  have hcl := hc.1
  have hfound := found hf ht c u hu
  obtain ⟨htl, htv⟩ := ht
  obtain ⟨hu1, hu2⟩ := htv u hu
  obtain ⟨_, _, hk⟩ := Ev_for (l := fun k (_ : Unit) v => petrinetlaw07_DigraphMutual.l3 k g c (bots g g.length) t (u : Int) v) (n := g.length) (inv := fun _ _ => True)
    (fun v _ hv _ => ⟨(), trivial, fun r h => Ev.step (fun k => by
      obtain ⟨hv1, hv2⟩ := htv v hv
      have hs := hc.same hu hv
      simp only [petrinetlaw07_DigraphMutual.l3]
      rw [if_pos (by omega), if_pos (by omega), if_pos (by omega), if_pos (by omega), if_pos (by omega), if_pos (by omega), rdB, rdB, if_pos (by omega), rdOf_nat, rdOf_nat]
      by_cases e1 : (t.getD u []).getD v false = true
      · rw [if_pos e1, if_pos (by omega), if_pos (by omega), if_neg ?_, wrap_up hv (by omega)]
        have e3 : ((rd c (u : Int)) == (rd c (v : Int))) = (t.getD v []).getD u false := by
          rw [Bool.eq_iff_iff, beq_iff_eq, hs, hv2 u hu]
          exact ⟨fun h => h.2, fun h => ⟨(hu2 v hv).1 e1, h⟩⟩
        rw [e3]
        simp
      · rw [if_neg e1, if_neg ?_, wrap_up hv (by omega)]
        have e3 : ((rd c (u : Int)) == (rd c (v : Int))) = false := by
          rw [beq_eq_false_iff_ne]
          exact fun e => e1 ((hu2 v hv).2 (hs.1 e).1)
        rw [e3]
        simp) h⟩) (Nat.zero_le _) (s := ()) trivial
  exact fun r h => Ev.step (fun k => by simp only [petrinetlaw07_DigraphMutual.l1]; rw [if_pos (by omega)]) (hfound r (hk r (Ev.step (fun k => by simp only [petrinetlaw07_DigraphMutual.l3]; rw [if_neg (by omega), wrap_up hu (by omega)]) h)))
end
theorem DigraphMutual (l0 : List (List Int)) (_h : l0.length ≤ maxLen ∧ ∀ x ∈ l0, x.length ≤ maxLen ∧ ∀ y ∈ x, (Lit.int .i64 y).wf = true) : ∃ k, petrinetlaw07_DigraphMutual.f k l0 = some true := by
  obtain ⟨b, hb, hf⟩ := few_ev l0
  refine Ev.rounds (g := fun k => petrinetlaw07_DigraphMutual.f k l0) ?_
  unfold petrinetlaw07_DigraphMutual.f
  refine Ev.bind hb ?_
  cases b with
  | false =>
    simp only [Bool.false_eq_true, ↓reduceIte]
    exact Ev.bind alive (Ev.some _)
  | true =>
    have hf := hf rfl
    have h12 := hf.1
    simp only [↓reduceIte]
    obtain ⟨c, e1, hc⟩ := comp_ev hf
    refine Ev.bind e1 ?_
    try dsimp only
    refine Ev.bind (bottom_ev hf) ?_
    try dsimp only
    rw [hc.1]
    simp only [↓reduceIte]
    obtain ⟨t, ht, hk⟩ := tab_made hf c (bots l0 l0.length)
    obtain ⟨_, _, hk2⟩ := Ev_for (l := fun k (_ : Unit) u => petrinetlaw07_DigraphMutual.l1 k l0 c (bots l0 l0.length) t u) (n := l0.length) (inv := fun _ _ => True) (fun u _ hu _ => ⟨(), trivial, mutual_row hf hc ht u hu⟩) (Nat.zero_le _) (s := ()) trivial
    refine hk true (Ev.step (f := fun k => petrinetlaw07_DigraphMutual.l1 k l0 c (bots l0 l0.length) t 0) (fun k => ?_) (hk2 true (Ev.step (f := fun k => (petrinetlaw07_alive.f k).bind fun t => some t) (fun k => ?_) (Ev.bind alive (Ev.some _)))))
    · simp only [petrinetlaw07_DigraphMutual.l0]
      rw [if_neg (by omega)]
    · simp only [petrinetlaw07_DigraphMutual.l1]
      rw [if_neg (by omega)]
end Go.Proofs.Ytcljocmblplhcaa.Pure
