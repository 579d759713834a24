/- The plain law of DigraphReverses: for every graph the law's function answers true, with rounds enough. -/
import Derived.Test.YtcljocmblplhcaaPx22
import Derived.Test.YtcljocmblplhcaaSpecJ
import Derived.Test.YtcljocmblplhcaaSpecG
import Derived.Test.YtcljocmblplhcaaSpecH
import Derived.Test.YtcljocmblplhcaaSpecM
namespace Go.Proofs.Ytcljocmblplhcaa.Pure
open Go.RowKit Go.Proofs.Ytcljocmblplhcaa.P Go.Proofs.Ytcljocmblplhcaa.Pl Go.Proofs.YtcljocmblplhcaaW.PrintWords
theorem alive : Ev (fun k => petrinetlaw07_alive.f k) true := Ev.of (fun k => petrinetlaw07_alive.mono k) (k := 60) (by decide +kernel)
section
variable {g : List (List Int)}
/-! ### reversed three times -/
theorem rev_three (g : List (List Int)) : rev (rev (rev g)) = rev g := by
  have h1 : (rev (rev (rev g))).length = (rev g).length := by simp [rev_len]
  refine List.ext_getElem h1 (fun v hv hv2 => ?_)
  have hv3 : v < g.length := by rw [rev_len] at hv2; exact hv2
  have e1 := rev_row (rev (rev g)) v (by simp [rev_len]; exact hv3)
  have e2 := rev_row g v hv3
  rw [List.getD_eq_getElem?_getD, List.getElem?_eq_getElem hv] at e1
  rw [List.getD_eq_getElem?_getD, List.getElem?_eq_getElem hv2] at e2
  have e3 : (rev (rev g)).length = g.length := by simp [rev_len]
  rw [e3] at e1
  have e4 : preds (rev (rev g)) v g.length = preds g v g.length := by
    unfold preds
    congr 1
    refine List.filter_congr (fun u hu => ?_)
    have hu := List.mem_range.1 hu
    rw [decide_eq_decide]
    have a1 : (v : Int) ∈ (rev (rev g)).getD u [] ↔ Ed (rev (rev g)) u v := ⟨fun h => ⟨by rw [e3]; exact hu, by rw [e3]; exact hv3, h⟩, fun h => h.2.2⟩
    have a2 : (v : Int) ∈ g.getD u [] ↔ Ed g u v := ⟨fun h => ⟨hu, hv3, h⟩, fun h => h.2.2⟩
    rw [a1, a2, rev_ed, rev_ed]
  exact e1.trans (e4.trans e2.symm)
theorem rev_wk : ∀ (k u v : Nat), Wk g k u v → R (rev g) v u
  | 0, u, v, h => by
    obtain ⟨rfl, h⟩ := h
    exact R.refl (by rw [rev_len]; exact h)
  | k + 1, u, v, h => by
    obtain ⟨w, h1, h2⟩ := h
    exact (rev_wk k w v h2).trans (R.edge (rev_ed.2 h1))
theorem rev_wk' : ∀ (k u v : Nat), Wk (rev g) k u v → R g v u
  | 0, u, v, h => by
    obtain ⟨rfl, h⟩ := h
    exact R.refl (by rw [rev_len] at h; exact h)
  | k + 1, u, v, h => by
    obtain ⟨w, h1, h2⟩ := h
    exact (rev_wk' k w v h2).trans (R.edge (rev_ed.1 h1))
theorem rev_R {u v : Nat} : R (rev g) u v ↔ R g v u := ⟨fun ⟨k, h⟩ => rev_wk' k u v h, fun ⟨k, h⟩ => rev_wk k v u h⟩
theorem rev_comp {c : List Int} (h : IsComp (rev g) c) : IsComp g c := by
  refine ⟨h.1.trans (rev_len g), fun v hv => ?_⟩
  obtain ⟨m, h1, h2, h3, h4⟩ := h.2 v (by rw [rev_len]; exact hv)
  exact ⟨m, h1, rev_R.1 h3, rev_R.1 h2, fun w w1 w2 => h4 w (rev_R.2 w2) (rev_R.2 w1)⟩
/-! ### an order exactly if there is no cycle -/
theorem all_le : ∀ (n : Nat) (l : List Int), (∀ v : Nat, v < n → (v : Int) ∈ l) → n ≤ l.length
  | 0, _, _ => Nat.zero_le _
  | n + 1, l, h => by
    have hn := h n (Nat.lt_succ_self _)
    have := all_le n (l.erase (n : Int)) (fun v hv => (List.mem_erase_of_ne (by omega)).2 (h v (by omega)))
    rw [List.length_erase_of_mem hn] at this
    have : 0 < l.length := List.length_pos_of_mem hn
    omega
theorem tp_cyclic {out : List Int} {r : List Int × Bool} (h : Tp g out r) : out.Nodup → (∀ x ∈ out, ∃ v : Nat, x = (v : Int) ∧ v < g.length) → (∀ v : Nat, (v : Int) ∈ out → ¬ Rp g v v) → (∀ u v : Nat, Ed g u v → (v : Int) ∈ out → (u : Int) ∈ out) → (r.2 = true ↔ ∀ v, ¬ Rp g v v) := by
  induction h with
  | @done out h =>
    intro hd hm hr _
    refine ⟨fun _ v hv => ?_, fun _ => rfl⟩
    refine hr v ?_ hv
    refine Classical.byContradiction fun hn => ?_
    have hvg := hv.toR.lt.1
    have key : ∀ (l : List Int), l.Nodup → (∀ x ∈ l, ∃ y : Nat, x = (y : Int) ∧ y < g.length) → ∃ l' : List Nat, l'.Nodup ∧ l'.length = l.length ∧ ∀ y, y ∈ l' → (y : Int) ∈ l := by
      intro l
      induction l with
      | nil => intro _ _; exact ⟨[], List.nodup_nil, rfl, fun y hy => by cases hy⟩
      | cons a l ih =>
        intro h1 h2
        obtain ⟨h3, h4⟩ := List.nodup_cons.1 h1
        obtain ⟨y, rfl, _⟩ := h2 a (List.mem_cons_self ..)
        obtain ⟨l', k1, k2, k3⟩ := ih h4 (fun x hx => h2 x (List.mem_cons_of_mem _ hx))
        refine ⟨y :: l', List.nodup_cons.2 ⟨fun hy => h3 (k3 y hy), k1⟩, by simp [k2], fun z hz => ?_⟩
        rcases List.mem_cons.1 hz with rfl | hz
        · exact List.mem_cons_self ..
        · exact List.mem_cons_of_mem _ (k3 z hz)
    obtain ⟨l', k1, k2, k3⟩ := key out hd hm
    have := nodup_le g.length (v :: l') (List.nodup_cons.2 ⟨fun hy => hn (k3 v hy), k1⟩) (fun x hx => by
      rcases List.mem_cons.1 hx with rfl | hx
      · exact hvg
      · obtain ⟨y, h1, h2⟩ := hm _ (k3 x hx)
        omega)
    simp at this
    omega
  | @stuck out h1 h2 =>
    intro hd hm hr hc
    refine ⟨fun h => (by cases h), fun hno => ?_⟩
    exfalso
    -- a vertex that is not listed has another one before it: a walk of any length
    have ex : ∃ v, v < g.length ∧ (v : Int) ∉ out := by
      refine Classical.byContradiction fun hn => ?_
      have := all_le g.length out (fun v hv => Classical.byContradiction fun hne => hn ⟨v, hv, hne⟩)
      omega
    have pre : ∀ v, v < g.length → (v : Int) ∉ out → ∃ u, Ed g u v ∧ (u : Int) ∉ out := fun v hv hvo => by
      refine Classical.byContradiction fun hn => h2 v ⟨hv, hvo, fun u hu => Classical.byContradiction fun huo => hn ⟨u, hu, huo⟩⟩
    have walk : ∀ n : Nat, ∃ l : List Nat, l.length = n + 1 ∧ l.Nodup ∧ (∀ x ∈ l, x < g.length) ∧ ∃ a l', l = a :: l' ∧ (a : Int) ∉ out ∧ ∀ x ∈ l', Rp g a x := by
      intro n
      induction n with
      | zero =>
        obtain ⟨v, hv, hvo⟩ := ex
        exact ⟨[v], rfl, by simp, fun x hx => by simp at hx; omega, v, [], rfl, hvo, fun x hx => by cases hx⟩
      | succ n ih =>
        obtain ⟨l, l1, l2, l3, a, l', rfl, l4, l5⟩ := ih
        obtain ⟨u, hu, huo⟩ := pre a (l3 a (List.mem_cons_self ..)) l4
        have hR : ∀ x ∈ a :: l', Rp g u x := fun x hx => by
          rcases List.mem_cons.1 hx with rfl | hx
          · exact ⟨0, Wk.one hu⟩
          · exact Rp.trans ⟨0, Wk.one hu⟩ (l5 x hx)
        refine ⟨u :: a :: l', by simp at l1 ⊢; omega, List.nodup_cons.2 ⟨fun hm => hno u (hR u hm), l2⟩, fun x hx => ?_, u, a :: l', rfl, huo, hR⟩
        rcases List.mem_cons.1 hx with rfl | hx
        · exact hu.1
        · exact l3 x hx
    obtain ⟨l, l1, l2, l3, _⟩ := walk g.length
    have := nodup_le g.length l l2 l3
    omega
  | @next out v r h1 h2 h3 _ ih =>
    intro hd hm hr hc
    obtain ⟨hv, hvo, hall⟩ := h2
    have hback : ∀ u, R g u v → u = v ∨ (u : Int) ∈ out := fun u hu => by
      have hrev := rev_R.2 hu
      exact R.closed (g := rev g) (p := fun u => u = v ∨ (u : Int) ∈ out) (fun a b ha he => by
        have he := rev_ed.1 he
        rcases ha with rfl | ha
        · exact .inr (hall b he)
        · exact .inr (hc b a he ha)) hrev (.inl rfl)
    refine ih (List.nodup_append.2 ⟨hd, by simp, fun a ha b hb e => ?_⟩) (fun x hx => ?_) (fun w hw hww => ?_) (fun a b he hb => ?_)
    · simp at hb
      rw [e, hb] at ha
      exact hvo ha
    · rcases List.mem_append.1 hx with hx | hx
      · exact hm x hx
      · simp at hx; exact ⟨v, hx, hv⟩
    · rcases List.mem_append.1 hw with hw | hw
      · exact hr w hw hww
      · have hwv : w = v := by simp at hw; omega
        subst hwv
        obtain ⟨k, hk⟩ := hww
        obtain ⟨x, x1, x2⟩ := hk.snoc
        have hx := hall x x2
        have hout : ∀ y, R g y x → (y : Int) ∈ out := fun y hy => R.closed (g := rev g) (p := fun y => (y : Int) ∈ out) (fun a b ha he => hc b a (rev_ed.1 he) ha) (rev_R.2 hy) hx
        exact hvo (hout w ⟨k, x1⟩)
    · rcases List.mem_append.1 hb with hb | hb
      · exact List.mem_append.2 (.inl (hc a b he hb))
      · have : b = v := by simp at hb; omega
        subst this
        exact List.mem_append.2 (.inl (hall a he))
end
open Classical in
theorem DigraphReverses (l0 : List (List Int)) (_h : l0.length ≤ maxLen ∧ ∀ x ∈ l0, x.length ≤ maxLen ∧ ∀ y ∈ x, (Lit.int .i64 y).wf = true) : ∃ k, petrinetlaw07_DigraphReverses.f k l0 = some true := by
  obtain ⟨b, hb, hf⟩ := few_ev l0
  refine Ev.rounds (g := fun k => petrinetlaw07_DigraphReverses.f k l0) ?_
  unfold petrinetlaw07_DigraphReverses.f
  refine Ev.bind hb ?_
  cases b with
  | false =>
    simp only [Bool.false_eq_true, ↓reduceIte]
    exact Ev.bind alive (Ev.some _)
  | true =>
    have hf := hf rfl
    have h12 := hf.1
    have hf1 := rev_few hf
    have hf2 := rev_few hf1
    simp only [↓reduceIte]
    refine Ev.bind (reverse_ev l0 hf) ?_
    try dsimp only
    refine Ev.bind (reverse_ev _ hf1) ?_
    try dsimp only
    refine Ev.bind (reverse_ev _ hf2) ?_
    try dsimp only
    rw [rev_three]
    refine Ev.bind (lists_ev (rev l0) (by have := hf1.1; omega) (fun u hu => by have := hf1.2 u hu; omega)) ?_
    simp only [↓reduceIte]
    obtain ⟨c1, e1, t1⟩ := comp_ev hf1
    obtain ⟨c2, e2, t2⟩ := comp_ev hf
    have hu := (rev_comp t1).uniq t2
    subst hu
    refine Ev.bind e1 ?_
    try dsimp only
    refine Ev.bind e2 ?_
    try dsimp only
    refine Ev.bind (same_ev c1 c1 (by rw [t2.1]; omega)) ?_
    simp only [decide_true, Bool.not_true]
    obtain ⟨r, er, hr⟩ := topo_ev hf
    have hcyc := tp_cyclic hr List.nodup_nil (fun x hx => by cases hx) (fun v hv => by cases hv) (fun u v _ hv => by cases hv)
    refine Ev.step (f := fun k => (digraph_Topo.f k l0).bind fun bt => petrinetlaw07_DigraphReverses.l0 k l0 bt.2 false 0) (fun k => by simp only [petrinetlaw07_DigraphReverses.j0]; rw [if_neg Bool.false_ne_true]) (Ev.bind er ?_)
    obtain ⟨b, hb, hk⟩ := Ev_for (l := fun k (b : Bool) v => petrinetlaw07_DigraphReverses.l0 k l0 r.2 b v) (n := l0.length) (inv := fun i b => b = true ↔ ∃ v, v < i ∧ Rp l0 v v)
      (fun v b hv hb => by
        cases b with
        | true =>
          obtain ⟨w, w1, w2⟩ := hb.1 rfl
          refine ⟨true, ⟨fun _ => ⟨w, by omega, w2⟩, fun _ => rfl⟩, fun r h => Ev.step (fun k => ?_) h⟩
          simp only [petrinetlaw07_DigraphReverses.l0]
          rw [if_pos (by omega), if_pos trivial, wrap_up hv (by omega)]
        | false =>
          have hcy := cyclic_ev hf (v : Int)
          have e : decide (∃ x : Nat, (v : Int) = (x : Int) ∧ Rp l0 x x) = decide (Rp l0 v v) := by
            rw [decide_eq_decide]
            exact ⟨fun ⟨x, h1, h2⟩ => by rw [show v = x by omega]; exact h2, fun h => ⟨v, rfl, h⟩⟩
          rw [e] at hcy
          refine ⟨decide (Rp l0 v v), ⟨fun h => ⟨v, Nat.lt_succ_self _, of_decide_eq_true h⟩, fun ⟨w, w1, w2⟩ => ?_⟩, fun q h => Ev.step (fun k => ?_) (Ev.bind (f := fun k t => petrinetlaw07_DigraphReverses.l0 k l0 r.2 t ((v + 1 : Nat) : Int)) hcy h)⟩
          · by_cases e2 : w = v
            · subst e2; exact decide_eq_true w2
            · have := hb.2 ⟨w, by omega, w2⟩
              cases this
          · simp only [petrinetlaw07_DigraphReverses.l0]
            rw [if_pos (by omega), if_neg Bool.false_ne_true, wrap_up hv (by omega)])
      (Nat.zero_le _) (s := false) ⟨fun h => (by cases h), fun ⟨w, h, _⟩ => absurd h (Nat.not_lt_zero _)⟩
    refine hk true (Ev.step (f := fun k => (petrinetlaw07_alive.f k).bind fun t => some t) (fun k => ?_) (Ev.bind alive (Ev.some _)))
    simp only [petrinetlaw07_DigraphReverses.l0]
    rw [if_neg (by omega), if_pos ?_]
    rw [bne_iff_ne]
    intro e
    by_cases h : ∃ v, v < l0.length ∧ Rp l0 v v
    · have h1 := hb.2 h
      rw [h1] at e
      obtain ⟨v, _, hv⟩ := h
      exact hcyc.1 e v hv
    · have h1 : ¬ b = true := fun h2 => h (hb.1 h2)
      rw [← e] at h1
      exact h1 (hcyc.2 (fun v hv => h ⟨v, hv.toR.lt.1, hv⟩))
end Go.Proofs.Ytcljocmblplhcaa.Pure
