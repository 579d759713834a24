/- The reference's check answers the same. -/
import Derived.Test.YtboonibkibhmhaaPx16
import Derived.Test.YtboonibkibhmhaaRefN
namespace Go.Proofs.Ytboonibkibhmhaa.Pl
open Go.RowKit Go.Proofs.Ytboonibkibhmhaa.P Go.Proofs.YtboonibkibhmhaaW.PrintWords Go.Proofs.YtboonibkibhmhaaW.PrintMore

/-! ### a place -/
theorem nmE_loop (l : List ByteArray) (s : ByteArray) (h : nameB s = true) : nmE l s = if (l.any fun o => o.toList == s.toList) = true then 6 else 0 := by unfold nmE; rw [if_pos h]
theorem refplace_ev (nm : ByteArray) {ps : List Pla} (ts : List Tra) {i : Nat} (hi : i < ps.length) (hp : ps.length ≤ 1000000) : Ev (fun k => petrinetref09_place.f k nm ps ts (i : Int)) (plR ps i) := by
  have e0 : ∀ k, petrinetref09_place.f k nm ps ts (i : Int) = (petrinetref09_Name.f k (ps.getD i zP).f0).bind fun t => if t = true then petrinetref09_place.l0 k (i : Int) 0 nm ps ts (ps.getD i zP).f0 (ps.getD i zP).f1 (ps.getD i zP).f2 else some 5 := fun k => by
    unfold petrinetref09_place.f
    rw [if_pos (by omega), if_pos (by omega), rdP]
  refine Ev.congr e0 (Ev.bind (refname_ev _) ?_)
  unfold plR
  by_cases hn : nameB (ps.getD i zP).f0 = true
  · simp only [hn, ↓reduceIte]
    have hcap : Ev (fun k => petrinetref09_place.l0 k (i : Int) (i : Int) nm ps ts (ps.getD i zP).f0 (ps.getD i zP).f1 (ps.getD i zP).f2) (placeE (ps.getD i zP).f1 (ps.getD i zP).f2) := by
      refine Ev.stepn 2 (f := fun _ => some (placeE (ps.getD i zP).f1 (ps.getD i zP).f2)) (fun k => ?_) (Ev.some _)
      simp only [petrinetref09_place.l0]
      rw [if_neg (by omega), ite_or _ _ (fun b => petrinetref09_place.j1 (k + 1) b (ps.getD i zP).f0 (ps.getD i zP).f1 (ps.getD i zP).f2)]
      simp only [petrinetref09_place.j1]
      generalize (ps.getD i zP).f1 = x
      generalize (ps.getD i zP).f2 = c
      unfold placeE
      by_cases c1 : c < 0 ∨ c > 1048576
      · rw [decide_eq_true c1, if_pos rfl, if_pos c1]
      · rw [decide_eq_false c1, if_neg Bool.false_ne_true, if_neg c1]
        by_cases c2 : x < 0
        · rw [if_pos c2, if_pos (Or.inl (Or.inl c2))]
        · rw [if_neg c2]
          by_cases c3 : x > 1048576
          · rw [if_pos c3, if_pos (Or.inl (Or.inr c3))]
          · rw [if_neg c3]
            by_cases c4 : c = 0
            · rw [if_pos c4, if_neg (by omega)]
            · rw [if_neg c4]
              by_cases c5 : x > c
              · rw [if_pos c5, if_pos (Or.inr ⟨c4, c5⟩)]
              · rw [if_neg c5, if_neg (by omega)]
    have h := Ev_loop (L := fun k j => petrinetref09_place.l0 k (i : Int) (j : Int) nm ps ts (ps.getD i zP).f0 (ps.getD i zP).f1 (ps.getD i zP).f2) (n := i) 1 (fun j => if (ps.getD j zP).f0.toList = (ps.getD i zP).f0.toList then some 6 else none) (e := placeE (ps.getD i zP).f1 (ps.getD i zP).f2)
      (fun k j hj => by
        simp only [petrinetref09_place.l0]
        rw [if_pos (by omega), if_pos (by omega), if_pos (by omega), rdP, wrap_up hj (by omega)]
        by_cases c : (ps.getD j zP).f0.toList = (ps.getD i zP).f0.toList
        · rw [if_pos c, if_pos c]; rfl
        · rw [if_neg c, if_neg c]; rfl) hcap
    rw [first_any] at h
    have e : (∃ j, j < i ∧ (ps.getD j zP).f0.toList = (ps.getD i zP).f0.toList) ↔ (((ps.take i).map (·.f0)).any fun o => o.toList == (ps.getD i zP).f0.toList) = true := by
      rw [any_take ps (·.f0) _ zP (by omega)]
      simp only [beq_iff_eq]
    rw [nmE_loop _ _ hn]
    by_cases d : ∃ j, j < i ∧ (ps.getD j zP).f0.toList = (ps.getD i zP).f0.toList
    · rw [if_pos d] at h
      rw [if_pos (e.1 d), if_pos (by decide)]
      exact h
    · rw [if_neg d] at h
      rw [if_neg (fun x => d (e.2 x)), if_neg (by decide)]
      exact h
  · simp only [hn]
    have : nmE ((ps.take i).map (·.f0)) (ps.getD i zP).f0 = 5 := by unfold nmE; rw [if_neg hn]
    rw [this, if_pos (by decide)]
    exact Ev.some _

/-! ### arcs -/
theorem refarcs_step (k : Nat) (nm : ByteArray) (ps : List Pla) (ts : List Tra) (l : List Ac) (i : Nat) (hi : i < l.length) (hl : l.length ≤ 1000000) :
    petrinetref09_arcs.l0 (k + 3) l (i : Int) nm ps ts = stepO (arcE (ps.length : Int) l i) (petrinetref09_arcs.l0 k l ((i + 1 : Nat) : Int) nm ps ts) := by
  simp only [petrinetref09_arcs.l0]
  rw [if_pos (by omega), if_pos (by omega), rdA, ite_or _ _ (fun b => petrinetref09_arcs.j1 (k + 2) l (i : Int) b nm ps ts)]
  unfold arcE
  by_cases c1 : (l.getD i zA).f0 < 0 ∨ (l.getD i zA).f0 ≥ (ps.length : Int)
  · rw [decide_eq_true c1, if_pos c1]; simp only [petrinetref09_arcs.j1, ↓reduceIte, stepO]
  · rw [decide_eq_false c1, if_neg c1]
    have e2 : ∀ b : Bool, petrinetref09_arcs.j2 (k + 1) l (i : Int) b nm ps ts = if b = true then some 8 else if (l.getD i zA).f1 < 1 ∨ (l.getD i zA).f1 > 99 then some 9 else petrinetref09_arcs.l0 k l ((i + 1 : Nat) : Int) nm ps ts := by
      intro b
      simp only [petrinetref09_arcs.j2]
      cases b with
      | true => rw [if_pos rfl, if_pos rfl]
      | false => rw [if_neg Bool.false_ne_true, if_neg Bool.false_ne_true, if_pos (by omega), if_pos (by omega), rdA, wrap_up hi (by omega), ite_or2]
    simp only [petrinetref09_arcs.j1]
    rw [if_neg Bool.false_ne_true]
    by_cases c2 : 0 < i
    · rw [if_pos (by omega), if_pos (by omega), if_pos (by omega), if_pos (by rw [wrap_ok (by omega) (by omega)]; omega), if_pos (by rw [wrap_ok (by omega) (by omega)]; omega), wrap_ok (x := (i : Int) - 1) (by omega) (by omega), show ((i : Int) - 1) = ((i - 1 : Nat) : Int) by omega, rdA, rdA, e2]
      by_cases c3 : (l.getD (i - 1) zA).f0 ≥ (l.getD i zA).f0
      · rw [decide_eq_true (show (l.getD i zA).f0 ≤ (l.getD (i - 1) zA).f0 from c3), if_pos rfl, if_pos ⟨c2, c3⟩]; rfl
      · rw [decide_eq_false (show ¬ (l.getD i zA).f0 ≤ (l.getD (i - 1) zA).f0 from c3), if_neg Bool.false_ne_true, if_neg (show ¬ (0 < i ∧ (l.getD (i - 1) zA).f0 ≥ (l.getD i zA).f0) from fun h => c3 h.2)]
        by_cases d : (l.getD i zA).f1 < 1 ∨ (l.getD i zA).f1 > 99
        · rw [if_pos d, if_pos d]; rfl
        · rw [if_neg d, if_neg d]; rfl
    · rw [if_neg (by omega), e2, if_neg Bool.false_ne_true, if_neg (show ¬ (0 < i ∧ (l.getD (i - 1) zA).f0 ≥ (l.getD i zA).f0) from fun h => c2 h.1)]
      by_cases d : (l.getD i zA).f1 < 1 ∨ (l.getD i zA).f1 > 99
      · rw [if_pos d, if_pos d]; rfl
      · rw [if_neg d, if_neg d]; rfl
theorem refarcs_ev (nm : ByteArray) (ps : List Pla) (ts : List Tra) (l : List Ac) (hl : l.length ≤ 1000000) : Ev (fun k => petrinetref09_arcs.f k nm ps ts l) (arcsE (ps.length : Int) l) :=
  Ev_loop (L := fun k i => petrinetref09_arcs.l0 k l (i : Int) nm ps ts) 3 (arcE (ps.length : Int) l) (fun k i hi => refarcs_step k nm ps ts l i hi hl)
    (Ev.one (fun k => by simp only [petrinetref09_arcs.l0]; rw [if_neg (by omega)]))

/-! ### a transition -/
theorem reftrans_ev (nm : ByteArray) {ps : List Pla} {ts : List Tra} {i : Nat} (hi : i < ts.length) (hp : ps.length ≤ 1000000) (ht : ts.length ≤ 1000000) (hT : Thin ts) : Ev (fun k => petrinetref09_trans.f k nm ps ts (i : Int)) (trR ps ts i) := by
  have e0 : ∀ k, petrinetref09_trans.f k nm ps ts (i : Int) = (petrinetref09_Name.f k (ts.getD i zT).f0).bind fun t => if t = true then petrinetref09_trans.l0 k (i : Int) 0 nm ps ts (ts.getD i zT).f0 (ts.getD i zT).f1 (ts.getD i zT).f2 (ts.getD i zT).f3 (ts.getD i zT).f4 else some 5 := fun k => by
    unfold petrinetref09_trans.f
    rw [if_pos (by omega), if_pos (by omega), rdT]
  refine Ev.congr e0 (Ev.bind (refname_ev _) ?_)
  unfold trR
  have hth := hT.at hi
  generalize ts.getD i zT = t at hth
  by_cases hn : nameB t.f0 = true
  · simp only [hn, ↓reduceIte]
    have h2 : Ev (fun k => petrinetref09_trans.l1 k (i : Int) (i : Int) nm ps ts t.f0 t.f1 t.f2 t.f3 t.f4) (transE (ps.length : Int) t) := by
      refine Ev.step (f := fun k => petrinetref09_trans.j2 k (decide (t.f4 < 0 ∨ t.f4 > 9)) nm ps ts t.f0 t.f1 t.f2 t.f3 t.f4) (fun k => ?_) ?_
      · simp only [petrinetref09_trans.l1]
        rw [if_neg (by omega)]
        exact ite_or _ _ (fun b => petrinetref09_trans.j2 k b nm ps ts t.f0 t.f1 t.f2 t.f3 t.f4)
      · unfold transE
        by_cases c : t.f4 < 0 ∨ t.f4 > 9
        · rw [decide_eq_true c, if_pos c]
          exact Ev.one (fun k => by simp only [petrinetref09_trans.j2, ↓reduceIte])
        · rw [decide_eq_false c, if_neg c]
          refine Ev.step (f := fun k => (petrinetref09_arcs.f k nm ps ts t.f1).bind fun a => if a = 0 then ((petrinetref09_arcs.f k nm ps ts t.f2).bind fun b => if b = 0 then ((petrinetref09_arcs.f k nm ps ts t.f3).bind fun c => some c) else some b) else some a) (fun k => by simp only [petrinetref09_trans.j2]; rw [if_neg Bool.false_ne_true]) ?_
          refine Ev.bind (refarcs_ev nm ps ts _ hth.2.1) ?_
          by_cases d1 : arcsE (ps.length : Int) t.f1 = 0
          · rw [if_neg (by simpa using d1)]
            simp only [d1, ↓reduceIte]
            refine Ev.bind (refarcs_ev nm ps ts _ hth.2.2.1) ?_
            by_cases d2 : arcsE (ps.length : Int) t.f2 = 0
            · rw [if_neg (by simpa using d2)]
              simp only [d2, ↓reduceIte]
              exact Ev.bind (refarcs_ev nm ps ts _ hth.2.2.2) (Ev.some _)
            · rw [if_pos d2]
              simp only [d2, ↓reduceIte]
              exact Ev.some _
          · rw [if_pos d1]
            simp only [d1, ↓reduceIte]
            exact Ev.some _
    have h1 := Ev_loop (L := fun k j => petrinetref09_trans.l1 k (i : Int) (j : Int) nm ps ts t.f0 t.f1 t.f2 t.f3 t.f4) (n := i) 1 (fun j => if (ts.getD j zT).f0.toList = t.f0.toList then some 6 else none) (e := transE (ps.length : Int) t)
      (fun k j hj => by
        simp only [petrinetref09_trans.l1]
        rw [if_pos (by omega), if_pos (by omega), if_pos (by omega), rdT, wrap_up hj (by omega)]
        by_cases c : (ts.getD j zT).f0.toList = t.f0.toList
        · rw [if_pos c, if_pos c]; rfl
        · rw [if_neg c, if_neg c]; rfl) h2
    have h0 := Ev_loop (L := fun k j => petrinetref09_trans.l0 k (i : Int) (j : Int) nm ps ts t.f0 t.f1 t.f2 t.f3 t.f4) (n := ps.length) 1 (fun j => if (ps.getD j zP).f0.toList = t.f0.toList then some 6 else none) (e := first (fun j => if (ts.getD j zT).f0.toList = t.f0.toList then some 6 else none) (transE (ps.length : Int) t) i)
      (fun k j hj => by
        simp only [petrinetref09_trans.l0]
        rw [if_pos (by omega), if_pos (by omega), rdP, wrap_up hj (by omega)]
        by_cases c : (ps.getD j zP).f0.toList = t.f0.toList
        · rw [if_pos c, if_pos c]; rfl
        · rw [if_neg c, if_neg c]; rfl)
      (Ev.step (f := fun k => petrinetref09_trans.l1 k (i : Int) ((0 : Nat) : Int) nm ps ts t.f0 t.f1 t.f2 t.f3 t.f4) (fun k => by simp only [petrinetref09_trans.l0]; rw [if_neg (by omega)]; rfl) h1)
    rw [first_any, first_any] at h0
    have e : (((ps.map (·.f0)) ++ (ts.take i).map (·.f0)).any fun o => o.toList == t.f0.toList) = true ↔ (∃ j, j < ps.length ∧ (ps.getD j zP).f0.toList = t.f0.toList) ∨ (∃ j, j < i ∧ (ts.getD j zT).f0.toList = t.f0.toList) := by
      rw [List.any_append, Bool.or_eq_true, any_take ts (·.f0) _ zT (by omega), any_all ps (·.f0) _ zP]
      simp only [beq_iff_eq]
    rw [nmE_loop _ _ hn]
    by_cases d : ∃ j, j < ps.length ∧ (ps.getD j zP).f0.toList = t.f0.toList
    · rw [if_pos d] at h0
      rw [if_pos (e.2 (Or.inl d)), if_pos (by decide)]
      exact h0
    · rw [if_neg d] at h0
      by_cases d2 : ∃ j, j < i ∧ (ts.getD j zT).f0.toList = t.f0.toList
      · rw [if_pos d2] at h0
        rw [if_pos (e.2 (Or.inr d2)), if_pos (by decide)]
        exact h0
      · rw [if_neg d2] at h0
        rw [if_neg (fun x => (e.1 x).elim d d2), if_neg (by decide)]
        exact h0
  · simp only [hn]
    have : nmE (ps.map (·.f0) ++ (ts.take i).map (·.f0)) t.f0 = 5 := by unfold nmE; rw [if_neg hn]
    rw [this, if_pos (by decide)]
    exact Ev.some _

/-! ### the check -/
theorem refcheck_ev (nm : ByteArray) {ps : List Pla} {ts : List Tra} (hT : Thin ts) : Ev (fun k => petrinetref09_Check.f k nm ps ts) (checkS nm ps ts) := by
  unfold petrinetref09_Check.f checkS
  refine Ev.bind (refname_ev nm) ?_
  by_cases h1 : nameB nm = true
  · simp only [h1, ↓reduceIte]
    have e0 : ∀ k, (if (ps.length : Int) < 1 then petrinetref09_Check.j0 k true nm ps ts else if (ps.length : Int) > 24 then petrinetref09_Check.j0 k true nm ps ts else petrinetref09_Check.j0 k (decide ((ts.length : Int) > 24)) nm ps ts) = petrinetref09_Check.j0 k (decide ((ps.length : Int) < 1 ∨ (24 : Int) < (ps.length : Int) ∨ (24 : Int) < (ts.length : Int))) nm ps ts := fun k => by
      rw [ite_or ((ps.length : Int) > 24) _ (fun b => petrinetref09_Check.j0 k b nm ps ts)]
      exact ite_or _ _ (fun b => petrinetref09_Check.j0 k b nm ps ts)
    refine Ev.congr e0 ?_
    by_cases h2 : (ps.length : Int) < 1 ∨ (24 : Int) < (ps.length : Int) ∨ (24 : Int) < (ts.length : Int)
    · rw [decide_eq_true h2, if_pos h2]
      exact Ev.one (fun k => by simp only [petrinetref09_Check.j0, ↓reduceIte])
    · rw [decide_eq_false h2, if_neg h2]
      refine Ev.step (f := fun k => petrinetref09_Check.l0 k ((0 : Nat) : Int) nm ps ts) (fun k => by simp only [petrinetref09_Check.j0]; rw [if_neg Bool.false_ne_true]; rfl) ?_
      have ht := Ev_first (L := fun k i => petrinetref09_Check.l1 k (i : Int) nm ps ts) (n := ts.length) (tF ps ts) (e := ((0 : Int), (0 : Int)))
        (fun i hi hf r hr => Ev.step (f := fun k => (petrinetref09_trans.f k nm ps ts (i : Int)).bind fun t => if t = 0 then petrinetref09_Check.l1 k ((i + 1 : Nat) : Int) nm ps ts else some (t, (ps.length : Int) + (i : Int))) (fun k => by
          simp only [petrinetref09_Check.l1]
          rw [if_pos (by omega), wrap_up hi (by omega), wrap_ok (x := (ps.length : Int) + (i : Int)) (by omega) (by omega)]) (by
            refine Ev.bind (reftrans_ev nm hi (by omega) (by omega) hT) ?_
            have hz := of_ite_none hf
            simp only [hz, ↓reduceIte]
            exact hr))
        (fun i r hi hf => Ev.step (f := fun k => (petrinetref09_trans.f k nm ps ts (i : Int)).bind fun t => if t = 0 then petrinetref09_Check.l1 k ((i + 1 : Nat) : Int) nm ps ts else some (t, (ps.length : Int) + (i : Int))) (fun k => by
          simp only [petrinetref09_Check.l1]
          rw [if_pos (by omega), wrap_up hi (by omega), wrap_ok (x := (ps.length : Int) + (i : Int)) (by omega) (by omega)]) (by
            refine Ev.bind (reftrans_ev nm hi (by omega) (by omega) hT) ?_
            obtain ⟨hz, rfl⟩ := of_ite_some hf
            simp only [hz, ↓reduceIte]
            exact Ev.some _))
        (Ev.one (fun k => by simp only [petrinetref09_Check.l1]; rw [if_neg (by omega)]))
      exact Ev_first (L := fun k i => petrinetref09_Check.l0 k (i : Int) nm ps ts) (n := ps.length) (pF ps) (e := first (tF ps ts) (0, 0) ts.length)
        (fun i hi hf r hr => Ev.step (f := fun k => (petrinetref09_place.f k nm ps ts (i : Int)).bind fun t => if t = 0 then petrinetref09_Check.l0 k ((i + 1 : Nat) : Int) nm ps ts else some (t, (i : Int))) (fun k => by
          simp only [petrinetref09_Check.l0]
          rw [if_pos (by omega), wrap_up hi (by omega)]) (by
            refine Ev.bind (refplace_ev nm ts hi (by omega)) ?_
            have hz := of_ite_none hf
            simp only [hz, ↓reduceIte]
            exact hr))
        (fun i r hi hf => Ev.step (f := fun k => (petrinetref09_place.f k nm ps ts (i : Int)).bind fun t => if t = 0 then petrinetref09_Check.l0 k ((i + 1 : Nat) : Int) nm ps ts else some (t, (i : Int))) (fun k => by
          simp only [petrinetref09_Check.l0]
          rw [if_pos (by omega), wrap_up hi (by omega)]) (by
            refine Ev.bind (refplace_ev nm ts hi (by omega)) ?_
            obtain ⟨hz, rfl⟩ := of_ite_some hf
            simp only [hz, ↓reduceIte]
            exact Ev.some _))
        (Ev.step (f := fun k => petrinetref09_Check.l1 k ((0 : Nat) : Int) nm ps ts) (fun k => by simp only [petrinetref09_Check.l0]; rw [if_neg (by omega)]; rfl) ht)
  · simp only [h1]; exact Ev.some _
theorem refvalid_ev (nm : ByteArray) {ps : List Pla} {ts : List Tra} (hT : Thin ts) : Ev (fun k => petrinetref09_Valid.f k nm ps ts) (validS nm ps ts) := by
  unfold petrinetref09_Valid.f
  exact Ev.bind (refcheck_ev nm hT) (Ev.some _)
end Go.Proofs.Ytboonibkibhmhaa.Pl
