/- What a net's check answers, told plainly; and that the program's check answers it. -/
import Derived.Test.YtboonibkibhmhaaPx8
import Derived.Test.YtboonibkibhmhaaEvL
namespace Go.Proofs.Ytboonibkibhmhaa.Pl
open Go.RowKit Go.Proofs.Ytboonibkibhmhaa.P Go.Proofs.YtboonibkibhmhaaW.PrintWords Go.Proofs.YtboonibkibhmhaaW.PrintMore

abbrev Pla := S50
abbrev Tra := S53
abbrev Ac := S64
abbrev zP : Pla := z50
abbrev zT : Tra := z53
abbrev zA : Ac := z64
theorem rdP (xs : List Pla) (i : Nat) : rd_T50 xs (i : Int) = xs.getD i zP := by simp [rd_T50]
theorem rdT (xs : List Tra) (i : Nat) : rd_T53 xs (i : Int) = xs.getD i zT := by simp [rd_T53]
theorem rdA (xs : List Ac) (i : Nat) : rd_T64 xs (i : Int) = xs.getD i zA := by simp [rd_T64]
theorem rdAs (xs : List (List Ac)) (i : Nat) : rd_L4 xs (i : Int) = xs.getD i [] := by simp [rd_L4]

/-! ### arcs -/
def arcE (np : Int) (l : List Ac) (i : Nat) : Option Int :=
  if (l.getD i zA).f0 < 0 ∨ (l.getD i zA).f0 ≥ np then some 7 else if 0 < i ∧ (l.getD (i - 1) zA).f0 ≥ (l.getD i zA).f0 then some 8 else if (l.getD i zA).f1 < 1 ∨ (l.getD i zA).f1 > 99 then some 9 else none
def arcsE (np : Int) (l : List Ac) : Int := first (arcE np l) 0 l.length
theorem checkArcs_step (k : Nat) (l : List Ac) (np : Int) (i : Nat) (hi : i < l.length) (hl : l.length ≤ 1000000) :
    net_checkArcs.l0 (k + 3) l np l (l.length : Int) (i : Int) = stepO (arcE np l i) (net_checkArcs.l0 k l np l (l.length : Int) ((i + 1 : Nat) : Int)) := by
  simp only [net_checkArcs.l0]
  rw [if_pos (by omega), if_pos (by omega), if_pos (by omega), rdA, ite_or _ _ (fun b => net_checkArcs.j1 (k + 2) l np (i : Int) l (l.length : Int) (i : Int) b (l.getD i zA).f0 (l.getD i zA).f1)]
  unfold arcE
  by_cases c1 : (l.getD i zA).f0 < 0 ∨ (l.getD i zA).f0 ≥ np
  · rw [decide_eq_true c1, if_pos c1]; simp only [net_checkArcs.j1, ↓reduceIte, stepO]
  · rw [decide_eq_false c1, if_neg c1]
    have e2 : ∀ b : Bool, net_checkArcs.j2 (k + 1) l np l (l.length : Int) (i : Int) b (l.getD i zA).f0 (l.getD i zA).f1 = if b = true then some 8 else if (l.getD i zA).f1 < 1 ∨ (l.getD i zA).f1 > 99 then some 9 else net_checkArcs.l0 k l np l (l.length : Int) ((i + 1 : Nat) : Int) := by
      intro b
      simp only [net_checkArcs.j2]
      rw [wrap_up hi (by omega), ite_or2]
    simp only [net_checkArcs.j1]
    rw [if_neg Bool.false_ne_true]
    by_cases c2 : 0 < i
    · rw [if_pos (by omega), if_pos (by rw [wrap_ok (by omega) (by omega)]; omega), if_pos (by rw [wrap_ok (by omega) (by omega)]; omega), wrap_ok (x := (i : Int) - 1) (by omega) (by omega), show ((i : Int) - 1) = ((i - 1 : Nat) : Int) by omega, rdA, e2]
      by_cases c3 : (l.getD (i - 1) zA).f0 ≥ (l.getD i zA).f0
      · rw [decide_eq_true c3, if_pos rfl, if_pos ⟨c2, c3⟩]; rfl
      · rw [decide_eq_false c3, if_neg Bool.false_ne_true, if_neg (show ¬ (0 < i ∧ (l.getD (i - 1) zA).f0 ≥ (l.getD i zA).f0) from fun h => c3 h.2)]
        by_cases d : (l.getD i zA).f1 < 1 ∨ (l.getD i zA).f1 > 99
        · rw [if_pos d, if_pos d]; rfl
        · rw [if_neg d, if_neg d]; rfl
    · rw [if_neg (by omega), e2, if_neg Bool.false_ne_true, if_neg (show ¬ (0 < i ∧ (l.getD (i - 1) zA).f0 ≥ (l.getD i zA).f0) from fun h => c2 h.1)]
      by_cases d : (l.getD i zA).f1 < 1 ∨ (l.getD i zA).f1 > 99
      · rw [if_pos d, if_pos d]; rfl
      · rw [if_neg d, if_neg d]; rfl
theorem checkArcs_ev (l : List Ac) (np : Int) (hl : l.length ≤ 1000000) : Ev (fun k => net_checkArcs.f k l np) (arcsE np l) :=
  Ev_loop (L := fun k i => net_checkArcs.l0 k l np l (l.length : Int) (i : Int)) 3 (arcE np l) (fun k i hi => checkArcs_step k l np i hi hl)
    (Ev.one (fun k => by simp only [net_checkArcs.l0]; rw [if_neg (by omega)]))

/-! ### a transition -/
def transE (np : Int) (t : Tra) : Int := if t.f4 < 0 ∨ t.f4 > 9 then 1 else if arcsE np t.f1 ≠ 0 then arcsE np t.f1 else if arcsE np t.f2 ≠ 0 then arcsE np t.f2 else arcsE np t.f3
def ThinT (t : Tra) : Prop := t.f0.size ≤ 1000000 ∧ t.f1.length ≤ 1000000 ∧ t.f2.length ≤ 1000000 ∧ t.f3.length ≤ 1000000
theorem checkTrans_ev (t : Tra) (np : Int) (ht : ThinT t) : Ev (fun k => net_checkTrans.f k t.f0 t.f1 t.f2 t.f3 t.f4 np) (transE np t) := by
  have e0 : ∀ k, net_checkTrans.f k t.f0 t.f1 t.f2 t.f3 t.f4 np = net_checkTrans.j0 k np (decide (t.f4 < 0 ∨ t.f4 > 9)) t.f0 t.f1 t.f2 t.f3 t.f4 := fun k => by
    unfold net_checkTrans.f
    exact ite_or _ _ (fun b => net_checkTrans.j0 k np b t.f0 t.f1 t.f2 t.f3 t.f4)
  refine Ev.congr e0 ?_
  unfold transE
  by_cases c : t.f4 < 0 ∨ t.f4 > 9
  · rw [decide_eq_true c, if_pos c]
    exact Ev.one (fun k => by simp only [net_checkTrans.j0, ↓reduceIte])
  · rw [decide_eq_false c, if_neg c]
    refine Ev.step (f := fun k => net_checkTrans.l0 k np [t.f1, t.f2, t.f3] 3 ((0 : Nat) : Int)) (fun k => by simp only [net_checkTrans.j0]; rw [if_neg Bool.false_ne_true]; rfl) ?_
    have hm : ∀ i, i < 3 → ([t.f1, t.f2, t.f3].getD i []).length ≤ 1000000 := fun i hi => by
      obtain ⟨_, h1, h2, h3⟩ := ht
      rcases i with _ | _ | _ | i
      · exact h1
      · exact h2
      · exact h3
      · omega
    have h := Ev_first (L := fun k i => net_checkTrans.l0 k np [t.f1, t.f2, t.f3] 3 (i : Int)) (n := 3) (fun i => if arcsE np ([t.f1, t.f2, t.f3].getD i []) = 0 then none else some (arcsE np ([t.f1, t.f2, t.f3].getD i []))) (e := 0)
      (fun i hi hp r hr => Ev.step (f := fun k => (net_checkArcs.f k ([t.f1, t.f2, t.f3].getD i []) np).bind fun e => if e = 0 then net_checkTrans.l0 k np [t.f1, t.f2, t.f3] 3 ((i + 1 : Nat) : Int) else some e) (fun k => by
        simp only [net_checkTrans.l0]
        rw [if_pos (by omega), if_pos (by omega), if_pos (by simp only [List.length_cons, List.length_nil]; omega), rdAs, wrap_up hi (by omega)]) (by
          refine Ev.bind (checkArcs_ev _ np (hm i hi)) ?_
          have h0 : arcsE np ([t.f1, t.f2, t.f3].getD i []) = 0 := of_ite_none hp
          simp only [h0, ↓reduceIte]
          exact hr))
      (fun i r hi hp => Ev.step (f := fun k => (net_checkArcs.f k ([t.f1, t.f2, t.f3].getD i []) np).bind fun e => if e = 0 then net_checkTrans.l0 k np [t.f1, t.f2, t.f3] 3 ((i + 1 : Nat) : Int) else some e) (fun k => by
        simp only [net_checkTrans.l0]
        rw [if_pos (by omega), if_pos (by omega), if_pos (by simp only [List.length_cons, List.length_nil]; omega), rdAs, wrap_up hi (by omega)]) (by
          refine Ev.bind (checkArcs_ev _ np (hm i hi)) ?_
          obtain ⟨h0, rfl⟩ := of_ite_some hp
          simp only [h0, ↓reduceIte]
          exact Ev.some _))
      (Ev.one (fun k => by simp only [net_checkTrans.l0]; rw [if_neg (by omega)]))
    have e3 : first (fun i => if arcsE np ([t.f1, t.f2, t.f3].getD i []) = 0 then none else some (arcsE np ([t.f1, t.f2, t.f3].getD i []))) 0 3 = if arcsE np t.f1 ≠ 0 then arcsE np t.f1 else if arcsE np t.f2 ≠ 0 then arcsE np t.f2 else arcsE np t.f3 := by
      unfold first firstOr firstOr firstOr firstOr
      simp only [List.getD_cons_zero, List.getD_cons_succ]
      by_cases h1 : arcsE np t.f1 = 0
      · by_cases h2 : arcsE np t.f2 = 0
        · by_cases h3 : arcsE np t.f3 = 0 <;> simp [h1, h2, h3]
        · simp [h1, h2]
      · simp [h1]
    rw [← e3]
    exact h

/-! ### the check -/
def nmE (ns : List ByteArray) (s : ByteArray) : Int := if nameB s = true then (if (ns.any fun o => o.toList == s.toList) = true then 6 else 0) else 5
def plR (ps : List Pla) (i : Nat) : Int := if nmE ((ps.take i).map (·.f0)) (ps.getD i zP).f0 ≠ 0 then nmE ((ps.take i).map (·.f0)) (ps.getD i zP).f0 else placeE (ps.getD i zP).f1 (ps.getD i zP).f2
def trR (ps : List Pla) (ts : List Tra) (i : Nat) : Int := if nmE (ps.map (·.f0) ++ (ts.take i).map (·.f0)) (ts.getD i zT).f0 ≠ 0 then nmE (ps.map (·.f0) ++ (ts.take i).map (·.f0)) (ts.getD i zT).f0 else transE (ps.length : Int) (ts.getD i zT)
def pF (ps : List Pla) (i : Nat) : Option (Int × Int) := if plR ps i = 0 then none else some (plR ps i, (i : Int))
def tF (ps : List Pla) (ts : List Tra) (i : Nat) : Option (Int × Int) := if trR ps ts i = 0 then none else some (trR ps ts i, (ps.length : Int) + (i : Int))
def checkS (nm : ByteArray) (ps : List Pla) (ts : List Tra) : Int × Int :=
  if nameB nm = true then (if (ps.length : Int) < 1 ∨ (24 : Int) < (ps.length : Int) ∨ (24 : Int) < (ts.length : Int) then (2, 0) else first (pF ps) (first (tF ps ts) (0, 0) ts.length) ps.length) else (5, 0)
def validS (nm : ByteArray) (ps : List Pla) (ts : List Tra) : Bool := (checkS nm ps ts).1 == 0
/-- What is asked of a net's size for its parts to be told. -/
def Thin (ts : List Tra) : Prop := ∀ t ∈ ts, ThinT t
theorem Thin.at {ts : List Tra} (h : Thin ts) {i : Nat} (hi : i < ts.length) : ThinT (ts.getD i zT) := h _ (getD_mem ts zT hi)
theorem addM_ev {ns : List ByteArray} {s : ByteArray} (h : ns.length < 1000000) : addM ns s = some (nmE ns s, if nmE ns s = 0 then ns ++ [s] else ns) := by
  unfold addM nmE
  by_cases h1 : nameB s = true
  · by_cases h2 : (ns.any fun o => o.toList == s.toList) = true
    · simp [h1, h2]
    · rw [if_pos h1, if_neg h2, if_pos h, if_pos h1, if_neg h2]; simp
  · simp [h1]
theorem check_ts {ps : List Pla} {ts : List Tra} (hp : ps.length ≤ 24) (ht : ts.length ≤ 24) (hT : Thin ts) : Ev (fun k => net_Check.l1 k ps ts (ps.map (·.f0)) 0) (first (tF ps ts) (0, 0) ts.length) := by
  have hlen : ∀ i, i ≤ ts.length → (ps.map (·.f0) ++ (ts.take i).map (·.f0)).length < 1000000 := fun i hi => by simp only [List.length_append, List.length_map, List.length_take]; omega
  have stp : ∀ i, i < ts.length → ∀ k, net_Check.l1 (k + 1) ps ts (ps.map (·.f0) ++ (ts.take i).map (·.f0)) (i : Int) = if nmE (ps.map (·.f0) ++ (ts.take i).map (·.f0)) (ts.getD i zT).f0 = 0 then ((net_checkTrans.f k (ts.getD i zT).f0 (ts.getD i zT).f1 (ts.getD i zT).f2 (ts.getD i zT).f3 (ts.getD i zT).f4 (ps.length : Int)).bind fun e => if e = 0 then net_Check.l1 k ps ts (ps.map (·.f0) ++ (ts.take (i + 1)).map (·.f0)) ((i + 1 : Nat) : Int) else some (e, (ps.length : Int) + (i : Int))) else some (nmE (ps.map (·.f0) ++ (ts.take i).map (·.f0)) (ts.getD i zT).f0, (ps.length : Int) + (i : Int)) := fun i hi k => by
    simp only [net_Check.l1]
    rw [if_pos (by omega), if_pos (by omega), rdT, addM_ev (hlen i (by omega)), wrap_up hi (by omega), wrap_ok (x := (ps.length : Int) + (i : Int)) (by omega) (by omega)]
    simp only [Option.bind_some]
    by_cases h0 : nmE (ps.map (·.f0) ++ (ts.take i).map (·.f0)) (ts.getD i zT).f0 = 0
    · rw [if_pos h0, if_pos h0, if_pos h0, List.append_assoc, ← take_map_succ ts (fun t => t.f0) zT hi]
    · rw [if_neg h0, if_neg h0]
  have h := Ev_first (L := fun k i => net_Check.l1 k ps ts (ps.map (·.f0) ++ (ts.take i).map (·.f0)) (i : Int)) (n := ts.length) (tF ps ts) (e := ((0 : Int), (0 : Int)))
    (fun i hi hf r hr => Ev.step (stp i hi) (by
      have hz : trR ps ts i = 0 := of_ite_none hf
      by_cases h0 : nmE (ps.map (·.f0) ++ (ts.take i).map (·.f0)) (ts.getD i zT).f0 = 0
      · unfold trR at hz
        rw [if_neg (by simpa using h0)] at hz
        simp only [h0, ↓reduceIte]
        refine Ev.bind (checkTrans_ev _ _ (hT.at hi)) ?_
        simp only [hz, ↓reduceIte]
        exact hr
      · unfold trR at hz
        rw [if_pos h0] at hz
        exact absurd hz h0))
    (fun i r hi hf => Ev.step (stp i hi) (by
      obtain ⟨hz, rfl⟩ := of_ite_some hf
      by_cases h0 : nmE (ps.map (·.f0) ++ (ts.take i).map (·.f0)) (ts.getD i zT).f0 = 0
      · have e : trR ps ts i = transE (ps.length : Int) (ts.getD i zT) := by unfold trR; rw [if_neg (by simpa using h0)]
        rw [e] at hz ⊢
        simp only [h0, ↓reduceIte]
        refine Ev.bind (checkTrans_ev _ _ (hT.at hi)) ?_
        simp only [hz, ↓reduceIte]
        exact Ev.some _
      · have e : trR ps ts i = nmE (ps.map (·.f0) ++ (ts.take i).map (·.f0)) (ts.getD i zT).f0 := by unfold trR; rw [if_pos h0]
        rw [e]
        simp only [h0, ↓reduceIte]
        exact Ev.some _))
    (Ev.one (fun k => by simp only [net_Check.l1]; rw [if_neg (by omega)]))
  simpa using h
theorem check_ps {ps : List Pla} {ts : List Tra} (hp : ps.length ≤ 24) (ht : ts.length ≤ 24) (hT : Thin ts) : Ev (fun k => net_Check.l0 k ps ts [] 0) (first (pF ps) (first (tF ps ts) (0, 0) ts.length) ps.length) := by
  have hlen : ∀ i, i ≤ ps.length → ((ps.take i).map (·.f0)).length < 1000000 := fun i hi => by simp only [List.length_map, List.length_take]; omega
  have stp : ∀ i, i < ps.length → ∀ k, net_Check.l0 (k + 1) ps ts ((ps.take i).map (·.f0)) (i : Int) = if nmE ((ps.take i).map (·.f0)) (ps.getD i zP).f0 = 0 then (if placeE (ps.getD i zP).f1 (ps.getD i zP).f2 = 0 then net_Check.l0 k ps ts ((ps.take (i + 1)).map (·.f0)) ((i + 1 : Nat) : Int) else some (placeE (ps.getD i zP).f1 (ps.getD i zP).f2, (i : Int))) else some (nmE ((ps.take i).map (·.f0)) (ps.getD i zP).f0, (i : Int)) := fun i hi k => by
    simp only [net_Check.l0]
    rw [if_pos (by omega), if_pos (by omega), rdP, addM_ev (hlen i (by omega)), wrap_up hi (by omega)]
    simp only [Option.bind_some, net_checkPlace.f]
    by_cases h0 : nmE ((ps.take i).map (·.f0)) (ps.getD i zP).f0 = 0
    · rw [if_pos h0, if_pos h0, if_pos h0, ← take_map_succ ps (fun t => t.f0) zP hi]
    · rw [if_neg h0, if_neg h0]
  have h := Ev_first (L := fun k i => net_Check.l0 k ps ts ((ps.take i).map (·.f0)) (i : Int)) (n := ps.length) (pF ps) (e := first (tF ps ts) (0, 0) ts.length)
    (fun i hi hf r hr => Ev.step (stp i hi) (by
      have hz : plR ps i = 0 := of_ite_none hf
      by_cases h0 : nmE ((ps.take i).map (·.f0)) (ps.getD i zP).f0 = 0
      · unfold plR at hz
        rw [if_neg (by simpa using h0)] at hz
        simp only [h0, hz, ↓reduceIte]
        exact hr
      · unfold plR at hz
        rw [if_pos h0] at hz
        exact absurd hz h0))
    (fun i r hi hf => Ev.step (stp i hi) (by
      obtain ⟨hz, rfl⟩ := of_ite_some hf
      by_cases h0 : nmE ((ps.take i).map (·.f0)) (ps.getD i zP).f0 = 0
      · have e : plR ps i = placeE (ps.getD i zP).f1 (ps.getD i zP).f2 := by unfold plR; rw [if_neg (by simpa using h0)]
        rw [e] at hz ⊢
        simp only [h0, hz, ↓reduceIte]
        exact Ev.some _
      · have e : plR ps i = nmE ((ps.take i).map (·.f0)) (ps.getD i zP).f0 := by unfold plR; rw [if_pos h0]
        rw [e]
        simp only [h0, ↓reduceIte]
        exact Ev.some _))
    (by
      refine Ev.step (f := fun k => net_Check.l1 k ps ts (ps.map (·.f0)) 0) (fun k => ?_) (check_ts hp ht hT)
      simp only [net_Check.l0]
      rw [if_neg (by omega), List.take_length])
  simpa using h
theorem check_ev (nm : ByteArray) {ps : List Pla} {ts : List Tra} (hT : Thin ts) : Ev (fun k => net_Check.f k nm ps ts) (checkS nm ps ts) := by
  unfold net_Check.f checkS
  by_cases h1 : nameB nm = true
  · by_cases h2 : (ps.length : Int) < 1 ∨ (24 : Int) < (ps.length : Int) ∨ (24 : Int) < (ts.length : Int)
    · simp only [h1, h2, ↓reduceIte]; exact Ev.some _
    · simp only [h1, h2, ↓reduceIte]
      exact check_ps (by omega) (by omega) hT
  · simp only [h1]; exact Ev.some _
theorem valid_ev (nm : ByteArray) {ps : List Pla} {ts : List Tra} (hT : Thin ts) : Ev (fun k => net_valid.f k nm ps ts) (validS nm ps ts) := by
  unfold net_valid.f
  exact Ev.bind (check_ev nm hT) (Ev.some _)
end Go.Proofs.Ytboonibkibhmhaa.Pl
