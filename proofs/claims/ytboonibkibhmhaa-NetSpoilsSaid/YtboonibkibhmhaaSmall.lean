/- The small nets. -/
import Derived.Test.YtboonibkibhmhaaPx4
import Derived.Test.YtboonibkibhmhaaNet1
namespace Go.Proofs.Ytboonibkibhmhaa.Pl
open Go.RowKit Go.Proofs.Ytboonibkibhmhaa.P Go.Proofs.YtboonibkibhmhaaW.PrintWords Go.Proofs.YtboonibkibhmhaaW.PrintMore

def smT (t : Tra) : Option Bool := if (t.f0.size : Int) > 20 ∨ (t.f1.length : Int) > 26 ∨ (t.f2.length : Int) > 26 ∨ (t.f3.length : Int) > 26 then some false else none
def smP (p : Pla) : Option Bool := if (p.f0.size : Int) > 20 then some false else none
def smallS (nm : ByteArray) (ps : List Pla) (ts : List Tra) : Bool :=
  if (ps.length : Int) > 26 ∨ (ts.length : Int) > 26 ∨ (nm.size : Int) > 20 then false else first (fun i => smP (ps.getD i zP)) (first (fun i => smT (ts.getD i zT)) true ts.length) ps.length
structure SmallN (nm : ByteArray) (ps : List Pla) (ts : List Tra) : Prop where
  p : ps.length ≤ 26
  t : ts.length ≤ 26
  n : nm.size ≤ 20
  pn : ∀ i, i < ps.length → (ps.getD i zP).f0.size ≤ 20
  tn : ∀ i, i < ts.length → (ts.getD i zT).f0.size ≤ 20 ∧ (ts.getD i zT).f1.length ≤ 26 ∧ (ts.getD i zT).f2.length ≤ 26 ∧ (ts.getD i zT).f3.length ≤ 26
theorem smallS_true {nm : ByteArray} {ps : List Pla} {ts : List Tra} (h : smallS nm ps ts = true) : SmallN nm ps ts := by
  unfold smallS at h
  by_cases c : (ps.length : Int) > 26 ∨ (ts.length : Int) > 26 ∨ (nm.size : Int) > 20
  · rw [if_pos c] at h; cases h
  · rw [if_neg c] at h
    rcases first_cases (fun i => smP (ps.getD i zP)) (first (fun i => smT (ts.getD i zT)) true ts.length) ps.length with ⟨h1, h2⟩ | ⟨j, h1, h2, _⟩
    · rw [h1] at h
      rcases first_cases (fun i => smT (ts.getD i zT)) true ts.length with ⟨k1, k2⟩ | ⟨j, k1, k2, _⟩
      · refine ⟨by omega, by omega, by omega, fun i hi => ?_, fun i hi => ?_⟩
        · have := h2 i hi
          unfold smP at this
          by_cases d : ((ps.getD i zP).f0.size : Int) > 20
          · rw [if_pos d] at this; cases this
          · omega
        · have := k2 i hi
          unfold smT at this
          by_cases d : ((ts.getD i zT).f0.size : Int) > 20 ∨ ((ts.getD i zT).f1.length : Int) > 26 ∨ ((ts.getD i zT).f2.length : Int) > 26 ∨ ((ts.getD i zT).f3.length : Int) > 26
          · rw [if_pos d] at this; cases this
          · omega
      · rw [h] at k2
        unfold smT at k2
        by_cases d : ((ts.getD j zT).f0.size : Int) > 20 ∨ ((ts.getD j zT).f1.length : Int) > 26 ∨ ((ts.getD j zT).f2.length : Int) > 26 ∨ ((ts.getD j zT).f3.length : Int) > 26
        · rw [if_pos d] at k2; cases k2
        · rw [if_neg d] at k2; cases k2
    · rw [h] at h2
      unfold smP at h2
      by_cases d : ((ps.getD j zP).f0.size : Int) > 20
      · rw [if_pos d] at h2; cases h2
      · rw [if_neg d] at h2; cases h2
theorem SmallN.thin {nm : ByteArray} {ps : List Pla} {ts : List Tra} (h : SmallN nm ps ts) : Thin ts := fun t ht => by
  obtain ⟨i, hi, rfl⟩ := List.getElem_of_mem ht
  have := h.tn i hi
  rw [List.getD_eq_getElem?_getD, List.getElem?_eq_getElem hi] at this
  obtain ⟨a, b, c, d⟩ := this
  exact ⟨Nat.le_trans a (by decide), Nat.le_trans b (by decide), Nat.le_trans c (by decide), Nat.le_trans d (by decide)⟩
def smallR (b : Bool) (nm : ByteArray) (ps : List Pla) (ts : List Tra) : ByteArray × List Pla × List Tra × Bool := if b = true then (nm, ps, ts, true) else (⟨#[]⟩, [], [], false)
theorem first_map {α β : Type} (f : α → β) (p : Nat → Option α) (e : α) (n : Nat) : first (fun i => (p i).map f) (f e) n = f (first p e n) := by
  rcases first_cases p e n with ⟨h1, h2⟩ | ⟨j, h1, h2, h3⟩
  · rw [h1]; exact first_all (fun j hj => by rw [h2 j hj]; rfl)
  · exact first_at j h1 (by rw [h2]; rfl) (fun m hm => by rw [h3 m hm]; rfl)
theorem small_ev (nm : ByteArray) (ps : List Pla) (ts : List Tra) : Ev (fun k => petrinetref09_Small.f k nm ps ts) (smallR (smallS nm ps ts) nm ps ts) := by
  have e0 : ∀ k, petrinetref09_Small.f k nm ps ts = petrinetref09_Small.j0 k (decide ((ps.length : Int) > 26 ∨ (ts.length : Int) > 26 ∨ (nm.size : Int) > 20)) nm ps ts := fun k => by
    unfold petrinetref09_Small.f
    rw [ite_or ((ts.length : Int) > 26) _ (fun b => petrinetref09_Small.j0 k b nm ps ts)]
    exact ite_or _ _ (fun b => petrinetref09_Small.j0 k b nm ps ts)
  refine Ev.congr e0 ?_
  unfold smallS
  by_cases c : (ps.length : Int) > 26 ∨ (ts.length : Int) > 26 ∨ (nm.size : Int) > 20
  · rw [decide_eq_true c, if_pos c]
    exact Ev.one (fun k => by simp only [petrinetref09_Small.j0, ↓reduceIte]; rfl)
  · rw [decide_eq_false c, if_neg c]
    refine Ev.step (f := fun k => petrinetref09_Small.l0 k ((0 : Nat) : Int) nm ps ts) (fun k => by simp only [petrinetref09_Small.j0]; rw [if_neg Bool.false_ne_true]; rfl) ?_
    have ht := Ev_loop (L := fun k i => petrinetref09_Small.l1 k (i : Int) nm ps ts) (n := ts.length) 1 (fun i => (smT (ts.getD i zT)).map (fun b => smallR b nm ps ts)) (e := smallR true nm ps ts)
      (fun k i hi => by
        simp only [petrinetref09_Small.l1]
        rw [if_pos (by omega), if_pos (by omega), rdT, wrap_up hi (by omega), ite_or2, ite_or2, ite_or2]
        unfold smT
        by_cases d : ((ts.getD i zT).f0.size : Int) > 20 ∨ ((ts.getD i zT).f1.length : Int) > 26 ∨ ((ts.getD i zT).f2.length : Int) > 26 ∨ ((ts.getD i zT).f3.length : Int) > 26
        · rw [if_pos d, if_pos (by omega)]; rfl
        · rw [if_neg d, if_neg (by omega)]; rfl)
      (Ev.one (fun k => by simp only [petrinetref09_Small.l1]; rw [if_neg (by omega)]; rfl))
    have hp := Ev_loop (L := fun k i => petrinetref09_Small.l0 k (i : Int) nm ps ts) (n := ps.length) 1 (fun i => (smP (ps.getD i zP)).map (fun b => smallR b nm ps ts)) (e := first (fun i => (smT (ts.getD i zT)).map (fun b => smallR b nm ps ts)) (smallR true nm ps ts) ts.length)
      (fun k i hi => by
        simp only [petrinetref09_Small.l0]
        rw [if_pos (by omega), if_pos (by omega), rdP, wrap_up hi (by omega)]
        unfold smP
        by_cases d : ((ps.getD i zP).f0.size : Int) > 20
        · rw [if_pos d, if_pos d]; rfl
        · rw [if_neg d, if_neg d]; rfl)
      (Ev.step (f := fun k => petrinetref09_Small.l1 k ((0 : Nat) : Int) nm ps ts) (fun k => by simp only [petrinetref09_Small.l0]; rw [if_neg (by omega)]; rfl) ht)
    rw [first_map (fun b => smallR b nm ps ts), first_map (fun b => smallR b nm ps ts)] at hp
    exact hp
end Go.Proofs.Ytboonibkibhmhaa.Pl
