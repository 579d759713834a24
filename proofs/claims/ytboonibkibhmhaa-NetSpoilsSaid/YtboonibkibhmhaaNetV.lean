/- What a valid net is. -/
import Derived.Test.YtboonibkibhmhaaNetD
namespace Go.Proofs.Ytboonibkibhmhaa.Pl
open Go.RowKit Go.Proofs.Ytboonibkibhmhaa.P Go.Proofs.YtboonibkibhmhaaW.PrintWords Go.Proofs.YtboonibkibhmhaaW.PrintMore

structure ValidN (nm : ByteArray) (ps : List Pla) (ts : List Tra) : Prop where
  n : nameB nm = true
  p0 : 1 ≤ ps.length
  p : ps.length ≤ 24
  t : ts.length ≤ 24
  pl : ∀ i, i < ps.length → plR ps i = 0
  tr : ∀ i, i < ts.length → trR ps ts i = 0
theorem validS_iff {nm : ByteArray} {ps : List Pla} {ts : List Tra} : validS nm ps ts = true ↔ ValidN nm ps ts := by
  unfold validS checkS
  constructor
  · intro h
    by_cases h1 : nameB nm = true
    · rw [if_pos h1] at h
      by_cases h2 : (ps.length : Int) < 1 ∨ (24 : Int) < (ps.length : Int) ∨ (24 : Int) < (ts.length : Int)
      · rw [if_pos h2] at h; simp at h
      · rw [if_neg h2] at h
        rcases first_cases (pF ps) (first (tF ps ts) (0, 0) ts.length) ps.length with ⟨a1, a2⟩ | ⟨j, a1, a2, _⟩
        · rw [a1] at h
          rcases first_cases (tF ps ts) ((0 : Int), (0 : Int)) ts.length with ⟨b1, b2⟩ | ⟨j, b1, b2, _⟩
          · exact ⟨h1, by omega, by omega, by omega, fun i hi => of_ite_none (a2 i hi), fun i hi => of_ite_none (b2 i hi)⟩
          · obtain ⟨c1, c2⟩ := of_ite_some b2
            rw [← c2] at h
            exact absurd (beq_iff_eq.1 h) c1
        · obtain ⟨c1, c2⟩ := of_ite_some a2
          rw [← c2] at h
          exact absurd (beq_iff_eq.1 h) c1
    · rw [if_neg h1] at h; simp at h
  · rintro ⟨h1, h2, h3, h4, h5, h6⟩
    rw [if_pos h1, if_neg (by omega), first_all (fun j hj => by unfold pF; rw [if_pos (h5 j hj)]), first_all (fun j hj => by unfold tF; rw [if_pos (h6 j hj)])]
    rfl
theorem nmE_zero {ns : List ByteArray} {s : ByteArray} (h : nmE ns s = 0) : nameB s = true ∧ (ns.any fun o => o.toList == s.toList) = false := by
  unfold nmE at h
  by_cases h1 : nameB s = true
  · rw [if_pos h1] at h
    by_cases h2 : (ns.any fun o => o.toList == s.toList) = true
    · rw [if_pos h2] at h; exact absurd h (by decide)
    · exact ⟨h1, Bool.eq_false_iff.2 h2⟩
  · rw [if_neg h1] at h; exact absurd h (by decide)
section
variable {nm : ByteArray} {ps : List Pla} {ts : List Tra} (h : ValidN nm ps ts)
include h
theorem ValidN.plName {i : Nat} (hi : i < ps.length) : nmE ((ps.take i).map (·.f0)) (ps.getD i zP).f0 = 0 ∧ placeE (ps.getD i zP).f1 (ps.getD i zP).f2 = 0 := by
  have := h.pl i hi
  unfold plR at this
  by_cases c : nmE ((ps.take i).map (·.f0)) (ps.getD i zP).f0 = 0
  · rw [if_neg (by simpa using c)] at this; exact ⟨c, this⟩
  · rw [if_pos c] at this; exact absurd this c
theorem ValidN.trName {i : Nat} (hi : i < ts.length) : nmE (ps.map (·.f0) ++ (ts.take i).map (·.f0)) (ts.getD i zT).f0 = 0 ∧ transE (ps.length : Int) (ts.getD i zT) = 0 := by
  have := h.tr i hi
  unfold trR at this
  by_cases c : nmE (ps.map (·.f0) ++ (ts.take i).map (·.f0)) (ts.getD i zT).f0 = 0
  · rw [if_neg (by simpa using c)] at this; exact ⟨c, this⟩
  · rw [if_pos c] at this; exact absurd this c
theorem ValidN.arcs {i : Nat} (hi : i < ts.length) : (0 ≤ (ts.getD i zT).f4 ∧ (ts.getD i zT).f4 ≤ 9) ∧ arcsE (ps.length : Int) (ts.getD i zT).f1 = 0 ∧ arcsE (ps.length : Int) (ts.getD i zT).f2 = 0 ∧ arcsE (ps.length : Int) (ts.getD i zT).f3 = 0 := by
  have := (h.trName hi).2
  unfold transE at this
  by_cases c : (ts.getD i zT).f4 < 0 ∨ (ts.getD i zT).f4 > 9
  · rw [if_pos c] at this; exact absurd this (by decide)
  · rw [if_neg c] at this
    by_cases c1 : arcsE (ps.length : Int) (ts.getD i zT).f1 = 0
    · rw [if_neg (by simpa using c1)] at this
      by_cases c2 : arcsE (ps.length : Int) (ts.getD i zT).f2 = 0
      · rw [if_neg (by simpa using c2)] at this; exact ⟨by omega, c1, c2, this⟩
      · rw [if_pos c2] at this; exact absurd this c2
    · rw [if_pos c1] at this; exact absurd this c1
theorem ValidN.plDiff {i j : Nat} (hj : j < i) (hi : i < ps.length) : (ps.getD j zP).f0.toList ≠ (ps.getD i zP).f0.toList := by
  intro e
  have := (nmE_zero (h.plName hi).1).2
  rw [(any_take ps (·.f0) _ zP (by omega)).2 ⟨j, hj, by rw [e]; exact beq_iff_eq.2 rfl⟩] at this
  cases this
theorem ValidN.trDiff {i j : Nat} (hj : j < i) (hi : i < ts.length) : (ts.getD j zT).f0.toList ≠ (ts.getD i zT).f0.toList := by
  intro e
  have := (nmE_zero (h.trName hi).1).2
  rw [List.any_append, (any_take ts (·.f0) _ zT (by omega)).2 ⟨j, hj, by rw [e]; exact beq_iff_eq.2 rfl⟩, Bool.or_true] at this
  cases this
theorem ValidN.ptDiff {i j : Nat} (hj : j < ps.length) (hi : i < ts.length) : (ps.getD j zP).f0.toList ≠ (ts.getD i zT).f0.toList := by
  intro e
  have := (nmE_zero (h.trName hi).1).2
  rw [List.any_append, (any_all ps (·.f0) _ zP).2 ⟨j, hj, by rw [e]; exact beq_iff_eq.2 rfl⟩, Bool.true_or] at this
  cases this
end
theorem arcE_none {np : Int} {l : List Ac} {i : Nat} (h : arcE np l i = none) : 0 ≤ (l.getD i zA).f0 ∧ (l.getD i zA).f0 < np ∧ (0 < i → (l.getD (i - 1) zA).f0 < (l.getD i zA).f0) ∧ 1 ≤ (l.getD i zA).f1 ∧ (l.getD i zA).f1 ≤ 99 := by
  unfold arcE at h
  by_cases c1 : (l.getD i zA).f0 < 0 ∨ (l.getD i zA).f0 ≥ np
  · rw [if_pos c1] at h; cases h
  · rw [if_neg c1] at h
    by_cases c2 : 0 < i ∧ (l.getD (i - 1) zA).f0 ≥ (l.getD i zA).f0
    · rw [if_pos c2] at h; cases h
    · rw [if_neg c2] at h
      by_cases c3 : (l.getD i zA).f1 < 1 ∨ (l.getD i zA).f1 > 99
      · rw [if_pos c3] at h; cases h
      · exact ⟨by omega, by omega, fun hi => Int.not_le.1 fun hc => c2 ⟨hi, hc⟩, by omega, by omega⟩
theorem arcE_some {np : Int} {l : List Ac} {i : Nat} {r : Int} (h : arcE np l i = some r) : r ≠ 0 := by
  unfold arcE at h
  by_cases c1 : (l.getD i zA).f0 < 0 ∨ (l.getD i zA).f0 ≥ np
  · rw [if_pos c1] at h; cases h; decide
  · rw [if_neg c1] at h
    by_cases c2 : 0 < i ∧ (l.getD (i - 1) zA).f0 ≥ (l.getD i zA).f0
    · rw [if_pos c2] at h; cases h; decide
    · rw [if_neg c2] at h
      by_cases c3 : (l.getD i zA).f1 < 1 ∨ (l.getD i zA).f1 > 99
      · rw [if_pos c3] at h; cases h; decide
      · rw [if_neg c3] at h; cases h
theorem arcsE_zero {np : Int} {l : List Ac} (h : arcsE np l = 0) : ∀ i, i < l.length → 0 ≤ (l.getD i zA).f0 ∧ (l.getD i zA).f0 < np ∧ (0 < i → (l.getD (i - 1) zA).f0 < (l.getD i zA).f0) ∧ 1 ≤ (l.getD i zA).f1 ∧ (l.getD i zA).f1 ≤ 99 := by
  intro i hi
  unfold arcsE at h
  rcases first_cases (arcE np l) 0 l.length with ⟨_, h2⟩ | ⟨j, _, h2, _⟩
  · exact arcE_none (h2 i hi)
  · rw [h] at h2
    exact absurd rfl (arcE_some h2)
theorem arcs_lt {np : Int} {l : List Ac} (h : arcsE np l = 0) {i j : Nat} (hij : i < j) (hj : j < l.length) : (l.getD i zA).f0 < (l.getD j zA).f0 := by
  obtain ⟨d, rfl⟩ : ∃ d, j = i + 1 + d := ⟨j - (i + 1), by omega⟩
  induction d with
  | zero => have := (arcsE_zero h (i + 1) hj).2.2.1 (by omega); simpa using this
  | succ d ih =>
    have h1 := ih (by omega) (by omega)
    have h2 := (arcsE_zero h (i + 1 + (d + 1)) hj).2.2.1 (by omega)
    rw [show i + 1 + (d + 1) - 1 = i + 1 + d by omega] at h2
    omega
/-- The weight of a place in a list without errors: positive exactly for the places of the list. -/
theorem weight_pos {np : Int} {l : List Ac} (h : arcsE np l = 0) (p : Int) : weightS l p > 0 ↔ p ∈ l.map (·.f0) := by
  unfold weightS
  rcases first_cases (fun i => if (l.getD i zA).f0 = p then some (l.getD i zA).f1 else none) 0 l.length with ⟨h1, h2⟩ | ⟨j, h1, h2, _⟩
  · rw [h1]
    constructor
    · intro hh; exact absurd hh (by decide)
    · intro hm
      obtain ⟨a, ha, rfl⟩ := List.mem_map.1 hm
      obtain ⟨i, hi, rfl⟩ := List.getElem_of_mem ha
      have := h2 i hi
      rw [List.getD_eq_getElem?_getD, List.getElem?_eq_getElem hi] at this
      simp at this
  · by_cases c : (l.getD j zA).f0 = p
    · simp only [c, if_true] at h2
      have := arcsE_zero h j h1
      constructor
      · intro _; exact List.mem_map.2 ⟨_, getD_mem l zA h1, c⟩
      · intro _; rw [← Option.some.inj h2]; omega
    · simp only [c, if_false] at h2; cases h2
theorem weight_nn {np : Int} {l : List Ac} (h : arcsE np l = 0) (p : Int) : 0 ≤ weightS l p ∧ weightS l p ≤ 99 := by
  unfold weightS
  rcases first_cases (fun i => if (l.getD i zA).f0 = p then some (l.getD i zA).f1 else none) 0 l.length with ⟨h1, h2⟩ | ⟨j, h1, h2, _⟩
  · rw [h1]; decide
  · by_cases c : (l.getD j zA).f0 = p
    · simp only [c, if_true] at h2
      have := arcsE_zero h j h1
      rw [← Option.some.inj h2]; omega
    · simp only [c, if_false] at h2; cases h2
end Go.Proofs.Ytboonibkibhmhaa.Pl
