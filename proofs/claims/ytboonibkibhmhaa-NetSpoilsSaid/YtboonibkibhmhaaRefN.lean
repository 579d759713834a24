/- The reference's names. -/
import Derived.Test.YtboonibkibhmhaaPx15
import Derived.Test.YtboonibkibhmhaaNet1
namespace Go.Proofs.Ytboonibkibhmhaa.Pl
open Go.RowKit Go.Proofs.Ytboonibkibhmhaa.P Go.Proofs.YtboonibkibhmhaaW.PrintWords Go.Proofs.YtboonibkibhmhaaW.PrintMore

/-! ### Name -/
set_option linter.unusedSimpArgs false in
theorem refname_step (k : Nat) (s : ByteArray) (i : Nat) (hi : i < s.size) (hs : s.size ≤ 1000000) :
    petrinetref09_Name.l0 (k + 1) s (i : Int) = stepO (if nameC (i : Int) (bt s (i : Int)) = true then none else some false) (petrinetref09_Name.l0 k s ((i + 1 : Nat) : Int)) := by
  simp only [petrinetref09_Name.l0]
  rw [if_pos (by omega), if_pos (by omega), wrap_up hi (by omega)]
  unfold nameC
  generalize bt s (i : Int) = c
  have e95 : (c == 95) = decide (c = 95) := by rw [Bool.eq_iff_iff]; simp
  have e46 : (c == 46) = decide (c = 46) := by rw [Bool.eq_iff_iff]; simp
  rw [e95, e46]
  have b7 : (0 : Int) < (i : Int) ↔ ¬ (i : Int) = 0 := by omega
  by_cases a1 : c ≥ 97 <;> by_cases a2 : c ≤ 122 <;> by_cases a3 : c = 95 <;> by_cases a4 : c ≥ 48 <;> by_cases a5 : c ≤ 57 <;> by_cases a6 : c = 46 <;> by_cases a7 : (i : Int) = 0 <;>
    first
    | (exfalso; omega)
    | (subst a3; simp [stepO]; done)
    | (subst a6
       have d7 : i = 0 := by omega
       simp [stepO, d7]; done)
    | (subst a6
       have d7 : ¬ i = 0 := by omega
       have d8 : 0 < i := by omega
       simp [stepO, d7, d8]; done)
    | (simp only [b7, a1, a2, a3, a4, a5, a6, a7, ge_iff_le.1 a1, ↓reduceIte, decide_true, decide_false, Bool.true_and, Bool.false_and, Bool.and_true, Bool.and_false, Bool.or_true, Bool.true_or, Bool.or_false, Bool.false_or, Bool.false_eq_true, not_true_eq_false, not_false_eq_true, stepO]; done)
    | (have c1 : ¬ 97 ≤ c := a1
       simp only [b7, a1, c1, a2, a3, a4, a5, a6, a7, ↓reduceIte, decide_true, decide_false, Bool.true_and, Bool.false_and, Bool.and_true, Bool.and_false, Bool.or_true, Bool.true_or, Bool.or_false, Bool.false_or, Bool.false_eq_true, not_true_eq_false, not_false_eq_true, stepO]; first | done | rfl)
theorem refname_ev (s : ByteArray) : Ev (fun k => petrinetref09_Name.f k s) (nameB s) := by
  have e0 : ∀ k, petrinetref09_Name.f k s = petrinetref09_Name.j0 k s (decide ((s.size : Int) < 1 ∨ (s.size : Int) > 16)) := fun k => by
    unfold petrinetref09_Name.f
    exact ite_or _ _ (fun b => petrinetref09_Name.j0 k s b)
  refine Ev.congr e0 ?_
  by_cases c : (s.size : Int) < 1 ∨ (s.size : Int) > 16
  · rw [decide_eq_true c]
    have hf : nameB s = false := by
      unfold nameB
      rcases c with c | c
      · rw [decide_eq_false (show ¬ 1 ≤ s.size by omega)]; rfl
      · rw [decide_eq_false (show ¬ s.size ≤ 16 by omega)]; simp
    rw [hf]
    exact Ev.one (fun k => by simp only [petrinetref09_Name.j0, ↓reduceIte])
  · rw [decide_eq_false c]
    refine Ev.step (f := fun k => petrinetref09_Name.l0 k s ((0 : Nat) : Int)) (fun k => by simp only [petrinetref09_Name.j0]; rw [if_neg Bool.false_ne_true]; rfl) ?_
    have h := Ev_loop (L := fun k i => petrinetref09_Name.l0 k s (i : Int)) (n := s.size) 1 (fun i => if nameC (i : Int) (bt s (i : Int)) = true then none else some false) (e := true)
      (fun k i hi => refname_step k s i hi (by omega)) (Ev.one (fun k => by simp only [petrinetref09_Name.l0]; rw [if_neg (by omega)]))
    have e : first (fun i => if nameC (i : Int) (bt s (i : Int)) = true then none else some false) true s.size = nameB s := by
      rcases first_cases (fun i => if nameC (i : Int) (bt s (i : Int)) = true then none else some false) true s.size with ⟨h1, h2⟩ | ⟨j, h1, h2, _⟩
      · rw [h1]
        exact (nameB_yes (by omega) (by omega) (fun i hi => of_ite_none (h2 i hi))).symm
      · obtain ⟨h3, h4⟩ := of_ite_some h2
        rw [← h4]
        exact (nameB_no h1 (Bool.eq_false_iff.2 h3)).symm
    rw [← e]
    exact h

end Go.Proofs.Ytboonibkibhmhaa.Pl
