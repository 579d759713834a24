/- What the reference's comparison of nets answers. -/
import Derived.Test.YtboonibkibhmhaaPx26
import Derived.Test.YtboonibkibhmhaaNetD
namespace Go.Proofs.Ytboonibkibhmhaa.Pl
open Go.RowKit Go.Proofs.Ytboonibkibhmhaa.P Go.Proofs.YtboonibkibhmhaaW.PrintWords Go.Proofs.YtboonibkibhmhaaW.PrintMore

theorem refsameArcs_ev (a b : List Ac) (ha : a.length ≤ 1000000) : Ev (fun k => petrinetref09_SameArcs.f k a b) (sameArcsS a b) := by
  unfold petrinetref09_SameArcs.f sameArcsS
  by_cases hl : (a.length : Int) = (b.length : Int)
  · simp only [hl, if_true]
    have h := Ev_loop (L := fun k i => petrinetref09_SameArcs.l0 k a b (i : Int)) (n := a.length) 1 (fun i => if neA (a.getD i zA) (b.getD i zA) = true then some false else none) (e := true) (fun k i hi => by
      simp only [petrinetref09_SameArcs.l0]
      rw [if_pos (by omega), if_pos (by omega), if_pos (by omega), rdA, rdA, wrap_up hi (by omega)]
      by_cases c : neA (a.getD i zA) (b.getD i zA) = true
      · rw [if_pos c]; unfold neA at c; rw [if_pos c]; rfl
      · rw [if_neg c]; unfold neA at c; rw [if_neg c]; rfl) (Ev.one (fun k => by simp only [petrinetref09_SameArcs.l0]; rw [if_neg (by omega)]))
    exact h
  · simp only [hl, if_false]; exact Ev.some _
theorem refequal_ev (nm : ByteArray) {ps : List Pla} {ts : List Tra} (nm' : ByteArray) {ps' : List Pla} {ts' : List Tra} (hp : ps.length ≤ 1000000) (ht : ts.length ≤ 1000000) (hT : Thin ts) :
    Ev (fun k => petrinetref09_Equal.f k nm ps ts nm' ps' ts') (equalS nm ps ts nm' ps' ts') := by
  have e0 : ∀ k, petrinetref09_Equal.f k nm ps ts nm' ps' ts' = petrinetref09_Equal.j0 k (!((nm.toList == nm'.toList) && decide ((ps.length : Int) = (ps'.length : Int)) && decide ((ts.length : Int) = (ts'.length : Int)))) nm ps ts nm' ps' ts' := fun k => by
    unfold petrinetref09_Equal.f
    by_cases c0 : nm.toList = nm'.toList
    · rw [if_pos c0, beq_iff_eq.2 c0]
      by_cases c1 : (ps.length : Int) = (ps'.length : Int)
      · rw [if_pos c1, decide_eq_true c1]
        by_cases c2 : (ts.length : Int) = (ts'.length : Int)
        · rw [decide_eq_true c2, bne_eq_false_iff_eq.2 c2]; rfl
        · rw [decide_eq_false c2, bne_iff_ne.2 c2]; rfl
      · rw [if_neg c1, decide_eq_false c1]; rfl
    · rw [if_neg c0, beq_eq_false_iff_ne.2 c0]; rfl
  refine Ev.congr e0 ?_
  unfold equalS
  have no : Ev (fun k => petrinetref09_Equal.j0 k true nm ps ts nm' ps' ts') false := Ev.one (fun k => by simp only [petrinetref09_Equal.j0, ↓reduceIte])
  by_cases c0 : (nm.toList == nm'.toList) = true
  · by_cases c1 : (ps.length : Int) = (ps'.length : Int)
    · by_cases c2 : (ts.length : Int) = (ts'.length : Int)
      · rw [if_pos c0, if_pos c1, if_pos c2, c0, decide_eq_true c1, decide_eq_true c2]
        refine Ev.step (f := fun k => petrinetref09_Equal.l0 k ((0 : Nat) : Int) nm ps ts nm' ps' ts') (fun k => by simp only [petrinetref09_Equal.j0]; rfl) ?_
        have h1 := Ev_first (L := fun k i => petrinetref09_Equal.l1 k (i : Int) nm ps ts nm' ps' ts') (n := ts.length) (fun i => if (!eqT (ts.getD i zT) (ts'.getD i zT)) = true then some false else none) (e := true)
          (fun i hi hb r hr => by
            have hth := hT.at hi
            have ht : eqT (ts.getD i zT) (ts'.getD i zT) = true := by
              cases he : eqT (ts.getD i zT) (ts'.getD i zT) with
              | true => rfl
              | false => rw [he] at hb; cases hb
            refine Ev.stepn 1 (f := fun k => if (ts.getD i zT).f0.toList = (ts'.getD i zT).f0.toList then (if (ts.getD i zT).f4 = (ts'.getD i zT).f4 then ((petrinetref09_SameArcs.f k (ts.getD i zT).f1 (ts'.getD i zT).f1).bind fun a => if a = true then ((petrinetref09_SameArcs.f k (ts.getD i zT).f2 (ts'.getD i zT).f2).bind fun b => if b = true then ((petrinetref09_SameArcs.f k (ts.getD i zT).f3 (ts'.getD i zT).f3).bind fun c => if c = true then petrinetref09_Equal.l1 k ((i + 1 : Nat) : Int) nm ps ts nm' ps' ts' else some false) else some false) else some false) else some false) else some false) (fun k => by
              simp only [petrinetref09_Equal.l1]
              rw [if_pos (by omega), if_pos (by omega), if_pos (by omega), rdT, rdT, wrap_up hi (by omega)]) ?_
            have hx := eqT_true.1 ht
            rw [← hx]
            generalize ts.getD i zT = x at hth
            simp only [↓reduceIte]
            refine Ev.bind (refsameArcs_ev _ _ hth.2.1) ?_
            rw [sameArcsS_iff.2 rfl]
            simp only [↓reduceIte]
            refine Ev.bind (refsameArcs_ev _ _ hth.2.2.1) ?_
            rw [sameArcsS_iff.2 rfl]
            simp only [↓reduceIte]
            refine Ev.bind (refsameArcs_ev _ _ hth.2.2.2) ?_
            rw [sameArcsS_iff.2 rfl]
            simp only [↓reduceIte]
            exact hr)
          (fun i r hi hb => by
            have hth := hT.at hi
            cases he : eqT (ts.getD i zT) (ts'.getD i zT) with
            | true => rw [he] at hb; cases hb
            | false =>
            rw [he] at hb
            obtain rfl := Option.some.inj hb
            refine Ev.stepn 1 (f := fun k => if (ts.getD i zT).f0.toList = (ts'.getD i zT).f0.toList then (if (ts.getD i zT).f4 = (ts'.getD i zT).f4 then ((petrinetref09_SameArcs.f k (ts.getD i zT).f1 (ts'.getD i zT).f1).bind fun a => if a = true then ((petrinetref09_SameArcs.f k (ts.getD i zT).f2 (ts'.getD i zT).f2).bind fun b => if b = true then ((petrinetref09_SameArcs.f k (ts.getD i zT).f3 (ts'.getD i zT).f3).bind fun c => if c = true then petrinetref09_Equal.l1 k ((i + 1 : Nat) : Int) nm ps ts nm' ps' ts' else some false) else some false) else some false) else some false) else some false) (fun k => by
              simp only [petrinetref09_Equal.l1]
              rw [if_pos (by omega), if_pos (by omega), if_pos (by omega), rdT, rdT, wrap_up hi (by omega)]) ?_
            generalize ts.getD i zT = x at hth he
            generalize ts'.getD i zT = y at he
            unfold eqT at he
            by_cases d0 : x.f0.toList = y.f0.toList
            · rw [if_pos (beq_iff_eq.2 d0)] at he
              by_cases d4 : x.f4 = y.f4
              · rw [if_pos (beq_iff_eq.2 d4)] at he
                simp only [d0, d4, ↓reduceIte]
                refine Ev.bind (refsameArcs_ev _ _ hth.2.1) ?_
                by_cases d1 : sameArcsS x.f1 y.f1 = true
                · rw [if_pos d1] at he
                  simp only [d1, ↓reduceIte]
                  refine Ev.bind (refsameArcs_ev _ _ hth.2.2.1) ?_
                  by_cases d2 : sameArcsS x.f2 y.f2 = true
                  · rw [if_pos d2] at he
                    simp only [d2, ↓reduceIte]
                    refine Ev.bind (refsameArcs_ev _ _ hth.2.2.2) ?_
                    simp only [he, Bool.false_eq_true, ↓reduceIte]
                    exact Ev.some _
                  · simp only [d2]; exact Ev.some _
                · simp only [d1]; exact Ev.some _
              · simp only [d0, d4, ↓reduceIte]; exact Ev.some _
            · simp only [d0, ↓reduceIte]; exact Ev.some _)
          (Ev.one (fun k => by simp only [petrinetref09_Equal.l1]; rw [if_neg (by omega)]))
        exact Ev_loop (L := fun k i => petrinetref09_Equal.l0 k (i : Int) nm ps ts nm' ps' ts') (n := ps.length) 1 (fun i => if neP (ps.getD i zP) (ps'.getD i zP) = true then some false else none) (e := first (fun i => if (!eqT (ts.getD i zT) (ts'.getD i zT)) = true then some false else none) true ts.length)
          (fun k i hi => by
            simp only [petrinetref09_Equal.l0]
            rw [if_pos (by omega), if_pos (by omega), if_pos (by omega), rdP, rdP, wrap_up hi (by omega)]
            by_cases c : neP (ps.getD i zP) (ps'.getD i zP) = true
            · rw [if_pos c]; unfold neP at c; rw [if_pos c]; rfl
            · rw [if_neg c]; unfold neP at c; rw [if_neg c]; rfl)
          (Ev.step (f := fun k => petrinetref09_Equal.l1 k ((0 : Nat) : Int) nm ps ts nm' ps' ts') (fun k => by simp only [petrinetref09_Equal.l0]; rw [if_neg (by omega)]; rfl) h1)
      · rw [if_pos c0, if_pos c1, if_neg c2, decide_eq_false c2, Bool.and_false]
        exact no
    · rw [if_pos c0, if_neg c1, decide_eq_false c1, Bool.and_false, Bool.false_and]
      exact no
  · rw [if_neg c0, Bool.eq_false_iff.2 c0, Bool.false_and, Bool.false_and]
    exact no
end Go.Proofs.Ytboonibkibhmhaa.Pl
