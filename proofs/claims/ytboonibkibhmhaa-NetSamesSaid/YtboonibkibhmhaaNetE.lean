/- What the program's functions over nets answer: equality. -/
import Derived.Test.YtboonibkibhmhaaPx13
import Derived.Test.YtboonibkibhmhaaNetD
namespace Go.Proofs.Ytboonibkibhmhaa.Pl
set_option linter.unusedVariables false
open Go.RowKit Go.Proofs.Ytboonibkibhmhaa.P Go.Proofs.YtboonibkibhmhaaW.PrintWords Go.Proofs.YtboonibkibhmhaaW.PrintMore

theorem sameArcs_ev (a b : List Ac) (ha : a.length ≤ 1000000) : Ev (fun k => net_sameArcs.f k a b) (sameArcsS a b) := by
  unfold net_sameArcs.f sameArcsS
  by_cases hl : (a.length : Int) = (b.length : Int)
  · simp only [hl, if_true]
    have h := Ev_loop (L := fun k i => net_sameArcs.l0 k b a (a.length : Int) (i : Int)) (n := a.length) 1 (fun i => if neA (a.getD i zA) (b.getD i zA) = true then some false else none) (e := true) (fun k i hi => by
      simp only [net_sameArcs.l0]
      rw [if_pos (by omega), if_pos (by omega), if_pos (by omega), if_pos (by omega), rdA, rdA, wrap_up hi (by omega)]
      by_cases c : neA (a.getD i zA) (b.getD i zA) = true
      · rw [if_pos c]; unfold neA at c; rw [if_pos c]; rfl
      · rw [if_neg c]; unfold neA at c; rw [if_neg c]; rfl) (Ev.one (fun k => by simp only [net_sameArcs.l0]; rw [if_neg (by omega)]))
    rw [hl] at h
    exact h
  · simp only [hl, if_false]; exact Ev.some _
theorem same_ev (nm : ByteArray) {ps : List Pla} {ts : List Tra} (nm' : ByteArray) {ps' : List Pla} {ts' : List Tra} (hp : ps.length ≤ 1000000) (ht : ts.length ≤ 1000000) (hT : Thin ts) (hT' : Thin ts') :
    Ev (fun k => net_Same.f k nm ps ts nm' ps' ts') (if validS nm ps ts = true then (if validS nm' ps' ts' = true then equalS nm ps ts nm' ps' ts' else false) else false) := by
  unfold net_Same.f equalS
  refine Ev.bind (valid_ev nm hT) ?_
  by_cases hv : validS nm ps ts = true
  · simp only [hv, ↓reduceIte]
    refine Ev.bind (valid_ev nm' hT') ?_
    by_cases hv' : validS nm' ps' ts' = true
    · simp only [hv', ↓reduceIte]
      by_cases c0 : (nm.toList == nm'.toList) = true
      · by_cases c1 : (ps.length : Int) = (ps'.length : Int)
        · by_cases c2 : (ts.length : Int) = (ts'.length : Int)
          · have htr : ∀ i, i < ts.length → Ev (fun k => net_Same.tr k (ts.getD i zT) (ts'.getD i zT)) (eqT (ts.getD i zT) (ts'.getD i zT)) := fun i hi => by
              have hth := hT.at hi
              unfold net_Same.tr eqT
              generalize ts.getD i zT = x at hth
              generalize ts'.getD i zT = y
              by_cases d0 : (x.f0.toList == y.f0.toList) = true
              · by_cases d4 : (x.f4 == y.f4) = true
                · simp only [d0, d4, ↓reduceIte]
                  refine Ev.bind (sameArcs_ev _ _ hth.2.1) ?_
                  by_cases d1 : sameArcsS x.f1 y.f1 = true
                  · simp only [d1, ↓reduceIte]
                    refine Ev.bind (sameArcs_ev _ _ hth.2.2.1) ?_
                    by_cases d2 : sameArcsS x.f2 y.f2 = true
                    · simp only [d2, ↓reduceIte]
                      exact sameArcs_ev _ _ hth.2.2.2
                    · simp only [d2]; exact Ev.some _
                  · simp only [d1]; exact Ev.some _
                · simp only [d0, d4, ↓reduceIte]; exact Ev.some _
              · simp only [d0]; exact Ev.some _
            have h1 := Ev_first (L := fun k i => net_Same.l1 k ts ts' (i : Int)) (n := ts.length) (fun i => if (!eqT (ts.getD i zT) (ts'.getD i zT)) = true then some false else none) (e := true)
              (fun i hi hb r hr => Ev.step (f := fun k => (net_Same.tr k (ts.getD i zT) (ts'.getD i zT)).bind fun b => if b = true then net_Same.l1 k ts ts' ((i + 1 : Nat) : Int) else some false) (fun k => by
                simp only [net_Same.l1]
                rw [if_pos (by omega), if_pos (by omega), if_pos (by omega), rdT, rdT, wrap_up hi (by omega)]) (by
                  refine Ev.bind (htr i hi) ?_
                  cases he : eqT (ts.getD i zT) (ts'.getD i zT) with
                  | true => simp only [↓reduceIte]; exact hr
                  | false => rw [he] at hb; cases hb))
              (fun i r hi hb => Ev.step (f := fun k => (net_Same.tr k (ts.getD i zT) (ts'.getD i zT)).bind fun b => if b = true then net_Same.l1 k ts ts' ((i + 1 : Nat) : Int) else some false) (fun k => by
                simp only [net_Same.l1]
                rw [if_pos (by omega), if_pos (by omega), if_pos (by omega), rdT, rdT, wrap_up hi (by omega)]) (by
                  refine Ev.bind (htr i hi) ?_
                  cases he : eqT (ts.getD i zT) (ts'.getD i zT) with
                  | true => rw [he] at hb; cases hb
                  | false => rw [he] at hb; obtain rfl := Option.some.inj hb; simp only [Bool.false_eq_true, ↓reduceIte]; exact Ev.some _))
              (Ev.one (fun k => by simp only [net_Same.l1]; rw [if_neg (by omega)]))
            have h0 := Ev_loop (L := fun k i => net_Same.l0 k ps ps' ts ts' (i : Int)) (n := ps.length) 1 (fun i => if neP (ps.getD i zP) (ps'.getD i zP) = true then some false else none) (e := first (fun i => if (!eqT (ts.getD i zT) (ts'.getD i zT)) = true then some false else none) true ts.length)
              (fun k i hi => by
                simp only [net_Same.l0]
                rw [if_pos (by omega), if_pos (by omega), if_pos (by omega), rdP, rdP, wrap_up hi (by omega)]
                by_cases c : neP (ps.getD i zP) (ps'.getD i zP) = true
                · rw [if_pos c, if_pos (show net_Same.ne (ps.getD i zP) (ps'.getD i zP) = true from c)]; rfl
                · rw [if_neg c, if_neg (show ¬ net_Same.ne (ps.getD i zP) (ps'.getD i zP) = true from c)]; rfl)
              (Ev.step (f := fun k => net_Same.l1 k ts ts' ((0 : Nat) : Int)) (fun k => by simp only [net_Same.l0]; rw [if_neg (by omega)]; rfl) h1)
            rw [if_pos c0, if_pos c1, if_pos c2]
            exact Ev.congr (fun k => by rw [if_pos c0, if_pos c1, if_pos c2]; rfl) h0
          · rw [if_pos c0, if_pos c1, if_neg c2]
            exact Ev.congr (f := fun _ => some false) (fun k => by rw [if_pos c0, if_pos c1, if_neg c2]) (Ev.some _)
        · rw [if_pos c0, if_neg c1]
          exact Ev.congr (f := fun _ => some false) (fun k => by rw [if_pos c0, if_neg c1]) (Ev.some _)
      · rw [if_neg c0]
        exact Ev.congr (f := fun _ => some false) (fun k => by rw [if_neg c0]) (Ev.some _)
    · simp only [hv']; exact Ev.some _
  · simp only [hv]; exact Ev.some _
end Go.Proofs.Ytboonibkibhmhaa.Pl
