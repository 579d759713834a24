/- What the reference's functions over nets answer: names and weights. -/
import Derived.Test.YtboonibkibhmhaaPx21
import Derived.Test.YtboonibkibhmhaaPx21
import Derived.Test.YtboonibkibhmhaaPx21
import Derived.Test.YtboonibkibhmhaaPx21
import Derived.Test.YtboonibkibhmhaaRefW
namespace Go.Proofs.Ytboonibkibhmhaa.Pl
open Go.RowKit Go.Proofs.Ytboonibkibhmhaa.P Go.Proofs.YtboonibkibhmhaaW.PrintWords Go.Proofs.YtboonibkibhmhaaW.PrintMore

theorem refplaceat_ev (nm : ByteArray) {ps : List Pla} {ts : List Tra} (s : ByteArray) (hp : ps.length ≤ 1000000) (hT : Thin ts) : Ev (fun k => petrinetref09_Place.f k nm ps ts s) (placeS (validS nm ps ts) ps s) := by
  unfold petrinetref09_Place.f placeS
  refine Ev.bind (refvalid_ev nm hT) ?_
  by_cases hv : validS nm ps ts = true
  · simp only [hv, ↓reduceIte]
    exact Ev_loop (L := fun k i => petrinetref09_Place.l0 k s (i : Int) nm ps ts) 1 _ (fun k i hi => by
      simp only [petrinetref09_Place.l0]
      rw [if_pos (by omega), if_pos (by omega), rdP, wrap_up hi (by omega)]
      by_cases c : (ps.getD i zP).f0.toList = s.toList
      · rw [if_pos c, if_pos c]; rfl
      · rw [if_neg c, if_neg c]; rfl) (Ev.one (fun k => by simp only [petrinetref09_Place.l0]; rw [if_neg (by omega)]))
  · simp only [hv]; exact Ev.some _
theorem reftransat_ev (nm : ByteArray) {ps : List Pla} {ts : List Tra} (s : ByteArray) (ht : ts.length ≤ 1000000) (hT : Thin ts) : Ev (fun k => petrinetref09_Trans.f k nm ps ts s) (transS (validS nm ps ts) ts s) := by
  unfold petrinetref09_Trans.f transS
  refine Ev.bind (refvalid_ev nm hT) ?_
  by_cases hv : validS nm ps ts = true
  · simp only [hv, ↓reduceIte]
    exact Ev_loop (L := fun k i => petrinetref09_Trans.l0 k s (i : Int) nm ps ts) 1 _ (fun k i hi => by
      simp only [petrinetref09_Trans.l0]
      rw [if_pos (by omega), if_pos (by omega), rdT, wrap_up hi (by omega)]
      by_cases c : (ts.getD i zT).f0.toList = s.toList
      · rw [if_pos c, if_pos c]; rfl
      · rw [if_neg c, if_neg c]; rfl) (Ev.one (fun k => by simp only [petrinetref09_Trans.l0]; rw [if_neg (by omega)]))
  · simp only [hv]; exact Ev.some _
theorem refpre_ev (nm : ByteArray) {ps : List Pla} {ts : List Tra} (t p : Int) (hT : Thin ts) : Ev (fun k => petrinetref09_Pre.f k nm ps ts t p) (preS (validS nm ps ts) ts t p) := by
  unfold petrinetref09_Pre.f preS
  refine Ev.bind (refvalid_ev nm hT) ?_
  by_cases hv : validS nm ps ts = true
  · simp only [hv, ↓reduceIte]
    by_cases c : t < 0 ∨ t ≥ (ts.length : Int)
    · rw [if_pos c]
      exact Ev.congr (f := fun _ => some 0) (fun k => by rw [ite_or2, if_pos c]) (Ev.some _)
    · rw [if_neg c]
      obtain ⟨i, rfl⟩ : ∃ i : Nat, t = i := ⟨t.toNat, by omega⟩
      have hi : i < ts.length := by omega
      refine Ev.congr (f := fun k => (petrinetref09_Weight.f k (ts.getD i zT).f1 p).bind fun x => some x) (fun k => by rw [ite_or2, if_neg c, if_pos (by omega), if_pos (by omega), rdT]) ?_
      exact Ev.bind (refweight_ev _ p (hT.at hi).2.1) (Ev.some _)
  · simp only [hv]; exact Ev.some _
theorem refpost_ev (nm : ByteArray) {ps : List Pla} {ts : List Tra} (t p : Int) (hT : Thin ts) : Ev (fun k => petrinetref09_Post.f k nm ps ts t p) (postS (validS nm ps ts) ts t p) := by
  unfold petrinetref09_Post.f postS
  refine Ev.bind (refvalid_ev nm hT) ?_
  by_cases hv : validS nm ps ts = true
  · simp only [hv, ↓reduceIte]
    by_cases c : t < 0 ∨ t ≥ (ts.length : Int)
    · rw [if_pos c]
      exact Ev.congr (f := fun _ => some 0) (fun k => by rw [ite_or2, if_pos c]) (Ev.some _)
    · rw [if_neg c]
      obtain ⟨i, rfl⟩ : ∃ i : Nat, t = i := ⟨t.toNat, by omega⟩
      have hi : i < ts.length := by omega
      refine Ev.congr (f := fun k => (petrinetref09_Weight.f k (ts.getD i zT).f2 p).bind fun x => some x) (fun k => by rw [ite_or2, if_neg c, if_pos (by omega), if_pos (by omega), rdT]) ?_
      exact Ev.bind (refweight_ev _ p (hT.at hi).2.2.1) (Ev.some _)
  · simp only [hv]; exact Ev.some _
end Go.Proofs.Ytboonibkibhmhaa.Pl
