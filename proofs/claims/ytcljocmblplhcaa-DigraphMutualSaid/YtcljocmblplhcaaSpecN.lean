/- From every vertex a bottom component can be reached. -/
import Derived.Test.YtcljocmblplhcaaSpecJ
namespace Go.Proofs.Ytcljocmblplhcaa.Pl
open Go.RowKit Go.Proofs.Ytcljocmblplhcaa.P Go.Proofs.YtcljocmblplhcaaW.PrintWords Go.Proofs.YtcljocmblplhcaaW.PrintMore
theorem count_lt {p q : Nat → Bool} : ∀ l : List Nat, (∀ x ∈ l, p x = true → q x = true) → (∃ x ∈ l, q x = true ∧ p x = false) → l.countP p < l.countP q
  | [], _, h => by obtain ⟨x, hx, _⟩ := h; cases hx
  | a :: l, h, k => by
    rw [List.countP_cons, List.countP_cons]
    have mono : l.countP p ≤ l.countP q := List.countP_mono_left (fun x hx hp => h x (List.mem_cons_of_mem _ hx) hp)
    obtain ⟨x, hx, h1, h2⟩ := k
    rcases List.mem_cons.1 hx with rfl | hx
    · rw [h1, h2, if_pos rfl, if_neg Bool.false_ne_true]
      omega
    · have ih := count_lt l (fun x hx hp => h x (List.mem_cons_of_mem _ hx) hp) ⟨x, hx, h1, h2⟩
      have := h a (List.mem_cons_self ..)
      by_cases e : p a = true
      · rw [if_pos e, if_pos (this e)]; omega
      · rw [if_neg e]; omega
section
variable {g : List (List Int)}
theorem least_of {u : Nat} (hu : u < g.length) : ∃ m : Nat, IsL g u (m : Int) := by
  rcases least_or (fun m => R g u m ∧ R g m u) g.length with ⟨m, _, h1, h2⟩ | h
  · exact ⟨m, m, rfl, h1.1, h1.2, fun w w1 w2 => Nat.le_of_not_lt fun hlt => h2 w hlt ⟨w1, w2⟩⟩
  · exact absurd ⟨R.refl hu, R.refl hu⟩ (h u hu)
open Classical in
theorem to_bot : ∀ (N u : Nat), u < g.length → (List.range g.length).countP (fun v => decide (R g u v)) ≤ N → ∃ v, Bot g v ∧ R g u v := by
  intro N
  induction N with
  | zero =>
    intro u hu h
    have := (List.countP_eq_zero.1 (Nat.le_zero.1 h)) u (List.mem_range.2 hu)
    exact absurd (decide_eq_true (R.refl hu)) this
  | succ N ih =>
    intro u hu h
    by_cases c : ∀ w, R g u w → R g w u
    · obtain ⟨m, hm⟩ := least_of hu
      have hm' := hm
      obtain ⟨m', e, h1, h2, _⟩ := hm'
      have : m' = m := by omega
      subst this
      exact ⟨m', ⟨hm.same h1 h2, fun w hw => (c w (h1.trans hw)).trans h1⟩, h1⟩
    · obtain ⟨w, hw⟩ := Classical.not_forall.1 c
      obtain ⟨w1, w2⟩ := Classical.not_imp.1 hw
      have hlt : (List.range g.length).countP (fun v => decide (R g w v)) < (List.range g.length).countP (fun v => decide (R g u v)) := count_lt _ (fun x _ hx => decide_eq_true (w1.trans (of_decide_eq_true hx))) ⟨u, List.mem_range.2 hu, decide_eq_true (R.refl hu), decide_eq_false w2⟩
      obtain ⟨v, h1, h2⟩ := ih w w1.lt.2 (by omega)
      exact ⟨v, h1, w1.trans h2⟩
theorem reaches_bot {u : Nat} (hu : u < g.length) : ∃ v, Bot g v ∧ R g u v := to_bot _ u hu (Nat.le_refl _)
end
end Go.Proofs.Ytcljocmblplhcaa.Pl
