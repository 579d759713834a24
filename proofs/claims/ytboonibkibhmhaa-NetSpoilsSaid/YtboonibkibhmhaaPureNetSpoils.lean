/- The plain law of NetSpoils: for every net the law's function answers true, with rounds enough. -/
import Derived.Test.YtboonibkibhmhaaPx30
import Derived.Test.YtboonibkibhmhaaLives09
import Derived.Test.YtboonibkibhmhaaSmall
import Derived.Test.YtboonibkibhmhaaRef1
import Derived.Test.YtboonibkibhmhaaNetV
namespace Go.Proofs.Ytboonibkibhmhaa.Pure
open Go.RowKit Go.Proofs.Ytboonibkibhmhaa.P Go.Proofs.Ytboonibkibhmhaa.Pl Go.Proofs.YtboonibkibhmhaaW.PrintWords
theorem getD_app_lt {α : Type} (l m : List α) (z : α) {i : Nat} (h : i < l.length) : (l ++ m).getD i z = l.getD i z := by
  rw [List.getD_eq_getElem?_getD, List.getElem?_append_left h, ← List.getD_eq_getElem?_getD]
theorem getD_app_end {α : Type} (l : List α) (x z : α) : (l ++ [x]).getD l.length z = x := by
  rw [List.getD_eq_getElem?_getD, List.getElem?_append_right (Nat.le_refl _)]; simp
theorem take_app_le {α : Type} (l m : List α) {i : Nat} (h : i ≤ l.length) : (l ++ m).take i = l.take i := by
  rw [List.take_append_of_le_length h]
theorem spoil_p {nm : ByteArray} {ps : List Pla} {ts : List Tra} (V : ValidN nm ps ts) (hp : ps.length < 24) : checkS nm (ps ++ [(⟨(ps.getD 0 zP).f0, 0, 0⟩ : Pla)]) ts = (6, (ps.length : Int)) := by
  have hl : (ps ++ [(⟨(ps.getD 0 zP).f0, 0, 0⟩ : Pla)]).length = ps.length + 1 := by simp
  have hV := V.t
  have h0 := V.p0
  unfold checkS
  rw [if_pos V.n, if_neg (by rw [hl]; omega)]
  refine first_at ps.length (by rw [hl]; omega) ?_ (fun i hi => ?_)
  · have e : plR (ps ++ [(⟨(ps.getD 0 zP).f0, 0, 0⟩ : Pla)]) ps.length = 6 := by
      unfold plR
      rw [getD_app_end, take_app_le _ _ (Nat.le_refl _), List.take_length]
      have hn := (nmE_zero (V.plName (i := 0) (by omega)).1).1
      have : nmE (ps.map (·.f0)) (ps.getD 0 zP).f0 = 6 := by
        unfold nmE
        rw [if_pos hn, if_pos ((any_all ps (·.f0) (fun o => o.toList == (ps.getD 0 zP).f0.toList) zP).2 ⟨0, by omega, beq_iff_eq.2 rfl⟩)]
      rw [this]; rfl
    unfold pF
    rw [e]; rfl
  · have e : plR (ps ++ [(⟨(ps.getD 0 zP).f0, 0, 0⟩ : Pla)]) i = plR ps i := by
      unfold plR
      rw [getD_app_lt _ _ _ hi, take_app_le _ _ (by omega)]
    unfold pF
    rw [e, if_pos (V.pl i hi)]
theorem spoil_t {nm : ByteArray} {ps : List Pla} {ts : List Tra} (V : ValidN nm ps ts) (ht : ts.length < 24) (x : Tra) {c : Int} (hc : nmE (ps.map (·.f0) ++ ts.map (·.f0)) x.f0 = c) (h0 : c ≠ 0) : checkS nm ps (ts ++ [x]) = (c, (ps.length : Int) + (ts.length : Int)) := by
  have hl : (ts ++ [x]).length = ts.length + 1 := by simp
  have hV := V.p
  have hV0 := V.p0
  unfold checkS
  rw [if_pos V.n, if_neg (by rw [hl]; omega), first_all (fun i hi => by unfold pF; rw [if_pos (V.pl i hi)])]
  refine first_at ts.length (by rw [hl]; omega) ?_ (fun i hi => ?_)
  · have e : trR ps (ts ++ [x]) ts.length = c := by
      unfold trR
      rw [getD_app_end, take_app_le _ _ (Nat.le_refl _), List.take_length, hc, if_pos h0]
    unfold tF
    rw [e, if_neg h0]
  · have e : trR ps (ts ++ [x]) i = trR ps ts i := by
      unfold trR
      rw [getD_app_lt _ _ _ hi, take_app_le _ _ (by omega)]
    unfold tF
    rw [e, if_pos (V.tr i hi)]
theorem thin_app {ts : List Tra} (h : Thin ts) {x : Tra} (hx : ThinT x) : Thin (ts ++ [x]) := fun t ht => by
  rcases List.mem_append.1 ht with h1 | h1
  · exact h t h1
  · rw [List.mem_singleton.1 h1]; exact hx
theorem empty_name : nameB (⟨#[]⟩ : ByteArray) = false := by decide +kernel
theorem NetSpoils (nm : ByteArray) (ps : List Pla) (ts : List Tra) {w : Prop} (_h : w) : ∃ k, petrinetlaw09_NetSpoils.f k nm ps ts = some true := by
  refine Ev.rounds (g := fun k => petrinetlaw09_NetSpoils.f k nm ps ts) ?_
  unfold petrinetlaw09_NetSpoils.f
  refine Ev.bind lives ?_
  simp only [↓reduceIte]
  refine Ev.bind (small_ev nm ps ts) ?_
  have idle : ∀ nm ps ts, Ev (fun k => petrinetlaw09_NetSpoils.j0 k true nm ps ts) true := fun nm ps ts => Ev.one (fun k => by simp only [petrinetlaw09_NetSpoils.j0]; rw [if_pos trivial])
  cases hs : smallS nm ps ts with
  | false =>
    simp only [smallR, Bool.false_eq_true, ↓reduceIte]
    exact idle _ _ _
  | true =>
    have hS := smallS_true hs
    have hT := hS.thin
    have hp := hS.p
    have ht := hS.t
    simp only [smallR, ↓reduceIte]
    refine Ev.bind (refvalid_ev nm hT) ?_
    cases hv : validS nm ps ts with
    | false => simp only [Bool.false_eq_true, ↓reduceIte]; exact idle _ _ _
    | true =>
      have V := validS_iff.1 hv
      have h0 := V.p0
      simp only [↓reduceIte]
      refine Ev.congr (fun k => ite_or _ _ (fun b => petrinetlaw09_NetSpoils.j0 k b nm ps ts)) ?_
      by_cases c : (ps.length : Int) ≥ 24 ∨ (ts.length : Int) ≥ 24
      · rw [decide_eq_true c]; exact idle _ _ _
      · rw [decide_eq_false c]
        have hx : ThinT (⟨(ps.getD 0 zP).f0, [], [], [], 0⟩ : Tra) := ⟨Nat.le_trans (hS.pn 0 (by omega)) (by decide), Nat.zero_le _, Nat.zero_le _, Nat.zero_le _⟩
        have hx0 : ThinT (⟨⟨#[]⟩, [], [], [], 0⟩ : Tra) := ⟨Nat.zero_le _, Nat.zero_le _, Nat.zero_le _, Nat.zero_le _⟩
        have e0 : rd_T50 ps 0 = ps.getD 0 zP := rdP ps 0
        have hw : wrap64 ((ps.length : Int) + (ts.length : Int)) = (ps.length : Int) + (ts.length : Int) := wrap_ok (by omega) (by omega)
        have hn := (nmE_zero (V.plName (i := 0) (by omega)).1).1
        have k1 := check_ev nm (ps := ps ++ [(⟨(ps.getD 0 zP).f0, 0, 0⟩ : Pla)]) hT
        rw [spoil_p V (by omega)] at k1
        have k2 := check_ev nm (ps := ps) (thin_app hT hx)
        rw [spoil_t V (by omega) _ (c := 6) (by
          unfold nmE
          rw [if_pos hn, if_pos (by rw [List.any_append, (any_all ps (·.f0) (fun o => o.toList == (ps.getD 0 zP).f0.toList) zP).2 ⟨0, by omega, beq_iff_eq.2 rfl⟩]; rfl)]) (by decide)] at k2
        have k3 := check_ev nm (ps := ps) (thin_app hT hx0)
        rw [spoil_t V (by omega) _ (c := 5) (by unfold nmE; rw [empty_name]; rfl) (by decide)] at k3
        have k4 := check_ev (⟨#[]⟩ : ByteArray) (ps := ps) hT
        rw [show checkS (⟨#[]⟩ : ByteArray) ps ts = (5, 0) by unfold checkS; rw [empty_name]; rfl] at k4
        have k5 := check_ev nm (ps := []) hT
        rw [show checkS nm [] ts = (2, 0) by unfold checkS; rw [if_pos V.n, if_pos (Or.inl (by decide))]] at k5
        refine Ev.step (fun k => by
          simp only [petrinetlaw09_NetSpoils.j0]
          rw [if_neg Bool.false_ne_true, if_pos (by simp only [List.length_nil]; omega), List.nil_append, List.nil_append, e0, hw]
          simp only [Option.bind_some]
          rw [if_pos (by omega), if_pos (by omega)]) (Ev.bind k1 ?_)
        simp only [BEq.rfl, Bool.not_true, Bool.or_self, Bool.false_eq_true, ↓reduceIte]
        refine Ev.congr (fun k => by rw [if_pos (by simp only [List.length_nil]; omega), if_pos (by omega)]) (Ev.bind k2 ?_)
        simp only [BEq.rfl, Bool.not_true, Bool.or_self, Bool.false_eq_true, ↓reduceIte]
        refine Ev.congr (fun k => by rw [if_pos (by omega)]) (Ev.bind k3 ?_)
        simp only [BEq.rfl, Bool.not_true, Bool.or_self, Bool.false_eq_true, ↓reduceIte]
        refine Ev.bind k4 ?_
        simp only [BEq.rfl, Bool.and_self, ↓reduceIte]
        exact Ev.bind k5 (Ev.some _)
end Go.Proofs.Ytboonibkibhmhaa.Pure
