-- LAID BY OUR PROGRAM OVER THE PRINT (xprint.py, part.py): Lean checks it.
import Derived.Test.YtnoebjmhimehcaaPx0
import Derived.Test.YtnoebjmhimehcaaPx1
import Derived.Test.YtnoebjmhimehcaaPx3
import Derived.Test.YtnoebjmhimehcaaPx7
import Derived.Test.YtnoebjmhimehcaaPx8
namespace Go.Proofs.Ytnoebjmhimehcaa.P
open Go.RowKit Go.Proofs.YtnoebjmhimehcaaW.PrintWords Go.Proofs.YtnoebjmhimehcaaW.PrintLast Go.Proofs.YtnoebjmhimehcaaW.PrintMore
attribute [local go_sem] max2_int min2_int max_two min_two max_three min_three max_four min_four   -- for this text's walks alone
set_option linter.unusedVariables false
set_option linter.unusedSimpArgs false

/-! ### r43_Same: function 20 -/
attribute [local go_sem high] eqA50
def r43_Same.l0 : Nat → List (S50) → List (S50) → Int → Option (Bool)
 | 0, _, _, _ => none
 | k + 1, x0, x1, x5 => if x5 < (x0.length : Int) then (if 0 ≤ x5 then (if x5 < (x1.length : Int) then (if (!(((rd_T50 x0 x5).f0) == ((rd_T50 x1 x5).f0)) || (!(((rd_T50 x0 x5).f1) == ((rd_T50 x1 x5).f1)))) = true then (some false) else (r43_Same.l0 k x0 x1 (wrap64 (x5 + 1)))) else (none)) else (none)) else (some true)
def r43_Same.f (k : Nat) (l0 : List (S50)) (l1 : List (S50)) : Option (Bool) := if (l0.length : Int) = (l1.length : Int) then (r43_Same.l0 k l0 l1 0) else (some false)
theorem r43_Same.mono_l : ∀ k, M3 r43_Same.l0 k
 | 0 => fun _ _ _ r h => by simp [r43_Same.l0] at h
 | k + 1 => by
  have ih0 := r43_Same.mono_l k
  ·intro y0 y1 y2
   unfold r43_Same.l0
   repeat' first | (with_reducible first | apply ih0 | apply lr | apply ln | apply li | refine lb ?_ fun _ => ?_)
theorem r43_Same.mono : ∀ a0 a1 k, LeO (r43_Same.f k a0 a1) (r43_Same.f (k + 1) a0 a1) := by
 intro a0 a1 k
 have ih0 := r43_Same.mono_l k
 unfold r43_Same.f
 repeat' first | (with_reducible first | apply ih0 | apply lr | apply ln | apply li | refine lb ?_ fun _ => ?_)
set_option maxHeartbeats 8000000 in
set_option maxRecDepth 100000 in
theorem r43_Same.calls (k : Nat) (A0 : Option Addr) (c0 : Nat) (l0 : List (S50)) (A1 : Option Addr) (c1 : Nat) (l1 : List (S50)) (r : Bool) (w : World) (hr0 : Kd.C k50 w A0 l0.length l0) (hc0 : l0.length ≤ c0) (hr1 : Kd.C k50 w A1 l1.length l1) (hc1 : l1.length ≤ c1) (h : r43_Same.f k l0 l1 = some r) :
  Calls Try.prog 20 #[.slice A0 l0.length c0, .slice A1 l1.length c1] w fun e w' => e = .returned (.bool r) ∧ Drawn0 w w' := by
 have hu50 := Try.underlying50
 have HR0 := am hr0
 have HC0 := am hc0
 clear hr0 hc0
 have HR1 := am hr1
 have HC1 := am hc1
 clear hr1 hc1
 have H : (if (l0.length : Int) = (l1.length : Int) then (r43_Same.l0 k l0 l1 0) else (some false)) = some r := h
 clear h
 by_cases c3 : (l0.length : Int) = (l1.length : Int)
 rotate_left
 ·rw [if_neg c3] at H
  have c3b0 : ((l0.length : Int) == (l1.length : Int)) = false := beq_eq_false_iff_ne.mpr c3
  have c3b1 : ((l0.length : Int) != (l1.length : Int)) = true := bne_iff_ne.mpr c3
  have c3b2 : (l0.length == l1.length) = false := by first | simpa using c3 | (simp at c3 ⊢; omega)
  obtain rfl := Option.some.inj H
  go_enter Try.func20, Try.ntmps20
  go_wp2
  repeat (go_quiet (fail); try go_wp2)
  go_ret
  exact ⟨prs, pdr⟩
 rw [if_pos c3] at H
 have c3b0 : ((l0.length : Int) == (l1.length : Int)) = true := beq_iff_eq.mpr c3
 have c3b1 : ((l0.length : Int) != (l1.length : Int)) = false := bne_eq_false_iff_eq.mpr c3
 have c3b2 : (l0.length == l1.length) = true := by first | simpa using c3 | (simp at c3 ⊢; omega)
 clear c3
 have H' := am H
 clear H
 go_enter Try.func20, Try.ntmps20
 go_wp2
 repeat (go_quiet (fail); try go_wp2)
 go_loopg [5] k (fun kq v5 w' => ∃ (x5_1 : Int), v5 = .int .i64 x5_1 ∧ Aside0 (r43_Same.l0 kq l0 l1 x5_1 = some r) ∧ Aside0 (kq ≤ k) ∧ Drawn0 w w')
 case atStart => exact ⟨(0), prs, H', ⟨Nat.le_refl _⟩, pdr⟩
 clear H'
 try clear c1 c3 c3b0 c3b1 c3b2
 obtain ⟨x5_1, rfl, HA, HK1, ⟨m1, rfl⟩⟩ := hrel
 obtain _ | k1 := gk
 ·exact absurd HA.1 (by simp [r43_Same.l0])
 have H := HA.1
 clear HA
 simp only [r43_Same.l0] at H
 by_cases c4 : x5_1 < (l0.length : Int)
 rotate_left
 ·rw [if_neg c4] at H
  have c4b0 : decide (x5_1 < (l0.length : Int)) = false := decide_eq_false c4
  clear c4
  obtain rfl := Option.some.inj H
  go_wp2
  repeat (go_quiet (fail); try go_wp2)
  go_ret
  exact ⟨prs, pdr⟩
 rw [if_pos c4] at H
 have c4b0 : decide (x5_1 < (l0.length : Int)) = true := decide_eq_true c4
 clear c4
 replace H := ifp H
 obtain ⟨c5, H⟩ := H
 have c5b0 := decide_eq_true c5
 clear c5
 replace H := ifp H
 obtain ⟨c6, H⟩ := H
 have c6b0 := decide_eq_true c6
 clear c6
 by_cases c7 : (!(((rd_T50 l0 x5_1).f0) == ((rd_T50 l1 x5_1).f0)) || (!(((rd_T50 l0 x5_1).f1) == ((rd_T50 l1 x5_1).f1)))) = true
 ·rw [if_pos c7] at H
  have c7b0 : (!(((rd_T50 l0 x5_1).f0) == ((rd_T50 l1 x5_1).f0)) || (!(((rd_T50 l0 x5_1).f1) == ((rd_T50 l1 x5_1).f1)))) = true := c7
  clear c7
  obtain rfl := Option.some.inj H
  obtain ⟨p587, q587, ad587, e587, hx587_0, hx587_1⟩ := dT50 HR0.1 x5_1
  cases e587
  obtain ⟨p588, q588, ad588, e588, hx588_0, hx588_1⟩ := dT50 HR1.1 x5_1
  cases e588
  go_wp2
  repeat (go_quiet (fail); try go_wp2)
  go_ret
  exact ⟨prs, pdr⟩
 rw [if_neg c7] at H
 have c7b0 : (!(((rd_T50 l0 x5_1).f0) == ((rd_T50 l1 x5_1).f0)) || (!(((rd_T50 l0 x5_1).f1) == ((rd_T50 l1 x5_1).f1)))) = false := by simpa using c7
 clear c7
 have H' := am H
 clear H
 obtain ⟨p587, q587, ad587, e587, hx587_0, hx587_1⟩ := dT50 HR0.1 x5_1
 cases e587
 obtain ⟨p588, q588, ad588, e588, hx588_0, hx588_1⟩ := dT50 HR1.1 x5_1
 cases e588
 go_wp2
 repeat (go_quiet (fail); try go_wp2)
 go_roundg k1
 case measure => have := HK1.1; omega
 case rel => exact ⟨(wrap64 (x5_1 + 1)), prs, H', ⟨by have := HK1.1; omega⟩, pdr⟩

/-! ### petrinetlaw43_WorkflowProblems: function 4 -/
def petrinetlaw43_WorkflowProblems.f (k : Nat) (a0_0 : ByteArray) (l0_1 : List (S52)) (l0_2 : List (S48)) : Option (Bool) := (r09_Small.f k a0_0 l0_1 l0_2).bind fun bt590 => (if bt590.2.2.2 = true then ((workflow_Problems.f k bt590.1 bt590.2.1 bt590.2.2.1).bind fun bt600 => ((r43_Problems.f k bt590.1 bt590.2.1 bt590.2.2.1).bind fun bt604 => ((r43_Same.f k bt600.1 bt604.1).bind fun t608 => (if t608 = true then (if bt600.2 = bt604.2 then ((petrinetlaw43_lives.f k).bind fun t609 => (some t609)) else (none)) else (none))))) else ((petrinetlaw43_lives.f k).bind fun t599 => (some t599)))
theorem petrinetlaw43_WorkflowProblems.mono : ∀ a0 a1 a2 k, LeO (petrinetlaw43_WorkflowProblems.f k a0 a1 a2) (petrinetlaw43_WorkflowProblems.f (k + 1) a0 a1 a2) := by
 intro a0 a1 a2 k
 unfold petrinetlaw43_WorkflowProblems.f
 repeat' first | (with_reducible first | apply petrinetlaw43_lives.mono | apply r09_Small.mono | apply r43_Problems.mono | apply r43_Same.mono | apply workflow_Problems.mono | apply lr | apply ln | apply li | refine lb ?_ fun _ => ?_)
set_option maxHeartbeats 8000000 in
set_option maxRecDepth 100000 in
theorem petrinetlaw43_WorkflowProblems.calls (k : Nat) (a0_0 : ByteArray) (A0_1 : Option Addr) (c0_1 : Nat) (l0_1 : List (S52)) (A0_2 : Option Addr) (c0_2 : Nat) (l0_2 : List (S48)) (r : Bool) (w : World) (hr0_1 : Kd.C k52 w A0_1 l0_1.length l0_1) (hc0_1 : l0_1.length ≤ c0_1) (hr0_2 : Kd.C k48 w A0_2 l0_2.length l0_2) (hc0_2 : l0_2.length ≤ c0_2) (h : petrinetlaw43_WorkflowProblems.f k a0_0 l0_1 l0_2 = some r) :
  Calls Try.prog 4 #[.agg #[.string a0_0, .slice A0_1 l0_1.length c0_1, .slice A0_2 l0_2.length c0_2]] w fun e w' => e = .returned (.bool r) ∧ Below w.heap.size w w' := by
 have hu25 := Try.underlying25
 have HR0_1 := am hr0_1
 have HC0_1 := am hc0_1
 clear hr0_1 hc0_1
 have HR0_2 := am hr0_2
 have HC0_2 := am hc0_2
 clear hr0_2 hc0_2
 have HB := am (Below.refl w.heap.size w)
 have H : ((r09_Small.f k a0_0 l0_1 l0_2).bind fun bt590 => (if bt590.2.2.2 = true then ((workflow_Problems.f k bt590.1 bt590.2.1 bt590.2.2.1).bind fun bt600 => ((r43_Problems.f k bt590.1 bt590.2.1 bt590.2.2.1).bind fun bt604 => ((r43_Same.f k bt600.1 bt604.1).bind fun t608 => (if t608 = true then (if bt600.2 = bt604.2 then ((petrinetlaw43_lives.f k).bind fun t609 => (some t609)) else (none)) else (none))))) else ((petrinetlaw43_lives.f k).bind fun t599 => (some t599)))) = some r := h
 clear h
 replace H := bnd H
 obtain ⟨⟨t590, t591, t594, t597⟩, A2, H⟩ := H
 (try dsimp only at H)
 by_cases c3 : t597 = true
 rotate_left
 ·replace c3 := Bool.eq_false_iff.mpr c3
  subst c3
  rw [if_neg Bool.false_ne_true] at H
  replace H := bnd H
  obtain ⟨t599, A24, H⟩ := H
  (try dsimp only at H)
  obtain rfl := Option.some.inj H
  go_enter Try.func4, Try.ntmps4
  go_wp2_with (first | ((with_reducible refine gate_dst (N := 1) rfl ?_); refine box_ev (N := 1) (cs := #[.string a0_0, .slice A0_1 l0_1.length c0_1, .slice A0_2 l0_2.length c0_2]) (t := 25) ?_; intro gb589 hg w25 hbox hb; have BK589 := am hbox; have GW589 := gwl hg; have GE589 := GW589; replace HB := bsl hb; clear hb hbox hg; obtain ⟨z26_0, z26_1, z26_2, y26_0, y26_1, y26_2⟩ := cf3 BK589.1) | ((with_reducible refine gate_callee (f := 10) rfl ?_); refine gC 11 Try.func10 _ (r09_Small.calls k a0_0 (fun k_ => k_ < w.heap.size) _ _ l0_1 (fun k_ => k_ < w.heap.size) _ _ l0_2 t590 t591 t594 false _ (Kd.V_mk HC0_1.1 (Kd.F_below (Kd.C_F k52_heap HR0_1.1) pbg)) (Kd.V_mk HC0_2.1 (Kd.F_below (Kd.C_F k48_heap HR0_2.1) pbg)) A2.1) ?_; rintro e w27 ⟨v592, v595, rfl, ho0, ho1, hb⟩; refine ⟨_, rfl, ?_⟩; have HO593 := am (Kd.V_lower (Kd.V_mono (ok' := fun k_ => k_ ≠ gb589) ho0 (fun k_ hk_ => Or.elim hk_ (fun hs_ => Or.elim hs_ (fun hs_ => fun e_ => Nat.not_le.2 hs_ (by rw [e_]; exact GW589.1)) (fun hs_ => fun e_ => Nat.not_le.2 hs_ (by rw [e_]; exact GW589.1))) (fun hn_ => (Kd.freshB (g := gb589) (o := .cells #[.string a0_0, .slice A0_1 l0_1.length c0_1, .slice A0_2 l0_2.length c0_2] 25 (0, 0)) (by exact pbk BK589.1) k_ hn_)))) (below_size pbg)); have HO596 := am (Kd.V_lower (Kd.V_mono (ok' := fun k_ => k_ ≠ gb589) ho1 (fun k_ hk_ => Or.elim hk_ (fun hs_ => Or.elim hs_ (fun hs_ => fun e_ => Nat.not_le.2 hs_ (by rw [e_]; exact GW589.1)) (fun hs_ => fun e_ => Nat.not_le.2 hs_ (by rw [e_]; exact GW589.1))) (fun hn_ => (Kd.freshB (g := gb589) (o := .cells #[.string a0_0, .slice A0_1 l0_1.length c0_1, .slice A0_2 l0_2.length c0_2] 25 (0, 0)) (by exact pbk BK589.1) k_ hn_)))) (below_size pbg)); replace BK589 := bbh BK589 hb; replace HB := bst hb; (try clear hb); (try clear ho0); (try clear ho1)) | ((with_reducible refine gate_dst (N := 3) rfl ?_); refine box_ev (N := 3) (cs := #[.string (⟨#[]⟩ : ByteArray), .slice none 0 0, .slice none 0 0]) (t := 25) ?_; intro gb598 hg w28 hbox hb; have BK598 := am hbox; have GW598 := gwb hg; have GE598 := GW598; have NB589_598 := nlt hg BK589; have NB598_589 := ngt hg BK589; replace HO593 := vbb HO593 hg hb; replace HO596 := vbb HO596 hg hb; replace BK589 := bbh BK589 hb; replace HB := bst hb; clear hb hbox hg; have hnb29 := NB598_589.1; have hnc29 := NB589_598.1; obtain ⟨z30_0, z30_1, z30_2, y30_0, y30_1, y30_2⟩ := cf3 BK598.1; obtain ⟨Ao31, co31, eo31⟩ := Kd.V_slice HO593.1; subst eo31; obtain ⟨Ao32, co32, eo32⟩ := Kd.V_slice HO596.1; subst eo32) | ((with_reducible refine gate_callee (f := 11) rfl ?_); refine gC 16 Try.func11 _ (petrinetlaw43_lives.calls k  t599 _ A24.1) ?_; rintro e w33 ⟨rfl, hb⟩; refine ⟨_, rfl, ?_⟩; replace HO593 := am (Kd.V_below (by (with_reducible repeat (first | apply Kd.V_alloc | apply Kd.V_drewN | apply Kd.V_drew)); exact (Kd.V_mono (Kd.V_far (p := ⟨gb598, 2, none⟩) (Kd.V_far (p := ⟨gb598, 1, none⟩) (Kd.V_far (p := ⟨gb598, 0, none⟩) (Kd.V_mono HO593.1 (fun k_ hk => (⟨hk, hk.2⟩ : _ ∧ k_ ≠ gb598))) (fun _ hk => hk.2) (.string t590)) (fun _ hk => hk.2) (.slice Ao31 t591.length co31)) (fun _ hk => hk.2) (.slice Ao32 t594.length co32)) (fun _ h_ => h_.1))) hb); replace HO596 := am (Kd.V_below (by (with_reducible repeat (first | apply Kd.V_alloc | apply Kd.V_drewN | apply Kd.V_drew)); exact (Kd.V_mono (Kd.V_far (p := ⟨gb598, 2, none⟩) (Kd.V_far (p := ⟨gb598, 1, none⟩) (Kd.V_far (p := ⟨gb598, 0, none⟩) (Kd.V_mono HO596.1 (fun k_ hk => (⟨hk, hk.2⟩ : _ ∧ k_ ≠ gb598))) (fun _ hk => hk.2) (.string t590)) (fun _ hk => hk.2) (.slice Ao31 t591.length co31)) (fun _ hk => hk.2) (.slice Ao32 t594.length co32)) (fun _ h_ => h_.1))) hb); replace BK589 := am (blk_below (g := gb589) (o := .cells #[.string a0_0, .slice A0_1 l0_1.length c0_1, .slice A0_2 l0_2.length c0_2] 25 (0, 0)) (by (with_reducible repeat (first | refine blk_drewN ?_ _ | refine blk_drew ?_ | refine blk_alloc ?_ _)); refine bf3 ?_ NB589_598.1; exact pbk BK589.1) hb); replace BK598 := am (blk_below (g := gb598) (o := .cells #[.string t590, .slice Ao31 t591.length co31, .slice Ao32 t594.length co32] 25 (0, 0)) (by (with_reducible repeat (first | refine blk_drewN ?_ _ | refine blk_drew ?_ | refine blk_alloc ?_ _)); exact bp3 (pbk BK598.1)) hb); replace HB := bst hb; (try clear hb); (try clear hk)))
  go_ret
  exact ⟨per, pbg⟩
 subst c3
 rw [if_pos rfl] at H
 replace H := bnd H
 obtain ⟨⟨t600, t603⟩, A4, H⟩ := H
 (try dsimp only at H)
 replace H := bnd H
 obtain ⟨⟨t604, t607⟩, A5, H⟩ := H
 (try dsimp only at H)
 replace H := bnd H
 obtain ⟨t608, A6, H⟩ := H
 (try dsimp only at H)
 by_cases c7 : t608 = true
 rotate_left
 ·replace c7 := Bool.eq_false_iff.mpr c7
  subst c7
  rw [if_neg Bool.false_ne_true] at H
  exact absurd H (by simp)
 subst c7
 rw [if_pos rfl] at H
 replace H := ifp H
 obtain ⟨c8, H⟩ := H
 have c8b0 : (t603 == t607) = true := beq_iff_eq.mpr c8
 have c8b1 : (t603 != t607) = false := bne_eq_false_iff_eq.mpr c8
 clear c8
 replace H := bnd H
 obtain ⟨t609, A9, H⟩ := H
 (try dsimp only at H)
 obtain rfl := Option.some.inj H
 go_enter Try.func4, Try.ntmps4
 go_wp2_with (first | ((with_reducible refine gate_dst (N := 1) rfl ?_); refine box_ev (N := 1) (cs := #[.string a0_0, .slice A0_1 l0_1.length c0_1, .slice A0_2 l0_2.length c0_2]) (t := 25) ?_; intro gb589 hg w10 hbox hb; have BK589 := am hbox; have GW589 := gwl hg; have GE589 := GW589; replace HB := bsl hb; clear hb hbox hg; obtain ⟨z11_0, z11_1, z11_2, y11_0, y11_1, y11_2⟩ := cf3 BK589.1) | ((with_reducible refine gate_callee (f := 10) rfl ?_); refine gC 11 Try.func10 _ (r09_Small.calls k a0_0 (fun k_ => k_ < w.heap.size) _ _ l0_1 (fun k_ => k_ < w.heap.size) _ _ l0_2 t590 t591 t594 true _ (Kd.V_mk HC0_1.1 (Kd.F_below (Kd.C_F k52_heap HR0_1.1) pbg)) (Kd.V_mk HC0_2.1 (Kd.F_below (Kd.C_F k48_heap HR0_2.1) pbg)) A2.1) ?_; rintro e w12 ⟨v592, v595, rfl, ho0, ho1, hb⟩; refine ⟨_, rfl, ?_⟩; have HO593 := am (Kd.V_lower (Kd.V_mono (ok' := fun k_ => k_ ≠ gb589) ho0 (fun k_ hk_ => Or.elim hk_ (fun hs_ => Or.elim hs_ (fun hs_ => fun e_ => Nat.not_le.2 hs_ (by rw [e_]; exact GW589.1)) (fun hs_ => fun e_ => Nat.not_le.2 hs_ (by rw [e_]; exact GW589.1))) (fun hn_ => (Kd.freshB (g := gb589) (o := .cells #[.string a0_0, .slice A0_1 l0_1.length c0_1, .slice A0_2 l0_2.length c0_2] 25 (0, 0)) (by exact pbk BK589.1) k_ hn_)))) (below_size pbg)); have HO596 := am (Kd.V_lower (Kd.V_mono (ok' := fun k_ => k_ ≠ gb589) ho1 (fun k_ hk_ => Or.elim hk_ (fun hs_ => Or.elim hs_ (fun hs_ => fun e_ => Nat.not_le.2 hs_ (by rw [e_]; exact GW589.1)) (fun hs_ => fun e_ => Nat.not_le.2 hs_ (by rw [e_]; exact GW589.1))) (fun hn_ => (Kd.freshB (g := gb589) (o := .cells #[.string a0_0, .slice A0_1 l0_1.length c0_1, .slice A0_2 l0_2.length c0_2] 25 (0, 0)) (by exact pbk BK589.1) k_ hn_)))) (below_size pbg)); replace BK589 := bbh BK589 hb; replace HB := bst hb; (try clear hb); (try clear ho0); (try clear ho1)) | ((with_reducible refine gate_dst (N := 3) rfl ?_); refine box_ev (N := 3) (cs := #[.string (⟨#[]⟩ : ByteArray), .slice none 0 0, .slice none 0 0]) (t := 25) ?_; intro gb598 hg w13 hbox hb; have BK598 := am hbox; have GW598 := gwb hg; have GE598 := GW598; have NB589_598 := nlt hg BK589; have NB598_589 := ngt hg BK589; replace HO593 := vbb HO593 hg hb; replace HO596 := vbb HO596 hg hb; replace BK589 := bbh BK589 hb; replace HB := bst hb; clear hb hbox hg; have hnb14 := NB598_589.1; have hnc14 := NB589_598.1; obtain ⟨z15_0, z15_1, z15_2, y15_0, y15_1, y15_2⟩ := cf3 BK598.1; obtain ⟨Ao16, co16, eo16⟩ := Kd.V_slice HO593.1; subst eo16; obtain ⟨Ao17, co17, eo17⟩ := Kd.V_slice HO596.1; subst eo17) | ((with_reducible refine gate_callee (f := 18) rfl ?_); refine gC 19 Try.func18 _ (workflow_Problems.calls k t590 _ _ t591 _ _ t594 t600 t603 _ ?side1 ?side2 ?side3 ?side4 A4.1) ?_; (case side1 => refine (Kd.V_reads' (e := 52) (base := w.heap.size) (ok := fun k_ => (k_ ≠ gb589 ∧ k_ ≠ gb598)) (n := t591.length) (c := co16) ?_).2.2; exact (by (with_reducible repeat (first | apply Kd.V_alloc | apply Kd.V_drewN | apply Kd.V_drew)); exact (Kd.V_mono (Kd.V_far (p := ⟨gb598, 2, none⟩) (Kd.V_far (p := ⟨gb598, 1, none⟩) (Kd.V_far (p := ⟨gb598, 0, none⟩) (Kd.V_mono HO593.1 (fun k_ hk => (⟨hk, hk.2⟩ : _ ∧ k_ ≠ gb598))) (fun _ hk => hk.2) (.string t590)) (fun _ hk => hk.2) (.slice Ao16 t591.length co16)) (fun _ hk => hk.2) (.slice Ao17 t594.length co17)) (fun _ h_ => h_.1)))); (case side2 => exact (Kd.V_reads' HO593.1).2.1); (case side3 => refine (Kd.V_reads' (e := 48) (base := w.heap.size) (ok := fun k_ => (k_ ≠ gb589 ∧ k_ ≠ gb598)) (n := t594.length) (c := co17) ?_).2.2; exact (by (with_reducible repeat (first | apply Kd.V_alloc | apply Kd.V_drewN | apply Kd.V_drew)); exact (Kd.V_mono (Kd.V_far (p := ⟨gb598, 2, none⟩) (Kd.V_far (p := ⟨gb598, 1, none⟩) (Kd.V_far (p := ⟨gb598, 0, none⟩) (Kd.V_mono HO596.1 (fun k_ hk => (⟨hk, hk.2⟩ : _ ∧ k_ ≠ gb598))) (fun _ hk => hk.2) (.string t590)) (fun _ hk => hk.2) (.slice Ao16 t591.length co16)) (fun _ hk => hk.2) (.slice Ao17 t594.length co17)) (fun _ h_ => h_.1)))); (case side4 => exact (Kd.V_reads' HO596.1).2.1); rintro e w18 ⟨v601, rfl, ho0, hb⟩; refine ⟨_, rfl, ?_⟩; have HO602 := am (Kd.R_lower ho0 (below_size pbg)); replace HO593 := am (Kd.V_elder' (by (with_reducible repeat (first | apply Kd.V_alloc | apply Kd.V_drewN | apply Kd.V_drew)); exact (Kd.V_mono (Kd.V_far (p := ⟨gb598, 2, none⟩) (Kd.V_far (p := ⟨gb598, 1, none⟩) (Kd.V_far (p := ⟨gb598, 0, none⟩) (Kd.V_mono HO593.1 (fun k_ hk => (⟨hk, hk.2⟩ : _ ∧ k_ ≠ gb598))) (fun _ hk => hk.2) (.string t590)) (fun _ hk => hk.2) (.slice Ao16 t591.length co16)) (fun _ hk => hk.2) (.slice Ao17 t594.length co17)) (fun _ h_ => h_.1))) (Kd.R_base ho0) hb); replace HO596 := am (Kd.V_elder' (by (with_reducible repeat (first | apply Kd.V_alloc | apply Kd.V_drewN | apply Kd.V_drew)); exact (Kd.V_mono (Kd.V_far (p := ⟨gb598, 2, none⟩) (Kd.V_far (p := ⟨gb598, 1, none⟩) (Kd.V_far (p := ⟨gb598, 0, none⟩) (Kd.V_mono HO596.1 (fun k_ hk => (⟨hk, hk.2⟩ : _ ∧ k_ ≠ gb598))) (fun _ hk => hk.2) (.string t590)) (fun _ hk => hk.2) (.slice Ao16 t591.length co16)) (fun _ hk => hk.2) (.slice Ao17 t594.length co17)) (fun _ h_ => h_.1))) (Kd.R_base ho0) hb); replace BK589 := am (blk_below (g := gb589) (o := .cells #[.string a0_0, .slice A0_1 l0_1.length c0_1, .slice A0_2 l0_2.length c0_2] 25 (0, 0)) (by (with_reducible repeat (first | refine blk_drewN ?_ _ | refine blk_drew ?_ | refine blk_alloc ?_ _)); refine bf3 ?_ NB589_598.1; exact pbk BK589.1) hb); replace BK598 := am (blk_below (g := gb598) (o := .cells #[.string t590, .slice Ao16 t591.length co16, .slice Ao17 t594.length co17] 25 (0, 0)) (by (with_reducible repeat (first | refine blk_drewN ?_ _ | refine blk_drew ?_ | refine blk_alloc ?_ _)); exact bp3 (pbk BK598.1)) hb); replace HB := bst hb; (try clear hb); (try clear hk); (try clear ho0); obtain ⟨z19_0, z19_1, z19_2, y19_0, y19_1, y19_2⟩ := cf3 BK598.1) | ((with_reducible refine gate_callee (f := 19) rfl ?_); refine gC 24 Try.func19 _ (r43_Problems.calls k t590 _ _ t591 _ _ t594 t604 t607 _ (csd ((Kd.V_reads' HO593.1).2.2)) ((Kd.V_reads' HO593.1).2.1) (csd ((Kd.V_reads' HO596.1).2.2)) ((Kd.V_reads' HO596.1).2.1) A5.1) ?_; rintro e w20 ⟨v605, rfl, ho0, hb⟩; refine ⟨_, rfl, ?_⟩; have HO606 := am (Kd.R_lower (Kd.R_new' ho0 (Kd.R_lt (pkr HO602.1))) (below_size pbg)); replace HO593 := am (Kd.V_elder' (pkv HO593.1) (Kd.R_base ho0) hb); replace HO596 := am (Kd.V_elder' (pkv HO596.1) (Kd.R_base ho0) hb); replace HO602 := am (Kd.R_elder' (pkr HO602.1) (Kd.R_base ho0) hb); replace BK589 := bbh BK589 hb; replace BK598 := bbh BK598 hb; replace HB := bst hb; (try clear hb); (try clear ho0); obtain ⟨Ao21, co21, eo21⟩ := Kd.R_slice HO602.1; subst eo21; obtain ⟨Ao22, co22, eo22⟩ := Kd.R_slice HO606.1; subst eo22) | ((with_reducible refine gate_callee (f := 20) rfl ?_); refine gC 29 Try.func20 _ (r43_Same.calls k _ _ t600 _ _ t604 true _ (csd ((Kd.R_reads' HO602.1).2.2)) ((Kd.R_reads' HO602.1).2.1) (csd ((Kd.R_reads' HO606.1).2.2)) ((Kd.R_reads' HO606.1).2.1) A6.1) ?_; rintro e w' ⟨rfl, ⟨nd, rfl⟩⟩; refine ⟨_, rfl, ?_⟩) | (go_at_call 11; (with_reducible refine (petrinetlaw43_lives.calls k  t609 _ A9.1).mono ?_); rintro e w23 ⟨rfl, hb⟩; replace HO593 := vbw HO593 hb; replace HO596 := vbw HO596 hb; replace HO602 := rbw HO602 hb; replace HO606 := rbw HO606 hb; replace BK589 := bbh BK589 hb; replace BK598 := bbh BK598 hb; replace HB := bst hb; (try clear hb)))
 go_ret
 exact ⟨per, pbg⟩

end Go.Proofs.Ytnoebjmhimehcaa.P
