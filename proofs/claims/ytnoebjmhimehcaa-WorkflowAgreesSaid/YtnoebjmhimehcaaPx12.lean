-- LAID BY OUR PROGRAM OVER THE PRINT (xprint.py, part.py): Lean checks it.
import Derived.Test.YtnoebjmhimehcaaPx0
import Derived.Test.YtnoebjmhimehcaaPx1
import Derived.Test.YtnoebjmhimehcaaPx6
import Derived.Test.YtnoebjmhimehcaaPx7
import Derived.Test.YtnoebjmhimehcaaPx8
namespace Go.Proofs.Ytnoebjmhimehcaa.P
open Go.RowKit Go.Proofs.YtnoebjmhimehcaaW.PrintWords Go.Proofs.YtnoebjmhimehcaaW.PrintLast Go.Proofs.YtnoebjmhimehcaaW.PrintMore
attribute [local go_sem] max2_int min2_int max_two min_two max_three min_three max_four min_four   -- for this text's walks alone
set_option linter.unusedVariables false
set_option linter.unusedSimpArgs false

/-! ### petrinetlaw43_WorkflowAgrees: function 6 -/
mutual
def petrinetlaw43_WorkflowAgrees.j0 : Nat → Bool → ByteArray → List (S52) → List (S48) → Option (Bool)
 | 0, _, _, _, _ => none
 | k + 1, x35, x770000, x770001, x770002 => if x35 = true then (none) else ((workflow_Source.f k x770000 x770001 x770002).bind fun bt775 => ((workflow_Sink.f k x770000 x770001 x770002).bind fun bt777 => ((workflow_Is.f k x770000 x770001 x770002).bind fun t779 => (if t779 = true then (if bt775.2 = true then (if bt777.2 = true then (petrinetlaw43_WorkflowAgrees.j1 k bt775.1 bt775.2 bt777.1 bt777.2 (bt775.1 == bt777.1) x770000 x770001 x770002) else (none)) else (none)) else (petrinetlaw43_WorkflowAgrees.j1 k bt775.1 bt775.2 bt777.1 bt777.2 false x770000 x770001 x770002)))))
def petrinetlaw43_WorkflowAgrees.j1 : Nat → Int → Bool → Int → Bool → Bool → ByteArray → List (S52) → List (S48) → Option (Bool)
 | 0, _, _, _, _, _, _, _, _ => none
 | k + 1, x7, x8, x9, x10, x60, x770000, x770001, x770002 => if x60 = true then (none) else (petrinetlaw43_WorkflowAgrees.l0 k x7 x8 x9 x10 0 x770000 x770001 x770002)
def petrinetlaw43_WorkflowAgrees.l0 : Nat → Int → Bool → Int → Bool → Int → ByteArray → List (S52) → List (S48) → Option (Bool)
 | 0, _, _, _, _, _, _, _, _ => none
 | k + 1, x7, x8, x9, x10, x11, x770000, x770001, x770002 => if x11 < (x770001.length : Int) then (if x8 = true then ((net_Producers.f k x770000 x770001 x770002 x11).bind fun t780 => (if (((t780.length : Int) == 0) != (x11 == x7)) = true then (none) else (if x10 = true then ((net_Consumers.f k x770000 x770001 x770002 x11).bind fun t783 => (if (((t783.length : Int) == 0) != (x11 == x9)) = true then (none) else (petrinetlaw43_WorkflowAgrees.l0 k x7 x8 x9 x10 (wrap64 (x11 + 1)) x770000 x770001 x770002))) else (petrinetlaw43_WorkflowAgrees.l0 k x7 x8 x9 x10 (wrap64 (x11 + 1)) x770000 x770001 x770002)))) else (if x10 = true then ((net_Consumers.f k x770000 x770001 x770002 x11).bind fun t786 => (if (((t786.length : Int) == 0) != (x11 == x9)) = true then (none) else (petrinetlaw43_WorkflowAgrees.l0 k x7 x8 x9 x10 (wrap64 (x11 + 1)) x770000 x770001 x770002))) else (petrinetlaw43_WorkflowAgrees.l0 k x7 x8 x9 x10 (wrap64 (x11 + 1)) x770000 x770001 x770002))) else (some true)
end
def petrinetlaw43_WorkflowAgrees.f (k : Nat) (a0_0 : ByteArray) (l0_1 : List (S52)) (l0_2 : List (S48)) : Option (Bool) := (petrinetlaw43_lives.f k).bind fun t760 => (if t760 = true then ((r09_Small.f k a0_0 l0_1 l0_2).bind fun bt761 => (if bt761.2.2.2 = true then ((workflow_Problems.f k bt761.1 bt761.2.1 bt761.2.2.1).bind fun bt770 => ((workflow_Is.f k bt761.1 bt761.2.1 bt761.2.2.1).bind fun t774 => (if bt770.2 = 0 then (petrinetlaw43_WorkflowAgrees.j0 k (t774 != ((bt770.1.length : Int) == 0)) bt761.1 bt761.2.1 bt761.2.2.1) else (petrinetlaw43_WorkflowAgrees.j0 k (t774 != false) bt761.1 bt761.2.1 bt761.2.2.1)))) else (some true))) else (none))
theorem petrinetlaw43_WorkflowAgrees.mono_l : ∀ k, M4 petrinetlaw43_WorkflowAgrees.j0 k ∧ M8 petrinetlaw43_WorkflowAgrees.j1 k ∧ M8 petrinetlaw43_WorkflowAgrees.l0 k
 | 0 => ⟨fun _ _ _ _ r h => by simp [petrinetlaw43_WorkflowAgrees.j0] at h, fun _ _ _ _ _ _ _ _ r h => by simp [petrinetlaw43_WorkflowAgrees.j1] at h, fun _ _ _ _ _ _ _ _ r h => by simp [petrinetlaw43_WorkflowAgrees.l0] at h⟩
 | k + 1 => by
  obtain ⟨ih0, ih1, ih2⟩ := petrinetlaw43_WorkflowAgrees.mono_l k
  refine ⟨?_, ?_, ?_⟩ <;> dsimp only [M4, M8] <;> intros <;> (first | unfold petrinetlaw43_WorkflowAgrees.j0 | unfold petrinetlaw43_WorkflowAgrees.j1 | unfold petrinetlaw43_WorkflowAgrees.l0) <;> repeat' first | (with_reducible first | apply ih0 | apply ih1 | apply ih2 | apply net_Consumers.mono | apply net_Producers.mono | apply petrinetlaw43_lives.mono | apply r09_Small.mono | apply workflow_Is.mono | apply workflow_Problems.mono | apply workflow_Sink.mono | apply workflow_Source.mono | apply lr | apply ln | apply li | refine lb ?_ fun _ => ?_)
theorem petrinetlaw43_WorkflowAgrees.mono : ∀ a0 a1 a2 k, LeO (petrinetlaw43_WorkflowAgrees.f k a0 a1 a2) (petrinetlaw43_WorkflowAgrees.f (k + 1) a0 a1 a2) := by
 intro a0 a1 a2 k
 obtain ⟨ih0, ih1, ih2⟩ := petrinetlaw43_WorkflowAgrees.mono_l k
 unfold petrinetlaw43_WorkflowAgrees.f
 repeat' first | (with_reducible first | apply ih0 | apply ih1 | apply ih2 | apply net_Consumers.mono | apply net_Producers.mono | apply petrinetlaw43_lives.mono | apply r09_Small.mono | apply workflow_Is.mono | apply workflow_Problems.mono | apply workflow_Sink.mono | apply workflow_Source.mono | apply lr | apply ln | apply li | refine lb ?_ fun _ => ?_)
set_option maxHeartbeats 8000000 in
set_option maxRecDepth 100000 in
theorem petrinetlaw43_WorkflowAgrees.calls (k : Nat) (a0_0 : ByteArray) (A0_1 : Option Addr) (c0_1 : Nat) (l0_1 : List (S52)) (A0_2 : Option Addr) (c0_2 : Nat) (l0_2 : List (S48)) (r : Bool) (w : World) (hr0_1 : Kd.C k52 w A0_1 l0_1.length l0_1) (hc0_1 : l0_1.length ≤ c0_1) (hr0_2 : Kd.C k48 w A0_2 l0_2.length l0_2) (hc0_2 : l0_2.length ≤ c0_2) (h : petrinetlaw43_WorkflowAgrees.f k a0_0 l0_1 l0_2 = some r) :
  Calls Try.prog 6 #[.agg #[.string a0_0, .slice A0_1 l0_1.length c0_1, .slice A0_2 l0_2.length c0_2]] w fun e w' => e = .returned (.bool r) ∧ Below w.heap.size w w' := by
 have hu25 := Try.underlying25
 have HR0_1 := am hr0_1
 have HC0_1 := am hc0_1
 clear hr0_1 hc0_1
 have HR0_2 := am hr0_2
 have HC0_2 := am hc0_2
 clear hr0_2 hc0_2
 have HB := am (Below.refl w.heap.size w)
 have H : ((petrinetlaw43_lives.f k).bind fun t760 => (if t760 = true then ((r09_Small.f k a0_0 l0_1 l0_2).bind fun bt761 => (if bt761.2.2.2 = true then ((workflow_Problems.f k bt761.1 bt761.2.1 bt761.2.2.1).bind fun bt770 => ((workflow_Is.f k bt761.1 bt761.2.1 bt761.2.2.1).bind fun t774 => (if bt770.2 = 0 then (petrinetlaw43_WorkflowAgrees.j0 k (t774 != ((bt770.1.length : Int) == 0)) bt761.1 bt761.2.1 bt761.2.2.1) else (petrinetlaw43_WorkflowAgrees.j0 k (t774 != false) bt761.1 bt761.2.1 bt761.2.2.1)))) else (some true))) else (none))) = some r := h
 clear h
 replace H := bnd H
 obtain ⟨t760, A2, H⟩ := H
 (try dsimp only at H)
 by_cases c3 : t760 = true
 rotate_left
 ·replace c3 := Bool.eq_false_iff.mpr c3
  subst c3
  rw [if_neg Bool.false_ne_true] at H
  exact absurd H (by simp)
 subst c3
 rw [if_pos rfl] at H
 replace H := bnd H
 obtain ⟨⟨t761, t762, t765, t768⟩, A4, H⟩ := H
 (try dsimp only at H)
 by_cases c5 : t768 = true
 rotate_left
 ·replace c5 := Bool.eq_false_iff.mpr c5
  subst c5
  rw [if_neg Bool.false_ne_true] at H
  obtain rfl := Option.some.inj H
  go_enter Try.func6, Try.ntmps6
  go_wp2_with (first | ((with_reducible refine gate_dst (N := 1) rfl ?_); (try (refine gate_guard (by rfl) ?_; dsimp only)); refine box_ev (N := 1) (cs := #[.string a0_0, .slice A0_1 l0_1.length c0_1, .slice A0_2 l0_2.length c0_2]) (t := 25) ?_; intro gb759 hg w76 hbox hb; have BK759 := am hbox; have GW759 := gwl hg; have GE759 := GW759; replace HB := bsl hb; clear hb hbox hg) | ((with_reducible refine gate_callee (f := 11) rfl ?_); refine gC 12 Try.func11 _ (petrinetlaw43_lives.calls k  true _ A2.1) ?_; rintro e w77 ⟨rfl, hb⟩; refine ⟨_, rfl, ?_⟩; replace BK759 := bbh BK759 hb; replace HB := bst hb; (try clear hb); obtain ⟨z78_0, z78_1, z78_2, y78_0, y78_1, y78_2⟩ := cf3 BK759.1) | ((with_reducible refine gate_callee (f := 10) rfl ?_); refine gC 16 Try.func10 _ (r09_Small.calls k a0_0 (fun k_ => k_ < w.heap.size) _ _ l0_1 (fun k_ => k_ < w.heap.size) _ _ l0_2 t761 t762 t765 false _ (Kd.V_mk HC0_1.1 (Kd.F_below (Kd.C_F k52_heap HR0_1.1) pbg)) (Kd.V_mk HC0_2.1 (Kd.F_below (Kd.C_F k48_heap HR0_2.1) pbg)) A4.1) ?_; rintro e w79 ⟨v763, v766, rfl, ho0, ho1, hb⟩; refine ⟨_, rfl, ?_⟩; have HO764 := am (Kd.V_lower (Kd.V_mono (ok' := fun k_ => k_ ≠ gb759) ho0 (fun k_ hk_ => Or.elim hk_ (fun hs_ => Or.elim hs_ (fun hs_ => fun e_ => Nat.not_le.2 hs_ (by rw [e_]; exact GW759.1)) (fun hs_ => fun e_ => Nat.not_le.2 hs_ (by rw [e_]; exact GW759.1))) (fun hn_ => (Kd.freshB (g := gb759) (o := .cells #[.string a0_0, .slice A0_1 l0_1.length c0_1, .slice A0_2 l0_2.length c0_2] 25 (0, 0)) (by exact pbk BK759.1) k_ hn_)))) (below_size pbg)); have HO767 := am (Kd.V_lower (Kd.V_mono (ok' := fun k_ => k_ ≠ gb759) ho1 (fun k_ hk_ => Or.elim hk_ (fun hs_ => Or.elim hs_ (fun hs_ => fun e_ => Nat.not_le.2 hs_ (by rw [e_]; exact GW759.1)) (fun hs_ => fun e_ => Nat.not_le.2 hs_ (by rw [e_]; exact GW759.1))) (fun hn_ => (Kd.freshB (g := gb759) (o := .cells #[.string a0_0, .slice A0_1 l0_1.length c0_1, .slice A0_2 l0_2.length c0_2] 25 (0, 0)) (by exact pbk BK759.1) k_ hn_)))) (below_size pbg)); replace BK759 := bbh BK759 hb; replace HB := bst hb; (try clear hb); (try clear ho0); (try clear ho1)) | ((with_reducible refine gate_dst (N := 3) rfl ?_); (try (refine gate_guard (by rfl) ?_; dsimp only)); refine box_ev (N := 3) (cs := #[.string (⟨#[]⟩ : ByteArray), .slice none 0 0, .slice none 0 0]) (t := 25) ?_; intro gb769 hg w80 hbox hb; have BK769 := am hbox; have GW769 := gwb hg; have GE769 := GW769; have NB759_769 := nlt hg BK759; have NB769_759 := ngt hg BK759; replace HO764 := vbb HO764 hg hb; replace HO767 := vbb HO767 hg hb; replace BK759 := bbh BK759 hb; replace HB := bst hb; clear hb hbox hg; have hnb81 := NB769_759.1; have hnc81 := NB759_769.1; obtain ⟨z82_0, z82_1, z82_2, y82_0, y82_1, y82_2⟩ := cf3 BK769.1; obtain ⟨Ao83, co83, eo83⟩ := Kd.V_slice HO764.1; subst eo83; obtain ⟨Ao84, co84, eo84⟩ := Kd.V_slice HO767.1; subst eo84))
  go_ret
  exact ⟨per, pbg⟩
 subst c5
 rw [if_pos rfl] at H
 replace H := bnd H
 obtain ⟨⟨t770, t773⟩, A6, H⟩ := H
 (try dsimp only at H)
 have HC7 := am H
 clear H
 go_enter Try.func6, Try.ntmps6
 go_upto_region 7 with (first | ((with_reducible refine gate_dst (N := 1) rfl ?_); (try (refine gate_guard (by rfl) ?_; dsimp only)); refine box_ev (N := 1) (cs := #[.string a0_0, .slice A0_1 l0_1.length c0_1, .slice A0_2 l0_2.length c0_2]) (t := 25) ?_; intro gb759 hg w8 hbox hb; have BK759 := am hbox; have GW759 := gwl hg; have GE759 := GW759; replace HB := bsl hb; clear hb hbox hg) | ((with_reducible refine gate_callee (f := 11) rfl ?_); refine gC 12 Try.func11 _ (petrinetlaw43_lives.calls k  true _ A2.1) ?_; rintro e w9 ⟨rfl, hb⟩; refine ⟨_, rfl, ?_⟩; replace BK759 := bbh BK759 hb; replace HB := bst hb; (try clear hb); obtain ⟨z10_0, z10_1, z10_2, y10_0, y10_1, y10_2⟩ := cf3 BK759.1) | ((with_reducible refine gate_callee (f := 10) rfl ?_); refine gC 16 Try.func10 _ (r09_Small.calls k a0_0 (fun k_ => k_ < w.heap.size) _ _ l0_1 (fun k_ => k_ < w.heap.size) _ _ l0_2 t761 t762 t765 true _ (Kd.V_mk HC0_1.1 (Kd.F_below (Kd.C_F k52_heap HR0_1.1) pbg)) (Kd.V_mk HC0_2.1 (Kd.F_below (Kd.C_F k48_heap HR0_2.1) pbg)) A4.1) ?_; rintro e w11 ⟨v763, v766, rfl, ho0, ho1, hb⟩; refine ⟨_, rfl, ?_⟩; have HO764 := am (Kd.V_lower (Kd.V_mono (ok' := fun k_ => k_ ≠ gb759) ho0 (fun k_ hk_ => Or.elim hk_ (fun hs_ => Or.elim hs_ (fun hs_ => fun e_ => Nat.not_le.2 hs_ (by rw [e_]; exact GW759.1)) (fun hs_ => fun e_ => Nat.not_le.2 hs_ (by rw [e_]; exact GW759.1))) (fun hn_ => (Kd.freshB (g := gb759) (o := .cells #[.string a0_0, .slice A0_1 l0_1.length c0_1, .slice A0_2 l0_2.length c0_2] 25 (0, 0)) (by exact pbk BK759.1) k_ hn_)))) (below_size pbg)); have HO767 := am (Kd.V_lower (Kd.V_mono (ok' := fun k_ => k_ ≠ gb759) ho1 (fun k_ hk_ => Or.elim hk_ (fun hs_ => Or.elim hs_ (fun hs_ => fun e_ => Nat.not_le.2 hs_ (by rw [e_]; exact GW759.1)) (fun hs_ => fun e_ => Nat.not_le.2 hs_ (by rw [e_]; exact GW759.1))) (fun hn_ => (Kd.freshB (g := gb759) (o := .cells #[.string a0_0, .slice A0_1 l0_1.length c0_1, .slice A0_2 l0_2.length c0_2] 25 (0, 0)) (by exact pbk BK759.1) k_ hn_)))) (below_size pbg)); replace BK759 := bbh BK759 hb; replace HB := bst hb; (try clear hb); (try clear ho0); (try clear ho1)) | ((with_reducible refine gate_dst (N := 3) rfl ?_); (try (refine gate_guard (by rfl) ?_; dsimp only)); refine box_ev (N := 3) (cs := #[.string (⟨#[]⟩ : ByteArray), .slice none 0 0, .slice none 0 0]) (t := 25) ?_; intro gb769 hg w12 hbox hb; have BK769 := am hbox; have GW769 := gwb hg; have GE769 := GW769; have NB759_769 := nlt hg BK759; have NB769_759 := ngt hg BK759; replace HO764 := vbb HO764 hg hb; replace HO767 := vbb HO767 hg hb; replace BK759 := bbh BK759 hb; replace HB := bst hb; clear hb hbox hg; have hnb13 := NB769_759.1; have hnc13 := NB759_769.1; obtain ⟨z14_0, z14_1, z14_2, y14_0, y14_1, y14_2⟩ := cf3 BK769.1; obtain ⟨Ao15, co15, eo15⟩ := Kd.V_slice HO764.1; subst eo15; obtain ⟨Ao16, co16, eo16⟩ := Kd.V_slice HO767.1; subst eo16) | ((with_reducible refine gate_callee (f := 18) rfl ?_); refine gC 23 Try.func18 _ (workflow_Problems.calls k t761 _ _ t762 _ _ t765 t770 t773 _ ?side1 ?side2 ?side3 ?side4 A6.1) ?_; (case side1 => refine (Kd.V_reads' (e := 52) (base := w.heap.size) (ok := fun k_ => (k_ ≠ gb759 ∧ k_ ≠ gb769)) (n := t762.length) (c := co15) ?_).2.2; exact (by (with_reducible repeat (first | apply Kd.V_alloc | apply Kd.V_drewN | apply Kd.V_drew)); exact (Kd.V_mono (Kd.V_far (p := ⟨gb769, 2, none⟩) (Kd.V_far (p := ⟨gb769, 1, none⟩) (Kd.V_far (p := ⟨gb769, 0, none⟩) (Kd.V_mono HO764.1 (fun k_ hk => (⟨hk, hk.2⟩ : _ ∧ k_ ≠ gb769))) (fun _ hk => hk.2) (.string t761)) (fun _ hk => hk.2) (.slice Ao15 t762.length co15)) (fun _ hk => hk.2) (.slice Ao16 t765.length co16)) (fun _ h_ => h_.1)))); (case side2 => exact (Kd.V_reads' HO764.1).2.1); (case side3 => refine (Kd.V_reads' (e := 48) (base := w.heap.size) (ok := fun k_ => (k_ ≠ gb759 ∧ k_ ≠ gb769)) (n := t765.length) (c := co16) ?_).2.2; exact (by (with_reducible repeat (first | apply Kd.V_alloc | apply Kd.V_drewN | apply Kd.V_drew)); exact (Kd.V_mono (Kd.V_far (p := ⟨gb769, 2, none⟩) (Kd.V_far (p := ⟨gb769, 1, none⟩) (Kd.V_far (p := ⟨gb769, 0, none⟩) (Kd.V_mono HO767.1 (fun k_ hk => (⟨hk, hk.2⟩ : _ ∧ k_ ≠ gb769))) (fun _ hk => hk.2) (.string t761)) (fun _ hk => hk.2) (.slice Ao15 t762.length co15)) (fun _ hk => hk.2) (.slice Ao16 t765.length co16)) (fun _ h_ => h_.1)))); (case side4 => exact (Kd.V_reads' HO767.1).2.1); rintro e w17 ⟨v771, rfl, ho0, hb⟩; refine ⟨_, rfl, ?_⟩; have HO772 := am (Kd.R_lower ho0 (below_size pbg)); replace HO764 := am (Kd.V_elder' (by (with_reducible repeat (first | apply Kd.V_alloc | apply Kd.V_drewN | apply Kd.V_drew)); exact (Kd.V_mono (Kd.V_far (p := ⟨gb769, 2, none⟩) (Kd.V_far (p := ⟨gb769, 1, none⟩) (Kd.V_far (p := ⟨gb769, 0, none⟩) (Kd.V_mono HO764.1 (fun k_ hk => (⟨hk, hk.2⟩ : _ ∧ k_ ≠ gb769))) (fun _ hk => hk.2) (.string t761)) (fun _ hk => hk.2) (.slice Ao15 t762.length co15)) (fun _ hk => hk.2) (.slice Ao16 t765.length co16)) (fun _ h_ => h_.1))) (Kd.R_base ho0) hb); replace HO767 := am (Kd.V_elder' (by (with_reducible repeat (first | apply Kd.V_alloc | apply Kd.V_drewN | apply Kd.V_drew)); exact (Kd.V_mono (Kd.V_far (p := ⟨gb769, 2, none⟩) (Kd.V_far (p := ⟨gb769, 1, none⟩) (Kd.V_far (p := ⟨gb769, 0, none⟩) (Kd.V_mono HO767.1 (fun k_ hk => (⟨hk, hk.2⟩ : _ ∧ k_ ≠ gb769))) (fun _ hk => hk.2) (.string t761)) (fun _ hk => hk.2) (.slice Ao15 t762.length co15)) (fun _ hk => hk.2) (.slice Ao16 t765.length co16)) (fun _ h_ => h_.1))) (Kd.R_base ho0) hb); replace BK759 := am (blk_below (g := gb759) (o := .cells #[.string a0_0, .slice A0_1 l0_1.length c0_1, .slice A0_2 l0_2.length c0_2] 25 (0, 0)) (by (with_reducible repeat (first | refine blk_drewN ?_ _ | refine blk_drew ?_ | refine blk_alloc ?_ _)); refine bf3 ?_ NB759_769.1; exact pbk BK759.1) hb); replace BK769 := am (blk_below (g := gb769) (o := .cells #[.string t761, .slice Ao15 t762.length co15, .slice Ao16 t765.length co16] 25 (0, 0)) (by (with_reducible repeat (first | refine blk_drewN ?_ _ | refine blk_drew ?_ | refine blk_alloc ?_ _)); exact bp3 (pbk BK769.1)) hb); replace HB := bst hb; (try clear hb); (try clear hk); (try clear ho0)))
 (try simp only [Act.put, List.setIfInBounds_toArray, List.set_cons_zero, List.set_cons_succ])
 go_cut [35] (fun v35 wc => ∃ (kq : Nat) (x35_6 : Bool), v35 = .bool x35_6 ∧ Aside0 (petrinetlaw43_WorkflowAgrees.j0 kq x35_6 t761 t762 t765 = some r) ∧ Aside0 (kq ≤ k) ∧ Aside0 (Kd.V k52 52 wc w.heap.size (fun k_ => k_ ≠ gb759 ∧ k_ ≠ gb769) (.slice Ao15 t762.length co15) t762) ∧ Aside0 (Kd.V k48 48 wc w.heap.size (fun k_ => k_ ≠ gb759 ∧ k_ ≠ gb769) (.slice Ao16 t765.length co16) t765) ∧ Aside0 (wc.heap[gb759]? = some (.cells #[.string a0_0, (.slice A0_1 l0_1.length c0_1), (.slice A0_2 l0_2.length c0_2)] 25 (0, 0))) ∧ Aside0 (wc.heap[gb769]? = some (.cells #[.string t761, (.slice Ao15 t762.length co15), (.slice Ao16 t765.length co16)] 25 (0, 0))) ∧ Aside0 (Below w.heap.size w wc))
 case first =>
  have H := HC7.1
  clear HC7
  replace H := bnd H
  obtain ⟨t774, A18, H⟩ := H
  (try dsimp only at H)
  by_cases c19 : t773 = 0
  rotate_left
  ·rw [if_neg c19] at H
   have c19b0 : (t773 == 0) = false := beq_eq_false_iff_ne.mpr c19
   have c19b1 : (t773 != 0) = true := bne_iff_ne.mpr c19
   (first | rw [c19b0] | (simp only [i64_w, i32_w]; rw [c19b0]) | skip)
   have H' := am H
   clear H
   have hnb24 := NB769_759.1
   have hnc24 := NB759_769.1
   obtain ⟨z25_0, z25_1, z25_2, y25_0, y25_1, y25_2⟩ := cf3 BK769.1
   go_wp2_with (first | ((with_reducible refine gate_callee (f := 16) rfl ?_); refine gC 27 Try.func16 _ (workflow_Is.calls k t761 _ _ t762 _ _ t765 t774 _ (csd ((Kd.V_reads' HO764.1).2.2)) ((Kd.V_reads' HO764.1).2.1) (csd ((Kd.V_reads' HO767.1).2.2)) ((Kd.V_reads' HO767.1).2.1) A18.1) ?_; rintro e w26 ⟨rfl, hb⟩; refine ⟨_, rfl, ?_⟩; replace HO764 := vbw HO764 hb; replace HO767 := vbw HO767 hb; replace HO772 := rbw HO772 hb; replace BK759 := bbh BK759 hb; replace BK769 := bbh BK769 hb; replace HB := bst hb; (try clear hb)))
   go_meet
   case rel => exact ⟨_, ((t774 != false)), prs, H', ⟨by first | omega | exact Nat.le_refl _⟩, ⟨by (with_reducible repeat (first | apply Kd.V_alloc | apply Kd.V_drewN | apply Kd.V_drew)); exact Kd.V_mono HO764.1 (fun _ hk => ⟨hk.1.1, hk.1.2⟩)⟩, ⟨by (with_reducible repeat (first | apply Kd.V_alloc | apply Kd.V_drewN | apply Kd.V_drew)); exact Kd.V_mono HO767.1 (fun _ hk => ⟨hk.1.1, hk.1.2⟩)⟩, ⟨pbk BK759.1⟩, ⟨pbk BK769.1⟩, ⟨pbg⟩⟩
  rw [if_pos c19] at H
  have c19b0 : (t773 == 0) = true := beq_iff_eq.mpr c19
  have c19b1 : (t773 != 0) = false := bne_eq_false_iff_eq.mpr c19
  clear c19
  (first | rw [c19b0] | (simp only [i64_w, i32_w]; rw [c19b0]) | skip)
  have H' := am H
  clear H
  have hnb20 := NB769_759.1
  have hnc20 := NB759_769.1
  obtain ⟨z21_0, z21_1, z21_2, y21_0, y21_1, y21_2⟩ := cf3 BK769.1
  go_wp2_with (first | ((with_reducible refine gate_callee (f := 16) rfl ?_); refine gC 27 Try.func16 _ (workflow_Is.calls k t761 _ _ t762 _ _ t765 t774 _ (csd ((Kd.V_reads' HO764.1).2.2)) ((Kd.V_reads' HO764.1).2.1) (csd ((Kd.V_reads' HO767.1).2.2)) ((Kd.V_reads' HO767.1).2.1) A18.1) ?_; rintro e w22 ⟨rfl, hb⟩; refine ⟨_, rfl, ?_⟩; replace HO764 := vbw HO764 hb; replace HO767 := vbw HO767 hb; replace HO772 := rbw HO772 hb; replace BK759 := bbh BK759 hb; replace BK769 := bbh BK769 hb; replace HB := bst hb; (try clear hb); obtain ⟨Ao23, co23, eo23⟩ := Kd.R_slice HO772.1; subst eo23))
  go_meet
  case rel => exact ⟨_, ((t774 != ((t770.length : Int) == 0))), prs, H', ⟨by first | omega | exact Nat.le_refl _⟩, ⟨by (with_reducible repeat (first | apply Kd.V_alloc | apply Kd.V_drewN | apply Kd.V_drew)); exact Kd.V_mono HO764.1 (fun _ hk => ⟨hk.1.1, hk.1.2⟩)⟩, ⟨by (with_reducible repeat (first | apply Kd.V_alloc | apply Kd.V_drewN | apply Kd.V_drew)); exact Kd.V_mono HO767.1 (fun _ hk => ⟨hk.1.1, hk.1.2⟩)⟩, ⟨pbk BK759.1⟩, ⟨pbk BK769.1⟩, ⟨pbg⟩⟩
 clear HC7
 try clear c3 c5 c19 c19b0 c19b1 z10_0 z10_1 z10_2 z14_0 z14_1 z14_2 z21_0 z21_1 z21_2 z25_0 z25_1 z25_2 y10_0 y10_1 y10_2 y14_0 y14_1 y14_2 y21_0 y21_1 y21_2 y25_0 y25_1 y25_2
 obtain ⟨kq, x35_6, rfl, HA, HJ6, HO_770001, HO_770002, BK759, BK769, HB⟩ := hcut
 obtain _ | kj6 := kq
 ·exact absurd HA.1 (by simp [petrinetlaw43_WorkflowAgrees.j0])
 have H := HA.1
 clear HA
 simp only [petrinetlaw43_WorkflowAgrees.j0] at H
 by_cases c27 : x35_6 = true
 ·subst c27
  rw [if_pos rfl] at H
  exact absurd H (by simp)
 replace c27 := Bool.eq_false_iff.mpr c27
 subst c27
 rw [if_neg Bool.false_ne_true] at H
 replace H := bnd H
 obtain ⟨⟨t775, t776⟩, A28, H⟩ := H
 (try dsimp only at H)
 replace H := bnd H
 obtain ⟨⟨t777, t778⟩, A29, H⟩ := H
 (try dsimp only at H)
 have HC30 := am H
 clear H
 have hnb31 := NB769_759.1
 have hnc31 := NB759_769.1
 obtain ⟨z32_0, z32_1, z32_2, y32_0, y32_1, y32_2⟩ := cf3 BK769.1
 go_upto_region 11 with (first | ((with_reducible refine gate_callee (f := 12) rfl ?_); refine gC 38 Try.func12 _ (workflow_Source.calls kj6 t761 _ _ t762 _ _ t765 t775 t776 _ (csd ((Kd.V_reads' HO_770001.1).2.2)) ((Kd.V_reads' HO_770001.1).2.1) (csd ((Kd.V_reads' HO_770002.1).2.2)) ((Kd.V_reads' HO_770002.1).2.1) A28.1) ?_; rintro e w33 ⟨rfl, hb⟩; refine ⟨_, rfl, ?_⟩; replace HO_770001 := vbw HO_770001 hb; replace HO_770002 := vbw HO_770002 hb; replace BK759 := bbh BK759 hb; replace BK769 := bbh BK769 hb; replace HB := bst hb; (try clear hb); obtain ⟨z34_0, z34_1, z34_2, y34_0, y34_1, y34_2⟩ := cf3 BK769.1) | ((with_reducible refine gate_callee (f := 14) rfl ?_); refine gC 43 Try.func14 _ (workflow_Sink.calls kj6 t761 _ _ t762 _ _ t765 t777 t778 _ (csd ((Kd.V_reads' HO_770001.1).2.2)) ((Kd.V_reads' HO_770001.1).2.1) (csd ((Kd.V_reads' HO_770002.1).2.2)) ((Kd.V_reads' HO_770002.1).2.1) A29.1) ?_; rintro e w35 ⟨rfl, hb⟩; refine ⟨_, rfl, ?_⟩; replace HO_770001 := vbw HO_770001 hb; replace HO_770002 := vbw HO_770002 hb; replace BK759 := bbh BK759 hb; replace BK769 := bbh BK769 hb; replace HB := bst hb; (try clear hb)))
 (try simp only [Act.put, List.setIfInBounds_toArray, List.set_cons_zero, List.set_cons_succ])
 go_cut [60] (fun v60 wc => ∃ (kq : Nat) (x60_29 : Bool), v60 = .bool x60_29 ∧ Aside0 (petrinetlaw43_WorkflowAgrees.j1 kq t775 t776 t777 t778 x60_29 t761 t762 t765 = some r) ∧ Aside0 (kq ≤ kj6) ∧ Aside0 (Kd.V k52 52 wc w.heap.size (fun k_ => k_ ≠ gb759 ∧ k_ ≠ gb769) (.slice Ao15 t762.length co15) t762) ∧ Aside0 (Kd.V k48 48 wc w.heap.size (fun k_ => k_ ≠ gb759 ∧ k_ ≠ gb769) (.slice Ao16 t765.length co16) t765) ∧ Aside0 (wc.heap[gb759]? = some (.cells #[.string a0_0, (.slice A0_1 l0_1.length c0_1), (.slice A0_2 l0_2.length c0_2)] 25 (0, 0))) ∧ Aside0 (wc.heap[gb769]? = some (.cells #[.string t761, (.slice Ao15 t762.length co15), (.slice Ao16 t765.length co16)] 25 (0, 0))) ∧ Aside0 (Below w.heap.size w wc))
 case first =>
  have H := HC30.1
  clear HC30
  replace H := bnd H
  obtain ⟨t779, A36, H⟩ := H
  (try dsimp only at H)
  by_cases c37 : t779 = true
  rotate_left
  ·replace c37 := Bool.eq_false_iff.mpr c37
   subst c37
   rw [if_neg Bool.false_ne_true] at H
   have H' := am H
   clear H
   have hnb43 := NB769_759.1
   have hnc43 := NB759_769.1
   obtain ⟨z44_0, z44_1, z44_2, y44_0, y44_1, y44_2⟩ := cf3 BK769.1
   go_wp2_with (first | ((with_reducible refine gate_callee (f := 16) rfl ?_); refine gC 47 Try.func16 _ (workflow_Is.calls kj6 t761 _ _ t762 _ _ t765 false _ (csd ((Kd.V_reads' HO_770001.1).2.2)) ((Kd.V_reads' HO_770001.1).2.1) (csd ((Kd.V_reads' HO_770002.1).2.2)) ((Kd.V_reads' HO_770002.1).2.1) A36.1) ?_; rintro e w45 ⟨rfl, hb⟩; refine ⟨_, rfl, ?_⟩; replace HO_770001 := vbw HO_770001 hb; replace HO_770002 := vbw HO_770002 hb; replace BK759 := bbh BK759 hb; replace BK769 := bbh BK769 hb; replace HB := bst hb; (try clear hb)))
   go_meet
   case rel => exact ⟨_, (false), prs, H', ⟨by have := HJ6.1; first | omega | exact Nat.le_refl _⟩, ⟨pkv HO_770001.1⟩, ⟨pkv HO_770002.1⟩, ⟨pbk BK759.1⟩, ⟨pbk BK769.1⟩, ⟨pbg⟩⟩
  subst c37
  rw [if_pos rfl] at H
  by_cases c38 : t776 = true
  rotate_left
  ·replace c38 := Bool.eq_false_iff.mpr c38
   subst c38
   rw [if_neg Bool.false_ne_true] at H
   exact absurd H (by simp)
  subst c38
  rw [if_pos rfl] at H
  by_cases c39 : t778 = true
  rotate_left
  ·replace c39 := Bool.eq_false_iff.mpr c39
   subst c39
   rw [if_neg Bool.false_ne_true] at H
   exact absurd H (by simp)
  subst c39
  rw [if_pos rfl] at H
  have H' := am H
  clear H
  have hnb40 := NB769_759.1
  have hnc40 := NB759_769.1
  obtain ⟨z41_0, z41_1, z41_2, y41_0, y41_1, y41_2⟩ := cf3 BK769.1
  go_wp2_with (first | ((with_reducible refine gate_callee (f := 16) rfl ?_); refine gC 47 Try.func16 _ (workflow_Is.calls kj6 t761 _ _ t762 _ _ t765 true _ (csd ((Kd.V_reads' HO_770001.1).2.2)) ((Kd.V_reads' HO_770001.1).2.1) (csd ((Kd.V_reads' HO_770002.1).2.2)) ((Kd.V_reads' HO_770002.1).2.1) A36.1) ?_; rintro e w42 ⟨rfl, hb⟩; refine ⟨_, rfl, ?_⟩; replace HO_770001 := vbw HO_770001 hb; replace HO_770002 := vbw HO_770002 hb; replace BK759 := bbh BK759 hb; replace BK769 := bbh BK769 hb; replace HB := bst hb; (try clear hb)))
  go_meet
  case rel => exact ⟨_, ((t775 == t777)), prs, H', ⟨by have := HJ6.1; first | omega | exact Nat.le_refl _⟩, ⟨pkv HO_770001.1⟩, ⟨pkv HO_770002.1⟩, ⟨pbk BK759.1⟩, ⟨pbk BK769.1⟩, ⟨pbg⟩⟩
 clear HC30
 try clear c3 c5 c19 c19b0 c19b1 c27 c37 c38 c39 z10_0 z10_1 z10_2 z14_0 z14_1 z14_2 z21_0 z21_1 z21_2 z25_0 z25_1 z25_2 z32_0 z32_1 z32_2 z34_0 z34_1 z34_2 z41_0 z41_1 z41_2 z44_0 z44_1 z44_2 y10_0 y10_1 y10_2 y14_0 y14_1 y14_2 y21_0 y21_1 y21_2 y25_0 y25_1 y25_2 y32_0 y32_1 y32_2 y34_0 y34_1 y34_2 y41_0 y41_1 y41_2 y44_0 y44_1 y44_2
 obtain ⟨kq, x60_29, rfl, HA, HJ29, HO_770001, HO_770002, BK759, BK769, HB⟩ := hcut
 obtain _ | kj29 := kq
 ·exact absurd HA.1 (by simp [petrinetlaw43_WorkflowAgrees.j1])
 have H := HA.1
 clear HA
 simp only [petrinetlaw43_WorkflowAgrees.j1] at H
 by_cases c46 : x60_29 = true
 ·subst c46
  rw [if_pos rfl] at H
  exact absurd H (by simp)
 replace c46 := Bool.eq_false_iff.mpr c46
 subst c46
 rw [if_neg Bool.false_ne_true] at H
 have H' := am H
 clear H
 go_wp2
 go_loopg [11] kj29 (fun kq v11 w' => ∃ (x11_3 : Int), v11 = .int .i64 x11_3 ∧ Aside0 (petrinetlaw43_WorkflowAgrees.l0 kq t775 t776 t777 t778 x11_3 t761 t762 t765 = some r) ∧ Aside0 (kq ≤ kj29) ∧ Aside0 (Kd.V k52 52 w' w.heap.size (fun k_ => k_ ≠ gb759 ∧ k_ ≠ gb769) (.slice Ao15 t762.length co15) t762) ∧ Aside0 (Kd.V k48 48 w' w.heap.size (fun k_ => k_ ≠ gb759 ∧ k_ ≠ gb769) (.slice Ao16 t765.length co16) t765) ∧ Aside0 (w'.heap[gb759]? = some (.cells #[.string a0_0, (.slice A0_1 l0_1.length c0_1), (.slice A0_2 l0_2.length c0_2)] 25 (0, 0))) ∧ Aside0 (w'.heap[gb769]? = some (.cells #[.string t761, (.slice Ao15 t762.length co15), (.slice Ao16 t765.length co16)] 25 (0, 0))) ∧ Aside0 (Below w.heap.size w w'))
 case atStart => exact ⟨(0), prs, H', ⟨Nat.le_refl _⟩, ⟨pkv HO_770001.1⟩, ⟨pkv HO_770002.1⟩, ⟨pbk BK759.1⟩, ⟨pbk BK769.1⟩, ⟨pbg⟩⟩
 clear H'
 try clear c3 c5 c19 c19b0 c19b1 c27 c37 c38 c39 c46 z10_0 z10_1 z10_2 z14_0 z14_1 z14_2 z21_0 z21_1 z21_2 z25_0 z25_1 z25_2 z32_0 z32_1 z32_2 z34_0 z34_1 z34_2 z41_0 z41_1 z41_2 z44_0 z44_1 z44_2 y10_0 y10_1 y10_2 y14_0 y14_1 y14_2 y21_0 y21_1 y21_2 y25_0 y25_1 y25_2 y32_0 y32_1 y32_2 y34_0 y34_1 y34_2 y41_0 y41_1 y41_2 y44_0 y44_1 y44_2
 obtain ⟨x11_3, rfl, HA, HK3, HO_770001, HO_770002, BK759, BK769, HB⟩ := hrel
 obtain _ | k3 := gk
 ·exact absurd HA.1 (by simp [petrinetlaw43_WorkflowAgrees.l0])
 have H := HA.1
 clear HA
 simp only [petrinetlaw43_WorkflowAgrees.l0] at H
 by_cases c47 : x11_3 < (t762.length : Int)
 rotate_left
 ·rw [if_neg c47] at H
  have c47b0 : decide (x11_3 < (t762.length : Int)) = false := decide_eq_false c47
  clear c47
  obtain rfl := Option.some.inj H
  have hnb74 := NB769_759.1
  have hnc74 := NB759_769.1
  obtain ⟨z75_0, z75_1, z75_2, y75_0, y75_1, y75_2⟩ := cf3 BK769.1
  go_wp2
  go_ret
  exact ⟨per, pbg⟩
 rw [if_pos c47] at H
 have c47b0 : decide (x11_3 < (t762.length : Int)) = true := decide_eq_true c47
 clear c47
 by_cases c48 : t776 = true
 rotate_left
 ·replace c48 := Bool.eq_false_iff.mpr c48
  subst c48
  rw [if_neg Bool.false_ne_true] at H
  by_cases c65 : t778 = true
  rotate_left
  ·replace c65 := Bool.eq_false_iff.mpr c65
   subst c65
   rw [if_neg Bool.false_ne_true] at H
   have H' := am H
   clear H
   have hnb72 := NB769_759.1
   have hnc72 := NB759_769.1
   obtain ⟨z73_0, z73_1, z73_2, y73_0, y73_1, y73_2⟩ := cf3 BK769.1
   go_wp2
   go_roundg k3
   case measure => have := HJ6.1; have := HJ29.1; have := HK3.1; omega
   case rel => exact ⟨(wrap64 (x11_3 + 1)), prs, H', ⟨by have := HJ6.1; have := HJ29.1; have := HK3.1; omega⟩, ⟨pkv HO_770001.1⟩, ⟨pkv HO_770002.1⟩, ⟨pbk BK759.1⟩, ⟨pbk BK769.1⟩, ⟨pbg⟩⟩
  subst c65
  rw [if_pos rfl] at H
  replace H := bnd H
  obtain ⟨t786, A66, H⟩ := H
  (try dsimp only at H)
  by_cases c67 : (((t786.length : Int) == 0) != (x11_3 == t777)) = true
  ·rw [if_pos c67] at H
   exact absurd H (by simp)
  rw [if_neg c67] at H
  have c67b0 : (((t786.length : Int) == 0) != (x11_3 == t777)) = false := by simpa using c67
  (try (have c67b1 : decide (((t786.length : Int) == 0) = (x11_3 == t777)) = true := by simpa using c67))
  (try (have c67b2 : (((t786.length : Int) == 0) == (x11_3 == t777)) = true := by simpa using c67))
  clear c67
  have H' := am H
  clear H
  have hnb68 := NB769_759.1
  have hnc68 := NB759_769.1
  obtain ⟨z69_0, z69_1, z69_2, y69_0, y69_1, y69_2⟩ := cf3 BK769.1
  go_wp2_with (first | (go_at_call 30; (with_reducible refine (net_Consumers.calls k3 t761 _ _ t762 _ _ t765 x11_3 t786 _ ?side1 ?side2 ?side3 ?side4 A66.1).mono ?_); (case side1 => exact csd ((Kd.V_reads' HO_770001.1).2.2)); (case side2 => exact (Kd.V_reads' HO_770001.1).2.1); (case side3 => exact csd ((Kd.V_reads' HO_770002.1).2.2)); (case side4 => exact (Kd.V_reads' HO_770002.1).2.1); rintro e w70 ⟨v787, rfl, ho0, hb⟩; have HO788 := am (Kd.R_lower ho0 (below_size pbg)); replace HO_770001 := am (Kd.V_elder' (pkv HO_770001.1) (Kd.R_base ho0) hb); replace HO_770002 := am (Kd.V_elder' (pkv HO_770002.1) (Kd.R_base ho0) hb); replace BK759 := bbh BK759 hb; replace BK769 := bbh BK769 hb; replace HB := bst hb; (try clear hb); (try clear ho0); obtain ⟨Ao71, co71, eo71⟩ := Kd.R_slice HO788.1; subst eo71))
  go_roundg k3
  case measure => have := HJ6.1; have := HJ29.1; have := HK3.1; omega
  case rel => exact ⟨(wrap64 (x11_3 + 1)), prs, H', ⟨by have := HJ6.1; have := HJ29.1; have := HK3.1; omega⟩, ⟨by (with_reducible repeat (first | apply Kd.V_alloc | apply Kd.V_drewN | apply Kd.V_drew)); exact Kd.V_mono HO_770001.1 (fun _ hk => ⟨hk.1.1, hk.1.2⟩)⟩, ⟨by (with_reducible repeat (first | apply Kd.V_alloc | apply Kd.V_drewN | apply Kd.V_drew)); exact Kd.V_mono HO_770002.1 (fun _ hk => ⟨hk.1.1, hk.1.2⟩)⟩, ⟨pbk BK759.1⟩, ⟨pbk BK769.1⟩, ⟨pbg⟩⟩
 subst c48
 rw [if_pos rfl] at H
 replace H := bnd H
 obtain ⟨t780, A49, H⟩ := H
 (try dsimp only at H)
 by_cases c50 : (((t780.length : Int) == 0) != (x11_3 == t775)) = true
 ·rw [if_pos c50] at H
  exact absurd H (by simp)
 rw [if_neg c50] at H
 have c50b0 : (((t780.length : Int) == 0) != (x11_3 == t775)) = false := by simpa using c50
 (try (have c50b1 : decide (((t780.length : Int) == 0) = (x11_3 == t775)) = true := by simpa using c50))
 (try (have c50b2 : (((t780.length : Int) == 0) == (x11_3 == t775)) = true := by simpa using c50))
 clear c50
 by_cases c51 : t778 = true
 rotate_left
 ·replace c51 := Bool.eq_false_iff.mpr c51
  subst c51
  rw [if_neg Bool.false_ne_true] at H
  have H' := am H
  clear H
  have hnb61 := NB769_759.1
  have hnc61 := NB759_769.1
  obtain ⟨z62_0, z62_1, z62_2, y62_0, y62_1, y62_2⟩ := cf3 BK769.1
  go_wp2_with (first | (go_at_call 29; (with_reducible refine (net_Producers.calls k3 t761 _ _ t762 _ _ t765 x11_3 t780 _ ?side1 ?side2 ?side3 ?side4 A49.1).mono ?_); (case side1 => exact csd ((Kd.V_reads' HO_770001.1).2.2)); (case side2 => exact (Kd.V_reads' HO_770001.1).2.1); (case side3 => exact csd ((Kd.V_reads' HO_770002.1).2.2)); (case side4 => exact (Kd.V_reads' HO_770002.1).2.1); rintro e w63 ⟨v781, rfl, ho0, hb⟩; have HO782 := am (Kd.R_lower ho0 (below_size pbg)); replace HO_770001 := am (Kd.V_elder' (pkv HO_770001.1) (Kd.R_base ho0) hb); replace HO_770002 := am (Kd.V_elder' (pkv HO_770002.1) (Kd.R_base ho0) hb); replace BK759 := bbh BK759 hb; replace BK769 := bbh BK769 hb; replace HB := bst hb; (try clear hb); (try clear ho0); obtain ⟨Ao64, co64, eo64⟩ := Kd.R_slice HO782.1; subst eo64))
  go_roundg k3
  case measure => have := HJ6.1; have := HJ29.1; have := HK3.1; omega
  case rel => exact ⟨(wrap64 (x11_3 + 1)), prs, H', ⟨by have := HJ6.1; have := HJ29.1; have := HK3.1; omega⟩, ⟨by (with_reducible repeat (first | apply Kd.V_alloc | apply Kd.V_drewN | apply Kd.V_drew)); exact Kd.V_mono HO_770001.1 (fun _ hk => ⟨hk.1.1, hk.1.2⟩)⟩, ⟨by (with_reducible repeat (first | apply Kd.V_alloc | apply Kd.V_drewN | apply Kd.V_drew)); exact Kd.V_mono HO_770002.1 (fun _ hk => ⟨hk.1.1, hk.1.2⟩)⟩, ⟨pbk BK759.1⟩, ⟨pbk BK769.1⟩, ⟨pbg⟩⟩
 subst c51
 rw [if_pos rfl] at H
 replace H := bnd H
 obtain ⟨t783, A52, H⟩ := H
 (try dsimp only at H)
 by_cases c53 : (((t783.length : Int) == 0) != (x11_3 == t777)) = true
 ·rw [if_pos c53] at H
  exact absurd H (by simp)
 rw [if_neg c53] at H
 have c53b0 : (((t783.length : Int) == 0) != (x11_3 == t777)) = false := by simpa using c53
 (try (have c53b1 : decide (((t783.length : Int) == 0) = (x11_3 == t777)) = true := by simpa using c53))
 (try (have c53b2 : (((t783.length : Int) == 0) == (x11_3 == t777)) = true := by simpa using c53))
 clear c53
 have H' := am H
 clear H
 have hnb54 := NB769_759.1
 have hnc54 := NB759_769.1
 obtain ⟨z55_0, z55_1, z55_2, y55_0, y55_1, y55_2⟩ := cf3 BK769.1
 go_wp2_with (first | (go_at_call 29; (with_reducible refine (net_Producers.calls k3 t761 _ _ t762 _ _ t765 x11_3 t780 _ ?side1 ?side2 ?side3 ?side4 A49.1).mono ?_); (case side1 => exact csd ((Kd.V_reads' HO_770001.1).2.2)); (case side2 => exact (Kd.V_reads' HO_770001.1).2.1); (case side3 => exact csd ((Kd.V_reads' HO_770002.1).2.2)); (case side4 => exact (Kd.V_reads' HO_770002.1).2.1); rintro e w56 ⟨v781, rfl, ho0, hb⟩; have HO782 := am (Kd.R_lower ho0 (below_size pbg)); replace HO_770001 := am (Kd.V_elder' (pkv HO_770001.1) (Kd.R_base ho0) hb); replace HO_770002 := am (Kd.V_elder' (pkv HO_770002.1) (Kd.R_base ho0) hb); replace BK759 := bbh BK759 hb; replace BK769 := bbh BK769 hb; replace HB := bst hb; (try clear hb); (try clear ho0); obtain ⟨Ao57, co57, eo57⟩ := Kd.R_slice HO782.1; subst eo57; obtain ⟨z58_0, z58_1, z58_2, y58_0, y58_1, y58_2⟩ := cf3 BK769.1) | (go_at_call 30; (with_reducible refine (net_Consumers.calls k3 t761 _ _ t762 _ _ t765 x11_3 t783 _ ?side1 ?side2 ?side3 ?side4 A52.1).mono ?_); (case side1 => exact csd ((Kd.V_reads' HO_770001.1).2.2)); (case side2 => exact (Kd.V_reads' HO_770001.1).2.1); (case side3 => exact csd ((Kd.V_reads' HO_770002.1).2.2)); (case side4 => exact (Kd.V_reads' HO_770002.1).2.1); rintro e w59 ⟨v784, rfl, ho0, hb⟩; have HO785 := am (Kd.R_lower (Kd.R_new' ho0 (Kd.R_lt (pkr HO782.1))) (below_size pbg)); replace HO_770001 := am (Kd.V_elder' (pkv HO_770001.1) (Kd.R_base ho0) hb); replace HO_770002 := am (Kd.V_elder' (pkv HO_770002.1) (Kd.R_base ho0) hb); replace HO782 := am (Kd.R_elder' (pkr HO782.1) (Kd.R_base ho0) hb); replace BK759 := bbh BK759 hb; replace BK769 := bbh BK769 hb; replace HB := bst hb; (try clear hb); (try clear ho0); obtain ⟨Ao60, co60, eo60⟩ := Kd.R_slice HO785.1; subst eo60))
 go_roundg k3
 case measure => have := HJ6.1; have := HJ29.1; have := HK3.1; omega
 case rel => exact ⟨(wrap64 (x11_3 + 1)), prs, H', ⟨by have := HJ6.1; have := HJ29.1; have := HK3.1; omega⟩, ⟨by (with_reducible repeat (first | apply Kd.V_alloc | apply Kd.V_drewN | apply Kd.V_drew)); exact Kd.V_mono HO_770001.1 (fun _ hk => ⟨hk.1.1.1, hk.1.1.2⟩)⟩, ⟨by (with_reducible repeat (first | apply Kd.V_alloc | apply Kd.V_drewN | apply Kd.V_drew)); exact Kd.V_mono HO_770002.1 (fun _ hk => ⟨hk.1.1.1, hk.1.1.2⟩)⟩, ⟨pbk BK759.1⟩, ⟨pbk BK769.1⟩, ⟨pbg⟩⟩

end Go.Proofs.Ytnoebjmhimehcaa.P
