-- LAID BY OUR PROGRAM OVER THE PRINT (xprint.py, part.py): Lean checks it.
import Derived.Test.YtnoebjmhimehcaaPx0
import Derived.Test.YtnoebjmhimehcaaPx1
import Derived.Test.YtnoebjmhimehcaaPx2
import Derived.Test.YtnoebjmhimehcaaPx4
import Derived.Test.YtnoebjmhimehcaaPx6
import Derived.Test.YtnoebjmhimehcaaPx7
import Derived.Test.YtnoebjmhimehcaaPx8
namespace Go.Proofs.Ytnoebjmhimehcaa.P
open Go.RowKit Go.Proofs.YtnoebjmhimehcaaW.PrintWords Go.Proofs.YtnoebjmhimehcaaW.PrintLast Go.Proofs.YtnoebjmhimehcaaW.PrintMore
attribute [local go_sem] max2_int min2_int max_two min_two max_three min_three max_four min_four   -- for this text's walks alone
set_option linter.unusedVariables false
set_option linter.unusedSimpArgs false

/-! ### petrinetlaw43_WorkflowEnds: function 3 -/
def petrinetlaw43_WorkflowEnds.f (k : Nat) (a0_0 : ByteArray) (l0_1 : List (S52)) (l0_2 : List (S48)) : Option (Bool) := (r09_Small.f k a0_0 l0_1 l0_2).bind fun bt566 => (if bt566.2.2.2 = true then ((workflow_Source.f k bt566.1 bt566.2.1 bt566.2.2.1).bind fun bt576 => ((r43_Source.f k bt566.1 bt566.2.1 bt566.2.2.1).bind fun bt578 => ((workflow_Sink.f k bt566.1 bt566.2.1 bt566.2.2.1).bind fun bt580 => ((r43_Sink.f k bt566.1 bt566.2.1 bt566.2.2.1).bind fun bt582 => (if bt576.1 = bt578.1 then (if (bt576.2 == bt578.2) = true then (if bt580.1 = bt582.1 then (if (bt580.2 == bt582.2) = true then ((workflow_Is.f k bt566.1 bt566.2.1 bt566.2.2.1).bind fun t584 => ((r43_Is.f k bt566.1 bt566.2.1 bt566.2.2.1).bind fun t585 => (if (t584 == t585) = true then ((petrinetlaw43_lives.f k).bind fun t586 => (some t586)) else (none)))) else (none)) else (none)) else (none)) else (none)))))) else ((petrinetlaw43_lives.f k).bind fun t575 => (some t575)))
theorem petrinetlaw43_WorkflowEnds.mono : ∀ a0 a1 a2 k, LeO (petrinetlaw43_WorkflowEnds.f k a0 a1 a2) (petrinetlaw43_WorkflowEnds.f (k + 1) a0 a1 a2) := by
 intro a0 a1 a2 k
 unfold petrinetlaw43_WorkflowEnds.f
 repeat' first | (with_reducible first | apply petrinetlaw43_lives.mono | apply r09_Small.mono | apply r43_Is.mono | apply r43_Sink.mono | apply r43_Source.mono | apply workflow_Is.mono | apply workflow_Sink.mono | apply workflow_Source.mono | apply lr | apply ln | apply li | refine lb ?_ fun _ => ?_)
def petrinetlaw43_WorkflowEnds.T8 : Bool × List (List Nat × List Nat) := (true, [([], []), ([], []), ([0, 1], [0, 1]), ([2], [2]), ([3], [3]), ([3], [3]), ([4, 5, 3], [3, 4, 5]), ([3, 6], [3, 6]), ([7, 3], [7]), ([8], [8]), ([8], [8]), ([9, 10, 8], [8, 9, 10]), ([8, 11], [8, 11]), ([12, 8], [12]), ([13], [13]), ([13], [13]), ([14, 15, 13], [13, 14, 15]), ([13, 16], [13, 16]), ([17, 13], [17]), ([18], [18]), ([19, 18, 18], [18, 19]), ([18], [18]), ([21, 20, 18], [18, 21]), ([20, 22, 18], [18, 20, 22]), ([18, 23], [18, 23]), ([24, 22], [24]), ([25, 25], [25]), ([25, 26], [25, 26]), ([27, 26, 0, 1, 2, 3, 4, 5, 6, 7, 8, 9, 10, 11, 12, 13, 14, 15, 16, 17, 18, 19, 20, 21, 22, 23, 24, 25, 26, 27], [27])])
def petrinetlaw43_WorkflowEnds.B8 : List Nat := [0, 0, 3, 7, 15, 15, 63, 127, 255, 511, 511, 2047, 4095, 8191, 16383, 16383, 65535, 131071, 262143, 524287, 1048575, 524287, 4194303, 8388607, 16777215, 33554431, 67108863, 134217727, 268435455]
theorem petrinetlaw43_WorkflowEnds.tab8 : rtab .any (opsOf Try.f3 8) = petrinetlaw43_WorkflowEnds.T8 := by kernel_rfl
theorem petrinetlaw43_WorkflowEnds.bits8 : waitsOk petrinetlaw43_WorkflowEnds.T8.2 petrinetlaw43_WorkflowEnds.B8 = true := by kernel_rfl
set_option maxHeartbeats 8000000 in
set_option maxRecDepth 100000 in
theorem petrinetlaw43_WorkflowEnds.calls (k : Nat) (a0_0 : ByteArray) (A0_1 : Option Addr) (c0_1 : Nat) (l0_1 : List (S52)) (A0_2 : Option Addr) (c0_2 : Nat) (l0_2 : List (S48)) (r : Bool) (w : World) (hr0_1 : Kd.C k52 w A0_1 l0_1.length l0_1) (hc0_1 : l0_1.length ≤ c0_1) (hr0_2 : Kd.C k48 w A0_2 l0_2.length l0_2) (hc0_2 : l0_2.length ≤ c0_2) (h : petrinetlaw43_WorkflowEnds.f k a0_0 l0_1 l0_2 = some r) :
  Calls Try.prog 3 #[.agg #[.string a0_0, .slice A0_1 l0_1.length c0_1, .slice A0_2 l0_2.length c0_2]] w fun e w' => e = .returned (.bool r) ∧ Below w.heap.size w w' := by
 have hu25 := Try.underlying25
 have HR0_1 := am hr0_1
 have HC0_1 := am hc0_1
 clear hr0_1 hc0_1
 have HR0_2 := am hr0_2
 have HC0_2 := am hc0_2
 clear hr0_2 hc0_2
 have HB := am (Below.refl w.heap.size w)
 have H : ((r09_Small.f k a0_0 l0_1 l0_2).bind fun bt566 => (if bt566.2.2.2 = true then ((workflow_Source.f k bt566.1 bt566.2.1 bt566.2.2.1).bind fun bt576 => ((r43_Source.f k bt566.1 bt566.2.1 bt566.2.2.1).bind fun bt578 => ((workflow_Sink.f k bt566.1 bt566.2.1 bt566.2.2.1).bind fun bt580 => ((r43_Sink.f k bt566.1 bt566.2.1 bt566.2.2.1).bind fun bt582 => (if bt576.1 = bt578.1 then (if (bt576.2 == bt578.2) = true then (if bt580.1 = bt582.1 then (if (bt580.2 == bt582.2) = true then ((workflow_Is.f k bt566.1 bt566.2.1 bt566.2.2.1).bind fun t584 => ((r43_Is.f k bt566.1 bt566.2.1 bt566.2.2.1).bind fun t585 => (if (t584 == t585) = true then ((petrinetlaw43_lives.f k).bind fun t586 => (some t586)) else (none)))) else (none)) else (none)) else (none)) else (none)))))) else ((petrinetlaw43_lives.f k).bind fun t575 => (some t575)))) = some r := h
 clear h
 replace H := bnd H
 obtain ⟨⟨t566, t567, t570, t573⟩, A2, H⟩ := H
 (try dsimp only at H)
 by_cases c3 : t573 = true
 rotate_left
 ·replace c3 := Bool.eq_false_iff.mpr c3
  subst c3
  rw [if_neg Bool.false_ne_true] at H
  replace H := bnd H
  obtain ⟨t575, A35, H⟩ := H
  (try dsimp only at H)
  obtain rfl := Option.some.inj H
  go_enter Try.func3, Try.ntmps3
  go_wp2_with (first | ((with_reducible refine gate_dst (N := 1) rfl ?_); refine box_ev (N := 1) (cs := #[.string a0_0, .slice A0_1 l0_1.length c0_1, .slice A0_2 l0_2.length c0_2]) (t := 25) ?_; intro gb565 hg w36 hbox hb; have BK565 := am hbox; have GW565 := gwl hg; have GE565 := GW565; replace HB := bsl hb; clear hb hbox hg; obtain ⟨z37_0, z37_1, z37_2, y37_0, y37_1, y37_2⟩ := cf3 BK565.1) | ((with_reducible refine gate_callee (f := 10) rfl ?_); refine gC 15 Try.func10 _ (r09_Small.calls k a0_0 (fun k_ => k_ < w.heap.size) _ _ l0_1 (fun k_ => k_ < w.heap.size) _ _ l0_2 t566 t567 t570 false _ (Kd.V_mk HC0_1.1 (Kd.F_below (Kd.C_F k52_heap HR0_1.1) pbg)) (Kd.V_mk HC0_2.1 (Kd.F_below (Kd.C_F k48_heap HR0_2.1) pbg)) A2.1) ?_; rintro e w38 ⟨v568, v571, rfl, ho0, ho1, hb⟩; refine ⟨_, rfl, ?_⟩; have HO569 := am (Kd.V_lower (Kd.V_mono (ok' := fun k_ => k_ ≠ gb565) ho0 (fun k_ hk_ => Or.elim hk_ (fun hs_ => Or.elim hs_ (fun hs_ => fun e_ => Nat.not_le.2 hs_ (by rw [e_]; exact GW565.1)) (fun hs_ => fun e_ => Nat.not_le.2 hs_ (by rw [e_]; exact GW565.1))) (fun hn_ => (Kd.freshB (g := gb565) (o := .cells #[.string a0_0, .slice A0_1 l0_1.length c0_1, .slice A0_2 l0_2.length c0_2] 25 (0, 0)) (by exact pbk BK565.1) k_ hn_)))) (below_size pbg)); have HO572 := am (Kd.V_lower (Kd.V_mono (ok' := fun k_ => k_ ≠ gb565) ho1 (fun k_ hk_ => Or.elim hk_ (fun hs_ => Or.elim hs_ (fun hs_ => fun e_ => Nat.not_le.2 hs_ (by rw [e_]; exact GW565.1)) (fun hs_ => fun e_ => Nat.not_le.2 hs_ (by rw [e_]; exact GW565.1))) (fun hn_ => (Kd.freshB (g := gb565) (o := .cells #[.string a0_0, .slice A0_1 l0_1.length c0_1, .slice A0_2 l0_2.length c0_2] 25 (0, 0)) (by exact pbk BK565.1) k_ hn_)))) (below_size pbg)); replace BK565 := bbh BK565 hb; replace HB := bst hb; (try clear hb); (try clear ho0); (try clear ho1)) | ((with_reducible refine gate_dst (N := 3) rfl ?_); refine box_ev (N := 3) (cs := #[.string (⟨#[]⟩ : ByteArray), .slice none 0 0, .slice none 0 0]) (t := 25) ?_; intro gb574 hg w39 hbox hb; have BK574 := am hbox; have GW574 := gwb hg; have GE574 := GW574; have NB565_574 := nlt hg BK565; have NB574_565 := ngt hg BK565; replace HO569 := vbb HO569 hg hb; replace HO572 := vbb HO572 hg hb; replace BK565 := bbh BK565 hb; replace HB := bst hb; clear hb hbox hg; have hnb40 := NB574_565.1; have hnc40 := NB565_574.1; obtain ⟨z41_0, z41_1, z41_2, y41_0, y41_1, y41_2⟩ := cf3 BK574.1; obtain ⟨Ao42, co42, eo42⟩ := Kd.V_slice HO569.1; subst eo42; obtain ⟨Ao43, co43, eo43⟩ := Kd.V_slice HO572.1; subst eo43) | ((with_reducible refine gate_callee (f := 11) rfl ?_); refine gC 20 Try.func11 _ (petrinetlaw43_lives.calls k  t575 _ A35.1) ?_; rintro e w44 ⟨rfl, hb⟩; refine ⟨_, rfl, ?_⟩; replace HO569 := am (Kd.V_below (by (with_reducible repeat (first | apply Kd.V_alloc | apply Kd.V_drewN | apply Kd.V_drew)); exact (Kd.V_mono (Kd.V_far (p := ⟨gb574, 2, none⟩) (Kd.V_far (p := ⟨gb574, 1, none⟩) (Kd.V_far (p := ⟨gb574, 0, none⟩) (Kd.V_mono HO569.1 (fun k_ hk => (⟨hk, hk.2⟩ : _ ∧ k_ ≠ gb574))) (fun _ hk => hk.2) (.string t566)) (fun _ hk => hk.2) (.slice Ao42 t567.length co42)) (fun _ hk => hk.2) (.slice Ao43 t570.length co43)) (fun _ h_ => h_.1))) hb); replace HO572 := am (Kd.V_below (by (with_reducible repeat (first | apply Kd.V_alloc | apply Kd.V_drewN | apply Kd.V_drew)); exact (Kd.V_mono (Kd.V_far (p := ⟨gb574, 2, none⟩) (Kd.V_far (p := ⟨gb574, 1, none⟩) (Kd.V_far (p := ⟨gb574, 0, none⟩) (Kd.V_mono HO572.1 (fun k_ hk => (⟨hk, hk.2⟩ : _ ∧ k_ ≠ gb574))) (fun _ hk => hk.2) (.string t566)) (fun _ hk => hk.2) (.slice Ao42 t567.length co42)) (fun _ hk => hk.2) (.slice Ao43 t570.length co43)) (fun _ h_ => h_.1))) hb); replace BK565 := am (blk_below (g := gb565) (o := .cells #[.string a0_0, .slice A0_1 l0_1.length c0_1, .slice A0_2 l0_2.length c0_2] 25 (0, 0)) (by (with_reducible repeat (first | refine blk_drewN ?_ _ | refine blk_drew ?_ | refine blk_alloc ?_ _)); refine bf3 ?_ NB565_574.1; exact pbk BK565.1) hb); replace BK574 := am (blk_below (g := gb574) (o := .cells #[.string t566, .slice Ao42 t567.length co42, .slice Ao43 t570.length co43] 25 (0, 0)) (by (with_reducible repeat (first | refine blk_drewN ?_ _ | refine blk_drew ?_ | refine blk_alloc ?_ _)); exact bp3 (pbk BK574.1)) hb); replace HB := bst hb; (try clear hb); (try clear hk)))
  go_ret
  exact ⟨per, pbg⟩
 subst c3
 rw [if_pos rfl] at H
 replace H := bnd H
 obtain ⟨⟨t576, t577⟩, A4, H⟩ := H
 (try dsimp only at H)
 replace H := bnd H
 obtain ⟨⟨t578, t579⟩, A5, H⟩ := H
 (try dsimp only at H)
 replace H := bnd H
 obtain ⟨⟨t580, t581⟩, A6, H⟩ := H
 (try dsimp only at H)
 replace H := bnd H
 obtain ⟨⟨t582, t583⟩, A7, H⟩ := H
 (try dsimp only at H)
 replace H := ifp H
 obtain ⟨c8, H⟩ := H
 have c8b0 : (t576 == t578) = true := beq_iff_eq.mpr c8
 have c8b1 : (t576 != t578) = false := bne_eq_false_iff_eq.mpr c8
 clear c8
 replace H := ifp H
 obtain ⟨c9, H⟩ := H
 have c9b0 := c9
 (try (have c9b1 : decide (t577 = t579) = true := by simpa using c9))
 (try (have c9b2 : (t577 == t579) = true := by simpa using c9))
 clear c9
 replace H := ifp H
 obtain ⟨c10, H⟩ := H
 have c10b0 : (t580 == t582) = true := beq_iff_eq.mpr c10
 have c10b1 : (t580 != t582) = false := bne_eq_false_iff_eq.mpr c10
 clear c10
 replace H := ifp H
 obtain ⟨c11, H⟩ := H
 have c11b0 := c11
 (try (have c11b1 : decide (t581 = t583) = true := by simpa using c11))
 (try (have c11b2 : (t581 == t583) = true := by simpa using c11))
 clear c11
 replace H := bnd H
 obtain ⟨t584, A12, H⟩ := H
 (try dsimp only at H)
 replace H := bnd H
 obtain ⟨t585, A13, H⟩ := H
 (try dsimp only at H)
 replace H := ifp H
 obtain ⟨c14, H⟩ := H
 have c14b0 := c14
 (try (have c14b1 : decide (t584 = t585) = true := by simpa using c14))
 (try (have c14b2 : (t584 == t585) = true := by simpa using c14))
 clear c14
 replace H := bnd H
 obtain ⟨t586, A15, H⟩ := H
 (try dsimp only at H)
 obtain rfl := Option.some.inj H
 go_enter Try.func3, Try.ntmps3
 try go_wp2_with (first | ((with_reducible refine gate_dst (N := 1) rfl ?_); refine box_ev (N := 1) (cs := #[.string a0_0, .slice A0_1 l0_1.length c0_1, .slice A0_2 l0_2.length c0_2]) (t := 25) ?_; intro gb565 hg w16 hbox hb; have BK565 := am hbox; have GW565 := gwl hg; have GE565 := GW565; replace HB := bsl hb; clear hb hbox hg; obtain ⟨z17_0, z17_1, z17_2, y17_0, y17_1, y17_2⟩ := cf3 BK565.1) | ((with_reducible refine gate_callee (f := 10) rfl ?_); refine gC 15 Try.func10 _ (r09_Small.calls k a0_0 (fun k_ => k_ < w.heap.size) _ _ l0_1 (fun k_ => k_ < w.heap.size) _ _ l0_2 t566 t567 t570 true _ (Kd.V_mk HC0_1.1 (Kd.F_below (Kd.C_F k52_heap HR0_1.1) pbg)) (Kd.V_mk HC0_2.1 (Kd.F_below (Kd.C_F k48_heap HR0_2.1) pbg)) A2.1) ?_; rintro e w18 ⟨v568, v571, rfl, ho0, ho1, hb⟩; refine ⟨_, rfl, ?_⟩; have HO569 := am (Kd.V_lower (Kd.V_mono (ok' := fun k_ => k_ ≠ gb565) ho0 (fun k_ hk_ => Or.elim hk_ (fun hs_ => Or.elim hs_ (fun hs_ => fun e_ => Nat.not_le.2 hs_ (by rw [e_]; exact GW565.1)) (fun hs_ => fun e_ => Nat.not_le.2 hs_ (by rw [e_]; exact GW565.1))) (fun hn_ => (Kd.freshB (g := gb565) (o := .cells #[.string a0_0, .slice A0_1 l0_1.length c0_1, .slice A0_2 l0_2.length c0_2] 25 (0, 0)) (by exact pbk BK565.1) k_ hn_)))) (below_size pbg)); have HO572 := am (Kd.V_lower (Kd.V_mono (ok' := fun k_ => k_ ≠ gb565) ho1 (fun k_ hk_ => Or.elim hk_ (fun hs_ => Or.elim hs_ (fun hs_ => fun e_ => Nat.not_le.2 hs_ (by rw [e_]; exact GW565.1)) (fun hs_ => fun e_ => Nat.not_le.2 hs_ (by rw [e_]; exact GW565.1))) (fun hn_ => (Kd.freshB (g := gb565) (o := .cells #[.string a0_0, .slice A0_1 l0_1.length c0_1, .slice A0_2 l0_2.length c0_2] 25 (0, 0)) (by exact pbk BK565.1) k_ hn_)))) (below_size pbg)); replace BK565 := bbh BK565 hb; replace HB := bst hb; (try clear hb); (try clear ho0); (try clear ho1)) | ((with_reducible refine gate_dst (N := 3) rfl ?_); refine box_ev (N := 3) (cs := #[.string (⟨#[]⟩ : ByteArray), .slice none 0 0, .slice none 0 0]) (t := 25) ?_; intro gb574 hg w19 hbox hb; have BK574 := am hbox; have GW574 := gwb hg; have GE574 := GW574; have NB565_574 := nlt hg BK565; have NB574_565 := ngt hg BK565; replace HO569 := vbb HO569 hg hb; replace HO572 := vbb HO572 hg hb; replace BK565 := bbh BK565 hb; replace HB := bst hb; clear hb hbox hg; have hnb20 := NB574_565.1; have hnc20 := NB565_574.1; obtain ⟨z21_0, z21_1, z21_2, y21_0, y21_1, y21_2⟩ := cf3 BK574.1; obtain ⟨Ao22, co22, eo22⟩ := Kd.V_slice HO569.1; subst eo22; obtain ⟨Ao23, co23, eo23⟩ := Kd.V_slice HO572.1; subst eo23) | ((with_reducible refine gate_callee (f := 12) rfl ?_); refine gC 23 Try.func12 _ (workflow_Source.calls k t566 _ _ t567 _ _ t570 t576 t577 _ ?side1 ?side2 ?side3 ?side4 A4.1) ?_; (case side1 => refine (Kd.V_reads' (e := 52) (base := w.heap.size) (ok := fun k_ => (k_ ≠ gb565 ∧ k_ ≠ gb574)) (n := t567.length) (c := co22) ?_).2.2; exact (by (with_reducible repeat (first | apply Kd.V_alloc | apply Kd.V_drewN | apply Kd.V_drew)); exact (Kd.V_mono (Kd.V_far (p := ⟨gb574, 2, none⟩) (Kd.V_far (p := ⟨gb574, 1, none⟩) (Kd.V_far (p := ⟨gb574, 0, none⟩) (Kd.V_mono HO569.1 (fun k_ hk => (⟨hk, hk.2⟩ : _ ∧ k_ ≠ gb574))) (fun _ hk => hk.2) (.string t566)) (fun _ hk => hk.2) (.slice Ao22 t567.length co22)) (fun _ hk => hk.2) (.slice Ao23 t570.length co23)) (fun _ h_ => h_.1)))); (case side2 => exact (Kd.V_reads' HO569.1).2.1); (case side3 => refine (Kd.V_reads' (e := 48) (base := w.heap.size) (ok := fun k_ => (k_ ≠ gb565 ∧ k_ ≠ gb574)) (n := t570.length) (c := co23) ?_).2.2; exact (by (with_reducible repeat (first | apply Kd.V_alloc | apply Kd.V_drewN | apply Kd.V_drew)); exact (Kd.V_mono (Kd.V_far (p := ⟨gb574, 2, none⟩) (Kd.V_far (p := ⟨gb574, 1, none⟩) (Kd.V_far (p := ⟨gb574, 0, none⟩) (Kd.V_mono HO572.1 (fun k_ hk => (⟨hk, hk.2⟩ : _ ∧ k_ ≠ gb574))) (fun _ hk => hk.2) (.string t566)) (fun _ hk => hk.2) (.slice Ao22 t567.length co22)) (fun _ hk => hk.2) (.slice Ao23 t570.length co23)) (fun _ h_ => h_.1)))); (case side4 => exact (Kd.V_reads' HO572.1).2.1); rintro e w24 ⟨rfl, hb⟩; refine ⟨_, rfl, ?_⟩; replace HO569 := am (Kd.V_below (by (with_reducible repeat (first | apply Kd.V_alloc | apply Kd.V_drewN | apply Kd.V_drew)); exact (Kd.V_mono (Kd.V_far (p := ⟨gb574, 2, none⟩) (Kd.V_far (p := ⟨gb574, 1, none⟩) (Kd.V_far (p := ⟨gb574, 0, none⟩) (Kd.V_mono HO569.1 (fun k_ hk => (⟨hk, hk.2⟩ : _ ∧ k_ ≠ gb574))) (fun _ hk => hk.2) (.string t566)) (fun _ hk => hk.2) (.slice Ao22 t567.length co22)) (fun _ hk => hk.2) (.slice Ao23 t570.length co23)) (fun _ h_ => h_.1))) hb); replace HO572 := am (Kd.V_below (by (with_reducible repeat (first | apply Kd.V_alloc | apply Kd.V_drewN | apply Kd.V_drew)); exact (Kd.V_mono (Kd.V_far (p := ⟨gb574, 2, none⟩) (Kd.V_far (p := ⟨gb574, 1, none⟩) (Kd.V_far (p := ⟨gb574, 0, none⟩) (Kd.V_mono HO572.1 (fun k_ hk => (⟨hk, hk.2⟩ : _ ∧ k_ ≠ gb574))) (fun _ hk => hk.2) (.string t566)) (fun _ hk => hk.2) (.slice Ao22 t567.length co22)) (fun _ hk => hk.2) (.slice Ao23 t570.length co23)) (fun _ h_ => h_.1))) hb); replace BK565 := am (blk_below (g := gb565) (o := .cells #[.string a0_0, .slice A0_1 l0_1.length c0_1, .slice A0_2 l0_2.length c0_2] 25 (0, 0)) (by (with_reducible repeat (first | refine blk_drewN ?_ _ | refine blk_drew ?_ | refine blk_alloc ?_ _)); refine bf3 ?_ NB565_574.1; exact pbk BK565.1) hb); replace BK574 := am (blk_below (g := gb574) (o := .cells #[.string t566, .slice Ao22 t567.length co22, .slice Ao23 t570.length co23] 25 (0, 0)) (by (with_reducible repeat (first | refine blk_drewN ?_ _ | refine blk_drew ?_ | refine blk_alloc ?_ _)); exact bp3 (pbk BK574.1)) hb); replace HB := bst hb; (try clear hb); (try clear hk); obtain ⟨z25_0, z25_1, z25_2, y25_0, y25_1, y25_2⟩ := cf3 BK574.1) | ((with_reducible refine gate_callee (f := 13) rfl ?_); refine gC 28 Try.func13 _ (r43_Source.calls k t566 _ _ t567 _ _ t570 t578 t579 _ (csd ((Kd.V_reads' HO569.1).2.2)) ((Kd.V_reads' HO569.1).2.1) (csd ((Kd.V_reads' HO572.1).2.2)) ((Kd.V_reads' HO572.1).2.1) A5.1) ?_; rintro e w26 ⟨rfl, hb⟩; refine ⟨_, rfl, ?_⟩; replace HO569 := vbw HO569 hb; replace HO572 := vbw HO572 hb; replace BK565 := bbh BK565 hb; replace BK574 := bbh BK574 hb; replace HB := bst hb; (try clear hb); obtain ⟨z27_0, z27_1, z27_2, y27_0, y27_1, y27_2⟩ := cf3 BK574.1) | ((with_reducible refine gate_callee (f := 14) rfl ?_); refine gC 33 Try.func14 _ (workflow_Sink.calls k t566 _ _ t567 _ _ t570 t580 t581 _ (csd ((Kd.V_reads' HO569.1).2.2)) ((Kd.V_reads' HO569.1).2.1) (csd ((Kd.V_reads' HO572.1).2.2)) ((Kd.V_reads' HO572.1).2.1) A6.1) ?_; rintro e w28 ⟨rfl, hb⟩; refine ⟨_, rfl, ?_⟩; replace HO569 := vbw HO569 hb; replace HO572 := vbw HO572 hb; replace BK565 := bbh BK565 hb; replace BK574 := bbh BK574 hb; replace HB := bst hb; (try clear hb); obtain ⟨z29_0, z29_1, z29_2, y29_0, y29_1, y29_2⟩ := cf3 BK574.1) | ((with_reducible refine gate_callee (f := 15) rfl ?_); refine gC 38 Try.func15 _ (r43_Sink.calls k t566 _ _ t567 _ _ t570 t582 t583 _ (csd ((Kd.V_reads' HO569.1).2.2)) ((Kd.V_reads' HO569.1).2.1) (csd ((Kd.V_reads' HO572.1).2.2)) ((Kd.V_reads' HO572.1).2.1) A7.1) ?_; rintro e w30 ⟨rfl, hb⟩; refine ⟨_, rfl, ?_⟩; replace HO569 := vbw HO569 hb; replace HO572 := vbw HO572 hb; replace BK565 := bbh BK565 hb; replace BK574 := bbh BK574 hb; replace HB := bst hb; (try clear hb)))
 replace HO569 := am (Kd.V_drew HO569.1)
 replace HO572 := am (Kd.V_drew HO572.1)
 replace BK565 := am (blk_drew BK565.1)
 replace BK574 := am (blk_drew BK574.1)
 replace HB := am (below_drew1 HB.1)
 refine start_ (n := 29) (S := fun w' => w'.cell? ⟨gb574, 0, none⟩ = some (.string t566) ∧ w'.cell? ⟨gb574, 1, none⟩ = some (.slice Ao22 t567.length co22) ∧ w'.cell? ⟨gb574, 2, none⟩ = some (.slice Ao23 t570.length co23)) (ds := []) #[false, false, false, false, false, false, false, false, false, false, false, false, false, false, false, false, false, false, false, false, false, false, false, false, false, false, false, false, false] (by kernel_rfl) rfl rfl ⟨(blk_cell BK574.1 0).trans rfl, (blk_cell BK574.1 1).trans rfl, (blk_cell BK574.1 2).trans rfl⟩ (fun hHeld => ?_); refine with_tabW petrinetlaw43_WorkflowEnds.tab8 petrinetlaw43_WorkflowEnds.bits8 (fun HT_ HW_ => ?_)
 generalize w30.drew = w31 at HO569 HO572 BK565 BK574 HB hHeld ⊢
 refine pure_ (i := 0) (N := some 41) (v := ?_) (a' := ?_) #[true, false, false, false, false, false, false, false, false, false, false, false, false, false, false, false, false, false, false, false, false, false, false, false, false, false, false, false, false] rfl rfl (any_of HT_.1 (by kernel_rfl)) (fun _ _ _ h => h) (Or.inl ⟨by rfl, ?_⟩) ?_ ?_
 rotate_left
 ·intro w'
  go_simp
  with_reducible rfl
 rotate_left
 ·simp only [Act.put, List.setIfInBounds_toArray, List.set_cons_zero, List.set_cons_succ, i64_w, i32_w]
  rfl
 refine pure_ (i := 1) (N := some 42) (v := ?_) (a' := ?_) #[true, true, false, false, false, false, false, false, false, false, false, false, false, false, false, false, false, false, false, false, false, false, false, false, false, false, false, false, false] rfl rfl (any_of HT_.1 (by kernel_rfl)) (fun _ _ _ h => h) (Or.inl ⟨by rfl, ?_⟩) ?_ ?_
 rotate_left
 ·intro w'
  go_simp
  with_reducible rfl
 rotate_left
 ·simp only [Act.put, List.setIfInBounds_toArray, List.set_cons_zero, List.set_cons_succ, i64_w, i32_w]
  rfl
 refine pure_ (i := 2) (N := some 43) (v := ?_) (a' := ?_) #[true, true, true, false, false, false, false, false, false, false, false, false, false, false, false, false, false, false, false, false, false, false, false, false, false, false, false, false, false] rfl rfl (any_of HT_.1 (by kernel_rfl)) (fun _ _ _ h => h) (Or.inl ⟨by rfl, ?_⟩) ?_ ?_
 rotate_left
 ·intro w'
  go_simp
  with_reducible rfl
 rotate_left
 ·simp only [Act.put, List.setIfInBounds_toArray, List.set_cons_zero, List.set_cons_succ, i64_w, i32_w]
  rfl
 refine pure_ (i := 3) (N := some 44) (v := ?_) (a' := ?_) #[true, true, true, true, false, false, false, false, false, false, false, false, false, false, false, false, false, false, false, false, false, false, false, false, false, false, false, false, false] rfl rfl (any_of HT_.1 (by kernel_rfl)) (fun _ _ _ h => h) (Or.inl ⟨by rfl, ?_⟩) ?_ ?_
 rotate_left
 ·intro w'
  go_simp
  with_reducible rfl
 rotate_left
 ·simp only [Act.put, List.setIfInBounds_toArray, List.set_cons_zero, List.set_cons_succ, i64_w, i32_w]
  rfl
 refine pure_ (i := 4) (N := some 45) (v := ?_) (a' := ?_) #[true, true, true, true, true, false, false, false, false, false, false, false, false, false, false, false, false, false, false, false, false, false, false, false, false, false, false, false, false] rfl rfl (any_of HT_.1 (by kernel_rfl)) (fun _ _ _ h => h) (Or.inl ⟨by rfl, ?_⟩) ?_ ?_
 rotate_left
 ·intro w'
  go_simp
  with_reducible rfl
 rotate_left
 ·simp only [Act.put, List.setIfInBounds_toArray, List.set_cons_zero, List.set_cons_succ, i64_w, i32_w]
  rfl
 refine pure_ (i := 5) (N := some 46) (v := ?_) (a' := ?_) #[true, true, true, true, true, true, false, false, false, false, false, false, false, false, false, false, false, false, false, false, false, false, false, false, false, false, false, false, false] rfl rfl (any_of HT_.1 (by kernel_rfl)) (fun _ _ _ h => h) (Or.inl ⟨by rfl, ?_⟩) ?_ ?_
 rotate_left
 ·intro w'
  go_simp
  with_reducible rfl
 rotate_left
 ·simp only [Act.put, List.setIfInBounds_toArray, List.set_cons_zero, List.set_cons_succ, i64_w, i32_w]
  rfl
 refine pure_ (i := 6) (N := some 47) (v := ?_) (a' := ?_) #[true, true, true, true, true, true, true, false, false, false, false, false, false, false, false, false, false, false, false, false, false, false, false, false, false, false, false, false, false] rfl rfl (any_of HT_.1 (by kernel_rfl)) (fun _ _ _ h => h) (Or.inl ⟨by rfl, ?_⟩) ?_ ?_
 rotate_left
 ·intro w'
  go_simp
  with_reducible rfl
 rotate_left
 ·simp only [Act.put, List.setIfInBounds_toArray, List.set_cons_zero, List.set_cons_succ, i64_w, i32_w]
  rfl
 refine pure_ (i := 7) (N := some 48) (v := ?_) (a' := ?_) #[true, true, true, true, true, true, true, true, false, false, false, false, false, false, false, false, false, false, false, false, false, false, false, false, false, false, false, false, false] rfl rfl (any_of HT_.1 (by kernel_rfl)) (fun _ _ _ h => h) (Or.inl ⟨by rfl, ?_⟩) ?_ ?_
 rotate_left
 ·intro w'
  go_simp
  with_reducible rfl
 rotate_left
 ·simp only [Act.put, List.setIfInBounds_toArray, List.set_cons_zero, List.set_cons_succ, i64_w, i32_w]
  rfl
 refine pure_ (i := 8) (N := some 49) (v := ?_) (a' := ?_) #[true, true, true, true, true, true, true, true, true, false, false, false, false, false, false, false, false, false, false, false, false, false, false, false, false, false, false, false, false] rfl rfl (any_of HT_.1 (by kernel_rfl)) (fun _ _ _ h => h) (Or.inl ⟨by rfl, ?_⟩) ?_ ?_
 rotate_left
 ·intro w'
  go_simp
  with_reducible rfl
 rotate_left
 ·simp only [Act.put, List.setIfInBounds_toArray, List.set_cons_zero, List.set_cons_succ, i64_w, i32_w]
  rfl
 refine pure_ (i := 9) (N := some 50) (v := ?_) (a' := ?_) #[true, true, true, true, true, true, true, true, true, true, false, false, false, false, false, false, false, false, false, false, false, false, false, false, false, false, false, false, false] rfl rfl (any_of HT_.1 (by kernel_rfl)) (fun _ _ _ h => h) (Or.inl ⟨by rfl, ?_⟩) ?_ ?_
 rotate_left
 ·intro w'
  go_simp
  with_reducible rfl
 rotate_left
 ·simp only [Act.put, List.setIfInBounds_toArray, List.set_cons_zero, List.set_cons_succ, i64_w, i32_w]
  rfl
 refine pure_ (i := 10) (N := some 51) (v := ?_) (a' := ?_) #[true, true, true, true, true, true, true, true, true, true, true, false, false, false, false, false, false, false, false, false, false, false, false, false, false, false, false, false, false] rfl rfl (any_of HT_.1 (by kernel_rfl)) (fun _ _ _ h => h) (Or.inl ⟨by rfl, ?_⟩) ?_ ?_
 rotate_left
 ·intro w'
  go_simp
  with_reducible rfl
 rotate_left
 ·simp only [Act.put, List.setIfInBounds_toArray, List.set_cons_zero, List.set_cons_succ, i64_w, i32_w]
  rfl
 refine pure_ (i := 11) (N := some 52) (v := ?_) (a' := ?_) #[true, true, true, true, true, true, true, true, true, true, true, true, false, false, false, false, false, false, false, false, false, false, false, false, false, false, false, false, false] rfl rfl (any_of HT_.1 (by kernel_rfl)) (fun _ _ _ h => h) (Or.inl ⟨by rfl, ?_⟩) ?_ ?_
 rotate_left
 ·intro w'
  go_simp
  with_reducible rfl
 rotate_left
 ·simp only [Act.put, List.setIfInBounds_toArray, List.set_cons_zero, List.set_cons_succ, i64_w, i32_w]
  rfl
 refine pure_ (i := 12) (N := some 53) (v := ?_) (a' := ?_) #[true, true, true, true, true, true, true, true, true, true, true, true, true, false, false, false, false, false, false, false, false, false, false, false, false, false, false, false, false] rfl rfl (any_of HT_.1 (by kernel_rfl)) (fun _ _ _ h => h) (Or.inl ⟨by rfl, ?_⟩) ?_ ?_
 rotate_left
 ·intro w'
  go_simp
  with_reducible rfl
 rotate_left
 ·simp only [Act.put, List.setIfInBounds_toArray, List.set_cons_zero, List.set_cons_succ, i64_w, i32_w]
  rfl
 refine pure_ (i := 13) (N := some 54) (v := ?_) (a' := ?_) #[true, true, true, true, true, true, true, true, true, true, true, true, true, true, false, false, false, false, false, false, false, false, false, false, false, false, false, false, false] rfl rfl (any_of HT_.1 (by kernel_rfl)) (fun _ _ _ h => h) (Or.inl ⟨by rfl, ?_⟩) ?_ ?_
 rotate_left
 ·intro w'
  go_simp
  with_reducible rfl
 rotate_left
 ·simp only [Act.put, List.setIfInBounds_toArray, List.set_cons_zero, List.set_cons_succ, i64_w, i32_w]
  rfl
 refine pure_ (i := 14) (N := some 55) (v := ?_) (a' := ?_) #[true, true, true, true, true, true, true, true, true, true, true, true, true, true, true, false, false, false, false, false, false, false, false, false, false, false, false, false, false] rfl rfl (any_of HT_.1 (by kernel_rfl)) (fun _ _ _ h => h) (Or.inl ⟨by rfl, ?_⟩) ?_ ?_
 rotate_left
 ·intro w'
  go_simp
  with_reducible rfl
 rotate_left
 ·simp only [Act.put, List.setIfInBounds_toArray, List.set_cons_zero, List.set_cons_succ, i64_w, i32_w]
  rfl
 refine pure_ (i := 15) (N := some 56) (v := ?_) (a' := ?_) #[true, true, true, true, true, true, true, true, true, true, true, true, true, true, true, true, false, false, false, false, false, false, false, false, false, false, false, false, false] rfl rfl (any_of HT_.1 (by kernel_rfl)) (fun _ _ _ h => h) (Or.inl ⟨by rfl, ?_⟩) ?_ ?_
 rotate_left
 ·intro w'
  go_simp
  with_reducible rfl
 rotate_left
 ·simp only [Act.put, List.setIfInBounds_toArray, List.set_cons_zero, List.set_cons_succ, i64_w, i32_w]
  rfl
 refine pure_ (i := 16) (N := some 57) (v := ?_) (a' := ?_) #[true, true, true, true, true, true, true, true, true, true, true, true, true, true, true, true, true, false, false, false, false, false, false, false, false, false, false, false, false] rfl rfl (any_of HT_.1 (by kernel_rfl)) (fun _ _ _ h => h) (Or.inl ⟨by rfl, ?_⟩) ?_ ?_
 rotate_left
 ·intro w'
  go_simp
  with_reducible rfl
 rotate_left
 ·simp only [Act.put, List.setIfInBounds_toArray, List.set_cons_zero, List.set_cons_succ, i64_w, i32_w]
  rfl
 refine pure_ (i := 17) (N := some 58) (v := ?_) (a' := ?_) #[true, true, true, true, true, true, true, true, true, true, true, true, true, true, true, true, true, true, false, false, false, false, false, false, false, false, false, false, false] rfl rfl (any_of HT_.1 (by kernel_rfl)) (fun _ _ _ h => h) (Or.inl ⟨by rfl, ?_⟩) ?_ ?_
 rotate_left
 ·intro w'
  go_simp
  with_reducible rfl
 rotate_left
 ·simp only [Act.put, List.setIfInBounds_toArray, List.set_cons_zero, List.set_cons_succ, i64_w, i32_w]
  rfl
 refine pure_ (i := 18) (N := some 59) (v := ?_) (a' := ?_) #[true, true, true, true, true, true, true, true, true, true, true, true, true, true, true, true, true, true, true, false, false, false, false, false, false, false, false, false, false] rfl rfl (any_of HT_.1 (by kernel_rfl)) (fun _ _ _ h => h) (Or.inl ⟨by rfl, ?_⟩) ?_ ?_
 rotate_left
 ·intro w'
  go_simp
  with_reducible rfl
 rotate_left
 ·simp only [Act.put, List.setIfInBounds_toArray, List.set_cons_zero, List.set_cons_succ, i64_w, i32_w]
  rfl
 refine take_ (i := 19) (N := some 60) (v := ?_) (a' := ?_) #[true, true, true, true, true, true, true, true, true, true, true, true, true, true, true, true, true, true, true, true, false, false, false, false, false, false, false, false, false] rfl rfl (take_ofW HT_.1 HW_.1 (by kernel_rfl)) (fun _ _ _ h => h) (Or.inl ⟨by rfl, ?_⟩) hHeld ?_ ?_
 rotate_left
 ·rintro w' ⟨s0, s1, s2⟩
  go_simp
  with_reducible rfl
 rotate_left
 ·simp only [Act.put, List.setIfInBounds_toArray, List.set_cons_zero, List.set_cons_succ, i64_w, i32_w]
  rfl
 refine take_ (i := 21) (N := some 62) (v := ?_) (a' := ?_) #[true, true, true, true, true, true, true, true, true, true, true, true, true, true, true, true, true, true, true, true, false, true, false, false, false, false, false, false, false] rfl rfl (take_ofW HT_.1 HW_.1 (by kernel_rfl)) (fun _ _ _ h => h) (Or.inl ⟨by rfl, ?_⟩) hHeld ?_ ?_
 rotate_left
 ·rintro w' ⟨s0, s1, s2⟩
  go_simp
  with_reducible rfl
 rotate_left
 ·simp only [Act.put, List.setIfInBounds_toArray, List.set_cons_zero, List.set_cons_succ, i64_w, i32_w]
  rfl
 refine one_ (i := 20) (N := some 61) #[true, true, true, true, true, true, true, true, true, true, true, true, true, true, true, true, true, true, true, true, true, true, false, false, false, false, false, false, false] rfl rfl (one_of HT_.1 (by kernel_rfl)) (by decide) (fun K hK => ?_)
 refine goes_ Try.func16 (by kernel_rfl) rfl #[.agg #[.string t566, .slice Ao22 t567.length co22, .slice Ao23 t570.length co23]] (by rfl) rfl rfl pgz ?_
 with_reducible refine (workflow_Is.calls k t566 _ _ t567 _ _ t570 t584 _ ?side1 ?side2 ?side3 ?side4 A12.1).mono ?_
 (case side1 => exact csd ((Kd.V_reads' HO569.1).2.2))
 (case side2 => exact (Kd.V_reads' HO569.1).2.1)
 (case side3 => exact csd ((Kd.V_reads' HO572.1).2.2))
 (case side4 => exact (Kd.V_reads' HO572.1).2.1)
 rintro e w32 ⟨rfl, hb⟩
 refine ⟨_, rfl, ?_⟩
 replace HO569 := vbw HO569 hb
 replace HO572 := vbw HO572 hb
 replace BK565 := bbh BK565 hb
 replace BK574 := bbh BK574 hb
 replace HB := bst hb
 (try clear hb)
 (try clear hb2)
 (try clear hk)
 (try clear hi)
 refine hK.out _ _ ⟨(blk_cell BK574.1 0).trans rfl, (blk_cell BK574.1 1).trans rfl, (blk_cell BK574.1 2).trans rfl⟩ (fun hHeld => ?_)
 clear hK K
 refine norm_ (a' := ?_) ?_ ?_
 rotate_left
 ·show Act.put _ (some 61) _ = _
  simp only [Act.put, List.setIfInBounds_toArray, List.set_cons_zero, List.set_cons_succ, i64_w, i32_w]
  rfl
 refine one_ (i := 22) (N := some 63) #[true, true, true, true, true, true, true, true, true, true, true, true, true, true, true, true, true, true, true, true, true, true, true, false, false, false, false, false, false] rfl rfl (one_of HT_.1 (by kernel_rfl)) (by decide) (fun K hK => ?_)
 refine goes_ Try.func17 (by kernel_rfl) rfl #[.agg #[.string t566, .slice Ao22 t567.length co22, .slice Ao23 t570.length co23]] (by rfl) rfl rfl pgz ?_
 with_reducible refine (r43_Is.calls k t566 _ _ t567 _ _ t570 t585 _ ?side1 ?side2 ?side3 ?side4 A13.1).mono ?_
 (case side1 => exact csd ((Kd.V_reads' HO569.1).2.2))
 (case side2 => exact (Kd.V_reads' HO569.1).2.1)
 (case side3 => exact csd ((Kd.V_reads' HO572.1).2.2))
 (case side4 => exact (Kd.V_reads' HO572.1).2.1)
 rintro e w33 ⟨rfl, hb⟩
 refine ⟨_, rfl, ?_⟩
 replace HO569 := vbw HO569 hb
 replace HO572 := vbw HO572 hb
 replace BK565 := bbh BK565 hb
 replace BK574 := bbh BK574 hb
 replace HB := bst hb
 (try clear hb)
 (try clear hb2)
 (try clear hk)
 (try clear hi)
 refine hK.out _ _ ⟨(blk_cell BK574.1 0).trans rfl, (blk_cell BK574.1 1).trans rfl, (blk_cell BK574.1 2).trans rfl⟩ (fun hHeld => ?_)
 clear hK K
 refine norm_ (a' := ?_) ?_ ?_
 rotate_left
 ·show Act.put _ (some 63) _ = _
  simp only [Act.put, List.setIfInBounds_toArray, List.set_cons_zero, List.set_cons_succ, i64_w, i32_w]
  rfl
 refine pure_ (i := 23) (N := some 64) (v := ?_) (a' := ?_) #[true, true, true, true, true, true, true, true, true, true, true, true, true, true, true, true, true, true, true, true, true, true, true, true, false, false, false, false, false] rfl rfl (any_of HT_.1 (by kernel_rfl)) (fun _ _ _ h => h) (Or.inl ⟨by rfl, ?_⟩) ?_ ?_
 rotate_left
 ·intro w'
  go_simp
  with_reducible rfl
 rotate_left
 ·simp only [Act.put, List.setIfInBounds_toArray, List.set_cons_zero, List.set_cons_succ, i64_w, i32_w]
  rfl
 refine pure_ (i := 24) (N := some 65) (v := ?_) (a' := ?_) #[true, true, true, true, true, true, true, true, true, true, true, true, true, true, true, true, true, true, true, true, true, true, true, true, true, false, false, false, false] rfl rfl (any_of HT_.1 (by kernel_rfl)) (fun _ _ _ h => h) (Or.inl ⟨by rfl, ?_⟩) ?_ ?_
 rotate_left
 ·intro w'
  go_simp
  with_reducible rfl
 rotate_left
 ·simp only [Act.put, List.setIfInBounds_toArray, List.set_cons_zero, List.set_cons_succ, i64_w, i32_w]
  rfl
 refine pure_ (i := 25) (N := some 66) (v := ?_) (a' := ?_) #[true, true, true, true, true, true, true, true, true, true, true, true, true, true, true, true, true, true, true, true, true, true, true, true, true, true, false, false, false] rfl rfl (any_of HT_.1 (by kernel_rfl)) (fun _ _ _ h => h) (Or.inl ⟨by rfl, ?_⟩) ?_ ?_
 rotate_left
 ·intro w'
  go_simp
  with_reducible rfl
 rotate_left
 ·simp only [Act.put, List.setIfInBounds_toArray, List.set_cons_zero, List.set_cons_succ, i64_w, i32_w]
  rfl
 refine one_ (i := 26) (N := some 67) #[true, true, true, true, true, true, true, true, true, true, true, true, true, true, true, true, true, true, true, true, true, true, true, true, true, true, true, false, false] rfl rfl (one_of HT_.1 (by kernel_rfl)) (by decide) (fun K hK => ?_)
 refine goes_ Try.func11 (by kernel_rfl) rfl #[] (by rfl) rfl rfl pgz ?_
 with_reducible refine (petrinetlaw43_lives.calls k  t586 _ A15.1).mono ?_
 rintro e w34 ⟨rfl, hb⟩
 refine ⟨_, rfl, ?_⟩
 replace HO569 := vbw HO569 hb
 replace HO572 := vbw HO572 hb
 replace BK565 := bbh BK565 hb
 replace BK574 := bbh BK574 hb
 replace HB := bst hb
 (try clear hb)
 (try clear hb2)
 (try clear hk)
 (try clear hi)
 refine hK.out _ _ ⟨(blk_cell BK574.1 0).trans rfl, (blk_cell BK574.1 1).trans rfl, (blk_cell BK574.1 2).trans rfl⟩ (fun hHeld => ?_)
 clear hK K
 refine norm_ (a' := ?_) ?_ ?_
 rotate_left
 ·show Act.put _ (some 67) _ = _
  simp only [Act.put, List.setIfInBounds_toArray, List.set_cons_zero, List.set_cons_succ, i64_w, i32_w]
  rfl
 refine pure_ (i := 27) (N := some 68) (v := ?_) (a' := ?_) #[true, true, true, true, true, true, true, true, true, true, true, true, true, true, true, true, true, true, true, true, true, true, true, true, true, true, true, true, false] rfl rfl (any_of HT_.1 (by kernel_rfl)) (fun _ _ _ h => h) (Or.inl ⟨by rfl, ?_⟩) ?_ ?_
 rotate_left
 ·intro w'
  go_simp
  with_reducible rfl
 rotate_left
 ·simp only [Act.put, List.setIfInBounds_toArray, List.set_cons_zero, List.set_cons_succ, i64_w, i32_w]
  rfl
 refine pure_ (i := 28) (N := some 2) (v := ?_) (a' := ?_) #[true, true, true, true, true, true, true, true, true, true, true, true, true, true, true, true, true, true, true, true, true, true, true, true, true, true, true, true, true] rfl rfl (any_of HT_.1 (by kernel_rfl)) (fun _ _ _ h => h) (Or.inl ⟨by rfl, ?_⟩) ?_ ?_
 rotate_left
 ·intro w'
  go_simp
  with_reducible rfl
 rotate_left
 ·simp only [Act.put, List.setIfInBounds_toArray, List.set_cons_zero, List.set_cons_succ, i64_w, i32_w]
  rfl
 refine done_ (done_of HT_.1 (by kernel_rfl)) ?_
 try go_wp2
 go_ret
 exact ⟨per, pbg⟩

end Go.Proofs.Ytnoebjmhimehcaa.P
