-- LAID BY OUR PROGRAM OVER THE PRINT (xprint.py, part.py): Lean checks it.
import Derived.Test.YtplljicodflagaaPx0
import Derived.Test.YtplljicodflagaaPx1
import Derived.Test.YtplljicodflagaaPx2
import Derived.Test.YtplljicodflagaaPx3
import Derived.Test.YtplljicodflagaaPx4
import Derived.Test.YtplljicodflagaaPx12
namespace Go.Proofs.Ytplljicodflagaa.P
open Go.RowKit Go.Proofs.YtplljicodflagaaW.PrintWords Go.Proofs.YtplljicodflagaaW.PrintLast Go.Proofs.YtplljicodflagaaW.PrintMore
attribute [local go_sem] max2_int min2_int max_two min_two max_three min_three max_four min_four   -- for this text's walks alone
set_option linter.unusedVariables false
set_option linter.unusedSimpArgs false

/-! ### petrinetlaw13_NetclassKinds: function 4 -/
def petrinetlaw13_NetclassKinds.f (k : Nat) (a0_0 : ByteArray) (l0_1 : List (S46)) (l0_2 : List (S41)) : Option (Bool) := (petrinetref09_Small.f k a0_0 l0_1 l0_2).bind fun bt549 => (if bt549.2.2.2 = true then ((netclass_StateMachine.f k bt549.1 bt549.2.1 bt549.2.2.1).bind fun t559 => ((petrinetref13_StateMachine.f k bt549.1 bt549.2.1 bt549.2.2.1).bind fun t560 => (if (t559 == t560) = true then ((netclass_MarkedGraph.f k bt549.1 bt549.2.1 bt549.2.2.1).bind fun t561 => ((petrinetref13_MarkedGraph.f k bt549.1 bt549.2.1 bt549.2.2.1).bind fun t562 => (if (t561 == t562) = true then ((netclass_FreeChoice.f k bt549.1 bt549.2.1 bt549.2.2.1).bind fun t563 => ((petrinetref13_FreeChoice.f k bt549.1 bt549.2.1 bt549.2.2.1).bind fun t564 => (if (t563 == t564) = true then ((netclass_Asymmetric.f k bt549.1 bt549.2.1 bt549.2.2.1).bind fun t565 => ((petrinetref13_Asymmetric.f k bt549.1 bt549.2.1 bt549.2.2.1).bind fun t566 => (if (t565 == t566) = true then ((netclass_Pure.f k bt549.1 bt549.2.1 bt549.2.2.1).bind fun t567 => ((petrinetref13_Pure.f k bt549.1 bt549.2.1 bt549.2.2.1).bind fun t568 => (if (t567 == t568) = true then ((petrinetlaw13_alive.f k).bind fun t569 => (some t569)) else (none)))) else (none)))) else (none)))) else (none)))) else (none)))) else ((petrinetlaw13_alive.f k).bind fun t558 => (some t558)))
theorem petrinetlaw13_NetclassKinds.mono : ∀ a0 a1 a2 k, LeO (petrinetlaw13_NetclassKinds.f k a0 a1 a2) (petrinetlaw13_NetclassKinds.f (k + 1) a0 a1 a2) := by
 intro a0 a1 a2 k
 unfold petrinetlaw13_NetclassKinds.f
 repeat' first | (with_reducible first | apply netclass_Asymmetric.mono | apply netclass_FreeChoice.mono | apply netclass_MarkedGraph.mono | apply netclass_Pure.mono | apply netclass_StateMachine.mono | apply petrinetlaw13_alive.mono | apply petrinetref09_Small.mono | apply petrinetref13_Asymmetric.mono | apply petrinetref13_FreeChoice.mono | apply petrinetref13_MarkedGraph.mono | apply petrinetref13_Pure.mono | apply petrinetref13_StateMachine.mono | apply LeO.refl | apply LeO.none | refine LeO.ite ?_ ?_ | refine LeO.bind ?_ (fun _ => ?_))
def petrinetlaw13_NetclassKinds.T4 : Bool × List (List Nat × List Nat) := (true, [([], []), ([0], [0]), ([], []), ([2, 1], [2]), ([1, 3], [1, 3]), ([4, 3], [4]), ([5], [5]), ([6, 5, 5], [5, 6]), ([5], [5]), ([8, 7, 5], [5, 8]), ([7, 9, 5], [5, 7, 9]), ([5, 10], [5, 10]), ([11, 9], [11]), ([12], [12]), ([13, 12, 12], [12, 13]), ([12], [12]), ([15, 14, 12], [12, 15]), ([14, 16, 12], [12, 14, 16]), ([12, 17], [12, 17]), ([18, 16], [18]), ([19], [19]), ([20, 19, 19], [19, 20]), ([19], [19]), ([22, 21, 19], [19, 22]), ([21, 23, 19], [19, 21, 23]), ([19, 24], [19, 24]), ([25, 23], [25]), ([26], [26]), ([27, 26, 26], [26, 27]), ([26], [26]), ([29, 28, 26], [26, 29]), ([28, 30, 26], [26, 28, 30]), ([26, 31], [26, 31]), ([32, 30], [32]), ([33, 33], [33]), ([33, 34], [33, 34]), ([35, 34, 0, 1, 2, 3, 4, 5, 6, 7, 8, 9, 10, 11, 12, 13, 14, 15, 16, 17, 18, 19, 20, 21, 22, 23, 24, 25, 26, 27, 28, 29, 30, 31, 32, 33, 34, 35], [35])])
def petrinetlaw13_NetclassKinds.B4 : List Nat := [0, 1, 0, 7, 15, 31, 63, 127, 63, 511, 1023, 2047, 4095, 8191, 16383, 8191, 65535, 131071, 262143, 524287, 1048575, 2097151, 1048575, 8388607, 16777215, 33554431, 67108863, 134217727, 268435455, 134217727, 1073741823, 2147483647, 4294967295, 8589934591, 17179869183, 34359738367, 68719476735]
theorem petrinetlaw13_NetclassKinds.tab4 : rtab .any (opsOf Try.f4 4) = petrinetlaw13_NetclassKinds.T4 := by kernel_rfl
theorem petrinetlaw13_NetclassKinds.bits4 : waitsOk petrinetlaw13_NetclassKinds.T4.2 petrinetlaw13_NetclassKinds.B4 = true := by kernel_rfl
set_option maxHeartbeats 8000000 in
set_option maxRecDepth 100000 in
theorem petrinetlaw13_NetclassKinds.calls (k : Nat) (a0_0 : ByteArray) (A0_1 : Option Addr) (c0_1 : Nat) (l0_1 : List (S46)) (A0_2 : Option Addr) (c0_2 : Nat) (l0_2 : List (S41)) (r : Bool) (w : World) (hr0_1 : Kd.C k46 w A0_1 l0_1.length l0_1) (hc0_1 : l0_1.length ≤ c0_1) (hr0_2 : Kd.C k41 w A0_2 l0_2.length l0_2) (hc0_2 : l0_2.length ≤ c0_2) (h : petrinetlaw13_NetclassKinds.f k a0_0 l0_1 l0_2 = some r) :
   Calls Try.prog 4 #[.agg #[.string a0_0, .slice A0_1 l0_1.length c0_1, .slice A0_2 l0_2.length c0_2]] w fun e w' => e = .returned (.bool r) ∧ Below w.heap.size w w' := by
 have hu25 := Try.underlying25
 have HR0_1 := am hr0_1
 have HC0_1 := am hc0_1
 clear hr0_1 hc0_1
 have HR0_2 := am hr0_2
 have HC0_2 := am hc0_2
 clear hr0_2 hc0_2
 have HB := am (Below.refl w.heap.size w)
 have H : ((petrinetref09_Small.f k a0_0 l0_1 l0_2).bind fun bt549 => (if bt549.2.2.2 = true then ((netclass_StateMachine.f k bt549.1 bt549.2.1 bt549.2.2.1).bind fun t559 => ((petrinetref13_StateMachine.f k bt549.1 bt549.2.1 bt549.2.2.1).bind fun t560 => (if (t559 == t560) = true then ((netclass_MarkedGraph.f k bt549.1 bt549.2.1 bt549.2.2.1).bind fun t561 => ((petrinetref13_MarkedGraph.f k bt549.1 bt549.2.1 bt549.2.2.1).bind fun t562 => (if (t561 == t562) = true then ((netclass_FreeChoice.f k bt549.1 bt549.2.1 bt549.2.2.1).bind fun t563 => ((petrinetref13_FreeChoice.f k bt549.1 bt549.2.1 bt549.2.2.1).bind fun t564 => (if (t563 == t564) = true then ((netclass_Asymmetric.f k bt549.1 bt549.2.1 bt549.2.2.1).bind fun t565 => ((petrinetref13_Asymmetric.f k bt549.1 bt549.2.1 bt549.2.2.1).bind fun t566 => (if (t565 == t566) = true then ((netclass_Pure.f k bt549.1 bt549.2.1 bt549.2.2.1).bind fun t567 => ((petrinetref13_Pure.f k bt549.1 bt549.2.1 bt549.2.2.1).bind fun t568 => (if (t567 == t568) = true then ((petrinetlaw13_alive.f k).bind fun t569 => (some t569)) else (none)))) else (none)))) else (none)))) else (none)))) else (none)))) else ((petrinetlaw13_alive.f k).bind fun t558 => (some t558)))) = some r := h
 clear h
 replace H := bnd H
 obtain ⟨⟨t549, t550, t553, t556⟩, A2, H⟩ := H
 (try dsimp only at H)
 by_cases c3 : t556 = true
 rotate_left
 · replace c3 := Bool.eq_false_iff.mpr c3
   subst c3
   rw [if_neg Bool.false_ne_true] at H
   replace H := bnd H
   obtain ⟨t558, A41, H⟩ := H
   (try dsimp only at H)
   obtain rfl := Option.some.inj H
   go_enter Try.func4, Try.ntmps4
   go_wp2_with (first | ((with_reducible refine gate_dst (N := 1) rfl ?_); refine box_ev (N := 1) (cs := #[.string a0_0, .slice A0_1 l0_1.length c0_1, .slice A0_2 l0_2.length c0_2]) (t := 25) ?_; intro gb548 hg w42 hbox hb; have BK548 := am hbox; have GW548 := gwl hg; have GE548 := GW548; replace HB := bsl hb; clear hb hbox hg; obtain ⟨hcz43_0, hcz43_1, hcz43_2, hfz43_0, hfz43_1, hfz43_2⟩ := cf3 BK548.1) | ((with_reducible refine gate_callee (f := 9) rfl ?_); refine goesL_ (some 7) rfl rfl Try.func9 (by kernel_rfl) rfl #[.agg #[.string a0_0, .slice A0_1 l0_1.length c0_1, .slice A0_2 l0_2.length c0_2]] rfl pgz ?_; (with_reducible refine (petrinetref09_Small.calls k a0_0 (fun k_ => k_ < w.heap.size) _ _ l0_1 (fun k_ => k_ < w.heap.size) _ _ l0_2 t549 t550 t553 false _ ?side1 ?side2 A2.1).mono ?_); (case side1 => exact Kd.V_mk HC0_1.1 (Kd.F_below (Kd.C_F k46_heap HR0_1.1) pbg)); (case side2 => exact Kd.V_mk HC0_2.1 (Kd.F_below (Kd.C_F k41_heap HR0_2.1) pbg)); rintro e w44 ⟨v551, v554, rfl, ho0, ho1, hb⟩; refine ⟨_, rfl, ?_⟩; have HO552 := am (Kd.V_lower (Kd.V_mono (ok' := fun k_ => k_ ≠ gb548) ho0 (fun k_ hk_ => Or.elim hk_ (fun hs_ => Or.elim hs_ (fun hs_ => fun e_ => Nat.not_le.2 hs_ (by rw [e_]; exact GW548.1)) (fun hs_ => fun e_ => Nat.not_le.2 hs_ (by rw [e_]; exact GW548.1))) (fun hn_ => (Kd.freshB (g := gb548) (o := .cells #[.string a0_0, .slice A0_1 l0_1.length c0_1, .slice A0_2 l0_2.length c0_2] 25 (0, 0)) (by exact pbk BK548.1) k_ hn_)))) (below_size pbg)); have HO555 := am (Kd.V_lower (Kd.V_mono (ok' := fun k_ => k_ ≠ gb548) ho1 (fun k_ hk_ => Or.elim hk_ (fun hs_ => Or.elim hs_ (fun hs_ => fun e_ => Nat.not_le.2 hs_ (by rw [e_]; exact GW548.1)) (fun hs_ => fun e_ => Nat.not_le.2 hs_ (by rw [e_]; exact GW548.1))) (fun hn_ => (Kd.freshB (g := gb548) (o := .cells #[.string a0_0, .slice A0_1 l0_1.length c0_1, .slice A0_2 l0_2.length c0_2] 25 (0, 0)) (by exact pbk BK548.1) k_ hn_)))) (below_size pbg)); replace BK548 := bbh BK548 hb; replace HB := bst hb; (try clear hb); (try clear hb2); (try clear hk); (try clear hi); (try clear ho0); (try clear ho1)) | ((with_reducible refine gate_dst (N := 3) rfl ?_); refine box_ev (N := 3) (cs := #[.string (⟨#[]⟩ : ByteArray), .slice none 0 0, .slice none 0 0]) (t := 25) ?_; intro gb557 hg w45 hbox hb; have BK557 := am hbox; have GW557 := gwb hg; have GE557 := GW557; have NB548_557 := nlt hg BK548; have NB557_548 := ngt hg BK548; replace HO552 := vbb HO552 hg hb; replace HO555 := vbb HO555 hg hb; replace BK548 := bbh BK548 hb; replace HB := bst hb; clear hb hbox hg; have hnb46 := NB557_548.1; have hnc46 := NB548_557.1; obtain ⟨hcz47_0, hcz47_1, hcz47_2, hfz47_0, hfz47_1, hfz47_2⟩ := cf3 BK557.1; obtain ⟨Ao48, co48, eo48⟩ := Kd.V_slice HO552.1; subst eo48; obtain ⟨Ao49, co49, eo49⟩ := Kd.V_slice HO555.1; subst eo49) | ((with_reducible refine gate_callee (f := 10) rfl ?_); refine goesL_ (some 12) rfl rfl Try.func10 (by kernel_rfl) rfl #[] rfl pgz ?_; (with_reducible refine (petrinetlaw13_alive.calls k  t558 _ A41.1).mono ?_); rintro e w50 ⟨rfl, hb⟩; refine ⟨_, rfl, ?_⟩; replace HO552 := am (Kd.V_below (by (with_reducible repeat (first | apply Kd.V_alloc | apply Kd.V_drewN | apply Kd.V_drew)); exact (Kd.V_mono (Kd.V_far (p := ⟨gb557, 2, none⟩) (Kd.V_far (p := ⟨gb557, 1, none⟩) (Kd.V_far (p := ⟨gb557, 0, none⟩) (Kd.V_mono HO552.1 (fun k_ hk => (⟨hk, hk.2⟩ : _ ∧ k_ ≠ gb557))) (fun _ hk => hk.2) (.string t549)) (fun _ hk => hk.2) (.slice Ao48 t550.length co48)) (fun _ hk => hk.2) (.slice Ao49 t553.length co49)) (fun _ h_ => h_.1))) hb); replace HO555 := am (Kd.V_below (by (with_reducible repeat (first | apply Kd.V_alloc | apply Kd.V_drewN | apply Kd.V_drew)); exact (Kd.V_mono (Kd.V_far (p := ⟨gb557, 2, none⟩) (Kd.V_far (p := ⟨gb557, 1, none⟩) (Kd.V_far (p := ⟨gb557, 0, none⟩) (Kd.V_mono HO555.1 (fun k_ hk => (⟨hk, hk.2⟩ : _ ∧ k_ ≠ gb557))) (fun _ hk => hk.2) (.string t549)) (fun _ hk => hk.2) (.slice Ao48 t550.length co48)) (fun _ hk => hk.2) (.slice Ao49 t553.length co49)) (fun _ h_ => h_.1))) hb); replace BK548 := am (blk_below (g := gb548) (o := .cells #[.string a0_0, .slice A0_1 l0_1.length c0_1, .slice A0_2 l0_2.length c0_2] 25 (0, 0)) (by (with_reducible repeat (first | refine blk_drewN ?_ _ | refine blk_drew ?_ | refine blk_alloc ?_ _)); refine bf3 ?_ NB548_557.1; exact pbk BK548.1) hb); replace BK557 := am (blk_below (g := gb557) (o := .cells #[.string t549, .slice Ao48 t550.length co48, .slice Ao49 t553.length co49] 25 (0, 0)) (by (with_reducible repeat (first | refine blk_drewN ?_ _ | refine blk_drew ?_ | refine blk_alloc ?_ _)); refine blk_put (cs := #[.string t549, .slice Ao48 t550.length co48, .slice none 0 0]) ?_ 2 _ rfl; (with_reducible repeat (first | refine blk_drewN ?_ _ | refine blk_drew ?_ | refine blk_alloc ?_ _)); refine blk_put (cs := #[.string t549, .slice none 0 0, .slice none 0 0]) ?_ 1 _ rfl; (with_reducible repeat (first | refine blk_drewN ?_ _ | refine blk_drew ?_ | refine blk_alloc ?_ _)); refine blk_put (cs := #[.string (⟨#[]⟩ : ByteArray), .slice none 0 0, .slice none 0 0]) ?_ 0 _ rfl; exact pbk BK557.1) hb); replace HB := bst hb; (try clear hb); (try clear hb2); (try clear hk); (try clear hi)))
   go_ret
   exact ⟨per, pbg⟩
 subst c3
 rw [if_pos rfl] at H
 replace H := bnd H
 obtain ⟨t559, A4, H⟩ := H
 (try dsimp only at H)
 replace H := bnd H
 obtain ⟨t560, A5, H⟩ := H
 (try dsimp only at H)
 replace H := ifp H
 obtain ⟨c6, H⟩ := H
 have c6b0 := c6
 (try (have c6b1 : decide (t559 = t560) = true := by simpa using c6))
 (try (have c6b2 : (t559 == t560) = true := by simpa using c6))
 clear c6
 replace H := bnd H
 obtain ⟨t561, A7, H⟩ := H
 (try dsimp only at H)
 replace H := bnd H
 obtain ⟨t562, A8, H⟩ := H
 (try dsimp only at H)
 replace H := ifp H
 obtain ⟨c9, H⟩ := H
 have c9b0 := c9
 (try (have c9b1 : decide (t561 = t562) = true := by simpa using c9))
 (try (have c9b2 : (t561 == t562) = true := by simpa using c9))
 clear c9
 replace H := bnd H
 obtain ⟨t563, A10, H⟩ := H
 (try dsimp only at H)
 replace H := bnd H
 obtain ⟨t564, A11, H⟩ := H
 (try dsimp only at H)
 replace H := ifp H
 obtain ⟨c12, H⟩ := H
 have c12b0 := c12
 (try (have c12b1 : decide (t563 = t564) = true := by simpa using c12))
 (try (have c12b2 : (t563 == t564) = true := by simpa using c12))
 clear c12
 replace H := bnd H
 obtain ⟨t565, A13, H⟩ := H
 (try dsimp only at H)
 replace H := bnd H
 obtain ⟨t566, A14, H⟩ := H
 (try dsimp only at H)
 replace H := ifp H
 obtain ⟨c15, H⟩ := H
 have c15b0 := c15
 (try (have c15b1 : decide (t565 = t566) = true := by simpa using c15))
 (try (have c15b2 : (t565 == t566) = true := by simpa using c15))
 clear c15
 replace H := bnd H
 obtain ⟨t567, A16, H⟩ := H
 (try dsimp only at H)
 replace H := bnd H
 obtain ⟨t568, A17, H⟩ := H
 (try dsimp only at H)
 replace H := ifp H
 obtain ⟨c18, H⟩ := H
 have c18b0 := c18
 (try (have c18b1 : decide (t567 = t568) = true := by simpa using c18))
 (try (have c18b2 : (t567 == t568) = true := by simpa using c18))
 clear c18
 replace H := bnd H
 obtain ⟨t569, A19, H⟩ := H
 (try dsimp only at H)
 obtain rfl := Option.some.inj H
 go_enter Try.func4, Try.ntmps4
 try go_wp2_with (first | ((with_reducible refine gate_dst (N := 1) rfl ?_); refine box_ev (N := 1) (cs := #[.string a0_0, .slice A0_1 l0_1.length c0_1, .slice A0_2 l0_2.length c0_2]) (t := 25) ?_; intro gb548 hg w20 hbox hb; have BK548 := am hbox; have GW548 := gwl hg; have GE548 := GW548; replace HB := bsl hb; clear hb hbox hg; obtain ⟨hcz21_0, hcz21_1, hcz21_2, hfz21_0, hfz21_1, hfz21_2⟩ := cf3 BK548.1) | ((with_reducible refine gate_callee (f := 9) rfl ?_); refine goesL_ (some 7) rfl rfl Try.func9 (by kernel_rfl) rfl #[.agg #[.string a0_0, .slice A0_1 l0_1.length c0_1, .slice A0_2 l0_2.length c0_2]] rfl pgz ?_; (with_reducible refine (petrinetref09_Small.calls k a0_0 (fun k_ => k_ < w.heap.size) _ _ l0_1 (fun k_ => k_ < w.heap.size) _ _ l0_2 t549 t550 t553 true _ ?side1 ?side2 A2.1).mono ?_); (case side1 => exact Kd.V_mk HC0_1.1 (Kd.F_below (Kd.C_F k46_heap HR0_1.1) pbg)); (case side2 => exact Kd.V_mk HC0_2.1 (Kd.F_below (Kd.C_F k41_heap HR0_2.1) pbg)); rintro e w22 ⟨v551, v554, rfl, ho0, ho1, hb⟩; refine ⟨_, rfl, ?_⟩; have HO552 := am (Kd.V_lower (Kd.V_mono (ok' := fun k_ => k_ ≠ gb548) ho0 (fun k_ hk_ => Or.elim hk_ (fun hs_ => Or.elim hs_ (fun hs_ => fun e_ => Nat.not_le.2 hs_ (by rw [e_]; exact GW548.1)) (fun hs_ => fun e_ => Nat.not_le.2 hs_ (by rw [e_]; exact GW548.1))) (fun hn_ => (Kd.freshB (g := gb548) (o := .cells #[.string a0_0, .slice A0_1 l0_1.length c0_1, .slice A0_2 l0_2.length c0_2] 25 (0, 0)) (by exact pbk BK548.1) k_ hn_)))) (below_size pbg)); have HO555 := am (Kd.V_lower (Kd.V_mono (ok' := fun k_ => k_ ≠ gb548) ho1 (fun k_ hk_ => Or.elim hk_ (fun hs_ => Or.elim hs_ (fun hs_ => fun e_ => Nat.not_le.2 hs_ (by rw [e_]; exact GW548.1)) (fun hs_ => fun e_ => Nat.not_le.2 hs_ (by rw [e_]; exact GW548.1))) (fun hn_ => (Kd.freshB (g := gb548) (o := .cells #[.string a0_0, .slice A0_1 l0_1.length c0_1, .slice A0_2 l0_2.length c0_2] 25 (0, 0)) (by exact pbk BK548.1) k_ hn_)))) (below_size pbg)); replace BK548 := bbh BK548 hb; replace HB := bst hb; (try clear hb); (try clear hb2); (try clear hk); (try clear hi); (try clear ho0); (try clear ho1)) | ((with_reducible refine gate_dst (N := 3) rfl ?_); refine box_ev (N := 3) (cs := #[.string (⟨#[]⟩ : ByteArray), .slice none 0 0, .slice none 0 0]) (t := 25) ?_; intro gb557 hg w23 hbox hb; have BK557 := am hbox; have GW557 := gwb hg; have GE557 := GW557; have NB548_557 := nlt hg BK548; have NB557_548 := ngt hg BK548; replace HO552 := vbb HO552 hg hb; replace HO555 := vbb HO555 hg hb; replace BK548 := bbh BK548 hb; replace HB := bst hb; clear hb hbox hg; have hnb24 := NB557_548.1; have hnc24 := NB548_557.1; obtain ⟨hcz25_0, hcz25_1, hcz25_2, hfz25_0, hfz25_1, hfz25_2⟩ := cf3 BK557.1; obtain ⟨Ao26, co26, eo26⟩ := Kd.V_slice HO552.1; subst eo26; obtain ⟨Ao27, co27, eo27⟩ := Kd.V_slice HO555.1; subst eo27))
 have n0_ : Aside0 (Kd.V k46 46 (((w23.setCell ⟨gb557, 0, none⟩ (.string t549)).setCell ⟨gb557, 1, none⟩ (.slice Ao26 t550.length co26)).setCell ⟨gb557, 2, none⟩ (.slice Ao27 t553.length co27)) w.heap.size (fun k_ => k_ ≠ gb548 ∧ k_ ≠ gb557) (.slice Ao26 t550.length co26) t550) := ⟨by (with_reducible repeat (first | apply Kd.V_alloc | apply Kd.V_drewN | apply Kd.V_drew)); exact Kd.V_mono (Kd.V_far (p := ⟨gb557, 2, none⟩) (Kd.V_far (p := ⟨gb557, 1, none⟩) (Kd.V_far (p := ⟨gb557, 0, none⟩) (Kd.V_mono HO552.1 (fun k_ hk => (⟨hk, hk.2⟩ : _ ∧ k_ ≠ gb557))) (fun _ hk => hk.2) (.string t549)) (fun _ hk => hk.2) (.slice Ao26 t550.length co26)) (fun _ hk => hk.2) (.slice Ao27 t553.length co27)) (fun _ hk => ⟨hk.1.1, hk.1.2⟩)⟩
 have n1_ : Aside0 (Kd.V k41 41 (((w23.setCell ⟨gb557, 0, none⟩ (.string t549)).setCell ⟨gb557, 1, none⟩ (.slice Ao26 t550.length co26)).setCell ⟨gb557, 2, none⟩ (.slice Ao27 t553.length co27)) w.heap.size (fun k_ => k_ ≠ gb548 ∧ k_ ≠ gb557) (.slice Ao27 t553.length co27) t553) := ⟨by (with_reducible repeat (first | apply Kd.V_alloc | apply Kd.V_drewN | apply Kd.V_drew)); exact Kd.V_mono (Kd.V_far (p := ⟨gb557, 2, none⟩) (Kd.V_far (p := ⟨gb557, 1, none⟩) (Kd.V_far (p := ⟨gb557, 0, none⟩) (Kd.V_mono HO555.1 (fun k_ hk => (⟨hk, hk.2⟩ : _ ∧ k_ ≠ gb557))) (fun _ hk => hk.2) (.string t549)) (fun _ hk => hk.2) (.slice Ao26 t550.length co26)) (fun _ hk => hk.2) (.slice Ao27 t553.length co27)) (fun _ hk => ⟨hk.1.1, hk.1.2⟩)⟩
 have n2_ : Aside0 ((((w23.setCell ⟨gb557, 0, none⟩ (.string t549)).setCell ⟨gb557, 1, none⟩ (.slice Ao26 t550.length co26)).setCell ⟨gb557, 2, none⟩ (.slice Ao27 t553.length co27)).heap[gb548]? = some (.cells #[.string a0_0, .slice A0_1 l0_1.length c0_1, .slice A0_2 l0_2.length c0_2] 25 (0, 0))) := ⟨by (with_reducible repeat (first | refine blk_drewN ?_ _ | refine blk_drew ?_ | refine blk_alloc ?_ _)); refine bf3 ?_ NB548_557.1; exact pbk BK548.1⟩
 have n3_ : Aside0 ((((w23.setCell ⟨gb557, 0, none⟩ (.string t549)).setCell ⟨gb557, 1, none⟩ (.slice Ao26 t550.length co26)).setCell ⟨gb557, 2, none⟩ (.slice Ao27 t553.length co27)).heap[gb557]? = some (.cells #[.string t549, .slice Ao26 t550.length co26, .slice Ao27 t553.length co27] 25 (0, 0))) := ⟨by (with_reducible repeat (first | refine blk_drewN ?_ _ | refine blk_drew ?_ | refine blk_alloc ?_ _)); refine blk_put (cs := #[.string t549, .slice Ao26 t550.length co26, .slice none 0 0]) ?_ 2 _ rfl; (with_reducible repeat (first | refine blk_drewN ?_ _ | refine blk_drew ?_ | refine blk_alloc ?_ _)); refine blk_put (cs := #[.string t549, .slice none 0 0, .slice none 0 0]) ?_ 1 _ rfl; (with_reducible repeat (first | refine blk_drewN ?_ _ | refine blk_drew ?_ | refine blk_alloc ?_ _)); refine blk_put (cs := #[.string (⟨#[]⟩ : ByteArray), .slice none 0 0, .slice none 0 0]) ?_ 0 _ rfl; exact pbk BK557.1⟩
 have n4_ : Aside0 (Below w.heap.size w (((w23.setCell ⟨gb557, 0, none⟩ (.string t549)).setCell ⟨gb557, 1, none⟩ (.slice Ao26 t550.length co26)).setCell ⟨gb557, 2, none⟩ (.slice Ao27 t553.length co27))) := ⟨pbg⟩
 (try clear HO552)
 (try clear HO555)
 (try clear BK548)
 (try clear BK557)
 (try clear HB)
 generalize (((w23.setCell ⟨gb557, 0, none⟩ (.string t549)).setCell ⟨gb557, 1, none⟩ (.slice Ao26 t550.length co26)).setCell ⟨gb557, 2, none⟩ (.slice Ao27 t553.length co27)) = w28 at n0_ n1_ n2_ n3_ n4_ ⊢
 have HO552 := n0_
 have HO555 := n1_
 have BK548 := n2_
 have BK557 := n3_
 have HB := n4_
 clear n0_ n1_ n2_ n3_ n4_
 replace HO552 := am (Kd.V_drew HO552.1)
 replace HO555 := am (Kd.V_drew HO555.1)
 replace BK548 := am (blk_drew BK548.1)
 replace BK557 := am (blk_drew BK557.1)
 replace HB := am (below_drew1 HB.1)
 refine start_ (n := 37) (S := fun w' => w'.cell? ⟨gb557, 0, none⟩ = some (.string t549) ∧ w'.cell? ⟨gb557, 1, none⟩ = some (.slice Ao26 t550.length co26) ∧ w'.cell? ⟨gb557, 2, none⟩ = some (.slice Ao27 t553.length co27)) (ds := []) #[false, false, false, false, false, false, false, false, false, false, false, false, false, false, false, false, false, false, false, false, false, false, false, false, false, false, false, false, false, false, false, false, false, false, false, false, false] (by kernel_rfl) rfl rfl ⟨(blk_cell BK557.1 0).trans rfl, (blk_cell BK557.1 1).trans rfl, (blk_cell BK557.1 2).trans rfl⟩ (fun hHeld => ?_); refine with_tabW petrinetlaw13_NetclassKinds.tab4 petrinetlaw13_NetclassKinds.bits4 (fun HT_ HW_ => ?_)
 generalize w28.drew = w29 at HO552 HO555 BK548 BK557 HB hHeld ⊢
 refine take_ (i := 0) (N := some 13) (v := ?_) (a' := ?_) #[true, false, false, false, false, false, false, false, false, false, false, false, false, false, false, false, false, false, false, false, false, false, false, false, false, false, false, false, false, false, false, false, false, false, false, false, false] rfl rfl (take_ofW HT_.1 HW_.1 (by kernel_rfl)) (fun _ _ _ h => h) (Or.inl ⟨by rfl, ?_⟩) hHeld ?_ ?_
 rotate_left
 · rintro w' ⟨s0, s1, s2⟩
   go_simp
   with_reducible rfl
 rotate_left
 · simp only [Act.put, List.setIfInBounds_toArray, List.set_cons_zero, List.set_cons_succ, i64_w, i32_w]
   rfl
 refine take_ (i := 2) (N := some 15) (v := ?_) (a' := ?_) #[true, false, true, false, false, false, false, false, false, false, false, false, false, false, false, false, false, false, false, false, false, false, false, false, false, false, false, false, false, false, false, false, false, false, false, false, false] rfl rfl (take_ofW HT_.1 HW_.1 (by kernel_rfl)) (fun _ _ _ h => h) (Or.inl ⟨by rfl, ?_⟩) hHeld ?_ ?_
 rotate_left
 · rintro w' ⟨s0, s1, s2⟩
   go_simp
   with_reducible rfl
 rotate_left
 · simp only [Act.put, List.setIfInBounds_toArray, List.set_cons_zero, List.set_cons_succ, i64_w, i32_w]
   rfl
 refine one_ (i := 1) (N := some 14) #[true, true, true, false, false, false, false, false, false, false, false, false, false, false, false, false, false, false, false, false, false, false, false, false, false, false, false, false, false, false, false, false, false, false, false, false, false] rfl rfl (one_of HT_.1 (by kernel_rfl)) (by decide) (fun K hK => ?_)
 refine goes_ Try.func18 (by kernel_rfl) rfl #[.agg #[.string t549, .slice Ao26 t550.length co26, .slice Ao27 t553.length co27]] (by rfl) rfl rfl pgz ?_
 with_reducible refine (netclass_StateMachine.calls k t549 _ _ t550 _ _ t553 t559 _ ?side1 ?side2 ?side3 ?side4 A4.1).mono ?_
 (case side1 => exact csd ((Kd.V_reads' HO552.1).2.2))
 (case side2 => exact (Kd.V_reads' HO552.1).2.1)
 (case side3 => exact csd ((Kd.V_reads' HO555.1).2.2))
 (case side4 => exact (Kd.V_reads' HO555.1).2.1)
 rintro e w30 ⟨rfl, hb⟩
 refine ⟨_, rfl, ?_⟩
 replace HO552 := vbw HO552 hb
 replace HO555 := vbw HO555 hb
 replace BK548 := bbh BK548 hb
 replace BK557 := bbh BK557 hb
 replace HB := bst hb
 (try clear hb)
 (try clear hb2)
 (try clear hk)
 (try clear hi)
 refine hK.out _ _ ⟨(blk_cell BK557.1 0).trans rfl, (blk_cell BK557.1 1).trans rfl, (blk_cell BK557.1 2).trans rfl⟩ (fun hHeld => ?_)
 clear hK K
 refine norm_ (a' := ?_) ?_ ?_
 rotate_left
 · show Act.put _ (some 14) _ = _
   simp only [Act.put, List.setIfInBounds_toArray, List.set_cons_zero, List.set_cons_succ, i64_w, i32_w]
   rfl
 refine one_ (i := 3) (N := some 16) #[true, true, true, true, false, false, false, false, false, false, false, false, false, false, false, false, false, false, false, false, false, false, false, false, false, false, false, false, false, false, false, false, false, false, false, false, false] rfl rfl (one_of HT_.1 (by kernel_rfl)) (by decide) (fun K hK => ?_)
 refine goes_ Try.func19 (by kernel_rfl) rfl #[.agg #[.string t549, .slice Ao26 t550.length co26, .slice Ao27 t553.length co27]] (by rfl) rfl rfl pgz ?_
 with_reducible refine (petrinetref13_StateMachine.calls k t549 _ _ t550 _ _ t553 t560 _ ?side1 ?side2 ?side3 ?side4 A5.1).mono ?_
 (case side1 => exact csd ((Kd.V_reads' HO552.1).2.2))
 (case side2 => exact (Kd.V_reads' HO552.1).2.1)
 (case side3 => exact csd ((Kd.V_reads' HO555.1).2.2))
 (case side4 => exact (Kd.V_reads' HO555.1).2.1)
 rintro e w31 ⟨rfl, hb⟩
 refine ⟨_, rfl, ?_⟩
 replace HO552 := vbw HO552 hb
 replace HO555 := vbw HO555 hb
 replace BK548 := bbh BK548 hb
 replace BK557 := bbh BK557 hb
 replace HB := bst hb
 (try clear hb)
 (try clear hb2)
 (try clear hk)
 (try clear hi)
 refine hK.out _ _ ⟨(blk_cell BK557.1 0).trans rfl, (blk_cell BK557.1 1).trans rfl, (blk_cell BK557.1 2).trans rfl⟩ (fun hHeld => ?_)
 clear hK K
 refine norm_ (a' := ?_) ?_ ?_
 rotate_left
 · show Act.put _ (some 16) _ = _
   simp only [Act.put, List.setIfInBounds_toArray, List.set_cons_zero, List.set_cons_succ, i64_w, i32_w]
   rfl
 refine pure_ (i := 4) (N := some 17) (v := ?_) (a' := ?_) #[true, true, true, true, true, false, false, false, false, false, false, false, false, false, false, false, false, false, false, false, false, false, false, false, false, false, false, false, false, false, false, false, false, false, false, false, false] rfl rfl (any_of HT_.1 (by kernel_rfl)) (fun _ _ _ h => h) (Or.inl ⟨by rfl, ?_⟩) ?_ ?_
 rotate_left
 · intro w'
   go_simp
   with_reducible rfl
 rotate_left
 · simp only [Act.put, List.setIfInBounds_toArray, List.set_cons_zero, List.set_cons_succ, i64_w, i32_w]
   rfl
 refine pure_ (i := 5) (N := some 18) (v := ?_) (a' := ?_) #[true, true, true, true, true, true, false, false, false, false, false, false, false, false, false, false, false, false, false, false, false, false, false, false, false, false, false, false, false, false, false, false, false, false, false, false, false] rfl rfl (any_of HT_.1 (by kernel_rfl)) (fun _ _ _ h => h) (Or.inl ⟨by rfl, ?_⟩) ?_ ?_
 rotate_left
 · intro w'
   go_simp
   with_reducible rfl
 rotate_left
 · simp only [Act.put, List.setIfInBounds_toArray, List.set_cons_zero, List.set_cons_succ, i64_w, i32_w]
   rfl
 refine take_ (i := 6) (N := some 19) (v := ?_) (a' := ?_) #[true, true, true, true, true, true, true, false, false, false, false, false, false, false, false, false, false, false, false, false, false, false, false, false, false, false, false, false, false, false, false, false, false, false, false, false, false] rfl rfl (take_ofW HT_.1 HW_.1 (by kernel_rfl)) (fun _ _ _ h => h) (Or.inl ⟨by rfl, ?_⟩) hHeld ?_ ?_
 rotate_left
 · rintro w' ⟨s0, s1, s2⟩
   go_simp
   with_reducible rfl
 rotate_left
 · simp only [Act.put, List.setIfInBounds_toArray, List.set_cons_zero, List.set_cons_succ, i64_w, i32_w]
   rfl
 refine take_ (i := 8) (N := some 21) (v := ?_) (a' := ?_) #[true, true, true, true, true, true, true, false, true, false, false, false, false, false, false, false, false, false, false, false, false, false, false, false, false, false, false, false, false, false, false, false, false, false, false, false, false] rfl rfl (take_ofW HT_.1 HW_.1 (by kernel_rfl)) (fun _ _ _ h => h) (Or.inl ⟨by rfl, ?_⟩) hHeld ?_ ?_
 rotate_left
 · rintro w' ⟨s0, s1, s2⟩
   go_simp
   with_reducible rfl
 rotate_left
 · simp only [Act.put, List.setIfInBounds_toArray, List.set_cons_zero, List.set_cons_succ, i64_w, i32_w]
   rfl
 refine one_ (i := 7) (N := some 20) #[true, true, true, true, true, true, true, true, true, false, false, false, false, false, false, false, false, false, false, false, false, false, false, false, false, false, false, false, false, false, false, false, false, false, false, false, false] rfl rfl (one_of HT_.1 (by kernel_rfl)) (by decide) (fun K hK => ?_)
 refine goes_ Try.func20 (by kernel_rfl) rfl #[.agg #[.string t549, .slice Ao26 t550.length co26, .slice Ao27 t553.length co27]] (by rfl) rfl rfl pgz ?_
 with_reducible refine (netclass_MarkedGraph.calls k t549 _ _ t550 _ _ t553 t561 _ ?side1 ?side2 ?side3 ?side4 A7.1).mono ?_
 (case side1 => exact csd ((Kd.V_reads' HO552.1).2.2))
 (case side2 => exact (Kd.V_reads' HO552.1).2.1)
 (case side3 => exact csd ((Kd.V_reads' HO555.1).2.2))
 (case side4 => exact (Kd.V_reads' HO555.1).2.1)
 rintro e w32 ⟨rfl, hb⟩
 refine ⟨_, rfl, ?_⟩
 replace HO552 := vbw HO552 hb
 replace HO555 := vbw HO555 hb
 replace BK548 := bbh BK548 hb
 replace BK557 := bbh BK557 hb
 replace HB := bst hb
 (try clear hb)
 (try clear hb2)
 (try clear hk)
 (try clear hi)
 refine hK.out _ _ ⟨(blk_cell BK557.1 0).trans rfl, (blk_cell BK557.1 1).trans rfl, (blk_cell BK557.1 2).trans rfl⟩ (fun hHeld => ?_)
 clear hK K
 refine norm_ (a' := ?_) ?_ ?_
 rotate_left
 · show Act.put _ (some 20) _ = _
   simp only [Act.put, List.setIfInBounds_toArray, List.set_cons_zero, List.set_cons_succ, i64_w, i32_w]
   rfl
 refine one_ (i := 9) (N := some 22) #[true, true, true, true, true, true, true, true, true, true, false, false, false, false, false, false, false, false, false, false, false, false, false, false, false, false, false, false, false, false, false, false, false, false, false, false, false] rfl rfl (one_of HT_.1 (by kernel_rfl)) (by decide) (fun K hK => ?_)
 refine goes_ Try.func21 (by kernel_rfl) rfl #[.agg #[.string t549, .slice Ao26 t550.length co26, .slice Ao27 t553.length co27]] (by rfl) rfl rfl pgz ?_
 with_reducible refine (petrinetref13_MarkedGraph.calls k t549 _ _ t550 _ _ t553 t562 _ ?side1 ?side2 ?side3 ?side4 A8.1).mono ?_
 (case side1 => exact csd ((Kd.V_reads' HO552.1).2.2))
 (case side2 => exact (Kd.V_reads' HO552.1).2.1)
 (case side3 => exact csd ((Kd.V_reads' HO555.1).2.2))
 (case side4 => exact (Kd.V_reads' HO555.1).2.1)
 rintro e w33 ⟨rfl, hb⟩
 refine ⟨_, rfl, ?_⟩
 replace HO552 := vbw HO552 hb
 replace HO555 := vbw HO555 hb
 replace BK548 := bbh BK548 hb
 replace BK557 := bbh BK557 hb
 replace HB := bst hb
 (try clear hb)
 (try clear hb2)
 (try clear hk)
 (try clear hi)
 refine hK.out _ _ ⟨(blk_cell BK557.1 0).trans rfl, (blk_cell BK557.1 1).trans rfl, (blk_cell BK557.1 2).trans rfl⟩ (fun hHeld => ?_)
 clear hK K
 refine norm_ (a' := ?_) ?_ ?_
 rotate_left
 · show Act.put _ (some 22) _ = _
   simp only [Act.put, List.setIfInBounds_toArray, List.set_cons_zero, List.set_cons_succ, i64_w, i32_w]
   rfl
 refine pure_ (i := 10) (N := some 23) (v := ?_) (a' := ?_) #[true, true, true, true, true, true, true, true, true, true, true, false, false, false, false, false, false, false, false, false, false, false, false, false, false, false, false, false, false, false, false, false, false, false, false, false, false] rfl rfl (any_of HT_.1 (by kernel_rfl)) (fun _ _ _ h => h) (Or.inl ⟨by rfl, ?_⟩) ?_ ?_
 rotate_left
 · intro w'
   go_simp
   with_reducible rfl
 rotate_left
 · simp only [Act.put, List.setIfInBounds_toArray, List.set_cons_zero, List.set_cons_succ, i64_w, i32_w]
   rfl
 refine pure_ (i := 11) (N := some 24) (v := ?_) (a' := ?_) #[true, true, true, true, true, true, true, true, true, true, true, true, false, false, false, false, false, false, false, false, false, false, false, false, false, false, false, false, false, false, false, false, false, false, false, false, false] rfl rfl (any_of HT_.1 (by kernel_rfl)) (fun _ _ _ h => h) (Or.inl ⟨by rfl, ?_⟩) ?_ ?_
 rotate_left
 · intro w'
   go_simp
   with_reducible rfl
 rotate_left
 · simp only [Act.put, List.setIfInBounds_toArray, List.set_cons_zero, List.set_cons_succ, i64_w, i32_w]
   rfl
 refine pure_ (i := 12) (N := some 25) (v := ?_) (a' := ?_) #[true, true, true, true, true, true, true, true, true, true, true, true, true, false, false, false, false, false, false, false, false, false, false, false, false, false, false, false, false, false, false, false, false, false, false, false, false] rfl rfl (any_of HT_.1 (by kernel_rfl)) (fun _ _ _ h => h) (Or.inl ⟨by rfl, ?_⟩) ?_ ?_
 rotate_left
 · intro w'
   go_simp
   with_reducible rfl
 rotate_left
 · simp only [Act.put, List.setIfInBounds_toArray, List.set_cons_zero, List.set_cons_succ, i64_w, i32_w]
   rfl
 refine take_ (i := 13) (N := some 26) (v := ?_) (a' := ?_) #[true, true, true, true, true, true, true, true, true, true, true, true, true, true, false, false, false, false, false, false, false, false, false, false, false, false, false, false, false, false, false, false, false, false, false, false, false] rfl rfl (take_ofW HT_.1 HW_.1 (by kernel_rfl)) (fun _ _ _ h => h) (Or.inl ⟨by rfl, ?_⟩) hHeld ?_ ?_
 rotate_left
 · rintro w' ⟨s0, s1, s2⟩
   go_simp
   with_reducible rfl
 rotate_left
 · simp only [Act.put, List.setIfInBounds_toArray, List.set_cons_zero, List.set_cons_succ, i64_w, i32_w]
   rfl
 refine take_ (i := 15) (N := some 28) (v := ?_) (a' := ?_) #[true, true, true, true, true, true, true, true, true, true, true, true, true, true, false, true, false, false, false, false, false, false, false, false, false, false, false, false, false, false, false, false, false, false, false, false, false] rfl rfl (take_ofW HT_.1 HW_.1 (by kernel_rfl)) (fun _ _ _ h => h) (Or.inl ⟨by rfl, ?_⟩) hHeld ?_ ?_
 rotate_left
 · rintro w' ⟨s0, s1, s2⟩
   go_simp
   with_reducible rfl
 rotate_left
 · simp only [Act.put, List.setIfInBounds_toArray, List.set_cons_zero, List.set_cons_succ, i64_w, i32_w]
   rfl
 refine one_ (i := 14) (N := some 27) #[true, true, true, true, true, true, true, true, true, true, true, true, true, true, true, true, false, false, false, false, false, false, false, false, false, false, false, false, false, false, false, false, false, false, false, false, false] rfl rfl (one_of HT_.1 (by kernel_rfl)) (by decide) (fun K hK => ?_)
 refine goes_ Try.func22 (by kernel_rfl) rfl #[.agg #[.string t549, .slice Ao26 t550.length co26, .slice Ao27 t553.length co27]] (by rfl) rfl rfl pgz ?_
 with_reducible refine (netclass_FreeChoice.calls k t549 _ _ t550 _ _ t553 t563 _ ?side1 ?side2 ?side3 ?side4 A10.1).mono ?_
 (case side1 => exact csd ((Kd.V_reads' HO552.1).2.2))
 (case side2 => exact (Kd.V_reads' HO552.1).2.1)
 (case side3 => exact csd ((Kd.V_reads' HO555.1).2.2))
 (case side4 => exact (Kd.V_reads' HO555.1).2.1)
 rintro e w34 ⟨rfl, hb⟩
 refine ⟨_, rfl, ?_⟩
 replace HO552 := vbw HO552 hb
 replace HO555 := vbw HO555 hb
 replace BK548 := bbh BK548 hb
 replace BK557 := bbh BK557 hb
 replace HB := bst hb
 (try clear hb)
 (try clear hb2)
 (try clear hk)
 (try clear hi)
 refine hK.out _ _ ⟨(blk_cell BK557.1 0).trans rfl, (blk_cell BK557.1 1).trans rfl, (blk_cell BK557.1 2).trans rfl⟩ (fun hHeld => ?_)
 clear hK K
 refine norm_ (a' := ?_) ?_ ?_
 rotate_left
 · show Act.put _ (some 27) _ = _
   simp only [Act.put, List.setIfInBounds_toArray, List.set_cons_zero, List.set_cons_succ, i64_w, i32_w]
   rfl
 refine one_ (i := 16) (N := some 29) #[true, true, true, true, true, true, true, true, true, true, true, true, true, true, true, true, true, false, false, false, false, false, false, false, false, false, false, false, false, false, false, false, false, false, false, false, false] rfl rfl (one_of HT_.1 (by kernel_rfl)) (by decide) (fun K hK => ?_)
 refine goes_ Try.func23 (by kernel_rfl) rfl #[.agg #[.string t549, .slice Ao26 t550.length co26, .slice Ao27 t553.length co27]] (by rfl) rfl rfl pgz ?_
 with_reducible refine (petrinetref13_FreeChoice.calls k t549 _ _ t550 _ _ t553 t564 _ ?side1 ?side2 ?side3 ?side4 A11.1).mono ?_
 (case side1 => exact csd ((Kd.V_reads' HO552.1).2.2))
 (case side2 => exact (Kd.V_reads' HO552.1).2.1)
 (case side3 => exact csd ((Kd.V_reads' HO555.1).2.2))
 (case side4 => exact (Kd.V_reads' HO555.1).2.1)
 rintro e w35 ⟨rfl, hb⟩
 refine ⟨_, rfl, ?_⟩
 replace HO552 := vbw HO552 hb
 replace HO555 := vbw HO555 hb
 replace BK548 := bbh BK548 hb
 replace BK557 := bbh BK557 hb
 replace HB := bst hb
 (try clear hb)
 (try clear hb2)
 (try clear hk)
 (try clear hi)
 refine hK.out _ _ ⟨(blk_cell BK557.1 0).trans rfl, (blk_cell BK557.1 1).trans rfl, (blk_cell BK557.1 2).trans rfl⟩ (fun hHeld => ?_)
 clear hK K
 refine norm_ (a' := ?_) ?_ ?_
 rotate_left
 · show Act.put _ (some 29) _ = _
   simp only [Act.put, List.setIfInBounds_toArray, List.set_cons_zero, List.set_cons_succ, i64_w, i32_w]
   rfl
 refine pure_ (i := 17) (N := some 30) (v := ?_) (a' := ?_) #[true, true, true, true, true, true, true, true, true, true, true, true, true, true, true, true, true, true, false, false, false, false, false, false, false, false, false, false, false, false, false, false, false, false, false, false, false] rfl rfl (any_of HT_.1 (by kernel_rfl)) (fun _ _ _ h => h) (Or.inl ⟨by rfl, ?_⟩) ?_ ?_
 rotate_left
 · intro w'
   go_simp
   with_reducible rfl
 rotate_left
 · simp only [Act.put, List.setIfInBounds_toArray, List.set_cons_zero, List.set_cons_succ, i64_w, i32_w]
   rfl
 refine pure_ (i := 18) (N := some 31) (v := ?_) (a' := ?_) #[true, true, true, true, true, true, true, true, true, true, true, true, true, true, true, true, true, true, true, false, false, false, false, false, false, false, false, false, false, false, false, false, false, false, false, false, false] rfl rfl (any_of HT_.1 (by kernel_rfl)) (fun _ _ _ h => h) (Or.inl ⟨by rfl, ?_⟩) ?_ ?_
 rotate_left
 · intro w'
   go_simp
   with_reducible rfl
 rotate_left
 · simp only [Act.put, List.setIfInBounds_toArray, List.set_cons_zero, List.set_cons_succ, i64_w, i32_w]
   rfl
 refine pure_ (i := 19) (N := some 32) (v := ?_) (a' := ?_) #[true, true, true, true, true, true, true, true, true, true, true, true, true, true, true, true, true, true, true, true, false, false, false, false, false, false, false, false, false, false, false, false, false, false, false, false, false] rfl rfl (any_of HT_.1 (by kernel_rfl)) (fun _ _ _ h => h) (Or.inl ⟨by rfl, ?_⟩) ?_ ?_
 rotate_left
 · intro w'
   go_simp
   with_reducible rfl
 rotate_left
 · simp only [Act.put, List.setIfInBounds_toArray, List.set_cons_zero, List.set_cons_succ, i64_w, i32_w]
   rfl
 refine take_ (i := 20) (N := some 33) (v := ?_) (a' := ?_) #[true, true, true, true, true, true, true, true, true, true, true, true, true, true, true, true, true, true, true, true, true, false, false, false, false, false, false, false, false, false, false, false, false, false, false, false, false] rfl rfl (take_ofW HT_.1 HW_.1 (by kernel_rfl)) (fun _ _ _ h => h) (Or.inl ⟨by rfl, ?_⟩) hHeld ?_ ?_
 rotate_left
 · rintro w' ⟨s0, s1, s2⟩
   go_simp
   with_reducible rfl
 rotate_left
 · simp only [Act.put, List.setIfInBounds_toArray, List.set_cons_zero, List.set_cons_succ, i64_w, i32_w]
   rfl
 refine take_ (i := 22) (N := some 35) (v := ?_) (a' := ?_) #[true, true, true, true, true, true, true, true, true, true, true, true, true, true, true, true, true, true, true, true, true, false, true, false, false, false, false, false, false, false, false, false, false, false, false, false, false] rfl rfl (take_ofW HT_.1 HW_.1 (by kernel_rfl)) (fun _ _ _ h => h) (Or.inl ⟨by rfl, ?_⟩) hHeld ?_ ?_
 rotate_left
 · rintro w' ⟨s0, s1, s2⟩
   go_simp
   with_reducible rfl
 rotate_left
 · simp only [Act.put, List.setIfInBounds_toArray, List.set_cons_zero, List.set_cons_succ, i64_w, i32_w]
   rfl
 refine one_ (i := 21) (N := some 34) #[true, true, true, true, true, true, true, true, true, true, true, true, true, true, true, true, true, true, true, true, true, true, true, false, false, false, false, false, false, false, false, false, false, false, false, false, false] rfl rfl (one_of HT_.1 (by kernel_rfl)) (by decide) (fun K hK => ?_)
 refine goes_ Try.func24 (by kernel_rfl) rfl #[.agg #[.string t549, .slice Ao26 t550.length co26, .slice Ao27 t553.length co27]] (by rfl) rfl rfl pgz ?_
 with_reducible refine (netclass_Asymmetric.calls k t549 _ _ t550 _ _ t553 t565 _ ?side1 ?side2 ?side3 ?side4 A13.1).mono ?_
 (case side1 => exact csd ((Kd.V_reads' HO552.1).2.2))
 (case side2 => exact (Kd.V_reads' HO552.1).2.1)
 (case side3 => exact csd ((Kd.V_reads' HO555.1).2.2))
 (case side4 => exact (Kd.V_reads' HO555.1).2.1)
 rintro e w36 ⟨rfl, hb⟩
 refine ⟨_, rfl, ?_⟩
 replace HO552 := vbw HO552 hb
 replace HO555 := vbw HO555 hb
 replace BK548 := bbh BK548 hb
 replace BK557 := bbh BK557 hb
 replace HB := bst hb
 (try clear hb)
 (try clear hb2)
 (try clear hk)
 (try clear hi)
 refine hK.out _ _ ⟨(blk_cell BK557.1 0).trans rfl, (blk_cell BK557.1 1).trans rfl, (blk_cell BK557.1 2).trans rfl⟩ (fun hHeld => ?_)
 clear hK K
 refine norm_ (a' := ?_) ?_ ?_
 rotate_left
 · show Act.put _ (some 34) _ = _
   simp only [Act.put, List.setIfInBounds_toArray, List.set_cons_zero, List.set_cons_succ, i64_w, i32_w]
   rfl
 refine one_ (i := 23) (N := some 36) #[true, true, true, true, true, true, true, true, true, true, true, true, true, true, true, true, true, true, true, true, true, true, true, true, false, false, false, false, false, false, false, false, false, false, false, false, false] rfl rfl (one_of HT_.1 (by kernel_rfl)) (by decide) (fun K hK => ?_)
 refine goes_ Try.func25 (by kernel_rfl) rfl #[.agg #[.string t549, .slice Ao26 t550.length co26, .slice Ao27 t553.length co27]] (by rfl) rfl rfl pgz ?_
 with_reducible refine (petrinetref13_Asymmetric.calls k t549 _ _ t550 _ _ t553 t566 _ ?side1 ?side2 ?side3 ?side4 A14.1).mono ?_
 (case side1 => exact csd ((Kd.V_reads' HO552.1).2.2))
 (case side2 => exact (Kd.V_reads' HO552.1).2.1)
 (case side3 => exact csd ((Kd.V_reads' HO555.1).2.2))
 (case side4 => exact (Kd.V_reads' HO555.1).2.1)
 rintro e w37 ⟨rfl, hb⟩
 refine ⟨_, rfl, ?_⟩
 replace HO552 := vbw HO552 hb
 replace HO555 := vbw HO555 hb
 replace BK548 := bbh BK548 hb
 replace BK557 := bbh BK557 hb
 replace HB := bst hb
 (try clear hb)
 (try clear hb2)
 (try clear hk)
 (try clear hi)
 refine hK.out _ _ ⟨(blk_cell BK557.1 0).trans rfl, (blk_cell BK557.1 1).trans rfl, (blk_cell BK557.1 2).trans rfl⟩ (fun hHeld => ?_)
 clear hK K
 refine norm_ (a' := ?_) ?_ ?_
 rotate_left
 · show Act.put _ (some 36) _ = _
   simp only [Act.put, List.setIfInBounds_toArray, List.set_cons_zero, List.set_cons_succ, i64_w, i32_w]
   rfl
 refine pure_ (i := 24) (N := some 37) (v := ?_) (a' := ?_) #[true, true, true, true, true, true, true, true, true, true, true, true, true, true, true, true, true, true, true, true, true, true, true, true, true, false, false, false, false, false, false, false, false, false, false, false, false] rfl rfl (any_of HT_.1 (by kernel_rfl)) (fun _ _ _ h => h) (Or.inl ⟨by rfl, ?_⟩) ?_ ?_
 rotate_left
 · intro w'
   go_simp
   with_reducible rfl
 rotate_left
 · simp only [Act.put, List.setIfInBounds_toArray, List.set_cons_zero, List.set_cons_succ, i64_w, i32_w]
   rfl
 refine pure_ (i := 25) (N := some 38) (v := ?_) (a' := ?_) #[true, true, true, true, true, true, true, true, true, true, true, true, true, true, true, true, true, true, true, true, true, true, true, true, true, true, false, false, false, false, false, false, false, false, false, false, false] rfl rfl (any_of HT_.1 (by kernel_rfl)) (fun _ _ _ h => h) (Or.inl ⟨by rfl, ?_⟩) ?_ ?_
 rotate_left
 · intro w'
   go_simp
   with_reducible rfl
 rotate_left
 · simp only [Act.put, List.setIfInBounds_toArray, List.set_cons_zero, List.set_cons_succ, i64_w, i32_w]
   rfl
 refine pure_ (i := 26) (N := some 39) (v := ?_) (a' := ?_) #[true, true, true, true, true, true, true, true, true, true, true, true, true, true, true, true, true, true, true, true, true, true, true, true, true, true, true, false, false, false, false, false, false, false, false, false, false] rfl rfl (any_of HT_.1 (by kernel_rfl)) (fun _ _ _ h => h) (Or.inl ⟨by rfl, ?_⟩) ?_ ?_
 rotate_left
 · intro w'
   go_simp
   with_reducible rfl
 rotate_left
 · simp only [Act.put, List.setIfInBounds_toArray, List.set_cons_zero, List.set_cons_succ, i64_w, i32_w]
   rfl
 refine take_ (i := 27) (N := some 40) (v := ?_) (a' := ?_) #[true, true, true, true, true, true, true, true, true, true, true, true, true, true, true, true, true, true, true, true, true, true, true, true, true, true, true, true, false, false, false, false, false, false, false, false, false] rfl rfl (take_ofW HT_.1 HW_.1 (by kernel_rfl)) (fun _ _ _ h => h) (Or.inl ⟨by rfl, ?_⟩) hHeld ?_ ?_
 rotate_left
 · rintro w' ⟨s0, s1, s2⟩
   go_simp
   with_reducible rfl
 rotate_left
 · simp only [Act.put, List.setIfInBounds_toArray, List.set_cons_zero, List.set_cons_succ, i64_w, i32_w]
   rfl
 refine take_ (i := 29) (N := some 42) (v := ?_) (a' := ?_) #[true, true, true, true, true, true, true, true, true, true, true, true, true, true, true, true, true, true, true, true, true, true, true, true, true, true, true, true, false, true, false, false, false, false, false, false, false] rfl rfl (take_ofW HT_.1 HW_.1 (by kernel_rfl)) (fun _ _ _ h => h) (Or.inl ⟨by rfl, ?_⟩) hHeld ?_ ?_
 rotate_left
 · rintro w' ⟨s0, s1, s2⟩
   go_simp
   with_reducible rfl
 rotate_left
 · simp only [Act.put, List.setIfInBounds_toArray, List.set_cons_zero, List.set_cons_succ, i64_w, i32_w]
   rfl
 refine one_ (i := 28) (N := some 41) #[true, true, true, true, true, true, true, true, true, true, true, true, true, true, true, true, true, true, true, true, true, true, true, true, true, true, true, true, true, true, false, false, false, false, false, false, false] rfl rfl (one_of HT_.1 (by kernel_rfl)) (by decide) (fun K hK => ?_)
 refine goes_ Try.func26 (by kernel_rfl) rfl #[.agg #[.string t549, .slice Ao26 t550.length co26, .slice Ao27 t553.length co27]] (by rfl) rfl rfl pgz ?_
 with_reducible refine (netclass_Pure.calls k t549 _ _ t550 _ _ t553 t567 _ ?side1 ?side2 ?side3 ?side4 A16.1).mono ?_
 (case side1 => exact csd ((Kd.V_reads' HO552.1).2.2))
 (case side2 => exact (Kd.V_reads' HO552.1).2.1)
 (case side3 => exact csd ((Kd.V_reads' HO555.1).2.2))
 (case side4 => exact (Kd.V_reads' HO555.1).2.1)
 rintro e w38 ⟨rfl, hb⟩
 refine ⟨_, rfl, ?_⟩
 replace HO552 := vbw HO552 hb
 replace HO555 := vbw HO555 hb
 replace BK548 := bbh BK548 hb
 replace BK557 := bbh BK557 hb
 replace HB := bst hb
 (try clear hb)
 (try clear hb2)
 (try clear hk)
 (try clear hi)
 refine hK.out _ _ ⟨(blk_cell BK557.1 0).trans rfl, (blk_cell BK557.1 1).trans rfl, (blk_cell BK557.1 2).trans rfl⟩ (fun hHeld => ?_)
 clear hK K
 refine norm_ (a' := ?_) ?_ ?_
 rotate_left
 · show Act.put _ (some 41) _ = _
   simp only [Act.put, List.setIfInBounds_toArray, List.set_cons_zero, List.set_cons_succ, i64_w, i32_w]
   rfl
 refine one_ (i := 30) (N := some 43) #[true, true, true, true, true, true, true, true, true, true, true, true, true, true, true, true, true, true, true, true, true, true, true, true, true, true, true, true, true, true, true, false, false, false, false, false, false] rfl rfl (one_of HT_.1 (by kernel_rfl)) (by decide) (fun K hK => ?_)
 refine goes_ Try.func27 (by kernel_rfl) rfl #[.agg #[.string t549, .slice Ao26 t550.length co26, .slice Ao27 t553.length co27]] (by rfl) rfl rfl pgz ?_
 with_reducible refine (petrinetref13_Pure.calls k t549 _ _ t550 _ _ t553 t568 _ ?side1 ?side2 ?side3 ?side4 A17.1).mono ?_
 (case side1 => exact csd ((Kd.V_reads' HO552.1).2.2))
 (case side2 => exact (Kd.V_reads' HO552.1).2.1)
 (case side3 => exact csd ((Kd.V_reads' HO555.1).2.2))
 (case side4 => exact (Kd.V_reads' HO555.1).2.1)
 rintro e w39 ⟨rfl, hb⟩
 refine ⟨_, rfl, ?_⟩
 replace HO552 := vbw HO552 hb
 replace HO555 := vbw HO555 hb
 replace BK548 := bbh BK548 hb
 replace BK557 := bbh BK557 hb
 replace HB := bst hb
 (try clear hb)
 (try clear hb2)
 (try clear hk)
 (try clear hi)
 refine hK.out _ _ ⟨(blk_cell BK557.1 0).trans rfl, (blk_cell BK557.1 1).trans rfl, (blk_cell BK557.1 2).trans rfl⟩ (fun hHeld => ?_)
 clear hK K
 refine norm_ (a' := ?_) ?_ ?_
 rotate_left
 · show Act.put _ (some 43) _ = _
   simp only [Act.put, List.setIfInBounds_toArray, List.set_cons_zero, List.set_cons_succ, i64_w, i32_w]
   rfl
 refine pure_ (i := 31) (N := some 44) (v := ?_) (a' := ?_) #[true, true, true, true, true, true, true, true, true, true, true, true, true, true, true, true, true, true, true, true, true, true, true, true, true, true, true, true, true, true, true, true, false, false, false, false, false] rfl rfl (any_of HT_.1 (by kernel_rfl)) (fun _ _ _ h => h) (Or.inl ⟨by rfl, ?_⟩) ?_ ?_
 rotate_left
 · intro w'
   go_simp
   with_reducible rfl
 rotate_left
 · simp only [Act.put, List.setIfInBounds_toArray, List.set_cons_zero, List.set_cons_succ, i64_w, i32_w]
   rfl
 refine pure_ (i := 32) (N := some 45) (v := ?_) (a' := ?_) #[true, true, true, true, true, true, true, true, true, true, true, true, true, true, true, true, true, true, true, true, true, true, true, true, true, true, true, true, true, true, true, true, true, false, false, false, false] rfl rfl (any_of HT_.1 (by kernel_rfl)) (fun _ _ _ h => h) (Or.inl ⟨by rfl, ?_⟩) ?_ ?_
 rotate_left
 · intro w'
   go_simp
   with_reducible rfl
 rotate_left
 · simp only [Act.put, List.setIfInBounds_toArray, List.set_cons_zero, List.set_cons_succ, i64_w, i32_w]
   rfl
 refine pure_ (i := 33) (N := some 46) (v := ?_) (a' := ?_) #[true, true, true, true, true, true, true, true, true, true, true, true, true, true, true, true, true, true, true, true, true, true, true, true, true, true, true, true, true, true, true, true, true, true, false, false, false] rfl rfl (any_of HT_.1 (by kernel_rfl)) (fun _ _ _ h => h) (Or.inl ⟨by rfl, ?_⟩) ?_ ?_
 rotate_left
 · intro w'
   go_simp
   with_reducible rfl
 rotate_left
 · simp only [Act.put, List.setIfInBounds_toArray, List.set_cons_zero, List.set_cons_succ, i64_w, i32_w]
   rfl
 refine one_ (i := 34) (N := some 47) #[true, true, true, true, true, true, true, true, true, true, true, true, true, true, true, true, true, true, true, true, true, true, true, true, true, true, true, true, true, true, true, true, true, true, true, false, false] rfl rfl (one_of HT_.1 (by kernel_rfl)) (by decide) (fun K hK => ?_)
 refine goes_ Try.func10 (by kernel_rfl) rfl #[] (by rfl) rfl rfl pgz ?_
 with_reducible refine (petrinetlaw13_alive.calls k  t569 _ A19.1).mono ?_
 rintro e w40 ⟨rfl, hb⟩
 refine ⟨_, rfl, ?_⟩
 replace HO552 := vbw HO552 hb
 replace HO555 := vbw HO555 hb
 replace BK548 := bbh BK548 hb
 replace BK557 := bbh BK557 hb
 replace HB := bst hb
 (try clear hb)
 (try clear hb2)
 (try clear hk)
 (try clear hi)
 refine hK.out _ _ ⟨(blk_cell BK557.1 0).trans rfl, (blk_cell BK557.1 1).trans rfl, (blk_cell BK557.1 2).trans rfl⟩ (fun hHeld => ?_)
 clear hK K
 refine norm_ (a' := ?_) ?_ ?_
 rotate_left
 · show Act.put _ (some 47) _ = _
   simp only [Act.put, List.setIfInBounds_toArray, List.set_cons_zero, List.set_cons_succ, i64_w, i32_w]
   rfl
 refine pure_ (i := 35) (N := some 48) (v := ?_) (a' := ?_) #[true, true, true, true, true, true, true, true, true, true, true, true, true, true, true, true, true, true, true, true, true, true, true, true, true, true, true, true, true, true, true, true, true, true, true, true, false] rfl rfl (any_of HT_.1 (by kernel_rfl)) (fun _ _ _ h => h) (Or.inl ⟨by rfl, ?_⟩) ?_ ?_
 rotate_left
 · intro w'
   go_simp
   with_reducible rfl
 rotate_left
 · simp only [Act.put, List.setIfInBounds_toArray, List.set_cons_zero, List.set_cons_succ, i64_w, i32_w]
   rfl
 refine pure_ (i := 36) (N := some 2) (v := ?_) (a' := ?_) #[true, true, true, true, true, true, true, true, true, true, true, true, true, true, true, true, true, true, true, true, true, true, true, true, true, true, true, true, true, true, true, true, true, true, true, true, true] rfl rfl (any_of HT_.1 (by kernel_rfl)) (fun _ _ _ h => h) (Or.inl ⟨by rfl, ?_⟩) ?_ ?_
 rotate_left
 · intro w'
   go_simp
   with_reducible rfl
 rotate_left
 · simp only [Act.put, List.setIfInBounds_toArray, List.set_cons_zero, List.set_cons_succ, i64_w, i32_w]
   rfl
 refine done_ (done_of HT_.1 (by kernel_rfl)) ?_
 try go_wp2
 go_ret
 exact ⟨per, pbg⟩

end Go.Proofs.Ytplljicodflagaa.P
