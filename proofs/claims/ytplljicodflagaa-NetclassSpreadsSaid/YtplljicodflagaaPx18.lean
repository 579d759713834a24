-- LAID BY OUR PROGRAM OVER THE PRINT (xprint.py, part.py): Lean checks it.
import Derived.Test.YtplljicodflagaaPx0
import Derived.Test.YtplljicodflagaaPx1
import Derived.Test.YtplljicodflagaaPx3
import Derived.Test.YtplljicodflagaaPx4
import Derived.Test.YtplljicodflagaaPx5
import Derived.Test.YtplljicodflagaaPx6
import Derived.Test.YtplljicodflagaaPx7
import Derived.Test.YtplljicodflagaaPx16
namespace Go.Proofs.Ytplljicodflagaa.P
open Go.RowKit Go.Proofs.YtplljicodflagaaW.PrintWords Go.Proofs.YtplljicodflagaaW.PrintLast Go.Proofs.YtplljicodflagaaW.PrintMore
attribute [local go_sem] max2_int min2_int max_two min_two max_three min_three max_four min_four   -- for this text's walks alone
set_option linter.unusedVariables false
set_option linter.unusedSimpArgs false

/-! ### petrinetlaw13_NetclassSpreads: function 8 -/
mutual
def petrinetlaw13_NetclassSpreads.j0 : Nat → Bool → List Int → Bool → ByteArray → List (S46) → List (S41) → Option (Bool)
 | 0, _, _, _, _, _, _ => none
 | k + 1, x4, x5, x25, x698000, x698001, x698002 => if x25 = true then (if x4 = true then (if (x5.length : Int) = 0 then ((petrinetlaw13_alive.f k).bind fun t702 => (some t702)) else (none)) else ((petrinetlaw13_alive.f k).bind fun t703 => (some t703))) else (if (x5.length : Int) = (wrap64 ((x698001.length : Int) + (x698002.length : Int))) then (petrinetlaw13_NetclassSpreads.l0 k x5 (x698001.length : Int) 0 x698000 x698001 x698002) else (none))
def petrinetlaw13_NetclassSpreads.l0 : Nat → List Int → Int → Int → ByteArray → List (S46) → List (S41) → Option (Bool)
 | 0, _, _, _, _, _, _ => none
 | k + 1, x5, x6, x7, x698000, x698001, x698002 => if x7 < (x5.length : Int) then (if 0 ≤ x7 then (if (rd x5 x7) < 0 then (none) else (if (rd x5 x7) > x7 then (none) else (if 0 ≤ (rd x5 x7) then (if (rd x5 x7) < (x5.length : Int) then (if (rd x5 (rd x5 x7)) = (rd x5 x7) then (petrinetlaw13_NetclassSpreads.l0 k x5 x6 (wrap64 (x7 + 1)) x698000 x698001 x698002) else (none)) else (none)) else (none)))) else (none)) else ((netclass_FreeChoice.f k x698000 x698001 x698002).bind fun t709 => (petrinetlaw13_NetclassSpreads.l1 k x5 x6 t709 0 x698000 x698001 x698002))
def petrinetlaw13_NetclassSpreads.l1 : Nat → List Int → Int → Bool → Int → ByteArray → List (S46) → List (S41) → Option (Bool)
 | 0, _, _, _, _, _, _, _ => none
 | k + 1, x5, x6, x8, x9, x698000, x698001, x698002 => if x9 < (x698002.length : Int) then (petrinetlaw13_NetclassSpreads.l2 k x5 x6 x8 x9 0 x698000 x698001 x698002) else ((petrinetlaw13_alive.f k).bind fun t710 => (some t710))
def petrinetlaw13_NetclassSpreads.l2 : Nat → List Int → Int → Bool → Int → Int → ByteArray → List (S46) → List (S41) → Option (Bool)
 | 0, _, _, _, _, _, _, _, _ => none
 | k + 1, x5, x6, x8, x9, x10, x698000, x698001, x698002 => if 0 ≤ x9 then (if x9 < (x698002.length : Int) then (if x10 < (((rd_T41 x698002 x9).f1).length : Int) then (if 0 ≤ x10 then (if 0 ≤ ((rd_T43 ((rd_T41 x698002 x9).f1) x10).f0) then (if ((rd_T43 ((rd_T41 x698002 x9).f1) x10).f0) < (x5.length : Int) then (if 0 ≤ (wrap64 (x6 + x9)) then (if (wrap64 (x6 + x9)) < (x5.length : Int) then (if (rd x5 ((rd_T43 ((rd_T41 x698002 x9).f1) x10).f0)) = (rd x5 (wrap64 (x6 + x9))) then (petrinetlaw13_NetclassSpreads.l2 k x5 x6 x8 x9 (wrap64 (x10 + 1)) x698000 x698001 x698002) else (none)) else (none)) else (none)) else (none)) else (none)) else (none)) else (petrinetlaw13_NetclassSpreads.l3 k x5 x6 x8 x9 0 x698000 x698001 x698002)) else (none)) else (none)
def petrinetlaw13_NetclassSpreads.l3 : Nat → List Int → Int → Bool → Int → Int → ByteArray → List (S46) → List (S41) → Option (Bool)
 | 0, _, _, _, _, _, _, _, _ => none
 | k + 1, x5, x6, x8, x9, x11, x698000, x698001, x698002 => if x11 < x9 then (petrinetlaw13_NetclassSpreads.j5 k x5 x6 x8 x9 x11 x8 x698000 x698001 x698002) else (petrinetlaw13_NetclassSpreads.j5 k x5 x6 x8 x9 x11 false x698000 x698001 x698002)
def petrinetlaw13_NetclassSpreads.j5 : Nat → List Int → Int → Bool → Int → Int → Bool → ByteArray → List (S46) → List (S41) → Option (Bool)
 | 0, _, _, _, _, _, _, _, _, _ => none
 | k + 1, x5, x6, x8, x9, x11, x125, x698000, x698001, x698002 => if x125 = true then (if 0 ≤ (wrap64 (x6 + x11)) then (if (wrap64 (x6 + x11)) < (x5.length : Int) then (if 0 ≤ (wrap64 (x6 + x9)) then (if (wrap64 (x6 + x9)) < (x5.length : Int) then (if (rd x5 (wrap64 (x6 + x11))) = (rd x5 (wrap64 (x6 + x9))) then (if 0 ≤ x11 then (if x11 < (x698002.length : Int) then ((petrinetref09_Targets.f k ((rd_T41 x698002 x11).f1)).bind fun t719 => (if 0 ≤ x9 then (if x9 < (x698002.length : Int) then ((petrinetref09_Targets.f k ((rd_T41 x698002 x9).f1)).bind fun t723 => ((petrinetref04_Same.f k t719 t723).bind fun t726 => (if t726 = true then (petrinetlaw13_NetclassSpreads.l3 k x5 x6 x8 x9 (wrap64 (x11 + 1)) x698000 x698001 x698002) else (none)))) else (none)) else (none))) else (none)) else (none)) else (petrinetlaw13_NetclassSpreads.l3 k x5 x6 x8 x9 (wrap64 (x11 + 1)) x698000 x698001 x698002)) else (none)) else (none)) else (none)) else (none)) else (petrinetlaw13_NetclassSpreads.l1 k x5 x6 x8 (wrap64 (x9 + 1)) x698000 x698001 x698002)
end
def petrinetlaw13_NetclassSpreads.f (k : Nat) (a0_0 : ByteArray) (l0_1 : List (S46)) (l0_2 : List (S41)) : Option (Bool) := (petrinetref09_Small.f k a0_0 l0_1 l0_2).bind fun bt689 => ((netclass_Clusters.f k bt689.1 bt689.2.1 bt689.2.2.1).bind fun t698 => (if bt689.2.2.2 = true then ((petrinetref09_Valid.f k bt689.1 bt689.2.1 bt689.2.2.1).bind fun t701 => (petrinetlaw13_NetclassSpreads.j0 k bt689.2.2.2 t698 (!t701) bt689.1 bt689.2.1 bt689.2.2.1)) else (petrinetlaw13_NetclassSpreads.j0 k bt689.2.2.2 t698 true bt689.1 bt689.2.1 bt689.2.2.1)))
theorem petrinetlaw13_NetclassSpreads.mono_l : ∀ k, (∀ y0 y1 y2 y3 y4 y5, LeO (petrinetlaw13_NetclassSpreads.j0 k y0 y1 y2 y3 y4 y5) (petrinetlaw13_NetclassSpreads.j0 (k + 1) y0 y1 y2 y3 y4 y5)) ∧ (∀ y0 y1 y2 y3 y4 y5, LeO (petrinetlaw13_NetclassSpreads.l0 k y0 y1 y2 y3 y4 y5) (petrinetlaw13_NetclassSpreads.l0 (k + 1) y0 y1 y2 y3 y4 y5)) ∧ (∀ y0 y1 y2 y3 y4 y5 y6, LeO (petrinetlaw13_NetclassSpreads.l1 k y0 y1 y2 y3 y4 y5 y6) (petrinetlaw13_NetclassSpreads.l1 (k + 1) y0 y1 y2 y3 y4 y5 y6)) ∧ (∀ y0 y1 y2 y3 y4 y5 y6 y7, LeO (petrinetlaw13_NetclassSpreads.l2 k y0 y1 y2 y3 y4 y5 y6 y7) (petrinetlaw13_NetclassSpreads.l2 (k + 1) y0 y1 y2 y3 y4 y5 y6 y7)) ∧ (∀ y0 y1 y2 y3 y4 y5 y6 y7, LeO (petrinetlaw13_NetclassSpreads.l3 k y0 y1 y2 y3 y4 y5 y6 y7) (petrinetlaw13_NetclassSpreads.l3 (k + 1) y0 y1 y2 y3 y4 y5 y6 y7)) ∧ (∀ y0 y1 y2 y3 y4 y5 y6 y7 y8, LeO (petrinetlaw13_NetclassSpreads.j5 k y0 y1 y2 y3 y4 y5 y6 y7 y8) (petrinetlaw13_NetclassSpreads.j5 (k + 1) y0 y1 y2 y3 y4 y5 y6 y7 y8))
 | 0 => ⟨fun _ _ _ _ _ _ r h => by simp [petrinetlaw13_NetclassSpreads.j0] at h, fun _ _ _ _ _ _ r h => by simp [petrinetlaw13_NetclassSpreads.l0] at h, fun _ _ _ _ _ _ _ r h => by simp [petrinetlaw13_NetclassSpreads.l1] at h, fun _ _ _ _ _ _ _ _ r h => by simp [petrinetlaw13_NetclassSpreads.l2] at h, fun _ _ _ _ _ _ _ _ r h => by simp [petrinetlaw13_NetclassSpreads.l3] at h, fun _ _ _ _ _ _ _ _ _ r h => by simp [petrinetlaw13_NetclassSpreads.j5] at h⟩
 | k + 1 => by
   obtain ⟨ih0, ih1, ih2, ih3, ih4, ih5⟩ := petrinetlaw13_NetclassSpreads.mono_l k
   refine ⟨?_, ?_, ?_, ?_, ?_, ?_⟩ <;> intros <;> (first | unfold petrinetlaw13_NetclassSpreads.j0 | unfold petrinetlaw13_NetclassSpreads.l0 | unfold petrinetlaw13_NetclassSpreads.l1 | unfold petrinetlaw13_NetclassSpreads.l2 | unfold petrinetlaw13_NetclassSpreads.l3 | unfold petrinetlaw13_NetclassSpreads.j5) <;> repeat' first | (with_reducible first | apply ih0 | apply ih1 | apply ih2 | apply ih3 | apply ih4 | apply ih5 | apply netclass_Clusters.mono | apply netclass_FreeChoice.mono | apply petrinetlaw13_alive.mono | apply petrinetref04_Same.mono | apply petrinetref09_Small.mono | apply petrinetref09_Targets.mono | apply petrinetref09_Valid.mono | apply LeO.refl | apply LeO.none | refine LeO.ite ?_ ?_ | refine LeO.bind ?_ (fun _ => ?_))
theorem petrinetlaw13_NetclassSpreads.mono : ∀ a0 a1 a2 k, LeO (petrinetlaw13_NetclassSpreads.f k a0 a1 a2) (petrinetlaw13_NetclassSpreads.f (k + 1) a0 a1 a2) := by
 intro a0 a1 a2 k
 obtain ⟨ih0, ih1, ih2, ih3, ih4, ih5⟩ := petrinetlaw13_NetclassSpreads.mono_l k
 unfold petrinetlaw13_NetclassSpreads.f
 repeat' first | (with_reducible first | apply ih0 | apply ih1 | apply ih2 | apply ih3 | apply ih4 | apply ih5 | apply netclass_Clusters.mono | apply netclass_FreeChoice.mono | apply petrinetlaw13_alive.mono | apply petrinetref04_Same.mono | apply petrinetref09_Small.mono | apply petrinetref09_Targets.mono | apply petrinetref09_Valid.mono | apply LeO.refl | apply LeO.none | refine LeO.ite ?_ ?_ | refine LeO.bind ?_ (fun _ => ?_))
def petrinetlaw13_NetclassSpreads.T11 : Bool × List (List Nat × List Nat) := (true, [([], []), ([], []), ([0, 1], [0, 1]), ([2], [2]), ([3], [3]), ([4], [4]), ([5], [5]), ([5], [5]), ([6, 7, 5], [5, 6, 7]), ([8, 5], [5, 8]), ([5], [5]), ([9, 10, 5], [5, 9, 10]), ([5, 11], [5, 11]), ([12, 5], [12]), ([13], [13]), ([13], [13]), ([13], [13]), ([15, 16, 13], [13, 15, 16]), ([17, 13], [13, 17]), ([14, 18, 13], [13, 14, 18]), ([19, 13], [13, 19]), ([13], [13]), ([13], [13]), ([21, 22, 13], [13, 21, 22]), ([23, 13], [13, 23]), ([20, 24, 13], [13, 20, 24]), ([13, 25], [13, 25])])
def petrinetlaw13_NetclassSpreads.B11 : List Nat := [0, 0, 3, 7, 15, 31, 63, 63, 255, 511, 63, 2047, 4095, 8191, 16383, 16383, 16383, 114687, 245759, 524287, 1048575, 16383, 16383, 6307839, 14696447, 33554431, 67108863]
theorem petrinetlaw13_NetclassSpreads.tab11 : rtab .any (opsOf Try.f8 11) = petrinetlaw13_NetclassSpreads.T11 := by kernel_rfl
theorem petrinetlaw13_NetclassSpreads.bits11 : waitsOk petrinetlaw13_NetclassSpreads.T11.2 petrinetlaw13_NetclassSpreads.B11 = true := by kernel_rfl
def petrinetlaw13_NetclassSpreads.T20 : Bool × List (List Nat × List Nat) := (true, [([], []), ([], []), ([1], [1]), ([], []), ([2, 3], [2, 3]), ([4], [4]), ([5], [5]), ([], []), ([6, 7], [6, 7]), ([8], [8]), ([9], [9]), ([0, 10], [0, 10]), ([11], [11]), ([], []), ([], []), ([], []), ([14, 15], [14, 15]), ([13, 16], [13, 16]), ([17], [17]), ([12, 18], [12, 18])])
def petrinetlaw13_NetclassSpreads.B20 : List Nat := [0, 0, 2, 0, 14, 30, 62, 0, 254, 510, 1022, 2047, 4095, 0, 0, 0, 49152, 122880, 253952, 524287]
theorem petrinetlaw13_NetclassSpreads.tab20 : rtab .any (opsOf Try.f8 20) = petrinetlaw13_NetclassSpreads.T20 := by kernel_rfl
theorem petrinetlaw13_NetclassSpreads.bits20 : waitsOk petrinetlaw13_NetclassSpreads.T20.2 petrinetlaw13_NetclassSpreads.B20 = true := by kernel_rfl
def petrinetlaw13_NetclassSpreads.T25 : Bool × List (List Nat × List Nat) := (true, [([], []), ([], []), ([], []), ([1, 2], [1, 2]), ([0, 3], [0, 3]), ([4], [4]), ([], []), ([], []), ([], []), ([7, 8], [7, 8]), ([6, 9], [6, 9]), ([10], [10]), ([5, 11], [5, 11]), ([12], [12]), ([13], [13]), ([14, 13], [13, 14]), ([13], [13]), ([15, 16, 13], [13, 15, 16]), ([17, 13], [13, 17]), ([18, 13], [13, 18]), ([19, 13, 13], [13, 19]), ([13], [13]), ([21, 13], [13, 21]), ([13], [13]), ([22, 23, 13], [13, 22, 23]), ([24, 13], [13, 24]), ([25, 13], [13, 25]), ([26, 20, 13], [13, 26]), ([20, 27, 27, 13], [13, 20, 27]), ([28, 13], [13, 28]), ([13, 29], [13, 29])])
def petrinetlaw13_NetclassSpreads.B25 : List Nat := [0, 0, 0, 6, 15, 31, 0, 0, 0, 384, 960, 1984, 4095, 8191, 16383, 32767, 16383, 131071, 262143, 524287, 1048575, 16383, 2113535, 16383, 14696447, 31473663, 65028095, 134217727, 268435455, 536870911, 1073741823]
theorem petrinetlaw13_NetclassSpreads.tab25 : rtab .any (opsOf Try.f8 25) = petrinetlaw13_NetclassSpreads.T25 := by kernel_rfl
theorem petrinetlaw13_NetclassSpreads.bits25 : waitsOk petrinetlaw13_NetclassSpreads.T25.2 petrinetlaw13_NetclassSpreads.B25 = true := by kernel_rfl
set_option maxHeartbeats 8000000 in
set_option maxRecDepth 100000 in
theorem petrinetlaw13_NetclassSpreads.calls (k : Nat) (a0_0 : ByteArray) (A0_1 : Option Addr) (c0_1 : Nat) (l0_1 : List (S46)) (A0_2 : Option Addr) (c0_2 : Nat) (l0_2 : List (S41)) (r : Bool) (w : World) (hr0_1 : Kd.C k46 w A0_1 l0_1.length l0_1) (hc0_1 : l0_1.length ≤ c0_1) (hr0_2 : Kd.C k41 w A0_2 l0_2.length l0_2) (hc0_2 : l0_2.length ≤ c0_2) (h : petrinetlaw13_NetclassSpreads.f k a0_0 l0_1 l0_2 = some r) :
   Calls Try.prog 8 #[.agg #[.string a0_0, .slice A0_1 l0_1.length c0_1, .slice A0_2 l0_2.length c0_2]] w fun e w' => e = .returned (.bool r) ∧ Below w.heap.size w w' := by
 have hu25 := Try.underlying25
 have HR0_1 := am hr0_1
 have HC0_1 := am hc0_1
 clear hr0_1 hc0_1
 have HR0_2 := am hr0_2
 have HC0_2 := am hc0_2
 clear hr0_2 hc0_2
 have HB := am (Below.refl w.heap.size w)
 have H : ((petrinetref09_Small.f k a0_0 l0_1 l0_2).bind fun bt689 => ((netclass_Clusters.f k bt689.1 bt689.2.1 bt689.2.2.1).bind fun t698 => (if bt689.2.2.2 = true then ((petrinetref09_Valid.f k bt689.1 bt689.2.1 bt689.2.2.1).bind fun t701 => (petrinetlaw13_NetclassSpreads.j0 k bt689.2.2.2 t698 (!t701) bt689.1 bt689.2.1 bt689.2.2.1)) else (petrinetlaw13_NetclassSpreads.j0 k bt689.2.2.2 t698 true bt689.1 bt689.2.1 bt689.2.2.1)))) = some r := h
 clear h
 replace H := bnd H
 obtain ⟨⟨t689, t690, t693, t696⟩, A2, H⟩ := H
 (try dsimp only at H)
 replace H := bnd H
 obtain ⟨t698, A3, H⟩ := H
 (try dsimp only at H)
 have HC4 := am H
 clear H
 go_enter Try.func8, Try.ntmps8
 go_upto_region 3 with (first | ((with_reducible refine gate_dst (N := 1) rfl ?_); (try (refine gate_guard (by rfl) ?_; dsimp only)); refine box_ev (N := 1) (cs := #[.string a0_0, .slice A0_1 l0_1.length c0_1, .slice A0_2 l0_2.length c0_2]) (t := 25) ?_; intro gb688 hg w5 hbox hb; have BK688 := am hbox; have GW688 := gwl hg; have GE688 := GW688; replace HB := bsl hb; clear hb hbox hg; obtain ⟨hcz6_0, hcz6_1, hcz6_2, hfz6_0, hfz6_1, hfz6_2⟩ := cf3 BK688.1) | ((with_reducible refine gate_callee (f := 9) rfl ?_); refine goesL_ (some 14) rfl rfl Try.func9 (by kernel_rfl) rfl #[.agg #[.string a0_0, .slice A0_1 l0_1.length c0_1, .slice A0_2 l0_2.length c0_2]] rfl pgz ?_; (with_reducible refine (petrinetref09_Small.calls k a0_0 (fun k_ => k_ < w.heap.size) _ _ l0_1 (fun k_ => k_ < w.heap.size) _ _ l0_2 t689 t690 t693 t696 _ ?side1 ?side2 A2.1).mono ?_); (case side1 => exact Kd.V_mk HC0_1.1 (Kd.F_below (Kd.C_F k46_heap HR0_1.1) pbg)); (case side2 => exact Kd.V_mk HC0_2.1 (Kd.F_below (Kd.C_F k41_heap HR0_2.1) pbg)); rintro e w7 ⟨v691, v694, rfl, ho0, ho1, hb⟩; refine ⟨_, rfl, ?_⟩; have HO692 := am (Kd.V_lower (Kd.V_mono (ok' := fun k_ => k_ ≠ gb688) ho0 (fun k_ hk_ => Or.elim hk_ (fun hs_ => Or.elim hs_ (fun hs_ => fun e_ => Nat.not_le.2 hs_ (by rw [e_]; exact GW688.1)) (fun hs_ => fun e_ => Nat.not_le.2 hs_ (by rw [e_]; exact GW688.1))) (fun hn_ => (Kd.freshB (g := gb688) (o := .cells #[.string a0_0, .slice A0_1 l0_1.length c0_1, .slice A0_2 l0_2.length c0_2] 25 (0, 0)) (by exact pbk BK688.1) k_ hn_)))) (below_size pbg)); have HO695 := am (Kd.V_lower (Kd.V_mono (ok' := fun k_ => k_ ≠ gb688) ho1 (fun k_ hk_ => Or.elim hk_ (fun hs_ => Or.elim hs_ (fun hs_ => fun e_ => Nat.not_le.2 hs_ (by rw [e_]; exact GW688.1)) (fun hs_ => fun e_ => Nat.not_le.2 hs_ (by rw [e_]; exact GW688.1))) (fun hn_ => (Kd.freshB (g := gb688) (o := .cells #[.string a0_0, .slice A0_1 l0_1.length c0_1, .slice A0_2 l0_2.length c0_2] 25 (0, 0)) (by exact pbk BK688.1) k_ hn_)))) (below_size pbg)); replace BK688 := bbh BK688 hb; replace HB := bst hb; (try clear hb); (try clear hb2); (try clear hk); (try clear hi); (try clear ho0); (try clear ho1)) | ((with_reducible refine gate_dst (N := 3) rfl ?_); (try (refine gate_guard (by rfl) ?_; dsimp only)); refine box_ev (N := 3) (cs := #[.string (⟨#[]⟩ : ByteArray), .slice none 0 0, .slice none 0 0]) (t := 25) ?_; intro gb697 hg w8 hbox hb; have BK697 := am hbox; have GW697 := gwb hg; have GE697 := GW697; have NB688_697 := nlt hg BK688; have NB697_688 := ngt hg BK688; replace HO692 := vbb HO692 hg hb; replace HO695 := vbb HO695 hg hb; replace BK688 := bbh BK688 hb; replace HB := bst hb; clear hb hbox hg; have hnb9 := NB697_688.1; have hnc9 := NB688_697.1; obtain ⟨hcz10_0, hcz10_1, hcz10_2, hfz10_0, hfz10_1, hfz10_2⟩ := cf3 BK697.1; obtain ⟨Ao11, co11, eo11⟩ := Kd.V_slice HO692.1; subst eo11; obtain ⟨Ao12, co12, eo12⟩ := Kd.V_slice HO695.1; subst eo12) | ((with_reducible refine gate_callee (f := 32) rfl ?_); refine goesL_ (some 18) rfl rfl Try.func32 (by kernel_rfl) rfl #[.agg #[.string t689, .slice Ao11 t690.length co11, .slice Ao12 t693.length co12]] rfl pgz ?_; (with_reducible refine (netclass_Clusters.calls k t689 _ _ t690 _ _ t693 t698 _ ?side1 ?side2 ?side3 ?side4 A3.1).mono ?_); (case side1 => refine (Kd.V_reads' (e := 46) (base := w.heap.size) (ok := fun k_ => (k_ ≠ gb688 ∧ k_ ≠ gb697)) (n := t690.length) (c := co11) ?_).2.2; exact (by (with_reducible repeat (first | apply Kd.V_alloc | apply Kd.V_drewN | apply Kd.V_drew)); exact (Kd.V_mono (Kd.V_far (p := ⟨gb697, 2, none⟩) (Kd.V_far (p := ⟨gb697, 1, none⟩) (Kd.V_far (p := ⟨gb697, 0, none⟩) (Kd.V_mono HO692.1 (fun k_ hk => (⟨hk, hk.2⟩ : _ ∧ k_ ≠ gb697))) (fun _ hk => hk.2) (.string t689)) (fun _ hk => hk.2) (.slice Ao11 t690.length co11)) (fun _ hk => hk.2) (.slice Ao12 t693.length co12)) (fun _ h_ => h_.1)))); (case side2 => exact (Kd.V_reads' HO692.1).2.1); (case side3 => refine (Kd.V_reads' (e := 41) (base := w.heap.size) (ok := fun k_ => (k_ ≠ gb688 ∧ k_ ≠ gb697)) (n := t693.length) (c := co12) ?_).2.2; exact (by (with_reducible repeat (first | apply Kd.V_alloc | apply Kd.V_drewN | apply Kd.V_drew)); exact (Kd.V_mono (Kd.V_far (p := ⟨gb697, 2, none⟩) (Kd.V_far (p := ⟨gb697, 1, none⟩) (Kd.V_far (p := ⟨gb697, 0, none⟩) (Kd.V_mono HO695.1 (fun k_ hk => (⟨hk, hk.2⟩ : _ ∧ k_ ≠ gb697))) (fun _ hk => hk.2) (.string t689)) (fun _ hk => hk.2) (.slice Ao11 t690.length co11)) (fun _ hk => hk.2) (.slice Ao12 t693.length co12)) (fun _ h_ => h_.1)))); (case side4 => exact (Kd.V_reads' HO695.1).2.1); rintro e w13 ⟨v699, rfl, ho0, hb⟩; refine ⟨_, rfl, ?_⟩; have HO700 := am (Kd.R_lower ho0 (below_size pbg)); replace HO692 := am (Kd.V_elder' (by (with_reducible repeat (first | apply Kd.V_alloc | apply Kd.V_drewN | apply Kd.V_drew)); exact (Kd.V_mono (Kd.V_far (p := ⟨gb697, 2, none⟩) (Kd.V_far (p := ⟨gb697, 1, none⟩) (Kd.V_far (p := ⟨gb697, 0, none⟩) (Kd.V_mono HO692.1 (fun k_ hk => (⟨hk, hk.2⟩ : _ ∧ k_ ≠ gb697))) (fun _ hk => hk.2) (.string t689)) (fun _ hk => hk.2) (.slice Ao11 t690.length co11)) (fun _ hk => hk.2) (.slice Ao12 t693.length co12)) (fun _ h_ => h_.1))) (Kd.R_base ho0) hb); replace HO695 := am (Kd.V_elder' (by (with_reducible repeat (first | apply Kd.V_alloc | apply Kd.V_drewN | apply Kd.V_drew)); exact (Kd.V_mono (Kd.V_far (p := ⟨gb697, 2, none⟩) (Kd.V_far (p := ⟨gb697, 1, none⟩) (Kd.V_far (p := ⟨gb697, 0, none⟩) (Kd.V_mono HO695.1 (fun k_ hk => (⟨hk, hk.2⟩ : _ ∧ k_ ≠ gb697))) (fun _ hk => hk.2) (.string t689)) (fun _ hk => hk.2) (.slice Ao11 t690.length co11)) (fun _ hk => hk.2) (.slice Ao12 t693.length co12)) (fun _ h_ => h_.1))) (Kd.R_base ho0) hb); replace BK688 := am (blk_below (g := gb688) (o := .cells #[.string a0_0, .slice A0_1 l0_1.length c0_1, .slice A0_2 l0_2.length c0_2] 25 (0, 0)) (by (with_reducible repeat (first | refine blk_drewN ?_ _ | refine blk_drew ?_ | refine blk_alloc ?_ _)); refine bf3 ?_ NB688_697.1; exact pbk BK688.1) hb); replace BK697 := am (blk_below (g := gb697) (o := .cells #[.string t689, .slice Ao11 t690.length co11, .slice Ao12 t693.length co12] 25 (0, 0)) (by (with_reducible repeat (first | refine blk_drewN ?_ _ | refine blk_drew ?_ | refine blk_alloc ?_ _)); refine blk_put (cs := #[.string t689, .slice Ao11 t690.length co11, .slice none 0 0]) ?_ 2 _ rfl; (with_reducible repeat (first | refine blk_drewN ?_ _ | refine blk_drew ?_ | refine blk_alloc ?_ _)); refine blk_put (cs := #[.string t689, .slice none 0 0, .slice none 0 0]) ?_ 1 _ rfl; (with_reducible repeat (first | refine blk_drewN ?_ _ | refine blk_drew ?_ | refine blk_alloc ?_ _)); refine blk_put (cs := #[.string (⟨#[]⟩ : ByteArray), .slice none 0 0, .slice none 0 0]) ?_ 0 _ rfl; exact pbk BK697.1) hb); replace HB := bst hb; (try clear hb); (try clear hb2); (try clear hk); (try clear hi); (try clear ho0)))
 (try simp only [Act.put, List.setIfInBounds_toArray, List.set_cons_zero, List.set_cons_succ])
 go_cut [25] (fun v25 wc => ∃ (kq : Nat) (x25_3 : Bool), v25 = .bool x25_3 ∧ Aside0 (petrinetlaw13_NetclassSpreads.j0 kq t696 t698 x25_3 t689 t690 t693 = some r) ∧ Aside0 (kq ≤ k) ∧ Aside0 (Kd.R (Kd.int .i64) 3 wc w.heap.size (fun _ => True) v699 t698) ∧ Aside0 (Kd.V k46 46 wc w.heap.size (fun k_ => some k_ ≠ (v699 : Value).ownBlock ∧ k_ ≠ gb688 ∧ k_ ≠ gb697) (.slice Ao11 t690.length co11) t690) ∧ Aside0 (Kd.V k41 41 wc w.heap.size (fun k_ => some k_ ≠ (v699 : Value).ownBlock ∧ k_ ≠ gb688 ∧ k_ ≠ gb697) (.slice Ao12 t693.length co12) t693) ∧ Aside0 (wc.heap[gb688]? = some (.cells #[.string a0_0, (.slice A0_1 l0_1.length c0_1), (.slice A0_2 l0_2.length c0_2)] 25 (0, 0))) ∧ Aside0 (wc.heap[gb697]? = some (.cells #[.string t689, (.slice Ao11 t690.length co11), (.slice Ao12 t693.length co12)] 25 (0, 0))) ∧ Aside0 (Below w.heap.size w wc))
 case first =>
   have H := HC4.1
   clear HC4
   by_cases c14 : t696 = true
   rotate_left
   · replace c14 := Bool.eq_false_iff.mpr c14
     subst c14
     rw [if_neg Bool.false_ne_true] at H
     have H' := am H
     clear H
     go_wp2
     go_meet
     case rel => exact ⟨_, (true), prs, H', ⟨by first | omega | exact Nat.le_refl _⟩, ⟨pkr HO700.1⟩, ⟨by (with_reducible repeat (first | apply Kd.V_alloc | apply Kd.V_drewN | apply Kd.V_drew)); exact Kd.V_mono HO692.1 (fun _ hk => ⟨hk.2, ⟨hk.1.1, hk.1.2⟩⟩)⟩, ⟨by (with_reducible repeat (first | apply Kd.V_alloc | apply Kd.V_drewN | apply Kd.V_drew)); exact Kd.V_mono HO695.1 (fun _ hk => ⟨hk.2, ⟨hk.1.1, hk.1.2⟩⟩)⟩, ⟨pbk BK688.1⟩, ⟨pbk BK697.1⟩, ⟨pbg⟩⟩
   subst c14
   rw [if_pos rfl] at H
   replace H := bnd H
   obtain ⟨t701, A15, H⟩ := H
   (try dsimp only at H)
   have H' := am H
   clear H
   have hnb16 := NB697_688.1
   have hnc16 := NB688_697.1
   obtain ⟨hcz17_0, hcz17_1, hcz17_2, hfz17_0, hfz17_1, hfz17_2⟩ := cf3 BK697.1
   go_wp2_with (first | (go_at_call 34; (with_reducible refine (petrinetref09_Valid.calls k t689 _ _ t690 _ _ t693 t701 _ ?side1 ?side2 ?side3 ?side4 A15.1).mono ?_); (case side1 => exact csd ((Kd.V_reads' HO692.1).2.2)); (case side2 => exact (Kd.V_reads' HO692.1).2.1); (case side3 => exact csd ((Kd.V_reads' HO695.1).2.2)); (case side4 => exact (Kd.V_reads' HO695.1).2.1); rintro e w18 ⟨rfl, hb⟩; replace HO692 := vbw HO692 hb; replace HO695 := vbw HO695 hb; replace HO700 := rbw HO700 hb; replace BK688 := bbh BK688 hb; replace BK697 := bbh BK697 hb; replace HB := bst hb; (try clear hb); (try clear hb2); (try clear hk); (try clear hi)))
   go_meet
   case rel => exact ⟨_, (!t701), prs, H', ⟨by first | omega | exact Nat.le_refl _⟩, ⟨pkr HO700.1⟩, ⟨by (with_reducible repeat (first | apply Kd.V_alloc | apply Kd.V_drewN | apply Kd.V_drew)); exact Kd.V_mono HO692.1 (fun _ hk => ⟨hk.2, ⟨hk.1.1, hk.1.2⟩⟩)⟩, ⟨by (with_reducible repeat (first | apply Kd.V_alloc | apply Kd.V_drewN | apply Kd.V_drew)); exact Kd.V_mono HO695.1 (fun _ hk => ⟨hk.2, ⟨hk.1.1, hk.1.2⟩⟩)⟩, ⟨pbk BK688.1⟩, ⟨pbk BK697.1⟩, ⟨pbg⟩⟩
 clear HC4
 try clear c14 hcz10_0 hcz10_1 hcz10_2 hcz17_0 hcz17_1 hcz17_2 hcz6_0 hcz6_1 hcz6_2 hfz10_0 hfz10_1 hfz10_2 hfz17_0 hfz17_1 hfz17_2 hfz6_0 hfz6_1 hfz6_2
 obtain ⟨kq, x25_3, rfl, HA, HJ3, HO_5, HO_698001, HO_698002, BK688, BK697, HB⟩ := hcut
 obtain _ | kj3 := kq
 · exact absurd HA.1 (by simp [petrinetlaw13_NetclassSpreads.j0])
 have H := HA.1
 clear HA
 simp only [petrinetlaw13_NetclassSpreads.j0] at H
 by_cases c19 : x25_3 = true
 · subst c19
   rw [if_pos rfl] at H
   by_cases c20 : t696 = true
   rotate_left
   · replace c20 := Bool.eq_false_iff.mpr c20
     subst c20
     rw [if_neg Bool.false_ne_true] at H
     replace H := bnd H
     obtain ⟨t703, A25, H⟩ := H
     (try dsimp only at H)
     obtain rfl := Option.some.inj H
     go_wp2_with (first | (go_at_call 10; (with_reducible refine (petrinetlaw13_alive.calls kj3  t703 _ A25.1).mono ?_); rintro e w26 ⟨rfl, hb⟩; replace HO_5 := rbw HO_5 hb; replace HO_698001 := vbw HO_698001 hb; replace HO_698002 := vbw HO_698002 hb; replace BK688 := bbh BK688 hb; replace BK697 := bbh BK697 hb; replace HB := bst hb; (try clear hb); (try clear hb2); (try clear hk); (try clear hi)))
     go_ret
     exact ⟨per, pbg⟩
   subst c20
   rw [if_pos rfl] at H
   replace H := ifp H
   obtain ⟨c21, H⟩ := H
   have c21b0 : ((t698.length : Int) == 0) = true := beq_iff_eq.mpr c21
   have c21b1 : ((t698.length : Int) != 0) = false := bne_eq_false_iff_eq.mpr c21
   clear c21
   replace H := bnd H
   obtain ⟨t702, A22, H⟩ := H
   (try dsimp only at H)
   obtain rfl := Option.some.inj H
   obtain ⟨Ao23, co23, eo23⟩ := Kd.R_slice HO_5.1
   subst eo23
   go_wp2_with (first | (go_at_call 10; (with_reducible refine (petrinetlaw13_alive.calls kj3  t702 _ A22.1).mono ?_); rintro e w24 ⟨rfl, hb⟩; replace HO_5 := rbw HO_5 hb; replace HO_698001 := vbw HO_698001 hb; replace HO_698002 := vbw HO_698002 hb; replace BK688 := bbh BK688 hb; replace BK697 := bbh BK697 hb; replace HB := bst hb; (try clear hb); (try clear hb2); (try clear hk); (try clear hi)))
   go_ret
   exact ⟨per, pbg⟩
 replace c19 := Bool.eq_false_iff.mpr c19
 subst c19
 rw [if_neg Bool.false_ne_true] at H
 replace H := ifp H
 obtain ⟨c27, H⟩ := H
 have c27b0 : ((t698.length : Int) == (wrap64 ((t690.length : Int) + (t693.length : Int)))) = true := beq_iff_eq.mpr c27
 have c27b1 : ((t698.length : Int) != (wrap64 ((t690.length : Int) + (t693.length : Int)))) = false := bne_eq_false_iff_eq.mpr c27
 clear c27
 have H' := am H
 clear H
 have hnb28 := NB697_688.1
 have hnc28 := NB688_697.1
 obtain ⟨hcz29_0, hcz29_1, hcz29_2, hfz29_0, hfz29_1, hfz29_2⟩ := cf3 BK697.1
 obtain ⟨Ao30, co30, eo30⟩ := Kd.R_slice HO_5.1
 subst eo30
 go_wp2
 go_loopg [7] kj3 (fun kq v7 w' => ∃ (x7_2 : Int), v7 = .int .i64 x7_2 ∧ Aside0 (petrinetlaw13_NetclassSpreads.l0 kq t698 (t690.length : Int) x7_2 t689 t690 t693 = some r) ∧ Aside0 (kq ≤ kj3) ∧ Aside0 (Kd.R (Kd.int .i64) 3 w' w.heap.size (fun _ => True) (.slice Ao30 t698.length co30) t698) ∧ Aside0 (Kd.V k46 46 w' w.heap.size (fun k_ => some k_ ≠ ((.slice Ao30 t698.length co30) : Value).ownBlock ∧ k_ ≠ gb688 ∧ k_ ≠ gb697) (.slice Ao11 t690.length co11) t690) ∧ Aside0 (Kd.V k41 41 w' w.heap.size (fun k_ => some k_ ≠ ((.slice Ao30 t698.length co30) : Value).ownBlock ∧ k_ ≠ gb688 ∧ k_ ≠ gb697) (.slice Ao12 t693.length co12) t693) ∧ Aside0 (w'.heap[gb688]? = some (.cells #[.string a0_0, (.slice A0_1 l0_1.length c0_1), (.slice A0_2 l0_2.length c0_2)] 25 (0, 0))) ∧ Aside0 (w'.heap[gb697]? = some (.cells #[.string t689, (.slice Ao11 t690.length co11), (.slice Ao12 t693.length co12)] 25 (0, 0))) ∧ Aside0 (Below w.heap.size w w'))
 case atStart => exact ⟨(0), prs, H', ⟨Nat.le_refl _⟩, ⟨pkr HO_5.1⟩, ⟨pkv HO_698001.1⟩, ⟨pkv HO_698002.1⟩, ⟨pbk BK688.1⟩, ⟨pbk BK697.1⟩, ⟨pbg⟩⟩
 clear H'
 try clear c14 c19 c20 c21 c21b0 c21b1 c27 c27b0 c27b1 hcz10_0 hcz10_1 hcz10_2 hcz17_0 hcz17_1 hcz17_2 hcz29_0 hcz29_1 hcz29_2 hcz6_0 hcz6_1 hcz6_2 hfz10_0 hfz10_1 hfz10_2 hfz17_0 hfz17_1 hfz17_2 hfz29_0 hfz29_1 hfz29_2 hfz6_0 hfz6_1 hfz6_2
 obtain ⟨x7_2, rfl, HA, HK2, HO_5, HO_698001, HO_698002, BK688, BK697, HB⟩ := hrel
 obtain _ | k2 := gk
 · exact absurd HA.1 (by simp [petrinetlaw13_NetclassSpreads.l0])
 have H := HA.1
 clear HA
 simp only [petrinetlaw13_NetclassSpreads.l0] at H
 by_cases c31 : x7_2 < (t698.length : Int)
 · rw [if_pos c31] at H
   have c31b0 : decide (x7_2 < (t698.length : Int)) = true := decide_eq_true c31
   clear c31
   replace H := ifp H
   obtain ⟨c32, H⟩ := H
   have c32b0 := decide_eq_true c32
   clear c32
   by_cases c33 : (rd t698 x7_2) < 0
   · rw [if_pos c33] at H
     exact absurd H (by simp)
   rw [if_neg c33] at H
   have c33b0 : decide ((rd t698 x7_2) < 0) = false := decide_eq_false c33
   clear c33
   by_cases c34 : (rd t698 x7_2) > x7_2
   · rw [if_pos c34] at H
     exact absurd H (by simp)
   rw [if_neg c34] at H
   have c34b0 : decide (x7_2 < (rd t698 x7_2)) = false := decide_eq_false c34
   clear c34
   replace H := ifp H
   obtain ⟨c35, H⟩ := H
   have c35b0 := decide_eq_true c35
   clear c35
   replace H := ifp H
   obtain ⟨c36, H⟩ := H
   have c36b0 := decide_eq_true c36
   clear c36
   replace H := ifp H
   obtain ⟨c37, H⟩ := H
   have c37b0 : ((rd t698 (rd t698 x7_2)) == (rd t698 x7_2)) = true := beq_iff_eq.mpr c37
   have c37b1 : ((rd t698 (rd t698 x7_2)) != (rd t698 x7_2)) = false := bne_eq_false_iff_eq.mpr c37
   clear c37
   have H' := am H
   clear H
   try go_wp2
   replace HO_5 := am (Kd.R_drew HO_5.1)
   replace HO_698001 := am (Kd.V_drew HO_698001.1)
   replace HO_698002 := am (Kd.V_drew HO_698002.1)
   replace BK688 := am (blk_drew BK688.1)
   replace BK697 := am (blk_drew BK697.1)
   replace HB := am (below_drew1 HB.1)
   have p704 : 0 ≤ (x7_2 : Int) := dq
   have q704 : x7_2 < (t698.length : Int) := dq
   obtain ⟨ad704, e704, hx704_0⟩ := Kd.at_int (Kd.R_reads' HO_5.1).2.2 x7_2 p704 q704
   cases e704
   replace p704 := eq_true p704
   replace q704 := eq_true q704
   have p705 : 0 ≤ (x7_2 : Int) := dq
   have q705 : x7_2 < (t698.length : Int) := dq
   obtain ⟨ad705, e705, hx705_0⟩ := Kd.at_int (Kd.R_reads' HO_5.1).2.2 x7_2 p705 q705
   obtain rfl : ad704 = ad705 := (by injection e705)
   replace p705 := eq_true p705
   replace q705 := eq_true q705
   have p706 : 0 ≤ (x7_2 : Int) := dq
   have q706 : x7_2 < (t698.length : Int) := dq
   obtain ⟨ad706, e706, hx706_0⟩ := Kd.at_int (Kd.R_reads' HO_5.1).2.2 x7_2 p706 q706
   obtain rfl : ad704 = ad706 := (by injection e706)
   replace p706 := eq_true p706
   replace q706 := eq_true q706
   have p707 : 0 ≤ ((rd t698 x7_2) : Int) := dq
   have q707 : (rd t698 x7_2) < (t698.length : Int) := dq
   obtain ⟨ad707, e707, hx707_0⟩ := Kd.at_int (Kd.R_reads' HO_5.1).2.2 (rd t698 x7_2) p707 q707
   obtain rfl : ad704 = ad707 := (by injection e707)
   replace p707 := eq_true p707
   replace q707 := eq_true q707
   have p708 : 0 ≤ (x7_2 : Int) := dq
   have q708 : x7_2 < (t698.length : Int) := dq
   obtain ⟨ad708, e708, hx708_0⟩ := Kd.at_int (Kd.R_reads' HO_5.1).2.2 x7_2 p708 q708
   obtain rfl : ad704 = ad708 := (by injection e708)
   replace p708 := eq_true p708
   replace q708 := eq_true q708
   refine start_ (n := 27) (S := fun w' => w'.cell? (ad704.add (x7_2).toNat) = some (.int .i64 (rd t698 x7_2)) ∧ w'.cell? (ad704.add (x7_2).toNat) = some (.int .i64 (rd t698 x7_2)) ∧ w'.cell? (ad704.add (x7_2).toNat) = some (.int .i64 (rd t698 x7_2)) ∧ w'.cell? (ad704.add ((rd t698 x7_2)).toNat) = some (.int .i64 (rd t698 (rd t698 x7_2))) ∧ w'.cell? (ad704.add (x7_2).toNat) = some (.int .i64 (rd t698 x7_2))) (ds := []) #[false, false, false, false, false, false, false, false, false, false, false, false, false, false, false, false, false, false, false, false, false, false, false, false, false, false, false] (by kernel_rfl) rfl rfl ⟨hx704_0, hx705_0, hx706_0, hx707_0, hx708_0⟩ (fun hHeld => ?_); refine with_tabW petrinetlaw13_NetclassSpreads.tab11 petrinetlaw13_NetclassSpreads.bits11 (fun HT_ HW_ => ?_)
   generalize wr.drew = w38 at HO_5 HO_698001 HO_698002 BK688 BK697 HB hx704_0 hx705_0 hx706_0 hx707_0 hx708_0 hHeld ⊢
   refine pure_ (i := 0) (N := some 53) (v := ?_) (a' := ?_) #[true, false, false, false, false, false, false, false, false, false, false, false, false, false, false, false, false, false, false, false, false, false, false, false, false, false, false] rfl rfl (any_of HT_.1 (by kernel_rfl)) (fun _ _ _ h => h) (Or.inl ⟨by rfl, ?_⟩) ?_ ?_
   rotate_left
   · intro w'
     go_simp
     with_reducible rfl
   rotate_left
   · simp only [Act.put, List.setIfInBounds_toArray, List.set_cons_zero, List.set_cons_succ, i64_w, i32_w]
     rfl
   refine pure_ (i := 1) (N := some 54) (v := ?_) (a' := ?_) #[true, true, false, false, false, false, false, false, false, false, false, false, false, false, false, false, false, false, false, false, false, false, false, false, false, false, false] rfl rfl (any_of HT_.1 (by kernel_rfl)) (fun _ _ _ h => h) (Or.inl ⟨by rfl, ?_⟩) ?_ ?_
   rotate_left
   · intro w'
     go_simp
     with_reducible rfl
   rotate_left
   · simp only [Act.put, List.setIfInBounds_toArray, List.set_cons_zero, List.set_cons_succ, i64_w, i32_w]
     rfl
   refine pure_ (i := 2) (N := some 55) (v := ?_) (a' := ?_) #[true, true, true, false, false, false, false, false, false, false, false, false, false, false, false, false, false, false, false, false, false, false, false, false, false, false, false] rfl rfl (any_of HT_.1 (by kernel_rfl)) (fun _ _ _ h => h) (Or.inl ⟨by rfl, ?_⟩) ?_ ?_
   rotate_left
   · intro w'
     go_simp
     with_reducible rfl
   rotate_left
   · simp only [Act.put, List.setIfInBounds_toArray, List.set_cons_zero, List.set_cons_succ, i64_w, i32_w]
     rfl
   refine take_ (i := 3) (N := some 56) (v := ?_) (a' := ?_) #[true, true, true, true, false, false, false, false, false, false, false, false, false, false, false, false, false, false, false, false, false, false, false, false, false, false, false] rfl rfl (take_ofW HT_.1 HW_.1 (by kernel_rfl)) (fun _ _ _ h => h) (Or.inl ⟨by rfl, ?_⟩) hHeld ?_ ?_
   rotate_left
   · rintro w' ⟨s0, s1, s2, s3, s4⟩
     go_simp
     with_reducible rfl
   rotate_left
   · simp only [Act.put, List.setIfInBounds_toArray, List.set_cons_zero, List.set_cons_succ, i64_w, i32_w]
     rfl
   refine pure_ (i := 4) (N := some 57) (v := ?_) (a' := ?_) #[true, true, true, true, true, false, false, false, false, false, false, false, false, false, false, false, false, false, false, false, false, false, false, false, false, false, false] rfl rfl (any_of HT_.1 (by kernel_rfl)) (fun _ _ _ h => h) (Or.inl ⟨by rfl, ?_⟩) ?_ ?_
   rotate_left
   · intro w'
     go_simp
     with_reducible rfl
   rotate_left
   · simp only [Act.put, List.setIfInBounds_toArray, List.set_cons_zero, List.set_cons_succ, i64_w, i32_w]
     rfl
   refine pure_ (i := 5) (N := some 58) (v := ?_) (a' := ?_) #[true, true, true, true, true, true, false, false, false, false, false, false, false, false, false, false, false, false, false, false, false, false, false, false, false, false, false] rfl rfl (any_of HT_.1 (by kernel_rfl)) (fun _ _ _ h => h) (Or.inl ⟨by rfl, ?_⟩) ?_ ?_
   rotate_left
   · intro w'
     go_simp
     with_reducible rfl
   rotate_left
   · simp only [Act.put, List.setIfInBounds_toArray, List.set_cons_zero, List.set_cons_succ, i64_w, i32_w]
     rfl
   refine pure_ (i := 6) (N := some 59) (v := ?_) (a' := ?_) #[true, true, true, true, true, true, true, false, false, false, false, false, false, false, false, false, false, false, false, false, false, false, false, false, false, false, false] rfl rfl (any_of HT_.1 (by kernel_rfl)) (fun _ _ _ h => h) (Or.inl ⟨by rfl, ?_⟩) ?_ ?_
   rotate_left
   · intro w'
     go_simp
     with_reducible rfl
   rotate_left
   · simp only [Act.put, List.setIfInBounds_toArray, List.set_cons_zero, List.set_cons_succ, i64_w, i32_w]
     rfl
   refine pure_ (i := 7) (N := some 60) (v := ?_) (a' := ?_) #[true, true, true, true, true, true, true, true, false, false, false, false, false, false, false, false, false, false, false, false, false, false, false, false, false, false, false] rfl rfl (any_of HT_.1 (by kernel_rfl)) (fun _ _ _ h => h) (Or.inl ⟨by rfl, ?_⟩) ?_ ?_
   rotate_left
   · intro w'
     go_simp
     with_reducible rfl
   rotate_left
   · simp only [Act.put, List.setIfInBounds_toArray, List.set_cons_zero, List.set_cons_succ, i64_w, i32_w]
     rfl
   refine pure_ (i := 8) (N := some 61) (v := ?_) (a' := ?_) #[true, true, true, true, true, true, true, true, true, false, false, false, false, false, false, false, false, false, false, false, false, false, false, false, false, false, false] rfl rfl (any_of HT_.1 (by kernel_rfl)) (fun _ _ _ h => h) (Or.inl ⟨by rfl, ?_⟩) ?_ ?_
   rotate_left
   · intro w'
     go_simp
     with_reducible rfl
   rotate_left
   · simp only [Act.put, List.setIfInBounds_toArray, List.set_cons_zero, List.set_cons_succ, i64_w, i32_w]
     rfl
   refine pure_ (i := 10) (N := some 63) (v := ?_) (a' := ?_) #[true, true, true, true, true, true, true, true, true, false, true, false, false, false, false, false, false, false, false, false, false, false, false, false, false, false, false] rfl rfl (any_of HT_.1 (by kernel_rfl)) (fun _ _ _ h => h) (Or.inl ⟨by rfl, ?_⟩) ?_ ?_
   rotate_left
   · intro w'
     go_simp
     with_reducible rfl
   rotate_left
   · simp only [Act.put, List.setIfInBounds_toArray, List.set_cons_zero, List.set_cons_succ, i64_w, i32_w]
     rfl
   refine take_ (i := 9) (N := some 62) (v := ?_) (a' := ?_) #[true, true, true, true, true, true, true, true, true, true, true, false, false, false, false, false, false, false, false, false, false, false, false, false, false, false, false] rfl rfl (take_ofW HT_.1 HW_.1 (by kernel_rfl)) (fun _ _ _ h => h) (Or.inl ⟨by rfl, ?_⟩) hHeld ?_ ?_
   rotate_left
   · rintro w' ⟨s0, s1, s2, s3, s4⟩
     go_simp
     with_reducible rfl
   rotate_left
   · simp only [Act.put, List.setIfInBounds_toArray, List.set_cons_zero, List.set_cons_succ, i64_w, i32_w]
     rfl
   refine pure_ (i := 11) (N := some 64) (v := ?_) (a' := ?_) #[true, true, true, true, true, true, true, true, true, true, true, true, false, false, false, false, false, false, false, false, false, false, false, false, false, false, false] rfl rfl (any_of HT_.1 (by kernel_rfl)) (fun _ _ _ h => h) (Or.inl ⟨by rfl, ?_⟩) ?_ ?_
   rotate_left
   · intro w'
     go_simp
     with_reducible rfl
   rotate_left
   · simp only [Act.put, List.setIfInBounds_toArray, List.set_cons_zero, List.set_cons_succ, i64_w, i32_w]
     rfl
   refine pure_ (i := 12) (N := some 65) (v := ?_) (a' := ?_) #[true, true, true, true, true, true, true, true, true, true, true, true, true, false, false, false, false, false, false, false, false, false, false, false, false, false, false] rfl rfl (any_of HT_.1 (by kernel_rfl)) (fun _ _ _ h => h) (Or.inl ⟨by rfl, ?_⟩) ?_ ?_
   rotate_left
   · intro w'
     go_simp
     with_reducible rfl
   rotate_left
   · simp only [Act.put, List.setIfInBounds_toArray, List.set_cons_zero, List.set_cons_succ, i64_w, i32_w]
     rfl
   refine pure_ (i := 13) (N := some 66) (v := ?_) (a' := ?_) #[true, true, true, true, true, true, true, true, true, true, true, true, true, true, false, false, false, false, false, false, false, false, false, false, false, false, false] rfl rfl (any_of HT_.1 (by kernel_rfl)) (fun _ _ _ h => h) (Or.inl ⟨by rfl, ?_⟩) ?_ ?_
   rotate_left
   · intro w'
     go_simp
     with_reducible rfl
   rotate_left
   · simp only [Act.put, List.setIfInBounds_toArray, List.set_cons_zero, List.set_cons_succ, i64_w, i32_w]
     rfl
   refine pure_ (i := 14) (N := some 67) (v := ?_) (a' := ?_) #[true, true, true, true, true, true, true, true, true, true, true, true, true, true, true, false, false, false, false, false, false, false, false, false, false, false, false] rfl rfl (any_of HT_.1 (by kernel_rfl)) (fun _ _ _ h => h) (Or.inl ⟨by rfl, ?_⟩) ?_ ?_
   rotate_left
   · intro w'
     go_simp
     with_reducible rfl
   rotate_left
   · simp only [Act.put, List.setIfInBounds_toArray, List.set_cons_zero, List.set_cons_succ, i64_w, i32_w]
     rfl
   refine pure_ (i := 15) (N := some 68) (v := ?_) (a' := ?_) #[true, true, true, true, true, true, true, true, true, true, true, true, true, true, true, true, false, false, false, false, false, false, false, false, false, false, false] rfl rfl (any_of HT_.1 (by kernel_rfl)) (fun _ _ _ h => h) (Or.inl ⟨by rfl, ?_⟩) ?_ ?_
   rotate_left
   · intro w'
     go_simp
     with_reducible rfl
   rotate_left
   · simp only [Act.put, List.setIfInBounds_toArray, List.set_cons_zero, List.set_cons_succ, i64_w, i32_w]
     rfl
   refine pure_ (i := 16) (N := some 69) (v := ?_) (a' := ?_) #[true, true, true, true, true, true, true, true, true, true, true, true, true, true, true, true, true, false, false, false, false, false, false, false, false, false, false] rfl rfl (any_of HT_.1 (by kernel_rfl)) (fun _ _ _ h => h) (Or.inl ⟨by rfl, ?_⟩) ?_ ?_
   rotate_left
   · intro w'
     go_simp
     with_reducible rfl
   rotate_left
   · simp only [Act.put, List.setIfInBounds_toArray, List.set_cons_zero, List.set_cons_succ, i64_w, i32_w]
     rfl
   refine pure_ (i := 17) (N := some 70) (v := ?_) (a' := ?_) #[true, true, true, true, true, true, true, true, true, true, true, true, true, true, true, true, true, true, false, false, false, false, false, false, false, false, false] rfl rfl (any_of HT_.1 (by kernel_rfl)) (fun _ _ _ h => h) (Or.inl ⟨by rfl, ?_⟩) ?_ ?_
   rotate_left
   · intro w'
     go_simp
     with_reducible rfl
   rotate_left
   · simp only [Act.put, List.setIfInBounds_toArray, List.set_cons_zero, List.set_cons_succ, i64_w, i32_w]
     rfl
   refine pure_ (i := 21) (N := some 74) (v := ?_) (a' := ?_) #[true, true, true, true, true, true, true, true, true, true, true, true, true, true, true, true, true, true, false, false, false, true, false, false, false, false, false] rfl rfl (any_of HT_.1 (by kernel_rfl)) (fun _ _ _ h => h) (Or.inl ⟨by rfl, ?_⟩) ?_ ?_
   rotate_left
   · intro w'
     go_simp
     with_reducible rfl
   rotate_left
   · simp only [Act.put, List.setIfInBounds_toArray, List.set_cons_zero, List.set_cons_succ, i64_w, i32_w]
     rfl
   refine pure_ (i := 22) (N := some 75) (v := ?_) (a' := ?_) #[true, true, true, true, true, true, true, true, true, true, true, true, true, true, true, true, true, true, false, false, false, true, true, false, false, false, false] rfl rfl (any_of HT_.1 (by kernel_rfl)) (fun _ _ _ h => h) (Or.inl ⟨by rfl, ?_⟩) ?_ ?_
   rotate_left
   · intro w'
     go_simp
     with_reducible rfl
   rotate_left
   · simp only [Act.put, List.setIfInBounds_toArray, List.set_cons_zero, List.set_cons_succ, i64_w, i32_w]
     rfl
   refine pure_ (i := 23) (N := some 76) (v := ?_) (a' := ?_) #[true, true, true, true, true, true, true, true, true, true, true, true, true, true, true, true, true, true, false, false, false, true, true, true, false, false, false] rfl rfl (any_of HT_.1 (by kernel_rfl)) (fun _ _ _ h => h) (Or.inl ⟨by rfl, ?_⟩) ?_ ?_
   rotate_left
   · intro w'
     go_simp
     with_reducible rfl
   rotate_left
   · simp only [Act.put, List.setIfInBounds_toArray, List.set_cons_zero, List.set_cons_succ, i64_w, i32_w]
     rfl
   refine take_ (i := 18) (N := some 71) (v := ?_) (a' := ?_) #[true, true, true, true, true, true, true, true, true, true, true, true, true, true, true, true, true, true, true, false, false, true, true, true, false, false, false] rfl rfl (take_ofW HT_.1 HW_.1 (by kernel_rfl)) (fun _ _ _ h => h) (Or.inl ⟨by rfl, ?_⟩) hHeld ?_ ?_
   rotate_left
   · rintro w' ⟨s0, s1, s2, s3, s4⟩
     go_simp
     with_reducible rfl
   rotate_left
   · simp only [Act.put, List.setIfInBounds_toArray, List.set_cons_zero, List.set_cons_succ, i64_w, i32_w]
     rfl
   refine pure_ (i := 19) (N := some 72) (v := ?_) (a' := ?_) #[true, true, true, true, true, true, true, true, true, true, true, true, true, true, true, true, true, true, true, true, false, true, true, true, false, false, false] rfl rfl (any_of HT_.1 (by kernel_rfl)) (fun _ _ _ h => h) (Or.inl ⟨by rfl, ?_⟩) ?_ ?_
   rotate_left
   · intro w'
     go_simp
     with_reducible rfl
   rotate_left
   · simp only [Act.put, List.setIfInBounds_toArray, List.set_cons_zero, List.set_cons_succ, i64_w, i32_w]
     rfl
   refine take_ (i := 20) (N := some 73) (v := ?_) (a' := ?_) #[true, true, true, true, true, true, true, true, true, true, true, true, true, true, true, true, true, true, true, true, true, true, true, true, false, false, false] rfl rfl (take_ofW HT_.1 HW_.1 (by kernel_rfl)) (fun _ _ _ h => h) (Or.inl ⟨by rfl, ?_⟩) hHeld ?_ ?_
   rotate_left
   · rintro w' ⟨s0, s1, s2, s3, s4⟩
     go_simp
     with_reducible rfl
   rotate_left
   · simp only [Act.put, List.setIfInBounds_toArray, List.set_cons_zero, List.set_cons_succ, i64_w, i32_w]
     rfl
   refine take_ (i := 24) (N := some 77) (v := ?_) (a' := ?_) #[true, true, true, true, true, true, true, true, true, true, true, true, true, true, true, true, true, true, true, true, true, true, true, true, true, false, false] rfl rfl (take_ofW HT_.1 HW_.1 (by kernel_rfl)) (fun _ _ _ h => h) (Or.inl ⟨by rfl, ?_⟩) hHeld ?_ ?_
   rotate_left
   · rintro w' ⟨s0, s1, s2, s3, s4⟩
     go_simp
     with_reducible rfl
   rotate_left
   · simp only [Act.put, List.setIfInBounds_toArray, List.set_cons_zero, List.set_cons_succ, i64_w, i32_w]
     rfl
   refine pure_ (i := 25) (N := some 78) (v := ?_) (a' := ?_) #[true, true, true, true, true, true, true, true, true, true, true, true, true, true, true, true, true, true, true, true, true, true, true, true, true, true, false] rfl rfl (any_of HT_.1 (by kernel_rfl)) (fun _ _ _ h => h) (Or.inl ⟨by rfl, ?_⟩) ?_ ?_
   rotate_left
   · intro w'
     go_simp
     with_reducible rfl
   rotate_left
   · simp only [Act.put, List.setIfInBounds_toArray, List.set_cons_zero, List.set_cons_succ, i64_w, i32_w]
     rfl
   refine pure_ (i := 26) (N := some 79) (v := ?_) (a' := ?_) #[true, true, true, true, true, true, true, true, true, true, true, true, true, true, true, true, true, true, true, true, true, true, true, true, true, true, true] rfl rfl (any_of HT_.1 (by kernel_rfl)) (fun _ _ _ h => h) (Or.inl ⟨by rfl, ?_⟩) ?_ ?_
   rotate_left
   · intro w'
     go_simp
     with_reducible rfl
   rotate_left
   · simp only [Act.put, List.setIfInBounds_toArray, List.set_cons_zero, List.set_cons_succ, i64_w, i32_w]
     rfl
   refine done_ (done_of HT_.1 (by kernel_rfl)) ?_
   try go_wp2
   go_roundg k2
   case measure => have := HJ3.1; have := HK2.1; omega
   case rel => exact ⟨(wrap64 (x7_2 + 1)), prs, H', ⟨by have := HJ3.1; have := HK2.1; omega⟩, ⟨pkr HO_5.1⟩, ⟨pkv HO_698001.1⟩, ⟨pkv HO_698002.1⟩, ⟨pbk BK688.1⟩, ⟨pbk BK697.1⟩, ⟨pbg⟩⟩
 rw [if_neg c31] at H
 have c31b0 : decide (x7_2 < (t698.length : Int)) = false := decide_eq_false c31
 clear c31
 replace H := bnd H
 obtain ⟨t709, A39, H⟩ := H
 (try dsimp only at H)
 have H' := am H
 clear H
 have hnb40 := NB697_688.1
 have hnc40 := NB688_697.1
 obtain ⟨hcz41_0, hcz41_1, hcz41_2, hfz41_0, hfz41_1, hfz41_2⟩ := cf3 BK697.1
 go_wp2_with (first | ((with_reducible refine gate_callee (f := 22) rfl ?_); refine goesL_ (some 81) rfl rfl Try.func22 (by kernel_rfl) rfl #[.agg #[.string t689, .slice Ao11 t690.length co11, .slice Ao12 t693.length co12]] rfl pgz ?_; (with_reducible refine (netclass_FreeChoice.calls k2 t689 _ _ t690 _ _ t693 t709 _ ?side1 ?side2 ?side3 ?side4 A39.1).mono ?_); (case side1 => exact csd ((Kd.V_reads' HO_698001.1).2.2)); (case side2 => exact (Kd.V_reads' HO_698001.1).2.1); (case side3 => exact csd ((Kd.V_reads' HO_698002.1).2.2)); (case side4 => exact (Kd.V_reads' HO_698002.1).2.1); rintro e w42 ⟨rfl, hb⟩; refine ⟨_, rfl, ?_⟩; replace HO_5 := rbw HO_5 hb; replace HO_698001 := vbw HO_698001 hb; replace HO_698002 := vbw HO_698002 hb; replace BK688 := bbh BK688 hb; replace BK697 := bbh BK697 hb; replace HB := bst hb; (try clear hb); (try clear hb2); (try clear hk); (try clear hi)))
 go_loopg [9] k2 (fun kq v9 w' => ∃ (x9_3 : Int), v9 = .int .i64 x9_3 ∧ Aside0 (petrinetlaw13_NetclassSpreads.l1 kq t698 (t690.length : Int) t709 x9_3 t689 t690 t693 = some r) ∧ Aside0 (kq ≤ k2) ∧ Aside0 (Kd.R (Kd.int .i64) 3 w' w.heap.size (fun _ => True) (.slice Ao30 t698.length co30) t698) ∧ Aside0 (Kd.V k46 46 w' w.heap.size (fun k_ => some k_ ≠ ((.slice Ao30 t698.length co30) : Value).ownBlock ∧ k_ ≠ gb688 ∧ k_ ≠ gb697) (.slice Ao11 t690.length co11) t690) ∧ Aside0 (Kd.V k41 41 w' w.heap.size (fun k_ => some k_ ≠ ((.slice Ao30 t698.length co30) : Value).ownBlock ∧ k_ ≠ gb688 ∧ k_ ≠ gb697) (.slice Ao12 t693.length co12) t693) ∧ Aside0 (w'.heap[gb688]? = some (.cells #[.string a0_0, (.slice A0_1 l0_1.length c0_1), (.slice A0_2 l0_2.length c0_2)] 25 (0, 0))) ∧ Aside0 (w'.heap[gb697]? = some (.cells #[.string t689, (.slice Ao11 t690.length co11), (.slice Ao12 t693.length co12)] 25 (0, 0))) ∧ Aside0 (Below w.heap.size w w'))
 case atStart => exact ⟨(0), prs, H', ⟨Nat.le_refl _⟩, ⟨pkr HO_5.1⟩, ⟨pkv HO_698001.1⟩, ⟨pkv HO_698002.1⟩, ⟨pbk BK688.1⟩, ⟨pbk BK697.1⟩, ⟨pbg⟩⟩
 clear H'
 try clear c14 c19 c20 c21 c21b0 c21b1 c27 c27b0 c27b1 c31 c31b0 c32 c32b0 c33 c33b0 c34 c34b0 c35 c35b0 c36 c36b0 c37 c37b0 c37b1 hcz10_0 hcz10_1 hcz10_2 hcz17_0 hcz17_1 hcz17_2 hcz29_0 hcz29_1 hcz29_2 hcz41_0 hcz41_1 hcz41_2 hcz6_0 hcz6_1 hcz6_2 hfz10_0 hfz10_1 hfz10_2 hfz17_0 hfz17_1 hfz17_2 hfz29_0 hfz29_1 hfz29_2 hfz41_0 hfz41_1 hfz41_2 hfz6_0 hfz6_1 hfz6_2 hx704_0 hx705_0 hx706_0 hx707_0 hx708_0 p704 p705 p706 p707 p708 q704 q705 q706 q707 q708
 obtain ⟨x9_3, rfl, HA, HK3, HO_5, HO_698001, HO_698002, BK688, BK697, HB⟩ := hrel
 obtain _ | k3 := gk
 · exact absurd HA.1 (by simp [petrinetlaw13_NetclassSpreads.l1])
 have H := HA.1
 clear HA
 simp only [petrinetlaw13_NetclassSpreads.l1] at H
 by_cases c43 : x9_3 < (t693.length : Int)
 rotate_left
 · rw [if_neg c43] at H
   have c43b0 : decide (x9_3 < (t693.length : Int)) = false := decide_eq_false c43
   clear c43
   replace H := bnd H
   obtain ⟨t710, A85, H⟩ := H
   (try dsimp only at H)
   obtain rfl := Option.some.inj H
   have hnb86 := NB697_688.1
   have hnc86 := NB688_697.1
   obtain ⟨hcz87_0, hcz87_1, hcz87_2, hfz87_0, hfz87_1, hfz87_2⟩ := cf3 BK697.1
   go_wp2_with (first | ((with_reducible refine gate_callee (f := 10) rfl ?_); refine goesL_ (some 159) rfl rfl Try.func10 (by kernel_rfl) rfl #[] rfl pgz ?_; (with_reducible refine (petrinetlaw13_alive.calls k3  t710 _ A85.1).mono ?_); rintro e w88 ⟨rfl, hb⟩; refine ⟨_, rfl, ?_⟩; replace HO_5 := rbw HO_5 hb; replace HO_698001 := vbw HO_698001 hb; replace HO_698002 := vbw HO_698002 hb; replace BK688 := bbh BK688 hb; replace BK697 := bbh BK697 hb; replace HB := bst hb; (try clear hb); (try clear hb2); (try clear hk); (try clear hi)))
   go_ret
   exact ⟨per, pbg⟩
 rw [if_pos c43] at H
 have c43b0 : decide (x9_3 < (t693.length : Int)) = true := decide_eq_true c43
 clear c43
 have H' := am H
 clear H
 have hnb44 := NB697_688.1
 have hnc44 := NB688_697.1
 obtain ⟨hcz45_0, hcz45_1, hcz45_2, hfz45_0, hfz45_1, hfz45_2⟩ := cf3 BK697.1
 go_wp2
 go_loopg [10] k3 (fun kq v10 w' => ∃ (x10_4 : Int), v10 = .int .i64 x10_4 ∧ Aside0 (petrinetlaw13_NetclassSpreads.l2 kq t698 (t690.length : Int) t709 x9_3 x10_4 t689 t690 t693 = some r) ∧ Aside0 (kq ≤ k3) ∧ Aside0 (Kd.R (Kd.int .i64) 3 w' w.heap.size (fun _ => True) (.slice Ao30 t698.length co30) t698) ∧ Aside0 (Kd.V k46 46 w' w.heap.size (fun k_ => some k_ ≠ ((.slice Ao30 t698.length co30) : Value).ownBlock ∧ k_ ≠ gb688 ∧ k_ ≠ gb697) (.slice Ao11 t690.length co11) t690) ∧ Aside0 (Kd.V k41 41 w' w.heap.size (fun k_ => some k_ ≠ ((.slice Ao30 t698.length co30) : Value).ownBlock ∧ k_ ≠ gb688 ∧ k_ ≠ gb697) (.slice Ao12 t693.length co12) t693) ∧ Aside0 (w'.heap[gb688]? = some (.cells #[.string a0_0, (.slice A0_1 l0_1.length c0_1), (.slice A0_2 l0_2.length c0_2)] 25 (0, 0))) ∧ Aside0 (w'.heap[gb697]? = some (.cells #[.string t689, (.slice Ao11 t690.length co11), (.slice Ao12 t693.length co12)] 25 (0, 0))) ∧ Aside0 (Below w.heap.size w w'))
 case atStart => exact ⟨(0), prs, H', ⟨Nat.le_refl _⟩, ⟨pkr HO_5.1⟩, ⟨pkv HO_698001.1⟩, ⟨pkv HO_698002.1⟩, ⟨pbk BK688.1⟩, ⟨pbk BK697.1⟩, ⟨pbg⟩⟩
 clear H'
 try clear c14 c19 c20 c21 c21b0 c21b1 c27 c27b0 c27b1 c31 c31b0 c32 c32b0 c33 c33b0 c34 c34b0 c35 c35b0 c36 c36b0 c37 c37b0 c37b1 c43 c43b0 hcz10_0 hcz10_1 hcz10_2 hcz17_0 hcz17_1 hcz17_2 hcz29_0 hcz29_1 hcz29_2 hcz41_0 hcz41_1 hcz41_2 hcz45_0 hcz45_1 hcz45_2 hcz6_0 hcz6_1 hcz6_2 hfz10_0 hfz10_1 hfz10_2 hfz17_0 hfz17_1 hfz17_2 hfz29_0 hfz29_1 hfz29_2 hfz41_0 hfz41_1 hfz41_2 hfz45_0 hfz45_1 hfz45_2 hfz6_0 hfz6_1 hfz6_2 hx704_0 hx705_0 hx706_0 hx707_0 hx708_0 p704 p705 p706 p707 p708 q704 q705 q706 q707 q708
 obtain ⟨x10_4, rfl, HA, HK4, HO_5, HO_698001, HO_698002, BK688, BK697, HB⟩ := hrel
 obtain _ | k4 := gk
 · exact absurd HA.1 (by simp [petrinetlaw13_NetclassSpreads.l2])
 have H := HA.1
 clear HA
 simp only [petrinetlaw13_NetclassSpreads.l2] at H
 replace H := ifp H
 obtain ⟨c46, H⟩ := H
 have c46b0 := decide_eq_true c46
 clear c46
 replace H := ifp H
 obtain ⟨c47, H⟩ := H
 have c47b0 := decide_eq_true c47
 clear c47
 by_cases c48 : x10_4 < (((rd_T41 t693 x9_3).f1).length : Int)
 · rw [if_pos c48] at H
   have c48b0 : decide (x10_4 < (((rd_T41 t693 x9_3).f1).length : Int)) = true := decide_eq_true c48
   clear c48
   replace H := ifp H
   obtain ⟨c49, H⟩ := H
   have c49b0 := decide_eq_true c49
   clear c49
   replace H := ifp H
   obtain ⟨c50, H⟩ := H
   have c50b0 := decide_eq_true c50
   clear c50
   replace H := ifp H
   obtain ⟨c51, H⟩ := H
   have c51b0 := decide_eq_true c51
   clear c51
   obtain ⟨ji52, hji52⟩ : ∃ j_ : Int, (wrap64 ((t690.length : Int) + x9_3)) = j_ := ⟨_, rfl⟩
   replace H : (if 0 ≤ (ji52) then (if (ji52) < (t698.length : Int) then (if (rd t698 ((rd_T43 ((rd_T41 t693 x9_3).f1) x10_4).f0)) = (rd t698 (ji52)) then (petrinetlaw13_NetclassSpreads.l2 k4 t698 (t690.length : Int) t709 x9_3 (wrap64 (x10_4 + 1)) t689 t690 t693) else (none)) else (none)) else (none)) = some r := by first | (rw [hji52] at H; exact H) | (simp only [hji52] at H ⊢; exact H)
   have hji52w : (IntKind.i64.wrap ((t690.length : Int) + x9_3)) = ji52 := (i64_w _).trans hji52
   replace H := ifp H
   obtain ⟨c53, H⟩ := H
   have c53b0 := decide_eq_true c53
   clear c53
   replace H := ifp H
   obtain ⟨c54, H⟩ := H
   have c54b0 := decide_eq_true c54
   clear c54
   replace H := ifp H
   obtain ⟨c55, H⟩ := H
   have c55b0 : ((rd t698 ((rd_T43 ((rd_T41 t693 x9_3).f1) x10_4).f0)) == (rd t698 (ji52))) = true := beq_iff_eq.mpr c55
   have c55b1 : ((rd t698 ((rd_T43 ((rd_T41 t693 x9_3).f1) x10_4).f0)) != (rd t698 (ji52))) = false := bne_eq_false_iff_eq.mpr c55
   clear c55
   have H' := am H
   clear H
   have hnb56 := NB697_688.1
   have hnc56 := NB688_697.1
   obtain ⟨hcz57_0, hcz57_1, hcz57_2, hfz57_0, hfz57_1, hfz57_2⟩ := cf3 BK697.1
   have p711 : 0 ≤ (x9_3 : Int) := dq
   have q711 : x9_3 < (t693.length : Int) := dq
   obtain ⟨ad711, A711_1, c711_1, A711_2, c711_2, A711_3, c711_3, e711, hx711_0, hx711_1, hx711_2, hx711_3, hx711_4, hl711_1, hi711_1, hl711_2, hi711_2, hl711_3, hi711_3⟩ := at_T41 (Kd.V_reads' HO_698002.1).2.2 x9_3 p711 q711
   cases e711
   obtain ⟨ce711, hce711, hMe711, hcc711⟩ := Kd.V_get HO_698002.1 z41 x9_3 p711 (by first | exact q711 | exact dq | (have e_ := (Kd.V_reads' HO_698002.1).1; omega))
   obtain ⟨ua711_1, uc711_1, ua711_2, uc711_2, ua711_3, uc711_3, rfl, ul711_1, ge711_1, ul711_2, ge711_2, ul711_3, ge711_3⟩ := k41_openF hMe711
   have hv711_1 := hcc711 1 _ rfl
   rw [add_field _ _ 1 (by omega)] at hv711_1
   replace hv711_1 := Option.some.inj (hv711_1.symm.trans hx711_1)
   injection hv711_1 with hva_ hvn_ hvc_
   rw [hva_] at ge711_1
   rw [hvc_] at ul711_1
   have HL711_1 := am (show Kd.V k43 43 _ w.heap.size _ _ ((rd_T41 t693 x9_3).f1) from Kd.V_mk ul711_1 ge711_1)
   clear hva_ hvn_ hvc_ ge711_1 ul711_1
   have hv711_2 := hcc711 2 _ rfl
   rw [add_field _ _ 2 (by omega)] at hv711_2
   replace hv711_2 := Option.some.inj (hv711_2.symm.trans hx711_2)
   injection hv711_2 with hva_ hvn_ hvc_
   rw [hva_] at ge711_2
   rw [hvc_] at ul711_2
   have HL711_2 := am (show Kd.V k43 43 _ w.heap.size _ _ ((rd_T41 t693 x9_3).f2) from Kd.V_mk ul711_2 ge711_2)
   clear hva_ hvn_ hvc_ ge711_2 ul711_2
   have hv711_3 := hcc711 3 _ rfl
   rw [add_field _ _ 3 (by omega)] at hv711_3
   replace hv711_3 := Option.some.inj (hv711_3.symm.trans hx711_3)
   injection hv711_3 with hva_ hvn_ hvc_
   rw [hva_] at ge711_3
   rw [hvc_] at ul711_3
   have HL711_3 := am (show Kd.V k43 43 _ w.heap.size _ _ ((rd_T41 t693 x9_3).f3) from Kd.V_mk ul711_3 ge711_3)
   clear hva_ hvn_ hvc_ ge711_3 ul711_3 hcc711 hce711
   have HR711_1 := am hi711_1
   have HC711_1 := am hl711_1
   clear hi711_1 hl711_1
   have HR711_2 := am hi711_2
   have HC711_2 := am hl711_2
   clear hi711_2 hl711_2
   have HR711_3 := am hi711_3
   have HC711_3 := am hl711_3
   clear hi711_3 hl711_3
   replace p711 := eq_true p711
   replace q711 := eq_true q711
   try go_wp2
   replace HO_5 := am (Kd.R_drew HO_5.1)
   replace HO_698001 := am (Kd.V_drew HO_698001.1)
   replace HO_698002 := am (Kd.V_drew HO_698002.1)
   replace HL711_1 := am (Kd.V_drew HL711_1.1)
   replace HL711_2 := am (Kd.V_drew HL711_2.1)
   replace HL711_3 := am (Kd.V_drew HL711_3.1)
   replace BK688 := am (blk_drew BK688.1)
   replace BK697 := am (blk_drew BK697.1)
   replace HR711_1 := am (Kd.C_drew HR711_1.1)
   replace HR711_2 := am (Kd.C_drew HR711_2.1)
   replace HR711_3 := am (Kd.C_drew HR711_3.1)
   replace HB := am (below_drew1 HB.1)
   have p712 : 0 ≤ (x9_3 : Int) := dq
   have q712 : x9_3 < (t693.length : Int) := dq
   obtain ⟨ad712, A712_1, c712_1, A712_2, c712_2, A712_3, c712_3, e712, hx712_0, hx712_1, hx712_2, hx712_3, hx712_4, hl712_1, hi712_1, hl712_2, hi712_2, hl712_3, hi712_3⟩ := at_T41 (Kd.V_reads' HO_698002.1).2.2 x9_3 p712 q712
   obtain rfl : ad711 = ad712 := (by injection e712)
   obtain ⟨ce712, hce712, hMe712, hcc712⟩ := Kd.V_get HO_698002.1 z41 x9_3 p712 (by first | exact q712 | exact dq | (have e_ := (Kd.V_reads' HO_698002.1).1; omega))
   obtain ⟨ua712_1, uc712_1, ua712_2, uc712_2, ua712_3, uc712_3, rfl, ul712_1, ge712_1, ul712_2, ge712_2, ul712_3, ge712_3⟩ := k41_openF hMe712
   have hv712_1 := hcc712 1 _ rfl
   rw [add_field _ _ 1 (by omega)] at hv712_1
   replace hv712_1 := Option.some.inj (hv712_1.symm.trans hx712_1)
   injection hv712_1 with hva_ hvn_ hvc_
   rw [hva_] at ge712_1
   rw [hvc_] at ul712_1
   have HL712_1 := am (show Kd.V k43 43 _ w.heap.size _ _ ((rd_T41 t693 x9_3).f1) from Kd.V_mk ul712_1 ge712_1)
   clear hva_ hvn_ hvc_ ge712_1 ul712_1
   have hv712_2 := hcc712 2 _ rfl
   rw [add_field _ _ 2 (by omega)] at hv712_2
   replace hv712_2 := Option.some.inj (hv712_2.symm.trans hx712_2)
   injection hv712_2 with hva_ hvn_ hvc_
   rw [hva_] at ge712_2
   rw [hvc_] at ul712_2
   have HL712_2 := am (show Kd.V k43 43 _ w.heap.size _ _ ((rd_T41 t693 x9_3).f2) from Kd.V_mk ul712_2 ge712_2)
   clear hva_ hvn_ hvc_ ge712_2 ul712_2
   have hv712_3 := hcc712 3 _ rfl
   rw [add_field _ _ 3 (by omega)] at hv712_3
   replace hv712_3 := Option.some.inj (hv712_3.symm.trans hx712_3)
   injection hv712_3 with hva_ hvn_ hvc_
   rw [hva_] at ge712_3
   rw [hvc_] at ul712_3
   have HL712_3 := am (show Kd.V k43 43 _ w.heap.size _ _ ((rd_T41 t693 x9_3).f3) from Kd.V_mk ul712_3 ge712_3)
   clear hva_ hvn_ hvc_ ge712_3 ul712_3 hcc712 hce712
   have HR712_1 := am hi712_1
   have HC712_1 := am hl712_1
   clear hi712_1 hl712_1
   have HR712_2 := am hi712_2
   have HC712_2 := am hl712_2
   clear hi712_2 hl712_2
   have HR712_3 := am hi712_3
   have HC712_3 := am hl712_3
   clear hi712_3 hl712_3
   replace p712 := eq_true p712
   replace q712 := eq_true q712
   have p713 : 0 ≤ (x10_4 : Int) := dq
   have q713 : x10_4 < (((rd_T41 t693 x9_3).f1).length : Int) := dq
   obtain ⟨ad713, e713, hx713_0, hx713_1⟩ := at_T43 (by repeat (first | (with_reducible exact HR712_1.1) | (with_reducible refine Kd.C_alloc ?_ _) | (with_reducible refine Kd.C_drewN ?_ _) | (with_reducible refine Kd.C_drew ?_) | exact HR712_1.1)) x10_4 p713 q713
   cases e713
   replace p713 := eq_true p713
   replace q713 := eq_true q713
   have p714 : 0 ≤ (((rd_T43 ((rd_T41 t693 x9_3).f1) x10_4).f0) : Int) := dq
   have q714 : ((rd_T43 ((rd_T41 t693 x9_3).f1) x10_4).f0) < (t698.length : Int) := dq
   obtain ⟨ad714, e714, hx714_0⟩ := Kd.at_int (Kd.R_reads' HO_5.1).2.2 ((rd_T43 ((rd_T41 t693 x9_3).f1) x10_4).f0) p714 q714
   cases e714
   replace p714 := eq_true p714
   replace q714 := eq_true q714
   have p715 : 0 ≤ ((ji52) : Int) := dq
   have q715 : (ji52) < (t698.length : Int) := dq
   obtain ⟨ad715, e715, hx715_0⟩ := Kd.at_int (Kd.R_reads' HO_5.1).2.2 (ji52) p715 q715
   obtain rfl : ad714 = ad715 := (by injection e715)
   replace p715 := eq_true p715
   replace q715 := eq_true q715
   refine start_ (n := 20) (S := fun w' => w'.cell? ⟨gb697, 0, none⟩ = some (.string t689) ∧ w'.cell? ⟨gb697, 1, none⟩ = some (.slice Ao11 t690.length co11) ∧ w'.cell? ⟨gb697, 2, none⟩ = some (.slice (some ad711) t693.length co12) ∧ w'.cell? (ad711.add ((x9_3).toNat * 5)) = some (.string ((rd_T41 t693 x9_3).f0)) ∧ w'.cell? ⟨(ad711.add ((x9_3).toNat * 5)).block, (ad711.add ((x9_3).toNat * 5)).off + 1, none⟩ = some (.slice (some ad713) ((rd_T41 t693 x9_3).f1).length c712_1) ∧ w'.cell? ⟨(ad711.add ((x9_3).toNat * 5)).block, (ad711.add ((x9_3).toNat * 5)).off + 2, none⟩ = some (.slice A712_2 ((rd_T41 t693 x9_3).f2).length c712_2) ∧ w'.cell? ⟨(ad711.add ((x9_3).toNat * 5)).block, (ad711.add ((x9_3).toNat * 5)).off + 3, none⟩ = some (.slice A712_3 ((rd_T41 t693 x9_3).f3).length c712_3) ∧ w'.cell? ⟨(ad711.add ((x9_3).toNat * 5)).block, (ad711.add ((x9_3).toNat * 5)).off + 4, none⟩ = some (.int .i64 ((rd_T41 t693 x9_3).f4)) ∧ w'.cell? (ad713.add ((x10_4).toNat * 2)) = some (.int .i64 ((rd_T43 ((rd_T41 t693 x9_3).f1) x10_4).f0)) ∧ w'.cell? ⟨(ad713.add ((x10_4).toNat * 2)).block, (ad713.add ((x10_4).toNat * 2)).off + 1, none⟩ = some (.int .i64 ((rd_T43 ((rd_T41 t693 x9_3).f1) x10_4).f1)) ∧ w'.cell? (ad714.add (((rd_T43 ((rd_T41 t693 x9_3).f1) x10_4).f0)).toNat) = some (.int .i64 (rd t698 ((rd_T43 ((rd_T41 t693 x9_3).f1) x10_4).f0))) ∧ w'.cell? (ad714.add ((ji52)).toNat) = some (.int .i64 (rd t698 (ji52)))) (ds := []) #[false, false, false, false, false, false, false, false, false, false, false, false, false, false, false, false, false, false, false, false] (by kernel_rfl) rfl rfl ⟨(blk_cell BK697.1 0).trans rfl, (blk_cell BK697.1 1).trans rfl, (blk_cell BK697.1 2).trans rfl, hx712_0, hx712_1, hx712_2, hx712_3, hx712_4, hx713_0, hx713_1, hx714_0, hx715_0⟩ (fun hHeld => ?_); refine with_tabW petrinetlaw13_NetclassSpreads.tab20 petrinetlaw13_NetclassSpreads.bits20 (fun HT_ HW_ => ?_)
   generalize wr.drew = w58 at HO_5 HO_698001 HO_698002 HL711_1 HL711_2 HL711_3 BK688 BK697 HR711_1 HR711_2 HR711_3 HB HL712_1 HL712_2 HL712_3 HR712_1 HR712_2 HR712_3 hx712_0 hx712_1 hx712_2 hx712_3 hx712_4 hx713_0 hx713_1 hx714_0 hx715_0 hHeld ⊢
   refine pure_ (i := 0) (N := some 100) (v := ?_) (a' := ?_) #[true, false, false, false, false, false, false, false, false, false, false, false, false, false, false, false, false, false, false, false] rfl rfl (any_of HT_.1 (by kernel_rfl)) (fun _ _ _ h => h) (Or.inl ⟨by rfl, ?_⟩) ?_ ?_
   rotate_left
   · intro w'
     go_simp
     with_reducible rfl
   rotate_left
   · simp only [Act.put, List.setIfInBounds_toArray, List.set_cons_zero, List.set_cons_succ, i64_w, i32_w]
     rfl
   refine pure_ (i := 1) (N := some 101) (v := ?_) (a' := ?_) #[true, true, false, false, false, false, false, false, false, false, false, false, false, false, false, false, false, false, false, false] rfl rfl (any_of HT_.1 (by kernel_rfl)) (fun _ _ _ h => h) (Or.inl ⟨by rfl, ?_⟩) ?_ ?_
   rotate_left
   · intro w'
     go_simp
     with_reducible rfl
   rotate_left
   · simp only [Act.put, List.setIfInBounds_toArray, List.set_cons_zero, List.set_cons_succ, i64_w, i32_w]
     rfl
   refine pure_ (i := 3) (N := some 103) (v := ?_) (a' := ?_) #[true, true, false, true, false, false, false, false, false, false, false, false, false, false, false, false, false, false, false, false] rfl rfl (any_of HT_.1 (by kernel_rfl)) (fun _ _ _ h => h) (Or.inl ⟨by rfl, ?_⟩) ?_ ?_
   rotate_left
   · intro w'
     go_simp
     with_reducible rfl
   rotate_left
   · simp only [Act.put, List.setIfInBounds_toArray, List.set_cons_zero, List.set_cons_succ, i64_w, i32_w]
     rfl
   refine pure_ (i := 7) (N := some 107) (v := ?_) (a' := ?_) #[true, true, false, true, false, false, false, true, false, false, false, false, false, false, false, false, false, false, false, false] rfl rfl (any_of HT_.1 (by kernel_rfl)) (fun _ _ _ h => h) (Or.inl ⟨by rfl, ?_⟩) ?_ ?_
   rotate_left
   · intro w'
     go_simp
     with_reducible rfl
   rotate_left
   · simp only [Act.put, List.setIfInBounds_toArray, List.set_cons_zero, List.set_cons_succ, i64_w, i32_w]
     rfl
   refine pure_ (i := 13) (N := some 113) (v := ?_) (a' := ?_) #[true, true, false, true, false, false, false, true, false, false, false, false, false, true, false, false, false, false, false, false] rfl rfl (any_of HT_.1 (by kernel_rfl)) (fun _ _ _ h => h) (Or.inl ⟨by rfl, ?_⟩) ?_ ?_
   rotate_left
   · intro w'
     go_simp
     with_reducible rfl
   rotate_left
   · simp only [Act.put, List.setIfInBounds_toArray, List.set_cons_zero, List.set_cons_succ, i64_w, i32_w]
     rfl
   refine pure_ (i := 14) (N := some 114) (v := ?_) (a' := ?_) #[true, true, false, true, false, false, false, true, false, false, false, false, false, true, true, false, false, false, false, false] rfl rfl (any_of HT_.1 (by kernel_rfl)) (fun _ _ _ h => h) (Or.inl ⟨by rfl, ?_⟩) ?_ ?_
   rotate_left
   · intro w'
     go_simp
     with_reducible rfl
   rotate_left
   · simp only [Act.put, List.setIfInBounds_toArray, List.set_cons_zero, List.set_cons_succ, i64_w, i32_w]
     rfl
   refine pure_ (i := 15) (N := some 115) (v := ?_) (a' := ?_) #[true, true, false, true, false, false, false, true, false, false, false, false, false, true, true, true, false, false, false, false] rfl rfl (any_of HT_.1 (by kernel_rfl)) (fun _ _ _ h => h) (Or.inl ⟨by rfl, ?_⟩) ?_ ?_
   rotate_left
   · intro w'
     go_simp
     with_reducible rfl
   rotate_left
   · simp only [Act.put, List.setIfInBounds_toArray, List.set_cons_zero, List.set_cons_succ, i64_w, i32_w]
     rfl
   refine pure_ (i := 16) (N := some 116) (v := ?_) (a' := ?_) #[true, true, false, true, false, false, false, true, false, false, false, false, false, true, true, true, true, false, false, false] rfl rfl (any_of HT_.1 (by kernel_rfl)) (fun _ _ _ h => h) (Or.inl ⟨by rfl, ?_⟩) ?_ ?_
   rotate_left
   · intro w'
     go_simp
     with_reducible rfl
   rotate_left
   · simp only [Act.put, List.setIfInBounds_toArray, List.set_cons_zero, List.set_cons_succ, i64_w, i32_w]
     rfl
   refine pure_ (i := 17) (N := some 117) (v := ?_) (a' := ?_) #[true, true, false, true, false, false, false, true, false, false, false, false, false, true, true, true, true, true, false, false] rfl rfl (any_of HT_.1 (by kernel_rfl)) (fun _ _ _ h => h) (Or.inl ⟨by rfl, ?_⟩) ?_ ?_
   rotate_left
   · intro w'
     go_simp
     with_reducible rfl
   rotate_left
   · simp only [Act.put, List.setIfInBounds_toArray, List.set_cons_zero, List.set_cons_succ, i64_w, i32_w]
     rfl
   refine take_ (i := 2) (N := some 102) (v := ?_) (a' := ?_) #[true, true, true, true, false, false, false, true, false, false, false, false, false, true, true, true, true, true, false, false] rfl rfl (take_ofW HT_.1 HW_.1 (by kernel_rfl)) (fun _ _ _ h => h) (Or.inl ⟨by rfl, ?_⟩) hHeld ?_ ?_
   rotate_left
   · rintro w' ⟨s0, s1, s2, s3, s4, s5, s6, s7, s8, s9, s10, s11⟩
     go_simp
     with_reducible rfl
   rotate_left
   · simp only [Act.put, List.setIfInBounds_toArray, List.set_cons_zero, List.set_cons_succ, i64_w, i32_w]
     rfl
   refine pure_ (i := 4) (N := some 104) (v := ?_) (a' := ?_) #[true, true, true, true, true, false, false, true, false, false, false, false, false, true, true, true, true, true, false, false] rfl rfl (any_of HT_.1 (by kernel_rfl)) (fun _ _ _ h => h) (Or.inl ⟨by rfl, ?_⟩) ?_ ?_
   rotate_left
   · intro w'
     go_simp
     with_reducible rfl
   rotate_left
   · simp only [Act.put, List.setIfInBounds_toArray, List.set_cons_zero, List.set_cons_succ, i64_w, i32_w]
     rfl
   refine pure_ (i := 5) (N := some 105) (v := ?_) (a' := ?_) #[true, true, true, true, true, true, false, true, false, false, false, false, false, true, true, true, true, true, false, false] rfl rfl (any_of HT_.1 (by kernel_rfl)) (fun _ _ _ h => h) (Or.inl ⟨by rfl, ?_⟩) ?_ ?_
   rotate_left
   · intro w'
     go_simp
     with_reducible rfl
   rotate_left
   · simp only [Act.put, List.setIfInBounds_toArray, List.set_cons_zero, List.set_cons_succ, i64_w, i32_w]
     rfl
   refine take_ (i := 6) (N := some 106) (v := ?_) (a' := ?_) #[true, true, true, true, true, true, true, true, false, false, false, false, false, true, true, true, true, true, false, false] rfl rfl (take_ofW HT_.1 HW_.1 (by kernel_rfl)) (fun _ _ _ h => h) (Or.inl ⟨by rfl, ?_⟩) hHeld ?_ ?_
   rotate_left
   · rintro w' ⟨s0, s1, s2, s3, s4, s5, s6, s7, s8, s9, s10, s11⟩
     go_simp
     with_reducible rfl
   rotate_left
   · simp only [Act.put, List.setIfInBounds_toArray, List.set_cons_zero, List.set_cons_succ, i64_w, i32_w]
     rfl
   refine pure_ (i := 8) (N := some 108) (v := ?_) (a' := ?_) #[true, true, true, true, true, true, true, true, true, false, false, false, false, true, true, true, true, true, false, false] rfl rfl (any_of HT_.1 (by kernel_rfl)) (fun _ _ _ h => h) (Or.inl ⟨by rfl, ?_⟩) ?_ ?_
   rotate_left
   · intro w'
     go_simp
     with_reducible rfl
   rotate_left
   · simp only [Act.put, List.setIfInBounds_toArray, List.set_cons_zero, List.set_cons_succ, i64_w, i32_w]
     rfl
   refine pure_ (i := 9) (N := some 109) (v := ?_) (a' := ?_) #[true, true, true, true, true, true, true, true, true, true, false, false, false, true, true, true, true, true, false, false] rfl rfl (any_of HT_.1 (by kernel_rfl)) (fun _ _ _ h => h) (Or.inl ⟨by rfl, ?_⟩) ?_ ?_
   rotate_left
   · intro w'
     go_simp
     with_reducible rfl
   rotate_left
   · simp only [Act.put, List.setIfInBounds_toArray, List.set_cons_zero, List.set_cons_succ, i64_w, i32_w]
     rfl
   refine take_ (i := 10) (N := some 110) (v := ?_) (a' := ?_) #[true, true, true, true, true, true, true, true, true, true, true, false, false, true, true, true, true, true, false, false] rfl rfl (take_ofW HT_.1 HW_.1 (by kernel_rfl)) (fun _ _ _ h => h) (Or.inl ⟨by rfl, ?_⟩) hHeld ?_ ?_
   rotate_left
   · rintro w' ⟨s0, s1, s2, s3, s4, s5, s6, s7, s8, s9, s10, s11⟩
     go_simp
     with_reducible rfl
   rotate_left
   · simp only [Act.put, List.setIfInBounds_toArray, List.set_cons_zero, List.set_cons_succ, i64_w, i32_w]
     rfl
   refine pure_ (i := 11) (N := some 111) (v := ?_) (a' := ?_) #[true, true, true, true, true, true, true, true, true, true, true, true, false, true, true, true, true, true, false, false] rfl rfl (any_of HT_.1 (by kernel_rfl)) (fun _ _ _ h => h) (Or.inl ⟨by rfl, ?_⟩) ?_ ?_
   rotate_left
   · intro w'
     go_simp
     with_reducible rfl
   rotate_left
   · simp only [Act.put, List.setIfInBounds_toArray, List.set_cons_zero, List.set_cons_succ, i64_w, i32_w]
     rfl
   refine take_ (i := 12) (N := some 112) (v := ?_) (a' := ?_) #[true, true, true, true, true, true, true, true, true, true, true, true, true, true, true, true, true, true, false, false] rfl rfl (take_ofW HT_.1 HW_.1 (by kernel_rfl)) (fun _ _ _ h => h) (Or.inl ⟨by rfl, ?_⟩) hHeld ?_ ?_
   rotate_left
   · rintro w' ⟨s0, s1, s2, s3, s4, s5, s6, s7, s8, s9, s10, s11⟩
     go_simp
     with_reducible rfl
   rotate_left
   · simp only [Act.put, List.setIfInBounds_toArray, List.set_cons_zero, List.set_cons_succ, i64_w, i32_w]
     rfl
   refine take_ (i := 18) (N := some 118) (v := ?_) (a' := ?_) #[true, true, true, true, true, true, true, true, true, true, true, true, true, true, true, true, true, true, true, false] rfl rfl (take_ofW HT_.1 HW_.1 (by kernel_rfl)) (fun _ _ _ h => h) (Or.inl ⟨by rfl, ?_⟩) hHeld ?_ ?_
   rotate_left
   · rintro w' ⟨s0, s1, s2, s3, s4, s5, s6, s7, s8, s9, s10, s11⟩
     go_simp
     with_reducible rfl
   rotate_left
   · simp only [Act.put, List.setIfInBounds_toArray, List.set_cons_zero, List.set_cons_succ, i64_w, i32_w]
     rfl
   refine pure_ (i := 19) (N := some 119) (v := ?_) (a' := ?_) #[true, true, true, true, true, true, true, true, true, true, true, true, true, true, true, true, true, true, true, true] rfl rfl (any_of HT_.1 (by kernel_rfl)) (fun _ _ _ h => h) (Or.inl ⟨by rfl, ?_⟩) ?_ ?_
   rotate_left
   · intro w'
     go_simp
     with_reducible rfl
   rotate_left
   · simp only [Act.put, List.setIfInBounds_toArray, List.set_cons_zero, List.set_cons_succ, i64_w, i32_w]
     rfl
   refine done_ (done_of HT_.1 (by kernel_rfl)) ?_
   try go_wp2
   go_roundg k4
   case measure => have := HJ3.1; have := HK2.1; have := HK3.1; have := HK4.1; omega
   case rel => exact ⟨(wrap64 (x10_4 + 1)), prs, H', ⟨by have := HJ3.1; have := HK2.1; have := HK3.1; have := HK4.1; omega⟩, ⟨pkr HO_5.1⟩, ⟨pkv HO_698001.1⟩, ⟨pkv HO_698002.1⟩, ⟨pbk BK688.1⟩, ⟨pbk BK697.1⟩, ⟨pbg⟩⟩
 rw [if_neg c48] at H
 have c48b0 : decide (x10_4 < (((rd_T41 t693 x9_3).f1).length : Int)) = false := decide_eq_false c48
 clear c48
 have H' := am H
 clear H
 have hnb59 := NB697_688.1
 have hnc59 := NB688_697.1
 obtain ⟨hcz60_0, hcz60_1, hcz60_2, hfz60_0, hfz60_1, hfz60_2⟩ := cf3 BK697.1
 have p711 : 0 ≤ (x9_3 : Int) := dq
 have q711 : x9_3 < (t693.length : Int) := dq
 obtain ⟨ad711, A711_1, c711_1, A711_2, c711_2, A711_3, c711_3, e711, hx711_0, hx711_1, hx711_2, hx711_3, hx711_4, hl711_1, hi711_1, hl711_2, hi711_2, hl711_3, hi711_3⟩ := at_T41 (Kd.V_reads' HO_698002.1).2.2 x9_3 p711 q711
 cases e711
 obtain ⟨ce711, hce711, hMe711, hcc711⟩ := Kd.V_get HO_698002.1 z41 x9_3 p711 (by first | exact q711 | exact dq | (have e_ := (Kd.V_reads' HO_698002.1).1; omega))
 obtain ⟨ua711_1, uc711_1, ua711_2, uc711_2, ua711_3, uc711_3, rfl, ul711_1, ge711_1, ul711_2, ge711_2, ul711_3, ge711_3⟩ := k41_openF hMe711
 have hv711_1 := hcc711 1 _ rfl
 rw [add_field _ _ 1 (by omega)] at hv711_1
 replace hv711_1 := Option.some.inj (hv711_1.symm.trans hx711_1)
 injection hv711_1 with hva_ hvn_ hvc_
 rw [hva_] at ge711_1
 rw [hvc_] at ul711_1
 have HL711_1 := am (show Kd.V k43 43 _ w.heap.size _ _ ((rd_T41 t693 x9_3).f1) from Kd.V_mk ul711_1 ge711_1)
 clear hva_ hvn_ hvc_ ge711_1 ul711_1
 have hv711_2 := hcc711 2 _ rfl
 rw [add_field _ _ 2 (by omega)] at hv711_2
 replace hv711_2 := Option.some.inj (hv711_2.symm.trans hx711_2)
 injection hv711_2 with hva_ hvn_ hvc_
 rw [hva_] at ge711_2
 rw [hvc_] at ul711_2
 have HL711_2 := am (show Kd.V k43 43 _ w.heap.size _ _ ((rd_T41 t693 x9_3).f2) from Kd.V_mk ul711_2 ge711_2)
 clear hva_ hvn_ hvc_ ge711_2 ul711_2
 have hv711_3 := hcc711 3 _ rfl
 rw [add_field _ _ 3 (by omega)] at hv711_3
 replace hv711_3 := Option.some.inj (hv711_3.symm.trans hx711_3)
 injection hv711_3 with hva_ hvn_ hvc_
 rw [hva_] at ge711_3
 rw [hvc_] at ul711_3
 have HL711_3 := am (show Kd.V k43 43 _ w.heap.size _ _ ((rd_T41 t693 x9_3).f3) from Kd.V_mk ul711_3 ge711_3)
 clear hva_ hvn_ hvc_ ge711_3 ul711_3 hcc711 hce711
 have HR711_1 := am hi711_1
 have HC711_1 := am hl711_1
 clear hi711_1 hl711_1
 have HR711_2 := am hi711_2
 have HC711_2 := am hl711_2
 clear hi711_2 hl711_2
 have HR711_3 := am hi711_3
 have HC711_3 := am hl711_3
 clear hi711_3 hl711_3
 replace p711 := eq_true p711
 replace q711 := eq_true q711
 go_wp2
 go_loopg [11] k4 (fun kq v11 w' => ∃ (x11_5 : Int), v11 = .int .i64 x11_5 ∧ Aside0 (petrinetlaw13_NetclassSpreads.l3 kq t698 (t690.length : Int) t709 x9_3 x11_5 t689 t690 t693 = some r) ∧ Aside0 (kq ≤ k4) ∧ Aside0 (Kd.R (Kd.int .i64) 3 w' w.heap.size (fun _ => True) (.slice Ao30 t698.length co30) t698) ∧ Aside0 (Kd.V k46 46 w' w.heap.size (fun k_ => some k_ ≠ ((.slice Ao30 t698.length co30) : Value).ownBlock ∧ k_ ≠ gb688 ∧ k_ ≠ gb697) (.slice Ao11 t690.length co11) t690) ∧ Aside0 (Kd.V k41 41 w' w.heap.size (fun k_ => some k_ ≠ ((.slice Ao30 t698.length co30) : Value).ownBlock ∧ k_ ≠ gb688 ∧ k_ ≠ gb697) (.slice (some ad711) t693.length co12) t693) ∧ Aside0 (w'.heap[gb688]? = some (.cells #[.string a0_0, (.slice A0_1 l0_1.length c0_1), (.slice A0_2 l0_2.length c0_2)] 25 (0, 0))) ∧ Aside0 (w'.heap[gb697]? = some (.cells #[.string t689, (.slice Ao11 t690.length co11), (.slice (some ad711) t693.length co12)] 25 (0, 0))) ∧ Aside0 (Kd.C k43 w' A711_1 ((rd_T41 t693 x9_3).f1).length ((rd_T41 t693 x9_3).f1)) ∧ Aside0 (Kd.C k43 w' A711_2 ((rd_T41 t693 x9_3).f2).length ((rd_T41 t693 x9_3).f2)) ∧ Aside0 (Kd.C k43 w' A711_3 ((rd_T41 t693 x9_3).f3).length ((rd_T41 t693 x9_3).f3)) ∧ Aside0 (Below w.heap.size w w'))
 case atStart => exact ⟨(0), prs, H', ⟨Nat.le_refl _⟩, ⟨pkr HO_5.1⟩, ⟨pkv HO_698001.1⟩, ⟨pkv HO_698002.1⟩, ⟨pbk BK688.1⟩, ⟨pbk BK697.1⟩, ⟨by repeat (first | (with_reducible exact HR711_1.1) | (with_reducible refine Kd.C_alloc ?_ _) | (with_reducible refine Kd.C_drewN ?_ _) | (with_reducible refine Kd.C_drew ?_) | exact HR711_1.1)⟩, ⟨by repeat (first | (with_reducible exact HR711_2.1) | (with_reducible refine Kd.C_alloc ?_ _) | (with_reducible refine Kd.C_drewN ?_ _) | (with_reducible refine Kd.C_drew ?_) | exact HR711_2.1)⟩, ⟨by repeat (first | (with_reducible exact HR711_3.1) | (with_reducible refine Kd.C_alloc ?_ _) | (with_reducible refine Kd.C_drewN ?_ _) | (with_reducible refine Kd.C_drew ?_) | exact HR711_3.1)⟩, ⟨pbg⟩⟩
 clear H'
 try clear c14 c19 c20 c21 c21b0 c21b1 c27 c27b0 c27b1 c31 c31b0 c32 c32b0 c33 c33b0 c34 c34b0 c35 c35b0 c36 c36b0 c37 c37b0 c37b1 c43 c43b0 c46 c46b0 c47 c47b0 c48 c48b0 c49 c49b0 c50 c50b0 c51 c51b0 c53 c53b0 c54 c54b0 c55 c55b0 c55b1 hcz10_0 hcz10_1 hcz10_2 hcz17_0 hcz17_1 hcz17_2 hcz29_0 hcz29_1 hcz29_2 hcz41_0 hcz41_1 hcz41_2 hcz45_0 hcz45_1 hcz45_2 hcz57_0 hcz57_1 hcz57_2 hcz60_0 hcz60_1 hcz60_2 hcz6_0 hcz6_1 hcz6_2 hfz10_0 hfz10_1 hfz10_2 hfz17_0 hfz17_1 hfz17_2 hfz29_0 hfz29_1 hfz29_2 hfz41_0 hfz41_1 hfz41_2 hfz45_0 hfz45_1 hfz45_2 hfz57_0 hfz57_1 hfz57_2 hfz60_0 hfz60_1 hfz60_2 hfz6_0 hfz6_1 hfz6_2 hx704_0 hx705_0 hx706_0 hx707_0 hx708_0 hx711_0 hx711_1 hx711_2 hx711_3 hx711_4 hx712_0 hx712_1 hx712_2 hx712_3 hx712_4 hx713_0 hx713_1 hx714_0 hx715_0 p704 p705 p706 p707 p708 p711 p712 p713 p714 p715 q704 q705 q706 q707 q708 q711 q712 q713 q714 q715
 obtain ⟨x11_5, rfl, HA, HK5, HO_5, HO_698001, HO_698002, BK688, BK697, HR711_1, HR711_2, HR711_3, HB⟩ := hrel
 obtain _ | k5 := gk
 · exact absurd HA.1 (by simp [petrinetlaw13_NetclassSpreads.l3])
 have H := HA.1
 clear HA
 simp only [petrinetlaw13_NetclassSpreads.l3] at H
 have HC61 := am H
 clear H
 go_upto_region 23 with (fail)
 go_cut [125] (fun v125 wc => ∃ (kq : Nat) (x125_60 : Bool), v125 = .bool x125_60 ∧ Aside0 (petrinetlaw13_NetclassSpreads.j5 kq t698 (t690.length : Int) t709 x9_3 x11_5 x125_60 t689 t690 t693 = some r) ∧ Aside0 (kq ≤ k5) ∧ Aside0 (Kd.R (Kd.int .i64) 3 wc w.heap.size (fun _ => True) (.slice Ao30 t698.length co30) t698) ∧ Aside0 (Kd.V k46 46 wc w.heap.size (fun k_ => some k_ ≠ ((.slice Ao30 t698.length co30) : Value).ownBlock ∧ k_ ≠ gb688 ∧ k_ ≠ gb697) (.slice Ao11 t690.length co11) t690) ∧ Aside0 (Kd.V k41 41 wc w.heap.size (fun k_ => some k_ ≠ ((.slice Ao30 t698.length co30) : Value).ownBlock ∧ k_ ≠ gb688 ∧ k_ ≠ gb697) (.slice (some ad711) t693.length co12) t693) ∧ Aside0 (wc.heap[gb688]? = some (.cells #[.string a0_0, (.slice A0_1 l0_1.length c0_1), (.slice A0_2 l0_2.length c0_2)] 25 (0, 0))) ∧ Aside0 (wc.heap[gb697]? = some (.cells #[.string t689, (.slice Ao11 t690.length co11), (.slice (some ad711) t693.length co12)] 25 (0, 0))) ∧ Aside0 (Kd.C k43 wc A711_1 ((rd_T41 t693 x9_3).f1).length ((rd_T41 t693 x9_3).f1)) ∧ Aside0 (Kd.C k43 wc A711_2 ((rd_T41 t693 x9_3).f2).length ((rd_T41 t693 x9_3).f2)) ∧ Aside0 (Kd.C k43 wc A711_3 ((rd_T41 t693 x9_3).f3).length ((rd_T41 t693 x9_3).f3)) ∧ Aside0 (Below w.heap.size w wc))
 case first =>
   have H := HC61.1
   clear HC61
   by_cases c62 : x11_5 < x9_3
   · rw [if_pos c62] at H
     have c62b0 : decide (x11_5 < x9_3) = true := decide_eq_true c62
     clear c62
     (first | rw [c62b0] | (simp only [i64_w, i32_w]; rw [c62b0]) | skip)
     have H' := am H
     clear H
     go_wp2
     go_meet
     case rel => exact ⟨_, (t709), prs, H', ⟨by have := HJ3.1; have := HK2.1; have := HK3.1; have := HK4.1; have := HK5.1; first | omega | exact Nat.le_refl _⟩, ⟨pkr HO_5.1⟩, ⟨pkv HO_698001.1⟩, ⟨pkv HO_698002.1⟩, ⟨pbk BK688.1⟩, ⟨pbk BK697.1⟩, ⟨by repeat (first | (with_reducible exact HR711_1.1) | (with_reducible refine Kd.C_alloc ?_ _) | (with_reducible refine Kd.C_drewN ?_ _) | (with_reducible refine Kd.C_drew ?_) | exact HR711_1.1)⟩, ⟨by repeat (first | (with_reducible exact HR711_2.1) | (with_reducible refine Kd.C_alloc ?_ _) | (with_reducible refine Kd.C_drewN ?_ _) | (with_reducible refine Kd.C_drew ?_) | exact HR711_2.1)⟩, ⟨by repeat (first | (with_reducible exact HR711_3.1) | (with_reducible refine Kd.C_alloc ?_ _) | (with_reducible refine Kd.C_drewN ?_ _) | (with_reducible refine Kd.C_drew ?_) | exact HR711_3.1)⟩, ⟨pbg⟩⟩
   rw [if_neg c62] at H
   have c62b0 : decide (x11_5 < x9_3) = false := decide_eq_false c62
   clear c62
   (first | rw [c62b0] | (simp only [i64_w, i32_w]; rw [c62b0]) | skip)
   have H' := am H
   clear H
   go_wp2
   go_meet
   case rel => exact ⟨_, (false), prs, H', ⟨by have := HJ3.1; have := HK2.1; have := HK3.1; have := HK4.1; have := HK5.1; first | omega | exact Nat.le_refl _⟩, ⟨pkr HO_5.1⟩, ⟨pkv HO_698001.1⟩, ⟨pkv HO_698002.1⟩, ⟨pbk BK688.1⟩, ⟨pbk BK697.1⟩, ⟨by repeat (first | (with_reducible exact HR711_1.1) | (with_reducible refine Kd.C_alloc ?_ _) | (with_reducible refine Kd.C_drewN ?_ _) | (with_reducible refine Kd.C_drew ?_) | exact HR711_1.1)⟩, ⟨by repeat (first | (with_reducible exact HR711_2.1) | (with_reducible refine Kd.C_alloc ?_ _) | (with_reducible refine Kd.C_drewN ?_ _) | (with_reducible refine Kd.C_drew ?_) | exact HR711_2.1)⟩, ⟨by repeat (first | (with_reducible exact HR711_3.1) | (with_reducible refine Kd.C_alloc ?_ _) | (with_reducible refine Kd.C_drewN ?_ _) | (with_reducible refine Kd.C_drew ?_) | exact HR711_3.1)⟩, ⟨pbg⟩⟩
 clear HC61
 try clear c14 c19 c20 c21 c21b0 c21b1 c27 c27b0 c27b1 c31 c31b0 c32 c32b0 c33 c33b0 c34 c34b0 c35 c35b0 c36 c36b0 c37 c37b0 c37b1 c43 c43b0 c46 c46b0 c47 c47b0 c48 c48b0 c49 c49b0 c50 c50b0 c51 c51b0 c53 c53b0 c54 c54b0 c55 c55b0 c55b1 c62 c62b0 hcz10_0 hcz10_1 hcz10_2 hcz17_0 hcz17_1 hcz17_2 hcz29_0 hcz29_1 hcz29_2 hcz41_0 hcz41_1 hcz41_2 hcz45_0 hcz45_1 hcz45_2 hcz57_0 hcz57_1 hcz57_2 hcz60_0 hcz60_1 hcz60_2 hcz6_0 hcz6_1 hcz6_2 hfz10_0 hfz10_1 hfz10_2 hfz17_0 hfz17_1 hfz17_2 hfz29_0 hfz29_1 hfz29_2 hfz41_0 hfz41_1 hfz41_2 hfz45_0 hfz45_1 hfz45_2 hfz57_0 hfz57_1 hfz57_2 hfz60_0 hfz60_1 hfz60_2 hfz6_0 hfz6_1 hfz6_2 hx704_0 hx705_0 hx706_0 hx707_0 hx708_0 hx711_0 hx711_1 hx711_2 hx711_3 hx711_4 hx712_0 hx712_1 hx712_2 hx712_3 hx712_4 hx713_0 hx713_1 hx714_0 hx715_0 p704 p705 p706 p707 p708 p711 p712 p713 p714 p715 q704 q705 q706 q707 q708 q711 q712 q713 q714 q715
 obtain ⟨kq, x125_60, rfl, HA, HJ60, HO_5, HO_698001, HO_698002, BK688, BK697, HR711_1, HR711_2, HR711_3, HB⟩ := hcut
 obtain _ | kj60 := kq
 · exact absurd HA.1 (by simp [petrinetlaw13_NetclassSpreads.j5])
 have H := HA.1
 clear HA
 simp only [petrinetlaw13_NetclassSpreads.j5] at H
 by_cases c63 : x125_60 = true
 rotate_left
 · replace c63 := Bool.eq_false_iff.mpr c63
   subst c63
   rw [if_neg Bool.false_ne_true] at H
   have H' := am H
   clear H
   go_wp2
   go_roundg kj60
   case measure => have := HJ3.1; have := HK2.1; have := HK3.1; have := HK4.1; have := HK5.1; have := HJ60.1; omega
   case rel => exact ⟨(wrap64 (x9_3 + 1)), prs, H', ⟨by have := HJ3.1; have := HK2.1; have := HK3.1; have := HK4.1; have := HK5.1; have := HJ60.1; omega⟩, ⟨pkr HO_5.1⟩, ⟨pkv HO_698001.1⟩, ⟨pkv HO_698002.1⟩, ⟨pbk BK688.1⟩, ⟨pbk BK697.1⟩, ⟨pbg⟩⟩
 subst c63
 rw [if_pos rfl] at H
 obtain ⟨ji64, hji64⟩ : ∃ j_ : Int, (wrap64 ((t690.length : Int) + x11_5)) = j_ := ⟨_, rfl⟩
 replace H : (if 0 ≤ (ji64) then (if (ji64) < (t698.length : Int) then (if 0 ≤ (wrap64 ((t690.length : Int) + x9_3)) then (if (wrap64 ((t690.length : Int) + x9_3)) < (t698.length : Int) then (if (rd t698 (ji64)) = (rd t698 (wrap64 ((t690.length : Int) + x9_3))) then (if 0 ≤ x11_5 then (if x11_5 < (t693.length : Int) then ((petrinetref09_Targets.f kj60 ((rd_T41 t693 x11_5).f1)).bind fun t719 => (if 0 ≤ x9_3 then (if x9_3 < (t693.length : Int) then ((petrinetref09_Targets.f kj60 ((rd_T41 t693 x9_3).f1)).bind fun t723 => ((petrinetref04_Same.f kj60 t719 t723).bind fun t726 => (if t726 = true then (petrinetlaw13_NetclassSpreads.l3 kj60 t698 (t690.length : Int) t709 x9_3 (wrap64 (x11_5 + 1)) t689 t690 t693) else (none)))) else (none)) else (none))) else (none)) else (none)) else (petrinetlaw13_NetclassSpreads.l3 kj60 t698 (t690.length : Int) t709 x9_3 (wrap64 (x11_5 + 1)) t689 t690 t693)) else (none)) else (none)) else (none)) else (none)) = some r := by first | (rw [hji64] at H; exact H) | (simp only [hji64] at H ⊢; exact H)
 have hji64w : (IntKind.i64.wrap ((t690.length : Int) + x11_5)) = ji64 := (i64_w _).trans hji64
 replace H := ifp H
 obtain ⟨c65, H⟩ := H
 have c65b0 := decide_eq_true c65
 clear c65
 replace H := ifp H
 obtain ⟨c66, H⟩ := H
 have c66b0 := decide_eq_true c66
 clear c66
 obtain ⟨ji67, hji67⟩ : ∃ j_ : Int, (wrap64 ((t690.length : Int) + x9_3)) = j_ := ⟨_, rfl⟩
 replace H : (if 0 ≤ (ji67) then (if (ji67) < (t698.length : Int) then (if (rd t698 (ji64)) = (rd t698 (ji67)) then (if 0 ≤ x11_5 then (if x11_5 < (t693.length : Int) then ((petrinetref09_Targets.f kj60 ((rd_T41 t693 x11_5).f1)).bind fun t719 => (if 0 ≤ x9_3 then (if x9_3 < (t693.length : Int) then ((petrinetref09_Targets.f kj60 ((rd_T41 t693 x9_3).f1)).bind fun t723 => ((petrinetref04_Same.f kj60 t719 t723).bind fun t726 => (if t726 = true then (petrinetlaw13_NetclassSpreads.l3 kj60 t698 (t690.length : Int) t709 x9_3 (wrap64 (x11_5 + 1)) t689 t690 t693) else (none)))) else (none)) else (none))) else (none)) else (none)) else (petrinetlaw13_NetclassSpreads.l3 kj60 t698 (t690.length : Int) t709 x9_3 (wrap64 (x11_5 + 1)) t689 t690 t693)) else (none)) else (none)) = some r := by first | (rw [hji67] at H; exact H) | (simp only [hji67] at H ⊢; exact H)
 have hji67w : (IntKind.i64.wrap ((t690.length : Int) + x9_3)) = ji67 := (i64_w _).trans hji67
 replace H := ifp H
 obtain ⟨c68, H⟩ := H
 have c68b0 := decide_eq_true c68
 clear c68
 replace H := ifp H
 obtain ⟨c69, H⟩ := H
 have c69b0 := decide_eq_true c69
 clear c69
 by_cases c70 : (rd t698 (ji64)) = (rd t698 (ji67))
 rotate_left
 · rw [if_neg c70] at H
   have c70b0 : ((rd t698 (ji64)) == (rd t698 (ji67))) = false := beq_eq_false_iff_ne.mpr c70
   have c70b1 : ((rd t698 (ji64)) != (rd t698 (ji67))) = true := bne_iff_ne.mpr c70
   have H' := am H
   clear H
   try go_wp2
   replace HO_5 := am (Kd.R_drew HO_5.1)
   replace HO_698001 := am (Kd.V_drew HO_698001.1)
   replace HO_698002 := am (Kd.V_drew HO_698002.1)
   replace BK688 := am (blk_drew BK688.1)
   replace BK697 := am (blk_drew BK697.1)
   replace HR711_1 := am (Kd.C_drew HR711_1.1)
   replace HR711_2 := am (Kd.C_drew HR711_2.1)
   replace HR711_3 := am (Kd.C_drew HR711_3.1)
   replace HB := am (below_drew1 HB.1)
   have p716 : 0 ≤ ((ji64) : Int) := dq
   have q716 : (ji64) < (t698.length : Int) := dq
   obtain ⟨ad716, e716, hx716_0⟩ := Kd.at_int (Kd.R_reads' HO_5.1).2.2 (ji64) p716 q716
   cases e716
   replace p716 := eq_true p716
   replace q716 := eq_true q716
   have p717 : 0 ≤ ((ji67) : Int) := dq
   have q717 : (ji67) < (t698.length : Int) := dq
   obtain ⟨ad717, e717, hx717_0⟩ := Kd.at_int (Kd.R_reads' HO_5.1).2.2 (ji67) p717 q717
   obtain rfl : ad716 = ad717 := (by injection e717)
   replace p717 := eq_true p717
   replace q717 := eq_true q717
   refine start_ (n := 31) (S := fun w' => w'.cell? (ad716.add ((ji64)).toNat) = some (.int .i64 (rd t698 (ji64))) ∧ w'.cell? (ad716.add ((ji67)).toNat) = some (.int .i64 (rd t698 (ji67)))) (ds := []) #[false, false, false, false, false, false, false, false, false, false, false, false, false, false, false, false, false, false, false, false, false, false, false, false, false, false, false, false, false, false, false] (by kernel_rfl) rfl rfl ⟨hx716_0, hx717_0⟩ (fun hHeld => ?_); refine with_tabW petrinetlaw13_NetclassSpreads.tab25 petrinetlaw13_NetclassSpreads.bits25 (fun HT_ HW_ => ?_)
   generalize wc.drew = w84 at HO_5 HO_698001 HO_698002 BK688 BK697 HR711_1 HR711_2 HR711_3 HB hx716_0 hx717_0 hHeld ⊢
   refine pure_ (i := 0) (N := some 128) (v := ?_) (a' := ?_) #[true, false, false, false, false, false, false, false, false, false, false, false, false, false, false, false, false, false, false, false, false, false, false, false, false, false, false, false, false, false, false] rfl rfl (any_of HT_.1 (by kernel_rfl)) (fun _ _ _ h => h) (Or.inl ⟨by rfl, ?_⟩) ?_ ?_
   rotate_left
   · intro w'
     go_simp
     with_reducible rfl
   rotate_left
   · simp only [Act.put, List.setIfInBounds_toArray, List.set_cons_zero, List.set_cons_succ, i64_w, i32_w]
     rfl
   refine pure_ (i := 1) (N := some 129) (v := ?_) (a' := ?_) #[true, true, false, false, false, false, false, false, false, false, false, false, false, false, false, false, false, false, false, false, false, false, false, false, false, false, false, false, false, false, false] rfl rfl (any_of HT_.1 (by kernel_rfl)) (fun _ _ _ h => h) (Or.inl ⟨by rfl, ?_⟩) ?_ ?_
   rotate_left
   · intro w'
     go_simp
     with_reducible rfl
   rotate_left
   · simp only [Act.put, List.setIfInBounds_toArray, List.set_cons_zero, List.set_cons_succ, i64_w, i32_w]
     rfl
   refine pure_ (i := 2) (N := some 130) (v := ?_) (a' := ?_) #[true, true, true, false, false, false, false, false, false, false, false, false, false, false, false, false, false, false, false, false, false, false, false, false, false, false, false, false, false, false, false] rfl rfl (any_of HT_.1 (by kernel_rfl)) (fun _ _ _ h => h) (Or.inl ⟨by rfl, ?_⟩) ?_ ?_
   rotate_left
   · intro w'
     go_simp
     with_reducible rfl
   rotate_left
   · simp only [Act.put, List.setIfInBounds_toArray, List.set_cons_zero, List.set_cons_succ, i64_w, i32_w]
     rfl
   refine pure_ (i := 3) (N := some 131) (v := ?_) (a' := ?_) #[true, true, true, true, false, false, false, false, false, false, false, false, false, false, false, false, false, false, false, false, false, false, false, false, false, false, false, false, false, false, false] rfl rfl (any_of HT_.1 (by kernel_rfl)) (fun _ _ _ h => h) (Or.inl ⟨by rfl, ?_⟩) ?_ ?_
   rotate_left
   · intro w'
     go_simp
     with_reducible rfl
   rotate_left
   · simp only [Act.put, List.setIfInBounds_toArray, List.set_cons_zero, List.set_cons_succ, i64_w, i32_w]
     rfl
   refine pure_ (i := 4) (N := some 132) (v := ?_) (a' := ?_) #[true, true, true, true, true, false, false, false, false, false, false, false, false, false, false, false, false, false, false, false, false, false, false, false, false, false, false, false, false, false, false] rfl rfl (any_of HT_.1 (by kernel_rfl)) (fun _ _ _ h => h) (Or.inl ⟨by rfl, ?_⟩) ?_ ?_
   rotate_left
   · intro w'
     go_simp
     with_reducible rfl
   rotate_left
   · simp only [Act.put, List.setIfInBounds_toArray, List.set_cons_zero, List.set_cons_succ, i64_w, i32_w]
     rfl
   refine pure_ (i := 6) (N := some 134) (v := ?_) (a' := ?_) #[true, true, true, true, true, false, true, false, false, false, false, false, false, false, false, false, false, false, false, false, false, false, false, false, false, false, false, false, false, false, false] rfl rfl (any_of HT_.1 (by kernel_rfl)) (fun _ _ _ h => h) (Or.inl ⟨by rfl, ?_⟩) ?_ ?_
   rotate_left
   · intro w'
     go_simp
     with_reducible rfl
   rotate_left
   · simp only [Act.put, List.setIfInBounds_toArray, List.set_cons_zero, List.set_cons_succ, i64_w, i32_w]
     rfl
   refine pure_ (i := 7) (N := some 135) (v := ?_) (a' := ?_) #[true, true, true, true, true, false, true, true, false, false, false, false, false, false, false, false, false, false, false, false, false, false, false, false, false, false, false, false, false, false, false] rfl rfl (any_of HT_.1 (by kernel_rfl)) (fun _ _ _ h => h) (Or.inl ⟨by rfl, ?_⟩) ?_ ?_
   rotate_left
   · intro w'
     go_simp
     with_reducible rfl
   rotate_left
   · simp only [Act.put, List.setIfInBounds_toArray, List.set_cons_zero, List.set_cons_succ, i64_w, i32_w]
     rfl
   refine pure_ (i := 8) (N := some 136) (v := ?_) (a' := ?_) #[true, true, true, true, true, false, true, true, true, false, false, false, false, false, false, false, false, false, false, false, false, false, false, false, false, false, false, false, false, false, false] rfl rfl (any_of HT_.1 (by kernel_rfl)) (fun _ _ _ h => h) (Or.inl ⟨by rfl, ?_⟩) ?_ ?_
   rotate_left
   · intro w'
     go_simp
     with_reducible rfl
   rotate_left
   · simp only [Act.put, List.setIfInBounds_toArray, List.set_cons_zero, List.set_cons_succ, i64_w, i32_w]
     rfl
   refine pure_ (i := 9) (N := some 137) (v := ?_) (a' := ?_) #[true, true, true, true, true, false, true, true, true, true, false, false, false, false, false, false, false, false, false, false, false, false, false, false, false, false, false, false, false, false, false] rfl rfl (any_of HT_.1 (by kernel_rfl)) (fun _ _ _ h => h) (Or.inl ⟨by rfl, ?_⟩) ?_ ?_
   rotate_left
   · intro w'
     go_simp
     with_reducible rfl
   rotate_left
   · simp only [Act.put, List.setIfInBounds_toArray, List.set_cons_zero, List.set_cons_succ, i64_w, i32_w]
     rfl
   refine pure_ (i := 10) (N := some 138) (v := ?_) (a' := ?_) #[true, true, true, true, true, false, true, true, true, true, true, false, false, false, false, false, false, false, false, false, false, false, false, false, false, false, false, false, false, false, false] rfl rfl (any_of HT_.1 (by kernel_rfl)) (fun _ _ _ h => h) (Or.inl ⟨by rfl, ?_⟩) ?_ ?_
   rotate_left
   · intro w'
     go_simp
     with_reducible rfl
   rotate_left
   · simp only [Act.put, List.setIfInBounds_toArray, List.set_cons_zero, List.set_cons_succ, i64_w, i32_w]
     rfl
   refine take_ (i := 5) (N := some 133) (v := ?_) (a' := ?_) #[true, true, true, true, true, true, true, true, true, true, true, false, false, false, false, false, false, false, false, false, false, false, false, false, false, false, false, false, false, false, false] rfl rfl (take_ofW HT_.1 HW_.1 (by kernel_rfl)) (fun _ _ _ h => h) (Or.inl ⟨by rfl, ?_⟩) hHeld ?_ ?_
   rotate_left
   · rintro w' ⟨s0, s1⟩
     go_simp
     with_reducible rfl
   rotate_left
   · simp only [Act.put, List.setIfInBounds_toArray, List.set_cons_zero, List.set_cons_succ, i64_w, i32_w]
     rfl
   refine take_ (i := 11) (N := some 139) (v := ?_) (a' := ?_) #[true, true, true, true, true, true, true, true, true, true, true, true, false, false, false, false, false, false, false, false, false, false, false, false, false, false, false, false, false, false, false] rfl rfl (take_ofW HT_.1 HW_.1 (by kernel_rfl)) (fun _ _ _ h => h) (Or.inl ⟨by rfl, ?_⟩) hHeld ?_ ?_
   rotate_left
   · rintro w' ⟨s0, s1⟩
     go_simp
     with_reducible rfl
   rotate_left
   · simp only [Act.put, List.setIfInBounds_toArray, List.set_cons_zero, List.set_cons_succ, i64_w, i32_w]
     rfl
   refine pure_ (i := 12) (N := some 140) (v := ?_) (a' := ?_) #[true, true, true, true, true, true, true, true, true, true, true, true, true, false, false, false, false, false, false, false, false, false, false, false, false, false, false, false, false, false, false] rfl rfl (any_of HT_.1 (by kernel_rfl)) (fun _ _ _ h => h) (Or.inl ⟨by rfl, ?_⟩) ?_ ?_
   rotate_left
   · intro w'
     go_simp
     with_reducible rfl
   rotate_left
   · simp only [Act.put, List.setIfInBounds_toArray, List.set_cons_zero, List.set_cons_succ, i64_w, i32_w]
     rfl
   refine pure_ (i := 13) (N := some 141) (v := ?_) (a' := ?_) #[true, true, true, true, true, true, true, true, true, true, true, true, true, true, false, false, false, false, false, false, false, false, false, false, false, false, false, false, false, false, false] rfl rfl (any_of HT_.1 (by kernel_rfl)) (fun _ _ _ h => h) (Or.inl ⟨by rfl, ?_⟩) ?_ ?_
   rotate_left
   · intro w'
     go_simp
     with_reducible rfl
   rotate_left
   · simp only [Act.put, List.setIfInBounds_toArray, List.set_cons_zero, List.set_cons_succ, i64_w, i32_w]
     rfl
   refine pure_ (i := 14) (N := some 142) (v := undef) (a' := ?_) #[true, true, true, true, true, true, true, true, true, true, true, true, true, true, true, false, false, false, false, false, false, false, false, false, false, false, false, false, false, false, false] rfl rfl (any_of HT_.1 (by kernel_rfl)) (fun _ _ _ h => h) (Or.inr ⟨by rfl, rfl⟩) ?_ ?_
   rotate_left
   · simp only [Act.put, List.setIfInBounds_toArray, List.set_cons_zero, List.set_cons_succ, i64_w, i32_w]
     rfl
   refine pure_ (i := 15) (N := some 143) (v := undef) (a' := ?_) #[true, true, true, true, true, true, true, true, true, true, true, true, true, true, true, true, false, false, false, false, false, false, false, false, false, false, false, false, false, false, false] rfl rfl (any_of HT_.1 (by kernel_rfl)) (fun _ _ _ h => h) (Or.inr ⟨by rfl, rfl⟩) ?_ ?_
   rotate_left
   · simp only [Act.put, List.setIfInBounds_toArray, List.set_cons_zero, List.set_cons_succ, i64_w, i32_w]
     rfl
   refine pure_ (i := 16) (N := some 144) (v := undef) (a' := ?_) #[true, true, true, true, true, true, true, true, true, true, true, true, true, true, true, true, true, false, false, false, false, false, false, false, false, false, false, false, false, false, false] rfl rfl (any_of HT_.1 (by kernel_rfl)) (fun _ _ _ h => h) (Or.inr ⟨by rfl, rfl⟩) ?_ ?_
   rotate_left
   · simp only [Act.put, List.setIfInBounds_toArray, List.set_cons_zero, List.set_cons_succ, i64_w, i32_w]
     rfl
   refine pure_ (i := 17) (N := some 145) (v := undef) (a' := ?_) #[true, true, true, true, true, true, true, true, true, true, true, true, true, true, true, true, true, true, false, false, false, false, false, false, false, false, false, false, false, false, false] rfl rfl (any_of HT_.1 (by kernel_rfl)) (fun _ _ _ h => h) (Or.inr ⟨by rfl, rfl⟩) ?_ ?_
   rotate_left
   · simp only [Act.put, List.setIfInBounds_toArray, List.set_cons_zero, List.set_cons_succ, i64_w, i32_w]
     rfl
   refine pure_ (i := 18) (N := some 146) (v := undef) (a' := ?_) #[true, true, true, true, true, true, true, true, true, true, true, true, true, true, true, true, true, true, true, false, false, false, false, false, false, false, false, false, false, false, false] rfl rfl (any_of HT_.1 (by kernel_rfl)) (fun _ _ _ h => h) (Or.inr ⟨by rfl, rfl⟩) ?_ ?_
   rotate_left
   · simp only [Act.put, List.setIfInBounds_toArray, List.set_cons_zero, List.set_cons_succ, i64_w, i32_w]
     rfl
   refine pure_ (i := 19) (N := some 147) (v := undef) (a' := ?_) #[true, true, true, true, true, true, true, true, true, true, true, true, true, true, true, true, true, true, true, true, false, false, false, false, false, false, false, false, false, false, false] rfl rfl (any_of HT_.1 (by kernel_rfl)) (fun _ _ _ h => h) (Or.inr ⟨by rfl, rfl⟩) ?_ ?_
   rotate_left
   · simp only [Act.put, List.setIfInBounds_toArray, List.set_cons_zero, List.set_cons_succ, i64_w, i32_w]
     rfl
   refine pure_ (i := 20) (N := some 148) (v := undef) (a' := ?_) #[true, true, true, true, true, true, true, true, true, true, true, true, true, true, true, true, true, true, true, true, true, false, false, false, false, false, false, false, false, false, false] rfl rfl (any_of HT_.1 (by kernel_rfl)) (fun _ _ _ h => h) (Or.inr ⟨by rfl, rfl⟩) ?_ ?_
   rotate_left
   · simp only [Act.put, List.setIfInBounds_toArray, List.set_cons_zero, List.set_cons_succ, i64_w, i32_w]
     rfl
   refine pure_ (i := 21) (N := some 149) (v := undef) (a' := ?_) #[true, true, true, true, true, true, true, true, true, true, true, true, true, true, true, true, true, true, true, true, true, true, false, false, false, false, false, false, false, false, false] rfl rfl (any_of HT_.1 (by kernel_rfl)) (fun _ _ _ h => h) (Or.inr ⟨by rfl, rfl⟩) ?_ ?_
   rotate_left
   · simp only [Act.put, List.setIfInBounds_toArray, List.set_cons_zero, List.set_cons_succ, i64_w, i32_w]
     rfl
   refine pure_ (i := 22) (N := some 150) (v := undef) (a' := ?_) #[true, true, true, true, true, true, true, true, true, true, true, true, true, true, true, true, true, true, true, true, true, true, true, false, false, false, false, false, false, false, false] rfl rfl (any_of HT_.1 (by kernel_rfl)) (fun _ _ _ h => h) (Or.inr ⟨by rfl, rfl⟩) ?_ ?_
   rotate_left
   · simp only [Act.put, List.setIfInBounds_toArray, List.set_cons_zero, List.set_cons_succ, i64_w, i32_w]
     rfl
   refine pure_ (i := 23) (N := some 151) (v := undef) (a' := ?_) #[true, true, true, true, true, true, true, true, true, true, true, true, true, true, true, true, true, true, true, true, true, true, true, true, false, false, false, false, false, false, false] rfl rfl (any_of HT_.1 (by kernel_rfl)) (fun _ _ _ h => h) (Or.inr ⟨by rfl, rfl⟩) ?_ ?_
   rotate_left
   · simp only [Act.put, List.setIfInBounds_toArray, List.set_cons_zero, List.set_cons_succ, i64_w, i32_w]
     rfl
   refine pure_ (i := 24) (N := some 152) (v := undef) (a' := ?_) #[true, true, true, true, true, true, true, true, true, true, true, true, true, true, true, true, true, true, true, true, true, true, true, true, true, false, false, false, false, false, false] rfl rfl (any_of HT_.1 (by kernel_rfl)) (fun _ _ _ h => h) (Or.inr ⟨by rfl, rfl⟩) ?_ ?_
   rotate_left
   · simp only [Act.put, List.setIfInBounds_toArray, List.set_cons_zero, List.set_cons_succ, i64_w, i32_w]
     rfl
   refine pure_ (i := 25) (N := some 153) (v := undef) (a' := ?_) #[true, true, true, true, true, true, true, true, true, true, true, true, true, true, true, true, true, true, true, true, true, true, true, true, true, true, false, false, false, false, false] rfl rfl (any_of HT_.1 (by kernel_rfl)) (fun _ _ _ h => h) (Or.inr ⟨by rfl, rfl⟩) ?_ ?_
   rotate_left
   · simp only [Act.put, List.setIfInBounds_toArray, List.set_cons_zero, List.set_cons_succ, i64_w, i32_w]
     rfl
   refine pure_ (i := 26) (N := some 154) (v := undef) (a' := ?_) #[true, true, true, true, true, true, true, true, true, true, true, true, true, true, true, true, true, true, true, true, true, true, true, true, true, true, true, false, false, false, false] rfl rfl (any_of HT_.1 (by kernel_rfl)) (fun _ _ _ h => h) (Or.inr ⟨by rfl, rfl⟩) ?_ ?_
   rotate_left
   · simp only [Act.put, List.setIfInBounds_toArray, List.set_cons_zero, List.set_cons_succ, i64_w, i32_w]
     rfl
   refine pure_ (i := 27) (N := some 155) (v := undef) (a' := ?_) #[true, true, true, true, true, true, true, true, true, true, true, true, true, true, true, true, true, true, true, true, true, true, true, true, true, true, true, true, false, false, false] rfl rfl (any_of HT_.1 (by kernel_rfl)) (fun _ _ _ h => h) (Or.inr ⟨by rfl, rfl⟩) ?_ ?_
   rotate_left
   · simp only [Act.put, List.setIfInBounds_toArray, List.set_cons_zero, List.set_cons_succ, i64_w, i32_w]
     rfl
   refine pure_ (i := 28) (N := some 156) (v := undef) (a' := ?_) #[true, true, true, true, true, true, true, true, true, true, true, true, true, true, true, true, true, true, true, true, true, true, true, true, true, true, true, true, true, false, false] rfl rfl (any_of HT_.1 (by kernel_rfl)) (fun _ _ _ h => h) (Or.inr ⟨by rfl, rfl⟩) ?_ ?_
   rotate_left
   · simp only [Act.put, List.setIfInBounds_toArray, List.set_cons_zero, List.set_cons_succ, i64_w, i32_w]
     rfl
   refine pure_ (i := 29) (N := some 157) (v := undef) (a' := ?_) #[true, true, true, true, true, true, true, true, true, true, true, true, true, true, true, true, true, true, true, true, true, true, true, true, true, true, true, true, true, true, false] rfl rfl (any_of HT_.1 (by kernel_rfl)) (fun _ _ _ h => h) (Or.inr ⟨by rfl, rfl⟩) ?_ ?_
   rotate_left
   · simp only [Act.put, List.setIfInBounds_toArray, List.set_cons_zero, List.set_cons_succ, i64_w, i32_w]
     rfl
   refine pure_ (i := 30) (N := some 158) (v := ?_) (a' := ?_) #[true, true, true, true, true, true, true, true, true, true, true, true, true, true, true, true, true, true, true, true, true, true, true, true, true, true, true, true, true, true, true] rfl rfl (any_of HT_.1 (by kernel_rfl)) (fun _ _ _ h => h) (Or.inl ⟨by rfl, ?_⟩) ?_ ?_
   rotate_left
   · intro w'
     go_simp
     with_reducible rfl
   rotate_left
   · simp only [Act.put, List.setIfInBounds_toArray, List.set_cons_zero, List.set_cons_succ, i64_w, i32_w]
     rfl
   refine done_ (done_of HT_.1 (by kernel_rfl)) ?_
   try go_wp2
   go_roundg kj60
   case measure => have := HJ3.1; have := HK2.1; have := HK3.1; have := HK4.1; have := HK5.1; have := HJ60.1; omega
   case rel => exact ⟨(wrap64 (x11_5 + 1)), prs, H', ⟨by have := HJ3.1; have := HK2.1; have := HK3.1; have := HK4.1; have := HK5.1; have := HJ60.1; omega⟩, ⟨pkr HO_5.1⟩, ⟨pkv HO_698001.1⟩, ⟨pkv HO_698002.1⟩, ⟨pbk BK688.1⟩, ⟨pbk BK697.1⟩, ⟨by repeat (first | (with_reducible exact HR711_1.1) | (with_reducible refine Kd.C_alloc ?_ _) | (with_reducible refine Kd.C_drewN ?_ _) | (with_reducible refine Kd.C_drew ?_) | exact HR711_1.1)⟩, ⟨by repeat (first | (with_reducible exact HR711_2.1) | (with_reducible refine Kd.C_alloc ?_ _) | (with_reducible refine Kd.C_drewN ?_ _) | (with_reducible refine Kd.C_drew ?_) | exact HR711_2.1)⟩, ⟨by repeat (first | (with_reducible exact HR711_3.1) | (with_reducible refine Kd.C_alloc ?_ _) | (with_reducible refine Kd.C_drewN ?_ _) | (with_reducible refine Kd.C_drew ?_) | exact HR711_3.1)⟩, ⟨pbg⟩⟩
 rw [if_pos c70] at H
 have c70b0 : ((rd t698 (ji64)) == (rd t698 (ji67))) = true := beq_iff_eq.mpr c70
 have c70b1 : ((rd t698 (ji64)) != (rd t698 (ji67))) = false := bne_eq_false_iff_eq.mpr c70
 clear c70
 replace H := ifp H
 obtain ⟨c71, H⟩ := H
 have c71b0 := decide_eq_true c71
 clear c71
 replace H := ifp H
 obtain ⟨c72, H⟩ := H
 have c72b0 := decide_eq_true c72
 clear c72
 replace H := bnd H
 obtain ⟨t719, A73, H⟩ := H
 (try dsimp only at H)
 replace H := ifp H
 obtain ⟨c74, H⟩ := H
 have c74b0 := decide_eq_true c74
 clear c74
 replace H := ifp H
 obtain ⟨c75, H⟩ := H
 have c75b0 := decide_eq_true c75
 clear c75
 replace H := bnd H
 obtain ⟨t723, A76, H⟩ := H
 (try dsimp only at H)
 replace H := bnd H
 obtain ⟨t726, A77, H⟩ := H
 (try dsimp only at H)
 by_cases c78 : t726 = true
 rotate_left
 · replace c78 := Bool.eq_false_iff.mpr c78
   subst c78
   rw [if_neg Bool.false_ne_true] at H
   exact absurd H (by simp)
 subst c78
 rw [if_pos rfl] at H
 have H' := am H
 clear H
 try go_wp2
 replace HO_5 := am (Kd.R_drew HO_5.1)
 replace HO_698001 := am (Kd.V_drew HO_698001.1)
 replace HO_698002 := am (Kd.V_drew HO_698002.1)
 replace BK688 := am (blk_drew BK688.1)
 replace BK697 := am (blk_drew BK697.1)
 replace HR711_1 := am (Kd.C_drew HR711_1.1)
 replace HR711_2 := am (Kd.C_drew HR711_2.1)
 replace HR711_3 := am (Kd.C_drew HR711_3.1)
 replace HB := am (below_drew1 HB.1)
 have p716 : 0 ≤ ((ji64) : Int) := dq
 have q716 : (ji64) < (t698.length : Int) := dq
 obtain ⟨ad716, e716, hx716_0⟩ := Kd.at_int (Kd.R_reads' HO_5.1).2.2 (ji64) p716 q716
 cases e716
 replace p716 := eq_true p716
 replace q716 := eq_true q716
 have p717 : 0 ≤ ((ji67) : Int) := dq
 have q717 : (ji67) < (t698.length : Int) := dq
 obtain ⟨ad717, e717, hx717_0⟩ := Kd.at_int (Kd.R_reads' HO_5.1).2.2 (ji67) p717 q717
 obtain rfl : ad716 = ad717 := (by injection e717)
 replace p717 := eq_true p717
 replace q717 := eq_true q717
 have p718 : 0 ≤ (x11_5 : Int) := dq
 have q718 : x11_5 < (t693.length : Int) := dq
 obtain ⟨ad718, A718_1, c718_1, A718_2, c718_2, A718_3, c718_3, e718, hx718_0, hx718_1, hx718_2, hx718_3, hx718_4, hl718_1, hi718_1, hl718_2, hi718_2, hl718_3, hi718_3⟩ := at_T41 (Kd.V_reads' HO_698002.1).2.2 x11_5 p718 q718
 obtain rfl : ad711 = ad718 := (by injection e718)
 obtain ⟨ce718, hce718, hMe718, hcc718⟩ := Kd.V_get HO_698002.1 z41 x11_5 p718 (by first | exact q718 | exact dq | (have e_ := (Kd.V_reads' HO_698002.1).1; omega))
 obtain ⟨ua718_1, uc718_1, ua718_2, uc718_2, ua718_3, uc718_3, rfl, ul718_1, ge718_1, ul718_2, ge718_2, ul718_3, ge718_3⟩ := k41_openF hMe718
 have hv718_1 := hcc718 1 _ rfl
 rw [add_field _ _ 1 (by omega)] at hv718_1
 replace hv718_1 := Option.some.inj (hv718_1.symm.trans hx718_1)
 injection hv718_1 with hva_ hvn_ hvc_
 rw [hva_] at ge718_1
 rw [hvc_] at ul718_1
 have HL718_1 := am (show Kd.V k43 43 _ w.heap.size _ _ ((rd_T41 t693 x11_5).f1) from Kd.V_mk ul718_1 ge718_1)
 clear hva_ hvn_ hvc_ ge718_1 ul718_1
 have hv718_2 := hcc718 2 _ rfl
 rw [add_field _ _ 2 (by omega)] at hv718_2
 replace hv718_2 := Option.some.inj (hv718_2.symm.trans hx718_2)
 injection hv718_2 with hva_ hvn_ hvc_
 rw [hva_] at ge718_2
 rw [hvc_] at ul718_2
 have HL718_2 := am (show Kd.V k43 43 _ w.heap.size _ _ ((rd_T41 t693 x11_5).f2) from Kd.V_mk ul718_2 ge718_2)
 clear hva_ hvn_ hvc_ ge718_2 ul718_2
 have hv718_3 := hcc718 3 _ rfl
 rw [add_field _ _ 3 (by omega)] at hv718_3
 replace hv718_3 := Option.some.inj (hv718_3.symm.trans hx718_3)
 injection hv718_3 with hva_ hvn_ hvc_
 rw [hva_] at ge718_3
 rw [hvc_] at ul718_3
 have HL718_3 := am (show Kd.V k43 43 _ w.heap.size _ _ ((rd_T41 t693 x11_5).f3) from Kd.V_mk ul718_3 ge718_3)
 clear hva_ hvn_ hvc_ ge718_3 ul718_3 hcc718 hce718
 have HR718_1 := am hi718_1
 have HC718_1 := am hl718_1
 clear hi718_1 hl718_1
 have HR718_2 := am hi718_2
 have HC718_2 := am hl718_2
 clear hi718_2 hl718_2
 have HR718_3 := am hi718_3
 have HC718_3 := am hl718_3
 clear hi718_3 hl718_3
 replace p718 := eq_true p718
 replace q718 := eq_true q718
 have p722 : 0 ≤ (x9_3 : Int) := dq
 have q722 : x9_3 < (t693.length : Int) := dq
 obtain ⟨ad722, A722_1, c722_1, A722_2, c722_2, A722_3, c722_3, e722, hx722_0, hx722_1, hx722_2, hx722_3, hx722_4, hl722_1, hi722_1, hl722_2, hi722_2, hl722_3, hi722_3⟩ := at_T41 (Kd.V_reads' HO_698002.1).2.2 x9_3 p722 q722
 obtain rfl : ad711 = ad722 := (by injection e722)
 obtain ⟨ce722, hce722, hMe722, hcc722⟩ := Kd.V_get HO_698002.1 z41 x9_3 p722 (by first | exact q722 | exact dq | (have e_ := (Kd.V_reads' HO_698002.1).1; omega))
 obtain ⟨ua722_1, uc722_1, ua722_2, uc722_2, ua722_3, uc722_3, rfl, ul722_1, ge722_1, ul722_2, ge722_2, ul722_3, ge722_3⟩ := k41_openF hMe722
 have hv722_1 := hcc722 1 _ rfl
 rw [add_field _ _ 1 (by omega)] at hv722_1
 replace hv722_1 := Option.some.inj (hv722_1.symm.trans hx722_1)
 injection hv722_1 with hva_ hvn_ hvc_
 rw [hva_] at ge722_1
 rw [hvc_] at ul722_1
 have HL722_1 := am (show Kd.V k43 43 _ w.heap.size _ _ ((rd_T41 t693 x9_3).f1) from Kd.V_mk ul722_1 ge722_1)
 clear hva_ hvn_ hvc_ ge722_1 ul722_1
 have hv722_2 := hcc722 2 _ rfl
 rw [add_field _ _ 2 (by omega)] at hv722_2
 replace hv722_2 := Option.some.inj (hv722_2.symm.trans hx722_2)
 injection hv722_2 with hva_ hvn_ hvc_
 rw [hva_] at ge722_2
 rw [hvc_] at ul722_2
 have HL722_2 := am (show Kd.V k43 43 _ w.heap.size _ _ ((rd_T41 t693 x9_3).f2) from Kd.V_mk ul722_2 ge722_2)
 clear hva_ hvn_ hvc_ ge722_2 ul722_2
 have hv722_3 := hcc722 3 _ rfl
 rw [add_field _ _ 3 (by omega)] at hv722_3
 replace hv722_3 := Option.some.inj (hv722_3.symm.trans hx722_3)
 injection hv722_3 with hva_ hvn_ hvc_
 rw [hva_] at ge722_3
 rw [hvc_] at ul722_3
 have HL722_3 := am (show Kd.V k43 43 _ w.heap.size _ _ ((rd_T41 t693 x9_3).f3) from Kd.V_mk ul722_3 ge722_3)
 clear hva_ hvn_ hvc_ ge722_3 ul722_3 hcc722 hce722
 have HR722_1 := am hi722_1
 have HC722_1 := am hl722_1
 clear hi722_1 hl722_1
 have HR722_2 := am hi722_2
 have HC722_2 := am hl722_2
 clear hi722_2 hl722_2
 have HR722_3 := am hi722_3
 have HC722_3 := am hl722_3
 clear hi722_3 hl722_3
 replace p722 := eq_true p722
 replace q722 := eq_true q722
 refine start_ (n := 31) (S := fun w' => w'.cell? ⟨gb697, 0, none⟩ = some (.string t689) ∧ w'.cell? ⟨gb697, 1, none⟩ = some (.slice Ao11 t690.length co11) ∧ w'.cell? ⟨gb697, 2, none⟩ = some (.slice (some ad711) t693.length co12) ∧ w'.cell? (ad716.add ((ji64)).toNat) = some (.int .i64 (rd t698 (ji64))) ∧ w'.cell? (ad716.add ((ji67)).toNat) = some (.int .i64 (rd t698 (ji67))) ∧ w'.cell? (ad711.add ((x11_5).toNat * 5)) = some (.string ((rd_T41 t693 x11_5).f0)) ∧ w'.cell? ⟨(ad711.add ((x11_5).toNat * 5)).block, (ad711.add ((x11_5).toNat * 5)).off + 1, none⟩ = some (.slice A718_1 ((rd_T41 t693 x11_5).f1).length c718_1) ∧ w'.cell? ⟨(ad711.add ((x11_5).toNat * 5)).block, (ad711.add ((x11_5).toNat * 5)).off + 2, none⟩ = some (.slice A718_2 ((rd_T41 t693 x11_5).f2).length c718_2) ∧ w'.cell? ⟨(ad711.add ((x11_5).toNat * 5)).block, (ad711.add ((x11_5).toNat * 5)).off + 3, none⟩ = some (.slice A718_3 ((rd_T41 t693 x11_5).f3).length c718_3) ∧ w'.cell? ⟨(ad711.add ((x11_5).toNat * 5)).block, (ad711.add ((x11_5).toNat * 5)).off + 4, none⟩ = some (.int .i64 ((rd_T41 t693 x11_5).f4)) ∧ w'.cell? (ad711.add ((x9_3).toNat * 5)) = some (.string ((rd_T41 t693 x9_3).f0)) ∧ w'.cell? ⟨(ad711.add ((x9_3).toNat * 5)).block, (ad711.add ((x9_3).toNat * 5)).off + 1, none⟩ = some (.slice A722_1 ((rd_T41 t693 x9_3).f1).length c722_1) ∧ w'.cell? ⟨(ad711.add ((x9_3).toNat * 5)).block, (ad711.add ((x9_3).toNat * 5)).off + 2, none⟩ = some (.slice A722_2 ((rd_T41 t693 x9_3).f2).length c722_2) ∧ w'.cell? ⟨(ad711.add ((x9_3).toNat * 5)).block, (ad711.add ((x9_3).toNat * 5)).off + 3, none⟩ = some (.slice A722_3 ((rd_T41 t693 x9_3).f3).length c722_3) ∧ w'.cell? ⟨(ad711.add ((x9_3).toNat * 5)).block, (ad711.add ((x9_3).toNat * 5)).off + 4, none⟩ = some (.int .i64 ((rd_T41 t693 x9_3).f4))) (ds := []) #[false, false, false, false, false, false, false, false, false, false, false, false, false, false, false, false, false, false, false, false, false, false, false, false, false, false, false, false, false, false, false] (by kernel_rfl) rfl rfl ⟨(blk_cell BK697.1 0).trans rfl, (blk_cell BK697.1 1).trans rfl, (blk_cell BK697.1 2).trans rfl, hx716_0, hx717_0, hx718_0, hx718_1, hx718_2, hx718_3, hx718_4, hx722_0, hx722_1, hx722_2, hx722_3, hx722_4⟩ (fun hHeld => ?_); refine with_tabW petrinetlaw13_NetclassSpreads.tab25 petrinetlaw13_NetclassSpreads.bits25 (fun HT_ HW_ => ?_)
 generalize wc.drew = w79 at HO_5 HO_698001 HO_698002 BK688 BK697 HR711_1 HR711_2 HR711_3 HB HL718_1 HL718_2 HL718_3 HL722_1 HL722_2 HL722_3 HR718_1 HR718_2 HR718_3 HR722_1 HR722_2 HR722_3 hx716_0 hx717_0 hx718_0 hx718_1 hx718_2 hx718_3 hx718_4 hx722_0 hx722_1 hx722_2 hx722_3 hx722_4 hHeld ⊢
 refine pure_ (i := 0) (N := some 128) (v := ?_) (a' := ?_) #[true, false, false, false, false, false, false, false, false, false, false, false, false, false, false, false, false, false, false, false, false, false, false, false, false, false, false, false, false, false, false] rfl rfl (any_of HT_.1 (by kernel_rfl)) (fun _ _ _ h => h) (Or.inl ⟨by rfl, ?_⟩) ?_ ?_
 rotate_left
 · intro w'
   go_simp
   with_reducible rfl
 rotate_left
 · simp only [Act.put, List.setIfInBounds_toArray, List.set_cons_zero, List.set_cons_succ, i64_w, i32_w]
   rfl
 refine pure_ (i := 1) (N := some 129) (v := ?_) (a' := ?_) #[true, true, false, false, false, false, false, false, false, false, false, false, false, false, false, false, false, false, false, false, false, false, false, false, false, false, false, false, false, false, false] rfl rfl (any_of HT_.1 (by kernel_rfl)) (fun _ _ _ h => h) (Or.inl ⟨by rfl, ?_⟩) ?_ ?_
 rotate_left
 · intro w'
   go_simp
   with_reducible rfl
 rotate_left
 · simp only [Act.put, List.setIfInBounds_toArray, List.set_cons_zero, List.set_cons_succ, i64_w, i32_w]
   rfl
 refine pure_ (i := 2) (N := some 130) (v := ?_) (a' := ?_) #[true, true, true, false, false, false, false, false, false, false, false, false, false, false, false, false, false, false, false, false, false, false, false, false, false, false, false, false, false, false, false] rfl rfl (any_of HT_.1 (by kernel_rfl)) (fun _ _ _ h => h) (Or.inl ⟨by rfl, ?_⟩) ?_ ?_
 rotate_left
 · intro w'
   go_simp
   with_reducible rfl
 rotate_left
 · simp only [Act.put, List.setIfInBounds_toArray, List.set_cons_zero, List.set_cons_succ, i64_w, i32_w]
   rfl
 refine pure_ (i := 3) (N := some 131) (v := ?_) (a' := ?_) #[true, true, true, true, false, false, false, false, false, false, false, false, false, false, false, false, false, false, false, false, false, false, false, false, false, false, false, false, false, false, false] rfl rfl (any_of HT_.1 (by kernel_rfl)) (fun _ _ _ h => h) (Or.inl ⟨by rfl, ?_⟩) ?_ ?_
 rotate_left
 · intro w'
   go_simp
   with_reducible rfl
 rotate_left
 · simp only [Act.put, List.setIfInBounds_toArray, List.set_cons_zero, List.set_cons_succ, i64_w, i32_w]
   rfl
 refine pure_ (i := 4) (N := some 132) (v := ?_) (a' := ?_) #[true, true, true, true, true, false, false, false, false, false, false, false, false, false, false, false, false, false, false, false, false, false, false, false, false, false, false, false, false, false, false] rfl rfl (any_of HT_.1 (by kernel_rfl)) (fun _ _ _ h => h) (Or.inl ⟨by rfl, ?_⟩) ?_ ?_
 rotate_left
 · intro w'
   go_simp
   with_reducible rfl
 rotate_left
 · simp only [Act.put, List.setIfInBounds_toArray, List.set_cons_zero, List.set_cons_succ, i64_w, i32_w]
   rfl
 refine pure_ (i := 6) (N := some 134) (v := ?_) (a' := ?_) #[true, true, true, true, true, false, true, false, false, false, false, false, false, false, false, false, false, false, false, false, false, false, false, false, false, false, false, false, false, false, false] rfl rfl (any_of HT_.1 (by kernel_rfl)) (fun _ _ _ h => h) (Or.inl ⟨by rfl, ?_⟩) ?_ ?_
 rotate_left
 · intro w'
   go_simp
   with_reducible rfl
 rotate_left
 · simp only [Act.put, List.setIfInBounds_toArray, List.set_cons_zero, List.set_cons_succ, i64_w, i32_w]
   rfl
 refine pure_ (i := 7) (N := some 135) (v := ?_) (a' := ?_) #[true, true, true, true, true, false, true, true, false, false, false, false, false, false, false, false, false, false, false, false, false, false, false, false, false, false, false, false, false, false, false] rfl rfl (any_of HT_.1 (by kernel_rfl)) (fun _ _ _ h => h) (Or.inl ⟨by rfl, ?_⟩) ?_ ?_
 rotate_left
 · intro w'
   go_simp
   with_reducible rfl
 rotate_left
 · simp only [Act.put, List.setIfInBounds_toArray, List.set_cons_zero, List.set_cons_succ, i64_w, i32_w]
   rfl
 refine pure_ (i := 8) (N := some 136) (v := ?_) (a' := ?_) #[true, true, true, true, true, false, true, true, true, false, false, false, false, false, false, false, false, false, false, false, false, false, false, false, false, false, false, false, false, false, false] rfl rfl (any_of HT_.1 (by kernel_rfl)) (fun _ _ _ h => h) (Or.inl ⟨by rfl, ?_⟩) ?_ ?_
 rotate_left
 · intro w'
   go_simp
   with_reducible rfl
 rotate_left
 · simp only [Act.put, List.setIfInBounds_toArray, List.set_cons_zero, List.set_cons_succ, i64_w, i32_w]
   rfl
 refine pure_ (i := 9) (N := some 137) (v := ?_) (a' := ?_) #[true, true, true, true, true, false, true, true, true, true, false, false, false, false, false, false, false, false, false, false, false, false, false, false, false, false, false, false, false, false, false] rfl rfl (any_of HT_.1 (by kernel_rfl)) (fun _ _ _ h => h) (Or.inl ⟨by rfl, ?_⟩) ?_ ?_
 rotate_left
 · intro w'
   go_simp
   with_reducible rfl
 rotate_left
 · simp only [Act.put, List.setIfInBounds_toArray, List.set_cons_zero, List.set_cons_succ, i64_w, i32_w]
   rfl
 refine pure_ (i := 10) (N := some 138) (v := ?_) (a' := ?_) #[true, true, true, true, true, false, true, true, true, true, true, false, false, false, false, false, false, false, false, false, false, false, false, false, false, false, false, false, false, false, false] rfl rfl (any_of HT_.1 (by kernel_rfl)) (fun _ _ _ h => h) (Or.inl ⟨by rfl, ?_⟩) ?_ ?_
 rotate_left
 · intro w'
   go_simp
   with_reducible rfl
 rotate_left
 · simp only [Act.put, List.setIfInBounds_toArray, List.set_cons_zero, List.set_cons_succ, i64_w, i32_w]
   rfl
 refine take_ (i := 5) (N := some 133) (v := ?_) (a' := ?_) #[true, true, true, true, true, true, true, true, true, true, true, false, false, false, false, false, false, false, false, false, false, false, false, false, false, false, false, false, false, false, false] rfl rfl (take_ofW HT_.1 HW_.1 (by kernel_rfl)) (fun _ _ _ h => h) (Or.inl ⟨by rfl, ?_⟩) hHeld ?_ ?_
 rotate_left
 · rintro w' ⟨s0, s1, s2, s3, s4, s5, s6, s7, s8, s9, s10, s11, s12, s13, s14⟩
   go_simp
   with_reducible rfl
 rotate_left
 · simp only [Act.put, List.setIfInBounds_toArray, List.set_cons_zero, List.set_cons_succ, i64_w, i32_w]
   rfl
 refine take_ (i := 11) (N := some 139) (v := ?_) (a' := ?_) #[true, true, true, true, true, true, true, true, true, true, true, true, false, false, false, false, false, false, false, false, false, false, false, false, false, false, false, false, false, false, false] rfl rfl (take_ofW HT_.1 HW_.1 (by kernel_rfl)) (fun _ _ _ h => h) (Or.inl ⟨by rfl, ?_⟩) hHeld ?_ ?_
 rotate_left
 · rintro w' ⟨s0, s1, s2, s3, s4, s5, s6, s7, s8, s9, s10, s11, s12, s13, s14⟩
   go_simp
   with_reducible rfl
 rotate_left
 · simp only [Act.put, List.setIfInBounds_toArray, List.set_cons_zero, List.set_cons_succ, i64_w, i32_w]
   rfl
 refine pure_ (i := 12) (N := some 140) (v := ?_) (a' := ?_) #[true, true, true, true, true, true, true, true, true, true, true, true, true, false, false, false, false, false, false, false, false, false, false, false, false, false, false, false, false, false, false] rfl rfl (any_of HT_.1 (by kernel_rfl)) (fun _ _ _ h => h) (Or.inl ⟨by rfl, ?_⟩) ?_ ?_
 rotate_left
 · intro w'
   go_simp
   with_reducible rfl
 rotate_left
 · simp only [Act.put, List.setIfInBounds_toArray, List.set_cons_zero, List.set_cons_succ, i64_w, i32_w]
   rfl
 refine pure_ (i := 13) (N := some 141) (v := ?_) (a' := ?_) #[true, true, true, true, true, true, true, true, true, true, true, true, true, true, false, false, false, false, false, false, false, false, false, false, false, false, false, false, false, false, false] rfl rfl (any_of HT_.1 (by kernel_rfl)) (fun _ _ _ h => h) (Or.inl ⟨by rfl, ?_⟩) ?_ ?_
 rotate_left
 · intro w'
   go_simp
   with_reducible rfl
 rotate_left
 · simp only [Act.put, List.setIfInBounds_toArray, List.set_cons_zero, List.set_cons_succ, i64_w, i32_w]
   rfl
 refine pure_ (i := 14) (N := some 142) (v := ?_) (a' := ?_) #[true, true, true, true, true, true, true, true, true, true, true, true, true, true, true, false, false, false, false, false, false, false, false, false, false, false, false, false, false, false, false] rfl rfl (any_of HT_.1 (by kernel_rfl)) (fun _ _ _ h => h) (Or.inl ⟨by rfl, ?_⟩) ?_ ?_
 rotate_left
 · intro w'
   go_simp
   with_reducible rfl
 rotate_left
 · simp only [Act.put, List.setIfInBounds_toArray, List.set_cons_zero, List.set_cons_succ, i64_w, i32_w]
   rfl
 refine pure_ (i := 16) (N := some 144) (v := ?_) (a' := ?_) #[true, true, true, true, true, true, true, true, true, true, true, true, true, true, true, false, true, false, false, false, false, false, false, false, false, false, false, false, false, false, false] rfl rfl (any_of HT_.1 (by kernel_rfl)) (fun _ _ _ h => h) (Or.inl ⟨by rfl, ?_⟩) ?_ ?_
 rotate_left
 · intro w'
   go_simp
   with_reducible rfl
 rotate_left
 · simp only [Act.put, List.setIfInBounds_toArray, List.set_cons_zero, List.set_cons_succ, i64_w, i32_w]
   rfl
 refine pure_ (i := 21) (N := some 149) (v := ?_) (a' := ?_) #[true, true, true, true, true, true, true, true, true, true, true, true, true, true, true, false, true, false, false, false, false, true, false, false, false, false, false, false, false, false, false] rfl rfl (any_of HT_.1 (by kernel_rfl)) (fun _ _ _ h => h) (Or.inl ⟨by rfl, ?_⟩) ?_ ?_
 rotate_left
 · intro w'
   go_simp
   with_reducible rfl
 rotate_left
 · simp only [Act.put, List.setIfInBounds_toArray, List.set_cons_zero, List.set_cons_succ, i64_w, i32_w]
   rfl
 refine pure_ (i := 23) (N := some 151) (v := ?_) (a' := ?_) #[true, true, true, true, true, true, true, true, true, true, true, true, true, true, true, false, true, false, false, false, false, true, false, true, false, false, false, false, false, false, false] rfl rfl (any_of HT_.1 (by kernel_rfl)) (fun _ _ _ h => h) (Or.inl ⟨by rfl, ?_⟩) ?_ ?_
 rotate_left
 · intro w'
   go_simp
   with_reducible rfl
 rotate_left
 · simp only [Act.put, List.setIfInBounds_toArray, List.set_cons_zero, List.set_cons_succ, i64_w, i32_w]
   rfl
 refine take_ (i := 15) (N := some 143) (v := ?_) (a' := ?_) #[true, true, true, true, true, true, true, true, true, true, true, true, true, true, true, true, true, false, false, false, false, true, false, true, false, false, false, false, false, false, false] rfl rfl (take_ofW HT_.1 HW_.1 (by kernel_rfl)) (fun _ _ _ h => h) (Or.inl ⟨by rfl, ?_⟩) hHeld ?_ ?_
 rotate_left
 · rintro w' ⟨s0, s1, s2, s3, s4, s5, s6, s7, s8, s9, s10, s11, s12, s13, s14⟩
   go_simp
   with_reducible rfl
 rotate_left
 · simp only [Act.put, List.setIfInBounds_toArray, List.set_cons_zero, List.set_cons_succ, i64_w, i32_w]
   rfl
 refine pure_ (i := 17) (N := some 145) (v := ?_) (a' := ?_) #[true, true, true, true, true, true, true, true, true, true, true, true, true, true, true, true, true, true, false, false, false, true, false, true, false, false, false, false, false, false, false] rfl rfl (any_of HT_.1 (by kernel_rfl)) (fun _ _ _ h => h) (Or.inl ⟨by rfl, ?_⟩) ?_ ?_
 rotate_left
 · intro w'
   go_simp
   with_reducible rfl
 rotate_left
 · simp only [Act.put, List.setIfInBounds_toArray, List.set_cons_zero, List.set_cons_succ, i64_w, i32_w]
   rfl
 refine pure_ (i := 18) (N := some 146) (v := ?_) (a' := ?_) #[true, true, true, true, true, true, true, true, true, true, true, true, true, true, true, true, true, true, true, false, false, true, false, true, false, false, false, false, false, false, false] rfl rfl (any_of HT_.1 (by kernel_rfl)) (fun _ _ _ h => h) (Or.inl ⟨by rfl, ?_⟩) ?_ ?_
 rotate_left
 · intro w'
   go_simp
   with_reducible rfl
 rotate_left
 · simp only [Act.put, List.setIfInBounds_toArray, List.set_cons_zero, List.set_cons_succ, i64_w, i32_w]
   rfl
 refine take_ (i := 19) (N := some 147) (v := ?_) (a' := ?_) #[true, true, true, true, true, true, true, true, true, true, true, true, true, true, true, true, true, true, true, true, false, true, false, true, false, false, false, false, false, false, false] rfl rfl (take_ofW HT_.1 HW_.1 (by kernel_rfl)) (fun _ _ _ h => h) (Or.inl ⟨by rfl, ?_⟩) hHeld ?_ ?_
 rotate_left
 · rintro w' ⟨s0, s1, s2, s3, s4, s5, s6, s7, s8, s9, s10, s11, s12, s13, s14⟩
   go_simp
   with_reducible rfl
 rotate_left
 · simp only [Act.put, List.setIfInBounds_toArray, List.set_cons_zero, List.set_cons_succ, i64_w, i32_w]
   rfl
 refine take_ (i := 22) (N := some 150) (v := ?_) (a' := ?_) #[true, true, true, true, true, true, true, true, true, true, true, true, true, true, true, true, true, true, true, true, false, true, true, true, false, false, false, false, false, false, false] rfl rfl (take_ofW HT_.1 HW_.1 (by kernel_rfl)) (fun _ _ _ h => h) (Or.inl ⟨by rfl, ?_⟩) hHeld ?_ ?_
 rotate_left
 · rintro w' ⟨s0, s1, s2, s3, s4, s5, s6, s7, s8, s9, s10, s11, s12, s13, s14⟩
   go_simp
   with_reducible rfl
 rotate_left
 · simp only [Act.put, List.setIfInBounds_toArray, List.set_cons_zero, List.set_cons_succ, i64_w, i32_w]
   rfl
 refine pure_ (i := 24) (N := some 152) (v := ?_) (a' := ?_) #[true, true, true, true, true, true, true, true, true, true, true, true, true, true, true, true, true, true, true, true, false, true, true, true, true, false, false, false, false, false, false] rfl rfl (any_of HT_.1 (by kernel_rfl)) (fun _ _ _ h => h) (Or.inl ⟨by rfl, ?_⟩) ?_ ?_
 rotate_left
 · intro w'
   go_simp
   with_reducible rfl
 rotate_left
 · simp only [Act.put, List.setIfInBounds_toArray, List.set_cons_zero, List.set_cons_succ, i64_w, i32_w]
   rfl
 refine pure_ (i := 25) (N := some 153) (v := ?_) (a' := ?_) #[true, true, true, true, true, true, true, true, true, true, true, true, true, true, true, true, true, true, true, true, false, true, true, true, true, true, false, false, false, false, false] rfl rfl (any_of HT_.1 (by kernel_rfl)) (fun _ _ _ h => h) (Or.inl ⟨by rfl, ?_⟩) ?_ ?_
 rotate_left
 · intro w'
   go_simp
   with_reducible rfl
 rotate_left
 · simp only [Act.put, List.setIfInBounds_toArray, List.set_cons_zero, List.set_cons_succ, i64_w, i32_w]
   rfl
 refine take_ (i := 26) (N := some 154) (v := ?_) (a' := ?_) #[true, true, true, true, true, true, true, true, true, true, true, true, true, true, true, true, true, true, true, true, false, true, true, true, true, true, true, false, false, false, false] rfl rfl (take_ofW HT_.1 HW_.1 (by kernel_rfl)) (fun _ _ _ h => h) (Or.inl ⟨by rfl, ?_⟩) hHeld ?_ ?_
 rotate_left
 · rintro w' ⟨s0, s1, s2, s3, s4, s5, s6, s7, s8, s9, s10, s11, s12, s13, s14⟩
   go_simp
   with_reducible rfl
 rotate_left
 · simp only [Act.put, List.setIfInBounds_toArray, List.set_cons_zero, List.set_cons_succ, i64_w, i32_w]
   rfl
 refine one_ (i := 20) (N := some 148) #[true, true, true, true, true, true, true, true, true, true, true, true, true, true, true, true, true, true, true, true, true, true, true, true, true, true, true, false, false, false, false] rfl rfl (one_of HT_.1 (by kernel_rfl)) (by decide) (fun K hK => ?_)
 refine goes_ Try.func35 (by kernel_rfl) rfl #[.slice A718_1 ((rd_T41 t693 x11_5).f1).length c718_1] (by rfl) rfl rfl pgz ?_
 with_reducible refine (petrinetref09_Targets.calls kj60 _ _ ((rd_T41 t693 x11_5).f1) t719 _ ?side1 ?side2 A73.1).mono ?_
 (case side1 => repeat (first | exact (by repeat (first | (with_reducible exact HR718_1.1) | (with_reducible refine Kd.C_alloc ?_ _) | (with_reducible refine Kd.C_drewN ?_ _) | (with_reducible refine Kd.C_drew ?_) | exact HR718_1.1)) | (with_reducible refine Kd.C_alloc ?_ _) | (with_reducible refine Kd.C_drewN ?_ _) | (with_reducible refine Kd.C_drew ?_)))
 (case side2 => exact HC718_1.1)
 rintro e w80 ⟨v720, rfl, ho0, hb⟩
 have HS3_ := (hb.cell (World.block_lt_of_cell? _ _ (hHeld.2.2.2.1))).trans (hHeld.2.2.2.1)
 have HS4_ := (hb.cell (World.block_lt_of_cell? _ _ (hHeld.2.2.2.2.1))).trans (hHeld.2.2.2.2.1)
 have HS5_ := (hb.cell (World.block_lt_of_cell? _ _ (hHeld.2.2.2.2.2.1))).trans (hHeld.2.2.2.2.2.1)
 have HS6_ := (hb.cell (World.block_lt_of_cell? _ _ (hHeld.2.2.2.2.2.2.1))).trans (hHeld.2.2.2.2.2.2.1)
 have HS7_ := (hb.cell (World.block_lt_of_cell? _ _ (hHeld.2.2.2.2.2.2.2.1))).trans (hHeld.2.2.2.2.2.2.2.1)
 have HS8_ := (hb.cell (World.block_lt_of_cell? _ _ (hHeld.2.2.2.2.2.2.2.2.1))).trans (hHeld.2.2.2.2.2.2.2.2.1)
 have HS9_ := (hb.cell (World.block_lt_of_cell? _ _ (hHeld.2.2.2.2.2.2.2.2.2.1))).trans (hHeld.2.2.2.2.2.2.2.2.2.1)
 have HS10_ := (hb.cell (World.block_lt_of_cell? _ _ (hHeld.2.2.2.2.2.2.2.2.2.2.1))).trans (hHeld.2.2.2.2.2.2.2.2.2.2.1)
 have HS11_ := (hb.cell (World.block_lt_of_cell? _ _ (hHeld.2.2.2.2.2.2.2.2.2.2.2.1))).trans (hHeld.2.2.2.2.2.2.2.2.2.2.2.1)
 have HS12_ := (hb.cell (World.block_lt_of_cell? _ _ (hHeld.2.2.2.2.2.2.2.2.2.2.2.2.1))).trans (hHeld.2.2.2.2.2.2.2.2.2.2.2.2.1)
 have HS13_ := (hb.cell (World.block_lt_of_cell? _ _ (hHeld.2.2.2.2.2.2.2.2.2.2.2.2.2.1))).trans (hHeld.2.2.2.2.2.2.2.2.2.2.2.2.2.1)
 have HS14_ := (hb.cell (World.block_lt_of_cell? _ _ (hHeld.2.2.2.2.2.2.2.2.2.2.2.2.2.2))).trans (hHeld.2.2.2.2.2.2.2.2.2.2.2.2.2.2)
 refine ⟨_, rfl, ?_⟩
 have HO721 := am (Kd.R_lower (Kd.R_new' ho0 (Kd.R_lt (pkr HO_5.1))) (below_size pbg))
 replace HO_5 := am (Kd.R_elder' (pkr HO_5.1) (Kd.R_base ho0) hb)
 replace HO_698001 := am (Kd.V_elder' (pkv HO_698001.1) (Kd.R_base ho0) hb)
 replace HO_698002 := am (Kd.V_elder' (pkv HO_698002.1) (Kd.R_base ho0) hb)
 replace HL718_1 := am (Kd.V_elder' (pkv HL718_1.1) (Kd.R_base ho0) hb)
 replace HL718_2 := am (Kd.V_elder' (pkv HL718_2.1) (Kd.R_base ho0) hb)
 replace HL718_3 := am (Kd.V_elder' (pkv HL718_3.1) (Kd.R_base ho0) hb)
 replace HL722_1 := am (Kd.V_elder' (pkv HL722_1.1) (Kd.R_base ho0) hb)
 replace HL722_2 := am (Kd.V_elder' (pkv HL722_2.1) (Kd.R_base ho0) hb)
 replace HL722_3 := am (Kd.V_elder' (pkv HL722_3.1) (Kd.R_base ho0) hb)
 replace BK688 := bbh BK688 hb
 replace BK697 := bbh BK697 hb
 replace HR711_1 := cbb HR711_1 hb
 replace HR711_2 := cbb HR711_2 hb
 replace HR711_3 := cbb HR711_3 hb
 replace HR718_1 := cbb HR718_1 hb
 replace HR718_2 := cbb HR718_2 hb
 replace HR718_3 := cbb HR718_3 hb
 replace HR722_1 := cbb HR722_1 hb
 replace HR722_2 := cbb HR722_2 hb
 replace HR722_3 := cbb HR722_3 hb
 replace HB := bst hb
 (try clear hb)
 (try clear hb2)
 (try clear hk)
 (try clear hi)
 (try clear ho0)
 refine hK.out _ _ ⟨(blk_cell BK697.1 0).trans rfl, (blk_cell BK697.1 1).trans rfl, (blk_cell BK697.1 2).trans rfl, HS3_, HS4_, HS5_, HS6_, HS7_, HS8_, HS9_, HS10_, HS11_, HS12_, HS13_, HS14_⟩ (fun hHeld => ?_)
 clear hK K
 refine norm_ (a' := ?_) ?_ ?_
 rotate_left
 · show Act.put _ (some 148) _ = _
   simp only [Act.put, List.setIfInBounds_toArray, List.set_cons_zero, List.set_cons_succ, i64_w, i32_w]
   rfl
 refine one_ (i := 27) (N := some 155) #[true, true, true, true, true, true, true, true, true, true, true, true, true, true, true, true, true, true, true, true, true, true, true, true, true, true, true, true, false, false, false] rfl rfl (one_of HT_.1 (by kernel_rfl)) (by decide) (fun K hK => ?_)
 refine goes_ Try.func35 (by kernel_rfl) rfl #[.slice A722_1 ((rd_T41 t693 x9_3).f1).length c722_1] (by rfl) rfl rfl pgz ?_
 with_reducible refine (petrinetref09_Targets.calls kj60 _ _ ((rd_T41 t693 x9_3).f1) t723 _ ?side1 ?side2 A76.1).mono ?_
 (case side1 => repeat (first | exact (by repeat (first | (with_reducible exact HR722_1.1) | (with_reducible refine Kd.C_alloc ?_ _) | (with_reducible refine Kd.C_drewN ?_ _) | (with_reducible refine Kd.C_drew ?_) | exact HR722_1.1)) | (with_reducible refine Kd.C_alloc ?_ _) | (with_reducible refine Kd.C_drewN ?_ _) | (with_reducible refine Kd.C_drew ?_)))
 (case side2 => exact HC722_1.1)
 rintro e w81 ⟨v724, rfl, ho0, hb⟩
 have HS3_ := (hb.cell (World.block_lt_of_cell? _ _ (hHeld.2.2.2.1))).trans (hHeld.2.2.2.1)
 have HS4_ := (hb.cell (World.block_lt_of_cell? _ _ (hHeld.2.2.2.2.1))).trans (hHeld.2.2.2.2.1)
 have HS5_ := (hb.cell (World.block_lt_of_cell? _ _ (hHeld.2.2.2.2.2.1))).trans (hHeld.2.2.2.2.2.1)
 have HS6_ := (hb.cell (World.block_lt_of_cell? _ _ (hHeld.2.2.2.2.2.2.1))).trans (hHeld.2.2.2.2.2.2.1)
 have HS7_ := (hb.cell (World.block_lt_of_cell? _ _ (hHeld.2.2.2.2.2.2.2.1))).trans (hHeld.2.2.2.2.2.2.2.1)
 have HS8_ := (hb.cell (World.block_lt_of_cell? _ _ (hHeld.2.2.2.2.2.2.2.2.1))).trans (hHeld.2.2.2.2.2.2.2.2.1)
 have HS9_ := (hb.cell (World.block_lt_of_cell? _ _ (hHeld.2.2.2.2.2.2.2.2.2.1))).trans (hHeld.2.2.2.2.2.2.2.2.2.1)
 have HS10_ := (hb.cell (World.block_lt_of_cell? _ _ (hHeld.2.2.2.2.2.2.2.2.2.2.1))).trans (hHeld.2.2.2.2.2.2.2.2.2.2.1)
 have HS11_ := (hb.cell (World.block_lt_of_cell? _ _ (hHeld.2.2.2.2.2.2.2.2.2.2.2.1))).trans (hHeld.2.2.2.2.2.2.2.2.2.2.2.1)
 have HS12_ := (hb.cell (World.block_lt_of_cell? _ _ (hHeld.2.2.2.2.2.2.2.2.2.2.2.2.1))).trans (hHeld.2.2.2.2.2.2.2.2.2.2.2.2.1)
 have HS13_ := (hb.cell (World.block_lt_of_cell? _ _ (hHeld.2.2.2.2.2.2.2.2.2.2.2.2.2.1))).trans (hHeld.2.2.2.2.2.2.2.2.2.2.2.2.2.1)
 have HS14_ := (hb.cell (World.block_lt_of_cell? _ _ (hHeld.2.2.2.2.2.2.2.2.2.2.2.2.2.2))).trans (hHeld.2.2.2.2.2.2.2.2.2.2.2.2.2.2)
 refine ⟨_, rfl, ?_⟩
 have HO725 := am (Kd.R_lower (Kd.R_new' (Kd.R_new' ho0 (Kd.R_lt (pkr HO_5.1))) (Kd.R_lt (pkr HO721.1))) (below_size pbg))
 replace HO_5 := am (Kd.R_elder' (pkr HO_5.1) (Kd.R_base ho0) hb)
 replace HO_698001 := am (Kd.V_elder' (pkv HO_698001.1) (Kd.R_base ho0) hb)
 replace HO_698002 := am (Kd.V_elder' (pkv HO_698002.1) (Kd.R_base ho0) hb)
 replace HL718_1 := am (Kd.V_elder' (pkv HL718_1.1) (Kd.R_base ho0) hb)
 replace HL718_2 := am (Kd.V_elder' (pkv HL718_2.1) (Kd.R_base ho0) hb)
 replace HL718_3 := am (Kd.V_elder' (pkv HL718_3.1) (Kd.R_base ho0) hb)
 replace HL722_1 := am (Kd.V_elder' (pkv HL722_1.1) (Kd.R_base ho0) hb)
 replace HL722_2 := am (Kd.V_elder' (pkv HL722_2.1) (Kd.R_base ho0) hb)
 replace HL722_3 := am (Kd.V_elder' (pkv HL722_3.1) (Kd.R_base ho0) hb)
 replace HO721 := am (Kd.R_elder' (pkr HO721.1) (Kd.R_base ho0) hb)
 replace BK688 := bbh BK688 hb
 replace BK697 := bbh BK697 hb
 replace HR711_1 := cbb HR711_1 hb
 replace HR711_2 := cbb HR711_2 hb
 replace HR711_3 := cbb HR711_3 hb
 replace HR718_1 := cbb HR718_1 hb
 replace HR718_2 := cbb HR718_2 hb
 replace HR718_3 := cbb HR718_3 hb
 replace HR722_1 := cbb HR722_1 hb
 replace HR722_2 := cbb HR722_2 hb
 replace HR722_3 := cbb HR722_3 hb
 replace HB := bst hb
 (try clear hb)
 (try clear hb2)
 (try clear hk)
 (try clear hi)
 (try clear ho0)
 obtain ⟨Ao82, co82, eo82⟩ := Kd.R_slice HO721.1
 (first | subst eo82 | (injection eo82 with f1_ f2_ f3_; have f4_ := f1_.symm; have f5_ := f3_.symm; clear f1_ f2_ f3_; subst f4_; subst f5_))
 obtain ⟨Ao83, co83, eo83⟩ := Kd.R_slice HO725.1
 (first | subst eo83 | (injection eo83 with f1_ f2_ f3_; have f4_ := f1_.symm; have f5_ := f3_.symm; clear f1_ f2_ f3_; subst f4_; subst f5_))
 refine hK.out _ _ ⟨(blk_cell BK697.1 0).trans rfl, (blk_cell BK697.1 1).trans rfl, (blk_cell BK697.1 2).trans rfl, HS3_, HS4_, HS5_, HS6_, HS7_, HS8_, HS9_, HS10_, HS11_, HS12_, HS13_, HS14_⟩ (fun hHeld => ?_)
 clear hK K
 refine norm_ (a' := ?_) ?_ ?_
 rotate_left
 · show Act.put _ (some 155) _ = _
   simp only [Act.put, List.setIfInBounds_toArray, List.set_cons_zero, List.set_cons_succ, i64_w, i32_w]
   rfl
 refine one_ (i := 28) (N := some 156) #[true, true, true, true, true, true, true, true, true, true, true, true, true, true, true, true, true, true, true, true, true, true, true, true, true, true, true, true, true, false, false] rfl rfl (one_of HT_.1 (by kernel_rfl)) (by decide) (fun K hK => ?_)
 refine goes_ Try.func31 (by kernel_rfl) rfl #[.slice Ao82 t719.length co82, .slice Ao83 t723.length co83] (by rfl) rfl rfl pgz ?_
 with_reducible refine (petrinetref04_Same.calls kj60 _ _ t719 _ _ t723 true _ ?side1 ?side2 ?side3 ?side4 A77.1).mono ?_
 (case side1 => exact csd ((Kd.R_reads' HO721.1).2.2))
 (case side2 => exact (Kd.R_reads' HO721.1).2.1)
 (case side3 => exact csd ((Kd.R_reads' HO725.1).2.2))
 (case side4 => exact (Kd.R_reads' HO725.1).2.1)
 rintro e w' ⟨rfl, ⟨nd, rfl⟩⟩
 refine ⟨_, rfl, ?_⟩
 refine hK.out _ _ ⟨(blk_cell BK697.1 0).trans rfl, (blk_cell BK697.1 1).trans rfl, (blk_cell BK697.1 2).trans rfl, hHeld.2.2.2.1, hHeld.2.2.2.2.1, hHeld.2.2.2.2.2.1, hHeld.2.2.2.2.2.2.1, hHeld.2.2.2.2.2.2.2.1, hHeld.2.2.2.2.2.2.2.2.1, hHeld.2.2.2.2.2.2.2.2.2.1, hHeld.2.2.2.2.2.2.2.2.2.2.1, hHeld.2.2.2.2.2.2.2.2.2.2.2.1, hHeld.2.2.2.2.2.2.2.2.2.2.2.2.1, hHeld.2.2.2.2.2.2.2.2.2.2.2.2.2.1, hHeld.2.2.2.2.2.2.2.2.2.2.2.2.2.2⟩ (fun hHeld => ?_)
 clear hK K
 refine norm_ (a' := ?_) ?_ ?_
 rotate_left
 · show Act.put _ (some 156) _ = _
   simp only [Act.put, List.setIfInBounds_toArray, List.set_cons_zero, List.set_cons_succ, i64_w, i32_w]
   rfl
 refine pure_ (i := 29) (N := some 157) (v := ?_) (a' := ?_) #[true, true, true, true, true, true, true, true, true, true, true, true, true, true, true, true, true, true, true, true, true, true, true, true, true, true, true, true, true, true, false] rfl rfl (any_of HT_.1 (by kernel_rfl)) (fun _ _ _ h => h) (Or.inl ⟨by rfl, ?_⟩) ?_ ?_
 rotate_left
 · intro w'
   go_simp
   with_reducible rfl
 rotate_left
 · simp only [Act.put, List.setIfInBounds_toArray, List.set_cons_zero, List.set_cons_succ, i64_w, i32_w]
   rfl
 refine pure_ (i := 30) (N := some 158) (v := ?_) (a' := ?_) #[true, true, true, true, true, true, true, true, true, true, true, true, true, true, true, true, true, true, true, true, true, true, true, true, true, true, true, true, true, true, true] rfl rfl (any_of HT_.1 (by kernel_rfl)) (fun _ _ _ h => h) (Or.inl ⟨by rfl, ?_⟩) ?_ ?_
 rotate_left
 · intro w'
   go_simp
   with_reducible rfl
 rotate_left
 · simp only [Act.put, List.setIfInBounds_toArray, List.set_cons_zero, List.set_cons_succ, i64_w, i32_w]
   rfl
 refine done_ (done_of HT_.1 (by kernel_rfl)) ?_
 try go_wp2
 go_roundg kj60
 case measure => have := HJ3.1; have := HK2.1; have := HK3.1; have := HK4.1; have := HK5.1; have := HJ60.1; omega
 case rel => exact ⟨(wrap64 (x11_5 + 1)), prs, H', ⟨by have := HJ3.1; have := HK2.1; have := HK3.1; have := HK4.1; have := HK5.1; have := HJ60.1; omega⟩, ⟨by (with_reducible repeat (first | apply Kd.R_alloc | apply Kd.R_drewN | apply Kd.R_drew)); exact Kd.R_mono HO_5.1 (fun _ hk => trivial)⟩, ⟨by (with_reducible repeat (first | apply Kd.V_alloc | apply Kd.V_drewN | apply Kd.V_drew)); exact Kd.V_mono HO_698001.1 (fun _ hk => ⟨hk.1.1.1, ⟨hk.1.1.2.1, hk.1.1.2.2⟩⟩)⟩, ⟨by (with_reducible repeat (first | apply Kd.V_alloc | apply Kd.V_drewN | apply Kd.V_drew)); exact Kd.V_mono HO_698002.1 (fun _ hk => ⟨hk.1.1.1, ⟨hk.1.1.2.1, hk.1.1.2.2⟩⟩)⟩, ⟨pbk BK688.1⟩, ⟨pbk BK697.1⟩, ⟨by repeat (first | (with_reducible exact HR711_1.1) | (with_reducible refine Kd.C_alloc ?_ _) | (with_reducible refine Kd.C_drewN ?_ _) | (with_reducible refine Kd.C_drew ?_) | exact HR711_1.1)⟩, ⟨by repeat (first | (with_reducible exact HR711_2.1) | (with_reducible refine Kd.C_alloc ?_ _) | (with_reducible refine Kd.C_drewN ?_ _) | (with_reducible refine Kd.C_drew ?_) | exact HR711_2.1)⟩, ⟨by repeat (first | (with_reducible exact HR711_3.1) | (with_reducible refine Kd.C_alloc ?_ _) | (with_reducible refine Kd.C_drewN ?_ _) | (with_reducible refine Kd.C_drew ?_) | exact HR711_3.1)⟩, ⟨pbg⟩⟩

end Go.Proofs.Ytplljicodflagaa.P
