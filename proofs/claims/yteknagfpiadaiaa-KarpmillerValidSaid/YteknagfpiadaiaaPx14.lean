-- LAID BY OUR PROGRAM OVER THE PRINT (xprint.py, part.py): Lean checks it.
import Derived.Test.YteknagfpiadaiaaPx0
import Derived.Test.YteknagfpiadaiaaPx4
import Derived.Test.YteknagfpiadaiaaPx8
import Derived.Test.YteknagfpiadaiaaPx11
import Derived.Test.YteknagfpiadaiaaPx13
namespace Go.Proofs.Yteknagfpiadaiaa.P
open Go.RowKit Go.Proofs.YteknagfpiadaiaaW.PrintWords Go.Proofs.YteknagfpiadaiaaW.PrintLast Go.Proofs.YteknagfpiadaiaaW.PrintMore
attribute [local go_sem] max2_int min2_int max_two min_two max_three min_three max_four min_four   -- for this text's walks alone
set_option linter.unusedVariables false
set_option linter.unusedSimpArgs false

/-! ### r22_Valid: function 24 -/
def r22_Valid.f (k : Nat) (ag : ByteArray) (ab : List (S57)) (ac : List (S60)) (l1 : List (S48)) : Option (Bool) := (r22_Tree.f k ag ab ac (l1.length : Int)).bind fun aq => (if aq.2.2 = 0 then (if aq.2.1 = true then ((r22_Same.f k aq.1 l1).bind fun aD => (some aD)) else (some false)) else (some false))
theorem r22_Valid.mono : ∀ a0 a1 a2 a3 k, LeO (r22_Valid.f k a0 a1 a2 a3) (r22_Valid.f (k + 1) a0 a1 a2 a3) := by
 intro a0 a1 a2 a3 k
 unfold r22_Valid.f
 repeat' first | (with_reducible first | apply r22_Same.mono | apply r22_Tree.mono | apply lr | apply ln | apply li | refine lb ?_ fun _ => ?_)
set_option maxHeartbeats 8000000 in
set_option maxRecDepth 100000 in
theorem r22_Valid.calls (k : Nat) (ag : ByteArray) (ai : Option Addr) (ar : Nat) (ab : List (S57)) (aj : Option Addr) (au : Nat) (ac : List (S60)) (A1 : Option Addr) (c1 : Nat) (l1 : List (S48)) (r : Bool) (w : World) (aA : Kd.C k57 w ai ab.length ab) (ax : ab.length ≤ ar) (aB : Kd.C k60 w aj ac.length ac) (ay : ac.length ≤ au) (aK : Kd.C k48 w A1 l1.length l1) (aJ : l1.length ≤ c1) (h : r22_Valid.f k ag ab ac l1 = some r) :
  Calls Try.prog 24 #[.agg #[.string ag, .slice ai ab.length ar, .slice aj ac.length au], .slice A1 l1.length c1] w fun e w' => e = .returned (.bool r) ∧ Below w.heap.size w w' := by
 have aP := Try.underlying25
 have ao := am aA
 have ak := am ax
 clear aA ax
 have ap := am aB
 have al := am ay
 clear aB ay
 have aN := am aK
 have aM := am aJ
 clear aK aJ
 have HB := am (Below.refl w.heap.size w)
 have H := h
 unfold r22_Valid.f at H
 clear h
 replace H := bnd H
 obtain ⟨⟨av, aE, aC⟩, A3, H⟩ := H
 (try dsimp only at H)
 replace H := ife H
 rcases H with ⟨aG, aH, H⟩ | ⟨aG, aH, H⟩
 rotate_left
 ·obtain rfl := Option.some.inj H
  go_enter Try.func24, Try.ntmps24
  go_wp2_with (first | ((with_reducible refine gate_dst (N := 2) rfl ?_); refine box_ev ?_; intro ae hg aT hbox hb; have aa := am hbox; have ah := gwl hg; have aw := ah; replace HB := bsl hb; clear hb hbox hg; have aW := cf3 aa.1) | ((with_reducible refine gate_callee (f := 19) rfl ?_); refine gC 12 Try.func19 _ (r22_Tree.calls k ag _ _ ab _ _ ac (l1.length : Int) av aE aC _ (csb ao HB) ak.1 (csb ap HB) al.1 A3.1) ?_; rintro e aU ⟨aF, rfl, az, hb⟩; refine ⟨_, rfl, ?_⟩; have af := am (Kd.N_lower (Kd.N_mono (ok' := fun k_ => k_ ≠ ae) az (fun k_ hk_ => (Kd.freshB (g := ae) (o := .cells #[.string ag, .slice ai ab.length ar, .slice aj ac.length au] 25 (0, 0)) (by exact pbk aa.1) k_ hk_))) (below_size pbg)); replace aa := bbh aa hb; replace HB := bst hb; (try clear hb); (try clear az)))
  go_ret
  exact ⟨per, pbg⟩
 cases aE
 ·rw [if_neg Bool.false_ne_true] at H
  obtain rfl := Option.some.inj H
  go_enter Try.func24, Try.ntmps24
  go_wp2_with (first | ((with_reducible refine gate_dst (N := 2) rfl ?_); refine box_ev ?_; intro ae hg aR hbox hb; have aa := am hbox; have ah := gwl hg; have aw := ah; replace HB := bsl hb; clear hb hbox hg; have aV := cf3 aa.1) | ((with_reducible refine gate_callee (f := 19) rfl ?_); refine gC 12 Try.func19 _ (r22_Tree.calls k ag _ _ ab _ _ ac (l1.length : Int) av false aC _ (csb ao HB) ak.1 (csb ap HB) al.1 A3.1) ?_; rintro e aS ⟨aF, rfl, az, hb⟩; refine ⟨_, rfl, ?_⟩; have af := am (Kd.N_lower (Kd.N_mono (ok' := fun k_ => k_ ≠ ae) az (fun k_ hk_ => (Kd.freshB (g := ae) (o := .cells #[.string ag, .slice ai ab.length ar, .slice aj ac.length au] 25 (0, 0)) (by exact pbk aa.1) k_ hk_))) (below_size pbg)); replace aa := bbh aa hb; replace HB := bst hb; (try clear hb); (try clear az)))
  go_ret
  exact ⟨per, pbg⟩
 rw [if_pos rfl] at H
 replace H := bnd H
 obtain ⟨aD, A6, H⟩ := H
 (try dsimp only at H)
 obtain rfl := Option.some.inj H
 go_enter Try.func24, Try.ntmps24
 go_wp2_with (first | ((with_reducible refine gate_dst (N := 2) rfl ?_); refine box_ev ?_; intro ae hg w7 hbox hb; have aa := am hbox; have ah := gwl hg; have aw := ah; replace HB := bsl hb; clear hb hbox hg; have z8 := cf3 aa.1) | ((with_reducible refine gate_callee (f := 19) rfl ?_); refine gC 12 Try.func19 _ (r22_Tree.calls k ag _ _ ab _ _ ac (l1.length : Int) av true aC _ (csb ao HB) ak.1 (csb ap HB) al.1 A3.1) ?_; rintro e w9 ⟨aF, rfl, az, hb⟩; refine ⟨_, rfl, ?_⟩; have af := am (Kd.N_lower (Kd.N_mono (ok' := fun k_ => k_ ≠ ae) az (fun k_ hk_ => (Kd.freshB (g := ae) (o := .cells #[.string ag, .slice ai ab.length ar, .slice aj ac.length au] 25 (0, 0)) (by exact pbk aa.1) k_ hk_))) (below_size pbg)); replace aa := bbh aa hb; replace HB := bst hb; (try clear hb); (try clear az); obtain ⟨aL, aO, aI⟩ := Kd.N_slice af.1; subst aI) | (go_at_call 20; (with_reducible refine (r22_Same.calls k _ _ av _ _ l1 aD _ ?side1 ?side2 ?side3 ?side4 A6.1).mono ?_); (case side1 => exact csd ((Kd.N_reads' af.1).2.2)); (case side2 => exact (Kd.N_reads' af.1).2.1); (case side3 => exact csb aN HB); (case side4 => exact aM.1); rintro e aQ ⟨rfl, hb⟩; replace af := nbw af hb; replace aa := bbh aa hb; replace HB := bst hb; (try clear hb)))
 go_ret
 exact ⟨per, pbg⟩

/-! ### petrinetlaw22_KarpmillerValid: function 5 -/
def petrinetlaw22_KarpmillerValid.j0 : Nat → List (S48) → Bool → ByteArray → List (S57) → List (S60) → Option (Bool)
 | 0, _, _, _, _, _ => none
 | k + 1, x1, a4, al, ao, ap => if a4 = true then ((petrinetlaw22_alive.f k).bind fun aE => (some aE)) else ((karpmiller_Valid.f k al ao ap x1).bind fun aw => ((r22_Valid.f k al ao ap x1).bind fun ax => (if (aw == ax) = true then ((petrinetlaw22_alive.f k).bind fun aF => (some aF)) else (none))))
def petrinetlaw22_KarpmillerValid.f (k : Nat) (ae : ByteArray) (ab : List (S57)) (ac : List (S60)) (l1 : List (S48)) : Option (Bool) := (r09_Light.f k ae ab ac).bind fun aC => (if aC = true then ((petrinetlaw22_few.f k l1).bind fun aD => (if aD = true then (petrinetlaw22_KarpmillerValid.j0 k l1 (decide ((l1.length : Int) > 300)) ae ab ac) else (petrinetlaw22_KarpmillerValid.j0 k l1 true ae ab ac))) else (petrinetlaw22_KarpmillerValid.j0 k l1 true ae ab ac))
theorem petrinetlaw22_KarpmillerValid.mono_l : ∀ k, M5 petrinetlaw22_KarpmillerValid.j0 k
 | 0 => fun _ _ _ _ _ r h => by simp [petrinetlaw22_KarpmillerValid.j0] at h
 | k + 1 => by
  have aM := petrinetlaw22_KarpmillerValid.mono_l k
  ·intro y0 y1 y2 y3 y4
   unfold petrinetlaw22_KarpmillerValid.j0
   repeat' first | (with_reducible first | apply aM | apply karpmiller_Valid.mono | apply petrinetlaw22_alive.mono | apply petrinetlaw22_few.mono | apply r09_Light.mono | apply r22_Valid.mono | apply lr | apply ln | apply li | refine lb ?_ fun _ => ?_)
theorem petrinetlaw22_KarpmillerValid.mono : ∀ a0 a1 a2 a3 k, LeO (petrinetlaw22_KarpmillerValid.f k a0 a1 a2 a3) (petrinetlaw22_KarpmillerValid.f (k + 1) a0 a1 a2 a3) := by
 intro a0 a1 a2 a3 k
 have aM := petrinetlaw22_KarpmillerValid.mono_l k
 unfold petrinetlaw22_KarpmillerValid.f
 repeat' first | (with_reducible first | apply aM | apply karpmiller_Valid.mono | apply petrinetlaw22_alive.mono | apply petrinetlaw22_few.mono | apply r09_Light.mono | apply r22_Valid.mono | apply lr | apply ln | apply li | refine lb ?_ fun _ => ?_)
def petrinetlaw22_KarpmillerValid.T3 : Bool × List (List Nat × List Nat) := (true, [([], []), ([], []), ([0, 1], [0, 1]), ([], []), ([], []), ([3, 4, 2], [3, 4]), ([2, 5], [2, 5]), ([6, 5], [6]), ([7, 7], [7]), ([7, 8], [7, 8]), ([9, 8, 0, 1, 2, 3, 4, 5, 6, 7, 8, 9], [9])])
def petrinetlaw22_KarpmillerValid.B3 : List Nat := [0, 0, 3, 0, 0, 31, 63, 127, 255, 511, 1023]
theorem petrinetlaw22_KarpmillerValid.tab3 : rtab .any (opsOf Try.f5 3) = petrinetlaw22_KarpmillerValid.T3 := by kernel_rfl
theorem petrinetlaw22_KarpmillerValid.bits3 : waitsOk petrinetlaw22_KarpmillerValid.T3.2 petrinetlaw22_KarpmillerValid.B3 = true := by kernel_rfl
set_option maxHeartbeats 8000000 in
set_option maxRecDepth 100000 in
theorem petrinetlaw22_KarpmillerValid.calls (k : Nat) (ae : ByteArray) (aq : Option Addr) (au : Nat) (ab : List (S57)) (ar : Option Addr) (av : Nat) (ac : List (S60)) (A1 : Option Addr) (c1 : Nat) (l1 : List (S48)) (r : Bool) (w : World) (aA : Kd.C k57 w aq ab.length ab) (ay : ab.length ≤ au) (aB : Kd.C k60 w ar ac.length ac) (az : ac.length ≤ av) (aT : Kd.C k48 w A1 l1.length l1) (aS : l1.length ≤ c1) (h : petrinetlaw22_KarpmillerValid.f k ae ab ac l1 = some r) :
  Calls Try.prog 5 #[.agg #[.string ae, .slice aq ab.length au, .slice ar ac.length av], .slice A1 l1.length c1] w fun e w' => e = .returned (.bool r) ∧ Below w.heap.size w w' := by
 have aY := Try.underlying25
 have ah := am aA
 have af := am ay
 clear aA ay
 have ai := am aB
 have ag := am az
 clear aB az
 have aI := am aT
 have aH := am aS
 clear aT aS
 have HB := am (Below.refl w.heap.size w)
 have H := h
 unfold petrinetlaw22_KarpmillerValid.f at H
 clear h
 have aL := am H
 clear H
 go_enter Try.func5, Try.ntmps5
 go_upto_region 1 with (first | ((with_reducible refine gate_dst (N := 2) rfl ?_); (try (refine gate_guard (by rfl) ?_; dsimp only)); refine box_ev ?_; intro aj hg w4 hbox hb; have aa := am hbox; have aG := gwl hg; have aN := aG; replace HB := bsl hb; clear hb hbox hg))
 (try simp only [Act.put, List.setIfInBounds_toArray, List.set_cons_zero, List.set_cons_succ])
 go_cut [17] (fun aZ wc => ∃ (kq : Nat) (ak : Bool), aZ = .bool ak ∧ Aside0 (petrinetlaw22_KarpmillerValid.j0 kq l1 ak ae ab ac = some r) ∧ Aside0 (kq ≤ k) ∧ Aside0 (wc.heap[aj]? = some (.cells #[.string ae, (.slice aq ab.length au), (.slice ar ac.length av)] 25 (0, 0))) ∧ Aside0 (Below w.heap.size w wc))
 case first =>
  have H := aL.1
  clear aL
  replace H := bnd H
  obtain ⟨aC, A5, H⟩ := H
  (try dsimp only at H)
  cases aC
  ·rw [if_neg Bool.false_ne_true] at H
   have H' := am H
   clear H
   have a6 := cf3 aa.1
   go_wp2_with (first | ((with_reducible refine gate_callee (f := 21) rfl ?_); refine gC 6 Try.func21 _ (r09_Light.calls k ae _ _ ab _ _ ac false _ (csb ah HB) af.1 (csb ai HB) ag.1 A5.1) ?_; rintro e ba ⟨rfl, hb⟩; refine ⟨_, rfl, ?_⟩; replace aa := bbh aa hb; replace HB := bst hb; (try clear hb)))
   go_meet
   case rel => exact ⟨_, (true), prs, H', ⟨by first | omega | exact Nat.le_refl _⟩, ⟨pbk aa.1⟩, ⟨pbg⟩⟩
  rw [if_pos rfl] at H
  replace H := bnd H
  obtain ⟨aD, A7, H⟩ := H
  (try dsimp only at H)
  cases aD
  rotate_left
  ·rw [if_pos rfl] at H
   have H' := am H
   clear H
   have z9 := cf3 aa.1
   go_wp2_with (first | ((with_reducible refine gate_callee (f := 21) rfl ?_); refine gC 6 Try.func21 _ (r09_Light.calls k ae _ _ ab _ _ ac true _ (csb ah HB) af.1 (csb ai HB) ag.1 A5.1) ?_; rintro e a8 ⟨rfl, hb⟩; refine ⟨_, rfl, ?_⟩; replace aa := bbh aa hb; replace HB := bst hb; (try clear hb)) | (go_at_call 22; (with_reducible refine (petrinetlaw22_few.calls k _ _ l1 true _ ?side1 ?side2 A7.1).mono ?_); (case side1 => exact csb aI HB); (case side2 => exact aH.1); rintro e w' ⟨rfl, ⟨nd, rfl⟩⟩))
   go_meet
   case rel => exact ⟨_, (decide ((l1.length : Int) > 300)), prs, H', ⟨by first | omega | exact Nat.le_refl _⟩, ⟨pbk aa.1⟩, ⟨pbg⟩⟩
  rw [if_neg Bool.false_ne_true] at H
  have H' := am H
  clear H
  have a5 := cf3 aa.1
  go_wp2_with (first | ((with_reducible refine gate_callee (f := 21) rfl ?_); refine gC 6 Try.func21 _ (r09_Light.calls k ae _ _ ab _ _ ac true _ (csb ah HB) af.1 (csb ai HB) ag.1 A5.1) ?_; rintro e a9 ⟨rfl, hb⟩; refine ⟨_, rfl, ?_⟩; replace aa := bbh aa hb; replace HB := bst hb; (try clear hb)) | (go_at_call 22; (with_reducible refine (petrinetlaw22_few.calls k _ _ l1 false _ ?side1 ?side2 A7.1).mono ?_); (case side1 => exact csb aI HB); (case side2 => exact aH.1); rintro e w' ⟨rfl, ⟨nd, rfl⟩⟩))
  go_meet
  case rel => exact ⟨_, (true), prs, H', ⟨by first | omega | exact Nat.le_refl _⟩, ⟨pbk aa.1⟩, ⟨pbg⟩⟩
 clear aL
 try clear c1 c6 c8 a5 a6 z9
 obtain ⟨kq, ak, rfl, HA, a7, aa, HB⟩ := hcut
 obtain _ | aK := kq
 ·exact absurd HA.1 (by simp [petrinetlaw22_KarpmillerValid.j0])
 have H := HA.1
 clear HA
 simp only [petrinetlaw22_KarpmillerValid.j0] at H
 cases ak
 rotate_left
 ·rw [if_pos rfl] at H
  replace H := bnd H
  obtain ⟨aE, aU, H⟩ := H
  (try dsimp only at H)
  obtain rfl := Option.some.inj H
  go_wp2_with (first | ((with_reducible refine gate_callee (f := 11) rfl ?_); refine gC 18 Try.func11 _ (petrinetlaw22_alive.calls aK  aE _ aU.1) ?_; rintro e bb ⟨rfl, hb⟩; refine ⟨_, rfl, ?_⟩; replace aa := bbh aa hb; replace HB := bst hb; (try clear hb)))
  go_ret
  exact ⟨per, pbg⟩
 rw [if_neg Bool.false_ne_true] at H
 replace H := bnd H
 obtain ⟨aw, aV, H⟩ := H
 (try dsimp only at H)
 replace H := bnd H
 obtain ⟨ax, aW, H⟩ := H
 (try dsimp only at H)
 replace H := ifp H
 obtain ⟨aJ, H⟩ := H
 have aO := aJ
 (try (have aP : decide (aw = ax) = true := by simpa using aJ))
 (try (have aQ : (aw == ax) = true := by simpa using aJ))
 clear aJ
 replace H := bnd H
 obtain ⟨aF, aX, H⟩ := H
 (try dsimp only at H)
 obtain rfl := Option.some.inj H
 try go_wp2
 replace aa := am (blk_drew aa.1)
 replace HB := am (below_drew1 HB.1)
 refine start_ (n := 11) (S := fun w' => w'.cell? ⟨aj, 0, none⟩ = some (.string ae) ∧ w'.cell? ⟨aj, 1, none⟩ = some (.slice aq ab.length au) ∧ w'.cell? ⟨aj, 2, none⟩ = some (.slice ar ac.length av)) (ds := []) #[false, false, false, false, false, false, false, false, false, false, false] (by kernel_rfl) rfl rfl ⟨(blk_cell aa.1 0).trans rfl, (blk_cell aa.1 1).trans rfl, (blk_cell aa.1 2).trans rfl⟩ (fun hHeld => ?_); refine with_tabW petrinetlaw22_KarpmillerValid.tab3 petrinetlaw22_KarpmillerValid.bits3 (fun HT_ HW_ => ?_)
 generalize wc.drew = bc at aa HB hHeld ⊢
 refine pu HT_.1 1 20 ?_
 refine pu HT_.1 4 23 ?_
 refine tk HT_.1 HW_.1 hHeld 0 19 ?_
 refine tk HT_.1 HW_.1 hHeld 3 22 ?_
 refine on HT_.1 2 (some 21) rfl fun K hK => ?_
 refine goes_ Try.func23 (by kernel_rfl) rfl #[.agg #[.string ae, .slice aq ab.length au, .slice ar ac.length av], .slice A1 l1.length c1] (by rfl) rfl rfl pgz ?_
 with_reducible refine (karpmiller_Valid.calls aK ae _ _ ab _ _ ac _ _ l1 aw _ ?side1 ?side2 ?side3 ?side4 ?side5 ?side6 aV.1).mono ?_
 (case side1 => exact csb ah HB)
 (case side2 => exact af.1)
 (case side3 => exact csb ai HB)
 (case side4 => exact ag.1)
 (case side5 => exact csb aI HB)
 (case side6 => exact aH.1)
 rintro e bd ⟨rfl, hb⟩
 refine ⟨_, rfl, ?_⟩
 replace aa := bbh aa hb
 replace HB := bst hb
 (try clear hb)
 (try clear aR)
 (try clear hk)
 (try clear hi)
 refine hK.out _ _ ⟨(blk_cell aa.1 0).trans rfl, (blk_cell aa.1 1).trans rfl, (blk_cell aa.1 2).trans rfl⟩ (fun hHeld => ?_)
 clear hK K
 refine nm_ 21 ?_
 refine on HT_.1 5 (some 24) rfl fun K hK => ?_
 refine goes_ Try.func24 (by kernel_rfl) rfl #[.agg #[.string ae, .slice aq ab.length au, .slice ar ac.length av], .slice A1 l1.length c1] (by rfl) rfl rfl pgz ?_
 with_reducible refine (r22_Valid.calls aK ae _ _ ab _ _ ac _ _ l1 ax _ ?side1 ?side2 ?side3 ?side4 ?side5 ?side6 aW.1).mono ?_
 (case side1 => exact csb ah HB)
 (case side2 => exact af.1)
 (case side3 => exact csb ai HB)
 (case side4 => exact ag.1)
 (case side5 => exact csb aI HB)
 (case side6 => exact aH.1)
 rintro e bf ⟨rfl, hb⟩
 refine ⟨_, rfl, ?_⟩
 replace aa := bbh aa hb
 replace HB := bst hb
 (try clear hb)
 (try clear aR)
 (try clear hk)
 (try clear hi)
 refine hK.out _ _ ⟨(blk_cell aa.1 0).trans rfl, (blk_cell aa.1 1).trans rfl, (blk_cell aa.1 2).trans rfl⟩ (fun hHeld => ?_)
 clear hK K
 refine nm_ 24 ?_
 refine pu HT_.1 6 25 ?_
 refine pu HT_.1 7 26 ?_
 refine on HT_.1 8 (some 27) rfl fun K hK => ?_
 refine goes_ Try.func11 (by kernel_rfl) rfl #[] (by rfl) rfl rfl pgz ?_
 with_reducible refine (petrinetlaw22_alive.calls aK  aF _ aX.1).mono ?_
 rintro e bg ⟨rfl, hb⟩
 refine ⟨_, rfl, ?_⟩
 replace aa := bbh aa hb
 replace HB := bst hb
 (try clear hb)
 (try clear aR)
 (try clear hk)
 (try clear hi)
 refine hK.out _ _ ⟨(blk_cell aa.1 0).trans rfl, (blk_cell aa.1 1).trans rfl, (blk_cell aa.1 2).trans rfl⟩ (fun hHeld => ?_)
 clear hK K
 refine nm_ 27 ?_
 refine pu HT_.1 9 28 ?_
 refine pu HT_.1 10 4 ?_
 refine done_ (done_of HT_.1 (by kernel_rfl)) ?_
 try go_wp2
 go_ret
 exact ⟨per, pbg⟩

end Go.Proofs.Yteknagfpiadaiaa.P
