-- LAID BY OUR PROGRAM OVER THE PRINT (xprint.py, part.py): Lean checks it.
import Derived.Test.YteknagfpiadaiaaPx0
import Derived.Test.YteknagfpiadaiaaPx1
import Derived.Test.YteknagfpiadaiaaPx5
namespace Go.Proofs.Yteknagfpiadaiaa.P
open Go.RowKit Go.Proofs.YteknagfpiadaiaaW.PrintWords Go.Proofs.YteknagfpiadaiaaW.PrintLast Go.Proofs.YteknagfpiadaiaaW.PrintMore
attribute [local go_sem] max2_int min2_int max_two min_two max_three min_three max_four min_four   -- for this text's walks alone
set_option linter.unusedVariables false
set_option linter.unusedSimpArgs false

/-! ### r09_Plain: function 49 -/
mutual
def r09_Plain.l0 : Nat → Int → ByteArray → List (S57) → List (S60) → Option (Bool)
 | 0, _, _, _, _ => none
 | k + 1, x3, ak, ae, ac => if x3 < (ae.length : Int) then (if 0 ≤ x3 then (if ((rd_T57 ae x3).f2) = 0 then (r09_Plain.l0 k (wrap64 (x3 + 1)) ak ae ac) else (some false)) else (none)) else (r09_Plain.l1 k 0 ak ae ac)
def r09_Plain.l1 : Nat → Int → ByteArray → List (S57) → List (S60) → Option (Bool)
 | 0, _, _, _, _ => none
 | k + 1, x4, ak, ae, ac => if x4 < (ac.length : Int) then (if 0 ≤ x4 then (if (((rd_T60 ac x4).f3).length : Int) > 0 then (some false) else (if ((rd_T60 ac x4).f4) = 0 then (r09_Plain.l1 k (wrap64 (x4 + 1)) ak ae ac) else (some false))) else (none)) else (some true)
end
def r09_Plain.f (k : Nat) (ao : ByteArray) (af : List (S57)) (ab : List (S60)) : Option (Bool) := (r09_Valid.f k ao af ab).bind fun bm => (if bm = true then (r09_Plain.l0 k 0 ao af ab) else (some false))
theorem r09_Plain.mono_l : ∀ k, M4 r09_Plain.l0 k ∧ M4 r09_Plain.l1 k
 | 0 => ⟨fun _ _ _ _ r h => by simp [r09_Plain.l0] at h, fun _ _ _ _ r h => by simp [r09_Plain.l1] at h⟩
 | k + 1 => by
  obtain ⟨bG, bH⟩ := r09_Plain.mono_l k
  refine ⟨?_, ?_⟩ <;> dsimp only [M4] <;> intros <;> (first | unfold r09_Plain.l0 | unfold r09_Plain.l1) <;> repeat' first | (with_reducible first | apply bG | apply bH | apply r09_Valid.mono | apply lr | apply ln | apply li | refine lb ?_ fun _ => ?_)
theorem r09_Plain.mono : ∀ a0 a1 a2 k, LeO (r09_Plain.f k a0 a1 a2) (r09_Plain.f (k + 1) a0 a1 a2) := by
 intro a0 a1 a2 k
 obtain ⟨bG, bH⟩ := r09_Plain.mono_l k
 unfold r09_Plain.f
 repeat' first | (with_reducible first | apply bG | apply bH | apply r09_Valid.mono | apply lr | apply ln | apply li | refine lb ?_ fun _ => ?_)
set_option maxHeartbeats 8000000 in
set_option maxRecDepth 100000 in
theorem r09_Plain.calls (k : Nat) (ao : ByteArray) (aS : Option Addr) (a3 : Nat) (af : List (S57)) (aT : Option Addr) (a4 : Nat) (ab : List (S60)) (r : Bool) (w : World) (bb : Kd.C k57 w aS af.length af) (a9 : af.length ≤ a3) (bc : Kd.C k60 w aT ab.length ab) (ba : ab.length ≤ a4) (h : r09_Plain.f k ao af ab = some r) :
  Calls Try.prog 49 #[.agg #[.string ao, .slice aS af.length a3, .slice aT ab.length a4]] w fun e w' => e = .returned (.bool r) ∧ Below w.heap.size w w' := by
 have bN := Try.underlying25
 have ax := am bb
 have a7 := am a9
 clear bb a9
 have al := am bc
 have a8 := am ba
 clear bc ba
 have HB := am (Below.refl w.heap.size w)
 have H := h
 unfold r09_Plain.f at H
 clear h
 replace H := bnd H
 obtain ⟨bm, A2, H⟩ := H
 (try dsimp only at H)
 cases bm
 ·rw [if_neg Bool.false_ne_true] at H
  obtain rfl := Option.some.inj H
  go_enter Try.func49, Try.ntmps49
  go_wp2_with (first | ((with_reducible refine gate_dst (N := 1) rfl ?_); refine box_ev ?_; intro aR hg bR hbox hb; have aa := am hbox; have aL := gwl hg; have bo := aL; replace HB := bsl hb; clear hb hbox hg; have bX := cf3 aa.1) | ((with_reducible refine gate_callee (f := 25) rfl ?_); refine gC 6 Try.func25 _ (r09_Valid.calls k ao _ _ af _ _ ab false _ (csb ax HB) a7.1 (csb al HB) a8.1 A2.1) ?_; rintro e bS ⟨rfl, hb⟩; refine ⟨_, rfl, ?_⟩; replace aa := bbh aa hb; replace HB := bst hb; (try clear hb)))
  go_ret
  exact ⟨per, pbg⟩
 rw [if_pos rfl] at H
 have H' := am H
 clear H
 go_enter Try.func49, Try.ntmps49
 go_wp2_with (first | ((with_reducible refine gate_dst (N := 1) rfl ?_); refine box_ev ?_; intro aR hg w4 hbox hb; have aa := am hbox; have aL := gwl hg; have bo := aL; replace HB := bsl hb; clear hb hbox hg; have z5 := cf3 aa.1) | ((with_reducible refine gate_callee (f := 25) rfl ?_); refine gC 6 Try.func25 _ (r09_Valid.calls k ao _ _ af _ _ ab true _ (csb ax HB) a7.1 (csb al HB) a8.1 A2.1) ?_; rintro e w6 ⟨rfl, hb⟩; refine ⟨_, rfl, ?_⟩; replace aa := bbh aa hb; replace HB := bst hb; (try clear hb)))
 go_loopg [3] k (fun kq v3 w' => ∃ (aH : Int), v3 = .int .i64 aH ∧ Aside0 (r09_Plain.l0 kq aH ao af ab = some r) ∧ Aside0 (kq ≤ k) ∧ Aside0 (w'.heap[aR]? = some (.cells #[.string ao, (.slice aS af.length a3), (.slice aT ab.length a4)] 25 (0, 0))) ∧ Aside0 (Below w.heap.size w w'))
 case atStart => exact ⟨(0), prs, H', ⟨Nat.le_refl _⟩, ⟨pbk aa.1⟩, ⟨pbg⟩⟩
 clear H'
 try clear z5
 obtain ⟨aH, rfl, HA, bE, aa, HB⟩ := hrel
 obtain _ | k1 := gk
 ·exact absurd HA.1 (by simp [r09_Plain.l0])
 have H := HA.1
 clear HA
 simp only [r09_Plain.l0] at H
 replace H := ifl H
 rcases H with ⟨bw, H⟩ | ⟨bw, H⟩
 ·replace H := ifp H
  obtain ⟨c8, H⟩ := H
  have bF := decide_eq_true c8
  clear c8
  replace H := ife H
  rcases H with ⟨bx, bz, H⟩ | ⟨bx, bz, H⟩
  rotate_left
  ·obtain rfl := Option.some.inj H
   have bP := cf3 aa.1
   obtain ⟨bA, bC, bp, bk, aC, aD, aE⟩ := bT57 ax.1 HB.1 aH
   cases bk
   go_wp2
   go_ret
   exact ⟨per, pbg⟩
  have H' := am H
  clear H
  have bO := cf3 aa.1
  obtain ⟨bA, bC, bp, bk, aC, aD, aE⟩ := bT57 ax.1 HB.1 aH
  cases bk
  go_wp2
  go_roundg k1
  case measure => have := bE.1; omega
  case rel => exact ⟨(wrap64 (aH + 1)), prs, H', ⟨by have := bE.1; omega⟩, ⟨pbk aa.1⟩, ⟨pbg⟩⟩
 have H' := am H
 clear H
 have bQ := cf3 aa.1
 go_wp2
 go_loopg [4] k1 (fun kq v4 w' => ∃ (ag : Int), v4 = .int .i64 ag ∧ Aside0 (r09_Plain.l1 kq ag ao af ab = some r) ∧ Aside0 (kq ≤ k1) ∧ Aside0 (w'.heap[aR]? = some (.cells #[.string ao, (.slice aS af.length a3), (.slice aT ab.length a4)] 25 (0, 0))) ∧ Aside0 (Below w.heap.size w w'))
 case atStart => exact ⟨(0), prs, H', ⟨Nat.le_refl _⟩, ⟨pbk aa.1⟩, ⟨pbg⟩⟩
 clear H'
 try clear c3 bw c8 bF c9 bx bz bO bP bQ z5 aC aD aE bA bC
 obtain ⟨ag, rfl, HA, bK, aa, HB⟩ := hrel
 obtain _ | k2 := gk
 ·exact absurd HA.1 (by simp [r09_Plain.l1])
 have H := HA.1
 clear HA
 simp only [r09_Plain.l1] at H
 replace H := ifl H
 rcases H with ⟨bq, H⟩ | ⟨bq, H⟩
 rotate_left
 ·obtain rfl := Option.some.inj H
  have bW := cf3 aa.1
  go_wp2
  go_ret
  exact ⟨per, pbg⟩
 replace H := ifp H
 obtain ⟨bL, H⟩ := H
 have bM := decide_eq_true bL
 clear bL
 by_cases bn : (((rd_T60 ab ag).f3).length : Int) > 0
 ·rw [if_pos bn] at H
  have br : decide (0 < (((rd_T60 ab ag).f3).length : Int)) = true := decide_eq_true bn
  have bs : decide (0 < ((rd_T60 ab ag).f3).length) = true := decide_eq_true (by omega)
  clear bn
  obtain rfl := Option.some.inj H
  have bT := cf3 aa.1
  obtain ⟨bB, bD, aB, aI, aN, aJ, aO, aK, aP, aQ, aF, ah, ai, aj, aG, au, ay, av, az, aw, aA⟩ := bT60 al.1 HB.1 ag
  cases aQ
  go_wp2
  go_ret
  exact ⟨per, pbg⟩
 rw [if_neg bn] at H
 have br : decide (0 < (((rd_T60 ab ag).f3).length : Int)) = false := decide_eq_false bn
 have bs : decide (0 < ((rd_T60 ab ag).f3).length) = false := decide_eq_false (by omega)
 clear bn
 replace H := ife H
 rcases H with ⟨bu, bv, H⟩ | ⟨bu, bv, H⟩
 rotate_left
 ·obtain rfl := Option.some.inj H
  have bV := cf3 aa.1
  obtain ⟨bB, bD, aB, aI, aN, aJ, aO, aK, aP, aQ, aF, ah, ai, aj, aG, au, ay, av, az, aw, aA⟩ := bT60 al.1 HB.1 ag
  cases aQ
  obtain ⟨bI, bJ, aM, bd, bh, bf, bi, bg, bj, bl, a5, ap, aq, ar, a6, aU, aX, aV, aY, aW, aZ⟩ := bT60 al.1 HB.1 ag
  obtain rfl : aB = aM := (by injection bl)
  have ea_ := Option.some.inj (ah.symm.trans ap)
  injection ea_ with ea_ en_ ec_
  subst ea_
  subst ec_
  clear en_
  have ea_ := Option.some.inj (ai.symm.trans aq)
  injection ea_ with ea_ en_ ec_
  subst ea_
  subst ec_
  clear en_
  have ea_ := Option.some.inj (aj.symm.trans ar)
  injection ea_ with ea_ en_ ec_
  subst ea_
  subst ec_
  clear en_
  go_wp2
  go_ret
  exact ⟨per, pbg⟩
 have H' := am H
 clear H
 have bU := cf3 aa.1
 obtain ⟨bB, bD, aB, aI, aN, aJ, aO, aK, aP, aQ, aF, ah, ai, aj, aG, au, ay, av, az, aw, aA⟩ := bT60 al.1 HB.1 ag
 cases aQ
 obtain ⟨bI, bJ, aM, bd, bh, bf, bi, bg, bj, bl, a5, ap, aq, ar, a6, aU, aX, aV, aY, aW, aZ⟩ := bT60 al.1 HB.1 ag
 obtain rfl : aB = aM := (by injection bl)
 have ea_ := Option.some.inj (ah.symm.trans ap)
 injection ea_ with ea_ en_ ec_
 subst ea_
 subst ec_
 clear en_
 have ea_ := Option.some.inj (ai.symm.trans aq)
 injection ea_ with ea_ en_ ec_
 subst ea_
 subst ec_
 clear en_
 have ea_ := Option.some.inj (aj.symm.trans ar)
 injection ea_ with ea_ en_ ec_
 subst ea_
 subst ec_
 clear en_
 go_wp2
 go_roundg k2
 case measure => have := bE.1; have := bK.1; omega
 case rel => exact ⟨(wrap64 (ag + 1)), prs, H', ⟨by have := bE.1; have := bK.1; omega⟩, ⟨pbk aa.1⟩, ⟨pbg⟩⟩

/-! ### r22_fits: function 39 -/
def r22_fits.f (k : Nat) (ae : ByteArray) (ab : List (S57)) (ac : List (S60)) (l1 : List Int) : Option (Bool) := (r09_Valid.f k ae ab ac).bind fun au => (if au = true then ((r09_Plain.f k ae ab ac).bind fun av => (if av = true then ((r05_Valid.f k l1 (ab.length : Int)).bind fun aw => (some aw)) else (some false))) else (some false))
theorem r22_fits.mono : ∀ a0 a1 a2 a3 k, LeO (r22_fits.f k a0 a1 a2 a3) (r22_fits.f (k + 1) a0 a1 a2 a3) := by
 intro a0 a1 a2 a3 k
 unfold r22_fits.f
 repeat' first | (with_reducible first | apply r05_Valid.mono | apply r09_Plain.mono | apply r09_Valid.mono | apply lr | apply ln | apply li | refine lb ?_ fun _ => ?_)
set_option maxHeartbeats 8000000 in
set_option maxRecDepth 100000 in
theorem r22_fits.calls (k : Nat) (ae : ByteArray) (ax : Option Addr) (az : Nat) (ab : List (S57)) (ay : Option Addr) (aA : Nat) (ac : List (S60)) (A1 : Option Addr) (c1 : Nat) (l1 : List Int) (r : Bool) (w : World) (aq : Kd.C k57 w ax ab.length ab) (ao : ab.length ≤ az) (ar : Kd.C k60 w ay ac.length ac) (ap : ac.length ≤ aA) (aC : Kd.C (Kd.int .i64) w A1 l1.length l1) (aB : l1.length ≤ c1) (h : r22_fits.f k ae ab ac l1 = some r) :
  Calls Try.prog 39 #[.agg #[.string ae, .slice ax ab.length az, .slice ay ac.length aA], .slice A1 l1.length c1] w fun e w' => e = .returned (.bool r) ∧ Below w.heap.size w w' := by
 have aF := Try.underlying25
 have ai := am aq
 have ag := am ao
 clear aq ao
 have aj := am ar
 have ah := am ap
 clear ar ap
 have aE := am aC
 have aD := am aB
 clear aC aB
 have HB := am (Below.refl w.heap.size w)
 have H := h
 unfold r22_fits.f at H
 clear h
 replace H := bnd H
 obtain ⟨au, A3, H⟩ := H
 (try dsimp only at H)
 cases au
 ·rw [if_neg Bool.false_ne_true] at H
  obtain rfl := Option.some.inj H
  go_enter Try.func39, Try.ntmps39
  go_wp2_with (first | ((with_reducible refine gate_dst (N := 2) rfl ?_); (try (refine gate_guard (by rfl) ?_; dsimp only)); refine box_ev ?_; intro al hg aL hbox hb; have aa := am hbox; have af := gwl hg; have ak := af; replace HB := bsl hb; clear hb hbox hg; have aR := cf3 aa.1) | ((with_reducible refine gate_callee (f := 25) rfl ?_); refine gC 6 Try.func25 _ (r09_Valid.calls k ae _ _ ab _ _ ac false _ (csb ai HB) ag.1 (csb aj HB) ah.1 A3.1) ?_; rintro e aM ⟨rfl, hb⟩; refine ⟨_, rfl, ?_⟩; replace aa := bbh aa hb; replace HB := bst hb; (try clear hb)))
  go_ret
  exact ⟨per, pbg⟩
 rw [if_pos rfl] at H
 replace H := bnd H
 obtain ⟨av, A5, H⟩ := H
 (try dsimp only at H)
 cases av
 ·rw [if_neg Bool.false_ne_true] at H
  obtain rfl := Option.some.inj H
  go_enter Try.func39, Try.ntmps39
  go_wp2_with (first | ((with_reducible refine gate_dst (N := 2) rfl ?_); (try (refine gate_guard (by rfl) ?_; dsimp only)); refine box_ev ?_; intro al hg aI hbox hb; have aa := am hbox; have af := gwl hg; have ak := af; replace HB := bsl hb; clear hb hbox hg; have aP := cf3 aa.1) | ((with_reducible refine gate_callee (f := 25) rfl ?_); refine gC 6 Try.func25 _ (r09_Valid.calls k ae _ _ ab _ _ ac true _ (csb ai HB) ag.1 (csb aj HB) ah.1 A3.1) ?_; rintro e aJ ⟨rfl, hb⟩; refine ⟨_, rfl, ?_⟩; replace aa := bbh aa hb; replace HB := bst hb; (try clear hb); have aQ := cf3 aa.1) | (go_at_call 49; (with_reducible refine (r09_Plain.calls k ae _ _ ab _ _ ac false _ ?side1 ?side2 ?side3 ?side4 A5.1).mono ?_); (case side1 => exact csb ai HB); (case side2 => exact ag.1); (case side3 => exact csb aj HB); (case side4 => exact ah.1); rintro e aK ⟨rfl, hb⟩; replace aa := bbh aa hb; replace HB := bst hb; (try clear hb)))
  go_ret
  exact ⟨per, pbg⟩
 rw [if_pos rfl] at H
 replace H := bnd H
 obtain ⟨aw, A7, H⟩ := H
 (try dsimp only at H)
 obtain rfl := Option.some.inj H
 go_enter Try.func39, Try.ntmps39
 go_wp2_with (first | ((with_reducible refine gate_dst (N := 2) rfl ?_); (try (refine gate_guard (by rfl) ?_; dsimp only)); refine box_ev ?_; intro al hg w8 hbox hb; have aa := am hbox; have af := gwl hg; have ak := af; replace HB := bsl hb; clear hb hbox hg; have z9 := cf3 aa.1) | ((with_reducible refine gate_callee (f := 25) rfl ?_); refine gC 6 Try.func25 _ (r09_Valid.calls k ae _ _ ab _ _ ac true _ (csb ai HB) ag.1 (csb aj HB) ah.1 A3.1) ?_; rintro e aG ⟨rfl, hb⟩; refine ⟨_, rfl, ?_⟩; replace aa := bbh aa hb; replace HB := bst hb; (try clear hb); have aN := cf3 aa.1) | (go_at_call 49; (with_reducible refine (r09_Plain.calls k ae _ _ ab _ _ ac true _ ?side1 ?side2 ?side3 ?side4 A5.1).mono ?_); (case side1 => exact csb ai HB); (case side2 => exact ag.1); (case side3 => exact csb aj HB); (case side4 => exact ah.1); rintro e aH ⟨rfl, hb⟩; replace aa := bbh aa hb; replace HB := bst hb; (try clear hb); have aO := cf3 aa.1) | (go_at_call 59; (with_reducible refine (r05_Valid.calls k _ _ l1 (ab.length : Int) aw _ ?side1 ?side2 A7.1).mono ?_); (case side1 => exact csb aE HB); (case side2 => exact aD.1); rintro e w' ⟨rfl, ⟨nd, rfl⟩⟩))
 go_ret
 exact ⟨per, pbg⟩

/-! ### r09_Weight: function 41 -/
def r09_Weight.l0 : Nat → List (S78) → Int → Int → Option (Int)
 | 0, _, _, _ => none
 | k + 1, x0, x1, x5 => if x5 < (x0.length : Int) then (if 0 ≤ x5 then (if ((rd_T78 x0 x5).f0) = x1 then (some ((rd_T78 x0 x5).f1)) else (r09_Weight.l0 k x0 x1 (wrap64 (x5 + 1)))) else (none)) else (some 0)
def r09_Weight.f (k : Nat) (l0 : List (S78)) (a1 : Int) : Option (Int) := r09_Weight.l0 k l0 a1 0
theorem r09_Weight.mono_l : ∀ k, M3 r09_Weight.l0 k
 | 0 => fun _ _ _ r h => by simp [r09_Weight.l0] at h
 | k + 1 => by
  have aq := r09_Weight.mono_l k
  ·intro y0 y1 y2
   unfold r09_Weight.l0
   repeat' first | (with_reducible first | apply aq | apply lr | apply ln | apply li | refine lb ?_ fun _ => ?_)
theorem r09_Weight.mono : ∀ a0 a1 k, LeO (r09_Weight.f k a0 a1) (r09_Weight.f (k + 1) a0 a1) := by
 intro a0 a1 k
 have aq := r09_Weight.mono_l k
 unfold r09_Weight.f
 repeat' first | (with_reducible first | apply aq | apply lr | apply ln | apply li | refine lb ?_ fun _ => ?_)
set_option maxHeartbeats 8000000 in
set_option maxRecDepth 100000 in
theorem r09_Weight.calls (k : Nat) (A0 : Option Addr) (c0 : Nat) (l0 : List (S78)) (a1 : Int) (r : Int) (w : World) (aw : Kd.C k78 w A0 l0.length l0) (hc0 : l0.length ≤ c0) (h : r09_Weight.f k l0 a1 = some r) :
  Calls Try.prog 41 #[.slice A0 l0.length c0, .int .i64 a1] w fun e w' => e = .returned (.int .i64 r) ∧ Drawn0 w w' := by
 have aj := am aw
 have aA := am hc0
 clear aw hc0
 have H : (r09_Weight.l0 k l0 a1 0) = some r := h
 clear h
 have H' := am H
 clear H
 go_enter Try.func41, Try.ntmps41
 go_wp2
 go_loopg [5] k (fun kq v5 w' => ∃ (aa : Int), v5 = .int .i64 aa ∧ Aside0 (r09_Weight.l0 kq l0 a1 aa = some r) ∧ Aside0 (kq ≤ k) ∧ Drawn0 w w')
 case atStart => exact ⟨(0), prs, H', ⟨Nat.le_refl _⟩, pdr⟩
 clear H'
 obtain ⟨aa, rfl, HA, av, ⟨m1, rfl⟩⟩ := hrel
 obtain _ | k1 := gk
 ·exact absurd HA.1 (by simp [r09_Weight.l0])
 have H := HA.1
 clear HA
 simp only [r09_Weight.l0] at H
 replace H := ifl H
 rcases H with ⟨ak, H⟩ | ⟨ak, H⟩
 rotate_left
 ·obtain rfl := Option.some.inj H
  go_wp2
  go_ret
  exact ⟨prs, pdr⟩
 replace H := ifp H
 obtain ⟨c4, H⟩ := H
 have ax := decide_eq_true c4
 clear c4
 replace H := ife H
 rcases H with ⟨al, ao, H⟩ | ⟨al, ao, H⟩
 rotate_left
 ·have H' := am H
  clear H
  obtain ⟨ar, au, ae, af, ab, ac⟩ := dT78 aj.1 aa
  cases af
  go_wp2
  go_roundg k1
  case measure => have := av.1; omega
  case rel => exact ⟨(wrap64 (aa + 1)), prs, H', ⟨by have := av.1; omega⟩, pdr⟩
 obtain rfl := Option.some.inj H
 obtain ⟨ar, au, ae, af, ab, ac⟩ := dT78 aj.1 aa
 cases af
 obtain ⟨ay, az, ag, ap, ah, ai⟩ := dT78 aj.1 aa
 obtain rfl : ae = ag := (by injection ap)
 go_wp2
 go_ret
 exact ⟨prs, pdr⟩

/-! ### r22_can: function 40 -/
def r22_can.l0 : Nat → List Int → Int → Int → ByteArray → List (S57) → List (S60) → Option (Bool)
 | 0, _, _, _, _, _, _ => none
 | k + 1, x1, x2, x7, ak, al, af => if x7 < (x1.length : Int) then (if 0 ≤ x7 then (if (rd x1 x7) = (-1) then (r22_can.l0 k x1 x2 (wrap64 (x7 + 1)) ak al af) else (if 0 ≤ x2 then (if x2 < (af.length : Int) then ((r09_Weight.f k ((rd_T60 af x2).f1) x7).bind fun ap => (if (rd x1 x7) < ap then (some false) else (r22_can.l0 k x1 x2 (wrap64 (x7 + 1)) ak al af))) else (none)) else (none))) else (none)) else (some true)
def r22_can.f (k : Nat) (ao : ByteArray) (ah : List (S57)) (ae : List (S60)) (l1 : List Int) (a2 : Int) : Option (Bool) := r22_can.l0 k l1 a2 0 ao ah ae
theorem r22_can.mono_l : ∀ k, M6 r22_can.l0 k
 | 0 => fun _ _ _ _ _ _ r h => by simp [r22_can.l0] at h
 | k + 1 => by
  have bb := r22_can.mono_l k
  ·intro y0 y1 y2 y3 y4 y5
   unfold r22_can.l0
   repeat' first | (with_reducible first | apply bb | apply r09_Weight.mono | apply lr | apply ln | apply li | refine lb ?_ fun _ => ?_)
theorem r22_can.mono : ∀ a0 a1 a2 a3 a4 k, LeO (r22_can.f k a0 a1 a2 a3 a4) (r22_can.f (k + 1) a0 a1 a2 a3 a4) := by
 intro a0 a1 a2 a3 a4 k
 have bb := r22_can.mono_l k
 unfold r22_can.f
 repeat' first | (with_reducible first | apply bb | apply r09_Weight.mono | apply lr | apply ln | apply li | refine lb ?_ fun _ => ?_)
set_option maxHeartbeats 8000000 in
set_option maxRecDepth 100000 in
theorem r22_can.calls (k : Nat) (ao : ByteArray) (aJ : Option Addr) (aO : Nat) (ah : List (S57)) (aK : Option Addr) (aP : Nat) (ae : List (S60)) (A1 : Option Addr) (c1 : Nat) (l1 : List Int) (a2 : Int) (r : Bool) (w : World) (aH : Kd.C k57 w aJ ah.length ah) (aF : ah.length ≤ aO) (aI : Kd.C k60 w aK ae.length ae) (aG : ae.length ≤ aP) (bm : Kd.C (Kd.int .i64) w A1 l1.length l1) (bl : l1.length ≤ c1) (h : r22_can.f k ao ah ae l1 a2 = some r) :
  Calls Try.prog 40 #[.agg #[.string ao, .slice aJ ah.length aO, .slice aK ae.length aP], .slice A1 l1.length c1, .int .i64 a2] w fun e w' => e = .returned (.bool r) ∧ Below w.heap.size w w' := by
 have bq := Try.underlying25
 have bk := am aH
 have bi := am aF
 clear aH aF
 have aE := am aI
 have bj := am aG
 clear aI aG
 have aW := am bm
 have br := am bl
 clear bm bl
 have HB := am (Below.refl w.heap.size w)
 have H := h
 unfold r22_can.f at H
 clear h
 have H' := am H
 clear H
 go_enter Try.func40, Try.ntmps40
 iterate 4 (try go_wp2_with (first | ((with_reducible refine gate_dst (N := 3) rfl ?_); refine box_ev ?_; intro aZ hg w4 hbox hb; have ag := am hbox; have aV := gwl hg; have bh := aV; replace HB := bsl hb; clear hb hbox hg)); try go_quiet (fail))
 go_loopg [7] k (fun kq v7 w' => ∃ (ac : Int), v7 = .int .i64 ac ∧ Aside0 (r22_can.l0 kq l1 a2 ac ao ah ae = some r) ∧ Aside0 (kq ≤ k) ∧ Aside0 (w'.heap[aZ]? = some (.cells #[.string ao, (.slice aJ ah.length aO), (.slice aK ae.length aP)] 25 (0, 0))) ∧ Aside0 (Below w.heap.size w w'))
 case atStart => exact ⟨(0), prs, H', ⟨Nat.le_refl _⟩, ⟨pbk ag.1⟩, ⟨pbg⟩⟩
 clear H'
 try clear c1
 obtain ⟨ac, rfl, HA, a7, ag, HB⟩ := hrel
 obtain _ | k1 := gk
 ·exact absurd HA.1 (by simp [r22_can.l0])
 have H := HA.1
 clear HA
 simp only [r22_can.l0] at H
 replace H := ifl H
 rcases H with ⟨a8, H⟩ | ⟨a8, H⟩
 rotate_left
 ·obtain rfl := Option.some.inj H
  go_wp2
  repeat (go_quiet (fail); try go_wp2)
  go_ret
  exact ⟨per, pbg⟩
 replace H := ifp H
 obtain ⟨c6, H⟩ := H
 have bn := decide_eq_true c6
 clear c6
 replace H := ife H
 rcases H with ⟨a9, ba, H⟩ | ⟨a9, ba, H⟩
 ·have H' := am H
  clear H
  obtain ⟨a5, a6, ai, ar, aj⟩ := bint aW.1 HB.1 ac
  cases ar
  go_wp2
  repeat (go_quiet (fail); try go_wp2)
  go_roundg k1
  case measure => have := a7.1; omega
  case rel => exact ⟨(wrap64 (ac + 1)), prs, H', ⟨by have := a7.1; omega⟩, ⟨pbk ag.1⟩, ⟨pbg⟩⟩
 replace H := ifp H
 obtain ⟨c8, H⟩ := H
 have bo := decide_eq_true c8
 clear c8
 replace H := ifp H
 obtain ⟨c9, H⟩ := H
 have bp := decide_eq_true c9
 clear c9
 replace H := bnd H
 obtain ⟨ap, A10, H⟩ := H
 (try dsimp only at H)
 replace H := ifl H
 rcases H with ⟨aY, H⟩ | ⟨aY, H⟩
 ·obtain rfl := Option.some.inj H
  obtain ⟨a5, a6, ai, ar, aj⟩ := bint aW.1 HB.1 ac
  cases ar
  obtain ⟨bc, bf, aq, aT, ay⟩ := bint aW.1 HB.1 ac
  obtain rfl : ai = aq := (by injection aT)
  have bs := cf3 ag.1
  obtain ⟨bd, bg, aX, aL, aQ, aM, aR, aN, aS, aU, az, aA, aB, aC, aD, aa, ab, au, aw, av, ax⟩ := bT60 aE.1 HB.1 a2
  cases aU
  iterate 4 (try go_wp2_with (first | (go_at_call 41; (with_reducible refine (r09_Weight.calls k1 _ _ ((rd_T60 ae a2).f1) ac ap _ ?side1 ?side2 A10.1).mono ?_); (case side1 => exact csb ab HB); (case side2 => exact aa.1); rintro e w' ⟨rfl, ⟨nd, rfl⟩⟩; (try first | exact ⟨rfl, _, World.drewN_drewN _ _ _⟩ | exact ⟨rfl, _, Eq.trans (World.drewN_drewN _ _ _) (congrArg (World.drewN _) (Nat.add_assoc _ _ _))⟩))); try go_quiet (first | (go_at_call 41; (with_reducible refine (r09_Weight.calls k1 _ _ ((rd_T60 ae a2).f1) ac ap _ ?side1 ?side2 A10.1).mono ?_); (case side1 => exact csb ab HB); (case side2 => exact aa.1); rintro e w' ⟨rfl, ⟨nd, rfl⟩⟩; (try first | exact ⟨rfl, _, World.drewN_drewN _ _ _⟩ | exact ⟨rfl, _, Eq.trans (World.drewN_drewN _ _ _) (congrArg (World.drewN _) (Nat.add_assoc _ _ _))⟩))))
  go_ret
  exact ⟨per, pbg⟩
 have H' := am H
 clear H
 obtain ⟨a5, a6, ai, ar, aj⟩ := bint aW.1 HB.1 ac
 cases ar
 obtain ⟨bc, bf, aq, aT, ay⟩ := bint aW.1 HB.1 ac
 obtain rfl : ai = aq := (by injection aT)
 have bu := cf3 ag.1
 obtain ⟨bd, bg, aX, aL, aQ, aM, aR, aN, aS, aU, az, aA, aB, aC, aD, aa, ab, au, aw, av, ax⟩ := bT60 aE.1 HB.1 a2
 cases aU
 iterate 4 (try go_wp2_with (first | (go_at_call 41; (with_reducible refine (r09_Weight.calls k1 _ _ ((rd_T60 ae a2).f1) ac ap _ ?side1 ?side2 A10.1).mono ?_); (case side1 => exact csb ab HB); (case side2 => exact aa.1); rintro e w' ⟨rfl, ⟨nd, rfl⟩⟩; (try first | exact ⟨rfl, _, World.drewN_drewN _ _ _⟩ | exact ⟨rfl, _, Eq.trans (World.drewN_drewN _ _ _) (congrArg (World.drewN _) (Nat.add_assoc _ _ _))⟩))); try go_quiet (first | (go_at_call 41; (with_reducible refine (r09_Weight.calls k1 _ _ ((rd_T60 ae a2).f1) ac ap _ ?side1 ?side2 A10.1).mono ?_); (case side1 => exact csb ab HB); (case side2 => exact aa.1); rintro e w' ⟨rfl, ⟨nd, rfl⟩⟩; (try first | exact ⟨rfl, _, World.drewN_drewN _ _ _⟩ | exact ⟨rfl, _, Eq.trans (World.drewN_drewN _ _ _) (congrArg (World.drewN _) (Nat.add_assoc _ _ _))⟩))))
 go_roundg k1
 case measure => have := a7.1; omega
 case rel => exact ⟨(wrap64 (ac + 1)), prs, H', ⟨by have := a7.1; omega⟩, ⟨pbk ag.1⟩, ⟨pbg⟩⟩

/-! ### r22_Fire: function 13 -/
mutual
def r22_Fire.j0 : Nat → List Int → Int → Bool → ByteArray → List (S57) → List (S60) → Option (List Int × Bool)
 | 0, _, _, _, _, _, _ => none
 | k + 1, x1, x2, cN, aM, aN, ay => if cN = true then (some (([] : List Int), false)) else (r22_Fire.l0 k x1 x2 ([] : List Int) 0 aM aN ay)
def r22_Fire.l0 : Nat → List Int → Int → List Int → Int → ByteArray → List (S57) → List (S60) → Option (List Int × Bool)
 | 0, _, _, _, _, _, _, _ => none
 | k + 1, x1, x2, x8, x9, aM, aN, ay => if x9 < (x1.length : Int) then (if 0 ≤ x9 then (if (rd x1 x9) = (-1) then (if (-1) > 1048576 then (some (([] : List Int), false)) else (if x8.length < 17592186044416 then (r22_Fire.l0 k x1 x2 (x8 ++ [(-1)]) (wrap64 (x9 + 1)) aM aN ay) else (none))) else (if 0 ≤ x2 then (if x2 < (ay.length : Int) then ((r09_Weight.f k ((rd_T60 ay x2).f1) x9).bind fun aR => ((r09_Weight.f k ((rd_T60 ay x2).f2) x9).bind fun aT => (if (wrap64 ((wrap64 ((rd x1 x9) - aR)) + aT)) > 1048576 then (some (([] : List Int), false)) else (if x8.length < 17592186044416 then (r22_Fire.l0 k x1 x2 (x8 ++ [wrap64 ((wrap64 ((rd x1 x9) - aR)) + aT)]) (wrap64 (x9 + 1)) aM aN ay) else (none))))) else (none)) else (none))) else (none)) else (some (x8, true))
end
def r22_Fire.f (k : Nat) (ar : ByteArray) (aq : List (S57)) (ab : List (S60)) (l1 : List Int) (a2 : Int) : Option (List Int × Bool) := (r22_fits.f k ar aq ab l1).bind fun bU => (if bU = true then (if a2 < 0 then (r22_Fire.j0 k l1 a2 true ar aq ab) else (if a2 ≥ (ab.length : Int) then (r22_Fire.j0 k l1 a2 true ar aq ab) else ((r22_can.f k ar aq ab l1 a2).bind fun bq => (r22_Fire.j0 k l1 a2 (!bq) ar aq ab)))) else (r22_Fire.j0 k l1 a2 true ar aq ab))
theorem r22_Fire.mono_l : ∀ k, M6 r22_Fire.j0 k ∧ M7 r22_Fire.l0 k
 | 0 => ⟨fun _ _ _ _ _ _ r h => by simp [r22_Fire.j0] at h, fun _ _ _ _ _ _ _ r h => by simp [r22_Fire.l0] at h⟩
 | k + 1 => by
  obtain ⟨ce, cf⟩ := r22_Fire.mono_l k
  refine ⟨?_, ?_⟩ <;> dsimp only [M6, M7] <;> intros <;> (first | unfold r22_Fire.j0 | unfold r22_Fire.l0) <;> repeat' first | (with_reducible first | apply ce | apply cf | apply r09_Weight.mono | apply r22_can.mono | apply r22_fits.mono | apply lr | apply ln | apply li | refine lb ?_ fun _ => ?_)
theorem r22_Fire.mono : ∀ a0 a1 a2 a3 a4 k, LeO (r22_Fire.f k a0 a1 a2 a3 a4) (r22_Fire.f (k + 1) a0 a1 a2 a3 a4) := by
 intro a0 a1 a2 a3 a4 k
 obtain ⟨ce, cf⟩ := r22_Fire.mono_l k
 unfold r22_Fire.f
 repeat' first | (with_reducible first | apply ce | apply cf | apply r09_Weight.mono | apply r22_can.mono | apply r22_fits.mono | apply lr | apply ln | apply li | refine lb ?_ fun _ => ?_)
set_option maxHeartbeats 8000000 in
set_option maxRecDepth 100000 in
theorem r22_Fire.calls (k : Nat) (ar : ByteArray) (bs : Option Addr) (bA : Nat) (aq : List (S57)) (bu : Option Addr) (bB : Nat) (ab : List (S60)) (A1 : Option Addr) (c1 : Nat) (l1 : List Int) (a2 : Int) (r1 : List Int) (r2 : Bool) (w : World) (bI : Kd.C k57 w bs aq.length aq) (bG : aq.length ≤ bA) (bJ : Kd.C k60 w bu ab.length ab) (bH : ab.length ≤ bB) (cy : Kd.C (Kd.int .i64) w A1 l1.length l1) (cx : l1.length ≤ c1) (h : r22_Fire.f k ar aq ab l1 a2 = some (r1, r2)) :
  Calls Try.prog 13 #[.agg #[.string ar, .slice bs aq.length bA, .slice bu ab.length bB], .slice A1 l1.length c1, .int .i64 a2] w fun e w' => ∃ v0_ : Value, e = .returned (.tuple #[v0_, .bool r2]) ∧ Kd.R (Kd.int .i64) 3 w' w.heap.size (fun _ => True) v0_ r1 ∧ Below w.heap.size w w' := by
 have cE := Try.underlying25
 have aC := am bI
 have az := am bG
 clear bI bG
 have au := am bJ
 have aA := am bH
 clear bJ bH
 have a7 := am cy
 have br := am cx
 clear cy cx
 have HB := am (Below.refl w.heap.size w)
 have H := h
 unfold r22_Fire.f at H
 clear h
 have cd := am H
 clear H
 go_enter Try.func13, Try.ntmps13
 go_upto_region 1 with (first | ((with_reducible refine gate_dst (N := 3) rfl ?_); (try (refine gate_guard (by rfl) ?_; dsimp only)); refine box_ev ?_; intro bk hg w5 hbox hb; have aa := am hbox; have aZ := gwl hg; have bF := aZ; replace HB := bsl hb; clear hb hbox hg))
 repeat (go_quiet (first | ((with_reducible refine gate_dst (N := 3) rfl ?_); (try (refine gate_guard (by rfl) ?_; dsimp only)); refine box_ev ?_; intro bk hg w5 hbox hb; have aa := am hbox; have aZ := gwl hg; have bF := aZ; replace HB := bsl hb; clear hb hbox hg)); go_upto_region 1 with (first | ((with_reducible refine gate_dst (N := 3) rfl ?_); (try (refine gate_guard (by rfl) ?_; dsimp only)); refine box_ev ?_; intro bk hg w5 hbox hb; have aa := am hbox; have aZ := gwl hg; have bF := aZ; replace HB := bsl hb; clear hb hbox hg)))
 (try simp only [Act.put, List.setIfInBounds_toArray, List.set_cons_zero, List.set_cons_succ])
 go_cut [32] (fun cF wc => ∃ (kq : Nat) (bl : Bool), cF = .bool bl ∧ Aside0 (r22_Fire.j0 kq l1 a2 bl ar aq ab = some (r1, r2)) ∧ Aside0 (kq ≤ k) ∧ Aside0 (wc.heap[bk]? = some (.cells #[.string ar, (.slice bs aq.length bA), (.slice bu ab.length bB)] 25 (0, 0))) ∧ Aside0 (Below w.heap.size w wc))
 case first =>
  have H := cd.1
  clear cd
  replace H := bnd H
  obtain ⟨bU, A6, H⟩ := H
  (try dsimp only at H)
  cases bU
  ·rw [if_neg Bool.false_ne_true] at H
   have H' := am H
   clear H
   have cC := cf3 aa.1
   iterate 4 (try go_wp2_with (first | (go_at_call 39; (with_reducible refine (r22_fits.calls k ar _ _ aq _ _ ab _ _ l1 false _ ?side1 ?side2 ?side3 ?side4 ?side5 ?side6 A6.1).mono ?_); (case side1 => exact csb aC HB); (case side2 => exact az.1); (case side3 => exact csb au HB); (case side4 => exact aA.1); (case side5 => exact csb a7 HB); (case side6 => exact br.1); rintro e cM ⟨rfl, hb⟩; replace aa := bbh aa hb; replace HB := bst hb; (try clear hb))); try go_quiet (first | (go_at_call 39; (with_reducible refine (r22_fits.calls k ar _ _ aq _ _ ab _ _ l1 false _ ?side1 ?side2 ?side3 ?side4 ?side5 ?side6 A6.1).mono ?_); (case side1 => exact csb aC HB); (case side2 => exact az.1); (case side3 => exact csb au HB); (case side4 => exact aA.1); (case side5 => exact csb a7 HB); (case side6 => exact br.1); rintro e cM ⟨rfl, hb⟩; replace aa := bbh aa hb; replace HB := bst hb; (try clear hb))))
   go_meet
   case rel => exact ⟨_, (true), prs, H', ⟨by first | omega | exact Nat.le_refl _⟩, ⟨pbk aa.1⟩, ⟨pbg⟩⟩
  rw [if_pos rfl] at H
  replace H := ifl H
  rcases H with ⟨bg, H⟩ | ⟨bg, H⟩
  all_goals (try have wq_ := wr2 bg)
  ·(first | rw [bg] | (simp only [i64_w, i32_w]; rw [bg]) | skip)
   have H' := am H
   clear H
   have z9 := cf3 aa.1
   iterate 4 (try go_wp2_with (first | (go_at_call 39; (with_reducible refine (r22_fits.calls k ar _ _ aq _ _ ab _ _ l1 true _ ?side1 ?side2 ?side3 ?side4 ?side5 ?side6 A6.1).mono ?_); (case side1 => exact csb aC HB); (case side2 => exact az.1); (case side3 => exact csb au HB); (case side4 => exact aA.1); (case side5 => exact csb a7 HB); (case side6 => exact br.1); rintro e cI ⟨rfl, hb⟩; replace aa := bbh aa hb; replace HB := bst hb; (try clear hb))); try go_quiet (first | (go_at_call 39; (with_reducible refine (r22_fits.calls k ar _ _ aq _ _ ab _ _ l1 true _ ?side1 ?side2 ?side3 ?side4 ?side5 ?side6 A6.1).mono ?_); (case side1 => exact csb aC HB); (case side2 => exact az.1); (case side3 => exact csb au HB); (case side4 => exact aA.1); (case side5 => exact csb a7 HB); (case side6 => exact br.1); rintro e cI ⟨rfl, hb⟩; replace aa := bbh aa hb; replace HB := bst hb; (try clear hb))))
   go_meet
   case rel => exact ⟨_, (true), prs, H', ⟨by first | omega | exact Nat.le_refl _⟩, ⟨pbk aa.1⟩, ⟨pbg⟩⟩
  (first | rw [bg] | (simp only [i64_w, i32_w]; rw [bg]) | skip)
  replace H := ifh H
  rcases H with ⟨bn, H⟩ | ⟨bn, H⟩
  all_goals (try have wq_ := wr2 bn)
  ·have H' := am H
   clear H
   have cA := cf3 aa.1
   iterate 4 (try go_wp2_with (first | (go_at_call 39; (with_reducible refine (r22_fits.calls k ar _ _ aq _ _ ab _ _ l1 true _ ?side1 ?side2 ?side3 ?side4 ?side5 ?side6 A6.1).mono ?_); (case side1 => exact csb aC HB); (case side2 => exact az.1); (case side3 => exact csb au HB); (case side4 => exact aA.1); (case side5 => exact csb a7 HB); (case side6 => exact br.1); rintro e cJ ⟨rfl, hb⟩; replace aa := bbh aa hb; replace HB := bst hb; (try clear hb); have ck := cf3 aa.1)); try go_quiet (first | (go_at_call 39; (with_reducible refine (r22_fits.calls k ar _ _ aq _ _ ab _ _ l1 true _ ?side1 ?side2 ?side3 ?side4 ?side5 ?side6 A6.1).mono ?_); (case side1 => exact csb aC HB); (case side2 => exact az.1); (case side3 => exact csb au HB); (case side4 => exact aA.1); (case side5 => exact csb a7 HB); (case side6 => exact br.1); rintro e cJ ⟨rfl, hb⟩; replace aa := bbh aa hb; replace HB := bst hb; (try clear hb); have ck := cf3 aa.1)))
   go_meet
   case rel => exact ⟨_, (true), prs, H', ⟨by first | omega | exact Nat.le_refl _⟩, ⟨pbk aa.1⟩, ⟨pbg⟩⟩
  replace H := bnd H
  obtain ⟨bq, A15, H⟩ := H
  (try dsimp only at H)
  have H' := am H
  clear H
  have cB := cf3 aa.1
  iterate 4 (try go_wp2_with (first | (go_at_call 39; (with_reducible refine (r22_fits.calls k ar _ _ aq _ _ ab _ _ l1 true _ ?side1 ?side2 ?side3 ?side4 ?side5 ?side6 A6.1).mono ?_); (case side1 => exact csb aC HB); (case side2 => exact az.1); (case side3 => exact csb au HB); (case side4 => exact aA.1); (case side5 => exact csb a7 HB); (case side6 => exact br.1); rintro e cK ⟨rfl, hb⟩; replace aa := bbh aa hb; replace HB := bst hb; (try clear hb); have cm := cf3 aa.1) | (go_at_call 40; (with_reducible refine (r22_can.calls k ar _ _ aq _ _ ab _ _ l1 a2 bq _ ?side1 ?side2 ?side3 ?side4 ?side5 ?side6 A15.1).mono ?_); (case side1 => exact csb aC HB); (case side2 => exact az.1); (case side3 => exact csb au HB); (case side4 => exact aA.1); (case side5 => exact csb a7 HB); (case side6 => exact br.1); rintro e cL ⟨rfl, hb⟩; replace aa := bbh aa hb; replace HB := bst hb; (try clear hb))); try go_quiet (first | (go_at_call 39; (with_reducible refine (r22_fits.calls k ar _ _ aq _ _ ab _ _ l1 true _ ?side1 ?side2 ?side3 ?side4 ?side5 ?side6 A6.1).mono ?_); (case side1 => exact csb aC HB); (case side2 => exact az.1); (case side3 => exact csb au HB); (case side4 => exact aA.1); (case side5 => exact csb a7 HB); (case side6 => exact br.1); rintro e cK ⟨rfl, hb⟩; replace aa := bbh aa hb; replace HB := bst hb; (try clear hb); have cm := cf3 aa.1) | (go_at_call 40; (with_reducible refine (r22_can.calls k ar _ _ aq _ _ ab _ _ l1 a2 bq _ ?side1 ?side2 ?side3 ?side4 ?side5 ?side6 A15.1).mono ?_); (case side1 => exact csb aC HB); (case side2 => exact az.1); (case side3 => exact csb au HB); (case side4 => exact aA.1); (case side5 => exact csb a7 HB); (case side6 => exact br.1); rintro e cL ⟨rfl, hb⟩; replace aa := bbh aa hb; replace HB := bst hb; (try clear hb))))
  go_meet
  case rel => exact ⟨_, (!bq), prs, H', ⟨by first | omega | exact Nat.le_refl _⟩, ⟨pbk aa.1⟩, ⟨pbg⟩⟩
 clear cd
 try clear c1 c7 c8 bg cD bn cA ck cB cm cC z9
 obtain ⟨kq, bl, rfl, HA, ca, aa, HB⟩ := hcut
 obtain _ | cz := kq
 ·exact absurd HA.1 (by simp [r22_Fire.j0])
 have H := HA.1
 clear HA
 simp only [r22_Fire.j0] at H
 cases bl
 rotate_left
 ·rw [if_pos rfl] at H
  simp only [Option.some.injEq, Prod.mk.injEq] at H
  obtain ⟨rfl, rfl⟩ := H
  go_wp2
  all_goals (go_ret2; exact ⟨_, per, knl, pbg⟩)
 rw [if_neg Bool.false_ne_true] at H
 have H' := am H
 clear H
 go_wp2
 repeat (go_quiet (fail); try go_wp2)
 go_loopg [8, 9] cz (fun kq v8 v9 w' => ∃ (bj : List Int) (av : Int), v9 = .int .i64 av ∧ Aside0 (r22_Fire.l0 kq l1 a2 bj av ar aq ab = some (r1, r2)) ∧ Aside0 (kq ≤ cz) ∧ Aside0 (Kd.R (Kd.int .i64) 3 w' w.heap.size (fun _ => True) v8 bj) ∧ Aside0 (w'.heap[bk]? = some (.cells #[.string ar, (.slice bs aq.length bA), (.slice bu ab.length bB)] 25 (0, 0))) ∧ Aside0 (Below w.heap.size w w'))
 case atStart => exact ⟨(([] : List Int)), (0), prs, H', ⟨Nat.le_refl _⟩, ⟨knl⟩, ⟨pbk aa.1⟩, ⟨pbg⟩⟩
 clear H'
 try clear c1 c7 c8 bg cD bn cA ck cB cm cC z9
 obtain ⟨bj, av, rfl, HA, cb, bb, aa, HB⟩ := hrel
 obtain _ | k2 := gk
 ·exact absurd HA.1 (by simp [r22_Fire.l0])
 have H := HA.1
 clear HA
 simp only [r22_Fire.l0] at H
 replace H := ifl H
 rcases H with ⟨b1, H⟩ | ⟨b1, H⟩
 all_goals (try have wq_ := wr2 b1)
 rotate_left
 ·simp only [Option.some.injEq, Prod.mk.injEq] at H
  obtain ⟨rfl, rfl⟩ := H
  go_wp2
  all_goals (go_ret2; exact ⟨_, per, by (with_reducible repeat (first | apply Kd.R_alloc | apply Kd.R_drewN | apply Kd.R_drew)); exact bb.1, pbg⟩)
 replace H := ifp H
 obtain ⟨cn, H⟩ := H
 have co := decide_eq_true cn
 clear cn
 replace H := ife H
 rcases H with ⟨b2, b3, H⟩ | ⟨b2, b3, H⟩
 ·replace H := ifg H
  rcases H with ⟨b4, H⟩ | ⟨b4, H⟩
  all_goals (try have wq_ := wr2 b4)
  ·simp only [Option.some.injEq, Prod.mk.injEq] at H
   obtain ⟨rfl, rfl⟩ := H
   obtain ⟨bS, bT, a5, bh, aY⟩ := bint a7.1 HB.1 av
   cases bh
   go_wp2
   all_goals (go_ret2; exact ⟨_, per, knl, pbg⟩)
  replace H := ifp H
  obtain ⟨cp, H⟩ := H
  have bX := am cp
  clear cp
  obtain ⟨b6, bo⟩ : ∃ y_ : List Int, y_ = (bj ++ [(-1)]) := ⟨_, rfl⟩
  replace H : (r22_Fire.l0 k2 l1 a2 b6 (wrap64 (av + 1)) ar aq ab) = some (r1, r2) := hrp bo H
  have bZ := am bo
  clear bo
  have H' := am H
  clear H
  obtain ⟨bS, bT, a5, bh, aY⟩ := bint a7.1 HB.1 av
  cases bh
  iterate 4 (try go_wp2_with (first | ((with_reducible refine gate_builtin (b := .append) (xs := #[.tmp 68, .tmp 70]) rfl ?_); (try (refine gate_guard (by rfl) ?_; dsimp only)); at_builtin; refine Kd.R_append (Kd.int .i64) (w0 := w) w.heap.size rfl (.tmp 68) (.tmp 70) 26 3 (.int .i64 0) 8 rfl Try.underlying26 info3 rfl (by decide) (by omega) u8 bj (-1) [.int .i64 (-1)] (fun _ => True) (fun _ => False) rfl rfl ?aP (fun _ hk => hk.elim) ?aF ?aO ?aB ?aS ?aL ?_; (case aP => exact rfl); (case aB => exact pbg); (case aF => exact (fun _ _ => trivial)); (case aO => exact (pkr bb.1)); (case aS => exact (below_size pbg)); (case aL => have := bX.1; omega); intro cG cO ho hb hg hat; rw [← bZ.1] at ho; have bV := am ho; replace aa := (bgr aa hg (Kd.R_ne bb.1 aa.1 (by decide))); replace HB := am hb; clear bb; clear ho hb hg hat)); try go_quiet (fail))
  go_roundg k2
  case measure => have := ca.1; have := cb.1; omega
  case rel => exact ⟨(b6), (wrap64 (av + 1)), prs, H', ⟨by have := ca.1; have := cb.1; omega⟩, ⟨pkr bV.1⟩, ⟨pbk aa.1⟩, ⟨pbg⟩⟩
 replace H := ifp H
 obtain ⟨cq, H⟩ := H
 have cr := decide_eq_true cq
 clear cq
 replace H := ifp H
 obtain ⟨cu, H⟩ := H
 have cv := decide_eq_true cu
 clear cu
 replace H := bnd H
 obtain ⟨aR, b8, H⟩ := H
 (try dsimp only at H)
 replace H := bnd H
 obtain ⟨aT, b9, H⟩ := H
 (try dsimp only at H)
 replace H := ifg H
 rcases H with ⟨b5, H⟩ | ⟨b5, H⟩
 all_goals (try have wq_ := wr2 b5)
 ·simp only [Option.some.injEq, Prod.mk.injEq] at H
  obtain ⟨rfl, rfl⟩ := H
  obtain ⟨bS, bT, a5, bh, aY⟩ := bint a7.1 HB.1 av
  cases bh
  obtain ⟨cg, ci, bm, bQ, bC⟩ := bint a7.1 HB.1 av
  obtain rfl : a5 = bm := (by injection bQ)
  have cQ := cf3 aa.1
  obtain ⟨ch, cj, a6, bK, bN, bL, bO, bM, bP, bR, bD, aI, aJ, aK, bE, aG, aH, bv, bx, bw, bz⟩ := bT60 au.1 HB.1 a2
  cases bR
  iterate 4 (try go_wp2_with (first | (go_at_call 41; (with_reducible refine (r09_Weight.calls k2 _ _ ((rd_T60 ab a2).f1) av aR _ ?side1 ?side2 b8.1).mono ?_); (case side1 => exact csb aH HB); (case side2 => exact aG.1); rintro e w' ⟨rfl, ⟨nd, rfl⟩⟩; (try first | exact ⟨rfl, _, World.drewN_drewN _ _ _⟩ | exact ⟨rfl, _, Eq.trans (World.drewN_drewN _ _ _) (congrArg (World.drewN _) (Nat.add_assoc _ _ _))⟩); have aD : 0 ≤ (a2 : Int) := dq; have aE : a2 < (ab.length : Int) := dq; obtain ⟨aQ, a8, bc, a9, bd, ba, bf, bi, ao, ac, ae, af, ap, aj, ag, ak, ah, al, ai⟩ := at_T60 au.1 a2 aD aE; obtain rfl : a6 = aQ := (by injection bi); replace ao := cbl HB.1 ao; replace ac := cbl HB.1 ac; replace ae := cbl HB.1 ae; replace af := cbl HB.1 af; replace ap := cbl HB.1 ap; have aW := am ag; have aU := am aj; clear ag aj; have ax := am ah; have aw := am ak; clear ah ak; have aX := am ai; have aV := am al; clear ai al; replace aD := eq_true aD; replace aE := eq_true aE; have ea_ := Option.some.inj (aI.symm.trans ac); injection ea_ with ea_ en_ ec_; subst ea_; subst ec_; clear en_; have ea_ := Option.some.inj (aJ.symm.trans ae); injection ea_ with ea_ en_ ec_; subst ea_; subst ec_; clear en_; have ea_ := Option.some.inj (aK.symm.trans af); injection ea_ with ea_ en_ ec_; subst ea_; subst ec_; clear en_) | (go_at_call 41; (with_reducible refine (r09_Weight.calls k2 _ _ ((rd_T60 ab a2).f2) av aT _ ?side1 ?side2 b9.1).mono ?_); (case side1 => exact csd ((Kd.C_below ax.1 pbg))); (case side2 => exact aw.1); rintro e w' ⟨rfl, ⟨nd, rfl⟩⟩; (try first | exact ⟨rfl, _, World.drewN_drewN _ _ _⟩ | exact ⟨rfl, _, Eq.trans (World.drewN_drewN _ _ _) (congrArg (World.drewN _) (Nat.add_assoc _ _ _))⟩))); try go_quiet (first | (go_at_call 41; (with_reducible refine (r09_Weight.calls k2 _ _ ((rd_T60 ab a2).f1) av aR _ ?side1 ?side2 b8.1).mono ?_); (case side1 => exact csb aH HB); (case side2 => exact aG.1); rintro e w' ⟨rfl, ⟨nd, rfl⟩⟩; (try first | exact ⟨rfl, _, World.drewN_drewN _ _ _⟩ | exact ⟨rfl, _, Eq.trans (World.drewN_drewN _ _ _) (congrArg (World.drewN _) (Nat.add_assoc _ _ _))⟩); have aD : 0 ≤ (a2 : Int) := dq; have aE : a2 < (ab.length : Int) := dq; obtain ⟨aQ, a8, bc, a9, bd, ba, bf, bi, ao, ac, ae, af, ap, aj, ag, ak, ah, al, ai⟩ := at_T60 au.1 a2 aD aE; obtain rfl : a6 = aQ := (by injection bi); replace ao := cbl HB.1 ao; replace ac := cbl HB.1 ac; replace ae := cbl HB.1 ae; replace af := cbl HB.1 af; replace ap := cbl HB.1 ap; have aW := am ag; have aU := am aj; clear ag aj; have ax := am ah; have aw := am ak; clear ah ak; have aX := am ai; have aV := am al; clear ai al; replace aD := eq_true aD; replace aE := eq_true aE; have ea_ := Option.some.inj (aI.symm.trans ac); injection ea_ with ea_ en_ ec_; subst ea_; subst ec_; clear en_; have ea_ := Option.some.inj (aJ.symm.trans ae); injection ea_ with ea_ en_ ec_; subst ea_; subst ec_; clear en_; have ea_ := Option.some.inj (aK.symm.trans af); injection ea_ with ea_ en_ ec_; subst ea_; subst ec_; clear en_) | (go_at_call 41; (with_reducible refine (r09_Weight.calls k2 _ _ ((rd_T60 ab a2).f2) av aT _ ?side1 ?side2 b9.1).mono ?_); (case side1 => exact csd ((Kd.C_below ax.1 pbg))); (case side2 => exact aw.1); rintro e w' ⟨rfl, ⟨nd, rfl⟩⟩; (try first | exact ⟨rfl, _, World.drewN_drewN _ _ _⟩ | exact ⟨rfl, _, Eq.trans (World.drewN_drewN _ _ _) (congrArg (World.drewN _) (Nat.add_assoc _ _ _))⟩))))
  go_ret2
  exact ⟨_, per, knl, pbg⟩
 replace H := ifp H
 obtain ⟨cw, H⟩ := H
 have bY := am cw
 clear cw
 obtain ⟨b7, bp⟩ : ∃ y_ : List Int, y_ = (bj ++ [wrap64 ((wrap64 ((rd l1 av) - aR)) + aT)]) := ⟨_, rfl⟩
 replace H : (r22_Fire.l0 k2 l1 a2 b7 (wrap64 (av + 1)) ar aq ab) = some (r1, r2) := hrp bp H
 have b0 := am bp
 clear bp
 have H' := am H
 clear H
 obtain ⟨bS, bT, a5, bh, aY⟩ := bint a7.1 HB.1 av
 cases bh
 obtain ⟨cg, ci, bm, bQ, bC⟩ := bint a7.1 HB.1 av
 obtain rfl : a5 = bm := (by injection bQ)
 have cR := cf3 aa.1
 obtain ⟨ch, cj, a6, bK, bN, bL, bO, bM, bP, bR, bD, aI, aJ, aK, bE, aG, aH, bv, bx, bw, bz⟩ := bT60 au.1 HB.1 a2
 cases bR
 iterate 4 (try go_wp2_with (first | (go_at_call 41; (with_reducible refine (r09_Weight.calls k2 _ _ ((rd_T60 ab a2).f1) av aR _ ?side1 ?side2 b8.1).mono ?_); (case side1 => exact csb aH HB); (case side2 => exact aG.1); rintro e w' ⟨rfl, ⟨nd, rfl⟩⟩; (try first | exact ⟨rfl, _, World.drewN_drewN _ _ _⟩ | exact ⟨rfl, _, Eq.trans (World.drewN_drewN _ _ _) (congrArg (World.drewN _) (Nat.add_assoc _ _ _))⟩); have aD : 0 ≤ (a2 : Int) := dq; have aE : a2 < (ab.length : Int) := dq; obtain ⟨aQ, a8, bc, a9, bd, ba, bf, bi, ao, ac, ae, af, ap, aj, ag, ak, ah, al, ai⟩ := at_T60 au.1 a2 aD aE; obtain rfl : a6 = aQ := (by injection bi); replace ao := cbl HB.1 ao; replace ac := cbl HB.1 ac; replace ae := cbl HB.1 ae; replace af := cbl HB.1 af; replace ap := cbl HB.1 ap; have aW := am ag; have aU := am aj; clear ag aj; have ax := am ah; have aw := am ak; clear ah ak; have aX := am ai; have aV := am al; clear ai al; replace aD := eq_true aD; replace aE := eq_true aE; have ea_ := Option.some.inj (aI.symm.trans ac); injection ea_ with ea_ en_ ec_; subst ea_; subst ec_; clear en_; have ea_ := Option.some.inj (aJ.symm.trans ae); injection ea_ with ea_ en_ ec_; subst ea_; subst ec_; clear en_; have ea_ := Option.some.inj (aK.symm.trans af); injection ea_ with ea_ en_ ec_; subst ea_; subst ec_; clear en_) | (go_at_call 41; (with_reducible refine (r09_Weight.calls k2 _ _ ((rd_T60 ab a2).f2) av aT _ ?side1 ?side2 b9.1).mono ?_); (case side1 => exact csd ((Kd.C_below ax.1 pbg))); (case side2 => exact aw.1); rintro e w' ⟨rfl, ⟨nd, rfl⟩⟩; (try first | exact ⟨rfl, _, World.drewN_drewN _ _ _⟩ | exact ⟨rfl, _, Eq.trans (World.drewN_drewN _ _ _) (congrArg (World.drewN _) (Nat.add_assoc _ _ _))⟩)) | ((with_reducible refine gate_builtin (b := .append) (xs := #[.tmp 68, .tmp 70]) rfl ?_); (try (refine gate_guard (by rfl) ?_; dsimp only)); at_builtin; refine Kd.R_append (Kd.int .i64) (w0 := w) w.heap.size rfl (.tmp 68) (.tmp 70) 26 3 (.int .i64 0) 8 rfl Try.underlying26 info3 rfl (by decide) (by omega) u8 bj (wrap64 ((wrap64 ((rd l1 av) - aR)) + aT)) [.int .i64 (wrap64 ((wrap64 ((rd l1 av) - aR)) + aT))] (fun _ => True) (fun _ => False) rfl rfl ?aP (fun _ hk => hk.elim) ?aF ?aO ?aB ?aS ?aL ?_; (case aP => exact rfl); (case aB => exact pbg); (case aF => exact (fun _ _ => trivial)); (case aO => exact (pkr bb.1)); (case aS => exact (below_size pbg)); (case aL => have := bY.1; omega); intro cH cP ho hb hg hat; rw [← b0.1] at ho; have bW := am ho; replace aa := (bgr aa hg (Kd.R_ne bb.1 aa.1 (by decide))); replace HB := am hb; clear bb; clear ho hb hg hat)); try go_quiet (first | (go_at_call 41; (with_reducible refine (r09_Weight.calls k2 _ _ ((rd_T60 ab a2).f1) av aR _ ?side1 ?side2 b8.1).mono ?_); (case side1 => exact csb aH HB); (case side2 => exact aG.1); rintro e w' ⟨rfl, ⟨nd, rfl⟩⟩; (try first | exact ⟨rfl, _, World.drewN_drewN _ _ _⟩ | exact ⟨rfl, _, Eq.trans (World.drewN_drewN _ _ _) (congrArg (World.drewN _) (Nat.add_assoc _ _ _))⟩); have aD : 0 ≤ (a2 : Int) := dq; have aE : a2 < (ab.length : Int) := dq; obtain ⟨aQ, a8, bc, a9, bd, ba, bf, bi, ao, ac, ae, af, ap, aj, ag, ak, ah, al, ai⟩ := at_T60 au.1 a2 aD aE; obtain rfl : a6 = aQ := (by injection bi); replace ao := cbl HB.1 ao; replace ac := cbl HB.1 ac; replace ae := cbl HB.1 ae; replace af := cbl HB.1 af; replace ap := cbl HB.1 ap; have aW := am ag; have aU := am aj; clear ag aj; have ax := am ah; have aw := am ak; clear ah ak; have aX := am ai; have aV := am al; clear ai al; replace aD := eq_true aD; replace aE := eq_true aE; have ea_ := Option.some.inj (aI.symm.trans ac); injection ea_ with ea_ en_ ec_; subst ea_; subst ec_; clear en_; have ea_ := Option.some.inj (aJ.symm.trans ae); injection ea_ with ea_ en_ ec_; subst ea_; subst ec_; clear en_; have ea_ := Option.some.inj (aK.symm.trans af); injection ea_ with ea_ en_ ec_; subst ea_; subst ec_; clear en_) | (go_at_call 41; (with_reducible refine (r09_Weight.calls k2 _ _ ((rd_T60 ab a2).f2) av aT _ ?side1 ?side2 b9.1).mono ?_); (case side1 => exact csd ((Kd.C_below ax.1 pbg))); (case side2 => exact aw.1); rintro e w' ⟨rfl, ⟨nd, rfl⟩⟩; (try first | exact ⟨rfl, _, World.drewN_drewN _ _ _⟩ | exact ⟨rfl, _, Eq.trans (World.drewN_drewN _ _ _) (congrArg (World.drewN _) (Nat.add_assoc _ _ _))⟩))))
 go_roundg k2
 case measure => have := ca.1; have := cb.1; omega
 case rel => exact ⟨(b7), (wrap64 (av + 1)), prs, H', ⟨by have := ca.1; have := cb.1; omega⟩, ⟨pkr bW.1⟩, ⟨pbk aa.1⟩, ⟨pbg⟩⟩

/-! ### r22_Enabled: function 16 -/
mutual
def r22_Enabled.l0 : Nat → List Int → List Int → Int → ByteArray → List (S57) → List (S60) → Option (List Int)
 | 0, _, _, _, _, _, _ => none
 | k + 1, x1, x5, x6, ac, ae, ab => if x6 < (ab.length : Int) then ((r22_fits.f k ac ae ab x1).bind fun aA => (r22_Enabled.j1 k x1 x5 x6 aA ac ae ab)) else (r22_Enabled.j1 k x1 x5 x6 false ac ae ab)
def r22_Enabled.j1 : Nat → List Int → List Int → Int → Bool → ByteArray → List (S57) → List (S60) → Option (List Int)
 | 0, _, _, _, _, _, _, _ => none
 | k + 1, x1, x5, x6, bb, ac, ae, ab => if bb = true then ((r22_can.f k ac ae ab x1 x6).bind fun aI => (if aI = true then (if x5.length < 17592186044416 then (r22_Enabled.l0 k x1 (x5 ++ [x6]) (wrap64 (x6 + 1)) ac ae ab) else (none)) else (r22_Enabled.l0 k x1 x5 (wrap64 (x6 + 1)) ac ae ab))) else (some x5)
end
def r22_Enabled.f (k : Nat) (ai : ByteArray) (af : List (S57)) (ag : List (S60)) (l1 : List Int) : Option (List Int) := r22_Enabled.l0 k l1 ([] : List Int) 0 ai af ag
theorem r22_Enabled.mono_l : ∀ k, M6 r22_Enabled.l0 k ∧ M7 r22_Enabled.j1 k
 | 0 => ⟨fun _ _ _ _ _ _ r h => by simp [r22_Enabled.l0] at h, fun _ _ _ _ _ _ _ r h => by simp [r22_Enabled.j1] at h⟩
 | k + 1 => by
  obtain ⟨aY, aZ⟩ := r22_Enabled.mono_l k
  refine ⟨?_, ?_⟩ <;> dsimp only [M6, M7] <;> intros <;> (first | unfold r22_Enabled.l0 | unfold r22_Enabled.j1) <;> repeat' first | (with_reducible first | apply aY | apply aZ | apply r22_can.mono | apply r22_fits.mono | apply lr | apply ln | apply li | refine lb ?_ fun _ => ?_)
theorem r22_Enabled.mono : ∀ a0 a1 a2 a3 k, LeO (r22_Enabled.f k a0 a1 a2 a3) (r22_Enabled.f (k + 1) a0 a1 a2 a3) := by
 intro a0 a1 a2 a3 k
 obtain ⟨aY, aZ⟩ := r22_Enabled.mono_l k
 unfold r22_Enabled.f
 repeat' first | (with_reducible first | apply aY | apply aZ | apply r22_can.mono | apply r22_fits.mono | apply lr | apply ln | apply li | refine lb ?_ fun _ => ?_)
set_option maxHeartbeats 8000000 in
set_option maxRecDepth 100000 in
theorem r22_Enabled.calls (k : Nat) (ai : ByteArray) (aw : Option Addr) (ay : Nat) (af : List (S57)) (ax : Option Addr) (az : Nat) (ag : List (S60)) (A1 : Option Addr) (c1 : Nat) (l1 : List Int) (r : List Int) (w : World) (aG : Kd.C k57 w aw af.length af) (aD : af.length ≤ ay) (aH : Kd.C k60 w ax ag.length ag) (aE : ag.length ≤ az) (a7 : Kd.C (Kd.int .i64) w A1 l1.length l1) (a6 : l1.length ≤ c1) (h : r22_Enabled.f k ai af ag l1 = some r) :
  Calls Try.prog 16 #[.agg #[.string ai, .slice aw af.length ay, .slice ax ag.length az], .slice A1 l1.length c1] w fun e w' => ∃ v0_ : Value, e = .returned (v0_) ∧ Kd.R (Kd.int .i64) 3 w' w.heap.size (fun _ => True) v0_ r ∧ Below w.heap.size w w' := by
 have a8 := Try.underlying25
 have ar := am aG
 have ap := am aD
 clear aG aD
 have au := am aH
 have aq := am aE
 clear aH aE
 have aX := am a7
 have aV := am a6
 clear a7 a6
 have HB := am (Below.refl w.heap.size w)
 have H := h
 unfold r22_Enabled.f at H
 clear h
 have H' := am H
 clear H
 go_enter Try.func16, Try.ntmps16
 go_wp2_with (first | ((with_reducible refine gate_dst (N := 2) rfl ?_); refine box_ev ?_; intro aC hg w3 hbox hb; have aa := am hbox; have aK := gwl hg; have a4 := aK; replace HB := bsl hb; clear hb hbox hg))
 go_loopg [5, 6] k (fun kq v5 v6 w' => ∃ (ak : List Int) (aj : Int), v6 = .int .i64 aj ∧ Aside0 (r22_Enabled.l0 kq l1 ak aj ai af ag = some r) ∧ Aside0 (kq ≤ k) ∧ Aside0 (Kd.R (Kd.int .i64) 3 w' w.heap.size (fun _ => True) v5 ak) ∧ Aside0 (w'.heap[aC]? = some (.cells #[.string ai, (.slice aw af.length ay), (.slice ax ag.length az)] 25 (0, 0))) ∧ Aside0 (Below w.heap.size w w'))
 case atStart => exact ⟨(([] : List Int)), (0), prs, H', ⟨Nat.le_refl _⟩, ⟨knl⟩, ⟨pbk aa.1⟩, ⟨pbg⟩⟩
 clear H'
 try clear c1
 obtain ⟨ak, aj, rfl, HA, aJ, ah, aa, HB⟩ := hrel
 obtain _ | k1 := gk
 ·exact absurd HA.1 (by simp [r22_Enabled.l0])
 have H := HA.1
 clear HA
 simp only [r22_Enabled.l0] at H
 have aW := am H
 clear H
 go_upto_region 3 with (fail)
 go_cut [16] (fun a9 wc => ∃ (kq : Nat) (al : Bool), a9 = .bool al ∧ Aside0 (r22_Enabled.j1 kq l1 ak aj al ai af ag = some r) ∧ Aside0 (kq ≤ k1) ∧ Aside0 (Kd.R (Kd.int .i64) 3 wc w.heap.size (fun _ => True) u5 ak) ∧ Aside0 (wc.heap[aC]? = some (.cells #[.string ai, (.slice aw af.length ay), (.slice ax ag.length az)] 25 (0, 0))) ∧ Aside0 (Below w.heap.size w wc))
 case first =>
  have H := aW.1
  clear aW
  replace H := ifl H
  rcases H with ⟨ao, H⟩ | ⟨ao, H⟩
  rotate_left
  ·(first | rw [ao] | (simp only [i64_w, i32_w]; rw [ao]) | skip)
   have H' := am H
   clear H
   have z9 := cf3 aa.1
   go_wp2
   go_meet
   case rel => exact ⟨_, (false), prs, H', ⟨by have := aJ.1; first | omega | exact Nat.le_refl _⟩, ⟨pkr ah.1⟩, ⟨pbk aa.1⟩, ⟨pbg⟩⟩
  (first | rw [ao] | (simp only [i64_w, i32_w]; rw [ao]) | skip)
  replace H := bnd H
  obtain ⟨aA, A6, H⟩ := H
  (try dsimp only at H)
  have H' := am H
  clear H
  have z7 := cf3 aa.1
  go_wp2_with (first | (go_at_call 39; (with_reducible refine (r22_fits.calls k1 ai _ _ af _ _ ag _ _ l1 aA _ ?side1 ?side2 ?side3 ?side4 ?side5 ?side6 A6.1).mono ?_); (case side1 => exact csb ar HB); (case side2 => exact ap.1); (case side3 => exact csb au HB); (case side4 => exact aq.1); (case side5 => exact csb aX HB); (case side6 => exact aV.1); rintro e w8 ⟨rfl, hb⟩; replace ah := rbw ah hb; replace aa := bbh aa hb; replace HB := bst hb; (try clear hb)))
  go_meet
  case rel => exact ⟨_, (aA), prs, H', ⟨by have := aJ.1; first | omega | exact Nat.le_refl _⟩, ⟨pkr ah.1⟩, ⟨pbk aa.1⟩, ⟨pbg⟩⟩
 clear aW
 try clear c1 c5 ao z7 z9
 obtain ⟨kq, al, rfl, HA, aU, ah, aa, HB⟩ := hcut
 obtain _ | aR := kq
 ·exact absurd HA.1 (by simp [r22_Enabled.j1])
 have H := HA.1
 clear HA
 simp only [r22_Enabled.j1] at H
 cases al
 ·rw [if_neg Bool.false_ne_true] at H
  obtain rfl := Option.some.inj H
  go_wp2
  go_ret
  exact ⟨_, per, by (with_reducible repeat (first | apply Kd.R_alloc | apply Kd.R_drewN | apply Kd.R_drew)); exact ah.1, pbg⟩
 rw [if_pos rfl] at H
 replace H := bnd H
 obtain ⟨aI, A11, H⟩ := H
 (try dsimp only at H)
 cases aI
 ·rw [if_neg Bool.false_ne_true] at H
  have H' := am H
  clear H
  have bh := cf3 aa.1
  go_wp2_with (first | ((with_reducible refine gate_callee (f := 40) rfl ?_); refine gC 22 Try.func40 _ (r22_can.calls aR ai _ _ af _ _ ag _ _ l1 aj false _ (csb ar HB) ap.1 (csb au HB) aq.1 (csb aX HB) aV.1 A11.1) ?_; rintro e bf ⟨rfl, hb⟩; refine ⟨_, rfl, ?_⟩; replace ah := rbw ah hb; replace aa := bbh aa hb; replace HB := bst hb; (try clear hb)))
  go_roundg aR
  case measure => have := aJ.1; have := aU.1; omega
  case rel => exact ⟨(ak), (wrap64 (aj + 1)), prs, H', ⟨by have := aJ.1; have := aU.1; omega⟩, ⟨pkr ah.1⟩, ⟨pbk aa.1⟩, ⟨pbg⟩⟩
 rw [if_pos rfl] at H
 replace H := ifp H
 obtain ⟨a5, H⟩ := H
 have aN := am a5
 clear a5
 obtain ⟨aT, av⟩ : ∃ y_ : List Int, y_ = (ak ++ [aj]) := ⟨_, rfl⟩
 replace H : (r22_Enabled.l0 aR l1 aT (wrap64 (aj + 1)) ai af ag) = some r := hrp av H
 have aQ := am av
 clear av
 have H' := am H
 clear H
 have bg := cf3 aa.1
 go_wp2_with (first | ((with_reducible refine gate_callee (f := 40) rfl ?_); refine gC 22 Try.func40 _ (r22_can.calls aR ai _ _ af _ _ ag _ _ l1 aj true _ (csb ar HB) ap.1 (csb au HB) aq.1 (csb aX HB) aV.1 A11.1) ?_; rintro e bc ⟨rfl, hb⟩; refine ⟨_, rfl, ?_⟩; replace ah := rbw ah hb; replace aa := bbh aa hb; replace HB := bst hb; (try clear hb)) | ((with_reducible refine gate_builtin (b := .append) (xs := #[.tmp 23, .tmp 25]) rfl ?_); at_builtin; refine Kd.R_append (Kd.int .i64) (w0 := w) w.heap.size rfl (.tmp 23) (.tmp 25) 26 3 (.int .i64 0) 8 rfl Try.underlying26 info3 rfl (by decide) (by omega) u5 ak aj [.int .i64 aj] (fun _ => True) (fun _ => False) rfl rfl ?aP (fun _ hk => hk.elim) ?aF ?aO ?aB ?aS ?aL ?_; (case aP => exact rfl); (case aB => exact pbg); (case aF => exact (fun _ _ => trivial)); (case aO => exact (pkr ah.1)); (case aS => exact (below_size pbg)); (case aL => have := aN.1; omega); intro ba bd ho hb hg hat; rw [← aQ.1] at ho; have aM := am ho; replace aa := (bgr aa hg (Kd.R_ne ah.1 aa.1 (by decide))); replace HB := am hb; clear ah; clear ho hb hg hat))
 go_roundg aR
 case measure => have := aJ.1; have := aU.1; omega
 case rel => exact ⟨(aT), (wrap64 (aj + 1)), prs, H', ⟨by have := aJ.1; have := aU.1; omega⟩, ⟨pkr aM.1⟩, ⟨pbk aa.1⟩, ⟨pbg⟩⟩

end Go.Proofs.Yteknagfpiadaiaa.P
