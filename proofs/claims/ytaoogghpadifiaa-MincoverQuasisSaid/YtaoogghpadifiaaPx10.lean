-- LAID BY OUR PROGRAM OVER THE PRINT (xprint.py, part.py): Lean checks it.
import Derived.Test.YtaoogghpadifiaaPx0
import Derived.Test.YtaoogghpadifiaaPx3
import Derived.Test.YtaoogghpadifiaaPx9
namespace Go.Proofs.Ytaoogghpadifiaa.P
open Go.RowKit Go.Proofs.YtaoogghpadifiaaW.PrintWords Go.Proofs.YtaoogghpadifiaaW.PrintLast Go.Proofs.YtaoogghpadifiaaW.PrintMore
attribute [local go_sem] max2_int min2_int max_two min_two max_three min_three max_four min_four   -- for this text's walks alone
set_option linter.unusedVariables false
set_option linter.unusedSimpArgs false

/-! ### r09_Plain: function 74 -/
mutual
def r09_Plain.l0 : Nat → Int → ByteArray → List (S64) → List (S38) → Option (Bool)
 | 0, _, _, _, _ => none
 | k + 1, x3, ak, ae, ac => if x3 < (ae.length : Int) then (if 0 ≤ x3 then (if ((rd_T64 ae x3).f2) = 0 then (r09_Plain.l0 k (wrap64 (x3 + 1)) ak ae ac) else (some false)) else (none)) else (r09_Plain.l1 k 0 ak ae ac)
def r09_Plain.l1 : Nat → Int → ByteArray → List (S64) → List (S38) → Option (Bool)
 | 0, _, _, _, _ => none
 | k + 1, x4, ak, ae, ac => if x4 < (ac.length : Int) then (if 0 ≤ x4 then (if (((rd_T38 ac x4).f3).length : Int) > 0 then (some false) else (if ((rd_T38 ac x4).f4) = 0 then (r09_Plain.l1 k (wrap64 (x4 + 1)) ak ae ac) else (some false))) else (none)) else (some true)
end
def r09_Plain.f (k : Nat) (ao : ByteArray) (af : List (S64)) (ab : List (S38)) : Option (Bool) := (r09_Valid.f k ao af ab).bind fun bm => (if bm = true then (r09_Plain.l0 k 0 ao af ab) else (some false))
theorem r09_Plain.mono_l : ∀ k, M4 r09_Plain.l0 k ∧ M4 r09_Plain.l1 k
 | 0 => ⟨fun _ _ _ _ r h => by simp [r09_Plain.l0] at h, fun _ _ _ _ r h => by simp [r09_Plain.l1] at h⟩
 | k + 1 => by
  obtain ⟨bG, bH⟩ := r09_Plain.mono_l k
  refine ⟨?_, ?_⟩ <;> dsimp only [M4] <;> intros <;> (first | unfold r09_Plain.l0 | unfold r09_Plain.l1) <;> repeat' first | (with_reducible first | apply bG | apply bH | apply r09_Valid.mono | apply lr | apply ln | apply li | refine lb ?_ fun _ => ?_)
theorem r09_Plain.mono : ∀ a0 a1 a2 k, LeO (r09_Plain.f k a0 a1 a2) (r09_Plain.f (k + 1) a0 a1 a2) := by
 intro a0 a1 a2 k
 obtain ⟨bG, bH⟩ := r09_Plain.mono_l k
 unfold r09_Plain.f
 repeat' first | (with_reducible first | apply bG | apply bH | apply r09_Valid.mono | apply lr | apply ln | apply li | refine lb ?_ fun _ => ?_)
set_option maxHeartbeats 8000000 in
set_option maxRecDepth 100000 in
theorem r09_Plain.calls (k : Nat) (ao : ByteArray) (aS : Option Addr) (a3 : Nat) (af : List (S64)) (aT : Option Addr) (a4 : Nat) (ab : List (S38)) (r : Bool) (w : World) (bb : Kd.C k64 w aS af.length af) (a9 : af.length ≤ a3) (bc : Kd.C k38 w aT ab.length ab) (ba : ab.length ≤ a4) (h : r09_Plain.f k ao af ab = some r) :
  Calls Try.prog 74 #[.agg #[.string ao, .slice aS af.length a3, .slice aT ab.length a4]] w fun e w' => e = .returned (.bool r) ∧ Below w.heap.size w w' := by
 have bR := Try.underlying25
 have ax := am bb
 have a7 := am a9
 clear bb a9
 have al := am bc
 have a8 := am ba
 clear bc ba
 have HB := am (Below.refl w.heap.size w)
 have H := h
 unfold r09_Plain.f at H
 clear h
 replace H := bnd H
 obtain ⟨bm, A2, H⟩ := H
 (try dsimp only at H)
 cases bm
 ·rw [if_neg Bool.false_ne_true] at H
  obtain rfl := Option.some.inj H
  go_enter Try.func74, Try.ntmps74
  go_wp2_with (first | ((with_reducible refine gate_dst (N := 1) rfl ?_); refine box_ev ?_; intro aR hg bX hbox hb; have aa := am hbox; have aL := gwl hg; have bo := aL; replace HB := bsl hb; clear hb hbox hg; have bW := cf3 aa.1) | ((with_reducible refine gate_callee (f := 12) rfl ?_); refine gC 6 Try.func12 _ (r09_Valid.calls k ao _ _ af _ _ ab false _ (csb ax HB) a7.1 (csb al HB) a8.1 A2.1) ?_; rintro e bY ⟨rfl, hb⟩; refine ⟨_, rfl, ?_⟩; replace aa := bbh aa hb; replace HB := bst hb; (try clear hb)))
  go_ret
  exact ⟨per, pbg⟩
 rw [if_pos rfl] at H
 have H' := am H
 clear H
 go_enter Try.func74, Try.ntmps74
 go_wp2_with (first | ((with_reducible refine gate_dst (N := 1) rfl ?_); refine box_ev ?_; intro aR hg w4 hbox hb; have aa := am hbox; have aL := gwl hg; have bo := aL; replace HB := bsl hb; clear hb hbox hg; have bQ := cf3 aa.1) | ((with_reducible refine gate_callee (f := 12) rfl ?_); refine gC 6 Try.func12 _ (r09_Valid.calls k ao _ _ af _ _ ab true _ (csb ax HB) a7.1 (csb al HB) a8.1 A2.1) ?_; rintro e w6 ⟨rfl, hb⟩; refine ⟨_, rfl, ?_⟩; replace aa := bbh aa hb; replace HB := bst hb; (try clear hb)))
 go_loopg [3] k (fun kq v3 w' => ∃ (aH : Int), v3 = .int .i64 aH ∧ Aside0 (r09_Plain.l0 kq aH ao af ab = some r) ∧ Aside0 (kq ≤ k) ∧ Aside0 (w'.heap[aR]? = some (.cells #[.string ao, (.slice aS af.length a3), (.slice aT ab.length a4)] 25 (0, 0))) ∧ Aside0 (Below w.heap.size w w'))
 case atStart => exact ⟨(0), prs, H', ⟨Nat.le_refl _⟩, ⟨pbk aa.1⟩, ⟨pbg⟩⟩
 clear H'
 try clear bQ
 obtain ⟨aH, rfl, HA, bE, aa, HB⟩ := hrel
 obtain _ | k1 := gk
 ·exact absurd HA.1 (by simp [r09_Plain.l0])
 have H := HA.1
 clear HA
 simp only [r09_Plain.l0] at H
 replace H := ifl H
 rcases H with ⟨bw, H⟩ | ⟨bw, H⟩
 ·replace H := ifp H
  obtain ⟨c8, H⟩ := H
  have bF := decide_eq_true c8
  clear c8
  replace H := ife H
  rcases H with ⟨bx, bz, H⟩ | ⟨bx, bz, H⟩
  rotate_left
  ·obtain rfl := Option.some.inj H
   have bL := cf3 aa.1
   obtain ⟨bA, bC, bp, bk, aC, aD, aE⟩ := bT64 ax.1 HB.1 aH
   cases bk
   go_wp2
   go_ret
   exact ⟨per, pbg⟩
  have H' := am H
  clear H
  have bK := cf3 aa.1
  obtain ⟨bA, bC, bp, bk, aC, aD, aE⟩ := bT64 ax.1 HB.1 aH
  cases bk
  go_wp2
  go_roundg k1
  case measure => have := bE.1; omega
  case rel => exact ⟨(wrap64 (aH + 1)), prs, H', ⟨by have := bE.1; omega⟩, ⟨pbk aa.1⟩, ⟨pbg⟩⟩
 have H' := am H
 clear H
 have bM := cf3 aa.1
 go_wp2
 go_loopg [4] k1 (fun kq v4 w' => ∃ (ag : Int), v4 = .int .i64 ag ∧ Aside0 (r09_Plain.l1 kq ag ao af ab = some r) ∧ Aside0 (kq ≤ k1) ∧ Aside0 (w'.heap[aR]? = some (.cells #[.string ao, (.slice aS af.length a3), (.slice aT ab.length a4)] 25 (0, 0))) ∧ Aside0 (Below w.heap.size w w'))
 case atStart => exact ⟨(0), prs, H', ⟨Nat.le_refl _⟩, ⟨pbk aa.1⟩, ⟨pbg⟩⟩
 clear H'
 try clear c3 bw c8 bF c9 bx bz bK bL bM bQ aC aD aE bA bC
 obtain ⟨ag, rfl, HA, bN, aa, HB⟩ := hrel
 obtain _ | k2 := gk
 ·exact absurd HA.1 (by simp [r09_Plain.l1])
 have H := HA.1
 clear HA
 simp only [r09_Plain.l1] at H
 replace H := ifl H
 rcases H with ⟨bq, H⟩ | ⟨bq, H⟩
 rotate_left
 ·obtain rfl := Option.some.inj H
  have bV := cf3 aa.1
  go_wp2
  go_ret
  exact ⟨per, pbg⟩
 replace H := ifp H
 obtain ⟨bO, H⟩ := H
 have bP := decide_eq_true bO
 clear bO
 by_cases bn : (((rd_T38 ab ag).f3).length : Int) > 0
 ·rw [if_pos bn] at H
  have br : decide (0 < (((rd_T38 ab ag).f3).length : Int)) = true := decide_eq_true bn
  have bs : decide (0 < ((rd_T38 ab ag).f3).length) = true := decide_eq_true (by omega)
  clear bn
  obtain rfl := Option.some.inj H
  have bS := cf3 aa.1
  obtain ⟨bB, bD, aB, aI, aN, aJ, aO, aK, aP, aQ, aF, ah, ai, aj, aG, au, ay, av, az, aw, aA⟩ := bT38 al.1 HB.1 ag
  cases aQ
  go_wp2
  go_ret
  exact ⟨per, pbg⟩
 rw [if_neg bn] at H
 have br : decide (0 < (((rd_T38 ab ag).f3).length : Int)) = false := decide_eq_false bn
 have bs : decide (0 < ((rd_T38 ab ag).f3).length) = false := decide_eq_false (by omega)
 clear bn
 replace H := ife H
 rcases H with ⟨bu, bv, H⟩ | ⟨bu, bv, H⟩
 rotate_left
 ·obtain rfl := Option.some.inj H
  have bU := cf3 aa.1
  obtain ⟨bB, bD, aB, aI, aN, aJ, aO, aK, aP, aQ, aF, ah, ai, aj, aG, au, ay, av, az, aw, aA⟩ := bT38 al.1 HB.1 ag
  cases aQ
  obtain ⟨bI, bJ, aM, bd, bh, bf, bi, bg, bj, bl, a5, ap, aq, ar, a6, aU, aX, aV, aY, aW, aZ⟩ := bT38 al.1 HB.1 ag
  obtain rfl : aB = aM := (by injection bl)
  have ea_ := Option.some.inj (ah.symm.trans ap)
  injection ea_ with ea_ en_ ec_
  subst ea_
  subst ec_
  clear en_
  have ea_ := Option.some.inj (ai.symm.trans aq)
  injection ea_ with ea_ en_ ec_
  subst ea_
  subst ec_
  clear en_
  have ea_ := Option.some.inj (aj.symm.trans ar)
  injection ea_ with ea_ en_ ec_
  subst ea_
  subst ec_
  clear en_
  go_wp2
  go_ret
  exact ⟨per, pbg⟩
 have H' := am H
 clear H
 have bT := cf3 aa.1
 obtain ⟨bB, bD, aB, aI, aN, aJ, aO, aK, aP, aQ, aF, ah, ai, aj, aG, au, ay, av, az, aw, aA⟩ := bT38 al.1 HB.1 ag
 cases aQ
 obtain ⟨bI, bJ, aM, bd, bh, bf, bi, bg, bj, bl, a5, ap, aq, ar, a6, aU, aX, aV, aY, aW, aZ⟩ := bT38 al.1 HB.1 ag
 obtain rfl : aB = aM := (by injection bl)
 have ea_ := Option.some.inj (ah.symm.trans ap)
 injection ea_ with ea_ en_ ec_
 subst ea_
 subst ec_
 clear en_
 have ea_ := Option.some.inj (ai.symm.trans aq)
 injection ea_ with ea_ en_ ec_
 subst ea_
 subst ec_
 clear en_
 have ea_ := Option.some.inj (aj.symm.trans ar)
 injection ea_ with ea_ en_ ec_
 subst ea_
 subst ec_
 clear en_
 go_wp2
 go_roundg k2
 case measure => have := bE.1; have := bN.1; omega
 case rel => exact ⟨(wrap64 (ag + 1)), prs, H', ⟨by have := bE.1; have := bN.1; omega⟩, ⟨pbk aa.1⟩, ⟨pbg⟩⟩

/-! ### r22_fits: function 84 -/
def r22_fits.f (k : Nat) (ae : ByteArray) (ab : List (S64)) (ac : List (S38)) (l1 : List Int) : Option (Bool) := (r09_Valid.f k ae ab ac).bind fun au => (if au = true then ((r09_Plain.f k ae ab ac).bind fun av => (if av = true then ((r05_Valid.f k l1 (ab.length : Int)).bind fun aw => (some aw)) else (some false))) else (some false))
theorem r22_fits.mono : ∀ a0 a1 a2 a3 k, LeO (r22_fits.f k a0 a1 a2 a3) (r22_fits.f (k + 1) a0 a1 a2 a3) := by
 intro a0 a1 a2 a3 k
 unfold r22_fits.f
 repeat' first | (with_reducible first | apply r05_Valid.mono | apply r09_Plain.mono | apply r09_Valid.mono | apply lr | apply ln | apply li | refine lb ?_ fun _ => ?_)
set_option maxHeartbeats 8000000 in
set_option maxRecDepth 100000 in
theorem r22_fits.calls (k : Nat) (ae : ByteArray) (ax : Option Addr) (az : Nat) (ab : List (S64)) (ay : Option Addr) (aA : Nat) (ac : List (S38)) (A1 : Option Addr) (c1 : Nat) (l1 : List Int) (r : Bool) (w : World) (aq : Kd.C k64 w ax ab.length ab) (ao : ab.length ≤ az) (ar : Kd.C k38 w ay ac.length ac) (ap : ac.length ≤ aA) (hr1 : Kd.C (Kd.int .i64) w A1 l1.length l1) (aB : l1.length ≤ c1) (h : r22_fits.f k ae ab ac l1 = some r) :
  Calls Try.prog 84 #[.agg #[.string ae, .slice ax ab.length az, .slice ay ac.length aA], .slice A1 l1.length c1] w fun e w' => e = .returned (.bool r) ∧ Below w.heap.size w w' := by
 have aE := Try.underlying25
 have ai := am aq
 have ag := am ao
 clear aq ao
 have aj := am ar
 have ah := am ap
 clear ar ap
 have aD := am hr1
 have aC := am aB
 clear hr1 aB
 have HB := am (Below.refl w.heap.size w)
 have H := h
 unfold r22_fits.f at H
 clear h
 replace H := bnd H
 obtain ⟨au, A3, H⟩ := H
 (try dsimp only at H)
 cases au
 ·rw [if_neg Bool.false_ne_true] at H
  obtain rfl := Option.some.inj H
  go_enter Try.func84, Try.ntmps84
  go_wp2_with (first | ((with_reducible refine gate_dst (N := 2) rfl ?_); (try (refine gate_guard (by rfl) ?_; dsimp only)); refine box_ev ?_; intro al hg aP hbox hb; have aa := am hbox; have af := gwl hg; have ak := af; replace HB := bsl hb; clear hb hbox hg; have aJ := cf3 aa.1) | ((with_reducible refine gate_callee (f := 12) rfl ?_); refine gC 6 Try.func12 _ (r09_Valid.calls k ae _ _ ab _ _ ac false _ (csb ai HB) ag.1 (csb aj HB) ah.1 A3.1) ?_; rintro e aQ ⟨rfl, hb⟩; refine ⟨_, rfl, ?_⟩; replace aa := bbh aa hb; replace HB := bst hb; (try clear hb)))
  go_ret
  exact ⟨per, pbg⟩
 rw [if_pos rfl] at H
 replace H := bnd H
 obtain ⟨av, A5, H⟩ := H
 (try dsimp only at H)
 cases av
 ·rw [if_neg Bool.false_ne_true] at H
  obtain rfl := Option.some.inj H
  go_enter Try.func84, Try.ntmps84
  go_wp2_with (first | ((with_reducible refine gate_dst (N := 2) rfl ?_); (try (refine gate_guard (by rfl) ?_; dsimp only)); refine box_ev ?_; intro al hg aM hbox hb; have aa := am hbox; have af := gwl hg; have ak := af; replace HB := bsl hb; clear hb hbox hg; have aH := cf3 aa.1) | ((with_reducible refine gate_callee (f := 12) rfl ?_); refine gC 6 Try.func12 _ (r09_Valid.calls k ae _ _ ab _ _ ac true _ (csb ai HB) ag.1 (csb aj HB) ah.1 A3.1) ?_; rintro e aN ⟨rfl, hb⟩; refine ⟨_, rfl, ?_⟩; replace aa := bbh aa hb; replace HB := bst hb; (try clear hb); have aI := cf3 aa.1) | (go_at_call 74; (with_reducible refine (r09_Plain.calls k ae _ _ ab _ _ ac false _ ?side1 ?side2 ?side3 ?side4 A5.1).mono ?_); (case side1 => exact csb ai HB); (case side2 => exact ag.1); (case side3 => exact csb aj HB); (case side4 => exact ah.1); rintro e aO ⟨rfl, hb⟩; replace aa := bbh aa hb; replace HB := bst hb; (try clear hb)))
  go_ret
  exact ⟨per, pbg⟩
 rw [if_pos rfl] at H
 replace H := bnd H
 obtain ⟨aw, A7, H⟩ := H
 (try dsimp only at H)
 obtain rfl := Option.some.inj H
 go_enter Try.func84, Try.ntmps84
 go_wp2_with (first | ((with_reducible refine gate_dst (N := 2) rfl ?_); (try (refine gate_guard (by rfl) ?_; dsimp only)); refine box_ev ?_; intro al hg w8 hbox hb; have aa := am hbox; have af := gwl hg; have ak := af; replace HB := bsl hb; clear hb hbox hg; have aR := cf3 aa.1) | ((with_reducible refine gate_callee (f := 12) rfl ?_); refine gC 6 Try.func12 _ (r09_Valid.calls k ae _ _ ab _ _ ac true _ (csb ai HB) ag.1 (csb aj HB) ah.1 A3.1) ?_; rintro e aK ⟨rfl, hb⟩; refine ⟨_, rfl, ?_⟩; replace aa := bbh aa hb; replace HB := bst hb; (try clear hb); have aF := cf3 aa.1) | (go_at_call 74; (with_reducible refine (r09_Plain.calls k ae _ _ ab _ _ ac true _ ?side1 ?side2 ?side3 ?side4 A5.1).mono ?_); (case side1 => exact csb ai HB); (case side2 => exact ag.1); (case side3 => exact csb aj HB); (case side4 => exact ah.1); rintro e aL ⟨rfl, hb⟩; replace aa := bbh aa hb; replace HB := bst hb; (try clear hb); have aG := cf3 aa.1) | (go_at_call 81; (with_reducible refine (r05_Valid.calls k _ _ l1 (ab.length : Int) aw _ ?side1 ?side2 A7.1).mono ?_); (case side1 => exact csb aD HB); (case side2 => exact aC.1); rintro e w' ⟨rfl, ⟨nd, rfl⟩⟩))
 go_ret
 exact ⟨per, pbg⟩

/-! ### r09_Weight: function 102 -/
def r09_Weight.l0 : Nat → List (S68) → Int → Int → Option (Int)
 | 0, _, _, _ => none
 | k + 1, x0, x1, x5 => if x5 < (x0.length : Int) then (if 0 ≤ x5 then (if ((rd_T68 x0 x5).f0) = x1 then (some ((rd_T68 x0 x5).f1)) else (r09_Weight.l0 k x0 x1 (wrap64 (x5 + 1)))) else (none)) else (some 0)
def r09_Weight.f (k : Nat) (l0 : List (S68)) (a1 : Int) : Option (Int) := r09_Weight.l0 k l0 a1 0
theorem r09_Weight.mono_l : ∀ k, M3 r09_Weight.l0 k
 | 0 => fun _ _ _ r h => by simp [r09_Weight.l0] at h
 | k + 1 => by
  have aq := r09_Weight.mono_l k
  ·intro y0 y1 y2
   unfold r09_Weight.l0
   repeat' first | (with_reducible first | apply aq | apply lr | apply ln | apply li | refine lb ?_ fun _ => ?_)
theorem r09_Weight.mono : ∀ a0 a1 k, LeO (r09_Weight.f k a0 a1) (r09_Weight.f (k + 1) a0 a1) := by
 intro a0 a1 k
 have aq := r09_Weight.mono_l k
 unfold r09_Weight.f
 repeat' first | (with_reducible first | apply aq | apply lr | apply ln | apply li | refine lb ?_ fun _ => ?_)
set_option maxHeartbeats 8000000 in
set_option maxRecDepth 100000 in
theorem r09_Weight.calls (k : Nat) (A0 : Option Addr) (c0 : Nat) (l0 : List (S68)) (a1 : Int) (r : Int) (w : World) (aw : Kd.C k68 w A0 l0.length l0) (hc0 : l0.length ≤ c0) (h : r09_Weight.f k l0 a1 = some r) :
  Calls Try.prog 102 #[.slice A0 l0.length c0, .int .i64 a1] w fun e w' => e = .returned (.int .i64 r) ∧ Drawn0 w w' := by
 have aj := am aw
 have aA := am hc0
 clear aw hc0
 have H : (r09_Weight.l0 k l0 a1 0) = some r := h
 clear h
 have H' := am H
 clear H
 go_enter Try.func102, Try.ntmps102
 go_wp2
 go_loopg [5] k (fun kq v5 w' => ∃ (aa : Int), v5 = .int .i64 aa ∧ Aside0 (r09_Weight.l0 kq l0 a1 aa = some r) ∧ Aside0 (kq ≤ k) ∧ Drawn0 w w')
 case atStart => exact ⟨(0), prs, H', ⟨Nat.le_refl _⟩, pdr⟩
 clear H'
 obtain ⟨aa, rfl, HA, av, ⟨m1, rfl⟩⟩ := hrel
 obtain _ | k1 := gk
 ·exact absurd HA.1 (by simp [r09_Weight.l0])
 have H := HA.1
 clear HA
 simp only [r09_Weight.l0] at H
 replace H := ifl H
 rcases H with ⟨ak, H⟩ | ⟨ak, H⟩
 rotate_left
 ·obtain rfl := Option.some.inj H
  go_wp2
  go_ret
  exact ⟨prs, pdr⟩
 replace H := ifp H
 obtain ⟨c4, H⟩ := H
 have ax := decide_eq_true c4
 clear c4
 replace H := ife H
 rcases H with ⟨al, ao, H⟩ | ⟨al, ao, H⟩
 rotate_left
 ·have H' := am H
  clear H
  obtain ⟨ar, au, ae, af, ab, ac⟩ := dT68 aj.1 aa
  cases af
  go_wp2
  go_roundg k1
  case measure => have := av.1; omega
  case rel => exact ⟨(wrap64 (aa + 1)), prs, H', ⟨by have := av.1; omega⟩, pdr⟩
 obtain rfl := Option.some.inj H
 obtain ⟨ar, au, ae, af, ab, ac⟩ := dT68 aj.1 aa
 cases af
 obtain ⟨ay, az, ag, ap, ah, ai⟩ := dT68 aj.1 aa
 obtain rfl : ae = ag := (by injection ap)
 go_wp2
 go_ret
 exact ⟨prs, pdr⟩

/-! ### r22_can: function 85 -/
def r22_can.l0 : Nat → List Int → Int → Int → ByteArray → List (S64) → List (S38) → Option (Bool)
 | 0, _, _, _, _, _, _ => none
 | k + 1, x1, x2, x7, ak, al, af => if x7 < (x1.length : Int) then (if 0 ≤ x7 then (if (rd x1 x7) = (-1) then (r22_can.l0 k x1 x2 (wrap64 (x7 + 1)) ak al af) else (if 0 ≤ x2 then (if x2 < (af.length : Int) then ((r09_Weight.f k ((rd_T38 af x2).f1) x7).bind fun ap => (if (rd x1 x7) < ap then (some false) else (r22_can.l0 k x1 x2 (wrap64 (x7 + 1)) ak al af))) else (none)) else (none))) else (none)) else (some true)
def r22_can.f (k : Nat) (ao : ByteArray) (ah : List (S64)) (ae : List (S38)) (l1 : List Int) (a2 : Int) : Option (Bool) := r22_can.l0 k l1 a2 0 ao ah ae
theorem r22_can.mono_l : ∀ k, M6 r22_can.l0 k
 | 0 => fun _ _ _ _ _ _ r h => by simp [r22_can.l0] at h
 | k + 1 => by
  have bb := r22_can.mono_l k
  ·intro y0 y1 y2 y3 y4 y5
   unfold r22_can.l0
   repeat' first | (with_reducible first | apply bb | apply r09_Weight.mono | apply lr | apply ln | apply li | refine lb ?_ fun _ => ?_)
theorem r22_can.mono : ∀ a0 a1 a2 a3 a4 k, LeO (r22_can.f k a0 a1 a2 a3 a4) (r22_can.f (k + 1) a0 a1 a2 a3 a4) := by
 intro a0 a1 a2 a3 a4 k
 have bb := r22_can.mono_l k
 unfold r22_can.f
 repeat' first | (with_reducible first | apply bb | apply r09_Weight.mono | apply lr | apply ln | apply li | refine lb ?_ fun _ => ?_)
set_option maxHeartbeats 8000000 in
set_option maxRecDepth 100000 in
theorem r22_can.calls (k : Nat) (ao : ByteArray) (aJ : Option Addr) (aO : Nat) (ah : List (S64)) (aK : Option Addr) (aP : Nat) (ae : List (S38)) (A1 : Option Addr) (c1 : Nat) (l1 : List Int) (a2 : Int) (r : Bool) (w : World) (aH : Kd.C k64 w aJ ah.length ah) (aF : ah.length ≤ aO) (aI : Kd.C k38 w aK ae.length ae) (aG : ae.length ≤ aP) (hr1 : Kd.C (Kd.int .i64) w A1 l1.length l1) (bl : l1.length ≤ c1) (h : r22_can.f k ao ah ae l1 a2 = some r) :
  Calls Try.prog 85 #[.agg #[.string ao, .slice aJ ah.length aO, .slice aK ae.length aP], .slice A1 l1.length c1, .int .i64 a2] w fun e w' => e = .returned (.bool r) ∧ Below w.heap.size w w' := by
 have bp := Try.underlying25
 have bk := am aH
 have bi := am aF
 clear aH aF
 have aE := am aI
 have bj := am aG
 clear aI aG
 have aW := am hr1
 have bs := am bl
 clear hr1 bl
 have HB := am (Below.refl w.heap.size w)
 have H := h
 unfold r22_can.f at H
 clear h
 have H' := am H
 clear H
 go_enter Try.func85, Try.ntmps85
 iterate 4 (try go_wp2_with (first | ((with_reducible refine gate_dst (N := 3) rfl ?_); refine box_ev ?_; intro aZ hg w4 hbox hb; have ag := am hbox; have aV := gwl hg; have bh := aV; replace HB := bsl hb; clear hb hbox hg)); try go_quiet (fail))
 go_loopg [7] k (fun kq v7 w' => ∃ (ac : Int), v7 = .int .i64 ac ∧ Aside0 (r22_can.l0 kq l1 a2 ac ao ah ae = some r) ∧ Aside0 (kq ≤ k) ∧ Aside0 (w'.heap[aZ]? = some (.cells #[.string ao, (.slice aJ ah.length aO), (.slice aK ae.length aP)] 25 (0, 0))) ∧ Aside0 (Below w.heap.size w w'))
 case atStart => exact ⟨(0), prs, H', ⟨Nat.le_refl _⟩, ⟨pbk ag.1⟩, ⟨pbg⟩⟩
 clear H'
 try clear c1
 obtain ⟨ac, rfl, HA, a7, ag, HB⟩ := hrel
 obtain _ | k1 := gk
 ·exact absurd HA.1 (by simp [r22_can.l0])
 have H := HA.1
 clear HA
 simp only [r22_can.l0] at H
 replace H := ifl H
 rcases H with ⟨a8, H⟩ | ⟨a8, H⟩
 rotate_left
 ·obtain rfl := Option.some.inj H
  go_wp2
  repeat (go_quiet (fail); try go_wp2)
  go_ret
  exact ⟨per, pbg⟩
 replace H := ifp H
 obtain ⟨c6, H⟩ := H
 have bm := decide_eq_true c6
 clear c6
 replace H := ife H
 rcases H with ⟨a9, ba, H⟩ | ⟨a9, ba, H⟩
 ·have H' := am H
  clear H
  obtain ⟨a5, a6, ai, ar, aj⟩ := bint aW.1 HB.1 ac
  cases ar
  go_wp2
  repeat (go_quiet (fail); try go_wp2)
  go_roundg k1
  case measure => have := a7.1; omega
  case rel => exact ⟨(wrap64 (ac + 1)), prs, H', ⟨by have := a7.1; omega⟩, ⟨pbk ag.1⟩, ⟨pbg⟩⟩
 replace H := ifp H
 obtain ⟨c8, H⟩ := H
 have bn := decide_eq_true c8
 clear c8
 replace H := ifp H
 obtain ⟨c9, H⟩ := H
 have bo := decide_eq_true c9
 clear c9
 replace H := bnd H
 obtain ⟨ap, A10, H⟩ := H
 (try dsimp only at H)
 replace H := ifl H
 rcases H with ⟨aY, H⟩ | ⟨aY, H⟩
 ·obtain rfl := Option.some.inj H
  obtain ⟨a5, a6, ai, ar, aj⟩ := bint aW.1 HB.1 ac
  cases ar
  obtain ⟨bc, bf, aq, aT, ay⟩ := bint aW.1 HB.1 ac
  obtain rfl : ai = aq := (by injection aT)
  have bq := cf3 ag.1
  obtain ⟨bd, bg, aX, aL, aQ, aM, aR, aN, aS, aU, az, aA, aB, aC, aD, aa, ab, au, aw, av, ax⟩ := bT38 aE.1 HB.1 a2
  cases aU
  iterate 4 (try go_wp2_with (first | (go_at_call 102; (with_reducible refine (r09_Weight.calls k1 _ _ ((rd_T38 ae a2).f1) ac ap _ ?side1 ?side2 A10.1).mono ?_); (case side1 => exact csb ab HB); (case side2 => exact aa.1); rintro e w' ⟨rfl, ⟨nd, rfl⟩⟩; (try first | exact dw1 | exact dw2))); try go_quiet (first | (go_at_call 102; (with_reducible refine (r09_Weight.calls k1 _ _ ((rd_T38 ae a2).f1) ac ap _ ?side1 ?side2 A10.1).mono ?_); (case side1 => exact csb ab HB); (case side2 => exact aa.1); rintro e w' ⟨rfl, ⟨nd, rfl⟩⟩; (try first | exact dw1 | exact dw2))))
  go_ret
  exact ⟨per, pbg⟩
 have H' := am H
 clear H
 obtain ⟨a5, a6, ai, ar, aj⟩ := bint aW.1 HB.1 ac
 cases ar
 obtain ⟨bc, bf, aq, aT, ay⟩ := bint aW.1 HB.1 ac
 obtain rfl : ai = aq := (by injection aT)
 have br := cf3 ag.1
 obtain ⟨bd, bg, aX, aL, aQ, aM, aR, aN, aS, aU, az, aA, aB, aC, aD, aa, ab, au, aw, av, ax⟩ := bT38 aE.1 HB.1 a2
 cases aU
 iterate 4 (try go_wp2_with (first | (go_at_call 102; (with_reducible refine (r09_Weight.calls k1 _ _ ((rd_T38 ae a2).f1) ac ap _ ?side1 ?side2 A10.1).mono ?_); (case side1 => exact csb ab HB); (case side2 => exact aa.1); rintro e w' ⟨rfl, ⟨nd, rfl⟩⟩; (try first | exact dw1 | exact dw2))); try go_quiet (first | (go_at_call 102; (with_reducible refine (r09_Weight.calls k1 _ _ ((rd_T38 ae a2).f1) ac ap _ ?side1 ?side2 A10.1).mono ?_); (case side1 => exact csb ab HB); (case side2 => exact aa.1); rintro e w' ⟨rfl, ⟨nd, rfl⟩⟩; (try first | exact dw1 | exact dw2))))
 go_roundg k1
 case measure => have := a7.1; omega
 case rel => exact ⟨(wrap64 (ac + 1)), prs, H', ⟨by have := a7.1; omega⟩, ⟨pbk ag.1⟩, ⟨pbg⟩⟩

/-! ### r22_Enabled: function 49 -/
mutual
def r22_Enabled.l0 : Nat → List Int → List Int → Int → ByteArray → List (S64) → List (S38) → Option (List Int)
 | 0, _, _, _, _, _, _ => none
 | k + 1, x1, x5, x6, ac, ae, ab => if x6 < (ab.length : Int) then ((r22_fits.f k ac ae ab x1).bind fun aA => (r22_Enabled.j1 k x1 x5 x6 aA ac ae ab)) else (r22_Enabled.j1 k x1 x5 x6 false ac ae ab)
def r22_Enabled.j1 : Nat → List Int → List Int → Int → Bool → ByteArray → List (S64) → List (S38) → Option (List Int)
 | 0, _, _, _, _, _, _, _ => none
 | k + 1, x1, x5, x6, ba, ac, ae, ab => if ba = true then ((r22_can.f k ac ae ab x1 x6).bind fun aI => (if aI = true then (if x5.length < 17592186044416 then (r22_Enabled.l0 k x1 (x5 ++ [x6]) (wrap64 (x6 + 1)) ac ae ab) else (none)) else (r22_Enabled.l0 k x1 x5 (wrap64 (x6 + 1)) ac ae ab))) else (some x5)
end
def r22_Enabled.f (k : Nat) (ai : ByteArray) (af : List (S64)) (ag : List (S38)) (l1 : List Int) : Option (List Int) := r22_Enabled.l0 k l1 ([] : List Int) 0 ai af ag
theorem r22_Enabled.mono_l : ∀ k, M6 r22_Enabled.l0 k ∧ M7 r22_Enabled.j1 k
 | 0 => ⟨fun _ _ _ _ _ _ r h => by simp [r22_Enabled.l0] at h, fun _ _ _ _ _ _ _ r h => by simp [r22_Enabled.j1] at h⟩
 | k + 1 => by
  obtain ⟨aY, aZ⟩ := r22_Enabled.mono_l k
  refine ⟨?_, ?_⟩ <;> dsimp only [M6, M7] <;> intros <;> (first | unfold r22_Enabled.l0 | unfold r22_Enabled.j1) <;> repeat' first | (with_reducible first | apply aY | apply aZ | apply r22_can.mono | apply r22_fits.mono | apply lr | apply ln | apply li | refine lb ?_ fun _ => ?_)
theorem r22_Enabled.mono : ∀ a0 a1 a2 a3 k, LeO (r22_Enabled.f k a0 a1 a2 a3) (r22_Enabled.f (k + 1) a0 a1 a2 a3) := by
 intro a0 a1 a2 a3 k
 obtain ⟨aY, aZ⟩ := r22_Enabled.mono_l k
 unfold r22_Enabled.f
 repeat' first | (with_reducible first | apply aY | apply aZ | apply r22_can.mono | apply r22_fits.mono | apply lr | apply ln | apply li | refine lb ?_ fun _ => ?_)
set_option maxHeartbeats 8000000 in
set_option maxRecDepth 100000 in
theorem r22_Enabled.calls (k : Nat) (ai : ByteArray) (aw : Option Addr) (ay : Nat) (af : List (S64)) (ax : Option Addr) (az : Nat) (ag : List (S38)) (A1 : Option Addr) (c1 : Nat) (l1 : List Int) (r : List Int) (w : World) (aG : Kd.C k64 w aw af.length af) (aD : af.length ≤ ay) (aH : Kd.C k38 w ax ag.length ag) (aE : ag.length ≤ az) (hr1 : Kd.C (Kd.int .i64) w A1 l1.length l1) (a6 : l1.length ≤ c1) (h : r22_Enabled.f k ai af ag l1 = some r) :
  Calls Try.prog 49 #[.agg #[.string ai, .slice aw af.length ay, .slice ax ag.length az], .slice A1 l1.length c1] w fun e w' => ∃ v0_ : Value, e = .returned (v0_) ∧ Kd.R (Kd.int .i64) 3 w' w.heap.size (fun _ => True) v0_ r ∧ Below w.heap.size w w' := by
 have a7 := Try.underlying25
 have ar := am aG
 have ap := am aD
 clear aG aD
 have au := am aH
 have aq := am aE
 clear aH aE
 have aX := am hr1
 have aV := am a6
 clear hr1 a6
 have HB := am (Below.refl w.heap.size w)
 have H := h
 unfold r22_Enabled.f at H
 clear h
 have H' := am H
 clear H
 go_enter Try.func49, Try.ntmps49
 go_wp2_with (first | ((with_reducible refine gate_dst (N := 2) rfl ?_); refine box_ev ?_; intro aC hg w3 hbox hb; have aa := am hbox; have aK := gwl hg; have a4 := aK; replace HB := bsl hb; clear hb hbox hg))
 go_loopg [5, 6] k (fun kq v5 v6 w' => ∃ (ak : List Int) (aj : Int), v6 = .int .i64 aj ∧ Aside0 (r22_Enabled.l0 kq l1 ak aj ai af ag = some r) ∧ Aside0 (kq ≤ k) ∧ Aside0 (Kd.R (Kd.int .i64) 3 w' w.heap.size (fun _ => True) v5 ak) ∧ Aside0 (w'.heap[aC]? = some (.cells #[.string ai, (.slice aw af.length ay), (.slice ax ag.length az)] 25 (0, 0))) ∧ Aside0 (Below w.heap.size w w'))
 case atStart => exact ⟨(([] : List Int)), (0), prs, H', ⟨Nat.le_refl _⟩, ⟨knl⟩, ⟨pbk aa.1⟩, ⟨pbg⟩⟩
 clear H'
 try clear c1
 obtain ⟨ak, aj, rfl, HA, aJ, ah, aa, HB⟩ := hrel
 obtain _ | k1 := gk
 ·exact absurd HA.1 (by simp [r22_Enabled.l0])
 have H := HA.1
 clear HA
 simp only [r22_Enabled.l0] at H
 have aW := am H
 clear H
 go_upto_region 3 with (fail)
 go_cut [16] (fun a8 wc => ∃ (kq : Nat) (al : Bool), a8 = .bool al ∧ Aside0 (r22_Enabled.j1 kq l1 ak aj al ai af ag = some r) ∧ Aside0 (kq ≤ k1) ∧ Aside0 (Kd.R (Kd.int .i64) 3 wc w.heap.size (fun _ => True) u5 ak) ∧ Aside0 (wc.heap[aC]? = some (.cells #[.string ai, (.slice aw af.length ay), (.slice ax ag.length az)] 25 (0, 0))) ∧ Aside0 (Below w.heap.size w wc))
 case first =>
  have H := aW.1
  clear aW
  replace H := ifl H
  rcases H with ⟨ao, H⟩ | ⟨ao, H⟩
  rotate_left
  ·(first | rw [ao] | (simp only [i64_w, i32_w]; rw [ao]) | skip)
   have H' := am H
   clear H
   have bf := cf3 aa.1
   go_wp2
   go_meet
   case rel => exact ⟨_, (false), prs, H', ⟨by have := aJ.1; first | omega | exact Nat.le_refl _⟩, ⟨pkr ah.1⟩, ⟨pbk aa.1⟩, ⟨pbg⟩⟩
  (first | rw [ao] | (simp only [i64_w, i32_w]; rw [ao]) | skip)
  replace H := bnd H
  obtain ⟨aA, A6, H⟩ := H
  (try dsimp only at H)
  have H' := am H
  clear H
  have bd := cf3 aa.1
  go_wp2_with (first | (go_at_call 84; (with_reducible refine (r22_fits.calls k1 ai _ _ af _ _ ag _ _ l1 aA _ ?side1 ?side2 ?side3 ?side4 ?side5 ?side6 A6.1).mono ?_); (case side1 => exact csb ar HB); (case side2 => exact ap.1); (case side3 => exact csb au HB); (case side4 => exact aq.1); (case side5 => exact csb aX HB); (case side6 => exact aV.1); rintro e w8 ⟨rfl, hb⟩; replace ah := rbw ah hb; replace aa := bbh aa hb; replace HB := bst hb; (try clear hb)))
  go_meet
  case rel => exact ⟨_, (aA), prs, H', ⟨by have := aJ.1; first | omega | exact Nat.le_refl _⟩, ⟨pkr ah.1⟩, ⟨pbk aa.1⟩, ⟨pbg⟩⟩
 clear aW
 try clear c1 c5 ao bd bf
 obtain ⟨kq, al, rfl, HA, aU, ah, aa, HB⟩ := hcut
 obtain _ | aR := kq
 ·exact absurd HA.1 (by simp [r22_Enabled.j1])
 have H := HA.1
 clear HA
 simp only [r22_Enabled.j1] at H
 cases al
 ·rw [if_neg Bool.false_ne_true] at H
  obtain rfl := Option.some.inj H
  go_wp2
  go_ret
  exact ⟨_, per, by (with_reducible repeat (first | apply Kd.R_alloc | apply Kd.R_drewN | apply Kd.R_drew)); exact ah.1, pbg⟩
 rw [if_pos rfl] at H
 replace H := bnd H
 obtain ⟨aI, A11, H⟩ := H
 (try dsimp only at H)
 cases aI
 ·rw [if_neg Bool.false_ne_true] at H
  have H' := am H
  clear H
  have bc := cf3 aa.1
  go_wp2_with (first | ((with_reducible refine gate_callee (f := 85) rfl ?_); refine gC 22 Try.func85 _ (r22_can.calls aR ai _ _ af _ _ ag _ _ l1 aj false _ (csb ar HB) ap.1 (csb au HB) aq.1 (csb aX HB) aV.1 A11.1) ?_; rintro e bi ⟨rfl, hb⟩; refine ⟨_, rfl, ?_⟩; replace ah := rbw ah hb; replace aa := bbh aa hb; replace HB := bst hb; (try clear hb)))
  go_roundg aR
  case measure => have := aJ.1; have := aU.1; omega
  case rel => exact ⟨(ak), (wrap64 (aj + 1)), prs, H', ⟨by have := aJ.1; have := aU.1; omega⟩, ⟨pkr ah.1⟩, ⟨pbk aa.1⟩, ⟨pbg⟩⟩
 rw [if_pos rfl] at H
 replace H := ifp H
 obtain ⟨a5, H⟩ := H
 have aN := am a5
 clear a5
 obtain ⟨aT, av⟩ : ∃ y_ : List Int, y_ = (ak ++ [aj]) := ⟨_, rfl⟩
 replace H : (r22_Enabled.l0 aR l1 aT (wrap64 (aj + 1)) ai af ag) = some r := hrp av H
 have aQ := am av
 clear av
 have H' := am H
 clear H
 have bb := cf3 aa.1
 go_wp2_with (first | ((with_reducible refine gate_callee (f := 85) rfl ?_); refine gC 22 Try.func85 _ (r22_can.calls aR ai _ _ af _ _ ag _ _ l1 aj true _ (csb ar HB) ap.1 (csb au HB) aq.1 (csb aX HB) aV.1 A11.1) ?_; rintro e bg ⟨rfl, hb⟩; refine ⟨_, rfl, ?_⟩; replace ah := rbw ah hb; replace aa := bbh aa hb; replace HB := bst hb; (try clear hb)) | ((with_reducible refine gate_builtin (b := .append) (xs := #[.tmp 23, .tmp 25]) rfl ?_); at_builtin; refine Kd.R_append (Kd.int .i64) (w0 := w) w.heap.size rfl (.tmp 23) (.tmp 25) 39 3 (.int .i64 0) 8 rfl Try.underlying39 info3 rfl (by decide) (by omega) u5 ak aj [.int .i64 aj] (fun _ => True) (fun _ => False) rfl rfl ?aP (fun _ hk => hk.elim) ?aF ?aO ?aB ?aS ?aL ?_; (case aP => exact rfl); (case aB => exact pbg); (case aF => exact (fun _ _ => trivial)); (case aO => exact (pkr ah.1)); (case aS => exact (below_size pbg)); (case aL => have := aN.1; omega); intro a9 bh ho hb hg hat; rw [← aQ.1] at ho; have aM := am ho; replace aa := (bgr aa hg (Kd.R_ne ah.1 aa.1 (by decide))); replace HB := am hb; clear ah; clear ho hb hg hat))
 go_roundg aR
 case measure => have := aJ.1; have := aU.1; omega
 case rel => exact ⟨(aT), (wrap64 (aj + 1)), prs, H', ⟨by have := aJ.1; have := aU.1; omega⟩, ⟨pkr aM.1⟩, ⟨pbk aa.1⟩, ⟨pbg⟩⟩

end Go.Proofs.Ytaoogghpadifiaa.P
