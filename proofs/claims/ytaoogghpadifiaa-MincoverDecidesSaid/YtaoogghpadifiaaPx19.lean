-- LAID BY OUR PROGRAM OVER THE PRINT (xprint.py, part.py): Lean checks it.
import Derived.Test.YtaoogghpadifiaaPx0
import Derived.Test.YtaoogghpadifiaaPx3
import Derived.Test.YtaoogghpadifiaaPx4
import Derived.Test.YtaoogghpadifiaaPx6
namespace Go.Proofs.Ytaoogghpadifiaa.P
open Go.RowKit Go.Proofs.YtaoogghpadifiaaW.PrintWords Go.Proofs.YtaoogghpadifiaaW.PrintLast Go.Proofs.YtaoogghpadifiaaW.PrintMore
attribute [local go_sem] max2_int min2_int max_two min_two max_three min_three max_four min_four   -- for this text's walks alone
set_option maxHeartbeats 8000000
set_option maxRecDepth 100000
set_option linter.unusedVariables false
set_option linter.unusedSimpArgs false

/-! ### r04_Valid: function 29 -/
def r04_Valid.l0 : Nat → List Int → Int → Int → Option (Bool)
 | 0, _, _, _ => none
 | k + 1, x0, x1, x5 => if x5 < (x0.length : Int) then (if 0 ≤ x5 then (if (rd x0 x5) < 0 then (some false) else (if (rd x0 x5) > 1048576 then (some false) else (r04_Valid.l0 k x0 x1 (wrap64 (x5 + 1))))) else (none)) else (some ((x0.length : Int) == x1))
def r04_Valid.f (k : Nat) (l0 : List Int) (a1 : Int) : Option (Bool) := r04_Valid.l0 k l0 a1 0
theorem r04_Valid.calls (k : Nat) (A0 : Option Addr) (c0 : Nat) (l0 : List Int) (a1 : Int) (r : Bool) (w : World) (aw : Kd.C (Kd.int .i64) w A0 l0.length l0) (hc0 : l0.length ≤ c0) (h : r04_Valid.f k l0 a1 = some r) :
  Calls Try.prog 29 #[.slice A0 l0.length c0, .int .i64 a1] w fun e w' => e = .returned (.bool r) ∧ Drawn0 w w' := by
 have ai := am aw
 have ay := am hc0
 clear aw hc0
 have H : (r04_Valid.l0 k l0 a1 0) = some r := h
 clear h
 have H' := am H
 clear H
 go_enter Try.func29, Try.ntmps29
 go_wp2
 go_loopg [5] k (fun kq v5 w' => ∃ (aa : Int), v5 = .int .i64 aa ∧ Aside0 (r04_Valid.l0 kq l0 a1 aa = some r) ∧ Aside0 (kq ≤ k) ∧ Drawn0 w w')
 case atStart => exact ⟨(0), prs, H', ⟨Nat.le_refl _⟩, pdr⟩
 clear H'
 obtain ⟨aa, rfl, HA, av, ⟨m1, rfl⟩⟩ := hrel
 obtain _ | k1 := gk
 ·exact absurd HA.1 (by simp [r04_Valid.l0])
 have H := HA.1
 clear HA
 simp only [r04_Valid.l0] at H
 replace H := ifl H
 rcases H with ⟨al, H⟩ | ⟨al, H⟩
 rotate_left
 ·obtain rfl := Option.some.inj H
  go_wp2
  go_ret
  exact ⟨prs, pdr⟩
 replace H := ifd H
 obtain ⟨ax, H⟩ := H
 replace H := ifl H
 rcases H with ⟨ao, H⟩ | ⟨ao, H⟩
 ·obtain rfl := Option.some.inj H
  obtain ⟨aj, ak, ab, af, ac⟩ := dint ai.1 aa
  cases af
  go_wp2
  go_ret
  exact ⟨prs, pdr⟩
 replace H := ifg H
 rcases H with ⟨ap, H⟩ | ⟨ap, H⟩
 ·obtain rfl := Option.some.inj H
  obtain ⟨aj, ak, ab, af, ac⟩ := dint ai.1 aa
  cases af
  obtain ⟨ar, au, ae, ah, ag⟩ := dint ai.1 aa
  obtain rfl : ab = ae := (by injection ah)
  go_wp2
  go_ret
  exact ⟨prs, pdr⟩
 have H' := am H
 clear H
 obtain ⟨aj, ak, ab, af, ac⟩ := dint ai.1 aa
 cases af
 obtain ⟨ar, au, ae, ah, ag⟩ := dint ai.1 aa
 obtain rfl : ab = ae := (by injection ah)
 go_wp2
 go_roundg k1
 case measure => have := av.1; omega
 case rel => exact ⟨(wrap64 (aa + 1)), prs, H', ⟨by have := av.1; omega⟩, pdr⟩

/-! ### qBG: function 88 -/
def qBG.l0 : Nat → List (S68) → Int → Int → Option (Int)
 | 0, _, _, _ => none
 | k + 1, x0, x1, x5 => if x5 < (x0.length : Int) then (if 0 ≤ x5 then (if ((rd_T68 x0 x5).f0) = x1 then (some ((rd_T68 x0 x5).f1)) else (qBG.l0 k x0 x1 (wrap64 (x5 + 1)))) else (none)) else (some 0)
def qBG.f (k : Nat) (l0 : List (S68)) (a1 : Int) : Option (Int) := qBG.l0 k l0 a1 0
theorem qBG.calls (k : Nat) (A0 : Option Addr) (c0 : Nat) (l0 : List (S68)) (a1 : Int) (r : Int) (w : World) (aw : Kd.C k68 w A0 l0.length l0) (hc0 : l0.length ≤ c0) (h : qBG.f k l0 a1 = some r) :
  Calls Try.prog 88 #[.slice A0 l0.length c0, .int .i64 a1] w fun e w' => e = .returned (.int .i64 r) ∧ Drawn0 w w' := by
 have aj := am aw
 have aA := am hc0
 clear aw hc0
 have H : (qBG.l0 k l0 a1 0) = some r := h
 clear h
 have H' := am H
 clear H
 go_enter Try.func88, Try.ntmps88
 go_wp2
 go_loopg [5] k (fun kq v5 w' => ∃ (aa : Int), v5 = .int .i64 aa ∧ Aside0 (qBG.l0 kq l0 a1 aa = some r) ∧ Aside0 (kq ≤ k) ∧ Drawn0 w w')
 case atStart => exact ⟨(0), prs, H', ⟨Nat.le_refl _⟩, pdr⟩
 clear H'
 obtain ⟨aa, rfl, HA, av, ⟨m1, rfl⟩⟩ := hrel
 obtain _ | k1 := gk
 ·exact absurd HA.1 (by simp [qBG.l0])
 have H := HA.1
 clear HA
 simp only [qBG.l0] at H
 replace H := ifl H
 rcases H with ⟨ak, H⟩ | ⟨ak, H⟩
 rotate_left
 ·obtain rfl := Option.some.inj H
  go_wp2
  go_ret
  exact ⟨prs, pdr⟩
 replace H := ifd H
 obtain ⟨ax, H⟩ := H
 replace H := ife H
 rcases H with ⟨al, ao, H⟩ | ⟨al, ao, H⟩
 rotate_left
 ·have H' := am H
  clear H
  obtain ⟨ar, au, ae, af, ab, ac⟩ := dT68 aj.1 aa
  cases af
  go_wp2
  go_roundg k1
  case measure => have := av.1; omega
  case rel => exact ⟨(wrap64 (aa + 1)), prs, H', ⟨by have := av.1; omega⟩, pdr⟩
 obtain rfl := Option.some.inj H
 obtain ⟨ar, au, ae, af, ab, ac⟩ := dT68 aj.1 aa
 cases af
 obtain ⟨ay, az, ag, ap, ah, ai⟩ := dT68 aj.1 aa
 obtain rfl : ae = ag := (by injection ap)
 go_wp2
 go_ret
 exact ⟨prs, pdr⟩

/-! ### qBH: function 87 -/
def qBH.l0 : Nat → List Int → Int → ByteArray → List (S64) → List (S38) → ByteArray → List (S68) → List (S68) → List (S68) → Int → Option (Bool)
 | 0, _, _, _, _, _, _, _, _, _, _ => none
 | k + 1, x1, x8, bp, aR, bq, br, a9, bl, bm, bs => if x8 < (aR.length : Int) then ((qBG.f k bm x8).bind fun b3 => (if 0 ≤ x8 then (if x8 < (x1.length : Int) then ((qBG.f k a9 x8).bind fun b4 => ((qBG.f k bl x8).bind fun b5 => ((qBG.f k a9 x8).bind fun bA => (if (rd x1 x8) < bA then (some false) else (if b3 > 0 then (if (rd x1 x8) ≥ b3 then (some false) else (if ((rd_T64 aR x8).f2) > 0 then (if (wrap64 ((wrap64 ((rd x1 x8) - b4)) + b5)) > ((rd_T64 aR x8).f2) then (some false) else (qBH.l0 k x1 (wrap64 (x8 + 1)) bp aR bq br a9 bl bm bs)) else (qBH.l0 k x1 (wrap64 (x8 + 1)) bp aR bq br a9 bl bm bs))) else (if ((rd_T64 aR x8).f2) > 0 then (if (wrap64 ((wrap64 ((rd x1 x8) - b4)) + b5)) > ((rd_T64 aR x8).f2) then (some false) else (qBH.l0 k x1 (wrap64 (x8 + 1)) bp aR bq br a9 bl bm bs)) else (qBH.l0 k x1 (wrap64 (x8 + 1)) bp aR bq br a9 bl bm bs))))))) else (none)) else (none))) else (some true)
def qBH.f (k : Nat) (aZ : ByteArray) (ah : List (S64)) (ac : List (S38)) (l1 : List Int) (a2 : Int) : Option (Bool) := if 0 ≤ a2 then (if a2 < (ac.length : Int) then (qBH.l0 k l1 0 aZ ah ac ((rd_T38 ac a2).f0) ((rd_T38 ac a2).f1) ((rd_T38 ac a2).f2) ((rd_T38 ac a2).f3) ((rd_T38 ac a2).f4)) else (none)) else (none)
def qBH.T6 : Bool × List (List Nat × List Nat) := (true, [([], []), ([], []), ([0, 1], [0, 1]), ([2], [2]), ([], []), ([4], [4]), ([], []), ([5, 6], [5, 6]), ([3, 7], [3, 7]), ([], []), ([9], [9]), ([], []), ([10, 11, 7], [10, 11]), ([8, 12], [8, 12]), ([13, 12, 0, 1, 2, 3, 4, 5, 6, 7, 8, 9, 10, 11, 12, 13], [13])])
def qBH.B6 : List Nat := [0, 0, 3, 7, 0, 16, 0, 112, 255, 0, 512, 0, 3824, 8191, 16383]
theorem qBH.tab6 : rtab .any (opsOf Try.f87 6) = qBH.T6 := by kernel_rfl
theorem qBH.bits6 : waitsOk qBH.T6.2 qBH.B6 = true := by kernel_rfl
def qBH.T7 : Bool × List (List Nat × List Nat) := (true, [([], []), ([], []), ([0, 1], [0, 1]), ([2], [2]), ([], []), ([4], [4]), ([], []), ([5, 6], [5, 6]), ([3, 7], [3, 7]), ([8, 7], [8]), ([9], [9]), ([10, 9], [9, 10]), ([11, 9, 9], [9, 11]), ([12], [12]), ([12], [12]), ([13, 14, 12], [12, 13, 14]), ([15, 12], [12, 15]), ([12], [12]), ([16, 17, 12], [12, 16, 17]), ([12, 18, 9], [9, 12, 18]), ([9, 19], [9, 19]), ([20, 12], [20]), ([21], [21]), ([22, 21], [21, 22]), ([21], [21]), ([23, 24, 21], [21, 23, 24]), ([25, 21], [21, 25]), ([26, 21], [21, 26]), ([27, 21], [21, 27]), ([28, 21, 21], [21, 28]), ([29], [29]), ([29], [29]), ([31, 29], [29, 31]), ([29], [29]), ([32, 33, 29], [29, 32, 33]), ([34, 29], [29, 34]), ([35, 29], [29, 35]), ([30, 36, 29], [29, 30, 36]), ([29, 37, 21], [21, 29, 37]), ([21, 38], [21, 38])])
def qBH.B7 : List Nat := [0, 0, 3, 7, 0, 16, 0, 112, 255, 511, 1023, 2047, 4095, 8191, 8191, 32767, 65535, 8191, 262143, 524287, 1048575, 2097151, 4194303, 8388607, 4194303, 33554431, 67108863, 134217727, 268435455, 536870911, 1073741823, 1073741823, 3221225471, 1073741823, 16106127359, 33285996543, 67645734911, 137438953471, 274877906943, 549755813887]
theorem qBH.tab7 : rtab .any (opsOf Try.f87 7) = qBH.T7 := by kernel_rfl
theorem qBH.bits7 : waitsOk qBH.T7.2 qBH.B7 = true := by kernel_rfl
theorem qBH.calls (k : Nat) (aZ : ByteArray) (a5 : Option Addr) (a6 : Nat) (ah : List (S64)) (ch : Option Addr) (a7 : Nat) (ac : List (S38)) (A1 : Option Addr) (c1 : Nat) (l1 : List Int) (a2 : Int) (r : Bool) (w : World) (ca : Kd.C k64 w a5 ah.length ah) (b8 : ah.length ≤ a6) (cb : Kd.C k38 w ch ac.length ac) (b9 : ac.length ≤ a7) (hr1 : Kd.C (Kd.int .i64) w A1 l1.length l1) (cK : l1.length ≤ c1) (h : qBH.f k aZ ah ac l1 a2 = some r) :
  Calls Try.prog 87 #[.agg #[.string aZ, .slice a5 ah.length a6, .slice ch ac.length a7], .slice A1 l1.length c1, .int .i64 a2] w fun e w' => e = .returned (.bool r) ∧ Below w.heap.size w w' := by
 have cS := Try.underlying25
 have cT := Try.underlying38
 have ba := am ca
 have cE := am b8
 clear ca b8
 have ck := am cb
 have cF := am b9
 clear cb b9
 have bS := am hr1
 have cY := am cK
 clear hr1 cK
 have HB := am (Below.refl w.heap.size w)
 have H := h
 unfold qBH.f at H
 clear h
 replace H := ifd H
 obtain ⟨cw, H⟩ := H
 replace H := ifd H
 obtain ⟨cx, H⟩ := H
 have H' := am H
 clear H
 go_enter Try.func87, Try.ntmps87
 go_wp2_with (first | ((with_reducible refine qBN (N := 3) rfl ?_); refine box_ev ?_; intro aq hg w6 hbox hb; have ae := am hbox; have ci := gwl hg; have cC := ci; replace HB := bsl hb; clear hb hbox hg; have cX := cf3 ae.1; have b1 : 0 ≤ (a2 : Int) := dq; have b2 : a2 < (ac.length : Int) := dq; obtain ⟨aI, aj, ak, ar, au, av, aw, cy, bC, bD, bE, bF, bG, bP, bM, bQ, bN, bR, bO⟩ := at_T38 ck.1 a2 b1 b2; cases cy; replace bC := cbl HB.1 bC; replace bD := cbl HB.1 bD; replace bE := cbl HB.1 bE; replace bF := cbl HB.1 bF; replace bG := cbl HB.1 bG; have aK := am bM; have aJ := am bP; clear bM bP; have bZ := am bN; have bX := am bQ; clear bN bQ; have b0 := am bO; have bY := am bR; clear bO bR; replace b1 := eq_true b1; replace b2 := eq_true b2) | ((with_reducible refine qBN (N := 7) rfl ?_); refine box_ev (N := 7) (cs := #[.string (⟨#[]⟩ : ByteArray), .slice none 0 0, .slice none 0 0, .slice none 0 0, .int .i64 0]) (t := 38) ?_; intro ag hg w8 hbox hb; have aa := am hbox; have cj := gwb hg; have cD := cj; have a8 := nlt hg ae; have bn := ngt hg ae; replace ae := bbh ae hb; replace HB := bst hb; clear hb hbox hg; have cQ := bn.1; have cR := a8.1; have cB := cf5 aa.1))
 go_loopg [8] k (fun kq v8 w' => ∃ (ab : Int), v8 = .int .i64 ab ∧ Aside0 (qBH.l0 kq l1 ab aZ ah ac ((rd_T38 ac a2).f0) ((rd_T38 ac a2).f1) ((rd_T38 ac a2).f2) ((rd_T38 ac a2).f3) ((rd_T38 ac a2).f4) = some r) ∧ Aside0 (kq ≤ k) ∧ Aside0 (w'.heap[aq]? = some (.cells #[.string aZ, (.slice a5 ah.length a6), (.slice (some aI) ac.length a7)] 25 (0, 0))) ∧ Aside0 (w'.heap[ag]? = some (.cells #[.string ((rd_T38 ac a2).f0), (.slice aj ((rd_T38 ac a2).f1).length ak), (.slice ar ((rd_T38 ac a2).f2).length au), (.slice av ((rd_T38 ac a2).f3).length aw), .int .i64 ((rd_T38 ac a2).f4)] 38 (0, 0))) ∧ Aside0 (Below w.heap.size w w'))
 case atStart => exact ⟨(0), prs, H', ⟨Nat.le_refl _⟩, ⟨by (with_reducible repeat (first | refine qBK ?_ _ | refine qBM ?_ | refine qBL ?_ _)); refine bf5 ?_ a8.1; exact pbk ae.1⟩, ⟨by (with_reducible repeat (first | refine qBK ?_ _ | refine qBM ?_ | refine qBL ?_ _)); exact bp5 (pbk aa.1)⟩, ⟨pbg⟩⟩
 clear H'
 try clear c1 c4 cw c5 cx cB cX bC bD bE bF bG b1 b2
 obtain ⟨ab, rfl, HA, b7, ae, aa, HB⟩ := hrel
 obtain _ | k1 := gk
 ·exact absurd HA.1 (by simp [qBH.l0])
 have H := HA.1
 clear HA
 simp only [qBH.l0] at H
 replace H := ifl H
 rcases H with ⟨cm, H⟩ | ⟨cm, H⟩
 rotate_left
 ·obtain rfl := Option.some.inj H
  have cM := a8.1
  have cO := bn.1
  have cW := cf3 ae.1
  go_wp2
  go_ret
  exact ⟨per, pbg⟩
 replace H := bnd H
 obtain ⟨b3, A12, H⟩ := H
 (try dsimp only at H)
 replace H := ifd H
 obtain ⟨cH, H⟩ := H
 replace H := ifd H
 obtain ⟨cJ, H⟩ := H
 replace H := bnd H
 obtain ⟨b4, A15, H⟩ := H
 (try dsimp only at H)
 replace H := bnd H
 obtain ⟨b5, cP, H⟩ := H
 (try dsimp only at H)
 replace H := bnd H
 obtain ⟨bA, b6, H⟩ := H
 (try dsimp only at H)
 have HZ_ := am H
 clear H
 have cL := a8.1
 have cN := bn.1
 have cU := cf3 ae.1
 have cV := cf5 aa.1
 try go_wp2_with (first | ((with_reducible refine qBO (f := 88) rfl ?_); refine gC 26 Try.func88 _ (qBG.calls k1 _ _ ((rd_T38 ac a2).f3) ab b3 _ (csb b0 HB) bY.1 A12.1) ?_; rintro e w' ⟨rfl, ⟨nd, rfl⟩⟩; refine ⟨_, rfl, ?_⟩))
 iterate 3 (try (rw [drewN_self wr]; generalize hq_ : World.drewN wr _ = wr; replace ae : Aside0 (wr.heap[aq]? = some (.cells #[.string aZ, .slice a5 ah.length a6, .slice (some aI) ac.length a7] 25 (0, 0))) := ⟨by rw [← hq_]; exact (by exact pbk ae.1)⟩; replace aa : Aside0 (wr.heap[ag]? = some (.cells #[.string ((rd_T38 ac a2).f0), .slice aj ((rd_T38 ac a2).f1).length ak, .slice ar ((rd_T38 ac a2).f2).length au, .slice av ((rd_T38 ac a2).f3).length aw, .int .i64 ((rd_T38 ac a2).f4)] 38 (0, 0))) := ⟨by rw [← hq_]; exact (by exact pbk aa.1)⟩; replace HB : Aside0 (Below w.heap.size w wr) := ⟨by rw [← hq_]; exact pbg⟩; clear hq_))
 replace ae := am (qBM ae.1)
 replace aa := am (qBM aa.1)
 replace HB := am (qCB HB.1)
 have cf : 0 ≤ (ab : Int) := dq
 have cg : ab < (l1.length : Int) := dq
 obtain ⟨ax, cz, bo⟩ := Kd.at_int bS.1 ab cf cg
 have bB := bo
 cases cz
 replace bo := cbl HB.1 bo
 replace cf := eq_true cf
 replace cg := eq_true cg
 refine start_ (n := 15) (S := fun w' => w'.cell? ⟨ag, 0, none⟩ = some (.string ((rd_T38 ac a2).f0)) ∧ w'.cell? ⟨ag, 1, none⟩ = some (.slice aj ((rd_T38 ac a2).f1).length ak) ∧ w'.cell? ⟨ag, 2, none⟩ = some (.slice ar ((rd_T38 ac a2).f2).length au) ∧ w'.cell? ⟨ag, 3, none⟩ = some (.slice av ((rd_T38 ac a2).f3).length aw) ∧ w'.cell? ⟨ag, 4, none⟩ = some (.int .i64 ((rd_T38 ac a2).f4)) ∧ w'.cell? (ax.add (ab).toNat) = some (.int .i64 (rd l1 ab))) (ds := []) #[false, false, false, false, false, false, false, false, false, false, false, false, false, false, false] (by kernel_rfl) rfl rfl ⟨(qBI aa.1 0).trans rfl, (qBI aa.1 1).trans rfl, (qBI aa.1 2).trans rfl, (qBI aa.1 3).trans rfl, (qBI aa.1 4).trans rfl, (cbl HB.1 bB)⟩ (fun hHeld => ?_); refine qCL qBH.tab6 qBH.bits6 (fun HT_ HW_ => ?_)
 generalize wr.drew = aH at ae aa HB bo hHeld ⊢
 refine pu HT_.1 0 27 ?_
 refine pu HT_.1 1 28 ?_
 refine pu HT_.1 2 29 ?_
 refine pu HT_.1 4 31 ?_
 refine pu HT_.1 6 33 ?_
 refine pu HT_.1 9 36 ?_
 refine pu HT_.1 11 38 ?_
 refine tk HT_.1 HW_.1 hHeld 3 30 ?_
 refine tk HT_.1 HW_.1 hHeld 5 32 ?_
 refine tk HT_.1 HW_.1 hHeld 10 37 ?_
 refine on HT_.1 7 (some 34) rfl fun K hK => ?_
 refine goes_ Try.func88 (by kernel_rfl) rfl #[.slice aj ((rd_T38 ac a2).f1).length ak, .int .i64 ab] (by rfl) rfl rfl pgz ?_
 with_reducible refine (qBG.calls k1 _ _ ((rd_T38 ac a2).f1) ab b4 _ ?side1 ?side2 A15.1).mono ?_
 (case side1 => exact csb aK HB)
 (case side2 => exact aJ.1)
 rintro e w' ⟨rfl, ⟨nd, rfl⟩⟩
 refine ⟨_, rfl, ?_⟩
 refine hK.out _ _ ⟨(qBI aa.1 0).trans rfl, (qBI aa.1 1).trans rfl, (qBI aa.1 2).trans rfl, (qBI aa.1 3).trans rfl, (qBI aa.1 4).trans rfl, (cbl HB.1 bB)⟩ (fun hHeld => ?_)
 clear hK K
 refine nm_ 34 ?_
 refine pu HT_.1 8 35 ?_
 refine on HT_.1 12 (some 39) rfl fun K hK => ?_
 refine goes_ Try.func88 (by kernel_rfl) rfl #[.slice ar ((rd_T38 ac a2).f2).length au, .int .i64 ab] (by rfl) rfl rfl pgz ?_
 with_reducible refine (qBG.calls k1 _ _ ((rd_T38 ac a2).f2) ab b5 _ ?side1 ?side2 cP.1).mono ?_
 (case side1 => exact csd ((Kd.qCG bZ.1 pbg)))
 (case side2 => exact bX.1)
 rintro e w' ⟨rfl, ⟨nd, rfl⟩⟩
 refine ⟨_, rfl, ?_⟩
 refine hK.out _ _ ⟨(qBI aa.1 0).trans rfl, (qBI aa.1 1).trans rfl, (qBI aa.1 2).trans rfl, (qBI aa.1 3).trans rfl, (qBI aa.1 4).trans rfl, (cbl HB.1 bB)⟩ (fun hHeld => ?_)
 clear hK K
 refine nm_ 39 ?_
 refine pu HT_.1 13 40 ?_
 refine pu HT_.1 14 10 ?_
 refine done_ (done_of HT_.1 (by kernel_rfl)) ?_
 have H := HZ_.1
 clear HZ_
 replace H := ifl H
 rcases H with ⟨cn, H⟩ | ⟨cn, H⟩
 ·obtain rfl := Option.some.inj H
  try go_wp2
  iterate 3 (try (rw [drewN_self aH]; generalize hq_ : World.drewN aH _ = aH; replace ae : Aside0 (aH.heap[aq]? = some (.cells #[.string aZ, .slice a5 ah.length a6, .slice (some aI) ac.length a7] 25 (0, 0))) := ⟨by rw [← hq_]; exact (by exact pbk ae.1)⟩; replace aa : Aside0 (aH.heap[ag]? = some (.cells #[.string ((rd_T38 ac a2).f0), .slice aj ((rd_T38 ac a2).f1).length ak, .slice ar ((rd_T38 ac a2).f2).length au, .slice av ((rd_T38 ac a2).f3).length aw, .int .i64 ((rd_T38 ac a2).f4)] 38 (0, 0))) := ⟨by rw [← hq_]; exact (by exact pbk aa.1)⟩; replace HB : Aside0 (Below w.heap.size w aH) := ⟨by rw [← hq_]; exact pbg⟩; clear hq_))
  replace ae := am (qBM ae.1)
  replace aa := am (qBM aa.1)
  replace HB := am (qCB HB.1)
  have aE : 0 ≤ (ab : Int) := dq
  have aF : ab < (l1.length : Int) := dq
  obtain ⟨aS, bb, af⟩ := Kd.at_int bS.1 ab aE aF
  have ai := af
  obtain rfl : ax = aS := (by injection bb)
  replace af := cbl HB.1 af
  replace aE := eq_true aE
  replace aF := eq_true aF
  refine start_ (n := 40) (S := fun w' => w'.cell? ⟨ag, 0, none⟩ = some (.string ((rd_T38 ac a2).f0)) ∧ w'.cell? ⟨ag, 1, none⟩ = some (.slice aj ((rd_T38 ac a2).f1).length ak) ∧ w'.cell? ⟨ag, 2, none⟩ = some (.slice ar ((rd_T38 ac a2).f2).length au) ∧ w'.cell? ⟨ag, 3, none⟩ = some (.slice av ((rd_T38 ac a2).f3).length aw) ∧ w'.cell? ⟨ag, 4, none⟩ = some (.int .i64 ((rd_T38 ac a2).f4)) ∧ w'.cell? (ax.add (ab).toNat) = some (.int .i64 (rd l1 ab))) (ds := []) #[false, false, false, false, false, false, false, false, false, false, false, false, false, false, false, false, false, false, false, false, false, false, false, false, false, false, false, false, false, false, false, false, false, false, false, false, false, false, false, false] (by kernel_rfl) rfl rfl ⟨(qBI aa.1 0).trans rfl, (qBI aa.1 1).trans rfl, (qBI aa.1 2).trans rfl, (qBI aa.1 3).trans rfl, (qBI aa.1 4).trans rfl, (cbl HB.1 ai)⟩ (fun hHeld => ?_); refine qCL qBH.tab7 qBH.bits7 (fun HT_ HW_ => ?_)
  generalize aH.drew = cZ at ae aa HB af hHeld ⊢
  refine pu HT_.1 0 41 ?_
  refine pu HT_.1 1 42 ?_
  refine pu HT_.1 2 43 ?_
  refine pu HT_.1 4 45 ?_
  refine pu HT_.1 6 47 ?_
  refine tk HT_.1 HW_.1 hHeld 3 44 ?_
  refine tk HT_.1 HW_.1 hHeld 5 46 ?_
  refine on HT_.1 7 (some 48) rfl fun K hK => ?_
  refine goes_ Try.func88 (by kernel_rfl) rfl #[.slice aj ((rd_T38 ac a2).f1).length ak, .int .i64 ab] (by rfl) rfl rfl pgz ?_
  with_reducible refine (qBG.calls k1 _ _ ((rd_T38 ac a2).f1) ab bA _ ?side1 ?side2 b6.1).mono ?_
  (case side1 => exact csb aK HB)
  (case side2 => exact aJ.1)
  rintro e w' ⟨rfl, ⟨nd, rfl⟩⟩
  refine ⟨_, rfl, ?_⟩
  refine hK.out _ _ ⟨(qBI aa.1 0).trans rfl, (qBI aa.1 1).trans rfl, (qBI aa.1 2).trans rfl, (qBI aa.1 3).trans rfl, (qBI aa.1 4).trans rfl, (cbl HB.1 ai)⟩ (fun hHeld => ?_)
  clear hK K
  refine nm_ 48 ?_
  refine pu HT_.1 8 49 ?_
  refine pu HT_.1 9 50 ?_
  refine pd HT_.1 10 51 ?_
  refine pd HT_.1 11 52 ?_
  refine pd HT_.1 12 53 ?_
  refine pd HT_.1 13 54 ?_
  refine pd HT_.1 14 55 ?_
  refine pd HT_.1 15 56 ?_
  refine pd HT_.1 16 57 ?_
  refine pd HT_.1 17 58 ?_
  refine pd HT_.1 18 59 ?_
  refine pd HT_.1 19 60 ?_
  refine pu HT_.1 20 61 ?_
  refine pu HT_.1 21 62 ?_
  refine pd HT_.1 22 63 ?_
  refine pd HT_.1 23 64 ?_
  refine pd HT_.1 24 65 ?_
  refine pd HT_.1 25 66 ?_
  refine pd HT_.1 26 67 ?_
  refine pd HT_.1 27 68 ?_
  refine pd HT_.1 28 69 ?_
  refine pd HT_.1 29 70 ?_
  refine pd HT_.1 30 71 ?_
  refine pd HT_.1 31 72 ?_
  refine pd HT_.1 32 73 ?_
  refine pd HT_.1 33 74 ?_
  refine pd HT_.1 34 75 ?_
  refine pd HT_.1 35 76 ?_
  refine pd HT_.1 36 77 ?_
  refine pd HT_.1 37 78 ?_
  refine pd HT_.1 38 79 ?_
  refine pu HT_.1 39 80 ?_
  refine done_ (done_of HT_.1 (by kernel_rfl)) ?_
  try go_wp2
  go_ret
  exact ⟨per, pbg⟩
 replace H := ifg H
 rcases H with ⟨co, H⟩ | ⟨co, H⟩
 rotate_left
 ·replace H := ifg H
  rcases H with ⟨cu, H⟩ | ⟨cu, H⟩
  rotate_left
  ·have H' := am H
   clear H
   try go_wp2
   iterate 3 (try (rw [drewN_self aH]; generalize hq_ : World.drewN aH _ = aH; replace ae : Aside0 (aH.heap[aq]? = some (.cells #[.string aZ, .slice a5 ah.length a6, .slice (some aI) ac.length a7] 25 (0, 0))) := ⟨by rw [← hq_]; exact (by exact pbk ae.1)⟩; replace aa : Aside0 (aH.heap[ag]? = some (.cells #[.string ((rd_T38 ac a2).f0), .slice aj ((rd_T38 ac a2).f1).length ak, .slice ar ((rd_T38 ac a2).f2).length au, .slice av ((rd_T38 ac a2).f3).length aw, .int .i64 ((rd_T38 ac a2).f4)] 38 (0, 0))) := ⟨by rw [← hq_]; exact (by exact pbk aa.1)⟩; replace HB : Aside0 (Below w.heap.size w aH) := ⟨by rw [← hq_]; exact pbg⟩; clear hq_))
   replace ae := am (qBM ae.1)
   replace aa := am (qBM aa.1)
   replace HB := am (qCB HB.1)
   have aE : 0 ≤ (ab : Int) := dq
   have aF : ab < (l1.length : Int) := dq
   obtain ⟨aS, bb, af⟩ := Kd.at_int bS.1 ab aE aF
   have ai := af
   obtain rfl : ax = aS := (by injection bb)
   replace af := cbl HB.1 af
   replace aE := eq_true aE
   replace aF := eq_true aF
   have bw : 0 ≤ (ab : Int) := dq
   have bz : ab < (ah.length : Int) := dq
   obtain ⟨ap, bW, aB, aC, aD⟩ := at_T64 ba.1 ab bw bz
   have aY := aD
   have aX := aC
   have aW := aB
   cases bW
   replace aB := cbl HB.1 aB
   replace aC := cbl HB.1 aC
   replace aD := cbl HB.1 aD
   replace bw := eq_true bw
   replace bz := eq_true bz
   refine start_ (n := 40) (S := fun w' => w'.cell? ⟨ag, 0, none⟩ = some (.string ((rd_T38 ac a2).f0)) ∧ w'.cell? ⟨ag, 1, none⟩ = some (.slice aj ((rd_T38 ac a2).f1).length ak) ∧ w'.cell? ⟨ag, 2, none⟩ = some (.slice ar ((rd_T38 ac a2).f2).length au) ∧ w'.cell? ⟨ag, 3, none⟩ = some (.slice av ((rd_T38 ac a2).f3).length aw) ∧ w'.cell? ⟨ag, 4, none⟩ = some (.int .i64 ((rd_T38 ac a2).f4)) ∧ w'.cell? ⟨aq, 0, none⟩ = some (.string aZ) ∧ w'.cell? ⟨aq, 1, none⟩ = some (.slice (some ap) ah.length a6) ∧ w'.cell? ⟨aq, 2, none⟩ = some (.slice (some aI) ac.length a7) ∧ w'.cell? (ax.add (ab).toNat) = some (.int .i64 (rd l1 ab)) ∧ w'.cell? (ap.add ((ab).toNat * 3)) = some (.string ((rd_T64 ah ab).f0)) ∧ w'.cell? ⟨(ap.add ((ab).toNat * 3)).block, (ap.add ((ab).toNat * 3)).off + 1, none⟩ = some (.int .i64 ((rd_T64 ah ab).f1)) ∧ w'.cell? ⟨(ap.add ((ab).toNat * 3)).block, (ap.add ((ab).toNat * 3)).off + 2, none⟩ = some (.int .i64 ((rd_T64 ah ab).f2))) (ds := []) #[false, false, false, false, false, false, false, false, false, false, false, false, false, false, false, false, false, false, false, false, false, false, false, false, false, false, false, false, false, false, false, false, false, false, false, false, false, false, false, false] (by kernel_rfl) rfl rfl ⟨(qBI aa.1 0).trans rfl, (qBI aa.1 1).trans rfl, (qBI aa.1 2).trans rfl, (qBI aa.1 3).trans rfl, (qBI aa.1 4).trans rfl, (qBI ae.1 0).trans rfl, (qBI ae.1 1).trans rfl, (qBI ae.1 2).trans rfl, (cbl HB.1 ai), (cbl HB.1 aW), (cbl HB.1 aX), (cbl HB.1 aY)⟩ (fun hHeld => ?_); refine qCL qBH.tab7 qBH.bits7 (fun HT_ HW_ => ?_)
   generalize aH.drew = dh at ae aa HB af aB aC aD hHeld ⊢
   refine pu HT_.1 0 41 ?_
   refine pu HT_.1 1 42 ?_
   refine pu HT_.1 2 43 ?_
   refine pu HT_.1 4 45 ?_
   refine pu HT_.1 6 47 ?_
   refine tk HT_.1 HW_.1 hHeld 3 44 ?_
   refine tk HT_.1 HW_.1 hHeld 5 46 ?_
   refine on HT_.1 7 (some 48) rfl fun K hK => ?_
   refine goes_ Try.func88 (by kernel_rfl) rfl #[.slice aj ((rd_T38 ac a2).f1).length ak, .int .i64 ab] (by rfl) rfl rfl pgz ?_
   with_reducible refine (qBG.calls k1 _ _ ((rd_T38 ac a2).f1) ab bA _ ?side1 ?side2 b6.1).mono ?_
   (case side1 => exact csb aK HB)
   (case side2 => exact aJ.1)
   rintro e w' ⟨rfl, ⟨nd, rfl⟩⟩
   refine ⟨_, rfl, ?_⟩
   refine hK.out _ _ ⟨(qBI aa.1 0).trans rfl, (qBI aa.1 1).trans rfl, (qBI aa.1 2).trans rfl, (qBI aa.1 3).trans rfl, (qBI aa.1 4).trans rfl, (qBI ae.1 0).trans rfl, (qBI ae.1 1).trans rfl, (qBI ae.1 2).trans rfl, (cbl HB.1 ai), (cbl HB.1 aW), (cbl HB.1 aX), (cbl HB.1 aY)⟩ (fun hHeld => ?_)
   clear hK K
   refine nm_ 48 ?_
   refine pu HT_.1 8 49 ?_
   refine pu HT_.1 9 50 ?_
   refine pu HT_.1 10 51 ?_
   refine pu HT_.1 11 52 ?_
   refine pu HT_.1 12 53 ?_
   refine pd HT_.1 13 54 ?_
   refine pd HT_.1 14 55 ?_
   refine pd HT_.1 15 56 ?_
   refine pd HT_.1 16 57 ?_
   refine pd HT_.1 17 58 ?_
   refine pd HT_.1 18 59 ?_
   refine pu HT_.1 19 60 ?_
   refine pu HT_.1 20 61 ?_
   refine pu HT_.1 21 62 ?_
   refine pu HT_.1 22 63 ?_
   refine pu HT_.1 24 65 ?_
   refine tk HT_.1 HW_.1 hHeld 23 64 ?_
   refine pu HT_.1 25 66 ?_
   refine pu HT_.1 26 67 ?_
   refine tk HT_.1 HW_.1 hHeld 27 68 ?_
   refine pu HT_.1 28 69 ?_
   refine pu HT_.1 29 70 ?_
   refine pd HT_.1 30 71 ?_
   refine pd HT_.1 31 72 ?_
   refine pd HT_.1 32 73 ?_
   refine pd HT_.1 33 74 ?_
   refine pd HT_.1 34 75 ?_
   refine pd HT_.1 35 76 ?_
   refine pd HT_.1 36 77 ?_
   refine pd HT_.1 37 78 ?_
   refine pu HT_.1 38 79 ?_
   refine pu HT_.1 39 80 ?_
   refine done_ (done_of HT_.1 (by kernel_rfl)) ?_
   try go_wp2
   go_roundg k1
   case measure => have := b7.1; omega
   case rel => exact ⟨(wrap64 (ab + 1)), prs, H', ⟨by have := b7.1; omega⟩, ⟨pbk ae.1⟩, ⟨pbk aa.1⟩, ⟨pbg⟩⟩
  replace H := ifg H
  rcases H with ⟨cv, H⟩ | ⟨cv, H⟩
  ·obtain rfl := Option.some.inj H
   try go_wp2
   iterate 3 (try (rw [drewN_self aH]; generalize hq_ : World.drewN aH _ = aH; replace ae : Aside0 (aH.heap[aq]? = some (.cells #[.string aZ, .slice a5 ah.length a6, .slice (some aI) ac.length a7] 25 (0, 0))) := ⟨by rw [← hq_]; exact (by exact pbk ae.1)⟩; replace aa : Aside0 (aH.heap[ag]? = some (.cells #[.string ((rd_T38 ac a2).f0), .slice aj ((rd_T38 ac a2).f1).length ak, .slice ar ((rd_T38 ac a2).f2).length au, .slice av ((rd_T38 ac a2).f3).length aw, .int .i64 ((rd_T38 ac a2).f4)] 38 (0, 0))) := ⟨by rw [← hq_]; exact (by exact pbk aa.1)⟩; replace HB : Aside0 (Below w.heap.size w aH) := ⟨by rw [← hq_]; exact pbg⟩; clear hq_))
   replace ae := am (qBM ae.1)
   replace aa := am (qBM aa.1)
   replace HB := am (qCB HB.1)
   have aE : 0 ≤ (ab : Int) := dq
   have aF : ab < (l1.length : Int) := dq
   obtain ⟨aS, bb, af⟩ := Kd.at_int bS.1 ab aE aF
   have ai := af
   obtain rfl : ax = aS := (by injection bb)
   replace af := cbl HB.1 af
   replace aE := eq_true aE
   replace aF := eq_true aF
   have bw : 0 ≤ (ab : Int) := dq
   have bz : ab < (ah.length : Int) := dq
   obtain ⟨ap, bW, aB, aC, aD⟩ := at_T64 ba.1 ab bw bz
   have aY := aD
   have aX := aC
   have aW := aB
   cases bW
   replace aB := cbl HB.1 aB
   replace aC := cbl HB.1 aC
   replace aD := cbl HB.1 aD
   replace bw := eq_true bw
   replace bz := eq_true bz
   have bJ : 0 ≤ (ab : Int) := dq
   have bL : ab < (ah.length : Int) := dq
   obtain ⟨bU, ce, aO, aP, aQ⟩ := at_T64 ba.1 ab bJ bL
   have bk := aQ
   have bj := aP
   have bi := aO
   obtain rfl : ap = bU := (by injection ce)
   replace aO := cbl HB.1 aO
   replace aP := cbl HB.1 aP
   replace aQ := cbl HB.1 aQ
   replace bJ := eq_true bJ
   replace bL := eq_true bL
   refine start_ (n := 40) (S := fun w' => w'.cell? ⟨ag, 0, none⟩ = some (.string ((rd_T38 ac a2).f0)) ∧ w'.cell? ⟨ag, 1, none⟩ = some (.slice aj ((rd_T38 ac a2).f1).length ak) ∧ w'.cell? ⟨ag, 2, none⟩ = some (.slice ar ((rd_T38 ac a2).f2).length au) ∧ w'.cell? ⟨ag, 3, none⟩ = some (.slice av ((rd_T38 ac a2).f3).length aw) ∧ w'.cell? ⟨ag, 4, none⟩ = some (.int .i64 ((rd_T38 ac a2).f4)) ∧ w'.cell? ⟨aq, 0, none⟩ = some (.string aZ) ∧ w'.cell? ⟨aq, 1, none⟩ = some (.slice (some ap) ah.length a6) ∧ w'.cell? ⟨aq, 2, none⟩ = some (.slice (some aI) ac.length a7) ∧ w'.cell? (ax.add (ab).toNat) = some (.int .i64 (rd l1 ab)) ∧ w'.cell? (ap.add ((ab).toNat * 3)) = some (.string ((rd_T64 ah ab).f0)) ∧ w'.cell? ⟨(ap.add ((ab).toNat * 3)).block, (ap.add ((ab).toNat * 3)).off + 1, none⟩ = some (.int .i64 ((rd_T64 ah ab).f1)) ∧ w'.cell? ⟨(ap.add ((ab).toNat * 3)).block, (ap.add ((ab).toNat * 3)).off + 2, none⟩ = some (.int .i64 ((rd_T64 ah ab).f2)) ∧ w'.cell? (ap.add ((ab).toNat * 3)) = some (.string ((rd_T64 ah ab).f0)) ∧ w'.cell? ⟨(ap.add ((ab).toNat * 3)).block, (ap.add ((ab).toNat * 3)).off + 1, none⟩ = some (.int .i64 ((rd_T64 ah ab).f1)) ∧ w'.cell? ⟨(ap.add ((ab).toNat * 3)).block, (ap.add ((ab).toNat * 3)).off + 2, none⟩ = some (.int .i64 ((rd_T64 ah ab).f2))) (ds := []) #[false, false, false, false, false, false, false, false, false, false, false, false, false, false, false, false, false, false, false, false, false, false, false, false, false, false, false, false, false, false, false, false, false, false, false, false, false, false, false, false] (by kernel_rfl) rfl rfl ⟨(qBI aa.1 0).trans rfl, (qBI aa.1 1).trans rfl, (qBI aa.1 2).trans rfl, (qBI aa.1 3).trans rfl, (qBI aa.1 4).trans rfl, (qBI ae.1 0).trans rfl, (qBI ae.1 1).trans rfl, (qBI ae.1 2).trans rfl, (cbl HB.1 ai), (cbl HB.1 aW), (cbl HB.1 aX), (cbl HB.1 aY), (cbl HB.1 bi), (cbl HB.1 bj), (cbl HB.1 bk)⟩ (fun hHeld => ?_); refine qCL qBH.tab7 qBH.bits7 (fun HT_ HW_ => ?_)
   generalize aH.drew = df at ae aa HB af aB aC aD aO aP aQ hHeld ⊢
   refine pu HT_.1 0 41 ?_
   refine pu HT_.1 1 42 ?_
   refine pu HT_.1 2 43 ?_
   refine pu HT_.1 4 45 ?_
   refine pu HT_.1 6 47 ?_
   refine tk HT_.1 HW_.1 hHeld 3 44 ?_
   refine tk HT_.1 HW_.1 hHeld 5 46 ?_
   refine on HT_.1 7 (some 48) rfl fun K hK => ?_
   refine goes_ Try.func88 (by kernel_rfl) rfl #[.slice aj ((rd_T38 ac a2).f1).length ak, .int .i64 ab] (by rfl) rfl rfl pgz ?_
   with_reducible refine (qBG.calls k1 _ _ ((rd_T38 ac a2).f1) ab bA _ ?side1 ?side2 b6.1).mono ?_
   (case side1 => exact csb aK HB)
   (case side2 => exact aJ.1)
   rintro e w' ⟨rfl, ⟨nd, rfl⟩⟩
   refine ⟨_, rfl, ?_⟩
   refine hK.out _ _ ⟨(qBI aa.1 0).trans rfl, (qBI aa.1 1).trans rfl, (qBI aa.1 2).trans rfl, (qBI aa.1 3).trans rfl, (qBI aa.1 4).trans rfl, (qBI ae.1 0).trans rfl, (qBI ae.1 1).trans rfl, (qBI ae.1 2).trans rfl, (cbl HB.1 ai), (cbl HB.1 aW), (cbl HB.1 aX), (cbl HB.1 aY), (cbl HB.1 bi), (cbl HB.1 bj), (cbl HB.1 bk)⟩ (fun hHeld => ?_)
   clear hK K
   refine nm_ 48 ?_
   refine pu HT_.1 8 49 ?_
   refine pu HT_.1 9 50 ?_
   refine pu HT_.1 10 51 ?_
   refine pu HT_.1 11 52 ?_
   refine pu HT_.1 12 53 ?_
   refine pd HT_.1 13 54 ?_
   refine pd HT_.1 14 55 ?_
   refine pd HT_.1 15 56 ?_
   refine pd HT_.1 16 57 ?_
   refine pd HT_.1 17 58 ?_
   refine pd HT_.1 18 59 ?_
   refine pu HT_.1 19 60 ?_
   refine pu HT_.1 20 61 ?_
   refine pu HT_.1 21 62 ?_
   refine pu HT_.1 22 63 ?_
   refine pu HT_.1 24 65 ?_
   refine tk HT_.1 HW_.1 hHeld 23 64 ?_
   refine pu HT_.1 25 66 ?_
   refine pu HT_.1 26 67 ?_
   refine tk HT_.1 HW_.1 hHeld 27 68 ?_
   refine pu HT_.1 28 69 ?_
   refine pu HT_.1 29 70 ?_
   refine pu HT_.1 30 71 ?_
   refine pu HT_.1 31 72 ?_
   refine pu HT_.1 33 74 ?_
   refine tk HT_.1 HW_.1 hHeld 32 73 ?_
   refine pu HT_.1 34 75 ?_
   refine pu HT_.1 35 76 ?_
   refine tk HT_.1 HW_.1 hHeld 36 77 ?_
   refine pu HT_.1 37 78 ?_
   refine pu HT_.1 38 79 ?_
   refine pu HT_.1 39 80 ?_
   refine done_ (done_of HT_.1 (by kernel_rfl)) ?_
   try go_wp2
   go_ret
   exact ⟨per, pbg⟩
  have H' := am H
  clear H
  try go_wp2
  iterate 3 (try (rw [drewN_self aH]; generalize hq_ : World.drewN aH _ = aH; replace ae : Aside0 (aH.heap[aq]? = some (.cells #[.string aZ, .slice a5 ah.length a6, .slice (some aI) ac.length a7] 25 (0, 0))) := ⟨by rw [← hq_]; exact (by exact pbk ae.1)⟩; replace aa : Aside0 (aH.heap[ag]? = some (.cells #[.string ((rd_T38 ac a2).f0), .slice aj ((rd_T38 ac a2).f1).length ak, .slice ar ((rd_T38 ac a2).f2).length au, .slice av ((rd_T38 ac a2).f3).length aw, .int .i64 ((rd_T38 ac a2).f4)] 38 (0, 0))) := ⟨by rw [← hq_]; exact (by exact pbk aa.1)⟩; replace HB : Aside0 (Below w.heap.size w aH) := ⟨by rw [← hq_]; exact pbg⟩; clear hq_))
  replace ae := am (qBM ae.1)
  replace aa := am (qBM aa.1)
  replace HB := am (qCB HB.1)
  have aE : 0 ≤ (ab : Int) := dq
  have aF : ab < (l1.length : Int) := dq
  obtain ⟨aS, bb, af⟩ := Kd.at_int bS.1 ab aE aF
  have ai := af
  obtain rfl : ax = aS := (by injection bb)
  replace af := cbl HB.1 af
  replace aE := eq_true aE
  replace aF := eq_true aF
  have bw : 0 ≤ (ab : Int) := dq
  have bz : ab < (ah.length : Int) := dq
  obtain ⟨ap, bW, aB, aC, aD⟩ := at_T64 ba.1 ab bw bz
  have aY := aD
  have aX := aC
  have aW := aB
  cases bW
  replace aB := cbl HB.1 aB
  replace aC := cbl HB.1 aC
  replace aD := cbl HB.1 aD
  replace bw := eq_true bw
  replace bz := eq_true bz
  have bJ : 0 ≤ (ab : Int) := dq
  have bL : ab < (ah.length : Int) := dq
  obtain ⟨bU, ce, aO, aP, aQ⟩ := at_T64 ba.1 ab bJ bL
  have bk := aQ
  have bj := aP
  have bi := aO
  obtain rfl : ap = bU := (by injection ce)
  replace aO := cbl HB.1 aO
  replace aP := cbl HB.1 aP
  replace aQ := cbl HB.1 aQ
  replace bJ := eq_true bJ
  replace bL := eq_true bL
  refine start_ (n := 40) (S := fun w' => w'.cell? ⟨ag, 0, none⟩ = some (.string ((rd_T38 ac a2).f0)) ∧ w'.cell? ⟨ag, 1, none⟩ = some (.slice aj ((rd_T38 ac a2).f1).length ak) ∧ w'.cell? ⟨ag, 2, none⟩ = some (.slice ar ((rd_T38 ac a2).f2).length au) ∧ w'.cell? ⟨ag, 3, none⟩ = some (.slice av ((rd_T38 ac a2).f3).length aw) ∧ w'.cell? ⟨ag, 4, none⟩ = some (.int .i64 ((rd_T38 ac a2).f4)) ∧ w'.cell? ⟨aq, 0, none⟩ = some (.string aZ) ∧ w'.cell? ⟨aq, 1, none⟩ = some (.slice (some ap) ah.length a6) ∧ w'.cell? ⟨aq, 2, none⟩ = some (.slice (some aI) ac.length a7) ∧ w'.cell? (ax.add (ab).toNat) = some (.int .i64 (rd l1 ab)) ∧ w'.cell? (ap.add ((ab).toNat * 3)) = some (.string ((rd_T64 ah ab).f0)) ∧ w'.cell? ⟨(ap.add ((ab).toNat * 3)).block, (ap.add ((ab).toNat * 3)).off + 1, none⟩ = some (.int .i64 ((rd_T64 ah ab).f1)) ∧ w'.cell? ⟨(ap.add ((ab).toNat * 3)).block, (ap.add ((ab).toNat * 3)).off + 2, none⟩ = some (.int .i64 ((rd_T64 ah ab).f2)) ∧ w'.cell? (ap.add ((ab).toNat * 3)) = some (.string ((rd_T64 ah ab).f0)) ∧ w'.cell? ⟨(ap.add ((ab).toNat * 3)).block, (ap.add ((ab).toNat * 3)).off + 1, none⟩ = some (.int .i64 ((rd_T64 ah ab).f1)) ∧ w'.cell? ⟨(ap.add ((ab).toNat * 3)).block, (ap.add ((ab).toNat * 3)).off + 2, none⟩ = some (.int .i64 ((rd_T64 ah ab).f2))) (ds := []) #[false, false, false, false, false, false, false, false, false, false, false, false, false, false, false, false, false, false, false, false, false, false, false, false, false, false, false, false, false, false, false, false, false, false, false, false, false, false, false, false] (by kernel_rfl) rfl rfl ⟨(qBI aa.1 0).trans rfl, (qBI aa.1 1).trans rfl, (qBI aa.1 2).trans rfl, (qBI aa.1 3).trans rfl, (qBI aa.1 4).trans rfl, (qBI ae.1 0).trans rfl, (qBI ae.1 1).trans rfl, (qBI ae.1 2).trans rfl, (cbl HB.1 ai), (cbl HB.1 aW), (cbl HB.1 aX), (cbl HB.1 aY), (cbl HB.1 bi), (cbl HB.1 bj), (cbl HB.1 bk)⟩ (fun hHeld => ?_); refine qCL qBH.tab7 qBH.bits7 (fun HT_ HW_ => ?_)
  generalize aH.drew = dg at ae aa HB af aB aC aD aO aP aQ hHeld ⊢
  refine pu HT_.1 0 41 ?_
  refine pu HT_.1 1 42 ?_
  refine pu HT_.1 2 43 ?_
  refine pu HT_.1 4 45 ?_
  refine pu HT_.1 6 47 ?_
  refine tk HT_.1 HW_.1 hHeld 3 44 ?_
  refine tk HT_.1 HW_.1 hHeld 5 46 ?_
  refine on HT_.1 7 (some 48) rfl fun K hK => ?_
  refine goes_ Try.func88 (by kernel_rfl) rfl #[.slice aj ((rd_T38 ac a2).f1).length ak, .int .i64 ab] (by rfl) rfl rfl pgz ?_
  with_reducible refine (qBG.calls k1 _ _ ((rd_T38 ac a2).f1) ab bA _ ?side1 ?side2 b6.1).mono ?_
  (case side1 => exact csb aK HB)
  (case side2 => exact aJ.1)
  rintro e w' ⟨rfl, ⟨nd, rfl⟩⟩
  refine ⟨_, rfl, ?_⟩
  refine hK.out _ _ ⟨(qBI aa.1 0).trans rfl, (qBI aa.1 1).trans rfl, (qBI aa.1 2).trans rfl, (qBI aa.1 3).trans rfl, (qBI aa.1 4).trans rfl, (qBI ae.1 0).trans rfl, (qBI ae.1 1).trans rfl, (qBI ae.1 2).trans rfl, (cbl HB.1 ai), (cbl HB.1 aW), (cbl HB.1 aX), (cbl HB.1 aY), (cbl HB.1 bi), (cbl HB.1 bj), (cbl HB.1 bk)⟩ (fun hHeld => ?_)
  clear hK K
  refine nm_ 48 ?_
  refine pu HT_.1 8 49 ?_
  refine pu HT_.1 9 50 ?_
  refine pu HT_.1 10 51 ?_
  refine pu HT_.1 11 52 ?_
  refine pu HT_.1 12 53 ?_
  refine pd HT_.1 13 54 ?_
  refine pd HT_.1 14 55 ?_
  refine pd HT_.1 15 56 ?_
  refine pd HT_.1 16 57 ?_
  refine pd HT_.1 17 58 ?_
  refine pd HT_.1 18 59 ?_
  refine pu HT_.1 19 60 ?_
  refine pu HT_.1 20 61 ?_
  refine pu HT_.1 21 62 ?_
  refine pu HT_.1 22 63 ?_
  refine pu HT_.1 24 65 ?_
  refine tk HT_.1 HW_.1 hHeld 23 64 ?_
  refine pu HT_.1 25 66 ?_
  refine pu HT_.1 26 67 ?_
  refine tk HT_.1 HW_.1 hHeld 27 68 ?_
  refine pu HT_.1 28 69 ?_
  refine pu HT_.1 29 70 ?_
  refine pu HT_.1 30 71 ?_
  refine pu HT_.1 31 72 ?_
  refine pu HT_.1 33 74 ?_
  refine tk HT_.1 HW_.1 hHeld 32 73 ?_
  refine pu HT_.1 34 75 ?_
  refine pu HT_.1 35 76 ?_
  refine tk HT_.1 HW_.1 hHeld 36 77 ?_
  refine pu HT_.1 37 78 ?_
  refine pu HT_.1 38 79 ?_
  refine pu HT_.1 39 80 ?_
  refine done_ (done_of HT_.1 (by kernel_rfl)) ?_
  try go_wp2
  go_roundg k1
  case measure => have := b7.1; omega
  case rel => exact ⟨(wrap64 (ab + 1)), prs, H', ⟨by have := b7.1; omega⟩, ⟨pbk ae.1⟩, ⟨pbk aa.1⟩, ⟨pbg⟩⟩
 replace H := ifh H
 rcases H with ⟨cp, H⟩ | ⟨cp, H⟩
 ·obtain rfl := Option.some.inj H
  try go_wp2
  iterate 3 (try (rw [drewN_self aH]; generalize hq_ : World.drewN aH _ = aH; replace ae : Aside0 (aH.heap[aq]? = some (.cells #[.string aZ, .slice a5 ah.length a6, .slice (some aI) ac.length a7] 25 (0, 0))) := ⟨by rw [← hq_]; exact (by exact pbk ae.1)⟩; replace aa : Aside0 (aH.heap[ag]? = some (.cells #[.string ((rd_T38 ac a2).f0), .slice aj ((rd_T38 ac a2).f1).length ak, .slice ar ((rd_T38 ac a2).f2).length au, .slice av ((rd_T38 ac a2).f3).length aw, .int .i64 ((rd_T38 ac a2).f4)] 38 (0, 0))) := ⟨by rw [← hq_]; exact (by exact pbk aa.1)⟩; replace HB : Aside0 (Below w.heap.size w aH) := ⟨by rw [← hq_]; exact pbg⟩; clear hq_))
  replace ae := am (qBM ae.1)
  replace aa := am (qBM aa.1)
  replace HB := am (qCB HB.1)
  have aE : 0 ≤ (ab : Int) := dq
  have aF : ab < (l1.length : Int) := dq
  obtain ⟨aS, bb, af⟩ := Kd.at_int bS.1 ab aE aF
  have ai := af
  obtain rfl : ax = aS := (by injection bb)
  replace af := cbl HB.1 af
  replace aE := eq_true aE
  replace aF := eq_true aF
  have bc : 0 ≤ (ab : Int) := dq
  have bd : ab < (l1.length : Int) := dq
  obtain ⟨bu, bH, al⟩ := Kd.at_int bS.1 ab bc bd
  have aG := al
  obtain rfl : ax = bu := (by injection bH)
  replace al := cbl HB.1 al
  replace bc := eq_true bc
  replace bd := eq_true bd
  refine start_ (n := 40) (S := fun w' => w'.cell? ⟨ag, 0, none⟩ = some (.string ((rd_T38 ac a2).f0)) ∧ w'.cell? ⟨ag, 1, none⟩ = some (.slice aj ((rd_T38 ac a2).f1).length ak) ∧ w'.cell? ⟨ag, 2, none⟩ = some (.slice ar ((rd_T38 ac a2).f2).length au) ∧ w'.cell? ⟨ag, 3, none⟩ = some (.slice av ((rd_T38 ac a2).f3).length aw) ∧ w'.cell? ⟨ag, 4, none⟩ = some (.int .i64 ((rd_T38 ac a2).f4)) ∧ w'.cell? (ax.add (ab).toNat) = some (.int .i64 (rd l1 ab)) ∧ w'.cell? (ax.add (ab).toNat) = some (.int .i64 (rd l1 ab))) (ds := []) #[false, false, false, false, false, false, false, false, false, false, false, false, false, false, false, false, false, false, false, false, false, false, false, false, false, false, false, false, false, false, false, false, false, false, false, false, false, false, false, false] (by kernel_rfl) rfl rfl ⟨(qBI aa.1 0).trans rfl, (qBI aa.1 1).trans rfl, (qBI aa.1 2).trans rfl, (qBI aa.1 3).trans rfl, (qBI aa.1 4).trans rfl, (cbl HB.1 ai), (cbl HB.1 aG)⟩ (fun hHeld => ?_); refine qCL qBH.tab7 qBH.bits7 (fun HT_ HW_ => ?_)
  generalize aH.drew = da at ae aa HB af al hHeld ⊢
  refine pu HT_.1 0 41 ?_
  refine pu HT_.1 1 42 ?_
  refine pu HT_.1 2 43 ?_
  refine pu HT_.1 4 45 ?_
  refine pu HT_.1 6 47 ?_
  refine tk HT_.1 HW_.1 hHeld 3 44 ?_
  refine tk HT_.1 HW_.1 hHeld 5 46 ?_
  refine on HT_.1 7 (some 48) rfl fun K hK => ?_
  refine goes_ Try.func88 (by kernel_rfl) rfl #[.slice aj ((rd_T38 ac a2).f1).length ak, .int .i64 ab] (by rfl) rfl rfl pgz ?_
  with_reducible refine (qBG.calls k1 _ _ ((rd_T38 ac a2).f1) ab bA _ ?side1 ?side2 b6.1).mono ?_
  (case side1 => exact csb aK HB)
  (case side2 => exact aJ.1)
  rintro e w' ⟨rfl, ⟨nd, rfl⟩⟩
  refine ⟨_, rfl, ?_⟩
  refine hK.out _ _ ⟨(qBI aa.1 0).trans rfl, (qBI aa.1 1).trans rfl, (qBI aa.1 2).trans rfl, (qBI aa.1 3).trans rfl, (qBI aa.1 4).trans rfl, (cbl HB.1 ai), (cbl HB.1 aG)⟩ (fun hHeld => ?_)
  clear hK K
  refine nm_ 48 ?_
  refine pu HT_.1 8 49 ?_
  refine pu HT_.1 9 50 ?_
  refine pu HT_.1 10 51 ?_
  refine pu HT_.1 11 52 ?_
  refine pu HT_.1 12 53 ?_
  refine pu HT_.1 13 54 ?_
  refine pu HT_.1 14 55 ?_
  refine pu HT_.1 15 56 ?_
  refine pu HT_.1 17 58 ?_
  refine tk HT_.1 HW_.1 hHeld 16 57 ?_
  refine pu HT_.1 18 59 ?_
  refine pu HT_.1 19 60 ?_
  refine pu HT_.1 20 61 ?_
  refine pu HT_.1 21 62 ?_
  refine pd HT_.1 22 63 ?_
  refine pd HT_.1 23 64 ?_
  refine pd HT_.1 24 65 ?_
  refine pd HT_.1 25 66 ?_
  refine pd HT_.1 26 67 ?_
  refine pd HT_.1 27 68 ?_
  refine pd HT_.1 28 69 ?_
  refine pd HT_.1 29 70 ?_
  refine pd HT_.1 30 71 ?_
  refine pd HT_.1 31 72 ?_
  refine pd HT_.1 32 73 ?_
  refine pd HT_.1 33 74 ?_
  refine pd HT_.1 34 75 ?_
  refine pd HT_.1 35 76 ?_
  refine pd HT_.1 36 77 ?_
  refine pd HT_.1 37 78 ?_
  refine pd HT_.1 38 79 ?_
  refine pu HT_.1 39 80 ?_
  refine done_ (done_of HT_.1 (by kernel_rfl)) ?_
  try go_wp2
  go_ret
  exact ⟨per, pbg⟩
 replace H := ifg H
 rcases H with ⟨cq, H⟩ | ⟨cq, H⟩
 rotate_left
 ·have H' := am H
  clear H
  try go_wp2
  iterate 3 (try (rw [drewN_self aH]; generalize hq_ : World.drewN aH _ = aH; replace ae : Aside0 (aH.heap[aq]? = some (.cells #[.string aZ, .slice a5 ah.length a6, .slice (some aI) ac.length a7] 25 (0, 0))) := ⟨by rw [← hq_]; exact (by exact pbk ae.1)⟩; replace aa : Aside0 (aH.heap[ag]? = some (.cells #[.string ((rd_T38 ac a2).f0), .slice aj ((rd_T38 ac a2).f1).length ak, .slice ar ((rd_T38 ac a2).f2).length au, .slice av ((rd_T38 ac a2).f3).length aw, .int .i64 ((rd_T38 ac a2).f4)] 38 (0, 0))) := ⟨by rw [← hq_]; exact (by exact pbk aa.1)⟩; replace HB : Aside0 (Below w.heap.size w aH) := ⟨by rw [← hq_]; exact pbg⟩; clear hq_))
  replace ae := am (qBM ae.1)
  replace aa := am (qBM aa.1)
  replace HB := am (qCB HB.1)
  have aE : 0 ≤ (ab : Int) := dq
  have aF : ab < (l1.length : Int) := dq
  obtain ⟨aS, bb, af⟩ := Kd.at_int bS.1 ab aE aF
  have ai := af
  obtain rfl : ax = aS := (by injection bb)
  replace af := cbl HB.1 af
  replace aE := eq_true aE
  replace aF := eq_true aF
  have bc : 0 ≤ (ab : Int) := dq
  have bd : ab < (l1.length : Int) := dq
  obtain ⟨bu, bH, al⟩ := Kd.at_int bS.1 ab bc bd
  have aG := al
  obtain rfl : ax = bu := (by injection bH)
  replace al := cbl HB.1 al
  replace bc := eq_true bc
  replace bd := eq_true bd
  have bv : 0 ≤ (ab : Int) := dq
  have bx : ab < (ah.length : Int) := dq
  obtain ⟨ao, bV, ay, az, aA⟩ := at_T64 ba.1 ab bv bx
  have aV := aA
  have aU := az
  have aT := ay
  cases bV
  replace ay := cbl HB.1 ay
  replace az := cbl HB.1 az
  replace aA := cbl HB.1 aA
  replace bv := eq_true bv
  replace bx := eq_true bx
  refine start_ (n := 40) (S := fun w' => w'.cell? ⟨ag, 0, none⟩ = some (.string ((rd_T38 ac a2).f0)) ∧ w'.cell? ⟨ag, 1, none⟩ = some (.slice aj ((rd_T38 ac a2).f1).length ak) ∧ w'.cell? ⟨ag, 2, none⟩ = some (.slice ar ((rd_T38 ac a2).f2).length au) ∧ w'.cell? ⟨ag, 3, none⟩ = some (.slice av ((rd_T38 ac a2).f3).length aw) ∧ w'.cell? ⟨ag, 4, none⟩ = some (.int .i64 ((rd_T38 ac a2).f4)) ∧ w'.cell? ⟨aq, 0, none⟩ = some (.string aZ) ∧ w'.cell? ⟨aq, 1, none⟩ = some (.slice (some ao) ah.length a6) ∧ w'.cell? ⟨aq, 2, none⟩ = some (.slice (some aI) ac.length a7) ∧ w'.cell? (ax.add (ab).toNat) = some (.int .i64 (rd l1 ab)) ∧ w'.cell? (ax.add (ab).toNat) = some (.int .i64 (rd l1 ab)) ∧ w'.cell? (ao.add ((ab).toNat * 3)) = some (.string ((rd_T64 ah ab).f0)) ∧ w'.cell? ⟨(ao.add ((ab).toNat * 3)).block, (ao.add ((ab).toNat * 3)).off + 1, none⟩ = some (.int .i64 ((rd_T64 ah ab).f1)) ∧ w'.cell? ⟨(ao.add ((ab).toNat * 3)).block, (ao.add ((ab).toNat * 3)).off + 2, none⟩ = some (.int .i64 ((rd_T64 ah ab).f2))) (ds := []) #[false, false, false, false, false, false, false, false, false, false, false, false, false, false, false, false, false, false, false, false, false, false, false, false, false, false, false, false, false, false, false, false, false, false, false, false, false, false, false, false] (by kernel_rfl) rfl rfl ⟨(qBI aa.1 0).trans rfl, (qBI aa.1 1).trans rfl, (qBI aa.1 2).trans rfl, (qBI aa.1 3).trans rfl, (qBI aa.1 4).trans rfl, (qBI ae.1 0).trans rfl, (qBI ae.1 1).trans rfl, (qBI ae.1 2).trans rfl, (cbl HB.1 ai), (cbl HB.1 aG), (cbl HB.1 aT), (cbl HB.1 aU), (cbl HB.1 aV)⟩ (fun hHeld => ?_); refine qCL qBH.tab7 qBH.bits7 (fun HT_ HW_ => ?_)
  generalize aH.drew = de at ae aa HB af al ay az aA hHeld ⊢
  refine pu HT_.1 0 41 ?_
  refine pu HT_.1 1 42 ?_
  refine pu HT_.1 2 43 ?_
  refine pu HT_.1 4 45 ?_
  refine pu HT_.1 6 47 ?_
  refine tk HT_.1 HW_.1 hHeld 3 44 ?_
  refine tk HT_.1 HW_.1 hHeld 5 46 ?_
  refine on HT_.1 7 (some 48) rfl fun K hK => ?_
  refine goes_ Try.func88 (by kernel_rfl) rfl #[.slice aj ((rd_T38 ac a2).f1).length ak, .int .i64 ab] (by rfl) rfl rfl pgz ?_
  with_reducible refine (qBG.calls k1 _ _ ((rd_T38 ac a2).f1) ab bA _ ?side1 ?side2 b6.1).mono ?_
  (case side1 => exact csb aK HB)
  (case side2 => exact aJ.1)
  rintro e w' ⟨rfl, ⟨nd, rfl⟩⟩
  refine ⟨_, rfl, ?_⟩
  refine hK.out _ _ ⟨(qBI aa.1 0).trans rfl, (qBI aa.1 1).trans rfl, (qBI aa.1 2).trans rfl, (qBI aa.1 3).trans rfl, (qBI aa.1 4).trans rfl, (qBI ae.1 0).trans rfl, (qBI ae.1 1).trans rfl, (qBI ae.1 2).trans rfl, (cbl HB.1 ai), (cbl HB.1 aG), (cbl HB.1 aT), (cbl HB.1 aU), (cbl HB.1 aV)⟩ (fun hHeld => ?_)
  clear hK K
  refine nm_ 48 ?_
  refine pu HT_.1 8 49 ?_
  refine pu HT_.1 9 50 ?_
  refine pu HT_.1 10 51 ?_
  refine pu HT_.1 11 52 ?_
  refine pu HT_.1 12 53 ?_
  refine pu HT_.1 13 54 ?_
  refine pu HT_.1 14 55 ?_
  refine pu HT_.1 15 56 ?_
  refine pu HT_.1 17 58 ?_
  refine tk HT_.1 HW_.1 hHeld 16 57 ?_
  refine pu HT_.1 18 59 ?_
  refine pu HT_.1 19 60 ?_
  refine pu HT_.1 20 61 ?_
  refine pu HT_.1 21 62 ?_
  refine pu HT_.1 22 63 ?_
  refine pu HT_.1 24 65 ?_
  refine tk HT_.1 HW_.1 hHeld 23 64 ?_
  refine pu HT_.1 25 66 ?_
  refine pu HT_.1 26 67 ?_
  refine tk HT_.1 HW_.1 hHeld 27 68 ?_
  refine pu HT_.1 28 69 ?_
  refine pu HT_.1 29 70 ?_
  refine pd HT_.1 30 71 ?_
  refine pd HT_.1 31 72 ?_
  refine pd HT_.1 32 73 ?_
  refine pd HT_.1 33 74 ?_
  refine pd HT_.1 34 75 ?_
  refine pd HT_.1 35 76 ?_
  refine pd HT_.1 36 77 ?_
  refine pd HT_.1 37 78 ?_
  refine pu HT_.1 38 79 ?_
  refine pu HT_.1 39 80 ?_
  refine done_ (done_of HT_.1 (by kernel_rfl)) ?_
  try go_wp2
  go_roundg k1
  case measure => have := b7.1; omega
  case rel => exact ⟨(wrap64 (ab + 1)), prs, H', ⟨by have := b7.1; omega⟩, ⟨pbk ae.1⟩, ⟨pbk aa.1⟩, ⟨pbg⟩⟩
 replace H := ifg H
 rcases H with ⟨cr, H⟩ | ⟨cr, H⟩
 ·obtain rfl := Option.some.inj H
  try go_wp2
  iterate 3 (try (rw [drewN_self aH]; generalize hq_ : World.drewN aH _ = aH; replace ae : Aside0 (aH.heap[aq]? = some (.cells #[.string aZ, .slice a5 ah.length a6, .slice (some aI) ac.length a7] 25 (0, 0))) := ⟨by rw [← hq_]; exact (by exact pbk ae.1)⟩; replace aa : Aside0 (aH.heap[ag]? = some (.cells #[.string ((rd_T38 ac a2).f0), .slice aj ((rd_T38 ac a2).f1).length ak, .slice ar ((rd_T38 ac a2).f2).length au, .slice av ((rd_T38 ac a2).f3).length aw, .int .i64 ((rd_T38 ac a2).f4)] 38 (0, 0))) := ⟨by rw [← hq_]; exact (by exact pbk aa.1)⟩; replace HB : Aside0 (Below w.heap.size w aH) := ⟨by rw [← hq_]; exact pbg⟩; clear hq_))
  replace ae := am (qBM ae.1)
  replace aa := am (qBM aa.1)
  replace HB := am (qCB HB.1)
  have aE : 0 ≤ (ab : Int) := dq
  have aF : ab < (l1.length : Int) := dq
  obtain ⟨aS, bb, af⟩ := Kd.at_int bS.1 ab aE aF
  have ai := af
  obtain rfl : ax = aS := (by injection bb)
  replace af := cbl HB.1 af
  replace aE := eq_true aE
  replace aF := eq_true aF
  have bc : 0 ≤ (ab : Int) := dq
  have bd : ab < (l1.length : Int) := dq
  obtain ⟨bu, bH, al⟩ := Kd.at_int bS.1 ab bc bd
  have aG := al
  obtain rfl : ax = bu := (by injection bH)
  replace al := cbl HB.1 al
  replace bc := eq_true bc
  replace bd := eq_true bd
  have bv : 0 ≤ (ab : Int) := dq
  have bx : ab < (ah.length : Int) := dq
  obtain ⟨ao, bV, ay, az, aA⟩ := at_T64 ba.1 ab bv bx
  have aV := aA
  have aU := az
  have aT := ay
  cases bV
  replace ay := cbl HB.1 ay
  replace az := cbl HB.1 az
  replace aA := cbl HB.1 aA
  replace bv := eq_true bv
  replace bx := eq_true bx
  have bI : 0 ≤ (ab : Int) := dq
  have bK : ab < (ah.length : Int) := dq
  obtain ⟨bT, cd, aL, aM, aN⟩ := at_T64 ba.1 ab bI bK
  have bh := aN
  have bg := aM
  have bf := aL
  obtain rfl : ao = bT := (by injection cd)
  replace aL := cbl HB.1 aL
  replace aM := cbl HB.1 aM
  replace aN := cbl HB.1 aN
  replace bI := eq_true bI
  replace bK := eq_true bK
  refine start_ (n := 40) (S := fun w' => w'.cell? ⟨ag, 0, none⟩ = some (.string ((rd_T38 ac a2).f0)) ∧ w'.cell? ⟨ag, 1, none⟩ = some (.slice aj ((rd_T38 ac a2).f1).length ak) ∧ w'.cell? ⟨ag, 2, none⟩ = some (.slice ar ((rd_T38 ac a2).f2).length au) ∧ w'.cell? ⟨ag, 3, none⟩ = some (.slice av ((rd_T38 ac a2).f3).length aw) ∧ w'.cell? ⟨ag, 4, none⟩ = some (.int .i64 ((rd_T38 ac a2).f4)) ∧ w'.cell? ⟨aq, 0, none⟩ = some (.string aZ) ∧ w'.cell? ⟨aq, 1, none⟩ = some (.slice (some ao) ah.length a6) ∧ w'.cell? ⟨aq, 2, none⟩ = some (.slice (some aI) ac.length a7) ∧ w'.cell? (ax.add (ab).toNat) = some (.int .i64 (rd l1 ab)) ∧ w'.cell? (ax.add (ab).toNat) = some (.int .i64 (rd l1 ab)) ∧ w'.cell? (ao.add ((ab).toNat * 3)) = some (.string ((rd_T64 ah ab).f0)) ∧ w'.cell? ⟨(ao.add ((ab).toNat * 3)).block, (ao.add ((ab).toNat * 3)).off + 1, none⟩ = some (.int .i64 ((rd_T64 ah ab).f1)) ∧ w'.cell? ⟨(ao.add ((ab).toNat * 3)).block, (ao.add ((ab).toNat * 3)).off + 2, none⟩ = some (.int .i64 ((rd_T64 ah ab).f2)) ∧ w'.cell? (ao.add ((ab).toNat * 3)) = some (.string ((rd_T64 ah ab).f0)) ∧ w'.cell? ⟨(ao.add ((ab).toNat * 3)).block, (ao.add ((ab).toNat * 3)).off + 1, none⟩ = some (.int .i64 ((rd_T64 ah ab).f1)) ∧ w'.cell? ⟨(ao.add ((ab).toNat * 3)).block, (ao.add ((ab).toNat * 3)).off + 2, none⟩ = some (.int .i64 ((rd_T64 ah ab).f2))) (ds := []) #[false, false, false, false, false, false, false, false, false, false, false, false, false, false, false, false, false, false, false, false, false, false, false, false, false, false, false, false, false, false, false, false, false, false, false, false, false, false, false, false] (by kernel_rfl) rfl rfl ⟨(qBI aa.1 0).trans rfl, (qBI aa.1 1).trans rfl, (qBI aa.1 2).trans rfl, (qBI aa.1 3).trans rfl, (qBI aa.1 4).trans rfl, (qBI ae.1 0).trans rfl, (qBI ae.1 1).trans rfl, (qBI ae.1 2).trans rfl, (cbl HB.1 ai), (cbl HB.1 aG), (cbl HB.1 aT), (cbl HB.1 aU), (cbl HB.1 aV), (cbl HB.1 bf), (cbl HB.1 bg), (cbl HB.1 bh)⟩ (fun hHeld => ?_); refine qCL qBH.tab7 qBH.bits7 (fun HT_ HW_ => ?_)
  generalize aH.drew = db at ae aa HB af al ay az aA aL aM aN hHeld ⊢
  refine pu HT_.1 0 41 ?_
  refine pu HT_.1 1 42 ?_
  refine pu HT_.1 2 43 ?_
  refine pu HT_.1 4 45 ?_
  refine pu HT_.1 6 47 ?_
  refine tk HT_.1 HW_.1 hHeld 3 44 ?_
  refine tk HT_.1 HW_.1 hHeld 5 46 ?_
  refine on HT_.1 7 (some 48) rfl fun K hK => ?_
  refine goes_ Try.func88 (by kernel_rfl) rfl #[.slice aj ((rd_T38 ac a2).f1).length ak, .int .i64 ab] (by rfl) rfl rfl pgz ?_
  with_reducible refine (qBG.calls k1 _ _ ((rd_T38 ac a2).f1) ab bA _ ?side1 ?side2 b6.1).mono ?_
  (case side1 => exact csb aK HB)
  (case side2 => exact aJ.1)
  rintro e w' ⟨rfl, ⟨nd, rfl⟩⟩
  refine ⟨_, rfl, ?_⟩
  refine hK.out _ _ ⟨(qBI aa.1 0).trans rfl, (qBI aa.1 1).trans rfl, (qBI aa.1 2).trans rfl, (qBI aa.1 3).trans rfl, (qBI aa.1 4).trans rfl, (qBI ae.1 0).trans rfl, (qBI ae.1 1).trans rfl, (qBI ae.1 2).trans rfl, (cbl HB.1 ai), (cbl HB.1 aG), (cbl HB.1 aT), (cbl HB.1 aU), (cbl HB.1 aV), (cbl HB.1 bf), (cbl HB.1 bg), (cbl HB.1 bh)⟩ (fun hHeld => ?_)
  clear hK K
  refine nm_ 48 ?_
  refine pu HT_.1 8 49 ?_
  refine pu HT_.1 9 50 ?_
  refine pu HT_.1 10 51 ?_
  refine pu HT_.1 11 52 ?_
  refine pu HT_.1 12 53 ?_
  refine pu HT_.1 13 54 ?_
  refine pu HT_.1 14 55 ?_
  refine pu HT_.1 15 56 ?_
  refine pu HT_.1 17 58 ?_
  refine tk HT_.1 HW_.1 hHeld 16 57 ?_
  refine pu HT_.1 18 59 ?_
  refine pu HT_.1 19 60 ?_
  refine pu HT_.1 20 61 ?_
  refine pu HT_.1 21 62 ?_
  refine pu HT_.1 22 63 ?_
  refine pu HT_.1 24 65 ?_
  refine tk HT_.1 HW_.1 hHeld 23 64 ?_
  refine pu HT_.1 25 66 ?_
  refine pu HT_.1 26 67 ?_
  refine tk HT_.1 HW_.1 hHeld 27 68 ?_
  refine pu HT_.1 28 69 ?_
  refine pu HT_.1 29 70 ?_
  refine pu HT_.1 30 71 ?_
  refine pu HT_.1 31 72 ?_
  refine pu HT_.1 33 74 ?_
  refine tk HT_.1 HW_.1 hHeld 32 73 ?_
  refine pu HT_.1 34 75 ?_
  refine pu HT_.1 35 76 ?_
  refine tk HT_.1 HW_.1 hHeld 36 77 ?_
  refine pu HT_.1 37 78 ?_
  refine pu HT_.1 38 79 ?_
  refine pu HT_.1 39 80 ?_
  refine done_ (done_of HT_.1 (by kernel_rfl)) ?_
  try go_wp2
  go_ret
  exact ⟨per, pbg⟩
 have H' := am H
 clear H
 try go_wp2
 iterate 3 (try (rw [drewN_self aH]; generalize hq_ : World.drewN aH _ = aH; replace ae : Aside0 (aH.heap[aq]? = some (.cells #[.string aZ, .slice a5 ah.length a6, .slice (some aI) ac.length a7] 25 (0, 0))) := ⟨by rw [← hq_]; exact (by exact pbk ae.1)⟩; replace aa : Aside0 (aH.heap[ag]? = some (.cells #[.string ((rd_T38 ac a2).f0), .slice aj ((rd_T38 ac a2).f1).length ak, .slice ar ((rd_T38 ac a2).f2).length au, .slice av ((rd_T38 ac a2).f3).length aw, .int .i64 ((rd_T38 ac a2).f4)] 38 (0, 0))) := ⟨by rw [← hq_]; exact (by exact pbk aa.1)⟩; replace HB : Aside0 (Below w.heap.size w aH) := ⟨by rw [← hq_]; exact pbg⟩; clear hq_))
 replace ae := am (qBM ae.1)
 replace aa := am (qBM aa.1)
 replace HB := am (qCB HB.1)
 have aE : 0 ≤ (ab : Int) := dq
 have aF : ab < (l1.length : Int) := dq
 obtain ⟨aS, bb, af⟩ := Kd.at_int bS.1 ab aE aF
 have ai := af
 obtain rfl : ax = aS := (by injection bb)
 replace af := cbl HB.1 af
 replace aE := eq_true aE
 replace aF := eq_true aF
 have bc : 0 ≤ (ab : Int) := dq
 have bd : ab < (l1.length : Int) := dq
 obtain ⟨bu, bH, al⟩ := Kd.at_int bS.1 ab bc bd
 have aG := al
 obtain rfl : ax = bu := (by injection bH)
 replace al := cbl HB.1 al
 replace bc := eq_true bc
 replace bd := eq_true bd
 have bv : 0 ≤ (ab : Int) := dq
 have bx : ab < (ah.length : Int) := dq
 obtain ⟨ao, bV, ay, az, aA⟩ := at_T64 ba.1 ab bv bx
 have aV := aA
 have aU := az
 have aT := ay
 cases bV
 replace ay := cbl HB.1 ay
 replace az := cbl HB.1 az
 replace aA := cbl HB.1 aA
 replace bv := eq_true bv
 replace bx := eq_true bx
 have bI : 0 ≤ (ab : Int) := dq
 have bK : ab < (ah.length : Int) := dq
 obtain ⟨bT, cd, aL, aM, aN⟩ := at_T64 ba.1 ab bI bK
 have bh := aN
 have bg := aM
 have bf := aL
 obtain rfl : ao = bT := (by injection cd)
 replace aL := cbl HB.1 aL
 replace aM := cbl HB.1 aM
 replace aN := cbl HB.1 aN
 replace bI := eq_true bI
 replace bK := eq_true bK
 refine start_ (n := 40) (S := fun w' => w'.cell? ⟨ag, 0, none⟩ = some (.string ((rd_T38 ac a2).f0)) ∧ w'.cell? ⟨ag, 1, none⟩ = some (.slice aj ((rd_T38 ac a2).f1).length ak) ∧ w'.cell? ⟨ag, 2, none⟩ = some (.slice ar ((rd_T38 ac a2).f2).length au) ∧ w'.cell? ⟨ag, 3, none⟩ = some (.slice av ((rd_T38 ac a2).f3).length aw) ∧ w'.cell? ⟨ag, 4, none⟩ = some (.int .i64 ((rd_T38 ac a2).f4)) ∧ w'.cell? ⟨aq, 0, none⟩ = some (.string aZ) ∧ w'.cell? ⟨aq, 1, none⟩ = some (.slice (some ao) ah.length a6) ∧ w'.cell? ⟨aq, 2, none⟩ = some (.slice (some aI) ac.length a7) ∧ w'.cell? (ax.add (ab).toNat) = some (.int .i64 (rd l1 ab)) ∧ w'.cell? (ax.add (ab).toNat) = some (.int .i64 (rd l1 ab)) ∧ w'.cell? (ao.add ((ab).toNat * 3)) = some (.string ((rd_T64 ah ab).f0)) ∧ w'.cell? ⟨(ao.add ((ab).toNat * 3)).block, (ao.add ((ab).toNat * 3)).off + 1, none⟩ = some (.int .i64 ((rd_T64 ah ab).f1)) ∧ w'.cell? ⟨(ao.add ((ab).toNat * 3)).block, (ao.add ((ab).toNat * 3)).off + 2, none⟩ = some (.int .i64 ((rd_T64 ah ab).f2)) ∧ w'.cell? (ao.add ((ab).toNat * 3)) = some (.string ((rd_T64 ah ab).f0)) ∧ w'.cell? ⟨(ao.add ((ab).toNat * 3)).block, (ao.add ((ab).toNat * 3)).off + 1, none⟩ = some (.int .i64 ((rd_T64 ah ab).f1)) ∧ w'.cell? ⟨(ao.add ((ab).toNat * 3)).block, (ao.add ((ab).toNat * 3)).off + 2, none⟩ = some (.int .i64 ((rd_T64 ah ab).f2))) (ds := []) #[false, false, false, false, false, false, false, false, false, false, false, false, false, false, false, false, false, false, false, false, false, false, false, false, false, false, false, false, false, false, false, false, false, false, false, false, false, false, false, false] (by kernel_rfl) rfl rfl ⟨(qBI aa.1 0).trans rfl, (qBI aa.1 1).trans rfl, (qBI aa.1 2).trans rfl, (qBI aa.1 3).trans rfl, (qBI aa.1 4).trans rfl, (qBI ae.1 0).trans rfl, (qBI ae.1 1).trans rfl, (qBI ae.1 2).trans rfl, (cbl HB.1 ai), (cbl HB.1 aG), (cbl HB.1 aT), (cbl HB.1 aU), (cbl HB.1 aV), (cbl HB.1 bf), (cbl HB.1 bg), (cbl HB.1 bh)⟩ (fun hHeld => ?_); refine qCL qBH.tab7 qBH.bits7 (fun HT_ HW_ => ?_)
 generalize aH.drew = dc at ae aa HB af al ay az aA aL aM aN hHeld ⊢
 refine pu HT_.1 0 41 ?_
 refine pu HT_.1 1 42 ?_
 refine pu HT_.1 2 43 ?_
 refine pu HT_.1 4 45 ?_
 refine pu HT_.1 6 47 ?_
 refine tk HT_.1 HW_.1 hHeld 3 44 ?_
 refine tk HT_.1 HW_.1 hHeld 5 46 ?_
 refine on HT_.1 7 (some 48) rfl fun K hK => ?_
 refine goes_ Try.func88 (by kernel_rfl) rfl #[.slice aj ((rd_T38 ac a2).f1).length ak, .int .i64 ab] (by rfl) rfl rfl pgz ?_
 with_reducible refine (qBG.calls k1 _ _ ((rd_T38 ac a2).f1) ab bA _ ?side1 ?side2 b6.1).mono ?_
 (case side1 => exact csb aK HB)
 (case side2 => exact aJ.1)
 rintro e w' ⟨rfl, ⟨nd, rfl⟩⟩
 refine ⟨_, rfl, ?_⟩
 refine hK.out _ _ ⟨(qBI aa.1 0).trans rfl, (qBI aa.1 1).trans rfl, (qBI aa.1 2).trans rfl, (qBI aa.1 3).trans rfl, (qBI aa.1 4).trans rfl, (qBI ae.1 0).trans rfl, (qBI ae.1 1).trans rfl, (qBI ae.1 2).trans rfl, (cbl HB.1 ai), (cbl HB.1 aG), (cbl HB.1 aT), (cbl HB.1 aU), (cbl HB.1 aV), (cbl HB.1 bf), (cbl HB.1 bg), (cbl HB.1 bh)⟩ (fun hHeld => ?_)
 clear hK K
 refine nm_ 48 ?_
 refine pu HT_.1 8 49 ?_
 refine pu HT_.1 9 50 ?_
 refine pu HT_.1 10 51 ?_
 refine pu HT_.1 11 52 ?_
 refine pu HT_.1 12 53 ?_
 refine pu HT_.1 13 54 ?_
 refine pu HT_.1 14 55 ?_
 refine pu HT_.1 15 56 ?_
 refine pu HT_.1 17 58 ?_
 refine tk HT_.1 HW_.1 hHeld 16 57 ?_
 refine pu HT_.1 18 59 ?_
 refine pu HT_.1 19 60 ?_
 refine pu HT_.1 20 61 ?_
 refine pu HT_.1 21 62 ?_
 refine pu HT_.1 22 63 ?_
 refine pu HT_.1 24 65 ?_
 refine tk HT_.1 HW_.1 hHeld 23 64 ?_
 refine pu HT_.1 25 66 ?_
 refine pu HT_.1 26 67 ?_
 refine tk HT_.1 HW_.1 hHeld 27 68 ?_
 refine pu HT_.1 28 69 ?_
 refine pu HT_.1 29 70 ?_
 refine pu HT_.1 30 71 ?_
 refine pu HT_.1 31 72 ?_
 refine pu HT_.1 33 74 ?_
 refine tk HT_.1 HW_.1 hHeld 32 73 ?_
 refine pu HT_.1 34 75 ?_
 refine pu HT_.1 35 76 ?_
 refine tk HT_.1 HW_.1 hHeld 36 77 ?_
 refine pu HT_.1 37 78 ?_
 refine pu HT_.1 38 79 ?_
 refine pu HT_.1 39 80 ?_
 refine done_ (done_of HT_.1 (by kernel_rfl)) ?_
 try go_wp2
 go_roundg k1
 case measure => have := b7.1; omega
 case rel => exact ⟨(wrap64 (ab + 1)), prs, H', ⟨by have := b7.1; omega⟩, ⟨pbk ae.1⟩, ⟨pbk aa.1⟩, ⟨pbg⟩⟩

/-! ### r11_Fires: function 51 -/
mutual
def r11_Fires.l0 : Nat → List Int → List Int → Int → Int → ByteArray → List (S64) → List (S38) → Option (List Int)
 | 0, _, _, _, _, _, _, _ => none
 | k + 1, x1, x5, x6, x7, ag, ah, ab => if x7 < (ab.length : Int) then ((qBH.f k ag ah ab x1 x7).bind fun bu => (if bu = true then (if x5.length < 17592186044416 then (if 0 ≤ x7 then (r11_Fires.l0 k x1 (x5 ++ [x7]) (mx x6 ((rd_T38 ab x7).f4)) (wrap64 (x7 + 1)) ag ah ab) else (none)) else (none)) else (r11_Fires.l0 k x1 x5 x6 (wrap64 (x7 + 1)) ag ah ab))) else (r11_Fires.l1 k x5 x6 ([] : List Int) 0 ag ah ab)
def r11_Fires.l1 : Nat → List Int → Int → List Int → Int → ByteArray → List (S64) → List (S38) → Option (List Int)
 | 0, _, _, _, _, _, _, _ => none
 | k + 1, x5, x6, x8, x9, ag, ah, ab => if x9 < (x5.length : Int) then (if 0 ≤ x9 then (if 0 ≤ (rd x5 x9) then (if (rd x5 x9) < (ab.length : Int) then (if ((rd_T38 ab (rd x5 x9)).f4) = x6 then (if x8.length < 17592186044416 then (r11_Fires.l1 k x5 x6 (x8 ++ [rd x5 x9]) (wrap64 (x9 + 1)) ag ah ab) else (none)) else (r11_Fires.l1 k x5 x6 x8 (wrap64 (x9 + 1)) ag ah ab)) else (none)) else (none)) else (none)) else (some x8)
end
def r11_Fires.f (k : Nat) (aj : ByteArray) (ai : List (S64)) (ae : List (S38)) (l1 : List Int) : Option (List Int) := r11_Fires.l0 k l1 ([] : List Int) 0 0 aj ai ae
theorem r11_Fires.calls (k : Nat) (aj : ByteArray) (aR : Option Addr) (a4 : Nat) (ai : List (S64)) (aT : Option Addr) (a5 : Nat) (ae : List (S38)) (A1 : Option Addr) (c1 : Nat) (l1 : List Int) (r : List Int) (w : World) (bj : Kd.C k64 w aR ai.length ai) (bh : ai.length ≤ a4) (bk : Kd.C k38 w aT ae.length ae) (bi : ae.length ≤ a5) (hr1 : Kd.C (Kd.int .i64) w A1 l1.length l1) (cw : l1.length ≤ c1) (h : r11_Fires.f k aj ai ae l1 = some r) :
  Calls Try.prog 51 #[.agg #[.string aj, .slice aR ai.length a4, .slice aT ae.length a5], .slice A1 l1.length c1] w fun e w' => ∃ v0_ : Value, e = .returned (v0_) ∧ Kd.R (Kd.int .i64) 3 w' w.heap.size (fun _ => True) v0_ r ∧ Below w.heap.size w w' := by
 have cC := Try.underlying25
 have az := am bj
 have ax := am bh
 clear bj bh
 have ao := am bk
 have ay := am bi
 clear bk bi
 have bP := am hr1
 have bK := am cw
 clear hr1 cw
 have HB := am (Below.refl w.heap.size w)
 have H := h
 unfold r11_Fires.f at H
 clear h
 have H' := am H
 clear H
 go_enter Try.func51, Try.ntmps51
 iterate 4 (try go_wp2_with (first | ((with_reducible refine qBN (N := 2) rfl ?_); refine box_ev ?_; intro bg hg w3 hbox hb; have aa := am hbox; have bw := gwl hg; have ck := bw; replace HB := bsl hb; clear hb hbox hg)); try go_quiet (fail))
 go_loopg [5, 6, 7] k (fun kq v5 v6 v7 w' => ∃ (ak : List Int) (ap : Int) (af : Int), v6 = .int .i64 ap ∧ v7 = .int .i64 af ∧ Aside0 (r11_Fires.l0 kq l1 ak ap af aj ai ae = some r) ∧ Aside0 (kq ≤ k) ∧ Aside0 (Kd.R (Kd.int .i64) 3 w' w.heap.size (fun _ => True) v5 ak) ∧ Aside0 (w'.heap[bg]? = some (.cells #[.string aj, (.slice aR ai.length a4), (.slice aT ae.length a5)] 25 (0, 0))) ∧ Aside0 (Below w.heap.size w w'))
 case atStart => exact ⟨(([] : List Int)), (0), (0), prs, prs, H', ⟨Nat.le_refl _⟩, ⟨knl⟩, ⟨pbk aa.1⟩, ⟨pbg⟩⟩
 clear H'
 try clear c1
 obtain ⟨ak, ap, af, rfl, rfl, HA, bf, ac, aa, HB⟩ := hrel
 obtain _ | k1 := gk
 ·exact absurd HA.1 (by simp [r11_Fires.l0])
 have H := HA.1
 clear HA
 simp only [r11_Fires.l0] at H
 replace H := ifl H
 rcases H with ⟨bI, H⟩ | ⟨bI, H⟩
 ·replace H := bnd H
  obtain ⟨bu, A5, H⟩ := H
  (try dsimp only at H)
  cases bu
  ·rw [if_neg Bool.false_ne_true] at H
   have H' := am H
   clear H
   have ci := cf3 aa.1
   iterate 4 (try go_wp2_with (first | (go_at_call 87; (with_reducible refine (qBH.calls k1 aj _ _ ai _ _ ae _ _ l1 af false _ ?side1 ?side2 ?side3 ?side4 ?side5 ?side6 A5.1).mono ?_); (case side1 => exact csb az HB); (case side2 => exact ax.1); (case side3 => exact csb ao HB); (case side4 => exact ay.1); (case side5 => exact csb bP HB); (case side6 => exact bK.1); rintro e cI ⟨rfl, hb⟩; replace ac := rbw ac hb; replace aa := bbh aa hb; replace HB := bst hb; (try clear hb))); try go_quiet (first | (go_at_call 87; (with_reducible refine (qBH.calls k1 aj _ _ ai _ _ ae _ _ l1 af false _ ?side1 ?side2 ?side3 ?side4 ?side5 ?side6 A5.1).mono ?_); (case side1 => exact csb az HB); (case side2 => exact ax.1); (case side3 => exact csb ao HB); (case side4 => exact ay.1); (case side5 => exact csb bP HB); (case side6 => exact bK.1); rintro e cI ⟨rfl, hb⟩; replace ac := rbw ac hb; replace aa := bbh aa hb; replace HB := bst hb; (try clear hb))))
   go_roundg k1
   case measure => have := bf.1; omega
   case rel => exact ⟨(ak), (ap), (wrap64 (af + 1)), prs, prs, H', ⟨by have := bf.1; omega⟩, ⟨pkr ac.1⟩, ⟨pbk aa.1⟩, ⟨pbg⟩⟩
  rw [if_pos rfl] at H
  replace H := ifp H
  obtain ⟨c7, H⟩ := H
  have bX := am c7
  clear c7
  obtain ⟨bv, aN⟩ : ∃ y_ : List Int, y_ = (ak ++ [af]) := ⟨_, rfl⟩
  replace H : (if 0 ≤ af then (r11_Fires.l0 k1 l1 bv (mx ap ((rd_T38 ae af).f4)) (wrap64 (af + 1)) aj ai ae) else (none)) = some r := hrp aN H
  have bB := am aN
  clear aN
  replace H := ifd H
  obtain ⟨b1, H⟩ := H
  obtain ⟨ca, aM⟩ : ∃ j_ : Int, (mx ap ((rd_T38 ae af).f4)) = j_ := ⟨_, rfl⟩
  replace H : (r11_Fires.l0 k1 l1 bv ca (wrap64 (af + 1)) aj ai ae) = some r := by first | (rw [aM] at H; exact H) | (simp only [aM] at H ⊢; exact H)
  (try rw [aM] at A5)
  have hji9_ : (if ap < ((rd_T38 ae af).f4) then ((rd_T38 ae af).f4) else ap) = ca := aM
  have H' := am H
  clear H
  have cg := cf3 aa.1
  iterate 4 (try go_wp2_with (first | (go_at_call 87; (with_reducible refine (qBH.calls k1 aj _ _ ai _ _ ae _ _ l1 af true _ ?side1 ?side2 ?side3 ?side4 ?side5 ?side6 A5.1).mono ?_); (case side1 => exact csb az HB); (case side2 => exact ax.1); (case side3 => exact csb ao HB); (case side4 => exact ay.1); (case side5 => exact csb bP HB); (case side6 => exact bK.1); rintro e cH ⟨rfl, hb⟩; replace ac := rbw ac hb; replace aa := bbh aa hb; replace HB := bst hb; (try clear hb)) | ((with_reducible refine qBQ (b := .append) (xs := #[.tmp 21, .tmp 23]) rfl ?_); at_builtin; refine Kd.R_append (Kd.int .i64) (w0 := w) w.heap.size rfl (.tmp 21) (.tmp 23) 39 3 (.int .i64 0) 8 rfl Try.underlying39 info3 rfl (by decide) (by omega) u5 ak af [.int .i64 af] (fun _ => True) (fun _ => False) rfl rfl ?aP (fun _ hk => hk.elim) ?aF ?aO ?aB ?aS ?aL ?_; (case aP => exact rfl); (case aB => exact pbg); (case aF => exact (fun _ _ => trivial)); (case aO => exact (pkr ac.1)); (case aS => exact (qBJ pbg)); (case aL => have := bX.1; omega); intro cF cL ho hb hg hat; rw [← bB.1] at ho; have bx := am ho; replace aa := (bgr aa hg (Kd.R_ne ac.1 aa.1 (by decide))); replace HB := am hb; clear ac; clear ho hb hg hat; have ch := cf3 aa.1; have bc : 0 ≤ (af : Int) := dq; have bd : af < (ae.length : Int) := dq; obtain ⟨cm, bU, bY, bV, bZ, bW, b0, b3, aq, ar, au, av, aw, aE, aA, aG, aC, aH, aD⟩ := at_T38 ao.1 af bc bd; cases b3; replace aq := cbl HB.1 aq; replace ar := cbl HB.1 ar; replace au := cbl HB.1 au; replace av := cbl HB.1 av; replace aw := cbl HB.1 aw; have bQ := am aA; have bL := am aE; clear aA aE; have bR := am aC; have bM := am aG; clear aC aG; have bS := am aD; have bN := am aH; clear aD aH; replace bc := eq_true bc; replace bd := eq_true bd)); try go_quiet (first | (go_at_call 87; (with_reducible refine (qBH.calls k1 aj _ _ ai _ _ ae _ _ l1 af true _ ?side1 ?side2 ?side3 ?side4 ?side5 ?side6 A5.1).mono ?_); (case side1 => exact csb az HB); (case side2 => exact ax.1); (case side3 => exact csb ao HB); (case side4 => exact ay.1); (case side5 => exact csb bP HB); (case side6 => exact bK.1); rintro e cH ⟨rfl, hb⟩; replace ac := rbw ac hb; replace aa := bbh aa hb; replace HB := bst hb; (try clear hb))))
  go_roundg k1
  case measure => have := bf.1; omega
  case rel => exact ⟨(bv), (ca), (wrap64 (af + 1)), (by first | rfl | (simp; done) | (simp only [← aM] <;> (first | rfl | simp)) | (simp [*]; done)), prs, H', ⟨by have := bf.1; omega⟩, ⟨pkr bx.1⟩, ⟨pbk aa.1⟩, ⟨pbg⟩⟩
 have H' := am H
 clear H
 have cj := cf3 aa.1
 go_wp2
 repeat (go_quiet (fail); try go_wp2)
 go_loopg [8, 9] k1 (fun kq v8 v9 w' => ∃ (aI : List Int) (al : Int), v9 = .int .i64 al ∧ Aside0 (r11_Fires.l1 kq ak ap aI al aj ai ae = some r) ∧ Aside0 (kq ≤ k1) ∧ Aside0 (Kd.R (Kd.int .i64) 3 w' w.heap.size (fun k_ => some k_ ≠ (v8 : Value).ownBlock) u5 ak) ∧ Aside0 (Kd.R (Kd.int .i64) 3 w' w.heap.size (fun k_ => some k_ ≠ (u5 : Value).ownBlock) v8 aI) ∧ Aside0 (w'.heap[bg]? = some (.cells #[.string aj, (.slice aR ai.length a4), (.slice aT ae.length a5)] 25 (0, 0))) ∧ Aside0 (Below w.heap.size w w'))
 case atStart => exact ⟨(([] : List Int)), (0), prs, H', ⟨Nat.le_refl _⟩, ⟨rmo ac.1 (fun _ hk => (by simp [Value.ownBlock]))⟩, ⟨knl⟩, ⟨pbk aa.1⟩, ⟨pbg⟩⟩
 clear H'
 try clear c1 bI c6 c7 c8 b1 cg ch ci cj aq ar au av aw bc bd
 obtain ⟨aI, al, rfl, HA, bO, ac, aJ, aa, HB⟩ := hrel
 obtain _ | k2 := gk
 ·exact absurd HA.1 (by simp [r11_Fires.l1])
 have H := HA.1
 clear HA
 simp only [r11_Fires.l1] at H
 replace H := ifl H
 rcases H with ⟨bF, H⟩ | ⟨bF, H⟩
 rotate_left
 ·obtain rfl := Option.some.inj H
  obtain ⟨cz, cB, b7⟩ := Kd.R_slice ac.1
  subst b7
  go_wp2
  repeat (go_quiet (fail); try go_wp2)
  go_ret
  exact ⟨_, per, by (with_reducible repeat (first | apply Kd.R_alloc | apply Kd.R_drewN | apply Kd.R_drew)); exact Kd.R_mono aJ.1 (fun _ hk => trivial), pbg⟩
 replace H := ifd H
 obtain ⟨co, H⟩ := H
 replace H := ifd H
 obtain ⟨cq, H⟩ := H
 replace H := ifd H
 obtain ⟨cu, H⟩ := H
 replace H := ife H
 rcases H with ⟨bG, bH, H⟩ | ⟨bG, bH, H⟩
 rotate_left
 ·have H' := am H
  clear H
  obtain ⟨cy, cA, b6⟩ := Kd.R_slice ac.1
  subst b6
  have cK := cf3 aa.1
  obtain ⟨cb, ce, aK, br, a6⟩ := dint (Kd.qBR ac.1).2.2 al
  cases br
  obtain ⟨cd, cf, bD, bl, bo, bm, bp, bn, bq, bs, a7, a8, a9, ba, bb, aU, aX, aV, aY, aW, aZ⟩ := bT38 ao.1 HB.1 (rd ak al)
  cases bs
  go_wp2
  repeat (go_quiet (fail); try go_wp2)
  go_roundg k2
  case measure => have := bf.1; have := bO.1; omega
  case rel => exact ⟨(aI), (wrap64 (al + 1)), prs, H', ⟨by have := bf.1; have := bO.1; omega⟩, ⟨pkr ac.1⟩, ⟨pkr aJ.1⟩, ⟨pbk aa.1⟩, ⟨pbg⟩⟩
 replace H := ifp H
 obtain ⟨cv, H⟩ := H
 have bA := am cv
 clear cv
 obtain ⟨bJ, aQ⟩ : ∃ y_ : List Int, y_ = (aI ++ [rd ak al]) := ⟨_, rfl⟩
 replace H : (r11_Fires.l1 k2 ak ap bJ (wrap64 (al + 1)) aj ai ae) = some r := hrp aQ H
 have bC := am aQ
 clear aQ
 have H' := am H
 clear H
 obtain ⟨cx, b2, b5⟩ := Kd.R_slice ac.1
 subst b5
 have cJ := cf3 aa.1
 obtain ⟨cb, ce, aK, br, a6⟩ := dint (Kd.qBR ac.1).2.2 al
 cases br
 obtain ⟨cd, cf, bD, bl, bo, bm, bp, bn, bq, bs, a7, a8, a9, ba, bb, aU, aX, aV, aY, aW, aZ⟩ := bT38 ao.1 HB.1 (rd ak al)
 cases bs
 obtain ⟨cD, cE, bE, b4, bT⟩ := dint (Kd.qBR ac.1).2.2 al
 obtain rfl : aK = bE := (by injection b4)
 iterate 4 (try go_wp2_with (first | ((with_reducible refine qBQ (b := .append) (xs := #[.tmp 50, .tmp 55]) rfl ?_); at_builtin; refine Kd.R_append (Kd.int .i64) (w0 := w) w.heap.size rfl (.tmp 50) (.tmp 55) 39 3 (.int .i64 0) 8 rfl Try.underlying39 info3 rfl (by decide) (by omega) u8 aI (rd ak al) [.int .i64 (rd ak al)] (fun k_ => some k_ ≠ (.slice (some aK) ak.length b2 : Value).ownBlock) (fun _ => False) rfl rfl ?aP (fun _ hk => hk.elim) ?aF ?aO ?aB ?aS ?aL ?_; (case aP => exact rfl); (case aB => exact pbg); (case aF => exact (fun k_ hk => Kd.fresh' (Kd.R_lt (pkr ac.1)) k_ hk)); (case aO => exact (pkr aJ.1)); (case aS => exact (qBJ pbg)); (case aL => have := bA.1; omega); intro cG cM ho hb hg hat; rw [← bC.1] at ho; have bz := am ho; replace ac := am (Kd.R_after (ok := (fun _ => True)) (by (with_reducible repeat (first | apply Kd.R_alloc | apply Kd.R_drewN | apply Kd.R_drew)); exact Kd.R_mono ac.1 (fun _ hk => ⟨trivial, hk⟩)) hg hat); replace aa := (bgr aa hg (Kd.R_ne aJ.1 aa.1 (by decide))); replace HB := am hb; clear aJ; clear ho hb hg hat)); try go_quiet (fail))
 go_roundg k2
 case measure => have := bf.1; have := bO.1; omega
 case rel => exact ⟨(bJ), (wrap64 (al + 1)), prs, H', ⟨by have := bf.1; have := bO.1; omega⟩, ⟨rmo ac.1 (fun _ hk => hk.2)⟩, ⟨pkr bz.1⟩, ⟨pbk aa.1⟩, ⟨pbg⟩⟩

/-! ### r11_After: function 52 -/
def r11_After.l0 : Nat → List Int → Int → List Int → Int → ByteArray → List (S64) → List (S38) → Option (List Int × Bool)
 | 0, _, _, _, _, _, _, _ => none
 | k + 1, x1, x2, x8, x9, bi, a6, aD => if x9 < (a6.length : Int) then (if 0 ≤ x9 then (if x9 < (x1.length : Int) then (if 0 ≤ x2 then (if x2 < (aD.length : Int) then ((qBG.f k ((rd_T38 aD x2).f1) x9).bind fun aH => ((qBG.f k ((rd_T38 aD x2).f2) x9).bind fun aI => (if (wrap64 ((wrap64 ((rd x1 x9) - aH)) + aI)) > 1048576 then (some (([] : List Int), false)) else (if x8.length < 17592186044416 then (r11_After.l0 k x1 x2 (x8 ++ [wrap64 ((wrap64 ((rd x1 x9) - aH)) + aI)]) (wrap64 (x9 + 1)) bi a6 aD) else (none))))) else (none)) else (none)) else (none)) else (none)) else (some (x8, true))
def r11_After.f (k : Nat) (aW : ByteArray) (aG : List (S64)) (ao : List (S38)) (l1 : List Int) (a2 : Int) : Option (List Int × Bool) := r11_After.l0 k l1 a2 ([] : List Int) 0 aW aG ao
theorem r11_After.calls (k : Nat) (aW : ByteArray) (bn : Option Addr) (bs : Nat) (aG : List (S64)) (bo : Option Addr) (bu : Nat) (ao : List (S38)) (A1 : Option Addr) (c1 : Nat) (l1 : List Int) (a2 : Int) (r1 : List Int) (r2 : Bool) (w : World) (bl : Kd.C k64 w bn aG.length aG) (bj : aG.length ≤ bs) (bm : Kd.C k38 w bo ao.length ao) (bk : ao.length ≤ bu) (hr1 : Kd.C (Kd.int .i64) w A1 l1.length l1) (bW : l1.length ≤ c1) (h : r11_After.f k aW aG ao l1 a2 = some (r1, r2)) :
  Calls Try.prog 52 #[.agg #[.string aW, .slice bn aG.length bs, .slice bo ao.length bu], .slice A1 l1.length c1, .int .i64 a2] w fun e w' => ∃ v0_ : Value, e = .returned (.tuple #[v0_, .bool r2]) ∧ Kd.R (Kd.int .i64) 3 w' w.heap.size (fun _ => True) v0_ r1 ∧ Below w.heap.size w w' := by
 have b1 := Try.underlying25
 have bT := am bl
 have bQ := am bj
 clear bl bj
 have aJ := am bm
 have bR := am bk
 clear bm bk
 have bU := am hr1
 have b6 := am bW
 clear hr1 bW
 have HB := am (Below.refl w.heap.size w)
 have H := h
 unfold r11_After.f at H
 clear h
 have H' := am H
 clear H
 go_enter Try.func52, Try.ntmps52
 iterate 4 (try go_wp2_with (first | ((with_reducible refine qBN (N := 3) rfl ?_); refine box_ev ?_; intro bH hg w4 hbox hb; have aw := am hbox; have bB := gwl hg; have bP := bB; replace HB := bsl hb; clear hb hbox hg)); try go_quiet (fail))
 go_loopg [8, 9] k (fun kq v8 v9 w' => ∃ (a8 : List Int) (ar : Int), v9 = .int .i64 ar ∧ Aside0 (r11_After.l0 kq l1 a2 a8 ar aW aG ao = some (r1, r2)) ∧ Aside0 (kq ≤ k) ∧ Aside0 (Kd.R (Kd.int .i64) 3 w' w.heap.size (fun _ => True) v8 a8) ∧ Aside0 (w'.heap[bH]? = some (.cells #[.string aW, (.slice bn aG.length bs), (.slice bo ao.length bu)] 25 (0, 0))) ∧ Aside0 (Below w.heap.size w w'))
 case atStart => exact ⟨(([] : List Int)), (0), prs, H', ⟨Nat.le_refl _⟩, ⟨knl⟩, ⟨pbk aw.1⟩, ⟨pbg⟩⟩
 clear H'
 try clear c1
 obtain ⟨a8, ar, rfl, HA, bS, bb, aw, HB⟩ := hrel
 obtain _ | k1 := gk
 ·exact absurd HA.1 (by simp [r11_After.l0])
 have H := HA.1
 clear HA
 simp only [r11_After.l0] at H
 replace H := ifl H
 rcases H with ⟨bJ, H⟩ | ⟨bJ, H⟩
 all_goals (try have wq_ := wr2 bJ)
 rotate_left
 ·simp only [Option.some.injEq, Prod.mk.injEq] at H
  obtain ⟨rfl, rfl⟩ := H
  have b5 := cf3 aw.1
  go_wp2
  repeat (go_quiet (fail); try go_wp2)
  go_ret2
  exact ⟨_, per, pkr bb.1, pbg⟩
 replace H := ifd H
 obtain ⟨bX, H⟩ := H
 replace H := ifd H
 obtain ⟨bY, H⟩ := H
 replace H := ifd H
 obtain ⟨bZ, H⟩ := H
 replace H := ifd H
 obtain ⟨b0, H⟩ := H
 replace H := bnd H
 obtain ⟨aH, A10, H⟩ := H
 (try dsimp only at H)
 replace H := bnd H
 obtain ⟨aI, A11, H⟩ := H
 (try dsimp only at H)
 replace H := ifg H
 rcases H with ⟨bG, H⟩ | ⟨bG, H⟩
 all_goals (try have wq_ := wr2 bG)
 ·simp only [Option.some.injEq, Prod.mk.injEq] at H
  obtain ⟨rfl, rfl⟩ := H
  have b3 := cf3 aw.1
  obtain ⟨bL, bN, bF, bz, bf⟩ := bint bU.1 HB.1 ar
  cases bz
  obtain ⟨bM, bO, aR, bp, bv, bq, bw, br, bx, bA, bg, az, aA, aC, bh, ax, ay, a9, bc, ba, bd⟩ := bT38 aJ.1 HB.1 a2
  cases bA
  iterate 4 (try go_wp2_with (first | (go_at_call 88; (with_reducible refine (qBG.calls k1 _ _ ((rd_T38 ao a2).f1) ar aH _ ?side1 ?side2 A10.1).mono ?_); (case side1 => exact csb ay HB); (case side2 => exact ax.1); rintro e w' ⟨rfl, ⟨nd, rfl⟩⟩; (try first | exact dw1 | exact dw2); have au : 0 ≤ (a2 : Int) := dq; have av : a2 < (ao.length : Int) := dq; obtain ⟨aE, aT, aX, aU, aY, aV, aZ, a5, ak, aa, ab, ac, al, ah, ae, ai, af, aj, ag⟩ := at_T38 aJ.1 a2 au av; obtain rfl : aR = aE := (by injection a5); replace ak := cbl HB.1 ak; replace aa := cbl HB.1 aa; replace ab := cbl HB.1 ab; replace ac := cbl HB.1 ac; replace al := cbl HB.1 al; have aN := am ae; have aK := am ah; clear ae ah; have aq := am af; have ap := am ai; clear af ai; have aQ := am ag; have aM := am aj; clear ag aj; replace au := eq_true au; replace av := eq_true av; have ea_ := Option.some.inj (az.symm.trans aa); injection ea_ with ea_ en_ ec_; subst ea_; subst ec_; clear en_; have ea_ := Option.some.inj (aA.symm.trans ab); injection ea_ with ea_ en_ ec_; subst ea_; subst ec_; clear en_; have ea_ := Option.some.inj (aC.symm.trans ac); injection ea_ with ea_ en_ ec_; subst ea_; subst ec_; clear en_) | (go_at_call 88; (with_reducible refine (qBG.calls k1 _ _ ((rd_T38 ao a2).f2) ar aI _ ?side1 ?side2 A11.1).mono ?_); (case side1 => exact csd ((Kd.qCG aq.1 pbg))); (case side2 => exact ap.1); rintro e w' ⟨rfl, ⟨nd, rfl⟩⟩; (try first | exact dw1 | exact dw2))); try go_quiet (first | (go_at_call 88; (with_reducible refine (qBG.calls k1 _ _ ((rd_T38 ao a2).f1) ar aH _ ?side1 ?side2 A10.1).mono ?_); (case side1 => exact csb ay HB); (case side2 => exact ax.1); rintro e w' ⟨rfl, ⟨nd, rfl⟩⟩; (try first | exact dw1 | exact dw2); have au : 0 ≤ (a2 : Int) := dq; have av : a2 < (ao.length : Int) := dq; obtain ⟨aE, aT, aX, aU, aY, aV, aZ, a5, ak, aa, ab, ac, al, ah, ae, ai, af, aj, ag⟩ := at_T38 aJ.1 a2 au av; obtain rfl : aR = aE := (by injection a5); replace ak := cbl HB.1 ak; replace aa := cbl HB.1 aa; replace ab := cbl HB.1 ab; replace ac := cbl HB.1 ac; replace al := cbl HB.1 al; have aN := am ae; have aK := am ah; clear ae ah; have aq := am af; have ap := am ai; clear af ai; have aQ := am ag; have aM := am aj; clear ag aj; replace au := eq_true au; replace av := eq_true av; have ea_ := Option.some.inj (az.symm.trans aa); injection ea_ with ea_ en_ ec_; subst ea_; subst ec_; clear en_; have ea_ := Option.some.inj (aA.symm.trans ab); injection ea_ with ea_ en_ ec_; subst ea_; subst ec_; clear en_; have ea_ := Option.some.inj (aC.symm.trans ac); injection ea_ with ea_ en_ ec_; subst ea_; subst ec_; clear en_) | (go_at_call 88; (with_reducible refine (qBG.calls k1 _ _ ((rd_T38 ao a2).f2) ar aI _ ?side1 ?side2 A11.1).mono ?_); (case side1 => exact csd ((Kd.qCG aq.1 pbg))); (case side2 => exact ap.1); rintro e w' ⟨rfl, ⟨nd, rfl⟩⟩; (try first | exact dw1 | exact dw2))))
  go_ret2
  exact ⟨_, per, knl, pbg⟩
 replace H := ifp H
 obtain ⟨bV, H⟩ := H
 have bD := am bV
 clear bV
 obtain ⟨bI, a7⟩ : ∃ y_ : List Int, y_ = (a8 ++ [wrap64 ((wrap64 ((rd l1 ar) - aH)) + aI)]) := ⟨_, rfl⟩
 replace H : (r11_After.l0 k1 l1 a2 bI (wrap64 (ar + 1)) aW aG ao) = some (r1, r2) := hrp a7 H
 have bE := am a7
 clear a7
 have H' := am H
 clear H
 have b4 := cf3 aw.1
 obtain ⟨bL, bN, bF, bz, bf⟩ := bint bU.1 HB.1 ar
 cases bz
 obtain ⟨bM, bO, aR, bp, bv, bq, bw, br, bx, bA, bg, az, aA, aC, bh, ax, ay, a9, bc, ba, bd⟩ := bT38 aJ.1 HB.1 a2
 cases bA
 iterate 4 (try go_wp2_with (first | (go_at_call 88; (with_reducible refine (qBG.calls k1 _ _ ((rd_T38 ao a2).f1) ar aH _ ?side1 ?side2 A10.1).mono ?_); (case side1 => exact csb ay HB); (case side2 => exact ax.1); rintro e w' ⟨rfl, ⟨nd, rfl⟩⟩; (try first | exact dw1 | exact dw2); have au : 0 ≤ (a2 : Int) := dq; have av : a2 < (ao.length : Int) := dq; obtain ⟨aE, aT, aX, aU, aY, aV, aZ, a5, ak, aa, ab, ac, al, ah, ae, ai, af, aj, ag⟩ := at_T38 aJ.1 a2 au av; obtain rfl : aR = aE := (by injection a5); replace ak := cbl HB.1 ak; replace aa := cbl HB.1 aa; replace ab := cbl HB.1 ab; replace ac := cbl HB.1 ac; replace al := cbl HB.1 al; have aN := am ae; have aK := am ah; clear ae ah; have aq := am af; have ap := am ai; clear af ai; have aQ := am ag; have aM := am aj; clear ag aj; replace au := eq_true au; replace av := eq_true av; have ea_ := Option.some.inj (az.symm.trans aa); injection ea_ with ea_ en_ ec_; subst ea_; subst ec_; clear en_; have ea_ := Option.some.inj (aA.symm.trans ab); injection ea_ with ea_ en_ ec_; subst ea_; subst ec_; clear en_; have ea_ := Option.some.inj (aC.symm.trans ac); injection ea_ with ea_ en_ ec_; subst ea_; subst ec_; clear en_) | (go_at_call 88; (with_reducible refine (qBG.calls k1 _ _ ((rd_T38 ao a2).f2) ar aI _ ?side1 ?side2 A11.1).mono ?_); (case side1 => exact csd ((Kd.qCG aq.1 pbg))); (case side2 => exact ap.1); rintro e w' ⟨rfl, ⟨nd, rfl⟩⟩; (try first | exact dw1 | exact dw2)) | ((with_reducible refine qBQ (b := .append) (xs := #[.tmp 42, .tmp 44]) rfl ?_); at_builtin; refine Kd.R_append (Kd.int .i64) (w0 := w) w.heap.size rfl (.tmp 42) (.tmp 44) 39 3 (.int .i64 0) 8 rfl Try.underlying39 info3 rfl (by decide) (by omega) u8 a8 (wrap64 ((wrap64 ((rd l1 ar) - aH)) + aI)) [.int .i64 (wrap64 ((wrap64 ((rd l1 ar) - aH)) + aI))] (fun _ => True) (fun _ => False) rfl rfl ?aP (fun _ hk => hk.elim) ?aF ?aO ?aB ?aS ?aL ?_; (case aP => exact rfl); (case aB => exact pbg); (case aF => exact (fun _ _ => trivial)); (case aO => exact (pkr bb.1)); (case aS => exact (qBJ pbg)); (case aL => have := bD.1; omega); intro b2 b7 ho hb hg hat; rw [← bE.1] at ho; have bC := am ho; replace aw := (bgr aw hg (Kd.R_ne bb.1 aw.1 (by decide))); replace HB := am hb; clear bb; clear ho hb hg hat)); try go_quiet (first | (go_at_call 88; (with_reducible refine (qBG.calls k1 _ _ ((rd_T38 ao a2).f1) ar aH _ ?side1 ?side2 A10.1).mono ?_); (case side1 => exact csb ay HB); (case side2 => exact ax.1); rintro e w' ⟨rfl, ⟨nd, rfl⟩⟩; (try first | exact dw1 | exact dw2); have au : 0 ≤ (a2 : Int) := dq; have av : a2 < (ao.length : Int) := dq; obtain ⟨aE, aT, aX, aU, aY, aV, aZ, a5, ak, aa, ab, ac, al, ah, ae, ai, af, aj, ag⟩ := at_T38 aJ.1 a2 au av; obtain rfl : aR = aE := (by injection a5); replace ak := cbl HB.1 ak; replace aa := cbl HB.1 aa; replace ab := cbl HB.1 ab; replace ac := cbl HB.1 ac; replace al := cbl HB.1 al; have aN := am ae; have aK := am ah; clear ae ah; have aq := am af; have ap := am ai; clear af ai; have aQ := am ag; have aM := am aj; clear ag aj; replace au := eq_true au; replace av := eq_true av; have ea_ := Option.some.inj (az.symm.trans aa); injection ea_ with ea_ en_ ec_; subst ea_; subst ec_; clear en_; have ea_ := Option.some.inj (aA.symm.trans ab); injection ea_ with ea_ en_ ec_; subst ea_; subst ec_; clear en_; have ea_ := Option.some.inj (aC.symm.trans ac); injection ea_ with ea_ en_ ec_; subst ea_; subst ec_; clear en_) | (go_at_call 88; (with_reducible refine (qBG.calls k1 _ _ ((rd_T38 ao a2).f2) ar aI _ ?side1 ?side2 A11.1).mono ?_); (case side1 => exact csd ((Kd.qCG aq.1 pbg))); (case side2 => exact ap.1); rintro e w' ⟨rfl, ⟨nd, rfl⟩⟩; (try first | exact dw1 | exact dw2))))
 go_roundg k1
 case measure => have := bS.1; omega
 case rel => exact ⟨(bI), (wrap64 (ar + 1)), prs, H', ⟨by have := bS.1; omega⟩, ⟨pkr bC.1⟩, ⟨pbk aw.1⟩, ⟨pbg⟩⟩

/-! ### r11_has: function 86 -/
def r11_has.l0 : Nat → List Int → Int → Int → Option (Bool)
 | 0, _, _, _ => none
 | k + 1, x0, x1, x5 => if x5 < (x0.length : Int) then (if 0 ≤ x5 then (if (rd x0 x5) = x1 then (some true) else (r11_has.l0 k x0 x1 (wrap64 (x5 + 1)))) else (none)) else (some false)
def r11_has.f (k : Nat) (l0 : List Int) (a1 : Int) : Option (Bool) := r11_has.l0 k l0 a1 0
theorem r11_has.calls (k : Nat) (A0 : Option Addr) (c0 : Nat) (l0 : List Int) (a1 : Int) (r : Bool) (w : World) (ap : Kd.C (Kd.int .i64) w A0 l0.length l0) (hc0 : l0.length ≤ c0) (h : r11_has.f k l0 a1 = some r) :
  Calls Try.prog 86 #[.slice A0 l0.length c0, .int .i64 a1] w fun e w' => e = .returned (.bool r) ∧ Drawn0 w w' := by
 have ao := am ap
 have ar := am hc0
 clear ap hc0
 have H : (r11_has.l0 k l0 a1 0) = some r := h
 clear h
 have H' := am H
 clear H
 go_enter Try.func86, Try.ntmps86
 go_wp2
 go_loopg [5] k (fun kq v5 w' => ∃ (aa : Int), v5 = .int .i64 aa ∧ Aside0 (r11_has.l0 kq l0 a1 aa = some r) ∧ Aside0 (kq ≤ k) ∧ Drawn0 w w')
 case atStart => exact ⟨(0), prs, H', ⟨Nat.le_refl _⟩, pdr⟩
 clear H'
 obtain ⟨aa, rfl, HA, al, ⟨m1, rfl⟩⟩ := hrel
 obtain _ | k1 := gk
 ·exact absurd HA.1 (by simp [r11_has.l0])
 have H := HA.1
 clear HA
 simp only [r11_has.l0] at H
 replace H := ifl H
 rcases H with ⟨af, H⟩ | ⟨af, H⟩
 rotate_left
 ·obtain rfl := Option.some.inj H
  go_wp2
  go_ret
  exact ⟨prs, pdr⟩
 replace H := ifd H
 obtain ⟨aq, H⟩ := H
 replace H := ife H
 rcases H with ⟨ag, ah, H⟩ | ⟨ag, ah, H⟩
 ·obtain rfl := Option.some.inj H
  obtain ⟨aj, ak, ae, ac, ab⟩ := dint ao.1 aa
  cases ac
  go_wp2
  go_ret
  exact ⟨prs, pdr⟩
 have H' := am H
 clear H
 obtain ⟨aj, ak, ae, ac, ab⟩ := dint ao.1 aa
 cases ac
 go_wp2
 go_roundg k1
 case measure => have := al.1; omega
 case rel => exact ⟨(wrap64 (aa + 1)), prs, H', ⟨by have := al.1; omega⟩, pdr⟩

/-! ### r11_Fire: function 50 -/
def r11_Fire.j0 : Nat → List Int → Int → Bool → ByteArray → List (S64) → List (S38) → Option (List Int × Int)
 | 0, _, _, _, _, _, _ => none
 | k + 1, x1, x2, bV, aH, aI, aJ => if bV = true then (some (([] : List Int), 1)) else ((r11_Fires.f k aH aI aJ x1).bind fun au => ((r11_has.f k au x2).bind fun a7 => (if a7 = true then ((r11_After.f k aH aI aJ x1 x2).bind fun aN => (if aN.2 = true then (some (aN.1, 0)) else (some (([] : List Int), 3)))) else (some (([] : List Int), 13)))))
def r11_Fire.f (k : Nat) (ao : ByteArray) (ag : List (S64)) (ah : List (S38)) (l1 : List Int) (a2 : Int) : Option (List Int × Int) := (r09_Check.f k ao ag ah).bind fun aM => (if aM.1 = 0 then ((r04_Valid.f k l1 (ag.length : Int)).bind fun a6 => (if a6 = true then (if a2 < 0 then (r11_Fire.j0 k l1 a2 true ao ag ah) else (r11_Fire.j0 k l1 a2 (decide (a2 ≥ (ah.length : Int))) ao ag ah)) else (some (([] : List Int), 2)))) else (some (([] : List Int), aM.1)))
theorem r11_Fire.calls (k : Nat) (ao : ByteArray) (aU : Option Addr) (aW : Nat) (ag : List (S64)) (aV : Option Addr) (aX : Nat) (ah : List (S38)) (A1 : Option Addr) (c1 : Nat) (l1 : List Int) (a2 : Int) (r1 : List Int) (r2 : Int) (w : World) (aS : Kd.C k64 w aU ag.length ag) (aO : ag.length ≤ aW) (aT : Kd.C k38 w aV ah.length ah) (aP : ah.length ≤ aX) (hr1 : Kd.C (Kd.int .i64) w A1 l1.length l1) (bv : l1.length ≤ c1) (h : r11_Fire.f k ao ag ah l1 a2 = some (r1, r2)) :
  Calls Try.prog 50 #[.agg #[.string ao, .slice aU ag.length aW, .slice aV ah.length aX], .slice A1 l1.length c1, .int .i64 a2] w fun e w' => ∃ v0_ : Value, e = .returned (.tuple #[v0_, .int .i64 r2]) ∧ Kd.R (Kd.int .i64) 3 w' w.heap.size (fun _ => True) v0_ r1 ∧ Below w.heap.size w w' := by
 have bL := Try.underlying25
 have bM := Try.underlying48
 have ak := am aS
 have ai := am aO
 clear aS aO
 have al := am aT
 have aj := am aP
 clear aT aP
 have aC := am hr1
 have aB := am bv
 clear hr1 bv
 have HB := am (Below.refl w.heap.size w)
 have H := h
 unfold r11_Fire.f at H
 clear h
 replace H := bnd H
 obtain ⟨⟨ay, az⟩, A4, H⟩ := H
 (try dsimp only at H)
 replace H := ife H
 rcases H with ⟨bf, bg, H⟩ | ⟨bf, bg, H⟩
 rotate_left
 ·simp only [Option.some.injEq, Prod.mk.injEq] at H
  obtain ⟨rfl, rfl⟩ := H
  go_enter Try.func50, Try.ntmps50
  iterate 4 (try go_wp2_with (first | ((with_reducible refine qBN (N := 3) rfl ?_); (try (refine qBP (by rfl) ?_; dsimp only)); refine box_ev ?_; intro aw hg b8 hbox hb; have aa := am hbox; have aq := gwl hg; have aD := aq; replace HB := bsl hb; clear hb hbox hg; have b2 := cf3 aa.1) | (go_at_call 34; (with_reducible refine (r09_Check.calls k ao _ _ ag _ _ ah ay az _ ?side1 ?side2 ?side3 ?side4 A4.1).mono ?_); (case side1 => exact csb ak HB); (case side2 => exact ai.1); (case side3 => exact csb al HB); (case side4 => exact aj.1); rintro e bU ⟨rfl, hb⟩; replace aa := bbh aa hb; replace HB := bst hb; (try clear hb)) | ((with_reducible refine qBN (N := 8) rfl ?_); (try (refine qBP (by rfl) ?_; dsimp only)); refine box_ev ?_; intro ax hg b9 hbox hb; have ae := am hbox; have ar := gwb hg; have aE := ar; have ab := nlt hg aa; have af := ngt hg aa; replace aa := bbh aa hb; replace HB := bst hb; clear hb hbox hg; have bC := af.1; have bI := ab.1; have b3 := cf2 ae.1)); try go_quiet (first | (go_at_call 34; (with_reducible refine (r09_Check.calls k ao _ _ ag _ _ ah ay az _ ?side1 ?side2 ?side3 ?side4 A4.1).mono ?_); (case side1 => exact csb ak HB); (case side2 => exact ai.1); (case side3 => exact csb al HB); (case side4 => exact aj.1); rintro e bU ⟨rfl, hb⟩; replace aa := bbh aa hb; replace HB := bst hb; (try clear hb))))
  go_ret2
  exact ⟨_, per, knl, pbg⟩
 replace H := bnd H
 obtain ⟨a6, A6, H⟩ := H
 (try dsimp only at H)
 cases a6
 ·rw [if_neg Bool.false_ne_true] at H
  simp only [Option.some.injEq, Prod.mk.injEq] at H
  obtain ⟨rfl, rfl⟩ := H
  go_enter Try.func50, Try.ntmps50
  iterate 4 (try go_wp2_with (first | ((with_reducible refine qBN (N := 3) rfl ?_); (try (refine qBP (by rfl) ?_; dsimp only)); refine box_ev ?_; intro aw hg b6 hbox hb; have aa := am hbox; have aq := gwl hg; have aD := aq; replace HB := bsl hb; clear hb hbox hg; have bZ := cf3 aa.1) | (go_at_call 34; (with_reducible refine (r09_Check.calls k ao _ _ ag _ _ ah ay az _ ?side1 ?side2 ?side3 ?side4 A4.1).mono ?_); (case side1 => exact csb ak HB); (case side2 => exact ai.1); (case side3 => exact csb al HB); (case side4 => exact aj.1); rintro e bT ⟨rfl, hb⟩; replace aa := bbh aa hb; replace HB := bst hb; (try clear hb)) | ((with_reducible refine qBN (N := 8) rfl ?_); (try (refine qBP (by rfl) ?_; dsimp only)); refine box_ev ?_; intro ax hg b7 hbox hb; have ae := am hbox; have ar := gwb hg; have aE := ar; have ab := nlt hg aa; have af := ngt hg aa; replace aa := bbh aa hb; replace HB := bst hb; clear hb hbox hg; have bB := af.1; have bH := ab.1; have b0 := cf2 ae.1; have b1 := cf3 aa.1) | (go_at_call 29; (with_reducible refine (r04_Valid.calls k _ _ l1 (ag.length : Int) false _ ?side1 ?side2 A6.1).mono ?_); (case side1 => exact Kd.qCG aC.1 pbg); (case side2 => exact aB.1); rintro e w' ⟨rfl, ⟨nd, rfl⟩⟩; (try first | exact dw1 | exact dw2))); try go_quiet (first | (go_at_call 34; (with_reducible refine (r09_Check.calls k ao _ _ ag _ _ ah ay az _ ?side1 ?side2 ?side3 ?side4 A4.1).mono ?_); (case side1 => exact csb ak HB); (case side2 => exact ai.1); (case side3 => exact csb al HB); (case side4 => exact aj.1); rintro e bT ⟨rfl, hb⟩; replace aa := bbh aa hb; replace HB := bst hb; (try clear hb)) | (go_at_call 29; (with_reducible refine (r04_Valid.calls k _ _ l1 (ag.length : Int) false _ ?side1 ?side2 A6.1).mono ?_); (case side1 => exact Kd.qCG aC.1 pbg); (case side2 => exact aB.1); rintro e w' ⟨rfl, ⟨nd, rfl⟩⟩; (try first | exact dw1 | exact dw2))))
  go_ret2
  exact ⟨_, per, knl, pbg⟩
 rw [if_pos rfl] at H
 have bl := am H
 clear H
 go_enter Try.func50, Try.ntmps50
 go_upto_region 6 with (first | ((with_reducible refine qBN (N := 3) rfl ?_); (try (refine qBP (by rfl) ?_; dsimp only)); refine box_ev ?_; intro aw hg w9 hbox hb; have aa := am hbox; have aq := gwl hg; have aD := aq; replace HB := bsl hb; clear hb hbox hg; have a9 := cf3 aa.1) | (go_at_call 34; (with_reducible refine (r09_Check.calls k ao _ _ ag _ _ ah ay az _ ?side1 ?side2 ?side3 ?side4 A4.1).mono ?_); (case side1 => exact csb ak HB); (case side2 => exact ai.1); (case side3 => exact csb al HB); (case side4 => exact aj.1); rintro e bJ ⟨rfl, hb⟩; replace aa := bbh aa hb; replace HB := bst hb; (try clear hb)) | ((with_reducible refine qBN (N := 8) rfl ?_); (try (refine qBP (by rfl) ?_; dsimp only)); refine box_ev ?_; intro ax hg bK hbox hb; have ae := am hbox; have ar := gwb hg; have aE := ar; have ab := nlt hg aa; have af := ngt hg aa; replace aa := bbh aa hb; replace HB := bst hb; clear hb hbox hg; have aQ := af.1; have aR := ab.1; have ba := cf2 ae.1; have bb := cf3 aa.1) | (go_at_call 29; (with_reducible refine (r04_Valid.calls k _ _ l1 (ag.length : Int) true _ ?side1 ?side2 A6.1).mono ?_); (case side1 => exact Kd.qCG aC.1 pbg); (case side2 => exact aB.1); rintro e w' ⟨rfl, ⟨nd, rfl⟩⟩; (try first | exact dw1 | exact dw2)))
 repeat (go_quiet (first | ((with_reducible refine qBN (N := 3) rfl ?_); (try (refine qBP (by rfl) ?_; dsimp only)); refine box_ev ?_; intro aw hg w9 hbox hb; have aa := am hbox; have aq := gwl hg; have aD := aq; replace HB := bsl hb; clear hb hbox hg; have a9 := cf3 aa.1) | (go_at_call 34; (with_reducible refine (r09_Check.calls k ao _ _ ag _ _ ah ay az _ ?side1 ?side2 ?side3 ?side4 A4.1).mono ?_); (case side1 => exact csb ak HB); (case side2 => exact ai.1); (case side3 => exact csb al HB); (case side4 => exact aj.1); rintro e bJ ⟨rfl, hb⟩; replace aa := bbh aa hb; replace HB := bst hb; (try clear hb)) | ((with_reducible refine qBN (N := 8) rfl ?_); (try (refine qBP (by rfl) ?_; dsimp only)); refine box_ev ?_; intro ax hg bK hbox hb; have ae := am hbox; have ar := gwb hg; have aE := ar; have ab := nlt hg aa; have af := ngt hg aa; replace aa := bbh aa hb; replace HB := bst hb; clear hb hbox hg; have aQ := af.1; have aR := ab.1; have ba := cf2 ae.1; have bb := cf3 aa.1) | (go_at_call 29; (with_reducible refine (r04_Valid.calls k _ _ l1 (ag.length : Int) true _ ?side1 ?side2 A6.1).mono ?_); (case side1 => exact Kd.qCG aC.1 pbg); (case side2 => exact aB.1); rintro e w' ⟨rfl, ⟨nd, rfl⟩⟩; (try first | exact dw1 | exact dw2))); go_upto_region 6 with (first | ((with_reducible refine qBN (N := 3) rfl ?_); (try (refine qBP (by rfl) ?_; dsimp only)); refine box_ev ?_; intro aw hg w9 hbox hb; have aa := am hbox; have aq := gwl hg; have aD := aq; replace HB := bsl hb; clear hb hbox hg; have a9 := cf3 aa.1) | (go_at_call 34; (with_reducible refine (r09_Check.calls k ao _ _ ag _ _ ah ay az _ ?side1 ?side2 ?side3 ?side4 A4.1).mono ?_); (case side1 => exact csb ak HB); (case side2 => exact ai.1); (case side3 => exact csb al HB); (case side4 => exact aj.1); rintro e bJ ⟨rfl, hb⟩; replace aa := bbh aa hb; replace HB := bst hb; (try clear hb)) | ((with_reducible refine qBN (N := 8) rfl ?_); (try (refine qBP (by rfl) ?_; dsimp only)); refine box_ev ?_; intro ax hg bK hbox hb; have ae := am hbox; have ar := gwb hg; have aE := ar; have ab := nlt hg aa; have af := ngt hg aa; replace aa := bbh aa hb; replace HB := bst hb; clear hb hbox hg; have aQ := af.1; have aR := ab.1; have ba := cf2 ae.1; have bb := cf3 aa.1) | (go_at_call 29; (with_reducible refine (r04_Valid.calls k _ _ l1 (ag.length : Int) true _ ?side1 ?side2 A6.1).mono ?_); (case side1 => exact Kd.qCG aC.1 pbg); (case side2 => exact aB.1); rintro e w' ⟨rfl, ⟨nd, rfl⟩⟩; (try first | exact dw1 | exact dw2))))
 (try simp only [Act.put, List.setIfInBounds_toArray, List.set_cons_zero, List.set_cons_succ])
 go_cut [32] (fun bN wc => ∃ (kq : Nat) (aG : Bool), bN = .bool aG ∧ Aside0 (r11_Fire.j0 kq l1 a2 aG ao ag ah = some (r1, r2)) ∧ Aside0 (kq ≤ k) ∧ Aside0 (wc.heap[aw]? = some (.cells #[.string ao, (.slice aU ag.length aW), (.slice aV ah.length aX)] 25 (0, 0))) ∧ Aside0 (wc.heap[ax]? = some (.cells #[.int .i64 ay, .int .i64 az] 48 (0, 0))) ∧ Aside0 (Below w.heap.size w wc))
 case first =>
  have H := bl.1
  clear bl
  replace H := ifl H
  rcases H with ⟨av, H⟩ | ⟨av, H⟩
  ·(first | rw [av] | (simp only [i64_w, i32_w]; rw [av]) | skip)
   have H' := am H
   clear H
   go_wp2
   repeat (go_quiet (fail); try go_wp2)
   go_meet
   case rel => exact ⟨_, (true), prs, H', ⟨by first | omega | exact Nat.le_refl _⟩, ⟨by (with_reducible repeat (first | refine qBK ?_ _ | refine qBM ?_ | refine qBL ?_ _)); refine bf2 ?_ ab.1; exact pbk aa.1⟩, ⟨by (with_reducible repeat (first | refine qBK ?_ _ | refine qBM ?_ | refine qBL ?_ _)); exact bp2 (pbk ae.1)⟩, ⟨pbg⟩⟩
  (first | rw [av] | (simp only [i64_w, i32_w]; rw [av]) | skip)
  have H' := am H
  clear H
  have bw := ab.1
  have bD := af.1
  have br := cf3 aa.1
  go_wp2
  repeat (go_quiet (fail); try go_wp2)
  go_meet
  case rel => exact ⟨_, (decide (a2 ≥ (ah.length : Int))), prs, H', ⟨by first | omega | exact Nat.le_refl _⟩, ⟨by (with_reducible repeat (first | refine qBK ?_ _ | refine qBM ?_ | refine qBL ?_ _)); refine bf2 ?_ ab.1; exact pbk aa.1⟩, ⟨by (with_reducible repeat (first | refine qBK ?_ _ | refine qBM ?_ | refine qBL ?_ _)); exact bp2 (pbk ae.1)⟩, ⟨pbg⟩⟩
 clear bl
 try clear c1 c5 bf bg b5 av a9 ba bb br
 obtain ⟨kq, aG, rfl, HA, b4, aa, ae, HB⟩ := hcut
 obtain _ | aA := kq
 ·exact absurd HA.1 (by simp [r11_Fire.j0])
 have H := HA.1
 clear HA
 simp only [r11_Fire.j0] at H
 cases aG
 rotate_left
 ·rw [if_pos rfl] at H
  simp only [Option.some.injEq, Prod.mk.injEq] at H
  obtain ⟨rfl, rfl⟩ := H
  go_wp2
  repeat (go_quiet (fail); try go_wp2)
  go_ret2
  exact ⟨_, per, knl, pbg⟩
 rw [if_neg Bool.false_ne_true] at H
 replace H := bnd H
 obtain ⟨au, bc, H⟩ := H
 (try dsimp only at H)
 replace H := bnd H
 obtain ⟨a7, bd, H⟩ := H
 (try dsimp only at H)
 cases a7
 ·rw [if_neg Bool.false_ne_true] at H
  simp only [Option.some.injEq, Prod.mk.injEq] at H
  obtain ⟨rfl, rfl⟩ := H
  have bA := ab.1
  have bG := af.1
  have bY := cf3 aa.1
  iterate 4 (try go_wp2_with (first | (go_at_call 51; (with_reducible refine (r11_Fires.calls aA ao _ _ ag _ _ ah _ _ l1 au _ ?side1 ?side2 ?side3 ?side4 ?side5 ?side6 bc.1).mono ?_); (case side1 => exact csb ak HB); (case side2 => exact ai.1); (case side3 => exact csb al HB); (case side4 => exact aj.1); (case side5 => exact csb aC HB); (case side6 => exact aB.1); rintro e bS ⟨aK, rfl, ap, hb⟩; have ac := am (Kd.qCH ap (qBJ pbg)); replace aa := bbh aa hb; replace ae := bbh ae hb; replace HB := bst hb; (try clear hb); (try clear ap); obtain ⟨bk, bo, a5⟩ := Kd.R_slice ac.1; subst a5) | (go_at_call 86; (with_reducible refine (r11_has.calls aA _ _ au a2 false _ ?side1 ?side2 bd.1).mono ?_); (case side1 => exact csd ((Kd.qBR ac.1).2.2)); (case side2 => exact (Kd.qBR ac.1).2.1); rintro e w' ⟨rfl, ⟨nd, rfl⟩⟩; (try first | exact dw1 | exact dw2))); try go_quiet (first | (go_at_call 51; (with_reducible refine (r11_Fires.calls aA ao _ _ ag _ _ ah _ _ l1 au _ ?side1 ?side2 ?side3 ?side4 ?side5 ?side6 bc.1).mono ?_); (case side1 => exact csb ak HB); (case side2 => exact ai.1); (case side3 => exact csb al HB); (case side4 => exact aj.1); (case side5 => exact csb aC HB); (case side6 => exact aB.1); rintro e bS ⟨aK, rfl, ap, hb⟩; have ac := am (Kd.qCH ap (qBJ pbg)); replace aa := bbh aa hb; replace ae := bbh ae hb; replace HB := bst hb; (try clear hb); (try clear ap); obtain ⟨bk, bo, a5⟩ := Kd.R_slice ac.1; subst a5) | (go_at_call 86; (with_reducible refine (r11_has.calls aA _ _ au a2 false _ ?side1 ?side2 bd.1).mono ?_); (case side1 => exact csd ((Kd.qBR ac.1).2.2)); (case side2 => exact (Kd.qBR ac.1).2.1); rintro e w' ⟨rfl, ⟨nd, rfl⟩⟩; (try first | exact dw1 | exact dw2))))
  go_ret2
  exact ⟨_, per, knl, pbg⟩
 rw [if_pos rfl] at H
 replace H := bnd H
 obtain ⟨⟨aL, bq⟩, bh, H⟩ := H
 (try dsimp only at H)
 cases bq
 rotate_left
 ·rw [if_pos rfl] at H
  simp only [Option.some.injEq, Prod.mk.injEq] at H
  obtain ⟨rfl, rfl⟩ := H
  have bx := ab.1
  have bE := af.1
  have bW := cf3 aa.1
  iterate 4 (try go_wp2_with (first | (go_at_call 51; (with_reducible refine (r11_Fires.calls aA ao _ _ ag _ _ ah _ _ l1 au _ ?side1 ?side2 ?side3 ?side4 ?side5 ?side6 bc.1).mono ?_); (case side1 => exact csb ak HB); (case side2 => exact ai.1); (case side3 => exact csb al HB); (case side4 => exact aj.1); (case side5 => exact csb aC HB); (case side6 => exact aB.1); rintro e bO ⟨aK, rfl, ap, hb⟩; have ac := am (Kd.qCH ap (qBJ pbg)); replace aa := bbh aa hb; replace ae := bbh ae hb; replace HB := bst hb; (try clear hb); (try clear ap); obtain ⟨bi, bm, aY⟩ := Kd.R_slice ac.1; subst aY) | (go_at_call 86; (with_reducible refine (r11_has.calls aA _ _ au a2 true _ ?side1 ?side2 bd.1).mono ?_); (case side1 => exact csd ((Kd.qBR ac.1).2.2)); (case side2 => exact (Kd.qBR ac.1).2.1); rintro e w' ⟨rfl, ⟨nd, rfl⟩⟩; (try first | exact dw1 | exact dw2); have bs := cf3 aa.1) | (go_at_call 52; (with_reducible refine (r11_After.calls aA ao _ _ ag _ _ ah _ _ l1 a2 aL true _ ?side1 ?side2 ?side3 ?side4 ?side5 ?side6 bh.1).mono ?_); (case side1 => exact csd ((Kd.qCG ak.1 pbg))); (case side2 => exact ai.1); (case side3 => exact csd ((Kd.qCG al.1 pbg))); (case side4 => exact aj.1); (case side5 => exact csd ((Kd.qCG aC.1 pbg))); (case side6 => exact aB.1); rintro e bP ⟨a8, rfl, ap, hb⟩; have aF := am (Kd.qCH (Kd.R_new' ap (Kd.R_lt (pkr ac.1))) (qBJ pbg)); replace ac := am (Kd.R_elder' (pkr ac.1) (Kd.R_base ap) hb); replace aa := bbh aa hb; replace ae := bbh ae hb; replace HB := bst hb; (try clear hb); (try clear ap))); try go_quiet (first | (go_at_call 51; (with_reducible refine (r11_Fires.calls aA ao _ _ ag _ _ ah _ _ l1 au _ ?side1 ?side2 ?side3 ?side4 ?side5 ?side6 bc.1).mono ?_); (case side1 => exact csb ak HB); (case side2 => exact ai.1); (case side3 => exact csb al HB); (case side4 => exact aj.1); (case side5 => exact csb aC HB); (case side6 => exact aB.1); rintro e bO ⟨aK, rfl, ap, hb⟩; have ac := am (Kd.qCH ap (qBJ pbg)); replace aa := bbh aa hb; replace ae := bbh ae hb; replace HB := bst hb; (try clear hb); (try clear ap); obtain ⟨bi, bm, aY⟩ := Kd.R_slice ac.1; subst aY) | (go_at_call 86; (with_reducible refine (r11_has.calls aA _ _ au a2 true _ ?side1 ?side2 bd.1).mono ?_); (case side1 => exact csd ((Kd.qBR ac.1).2.2)); (case side2 => exact (Kd.qBR ac.1).2.1); rintro e w' ⟨rfl, ⟨nd, rfl⟩⟩; (try first | exact dw1 | exact dw2); have bs := cf3 aa.1) | (go_at_call 52; (with_reducible refine (r11_After.calls aA ao _ _ ag _ _ ah _ _ l1 a2 aL true _ ?side1 ?side2 ?side3 ?side4 ?side5 ?side6 bh.1).mono ?_); (case side1 => exact csd ((Kd.qCG ak.1 pbg))); (case side2 => exact ai.1); (case side3 => exact csd ((Kd.qCG al.1 pbg))); (case side4 => exact aj.1); (case side5 => exact csd ((Kd.qCG aC.1 pbg))); (case side6 => exact aB.1); rintro e bP ⟨a8, rfl, ap, hb⟩; have aF := am (Kd.qCH (Kd.R_new' ap (Kd.R_lt (pkr ac.1))) (qBJ pbg)); replace ac := am (Kd.R_elder' (pkr ac.1) (Kd.R_base ap) hb); replace aa := bbh aa hb; replace ae := bbh ae hb; replace HB := bst hb; (try clear hb); (try clear ap))))
  go_ret2
  exact ⟨_, per, by (with_reducible repeat (first | apply Kd.R_alloc | apply Kd.R_drewN | apply Kd.R_drew)); exact Kd.R_mono aF.1 (fun _ hk => trivial), pbg⟩
 rw [if_neg Bool.false_ne_true] at H
 simp only [Option.some.injEq, Prod.mk.injEq] at H
 obtain ⟨rfl, rfl⟩ := H
 have bz := ab.1
 have bF := af.1
 have bX := cf3 aa.1
 iterate 4 (try go_wp2_with (first | (go_at_call 51; (with_reducible refine (r11_Fires.calls aA ao _ _ ag _ _ ah _ _ l1 au _ ?side1 ?side2 ?side3 ?side4 ?side5 ?side6 bc.1).mono ?_); (case side1 => exact csb ak HB); (case side2 => exact ai.1); (case side3 => exact csb al HB); (case side4 => exact aj.1); (case side5 => exact csb aC HB); (case side6 => exact aB.1); rintro e bQ ⟨aK, rfl, ap, hb⟩; have ac := am (Kd.qCH ap (qBJ pbg)); replace aa := bbh aa hb; replace ae := bbh ae hb; replace HB := bst hb; (try clear hb); (try clear ap); obtain ⟨bj, bn, aZ⟩ := Kd.R_slice ac.1; subst aZ) | (go_at_call 86; (with_reducible refine (r11_has.calls aA _ _ au a2 true _ ?side1 ?side2 bd.1).mono ?_); (case side1 => exact csd ((Kd.qBR ac.1).2.2)); (case side2 => exact (Kd.qBR ac.1).2.1); rintro e w' ⟨rfl, ⟨nd, rfl⟩⟩; (try first | exact dw1 | exact dw2); have bu := cf3 aa.1) | (go_at_call 52; (with_reducible refine (r11_After.calls aA ao _ _ ag _ _ ah _ _ l1 a2 aL false _ ?side1 ?side2 ?side3 ?side4 ?side5 ?side6 bh.1).mono ?_); (case side1 => exact csd ((Kd.qCG ak.1 pbg))); (case side2 => exact ai.1); (case side3 => exact csd ((Kd.qCG al.1 pbg))); (case side4 => exact aj.1); (case side5 => exact csd ((Kd.qCG aC.1 pbg))); (case side6 => exact aB.1); rintro e bR ⟨a8, rfl, ap, hb⟩; have aF := am (Kd.qCH (Kd.R_new' ap (Kd.R_lt (pkr ac.1))) (qBJ pbg)); replace ac := am (Kd.R_elder' (pkr ac.1) (Kd.R_base ap) hb); replace aa := bbh aa hb; replace ae := bbh ae hb; replace HB := bst hb; (try clear hb); (try clear ap))); try go_quiet (first | (go_at_call 51; (with_reducible refine (r11_Fires.calls aA ao _ _ ag _ _ ah _ _ l1 au _ ?side1 ?side2 ?side3 ?side4 ?side5 ?side6 bc.1).mono ?_); (case side1 => exact csb ak HB); (case side2 => exact ai.1); (case side3 => exact csb al HB); (case side4 => exact aj.1); (case side5 => exact csb aC HB); (case side6 => exact aB.1); rintro e bQ ⟨aK, rfl, ap, hb⟩; have ac := am (Kd.qCH ap (qBJ pbg)); replace aa := bbh aa hb; replace ae := bbh ae hb; replace HB := bst hb; (try clear hb); (try clear ap); obtain ⟨bj, bn, aZ⟩ := Kd.R_slice ac.1; subst aZ) | (go_at_call 86; (with_reducible refine (r11_has.calls aA _ _ au a2 true _ ?side1 ?side2 bd.1).mono ?_); (case side1 => exact csd ((Kd.qBR ac.1).2.2)); (case side2 => exact (Kd.qBR ac.1).2.1); rintro e w' ⟨rfl, ⟨nd, rfl⟩⟩; (try first | exact dw1 | exact dw2); have bu := cf3 aa.1) | (go_at_call 52; (with_reducible refine (r11_After.calls aA ao _ _ ag _ _ ah _ _ l1 a2 aL false _ ?side1 ?side2 ?side3 ?side4 ?side5 ?side6 bh.1).mono ?_); (case side1 => exact csd ((Kd.qCG ak.1 pbg))); (case side2 => exact ai.1); (case side3 => exact csd ((Kd.qCG al.1 pbg))); (case side4 => exact aj.1); (case side5 => exact csd ((Kd.qCG aC.1 pbg))); (case side6 => exact aB.1); rintro e bR ⟨a8, rfl, ap, hb⟩; have aF := am (Kd.qCH (Kd.R_new' ap (Kd.R_lt (pkr ac.1))) (qBJ pbg)); replace ac := am (Kd.R_elder' (pkr ac.1) (Kd.R_base ap) hb); replace aa := bbh aa hb; replace ae := bbh ae hb; replace HB := bst hb; (try clear hb); (try clear ap))))
 go_ret2
 exact ⟨_, per, knl, pbg⟩

/-! ### r11_Run: function 27 -/
def r11_Run.l0 : Nat → List Int → List Int → Int → ByteArray → List (S64) → List (S38) → Option (List Int × Int × Int)
 | 0, _, _, _, _, _, _ => none
 | k + 1, x2, x9, x10, aJ, aK, aL => if x10 < (x2.length : Int) then (if 0 ≤ x10 then ((r11_Fire.f k aJ aK aL x9 (rd x2 x10)).bind fun aQ => (if aQ.2 = 0 then (r11_Run.l0 k x2 aQ.1 (wrap64 (x10 + 1)) aJ aK aL) else (some (([] : List Int), aQ.2, x10)))) else (none)) else (some (x9, 0, 0))
def r11_Run.f (k : Nat) (ar : ByteArray) (al : List (S64)) (aq : List (S38)) (l1 : List Int) (l2 : List Int) : Option (List Int × Int × Int) := (r09_Check.f k ar al aq).bind fun aW => (if aW.1 = 0 then ((r04_Valid.f k l1 (al.length : Int)).bind fun a8 => (if a8 = true then ((r04_Copy.f k l1).bind fun aS => (r11_Run.l0 k l2 aS 0 ar al aq)) else (some (([] : List Int), 2, 0)))) else (some (([] : List Int), aW.1, 0)))
def r11_Run.T10 : Bool × List (List Nat × List Nat) := (true, [([], []), ([], []), ([], []), ([], []), ([2, 3], [2, 3]), ([4], [4]), ([0, 1, 5], [0, 1, 5]), ([6], [6]), ([7], [7]), ([7], [7]), ([8, 6, 0, 1, 2, 3, 4, 5, 6, 7, 8], [8]), ([9, 10, 0, 1, 2, 3, 4, 5, 6, 7, 8, 9, 10], [9])])
def r11_Run.B10 : List Nat := [0, 0, 0, 0, 12, 28, 63, 127, 255, 255, 511, 2047]
theorem r11_Run.tab10 : rtab .any (opsOf Try.f27 10) = r11_Run.T10 := by kernel_rfl
theorem r11_Run.bits10 : waitsOk r11_Run.T10.2 r11_Run.B10 = true := by kernel_rfl
theorem r11_Run.calls (k : Nat) (ar : ByteArray) (aM : Option Addr) (aO : Nat) (al : List (S64)) (aN : Option Addr) (aP : Nat) (aq : List (S38)) (A1 : Option Addr) (c1 : Nat) (l1 : List Int) (A2 : Option Addr) (c2 : Nat) (l2 : List Int) (r1 : List Int) (r2 : Int) (r3 : Int) (w : World) (aZ : Kd.C k64 w aM al.length al) (aX : al.length ≤ aO) (a5 : Kd.C k38 w aN aq.length aq) (aY : aq.length ≤ aP) (hr1 : Kd.C (Kd.int .i64) w A1 l1.length l1) (bJ : l1.length ≤ c1) (hr2 : Kd.C (Kd.int .i64) w A2 l2.length l2) (bK : l2.length ≤ c2) (h : r11_Run.f k ar al aq l1 l2 = some (r1, r2, r3)) :
  Calls Try.prog 27 #[.agg #[.string ar, .slice aM al.length aO, .slice aN aq.length aP], .slice A1 l1.length c1, .slice A2 l2.length c2] w fun e w' => ∃ v0_ : Value, e = .returned (.tuple #[v0_, .agg #[.int .i64 r2, .int .i64 r3]]) ∧ Kd.R (Kd.int .i64) 3 w' w.heap.size (fun _ => True) v0_ r1 ∧ Below w.heap.size w w' := by
 have cj := Try.underlying25
 have ck := Try.underlying48
 have aG := am aZ
 have aE := am aX
 clear aZ aX
 have aH := am a5
 have aF := am aY
 clear a5 aY
 have bz := am hr1
 have bx := am bJ
 clear hr1 bJ
 have cg := am hr2
 have cA := am bK
 clear hr2 bK
 have HB := am (Below.refl w.heap.size w)
 have H := h
 unfold r11_Run.f at H
 clear h
 replace H := bnd H
 obtain ⟨⟨au, ax⟩, A4, H⟩ := H
 (try dsimp only at H)
 replace H := ife H
 rcases H with ⟨bh, bi, H⟩ | ⟨bh, bi, H⟩
 rotate_left
 ·simp only [Option.some.injEq, Prod.mk.injEq] at H
  obtain ⟨rfl, rfl, rfl⟩ := H
  go_enter Try.func27, Try.ntmps27
  try go_wp2_with (first | ((with_reducible refine qBN (N := 3) rfl ?_); refine box_ev ?_; intro az hg cM hbox hb; have aa := am hbox; have aB := gwl hg; have aT := aB; replace HB := bsl hb; clear hb hbox hg) | ((with_reducible refine qBN (N := 7) rfl ?_); refine box_ev ?_; intro ap hg cN hbox hb; have ab := am hbox; have aC := gwb hg; have aU := aC; have ag := nlt hg aa; have ah := ngt hg aa; replace aa := bbh aa hb; replace HB := bst hb; clear hb hbox hg; have bX := ag.1; have ca := ah.1; have cy := cf3 aa.1) | ((with_reducible refine qBO (f := 34) rfl ?_); refine gC 14 Try.func34 _ (r09_Check.calls k ar _ _ al _ _ aq au ax _ (csb aG HB) aE.1 (csb aH HB) aF.1 A4.1) ?_; rintro e cO ⟨rfl, hb⟩; refine ⟨_, rfl, ?_⟩; replace aa := bbh aa hb; replace ab := bbh ab hb; replace HB := bst hb; (try clear hb)) | ((with_reducible refine qBN (N := 8) rfl ?_); refine box_ev ?_; intro aj hg bm hbox hb; have af := am hbox; have aD := gwb hg; have aV := aD; have ai := nlt hg aa; have ak := ngt hg aa; have ac := nlt hg ab; have ae := ngt hg ab; replace aa := bbh aa hb; replace ab := bbh ab hb; replace HB := bst hb; clear hb hbox hg; have bY := ak.1; have cb := ai.1; have bZ := ae.1; have cd := ac.1; have cz := cf2 af.1))
  have n0_ : Aside0 (((bm.setCell ⟨aj, 0, none⟩ (.int .i64 au)).setCell ⟨aj, 1, none⟩ (.int .i64 ax)).heap[az]? = some (.cells #[.string ar, .slice aM al.length aO, .slice aN aq.length aP] 25 (0, 0))) := ⟨by (with_reducible repeat (first | refine qBK ?_ _ | refine qBM ?_ | refine qBL ?_ _)); refine bf2 ?_ ai.1; exact pbk aa.1⟩
  have n1_ : Aside0 (((bm.setCell ⟨aj, 0, none⟩ (.int .i64 au)).setCell ⟨aj, 1, none⟩ (.int .i64 ax)).heap[ap]? = some (.cells #[.int .i64 0, .int .i64 0] 48 (0, 0))) := ⟨by (with_reducible repeat (first | refine qBK ?_ _ | refine qBM ?_ | refine qBL ?_ _)); refine bf2 ?_ ac.1; exact pbk ab.1⟩
  have n2_ : Aside0 (((bm.setCell ⟨aj, 0, none⟩ (.int .i64 au)).setCell ⟨aj, 1, none⟩ (.int .i64 ax)).heap[aj]? = some (.cells #[.int .i64 au, .int .i64 ax] 48 (0, 0))) := ⟨by (with_reducible repeat (first | refine qBK ?_ _ | refine qBM ?_ | refine qBL ?_ _)); exact bp2 (pbk af.1)⟩
  have n3_ : Aside0 (Below w.heap.size w ((bm.setCell ⟨aj, 0, none⟩ (.int .i64 au)).setCell ⟨aj, 1, none⟩ (.int .i64 ax))) := ⟨pbg⟩
  (try clear aa)
  (try clear ab)
  (try clear af)
  (try clear HB)
  generalize ((bm.setCell ⟨aj, 0, none⟩ (.int .i64 au)).setCell ⟨aj, 1, none⟩ (.int .i64 ax)) = cp at n0_ n1_ n2_ n3_ ⊢
  have aa := n0_
  have ab := n1_
  have af := n2_
  have HB := n3_
  clear n0_ n1_ n2_ n3_
  replace aa := am (qBM aa.1)
  replace ab := am (qBM ab.1)
  replace af := am (qBM af.1)
  replace HB := am (qCB HB.1)
  refine start_ (n := 5) (S := fun w' => w'.cell? ⟨aj, 0, none⟩ = some (.int .i64 au) ∧ w'.cell? ⟨aj, 1, none⟩ = some (.int .i64 ax)) (ds := []) #[false, false, false, false, false] (by kernel_rfl) rfl rfl ⟨(qBI af.1 0).trans rfl, (qBI af.1 1).trans rfl⟩ (fun hHeld => ?_)
  generalize cp.drew = ce at aa ab af HB hHeld ⊢
  refine pure_ (i := 0) (N := some 18) (v := ?_) (a' := ?_) #[true, false, false, false, false] rfl rfl (by kernel_rfl) (fun _ _ _ h => h) (Or.inl ⟨by rfl, ?_⟩) ?_ ?_
  rotate_left
  ·intro w'
   go_simp
   with_reducible rfl
  rotate_left
  ·simp only [Act.put, List.setIfInBounds_toArray, List.set_cons_zero, List.set_cons_succ, i64_w, i32_w]
   rfl
  refine pure_ (i := 3) (N := some 6) (v := ?_) (a' := ?_) #[true, false, false, true, false] rfl rfl (by kernel_rfl) (fun _ _ _ h => h) (Or.inl ⟨by rfl, ?_⟩) ?_ ?_
  rotate_left
  ·intro w'
   go_simp
   with_reducible rfl
  rotate_left
  ·simp only [Act.put, List.setIfInBounds_toArray, List.set_cons_zero, List.set_cons_succ, i64_w, i32_w]
   rfl
  refine take_ (i := 1) (N := some 19) (v := ?_) (a' := ?_) #[true, true, false, true, false] rfl rfl (by kernel_rfl) (fun _ _ _ h => h) (Or.inl ⟨by rfl, ?_⟩) hHeld ?_ ?_
  rotate_left
  ·rintro w' ⟨s0, s1⟩
   go_simp
   with_reducible rfl
  rotate_left
  ·simp only [Act.put, List.setIfInBounds_toArray, List.set_cons_zero, List.set_cons_succ, i64_w, i32_w]
   rfl
  refine pure_ (i := 2) (N := some 20) (v := ?_) (a' := ?_) #[true, true, true, true, false] rfl rfl (by kernel_rfl) (fun _ _ _ h => h) (Or.inl ⟨by rfl, ?_⟩) ?_ ?_
  rotate_left
  ·intro w'
   go_simp
   with_reducible rfl
  rotate_left
  ·simp only [Act.put, List.setIfInBounds_toArray, List.set_cons_zero, List.set_cons_succ, i64_w, i32_w]
   rfl
  refine one_ (i := 4) (N := none) #[true, true, true, true, true] rfl rfl (by kernel_rfl) (by decide) (fun K hK => ?_)
  have ch : ce.cell? ⟨ap, 0, none⟩ = some (.int .i64 0) := (qBI ab.1 0).trans rfl
  have bL := qCJ ab.1 0
  have br := ag.1
  have bs := ae.1
  have bn := ah.1
  have bo := ac.1
  have ci : ce.cell? ⟨ap, 1, none⟩ = some (.int .i64 0) := (qBI ab.1 1).trans rfl
  have bM := qCJ ab.1 1
  have bu := ag.1
  have bv := ae.1
  have bp := ah.1
  have bq := ac.1
  refine skip_ (w1 := ?_) (by rfl) rfl ?_ ?_
  rotate_left
  ·go_simp
   rfl
  refine hK.out _ _ ⟨((far2 ae.1).trans (hHeld.1)), ((far2 ae.1).trans (hHeld.2))⟩ (fun hHeld => ?_)
  clear hK K
  refine done_ (by kernel_rfl) ?_
  try go_wp2
  refine bodyPost_ret (results_tc rfl _ _ ap 48 #[.int .i64 au, .int .i64 0] (0, 0) _ rfl (by (with_reducible repeat (first | refine qBK ?_ _ | refine qBM ?_ | refine qBL ?_ _)); exact bp2 (pbk ab.1)) Try.underlying48 rfl (by kernel_rfl)) rfl ?_
  exact ⟨_, per, knl, pbg⟩
 replace H := bnd H
 obtain ⟨a8, A6, H⟩ := H
 (try dsimp only at H)
 cases a8
 ·rw [if_neg Bool.false_ne_true] at H
  simp only [Option.some.injEq, Prod.mk.injEq] at H
  obtain ⟨rfl, rfl, rfl⟩ := H
  go_enter Try.func27, Try.ntmps27
  go_wp2_with (first | ((with_reducible refine qBN (N := 3) rfl ?_); refine box_ev ?_; intro az hg cI hbox hb; have aa := am hbox; have aB := gwl hg; have aT := aB; replace HB := bsl hb; clear hb hbox hg) | ((with_reducible refine qBN (N := 7) rfl ?_); refine box_ev ?_; intro ap hg cJ hbox hb; have ab := am hbox; have aC := gwb hg; have aU := aC; have ag := nlt hg aa; have ah := ngt hg aa; replace aa := bbh aa hb; replace HB := bst hb; clear hb hbox hg; have bU := ag.1; have b7 := ah.1; have cu := cf3 aa.1) | ((with_reducible refine qBO (f := 34) rfl ?_); refine gC 14 Try.func34 _ (r09_Check.calls k ar _ _ al _ _ aq au ax _ (csb aG HB) aE.1 (csb aH HB) aF.1 A4.1) ?_; rintro e cK ⟨rfl, hb⟩; refine ⟨_, rfl, ?_⟩; replace aa := bbh aa hb; replace ab := bbh ab hb; replace HB := bst hb; (try clear hb)) | ((with_reducible refine qBN (N := 8) rfl ?_); refine box_ev ?_; intro aj hg cL hbox hb; have af := am hbox; have aD := gwb hg; have aV := aD; have ai := nlt hg aa; have ak := ngt hg aa; have ac := nlt hg ab; have ae := ngt hg ab; replace aa := bbh aa hb; replace ab := bbh ab hb; replace HB := bst hb; clear hb hbox hg; have bV := ak.1; have b8 := ai.1; have bW := ae.1; have b9 := ac.1; have cv := cf2 af.1; have cw := cf3 aa.1) | ((with_reducible refine qBO (f := 29) rfl ?_); refine gC 25 Try.func29 _ (r04_Valid.calls k _ _ l1 (al.length : Int) false _ (Kd.qCG bz.1 pbg) bx.1 A6.1) ?_; rintro e w' ⟨rfl, ⟨nd, rfl⟩⟩; refine ⟨_, rfl, ?_⟩; have cx := cf2 ab.1))
  refine bodyPost_ret (results_tc rfl _ _ ap 48 #[.int .i64 2, .int .i64 0] (0, 0) _ rfl (by (with_reducible repeat (first | refine qBK ?_ _ | refine qBM ?_ | refine qBL ?_ _)); refine blk_put (cs := #[.int .i64 2, .int .i64 0]) ?_ 1 _ rfl; (with_reducible repeat (first | refine qBK ?_ _ | refine qBM ?_ | refine qBL ?_ _)); refine blk_put (cs := #[.int .i64 0, .int .i64 0]) ?_ 0 _ rfl; (with_reducible repeat (first | refine qBK ?_ _ | refine qBM ?_ | refine qBL ?_ _)); refine bf2 ?_ ac.1; exact pbk ab.1) Try.underlying48 rfl (by kernel_rfl)) rfl ?_
  exact ⟨_, per, knl, pbg⟩
 rw [if_pos rfl] at H
 replace H := bnd H
 obtain ⟨aS, A8, H⟩ := H
 (try dsimp only at H)
 have H' := am H
 clear H
 go_enter Try.func27, Try.ntmps27
 go_wp2_with (first | ((with_reducible refine qBN (N := 3) rfl ?_); refine box_ev ?_; intro az hg w9 hbox hb; have aa := am hbox; have aB := gwl hg; have aT := aB; replace HB := bsl hb; clear hb hbox hg) | ((with_reducible refine qBN (N := 7) rfl ?_); refine box_ev ?_; intro ap hg cC hbox hb; have ab := am hbox; have aC := gwb hg; have aU := aC; have ag := nlt hg aa; have ah := ngt hg aa; replace aa := bbh aa hb; replace HB := bst hb; clear hb hbox hg; have bN := ag.1; have b0 := ah.1; have bD := cf3 aa.1) | ((with_reducible refine qBO (f := 34) rfl ?_); refine gC 14 Try.func34 _ (r09_Check.calls k ar _ _ al _ _ aq au ax _ (csb aG HB) aE.1 (csb aH HB) aF.1 A4.1) ?_; rintro e cD ⟨rfl, hb⟩; refine ⟨_, rfl, ?_⟩; replace aa := bbh aa hb; replace ab := bbh ab hb; replace HB := bst hb; (try clear hb)) | ((with_reducible refine qBN (N := 8) rfl ?_); refine box_ev ?_; intro aj hg cE hbox hb; have af := am hbox; have aD := gwb hg; have aV := aD; have ai := nlt hg aa; have ak := ngt hg aa; have ac := nlt hg ab; have ae := ngt hg ab; replace aa := bbh aa hb; replace ab := bbh ab hb; replace HB := bst hb; clear hb hbox hg; have bO := ak.1; have b1 := ai.1; have bP := ae.1; have b2 := ac.1; have bE := cf2 af.1; have bF := cf3 aa.1) | ((with_reducible refine qBO (f := 29) rfl ?_); refine gC 25 Try.func29 _ (r04_Valid.calls k _ _ l1 (al.length : Int) true _ (Kd.qCG bz.1 pbg) bx.1 A6.1) ?_; rintro e w' ⟨rfl, ⟨nd, rfl⟩⟩; refine ⟨_, rfl, ?_⟩) | ((with_reducible refine qBO (f := 43) rfl ?_); refine gC 29 Try.func43 _ (r04_Copy.calls k _ _ l1 aS _ (Kd.qCG bz.1 pbg) bx.1 A8.1) ?_; rintro e cF ⟨cn, rfl, a9, hb⟩; refine ⟨_, rfl, ?_⟩; have ba := am (Kd.qCH a9 (qBJ pbg)); replace aa := bbx aa (fun h_ => by (with_reducible repeat (first | refine qBK ?_ _ | refine qBM ?_ | refine qBL ?_ _)); refine bf2 ?_ ai.1; exact pbk h_) hb; replace ab := bbx ab (fun h_ => by (with_reducible repeat (first | refine qBK ?_ _ | refine qBM ?_ | refine qBL ?_ _)); refine bf2 ?_ ac.1; exact pbk h_) hb; replace af := am (qCF (g := aj) (o := .cells #[.int .i64 au, .int .i64 ax] 48 (0, 0)) (by (with_reducible repeat (first | refine qBK ?_ _ | refine qBM ?_ | refine qBL ?_ _)); exact bp2 (pbk af.1)) hb); replace HB := bst hb; (try clear hb); (try clear a9)))
 go_loopg [9, 10] k (fun kq v9 cm w' => ∃ (aR : List Int) (ao : Int) (av : Int) (aw : Int), cm = .int .i64 ao ∧ Aside0 (r11_Run.l0 kq l2 aR ao ar al aq = some (r1, r2, r3)) ∧ Aside0 (kq ≤ k) ∧ Aside0 (Kd.R (Kd.int .i64) 3 w' w.heap.size (fun _ => True) v9 aR) ∧ Aside0 (w'.heap[az]? = some (.cells #[.string ar, (.slice aM al.length aO), (.slice aN aq.length aP)] 25 (0, 0))) ∧ Aside0 (w'.heap[ap]? = some (.cells #[.int .i64 av, .int .i64 aw] 48 (0, 0))) ∧ Aside0 (w'.heap[aj]? = some (.cells #[.int .i64 au, .int .i64 ax] 48 (0, 0))) ∧ Aside0 (Below w.heap.size w w'))
 case atStart => exact ⟨(aS), (0), (0), (0), prs, H', ⟨Nat.le_refl _⟩, ⟨pkr ba.1⟩, ⟨pbk aa.1⟩, ⟨pbk ab.1⟩, ⟨pbk af.1⟩, ⟨pbg⟩⟩
 clear H'
 try clear c1 c2 c5 bh bi bD bE bF
 obtain ⟨aR, ao, av, aw, rfl, HA, bG, aA, aa, ab, af, HB⟩ := hrel
 obtain _ | k1 := gk
 ·exact absurd HA.1 (by simp [r11_Run.l0])
 have H := HA.1
 clear HA
 simp only [r11_Run.l0] at H
 replace H := ifl H
 rcases H with ⟨bd, H⟩ | ⟨bd, H⟩
 rotate_left
 ·simp only [Option.some.injEq, Prod.mk.injEq] at H
  obtain ⟨rfl, rfl, rfl⟩ := H
  have bS := ah.1
  have b5 := ag.1
  have bT := ac.1
  have b6 := ae.1
  have cr := cf2 ab.1
  go_wp2
  refine bodyPost_ret (results_tc rfl _ _ ap 48 #[.int .i64 0, .int .i64 0] (0, 0) _ rfl (by (with_reducible repeat (first | refine qBK ?_ _ | refine qBM ?_ | refine qBL ?_ _)); exact bp2 (pbk ab.1)) Try.underlying48 rfl (by kernel_rfl)) rfl ?_
  exact ⟨_, per, by (with_reducible repeat (first | apply Kd.R_alloc | apply Kd.R_drewN | apply Kd.R_drew)); exact Kd.R_mono (fR2 ap (Kd.qCI aA.1 ab.1 (by decide)) (fun _ hk => hk.2)) (fun _ hk => trivial), pbg⟩
 replace H := ifd H
 obtain ⟨bI, H⟩ := H
 replace H := bnd H
 obtain ⟨⟨bk, bl⟩, cf, H⟩ := H
 (try dsimp only at H)
 have HZ_ := am H
 clear H
 try go_wp2
 replace aA := am (Kd.R_drew aA.1)
 replace aa := am (qBM aa.1)
 replace ab := am (qBM ab.1)
 replace af := am (qBM af.1)
 replace HB := am (qCB HB.1)
 have a6 : 0 ≤ (ao : Int) := dq
 have a7 : ao < (l2.length : Int) := dq
 obtain ⟨bc, bB, ay⟩ := Kd.at_int cg.1 ao a6 a7
 have aI := ay
 cases bB
 replace ay := cbl HB.1 ay
 replace a6 := eq_true a6
 replace a7 := eq_true a7
 obtain ⟨bw, bA, bj⟩ := Kd.R_slice aA.1
 (first | subst bj | (injection bj with f1_ f2_ f3_; have f4_ := f1_.symm; have f5_ := f3_.symm; clear f1_ f2_ f3_; subst f4_; subst f5_))
 refine start_ (n := 12) (S := fun w' => w'.cell? ⟨az, 0, none⟩ = some (.string ar) ∧ w'.cell? ⟨az, 1, none⟩ = some (.slice aM al.length aO) ∧ w'.cell? ⟨az, 2, none⟩ = some (.slice aN aq.length aP) ∧ w'.cell? (bc.add (ao).toNat) = some (.int .i64 (rd l2 ao))) (ds := []) #[false, false, false, false, false, false, false, false, false, false, false, false] (by kernel_rfl) rfl rfl ⟨(qBI aa.1 0).trans rfl, (qBI aa.1 1).trans rfl, (qBI aa.1 2).trans rfl, (cbl HB.1 aI)⟩ (fun hHeld => ?_); refine qCL r11_Run.tab10 r11_Run.bits10 (fun HT_ HW_ => ?_)
 generalize wr.drew = cG at aA aa ab af HB ay hHeld ⊢
 refine pu HT_.1 1 38 ?_
 refine pu HT_.1 2 39 ?_
 refine pu HT_.1 3 40 ?_
 refine pu HT_.1 4 41 ?_
 refine tk HT_.1 HW_.1 hHeld 0 37 ?_
 refine tk HT_.1 HW_.1 hHeld 5 42 ?_
 refine on HT_.1 6 (some 43) rfl fun K hK => ?_
 refine goes_ Try.func50 (by kernel_rfl) rfl #[.agg #[.string ar, .slice aM al.length aO, .slice aN aq.length aP], .slice bw aR.length bA, .int .i64 (rd l2 ao)] (by rfl) rfl rfl pgz ?_
 with_reducible refine (r11_Fire.calls k1 ar _ _ al _ _ aq _ _ aR (rd l2 ao) bk bl _ ?side1 ?side2 ?side3 ?side4 ?side5 ?side6 cf.1).mono ?_
 (case side1 => exact csb aG HB)
 (case side2 => exact aE.1)
 (case side3 => exact csb aH HB)
 (case side4 => exact aF.1)
 (case side5 => exact csd ((Kd.qBR aA.1).2.2))
 (case side6 => exact (Kd.qBR aA.1).2.1)
 rintro e cH ⟨co, rfl, a9, hb⟩
 refine ⟨_, rfl, ?_⟩
 have bb := am (Kd.qCH (Kd.R_new' a9 (Kd.R_lt (pkr aA.1))) (qBJ pbg))
 replace aA := am (Kd.R_elder' (pkr aA.1) (Kd.R_base a9) hb)
 replace aa := bbh aa hb
 replace ab := bbh ab hb
 replace af := bbh af hb
 replace HB := bst hb
 (try clear hb)
 (try clear cB)
 (try clear hk)
 (try clear hi)
 (try clear a9)
 refine hK.out _ _ ⟨(qBI aa.1 0).trans rfl, (qBI aa.1 1).trans rfl, (qBI aa.1 2).trans rfl, (cbl HB.1 aI)⟩ (fun hHeld => ?_)
 clear hK K
 refine nm_ 43 ?_
 refine pu HT_.1 7 36 ?_
 refine pu HT_.1 8 44 ?_
 refine pu HT_.1 9 45 ?_
 refine pu HT_.1 10 11 ?_
 refine pu HT_.1 11 12 ?_
 refine done_ (done_of HT_.1 (by kernel_rfl)) ?_
 have H := HZ_.1
 clear HZ_
 replace H := ife H
 rcases H with ⟨bf, bg, H⟩ | ⟨bf, bg, H⟩
 ·have H' := am H
  clear H
  try go_wp2
  go_roundg k1
  case measure => have := bG.1; omega
  case rel => exact ⟨(bk), (wrap64 (ao + 1)), (av), (aw), prs, H', ⟨by have := bG.1; omega⟩, ⟨rmo bb.1 (fun _ hk => trivial)⟩, ⟨pbk aa.1⟩, ⟨pbk ab.1⟩, ⟨pbk af.1⟩, ⟨pbg⟩⟩
 simp only [Option.some.injEq, Prod.mk.injEq] at H
 obtain ⟨rfl, rfl, rfl⟩ := H
 have bQ := ah.1
 have b3 := ag.1
 have bR := ac.1
 have b4 := ae.1
 have cq := cf2 ab.1
 try go_wp2
 refine bodyPost_ret (results_tc rfl _ _ ap 48 #[.int .i64 bl, .int .i64 ao] (0, 0) _ rfl (by (with_reducible repeat (first | refine qBK ?_ _ | refine qBM ?_ | refine qBL ?_ _)); exact bp2 (pbk ab.1)) Try.underlying48 rfl (by kernel_rfl)) rfl ?_
 exact ⟨_, per, knl, pbg⟩

/-! ### r14_Find: function 53 -/
def r14_Find.l0 : Nat → List (List Int) → List Int → Int → Option (Int)
 | 0, _, _, _ => none
 | k + 1, x0, x1, x5 => if x5 < (x0.length : Int) then (if 0 ≤ x5 then ((r04_Same.f k (rd_L11 x0 x5) x1).bind fun ai => (if ai = true then (some x5) else (r14_Find.l0 k x0 x1 (wrap64 (x5 + 1))))) else (none)) else (some (-1))
def r14_Find.f (k : Nat) (l0 : List (List Int)) (l1 : List Int) : Option (Int) := r14_Find.l0 k l0 l1 0
theorem r14_Find.calls (k : Nat) (A0 : Option Addr) (c0 : Nat) (l0 : List (List Int)) (A1 : Option Addr) (c1 : Nat) (l1 : List Int) (r : Int) (w : World) (ax : Kd.C (Kd.slice 3 (Kd.int .i64)) w A0 l0.length l0) (hc0 : l0.length ≤ c0) (hr1 : Kd.C (Kd.int .i64) w A1 l1.length l1) (aw : l1.length ≤ c1) (h : r14_Find.f k l0 l1 = some r) :
  Calls Try.prog 53 #[.slice A0 l0.length c0, .slice A1 l1.length c1] w fun e w' => e = .returned (.int .i64 r) ∧ Drawn0 w w' := by
 have au := am ax
 have az := am hc0
 clear ax hc0
 have av := am hr1
 have aq := am aw
 clear hr1 aw
 have H : (r14_Find.l0 k l0 l1 0) = some r := h
 clear h
 have H' := am H
 clear H
 go_enter Try.func53, Try.ntmps53
 go_wp2
 go_loopg [5] k (fun kq v5 w' => ∃ (ac : Int), v5 = .int .i64 ac ∧ Aside0 (r14_Find.l0 kq l0 l1 ac = some r) ∧ Aside0 (kq ≤ k) ∧ Drawn0 w w')
 case atStart => exact ⟨(0), prs, H', ⟨Nat.le_refl _⟩, pdr⟩
 clear H'
 try clear c1
 obtain ⟨ac, rfl, HA, ar, ⟨m1, rfl⟩⟩ := hrel
 obtain _ | k1 := gk
 ·exact absurd HA.1 (by simp [r14_Find.l0])
 have H := HA.1
 clear HA
 simp only [r14_Find.l0] at H
 replace H := ifl H
 rcases H with ⟨ak, H⟩ | ⟨ak, H⟩
 rotate_left
 ·obtain rfl := Option.some.inj H
  go_wp2
  go_ret
  exact ⟨prs, pdr⟩
 replace H := ifd H
 obtain ⟨ay, H⟩ := H
 replace H := bnd H
 obtain ⟨ai, A5, H⟩ := H
 (try dsimp only at H)
 cases ai
 rotate_left
 ·rw [if_pos rfl] at H
  obtain rfl := Option.some.inj H
  obtain ⟨ao, ap, aj, af, ag, ah, ae, aa, ab⟩ := dL11 au.1 ac
  cases ah
  go_wp2_with (first | ((with_reducible refine qBO (f := 19) rfl ?_); refine gC 17 Try.func19 _ (r04_Same.calls k1 _ _ (rd_L11 l0 ac) _ _ l1 true _ (csd ab.1) aa.1 (csd av.1) aq.1 A5.1) ?_; rintro e w' ⟨rfl, ⟨nd, rfl⟩⟩; refine ⟨_, rfl, ?_⟩))
  go_ret
  exact ⟨prs, pdr⟩
 rw [if_neg Bool.false_ne_true] at H
 have H' := am H
 clear H
 obtain ⟨ao, ap, aj, af, ag, ah, ae, aa, ab⟩ := dL11 au.1 ac
 cases ah
 go_wp2_with (first | ((with_reducible refine qBO (f := 19) rfl ?_); refine gC 17 Try.func19 _ (r04_Same.calls k1 _ _ (rd_L11 l0 ac) _ _ l1 false _ (csd ab.1) aa.1 (csd av.1) aq.1 A5.1) ?_; rintro e w' ⟨rfl, ⟨nd, rfl⟩⟩; refine ⟨_, rfl, ?_⟩))
 go_roundg k1
 case measure => have := ar.1; omega
 case rel => exact ⟨(wrap64 (ac + 1)), prs, H', ⟨by have := ar.1; omega⟩, pdr⟩

end Go.Proofs.Ytaoogghpadifiaa.P
