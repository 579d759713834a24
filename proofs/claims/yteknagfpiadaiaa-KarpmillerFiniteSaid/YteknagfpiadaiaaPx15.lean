-- LAID BY OUR PROGRAM OVER THE PRINT (xprint.py, part.py): Lean checks it.
import Derived.Test.YteknagfpiadaiaaPx0
namespace Go.Proofs.Yteknagfpiadaiaa.P
open Go.RowKit Go.Proofs.YteknagfpiadaiaaW.PrintWords Go.Proofs.YteknagfpiadaiaaW.PrintLast Go.Proofs.YteknagfpiadaiaaW.PrintMore
attribute [local go_sem] max2_int min2_int max_two min_two max_three min_three max_four min_four   -- for this text's walks alone
set_option linter.unusedVariables false
set_option linter.unusedSimpArgs false

/-! ### r11_weight: function 75 -/
def r11_weight.l0 : Nat → List (S78) → Int → Int → Option (Int)
 | 0, _, _, _ => none
 | k + 1, x0, x1, x5 => if x5 < (x0.length : Int) then (if 0 ≤ x5 then (if ((rd_T78 x0 x5).f0) = x1 then (some ((rd_T78 x0 x5).f1)) else (r11_weight.l0 k x0 x1 (wrap64 (x5 + 1)))) else (none)) else (some 0)
def r11_weight.f (k : Nat) (l0 : List (S78)) (a1 : Int) : Option (Int) := r11_weight.l0 k l0 a1 0
theorem r11_weight.mono_l : ∀ k, M3 r11_weight.l0 k
 | 0 => fun _ _ _ r h => by simp [r11_weight.l0] at h
 | k + 1 => by
  have aq := r11_weight.mono_l k
  ·intro y0 y1 y2
   unfold r11_weight.l0
   repeat' first | (with_reducible first | apply aq | apply lr | apply ln | apply li | refine lb ?_ fun _ => ?_)
theorem r11_weight.mono : ∀ a0 a1 k, LeO (r11_weight.f k a0 a1) (r11_weight.f (k + 1) a0 a1) := by
 intro a0 a1 k
 have aq := r11_weight.mono_l k
 unfold r11_weight.f
 repeat' first | (with_reducible first | apply aq | apply lr | apply ln | apply li | refine lb ?_ fun _ => ?_)
set_option maxHeartbeats 8000000 in
set_option maxRecDepth 100000 in
theorem r11_weight.calls (k : Nat) (A0 : Option Addr) (c0 : Nat) (l0 : List (S78)) (a1 : Int) (r : Int) (w : World) (aw : Kd.C k78 w A0 l0.length l0) (hc0 : l0.length ≤ c0) (h : r11_weight.f k l0 a1 = some r) :
  Calls Try.prog 75 #[.slice A0 l0.length c0, .int .i64 a1] w fun e w' => e = .returned (.int .i64 r) ∧ Drawn0 w w' := by
 have aj := am aw
 have aA := am hc0
 clear aw hc0
 have H : (r11_weight.l0 k l0 a1 0) = some r := h
 clear h
 have H' := am H
 clear H
 go_enter Try.func75, Try.ntmps75
 go_wp2
 go_loopg [5] k (fun kq v5 w' => ∃ (aa : Int), v5 = .int .i64 aa ∧ Aside0 (r11_weight.l0 kq l0 a1 aa = some r) ∧ Aside0 (kq ≤ k) ∧ Drawn0 w w')
 case atStart => exact ⟨(0), prs, H', ⟨Nat.le_refl _⟩, pdr⟩
 clear H'
 obtain ⟨aa, rfl, HA, av, ⟨m1, rfl⟩⟩ := hrel
 obtain _ | k1 := gk
 ·exact absurd HA.1 (by simp [r11_weight.l0])
 have H := HA.1
 clear HA
 simp only [r11_weight.l0] at H
 replace H := ifl H
 rcases H with ⟨ak, H⟩ | ⟨ak, H⟩
 rotate_left
 ·obtain rfl := Option.some.inj H
  go_wp2
  go_ret
  exact ⟨prs, pdr⟩
 replace H := ifp H
 obtain ⟨c4, H⟩ := H
 have ax := decide_eq_true c4
 clear c4
 replace H := ife H
 rcases H with ⟨al, ao, H⟩ | ⟨al, ao, H⟩
 rotate_left
 ·have H' := am H
  clear H
  obtain ⟨ar, au, ae, af, ab, ac⟩ := dT78 aj.1 aa
  cases af
  go_wp2
  go_roundg k1
  case measure => have := av.1; omega
  case rel => exact ⟨(wrap64 (aa + 1)), prs, H', ⟨by have := av.1; omega⟩, pdr⟩
 obtain rfl := Option.some.inj H
 obtain ⟨ar, au, ae, af, ab, ac⟩ := dT78 aj.1 aa
 cases af
 obtain ⟨ay, az, ag, ap, ah, ai⟩ := dT78 aj.1 aa
 obtain rfl : ae = ag := (by injection ap)
 go_wp2
 go_ret
 exact ⟨prs, pdr⟩

/-! ### r11_Ready: function 74 -/
def r11_Ready.l0 : Nat → List Int → Int → ByteArray → List (S57) → List (S60) → ByteArray → List (S78) → List (S78) → List (S78) → Int → Option (Bool)
 | 0, _, _, _, _, _, _, _, _, _, _ => none
 | k + 1, x1, x8, bp, aR, bq, br, a9, bl, bm, bs => if x8 < (aR.length : Int) then ((r11_weight.f k bm x8).bind fun b3 => (if 0 ≤ x8 then (if x8 < (x1.length : Int) then ((r11_weight.f k a9 x8).bind fun b4 => ((r11_weight.f k bl x8).bind fun b5 => ((r11_weight.f k a9 x8).bind fun bA => (if (rd x1 x8) < bA then (some false) else (if b3 > 0 then (if (rd x1 x8) ≥ b3 then (some false) else (if ((rd_T57 aR x8).f2) > 0 then (if (wrap64 ((wrap64 ((rd x1 x8) - b4)) + b5)) > ((rd_T57 aR x8).f2) then (some false) else (r11_Ready.l0 k x1 (wrap64 (x8 + 1)) bp aR bq br a9 bl bm bs)) else (r11_Ready.l0 k x1 (wrap64 (x8 + 1)) bp aR bq br a9 bl bm bs))) else (if ((rd_T57 aR x8).f2) > 0 then (if (wrap64 ((wrap64 ((rd x1 x8) - b4)) + b5)) > ((rd_T57 aR x8).f2) then (some false) else (r11_Ready.l0 k x1 (wrap64 (x8 + 1)) bp aR bq br a9 bl bm bs)) else (r11_Ready.l0 k x1 (wrap64 (x8 + 1)) bp aR bq br a9 bl bm bs))))))) else (none)) else (none))) else (some true)
def r11_Ready.f (k : Nat) (aZ : ByteArray) (ah : List (S57)) (ac : List (S60)) (l1 : List Int) (a2 : Int) : Option (Bool) := if 0 ≤ a2 then (if a2 < (ac.length : Int) then (r11_Ready.l0 k l1 0 aZ ah ac ((rd_T60 ac a2).f0) ((rd_T60 ac a2).f1) ((rd_T60 ac a2).f2) ((rd_T60 ac a2).f3) ((rd_T60 ac a2).f4)) else (none)) else (none)
theorem r11_Ready.mono_l : ∀ k, M10 r11_Ready.l0 k
 | 0 => fun _ _ _ _ _ _ _ _ _ _ r h => by simp [r11_Ready.l0] at h
 | k + 1 => by
  have cA := r11_Ready.mono_l k
  ·intro y0 y1 y2 y3 y4 y5 y6 y7 y8 y9
   unfold r11_Ready.l0
   repeat' first | (with_reducible first | apply cA | apply r11_weight.mono | apply lr | apply ln | apply li | refine lb ?_ fun _ => ?_)
theorem r11_Ready.mono : ∀ a0 a1 a2 a3 a4 k, LeO (r11_Ready.f k a0 a1 a2 a3 a4) (r11_Ready.f (k + 1) a0 a1 a2 a3 a4) := by
 intro a0 a1 a2 a3 a4 k
 have cA := r11_Ready.mono_l k
 unfold r11_Ready.f
 repeat' first | (with_reducible first | apply cA | apply r11_weight.mono | apply lr | apply ln | apply li | refine lb ?_ fun _ => ?_)
def r11_Ready.T6 : Bool × List (List Nat × List Nat) := (true, [([], []), ([], []), ([0, 1], [0, 1]), ([2], [2]), ([], []), ([4], [4]), ([], []), ([5, 6], [5, 6]), ([3, 7], [3, 7]), ([], []), ([9], [9]), ([], []), ([10, 11, 7], [10, 11]), ([8, 12], [8, 12]), ([13, 12, 0, 1, 2, 3, 4, 5, 6, 7, 8, 9, 10, 11, 12, 13], [13])])
def r11_Ready.B6 : List Nat := [0, 0, 3, 7, 0, 16, 0, 112, 255, 0, 512, 0, 3824, 8191, 16383]
theorem r11_Ready.tab6 : rtab .any (opsOf Try.f74 6) = r11_Ready.T6 := by kernel_rfl
theorem r11_Ready.bits6 : waitsOk r11_Ready.T6.2 r11_Ready.B6 = true := by kernel_rfl
def r11_Ready.T7 : Bool × List (List Nat × List Nat) := (true, [([], []), ([], []), ([0, 1], [0, 1]), ([2], [2]), ([], []), ([4], [4]), ([], []), ([5, 6], [5, 6]), ([3, 7], [3, 7]), ([8, 7], [8]), ([9], [9]), ([10, 9], [9, 10]), ([11, 9, 9], [9, 11]), ([12], [12]), ([12], [12]), ([13, 14, 12], [12, 13, 14]), ([15, 12], [12, 15]), ([12], [12]), ([16, 17, 12], [12, 16, 17]), ([12, 18, 9], [9, 12, 18]), ([9, 19], [9, 19]), ([20, 12], [20]), ([21], [21]), ([22, 21], [21, 22]), ([21], [21]), ([23, 24, 21], [21, 23, 24]), ([25, 21], [21, 25]), ([26, 21], [21, 26]), ([27, 21], [21, 27]), ([28, 21, 21], [21, 28]), ([29], [29]), ([29], [29]), ([31, 29], [29, 31]), ([29], [29]), ([32, 33, 29], [29, 32, 33]), ([34, 29], [29, 34]), ([35, 29], [29, 35]), ([30, 36, 29], [29, 30, 36]), ([29, 37, 21], [21, 29, 37]), ([21, 38], [21, 38])])
def r11_Ready.B7 : List Nat := [0, 0, 3, 7, 0, 16, 0, 112, 255, 511, 1023, 2047, 4095, 8191, 8191, 32767, 65535, 8191, 262143, 524287, 1048575, 2097151, 4194303, 8388607, 4194303, 33554431, 67108863, 134217727, 268435455, 536870911, 1073741823, 1073741823, 3221225471, 1073741823, 16106127359, 33285996543, 67645734911, 137438953471, 274877906943, 549755813887]
theorem r11_Ready.tab7 : rtab .any (opsOf Try.f74 7) = r11_Ready.T7 := by kernel_rfl
theorem r11_Ready.bits7 : waitsOk r11_Ready.T7.2 r11_Ready.B7 = true := by kernel_rfl
set_option maxHeartbeats 8000000 in
set_option maxRecDepth 100000 in
theorem r11_Ready.calls (k : Nat) (aZ : ByteArray) (a5 : Option Addr) (a6 : Nat) (ah : List (S57)) (ch : Option Addr) (a7 : Nat) (ac : List (S60)) (A1 : Option Addr) (c1 : Nat) (l1 : List Int) (a2 : Int) (r : Bool) (w : World) (ca : Kd.C k57 w a5 ah.length ah) (b8 : ah.length ≤ a6) (cb : Kd.C k60 w ch ac.length ac) (b9 : ac.length ≤ a7) (cO : Kd.C (Kd.int .i64) w A1 l1.length l1) (cJ : l1.length ≤ c1) (h : r11_Ready.f k aZ ah ac l1 a2 = some r) :
  Calls Try.prog 74 #[.agg #[.string aZ, .slice a5 ah.length a6, .slice ch ac.length a7], .slice A1 l1.length c1, .int .i64 a2] w fun e w' => e = .returned (.bool r) ∧ Below w.heap.size w w' := by
 have cS := Try.underlying25
 have cT := Try.underlying60
 have ba := am ca
 have cD := am b8
 clear ca b8
 have ck := am cb
 have cE := am b9
 clear cb b9
 have bS := am cO
 have cV := am cJ
 clear cO cJ
 have HB := am (Below.refl w.heap.size w)
 have H := h
 unfold r11_Ready.f at H
 clear h
 replace H := ifp H
 obtain ⟨c4, H⟩ := H
 have cw := decide_eq_true c4
 clear c4
 replace H := ifp H
 obtain ⟨c5, H⟩ := H
 have cx := decide_eq_true c5
 clear c5
 have H' := am H
 clear H
 go_enter Try.func74, Try.ntmps74
 go_wp2_with (first | ((with_reducible refine gate_dst (N := 3) rfl ?_); refine box_ev ?_; intro aq hg w6 hbox hb; have ae := am hbox; have ci := gwl hg; have cB := ci; replace HB := bsl hb; clear hb hbox hg; have z7 := cf3 ae.1; have b1 : 0 ≤ (a2 : Int) := dq; have b2 : a2 < (ac.length : Int) := dq; obtain ⟨aI, aj, ak, ar, au, av, aw, cy, bC, bD, bE, bF, bG, bP, bM, bQ, bN, bR, bO⟩ := at_T60 ck.1 a2 b1 b2; cases cy; replace bC := cbl HB.1 bC; replace bD := cbl HB.1 bD; replace bE := cbl HB.1 bE; replace bF := cbl HB.1 bF; replace bG := cbl HB.1 bG; have aK := am bM; have aJ := am bP; clear bM bP; have bZ := am bN; have bX := am bQ; clear bN bQ; have b0 := am bO; have bY := am bR; clear bO bR; replace b1 := eq_true b1; replace b2 := eq_true b2) | ((with_reducible refine gate_dst (N := 7) rfl ?_); refine box_ev (N := 7) (cs := #[.string (⟨#[]⟩ : ByteArray), .slice none 0 0, .slice none 0 0, .slice none 0 0, .int .i64 0]) (t := 60) ?_; intro ag hg w8 hbox hb; have aa := am hbox; have cj := gwb hg; have cC := cj; have a8 := nlt hg ae; have bn := ngt hg ae; replace ae := bbh ae hb; replace HB := bst hb; clear hb hbox hg; have cQ := bn.1; have cR := a8.1; have cU := cf5 aa.1))
 go_loopg [8] k (fun kq v8 w' => ∃ (ab : Int), v8 = .int .i64 ab ∧ Aside0 (r11_Ready.l0 kq l1 ab aZ ah ac ((rd_T60 ac a2).f0) ((rd_T60 ac a2).f1) ((rd_T60 ac a2).f2) ((rd_T60 ac a2).f3) ((rd_T60 ac a2).f4) = some r) ∧ Aside0 (kq ≤ k) ∧ Aside0 (w'.heap[aq]? = some (.cells #[.string aZ, (.slice a5 ah.length a6), (.slice (some aI) ac.length a7)] 25 (0, 0))) ∧ Aside0 (w'.heap[ag]? = some (.cells #[.string ((rd_T60 ac a2).f0), (.slice aj ((rd_T60 ac a2).f1).length ak), (.slice ar ((rd_T60 ac a2).f2).length au), (.slice av ((rd_T60 ac a2).f3).length aw), .int .i64 ((rd_T60 ac a2).f4)] 60 (0, 0))) ∧ Aside0 (Below w.heap.size w w'))
 case atStart => exact ⟨(0), prs, H', ⟨Nat.le_refl _⟩, ⟨by (with_reducible repeat (first | refine blk_drewN ?_ _ | refine blk_drew ?_ | refine blk_alloc ?_ _)); refine bf5 ?_ a8.1; exact pbk ae.1⟩, ⟨by (with_reducible repeat (first | refine blk_drewN ?_ _ | refine blk_drew ?_ | refine blk_alloc ?_ _)); exact bp5 (pbk aa.1)⟩, ⟨pbg⟩⟩
 clear H'
 try clear c1 c4 cw c5 cx cU z7 bC bD bE bF bG b1 b2
 obtain ⟨ab, rfl, HA, b7, ae, aa, HB⟩ := hrel
 obtain _ | k1 := gk
 ·exact absurd HA.1 (by simp [r11_Ready.l0])
 have H := HA.1
 clear HA
 simp only [r11_Ready.l0] at H
 replace H := ifl H
 rcases H with ⟨cm, H⟩ | ⟨cm, H⟩
 rotate_left
 ·obtain rfl := Option.some.inj H
  have cL := a8.1
  have cN := bn.1
  have z66 := cf3 ae.1
  go_wp2
  go_ret
  exact ⟨per, pbg⟩
 replace H := bnd H
 obtain ⟨b3, A12, H⟩ := H
 (try dsimp only at H)
 replace H := ifp H
 obtain ⟨cF, H⟩ := H
 have cG := decide_eq_true cF
 clear cF
 replace H := ifp H
 obtain ⟨cH, H⟩ := H
 have cI := decide_eq_true cH
 clear cH
 replace H := bnd H
 obtain ⟨b4, A15, H⟩ := H
 (try dsimp only at H)
 replace H := bnd H
 obtain ⟨b5, cP, H⟩ := H
 (try dsimp only at H)
 replace H := bnd H
 obtain ⟨bA, b6, H⟩ := H
 (try dsimp only at H)
 have HZ_ := am H
 clear H
 have cK := a8.1
 have cM := bn.1
 have df := cf3 ae.1
 have dg := cf5 aa.1
 try go_wp2_with (first | ((with_reducible refine gate_callee (f := 75) rfl ?_); refine gC 26 Try.func75 _ (r11_weight.calls k1 _ _ ((rd_T60 ac a2).f3) ab b3 _ (csb b0 HB) bY.1 A12.1) ?_; rintro e w' ⟨rfl, ⟨nd, rfl⟩⟩; refine ⟨_, rfl, ?_⟩))
 iterate 3 (try (rw [drewN_self wr]; generalize hq_ : World.drewN wr _ = wr; replace ae : Aside0 (wr.heap[aq]? = some (.cells #[.string aZ, .slice a5 ah.length a6, .slice (some aI) ac.length a7] 25 (0, 0))) := ⟨by rw [← hq_]; exact (by exact pbk ae.1)⟩; replace aa : Aside0 (wr.heap[ag]? = some (.cells #[.string ((rd_T60 ac a2).f0), .slice aj ((rd_T60 ac a2).f1).length ak, .slice ar ((rd_T60 ac a2).f2).length au, .slice av ((rd_T60 ac a2).f3).length aw, .int .i64 ((rd_T60 ac a2).f4)] 60 (0, 0))) := ⟨by rw [← hq_]; exact (by exact pbk aa.1)⟩; replace HB : Aside0 (Below w.heap.size w wr) := ⟨by rw [← hq_]; exact pbg⟩; clear hq_))
 replace ae := am (blk_drew ae.1)
 replace aa := am (blk_drew aa.1)
 replace HB := am (below_drew1 HB.1)
 have cf : 0 ≤ (ab : Int) := dq
 have cg : ab < (l1.length : Int) := dq
 obtain ⟨ax, cz, bo⟩ := Kd.at_int bS.1 ab cf cg
 have bB := bo
 cases cz
 replace bo := cbl HB.1 bo
 replace cf := eq_true cf
 replace cg := eq_true cg
 refine start_ (n := 15) (S := fun w' => w'.cell? ⟨ag, 0, none⟩ = some (.string ((rd_T60 ac a2).f0)) ∧ w'.cell? ⟨ag, 1, none⟩ = some (.slice aj ((rd_T60 ac a2).f1).length ak) ∧ w'.cell? ⟨ag, 2, none⟩ = some (.slice ar ((rd_T60 ac a2).f2).length au) ∧ w'.cell? ⟨ag, 3, none⟩ = some (.slice av ((rd_T60 ac a2).f3).length aw) ∧ w'.cell? ⟨ag, 4, none⟩ = some (.int .i64 ((rd_T60 ac a2).f4)) ∧ w'.cell? (ax.add (ab).toNat) = some (.int .i64 (rd l1 ab))) (ds := []) #[false, false, false, false, false, false, false, false, false, false, false, false, false, false, false] (by kernel_rfl) rfl rfl ⟨(blk_cell aa.1 0).trans rfl, (blk_cell aa.1 1).trans rfl, (blk_cell aa.1 2).trans rfl, (blk_cell aa.1 3).trans rfl, (blk_cell aa.1 4).trans rfl, (cbl HB.1 bB)⟩ (fun hHeld => ?_); refine with_tabW r11_Ready.tab6 r11_Ready.bits6 (fun HT_ HW_ => ?_)
 generalize wr.drew = aH at ae aa HB bo hHeld ⊢
 refine pu HT_.1 0 27 ?_
 refine pu HT_.1 1 28 ?_
 refine pu HT_.1 2 29 ?_
 refine pu HT_.1 4 31 ?_
 refine pu HT_.1 6 33 ?_
 refine pu HT_.1 9 36 ?_
 refine pu HT_.1 11 38 ?_
 refine tk HT_.1 HW_.1 hHeld 3 30 ?_
 refine tk HT_.1 HW_.1 hHeld 5 32 ?_
 refine tk HT_.1 HW_.1 hHeld 10 37 ?_
 refine on HT_.1 7 (some 34) rfl fun K hK => ?_
 refine goes_ Try.func75 (by kernel_rfl) rfl #[.slice aj ((rd_T60 ac a2).f1).length ak, .int .i64 ab] (by rfl) rfl rfl pgz ?_
 with_reducible refine (r11_weight.calls k1 _ _ ((rd_T60 ac a2).f1) ab b4 _ ?side1 ?side2 A15.1).mono ?_
 (case side1 => exact csb aK HB)
 (case side2 => exact aJ.1)
 rintro e w' ⟨rfl, ⟨nd, rfl⟩⟩
 refine ⟨_, rfl, ?_⟩
 refine hK.out _ _ ⟨(blk_cell aa.1 0).trans rfl, (blk_cell aa.1 1).trans rfl, (blk_cell aa.1 2).trans rfl, (blk_cell aa.1 3).trans rfl, (blk_cell aa.1 4).trans rfl, (cbl HB.1 bB)⟩ (fun hHeld => ?_)
 clear hK K
 refine nm_ 34 ?_
 refine pu HT_.1 8 35 ?_
 refine on HT_.1 12 (some 39) rfl fun K hK => ?_
 refine goes_ Try.func75 (by kernel_rfl) rfl #[.slice ar ((rd_T60 ac a2).f2).length au, .int .i64 ab] (by rfl) rfl rfl pgz ?_
 with_reducible refine (r11_weight.calls k1 _ _ ((rd_T60 ac a2).f2) ab b5 _ ?side1 ?side2 cP.1).mono ?_
 (case side1 => exact csd ((Kd.C_below bZ.1 pbg)))
 (case side2 => exact bX.1)
 rintro e w' ⟨rfl, ⟨nd, rfl⟩⟩
 refine ⟨_, rfl, ?_⟩
 refine hK.out _ _ ⟨(blk_cell aa.1 0).trans rfl, (blk_cell aa.1 1).trans rfl, (blk_cell aa.1 2).trans rfl, (blk_cell aa.1 3).trans rfl, (blk_cell aa.1 4).trans rfl, (cbl HB.1 bB)⟩ (fun hHeld => ?_)
 clear hK K
 refine nm_ 39 ?_
 refine pu HT_.1 13 40 ?_
 refine pu HT_.1 14 10 ?_
 refine done_ (done_of HT_.1 (by kernel_rfl)) ?_
 have H := HZ_.1
 clear HZ_
 replace H := ifl H
 rcases H with ⟨cn, H⟩ | ⟨cn, H⟩
 ·obtain rfl := Option.some.inj H
  try go_wp2
  iterate 3 (try (rw [drewN_self aH]; generalize hq_ : World.drewN aH _ = aH; replace ae : Aside0 (aH.heap[aq]? = some (.cells #[.string aZ, .slice a5 ah.length a6, .slice (some aI) ac.length a7] 25 (0, 0))) := ⟨by rw [← hq_]; exact (by exact pbk ae.1)⟩; replace aa : Aside0 (aH.heap[ag]? = some (.cells #[.string ((rd_T60 ac a2).f0), .slice aj ((rd_T60 ac a2).f1).length ak, .slice ar ((rd_T60 ac a2).f2).length au, .slice av ((rd_T60 ac a2).f3).length aw, .int .i64 ((rd_T60 ac a2).f4)] 60 (0, 0))) := ⟨by rw [← hq_]; exact (by exact pbk aa.1)⟩; replace HB : Aside0 (Below w.heap.size w aH) := ⟨by rw [← hq_]; exact pbg⟩; clear hq_))
  replace ae := am (blk_drew ae.1)
  replace aa := am (blk_drew aa.1)
  replace HB := am (below_drew1 HB.1)
  have aE : 0 ≤ (ab : Int) := dq
  have aF : ab < (l1.length : Int) := dq
  obtain ⟨aS, bb, af⟩ := Kd.at_int bS.1 ab aE aF
  have ai := af
  obtain rfl : ax = aS := (by injection bb)
  replace af := cbl HB.1 af
  replace aE := eq_true aE
  replace aF := eq_true aF
  refine start_ (n := 40) (S := fun w' => w'.cell? ⟨ag, 0, none⟩ = some (.string ((rd_T60 ac a2).f0)) ∧ w'.cell? ⟨ag, 1, none⟩ = some (.slice aj ((rd_T60 ac a2).f1).length ak) ∧ w'.cell? ⟨ag, 2, none⟩ = some (.slice ar ((rd_T60 ac a2).f2).length au) ∧ w'.cell? ⟨ag, 3, none⟩ = some (.slice av ((rd_T60 ac a2).f3).length aw) ∧ w'.cell? ⟨ag, 4, none⟩ = some (.int .i64 ((rd_T60 ac a2).f4)) ∧ w'.cell? (ax.add (ab).toNat) = some (.int .i64 (rd l1 ab))) (ds := []) #[false, false, false, false, false, false, false, false, false, false, false, false, false, false, false, false, false, false, false, false, false, false, false, false, false, false, false, false, false, false, false, false, false, false, false, false, false, false, false, false] (by kernel_rfl) rfl rfl ⟨(blk_cell aa.1 0).trans rfl, (blk_cell aa.1 1).trans rfl, (blk_cell aa.1 2).trans rfl, (blk_cell aa.1 3).trans rfl, (blk_cell aa.1 4).trans rfl, (cbl HB.1 ai)⟩ (fun hHeld => ?_); refine with_tabW r11_Ready.tab7 r11_Ready.bits7 (fun HT_ HW_ => ?_)
  generalize aH.drew = cW at ae aa HB af hHeld ⊢
  refine pu HT_.1 0 41 ?_
  refine pu HT_.1 1 42 ?_
  refine pu HT_.1 2 43 ?_
  refine pu HT_.1 4 45 ?_
  refine pu HT_.1 6 47 ?_
  refine tk HT_.1 HW_.1 hHeld 3 44 ?_
  refine tk HT_.1 HW_.1 hHeld 5 46 ?_
  refine on HT_.1 7 (some 48) rfl fun K hK => ?_
  refine goes_ Try.func75 (by kernel_rfl) rfl #[.slice aj ((rd_T60 ac a2).f1).length ak, .int .i64 ab] (by rfl) rfl rfl pgz ?_
  with_reducible refine (r11_weight.calls k1 _ _ ((rd_T60 ac a2).f1) ab bA _ ?side1 ?side2 b6.1).mono ?_
  (case side1 => exact csb aK HB)
  (case side2 => exact aJ.1)
  rintro e w' ⟨rfl, ⟨nd, rfl⟩⟩
  refine ⟨_, rfl, ?_⟩
  refine hK.out _ _ ⟨(blk_cell aa.1 0).trans rfl, (blk_cell aa.1 1).trans rfl, (blk_cell aa.1 2).trans rfl, (blk_cell aa.1 3).trans rfl, (blk_cell aa.1 4).trans rfl, (cbl HB.1 ai)⟩ (fun hHeld => ?_)
  clear hK K
  refine nm_ 48 ?_
  refine pu HT_.1 8 49 ?_
  refine pu HT_.1 9 50 ?_
  refine pd HT_.1 10 51 ?_
  refine pd HT_.1 11 52 ?_
  refine pd HT_.1 12 53 ?_
  refine pd HT_.1 13 54 ?_
  refine pd HT_.1 14 55 ?_
  refine pd HT_.1 15 56 ?_
  refine pd HT_.1 16 57 ?_
  refine pd HT_.1 17 58 ?_
  refine pd HT_.1 18 59 ?_
  refine pd HT_.1 19 60 ?_
  refine pu HT_.1 20 61 ?_
  refine pu HT_.1 21 62 ?_
  refine pd HT_.1 22 63 ?_
  refine pd HT_.1 23 64 ?_
  refine pd HT_.1 24 65 ?_
  refine pd HT_.1 25 66 ?_
  refine pd HT_.1 26 67 ?_
  refine pd HT_.1 27 68 ?_
  refine pd HT_.1 28 69 ?_
  refine pd HT_.1 29 70 ?_
  refine pd HT_.1 30 71 ?_
  refine pd HT_.1 31 72 ?_
  refine pd HT_.1 32 73 ?_
  refine pd HT_.1 33 74 ?_
  refine pd HT_.1 34 75 ?_
  refine pd HT_.1 35 76 ?_
  refine pd HT_.1 36 77 ?_
  refine pd HT_.1 37 78 ?_
  refine pd HT_.1 38 79 ?_
  refine pu HT_.1 39 80 ?_
  refine done_ (done_of HT_.1 (by kernel_rfl)) ?_
  try go_wp2
  go_ret
  exact ⟨per, pbg⟩
 replace H := ifg H
 rcases H with ⟨co, H⟩ | ⟨co, H⟩
 rotate_left
 ·replace H := ifg H
  rcases H with ⟨cu, H⟩ | ⟨cu, H⟩
  rotate_left
  ·have H' := am H
   clear H
   try go_wp2
   iterate 3 (try (rw [drewN_self aH]; generalize hq_ : World.drewN aH _ = aH; replace ae : Aside0 (aH.heap[aq]? = some (.cells #[.string aZ, .slice a5 ah.length a6, .slice (some aI) ac.length a7] 25 (0, 0))) := ⟨by rw [← hq_]; exact (by exact pbk ae.1)⟩; replace aa : Aside0 (aH.heap[ag]? = some (.cells #[.string ((rd_T60 ac a2).f0), .slice aj ((rd_T60 ac a2).f1).length ak, .slice ar ((rd_T60 ac a2).f2).length au, .slice av ((rd_T60 ac a2).f3).length aw, .int .i64 ((rd_T60 ac a2).f4)] 60 (0, 0))) := ⟨by rw [← hq_]; exact (by exact pbk aa.1)⟩; replace HB : Aside0 (Below w.heap.size w aH) := ⟨by rw [← hq_]; exact pbg⟩; clear hq_))
   replace ae := am (blk_drew ae.1)
   replace aa := am (blk_drew aa.1)
   replace HB := am (below_drew1 HB.1)
   have aE : 0 ≤ (ab : Int) := dq
   have aF : ab < (l1.length : Int) := dq
   obtain ⟨aS, bb, af⟩ := Kd.at_int bS.1 ab aE aF
   have ai := af
   obtain rfl : ax = aS := (by injection bb)
   replace af := cbl HB.1 af
   replace aE := eq_true aE
   replace aF := eq_true aF
   have bw : 0 ≤ (ab : Int) := dq
   have bz : ab < (ah.length : Int) := dq
   obtain ⟨ap, bW, aB, aC, aD⟩ := at_T57 ba.1 ab bw bz
   have aY := aD
   have aX := aC
   have aW := aB
   cases bW
   replace aB := cbl HB.1 aB
   replace aC := cbl HB.1 aC
   replace aD := cbl HB.1 aD
   replace bw := eq_true bw
   replace bz := eq_true bz
   refine start_ (n := 40) (S := fun w' => w'.cell? ⟨ag, 0, none⟩ = some (.string ((rd_T60 ac a2).f0)) ∧ w'.cell? ⟨ag, 1, none⟩ = some (.slice aj ((rd_T60 ac a2).f1).length ak) ∧ w'.cell? ⟨ag, 2, none⟩ = some (.slice ar ((rd_T60 ac a2).f2).length au) ∧ w'.cell? ⟨ag, 3, none⟩ = some (.slice av ((rd_T60 ac a2).f3).length aw) ∧ w'.cell? ⟨ag, 4, none⟩ = some (.int .i64 ((rd_T60 ac a2).f4)) ∧ w'.cell? ⟨aq, 0, none⟩ = some (.string aZ) ∧ w'.cell? ⟨aq, 1, none⟩ = some (.slice (some ap) ah.length a6) ∧ w'.cell? ⟨aq, 2, none⟩ = some (.slice (some aI) ac.length a7) ∧ w'.cell? (ax.add (ab).toNat) = some (.int .i64 (rd l1 ab)) ∧ w'.cell? (ap.add ((ab).toNat * 3)) = some (.string ((rd_T57 ah ab).f0)) ∧ w'.cell? ⟨(ap.add ((ab).toNat * 3)).block, (ap.add ((ab).toNat * 3)).off + 1, none⟩ = some (.int .i64 ((rd_T57 ah ab).f1)) ∧ w'.cell? ⟨(ap.add ((ab).toNat * 3)).block, (ap.add ((ab).toNat * 3)).off + 2, none⟩ = some (.int .i64 ((rd_T57 ah ab).f2))) (ds := []) #[false, false, false, false, false, false, false, false, false, false, false, false, false, false, false, false, false, false, false, false, false, false, false, false, false, false, false, false, false, false, false, false, false, false, false, false, false, false, false, false] (by kernel_rfl) rfl rfl ⟨(blk_cell aa.1 0).trans rfl, (blk_cell aa.1 1).trans rfl, (blk_cell aa.1 2).trans rfl, (blk_cell aa.1 3).trans rfl, (blk_cell aa.1 4).trans rfl, (blk_cell ae.1 0).trans rfl, (blk_cell ae.1 1).trans rfl, (blk_cell ae.1 2).trans rfl, (cbl HB.1 ai), (cbl HB.1 aW), (cbl HB.1 aX), (cbl HB.1 aY)⟩ (fun hHeld => ?_); refine with_tabW r11_Ready.tab7 r11_Ready.bits7 (fun HT_ HW_ => ?_)
   generalize aH.drew = de at ae aa HB af aB aC aD hHeld ⊢
   refine pu HT_.1 0 41 ?_
   refine pu HT_.1 1 42 ?_
   refine pu HT_.1 2 43 ?_
   refine pu HT_.1 4 45 ?_
   refine pu HT_.1 6 47 ?_
   refine tk HT_.1 HW_.1 hHeld 3 44 ?_
   refine tk HT_.1 HW_.1 hHeld 5 46 ?_
   refine on HT_.1 7 (some 48) rfl fun K hK => ?_
   refine goes_ Try.func75 (by kernel_rfl) rfl #[.slice aj ((rd_T60 ac a2).f1).length ak, .int .i64 ab] (by rfl) rfl rfl pgz ?_
   with_reducible refine (r11_weight.calls k1 _ _ ((rd_T60 ac a2).f1) ab bA _ ?side1 ?side2 b6.1).mono ?_
   (case side1 => exact csb aK HB)
   (case side2 => exact aJ.1)
   rintro e w' ⟨rfl, ⟨nd, rfl⟩⟩
   refine ⟨_, rfl, ?_⟩
   refine hK.out _ _ ⟨(blk_cell aa.1 0).trans rfl, (blk_cell aa.1 1).trans rfl, (blk_cell aa.1 2).trans rfl, (blk_cell aa.1 3).trans rfl, (blk_cell aa.1 4).trans rfl, (blk_cell ae.1 0).trans rfl, (blk_cell ae.1 1).trans rfl, (blk_cell ae.1 2).trans rfl, (cbl HB.1 ai), (cbl HB.1 aW), (cbl HB.1 aX), (cbl HB.1 aY)⟩ (fun hHeld => ?_)
   clear hK K
   refine nm_ 48 ?_
   refine pu HT_.1 8 49 ?_
   refine pu HT_.1 9 50 ?_
   refine pu HT_.1 10 51 ?_
   refine pu HT_.1 11 52 ?_
   refine pu HT_.1 12 53 ?_
   refine pd HT_.1 13 54 ?_
   refine pd HT_.1 14 55 ?_
   refine pd HT_.1 15 56 ?_
   refine pd HT_.1 16 57 ?_
   refine pd HT_.1 17 58 ?_
   refine pd HT_.1 18 59 ?_
   refine pu HT_.1 19 60 ?_
   refine pu HT_.1 20 61 ?_
   refine pu HT_.1 21 62 ?_
   refine pu HT_.1 22 63 ?_
   refine pu HT_.1 24 65 ?_
   refine tk HT_.1 HW_.1 hHeld 23 64 ?_
   refine pu HT_.1 25 66 ?_
   refine pu HT_.1 26 67 ?_
   refine tk HT_.1 HW_.1 hHeld 27 68 ?_
   refine pu HT_.1 28 69 ?_
   refine pu HT_.1 29 70 ?_
   refine pd HT_.1 30 71 ?_
   refine pd HT_.1 31 72 ?_
   refine pd HT_.1 32 73 ?_
   refine pd HT_.1 33 74 ?_
   refine pd HT_.1 34 75 ?_
   refine pd HT_.1 35 76 ?_
   refine pd HT_.1 36 77 ?_
   refine pd HT_.1 37 78 ?_
   refine pu HT_.1 38 79 ?_
   refine pu HT_.1 39 80 ?_
   refine done_ (done_of HT_.1 (by kernel_rfl)) ?_
   try go_wp2
   go_roundg k1
   case measure => have := b7.1; omega
   case rel => exact ⟨(wrap64 (ab + 1)), prs, H', ⟨by have := b7.1; omega⟩, ⟨pbk ae.1⟩, ⟨pbk aa.1⟩, ⟨pbg⟩⟩
  replace H := ifg H
  rcases H with ⟨cv, H⟩ | ⟨cv, H⟩
  ·obtain rfl := Option.some.inj H
   try go_wp2
   iterate 3 (try (rw [drewN_self aH]; generalize hq_ : World.drewN aH _ = aH; replace ae : Aside0 (aH.heap[aq]? = some (.cells #[.string aZ, .slice a5 ah.length a6, .slice (some aI) ac.length a7] 25 (0, 0))) := ⟨by rw [← hq_]; exact (by exact pbk ae.1)⟩; replace aa : Aside0 (aH.heap[ag]? = some (.cells #[.string ((rd_T60 ac a2).f0), .slice aj ((rd_T60 ac a2).f1).length ak, .slice ar ((rd_T60 ac a2).f2).length au, .slice av ((rd_T60 ac a2).f3).length aw, .int .i64 ((rd_T60 ac a2).f4)] 60 (0, 0))) := ⟨by rw [← hq_]; exact (by exact pbk aa.1)⟩; replace HB : Aside0 (Below w.heap.size w aH) := ⟨by rw [← hq_]; exact pbg⟩; clear hq_))
   replace ae := am (blk_drew ae.1)
   replace aa := am (blk_drew aa.1)
   replace HB := am (below_drew1 HB.1)
   have aE : 0 ≤ (ab : Int) := dq
   have aF : ab < (l1.length : Int) := dq
   obtain ⟨aS, bb, af⟩ := Kd.at_int bS.1 ab aE aF
   have ai := af
   obtain rfl : ax = aS := (by injection bb)
   replace af := cbl HB.1 af
   replace aE := eq_true aE
   replace aF := eq_true aF
   have bw : 0 ≤ (ab : Int) := dq
   have bz : ab < (ah.length : Int) := dq
   obtain ⟨ap, bW, aB, aC, aD⟩ := at_T57 ba.1 ab bw bz
   have aY := aD
   have aX := aC
   have aW := aB
   cases bW
   replace aB := cbl HB.1 aB
   replace aC := cbl HB.1 aC
   replace aD := cbl HB.1 aD
   replace bw := eq_true bw
   replace bz := eq_true bz
   have bJ : 0 ≤ (ab : Int) := dq
   have bL : ab < (ah.length : Int) := dq
   obtain ⟨bU, ce, aO, aP, aQ⟩ := at_T57 ba.1 ab bJ bL
   have bk := aQ
   have bj := aP
   have bi := aO
   obtain rfl : ap = bU := (by injection ce)
   replace aO := cbl HB.1 aO
   replace aP := cbl HB.1 aP
   replace aQ := cbl HB.1 aQ
   replace bJ := eq_true bJ
   replace bL := eq_true bL
   refine start_ (n := 40) (S := fun w' => w'.cell? ⟨ag, 0, none⟩ = some (.string ((rd_T60 ac a2).f0)) ∧ w'.cell? ⟨ag, 1, none⟩ = some (.slice aj ((rd_T60 ac a2).f1).length ak) ∧ w'.cell? ⟨ag, 2, none⟩ = some (.slice ar ((rd_T60 ac a2).f2).length au) ∧ w'.cell? ⟨ag, 3, none⟩ = some (.slice av ((rd_T60 ac a2).f3).length aw) ∧ w'.cell? ⟨ag, 4, none⟩ = some (.int .i64 ((rd_T60 ac a2).f4)) ∧ w'.cell? ⟨aq, 0, none⟩ = some (.string aZ) ∧ w'.cell? ⟨aq, 1, none⟩ = some (.slice (some ap) ah.length a6) ∧ w'.cell? ⟨aq, 2, none⟩ = some (.slice (some aI) ac.length a7) ∧ w'.cell? (ax.add (ab).toNat) = some (.int .i64 (rd l1 ab)) ∧ w'.cell? (ap.add ((ab).toNat * 3)) = some (.string ((rd_T57 ah ab).f0)) ∧ w'.cell? ⟨(ap.add ((ab).toNat * 3)).block, (ap.add ((ab).toNat * 3)).off + 1, none⟩ = some (.int .i64 ((rd_T57 ah ab).f1)) ∧ w'.cell? ⟨(ap.add ((ab).toNat * 3)).block, (ap.add ((ab).toNat * 3)).off + 2, none⟩ = some (.int .i64 ((rd_T57 ah ab).f2)) ∧ w'.cell? (ap.add ((ab).toNat * 3)) = some (.string ((rd_T57 ah ab).f0)) ∧ w'.cell? ⟨(ap.add ((ab).toNat * 3)).block, (ap.add ((ab).toNat * 3)).off + 1, none⟩ = some (.int .i64 ((rd_T57 ah ab).f1)) ∧ w'.cell? ⟨(ap.add ((ab).toNat * 3)).block, (ap.add ((ab).toNat * 3)).off + 2, none⟩ = some (.int .i64 ((rd_T57 ah ab).f2))) (ds := []) #[false, false, false, false, false, false, false, false, false, false, false, false, false, false, false, false, false, false, false, false, false, false, false, false, false, false, false, false, false, false, false, false, false, false, false, false, false, false, false, false] (by kernel_rfl) rfl rfl ⟨(blk_cell aa.1 0).trans rfl, (blk_cell aa.1 1).trans rfl, (blk_cell aa.1 2).trans rfl, (blk_cell aa.1 3).trans rfl, (blk_cell aa.1 4).trans rfl, (blk_cell ae.1 0).trans rfl, (blk_cell ae.1 1).trans rfl, (blk_cell ae.1 2).trans rfl, (cbl HB.1 ai), (cbl HB.1 aW), (cbl HB.1 aX), (cbl HB.1 aY), (cbl HB.1 bi), (cbl HB.1 bj), (cbl HB.1 bk)⟩ (fun hHeld => ?_); refine with_tabW r11_Ready.tab7 r11_Ready.bits7 (fun HT_ HW_ => ?_)
   generalize aH.drew = db at ae aa HB af aB aC aD aO aP aQ hHeld ⊢
   refine pu HT_.1 0 41 ?_
   refine pu HT_.1 1 42 ?_
   refine pu HT_.1 2 43 ?_
   refine pu HT_.1 4 45 ?_
   refine pu HT_.1 6 47 ?_
   refine tk HT_.1 HW_.1 hHeld 3 44 ?_
   refine tk HT_.1 HW_.1 hHeld 5 46 ?_
   refine on HT_.1 7 (some 48) rfl fun K hK => ?_
   refine goes_ Try.func75 (by kernel_rfl) rfl #[.slice aj ((rd_T60 ac a2).f1).length ak, .int .i64 ab] (by rfl) rfl rfl pgz ?_
   with_reducible refine (r11_weight.calls k1 _ _ ((rd_T60 ac a2).f1) ab bA _ ?side1 ?side2 b6.1).mono ?_
   (case side1 => exact csb aK HB)
   (case side2 => exact aJ.1)
   rintro e w' ⟨rfl, ⟨nd, rfl⟩⟩
   refine ⟨_, rfl, ?_⟩
   refine hK.out _ _ ⟨(blk_cell aa.1 0).trans rfl, (blk_cell aa.1 1).trans rfl, (blk_cell aa.1 2).trans rfl, (blk_cell aa.1 3).trans rfl, (blk_cell aa.1 4).trans rfl, (blk_cell ae.1 0).trans rfl, (blk_cell ae.1 1).trans rfl, (blk_cell ae.1 2).trans rfl, (cbl HB.1 ai), (cbl HB.1 aW), (cbl HB.1 aX), (cbl HB.1 aY), (cbl HB.1 bi), (cbl HB.1 bj), (cbl HB.1 bk)⟩ (fun hHeld => ?_)
   clear hK K
   refine nm_ 48 ?_
   refine pu HT_.1 8 49 ?_
   refine pu HT_.1 9 50 ?_
   refine pu HT_.1 10 51 ?_
   refine pu HT_.1 11 52 ?_
   refine pu HT_.1 12 53 ?_
   refine pd HT_.1 13 54 ?_
   refine pd HT_.1 14 55 ?_
   refine pd HT_.1 15 56 ?_
   refine pd HT_.1 16 57 ?_
   refine pd HT_.1 17 58 ?_
   refine pd HT_.1 18 59 ?_
   refine pu HT_.1 19 60 ?_
   refine pu HT_.1 20 61 ?_
   refine pu HT_.1 21 62 ?_
   refine pu HT_.1 22 63 ?_
   refine pu HT_.1 24 65 ?_
   refine tk HT_.1 HW_.1 hHeld 23 64 ?_
   refine pu HT_.1 25 66 ?_
   refine pu HT_.1 26 67 ?_
   refine tk HT_.1 HW_.1 hHeld 27 68 ?_
   refine pu HT_.1 28 69 ?_
   refine pu HT_.1 29 70 ?_
   refine pu HT_.1 30 71 ?_
   refine pu HT_.1 31 72 ?_
   refine pu HT_.1 33 74 ?_
   refine tk HT_.1 HW_.1 hHeld 32 73 ?_
   refine pu HT_.1 34 75 ?_
   refine pu HT_.1 35 76 ?_
   refine tk HT_.1 HW_.1 hHeld 36 77 ?_
   refine pu HT_.1 37 78 ?_
   refine pu HT_.1 38 79 ?_
   refine pu HT_.1 39 80 ?_
   refine done_ (done_of HT_.1 (by kernel_rfl)) ?_
   try go_wp2
   go_ret
   exact ⟨per, pbg⟩
  have H' := am H
  clear H
  try go_wp2
  iterate 3 (try (rw [drewN_self aH]; generalize hq_ : World.drewN aH _ = aH; replace ae : Aside0 (aH.heap[aq]? = some (.cells #[.string aZ, .slice a5 ah.length a6, .slice (some aI) ac.length a7] 25 (0, 0))) := ⟨by rw [← hq_]; exact (by exact pbk ae.1)⟩; replace aa : Aside0 (aH.heap[ag]? = some (.cells #[.string ((rd_T60 ac a2).f0), .slice aj ((rd_T60 ac a2).f1).length ak, .slice ar ((rd_T60 ac a2).f2).length au, .slice av ((rd_T60 ac a2).f3).length aw, .int .i64 ((rd_T60 ac a2).f4)] 60 (0, 0))) := ⟨by rw [← hq_]; exact (by exact pbk aa.1)⟩; replace HB : Aside0 (Below w.heap.size w aH) := ⟨by rw [← hq_]; exact pbg⟩; clear hq_))
  replace ae := am (blk_drew ae.1)
  replace aa := am (blk_drew aa.1)
  replace HB := am (below_drew1 HB.1)
  have aE : 0 ≤ (ab : Int) := dq
  have aF : ab < (l1.length : Int) := dq
  obtain ⟨aS, bb, af⟩ := Kd.at_int bS.1 ab aE aF
  have ai := af
  obtain rfl : ax = aS := (by injection bb)
  replace af := cbl HB.1 af
  replace aE := eq_true aE
  replace aF := eq_true aF
  have bw : 0 ≤ (ab : Int) := dq
  have bz : ab < (ah.length : Int) := dq
  obtain ⟨ap, bW, aB, aC, aD⟩ := at_T57 ba.1 ab bw bz
  have aY := aD
  have aX := aC
  have aW := aB
  cases bW
  replace aB := cbl HB.1 aB
  replace aC := cbl HB.1 aC
  replace aD := cbl HB.1 aD
  replace bw := eq_true bw
  replace bz := eq_true bz
  have bJ : 0 ≤ (ab : Int) := dq
  have bL : ab < (ah.length : Int) := dq
  obtain ⟨bU, ce, aO, aP, aQ⟩ := at_T57 ba.1 ab bJ bL
  have bk := aQ
  have bj := aP
  have bi := aO
  obtain rfl : ap = bU := (by injection ce)
  replace aO := cbl HB.1 aO
  replace aP := cbl HB.1 aP
  replace aQ := cbl HB.1 aQ
  replace bJ := eq_true bJ
  replace bL := eq_true bL
  refine start_ (n := 40) (S := fun w' => w'.cell? ⟨ag, 0, none⟩ = some (.string ((rd_T60 ac a2).f0)) ∧ w'.cell? ⟨ag, 1, none⟩ = some (.slice aj ((rd_T60 ac a2).f1).length ak) ∧ w'.cell? ⟨ag, 2, none⟩ = some (.slice ar ((rd_T60 ac a2).f2).length au) ∧ w'.cell? ⟨ag, 3, none⟩ = some (.slice av ((rd_T60 ac a2).f3).length aw) ∧ w'.cell? ⟨ag, 4, none⟩ = some (.int .i64 ((rd_T60 ac a2).f4)) ∧ w'.cell? ⟨aq, 0, none⟩ = some (.string aZ) ∧ w'.cell? ⟨aq, 1, none⟩ = some (.slice (some ap) ah.length a6) ∧ w'.cell? ⟨aq, 2, none⟩ = some (.slice (some aI) ac.length a7) ∧ w'.cell? (ax.add (ab).toNat) = some (.int .i64 (rd l1 ab)) ∧ w'.cell? (ap.add ((ab).toNat * 3)) = some (.string ((rd_T57 ah ab).f0)) ∧ w'.cell? ⟨(ap.add ((ab).toNat * 3)).block, (ap.add ((ab).toNat * 3)).off + 1, none⟩ = some (.int .i64 ((rd_T57 ah ab).f1)) ∧ w'.cell? ⟨(ap.add ((ab).toNat * 3)).block, (ap.add ((ab).toNat * 3)).off + 2, none⟩ = some (.int .i64 ((rd_T57 ah ab).f2)) ∧ w'.cell? (ap.add ((ab).toNat * 3)) = some (.string ((rd_T57 ah ab).f0)) ∧ w'.cell? ⟨(ap.add ((ab).toNat * 3)).block, (ap.add ((ab).toNat * 3)).off + 1, none⟩ = some (.int .i64 ((rd_T57 ah ab).f1)) ∧ w'.cell? ⟨(ap.add ((ab).toNat * 3)).block, (ap.add ((ab).toNat * 3)).off + 2, none⟩ = some (.int .i64 ((rd_T57 ah ab).f2))) (ds := []) #[false, false, false, false, false, false, false, false, false, false, false, false, false, false, false, false, false, false, false, false, false, false, false, false, false, false, false, false, false, false, false, false, false, false, false, false, false, false, false, false] (by kernel_rfl) rfl rfl ⟨(blk_cell aa.1 0).trans rfl, (blk_cell aa.1 1).trans rfl, (blk_cell aa.1 2).trans rfl, (blk_cell aa.1 3).trans rfl, (blk_cell aa.1 4).trans rfl, (blk_cell ae.1 0).trans rfl, (blk_cell ae.1 1).trans rfl, (blk_cell ae.1 2).trans rfl, (cbl HB.1 ai), (cbl HB.1 aW), (cbl HB.1 aX), (cbl HB.1 aY), (cbl HB.1 bi), (cbl HB.1 bj), (cbl HB.1 bk)⟩ (fun hHeld => ?_); refine with_tabW r11_Ready.tab7 r11_Ready.bits7 (fun HT_ HW_ => ?_)
  generalize aH.drew = dc at ae aa HB af aB aC aD aO aP aQ hHeld ⊢
  refine pu HT_.1 0 41 ?_
  refine pu HT_.1 1 42 ?_
  refine pu HT_.1 2 43 ?_
  refine pu HT_.1 4 45 ?_
  refine pu HT_.1 6 47 ?_
  refine tk HT_.1 HW_.1 hHeld 3 44 ?_
  refine tk HT_.1 HW_.1 hHeld 5 46 ?_
  refine on HT_.1 7 (some 48) rfl fun K hK => ?_
  refine goes_ Try.func75 (by kernel_rfl) rfl #[.slice aj ((rd_T60 ac a2).f1).length ak, .int .i64 ab] (by rfl) rfl rfl pgz ?_
  with_reducible refine (r11_weight.calls k1 _ _ ((rd_T60 ac a2).f1) ab bA _ ?side1 ?side2 b6.1).mono ?_
  (case side1 => exact csb aK HB)
  (case side2 => exact aJ.1)
  rintro e w' ⟨rfl, ⟨nd, rfl⟩⟩
  refine ⟨_, rfl, ?_⟩
  refine hK.out _ _ ⟨(blk_cell aa.1 0).trans rfl, (blk_cell aa.1 1).trans rfl, (blk_cell aa.1 2).trans rfl, (blk_cell aa.1 3).trans rfl, (blk_cell aa.1 4).trans rfl, (blk_cell ae.1 0).trans rfl, (blk_cell ae.1 1).trans rfl, (blk_cell ae.1 2).trans rfl, (cbl HB.1 ai), (cbl HB.1 aW), (cbl HB.1 aX), (cbl HB.1 aY), (cbl HB.1 bi), (cbl HB.1 bj), (cbl HB.1 bk)⟩ (fun hHeld => ?_)
  clear hK K
  refine nm_ 48 ?_
  refine pu HT_.1 8 49 ?_
  refine pu HT_.1 9 50 ?_
  refine pu HT_.1 10 51 ?_
  refine pu HT_.1 11 52 ?_
  refine pu HT_.1 12 53 ?_
  refine pd HT_.1 13 54 ?_
  refine pd HT_.1 14 55 ?_
  refine pd HT_.1 15 56 ?_
  refine pd HT_.1 16 57 ?_
  refine pd HT_.1 17 58 ?_
  refine pd HT_.1 18 59 ?_
  refine pu HT_.1 19 60 ?_
  refine pu HT_.1 20 61 ?_
  refine pu HT_.1 21 62 ?_
  refine pu HT_.1 22 63 ?_
  refine pu HT_.1 24 65 ?_
  refine tk HT_.1 HW_.1 hHeld 23 64 ?_
  refine pu HT_.1 25 66 ?_
  refine pu HT_.1 26 67 ?_
  refine tk HT_.1 HW_.1 hHeld 27 68 ?_
  refine pu HT_.1 28 69 ?_
  refine pu HT_.1 29 70 ?_
  refine pu HT_.1 30 71 ?_
  refine pu HT_.1 31 72 ?_
  refine pu HT_.1 33 74 ?_
  refine tk HT_.1 HW_.1 hHeld 32 73 ?_
  refine pu HT_.1 34 75 ?_
  refine pu HT_.1 35 76 ?_
  refine tk HT_.1 HW_.1 hHeld 36 77 ?_
  refine pu HT_.1 37 78 ?_
  refine pu HT_.1 38 79 ?_
  refine pu HT_.1 39 80 ?_
  refine done_ (done_of HT_.1 (by kernel_rfl)) ?_
  try go_wp2
  go_roundg k1
  case measure => have := b7.1; omega
  case rel => exact ⟨(wrap64 (ab + 1)), prs, H', ⟨by have := b7.1; omega⟩, ⟨pbk ae.1⟩, ⟨pbk aa.1⟩, ⟨pbg⟩⟩
 replace H := ifh H
 rcases H with ⟨cp, H⟩ | ⟨cp, H⟩
 ·obtain rfl := Option.some.inj H
  try go_wp2
  iterate 3 (try (rw [drewN_self aH]; generalize hq_ : World.drewN aH _ = aH; replace ae : Aside0 (aH.heap[aq]? = some (.cells #[.string aZ, .slice a5 ah.length a6, .slice (some aI) ac.length a7] 25 (0, 0))) := ⟨by rw [← hq_]; exact (by exact pbk ae.1)⟩; replace aa : Aside0 (aH.heap[ag]? = some (.cells #[.string ((rd_T60 ac a2).f0), .slice aj ((rd_T60 ac a2).f1).length ak, .slice ar ((rd_T60 ac a2).f2).length au, .slice av ((rd_T60 ac a2).f3).length aw, .int .i64 ((rd_T60 ac a2).f4)] 60 (0, 0))) := ⟨by rw [← hq_]; exact (by exact pbk aa.1)⟩; replace HB : Aside0 (Below w.heap.size w aH) := ⟨by rw [← hq_]; exact pbg⟩; clear hq_))
  replace ae := am (blk_drew ae.1)
  replace aa := am (blk_drew aa.1)
  replace HB := am (below_drew1 HB.1)
  have aE : 0 ≤ (ab : Int) := dq
  have aF : ab < (l1.length : Int) := dq
  obtain ⟨aS, bb, af⟩ := Kd.at_int bS.1 ab aE aF
  have ai := af
  obtain rfl : ax = aS := (by injection bb)
  replace af := cbl HB.1 af
  replace aE := eq_true aE
  replace aF := eq_true aF
  have bc : 0 ≤ (ab : Int) := dq
  have bd : ab < (l1.length : Int) := dq
  obtain ⟨bu, bH, al⟩ := Kd.at_int bS.1 ab bc bd
  have aG := al
  obtain rfl : ax = bu := (by injection bH)
  replace al := cbl HB.1 al
  replace bc := eq_true bc
  replace bd := eq_true bd
  refine start_ (n := 40) (S := fun w' => w'.cell? ⟨ag, 0, none⟩ = some (.string ((rd_T60 ac a2).f0)) ∧ w'.cell? ⟨ag, 1, none⟩ = some (.slice aj ((rd_T60 ac a2).f1).length ak) ∧ w'.cell? ⟨ag, 2, none⟩ = some (.slice ar ((rd_T60 ac a2).f2).length au) ∧ w'.cell? ⟨ag, 3, none⟩ = some (.slice av ((rd_T60 ac a2).f3).length aw) ∧ w'.cell? ⟨ag, 4, none⟩ = some (.int .i64 ((rd_T60 ac a2).f4)) ∧ w'.cell? (ax.add (ab).toNat) = some (.int .i64 (rd l1 ab)) ∧ w'.cell? (ax.add (ab).toNat) = some (.int .i64 (rd l1 ab))) (ds := []) #[false, false, false, false, false, false, false, false, false, false, false, false, false, false, false, false, false, false, false, false, false, false, false, false, false, false, false, false, false, false, false, false, false, false, false, false, false, false, false, false] (by kernel_rfl) rfl rfl ⟨(blk_cell aa.1 0).trans rfl, (blk_cell aa.1 1).trans rfl, (blk_cell aa.1 2).trans rfl, (blk_cell aa.1 3).trans rfl, (blk_cell aa.1 4).trans rfl, (cbl HB.1 ai), (cbl HB.1 aG)⟩ (fun hHeld => ?_); refine with_tabW r11_Ready.tab7 r11_Ready.bits7 (fun HT_ HW_ => ?_)
  generalize aH.drew = cX at ae aa HB af al hHeld ⊢
  refine pu HT_.1 0 41 ?_
  refine pu HT_.1 1 42 ?_
  refine pu HT_.1 2 43 ?_
  refine pu HT_.1 4 45 ?_
  refine pu HT_.1 6 47 ?_
  refine tk HT_.1 HW_.1 hHeld 3 44 ?_
  refine tk HT_.1 HW_.1 hHeld 5 46 ?_
  refine on HT_.1 7 (some 48) rfl fun K hK => ?_
  refine goes_ Try.func75 (by kernel_rfl) rfl #[.slice aj ((rd_T60 ac a2).f1).length ak, .int .i64 ab] (by rfl) rfl rfl pgz ?_
  with_reducible refine (r11_weight.calls k1 _ _ ((rd_T60 ac a2).f1) ab bA _ ?side1 ?side2 b6.1).mono ?_
  (case side1 => exact csb aK HB)
  (case side2 => exact aJ.1)
  rintro e w' ⟨rfl, ⟨nd, rfl⟩⟩
  refine ⟨_, rfl, ?_⟩
  refine hK.out _ _ ⟨(blk_cell aa.1 0).trans rfl, (blk_cell aa.1 1).trans rfl, (blk_cell aa.1 2).trans rfl, (blk_cell aa.1 3).trans rfl, (blk_cell aa.1 4).trans rfl, (cbl HB.1 ai), (cbl HB.1 aG)⟩ (fun hHeld => ?_)
  clear hK K
  refine nm_ 48 ?_
  refine pu HT_.1 8 49 ?_
  refine pu HT_.1 9 50 ?_
  refine pu HT_.1 10 51 ?_
  refine pu HT_.1 11 52 ?_
  refine pu HT_.1 12 53 ?_
  refine pu HT_.1 13 54 ?_
  refine pu HT_.1 14 55 ?_
  refine pu HT_.1 15 56 ?_
  refine pu HT_.1 17 58 ?_
  refine tk HT_.1 HW_.1 hHeld 16 57 ?_
  refine pu HT_.1 18 59 ?_
  refine pu HT_.1 19 60 ?_
  refine pu HT_.1 20 61 ?_
  refine pu HT_.1 21 62 ?_
  refine pd HT_.1 22 63 ?_
  refine pd HT_.1 23 64 ?_
  refine pd HT_.1 24 65 ?_
  refine pd HT_.1 25 66 ?_
  refine pd HT_.1 26 67 ?_
  refine pd HT_.1 27 68 ?_
  refine pd HT_.1 28 69 ?_
  refine pd HT_.1 29 70 ?_
  refine pd HT_.1 30 71 ?_
  refine pd HT_.1 31 72 ?_
  refine pd HT_.1 32 73 ?_
  refine pd HT_.1 33 74 ?_
  refine pd HT_.1 34 75 ?_
  refine pd HT_.1 35 76 ?_
  refine pd HT_.1 36 77 ?_
  refine pd HT_.1 37 78 ?_
  refine pd HT_.1 38 79 ?_
  refine pu HT_.1 39 80 ?_
  refine done_ (done_of HT_.1 (by kernel_rfl)) ?_
  try go_wp2
  go_ret
  exact ⟨per, pbg⟩
 replace H := ifg H
 rcases H with ⟨cq, H⟩ | ⟨cq, H⟩
 rotate_left
 ·have H' := am H
  clear H
  try go_wp2
  iterate 3 (try (rw [drewN_self aH]; generalize hq_ : World.drewN aH _ = aH; replace ae : Aside0 (aH.heap[aq]? = some (.cells #[.string aZ, .slice a5 ah.length a6, .slice (some aI) ac.length a7] 25 (0, 0))) := ⟨by rw [← hq_]; exact (by exact pbk ae.1)⟩; replace aa : Aside0 (aH.heap[ag]? = some (.cells #[.string ((rd_T60 ac a2).f0), .slice aj ((rd_T60 ac a2).f1).length ak, .slice ar ((rd_T60 ac a2).f2).length au, .slice av ((rd_T60 ac a2).f3).length aw, .int .i64 ((rd_T60 ac a2).f4)] 60 (0, 0))) := ⟨by rw [← hq_]; exact (by exact pbk aa.1)⟩; replace HB : Aside0 (Below w.heap.size w aH) := ⟨by rw [← hq_]; exact pbg⟩; clear hq_))
  replace ae := am (blk_drew ae.1)
  replace aa := am (blk_drew aa.1)
  replace HB := am (below_drew1 HB.1)
  have aE : 0 ≤ (ab : Int) := dq
  have aF : ab < (l1.length : Int) := dq
  obtain ⟨aS, bb, af⟩ := Kd.at_int bS.1 ab aE aF
  have ai := af
  obtain rfl : ax = aS := (by injection bb)
  replace af := cbl HB.1 af
  replace aE := eq_true aE
  replace aF := eq_true aF
  have bc : 0 ≤ (ab : Int) := dq
  have bd : ab < (l1.length : Int) := dq
  obtain ⟨bu, bH, al⟩ := Kd.at_int bS.1 ab bc bd
  have aG := al
  obtain rfl : ax = bu := (by injection bH)
  replace al := cbl HB.1 al
  replace bc := eq_true bc
  replace bd := eq_true bd
  have bv : 0 ≤ (ab : Int) := dq
  have bx : ab < (ah.length : Int) := dq
  obtain ⟨ao, bV, ay, az, aA⟩ := at_T57 ba.1 ab bv bx
  have aV := aA
  have aU := az
  have aT := ay
  cases bV
  replace ay := cbl HB.1 ay
  replace az := cbl HB.1 az
  replace aA := cbl HB.1 aA
  replace bv := eq_true bv
  replace bx := eq_true bx
  refine start_ (n := 40) (S := fun w' => w'.cell? ⟨ag, 0, none⟩ = some (.string ((rd_T60 ac a2).f0)) ∧ w'.cell? ⟨ag, 1, none⟩ = some (.slice aj ((rd_T60 ac a2).f1).length ak) ∧ w'.cell? ⟨ag, 2, none⟩ = some (.slice ar ((rd_T60 ac a2).f2).length au) ∧ w'.cell? ⟨ag, 3, none⟩ = some (.slice av ((rd_T60 ac a2).f3).length aw) ∧ w'.cell? ⟨ag, 4, none⟩ = some (.int .i64 ((rd_T60 ac a2).f4)) ∧ w'.cell? ⟨aq, 0, none⟩ = some (.string aZ) ∧ w'.cell? ⟨aq, 1, none⟩ = some (.slice (some ao) ah.length a6) ∧ w'.cell? ⟨aq, 2, none⟩ = some (.slice (some aI) ac.length a7) ∧ w'.cell? (ax.add (ab).toNat) = some (.int .i64 (rd l1 ab)) ∧ w'.cell? (ax.add (ab).toNat) = some (.int .i64 (rd l1 ab)) ∧ w'.cell? (ao.add ((ab).toNat * 3)) = some (.string ((rd_T57 ah ab).f0)) ∧ w'.cell? ⟨(ao.add ((ab).toNat * 3)).block, (ao.add ((ab).toNat * 3)).off + 1, none⟩ = some (.int .i64 ((rd_T57 ah ab).f1)) ∧ w'.cell? ⟨(ao.add ((ab).toNat * 3)).block, (ao.add ((ab).toNat * 3)).off + 2, none⟩ = some (.int .i64 ((rd_T57 ah ab).f2))) (ds := []) #[false, false, false, false, false, false, false, false, false, false, false, false, false, false, false, false, false, false, false, false, false, false, false, false, false, false, false, false, false, false, false, false, false, false, false, false, false, false, false, false] (by kernel_rfl) rfl rfl ⟨(blk_cell aa.1 0).trans rfl, (blk_cell aa.1 1).trans rfl, (blk_cell aa.1 2).trans rfl, (blk_cell aa.1 3).trans rfl, (blk_cell aa.1 4).trans rfl, (blk_cell ae.1 0).trans rfl, (blk_cell ae.1 1).trans rfl, (blk_cell ae.1 2).trans rfl, (cbl HB.1 ai), (cbl HB.1 aG), (cbl HB.1 aT), (cbl HB.1 aU), (cbl HB.1 aV)⟩ (fun hHeld => ?_); refine with_tabW r11_Ready.tab7 r11_Ready.bits7 (fun HT_ HW_ => ?_)
  generalize aH.drew = da at ae aa HB af al ay az aA hHeld ⊢
  refine pu HT_.1 0 41 ?_
  refine pu HT_.1 1 42 ?_
  refine pu HT_.1 2 43 ?_
  refine pu HT_.1 4 45 ?_
  refine pu HT_.1 6 47 ?_
  refine tk HT_.1 HW_.1 hHeld 3 44 ?_
  refine tk HT_.1 HW_.1 hHeld 5 46 ?_
  refine on HT_.1 7 (some 48) rfl fun K hK => ?_
  refine goes_ Try.func75 (by kernel_rfl) rfl #[.slice aj ((rd_T60 ac a2).f1).length ak, .int .i64 ab] (by rfl) rfl rfl pgz ?_
  with_reducible refine (r11_weight.calls k1 _ _ ((rd_T60 ac a2).f1) ab bA _ ?side1 ?side2 b6.1).mono ?_
  (case side1 => exact csb aK HB)
  (case side2 => exact aJ.1)
  rintro e w' ⟨rfl, ⟨nd, rfl⟩⟩
  refine ⟨_, rfl, ?_⟩
  refine hK.out _ _ ⟨(blk_cell aa.1 0).trans rfl, (blk_cell aa.1 1).trans rfl, (blk_cell aa.1 2).trans rfl, (blk_cell aa.1 3).trans rfl, (blk_cell aa.1 4).trans rfl, (blk_cell ae.1 0).trans rfl, (blk_cell ae.1 1).trans rfl, (blk_cell ae.1 2).trans rfl, (cbl HB.1 ai), (cbl HB.1 aG), (cbl HB.1 aT), (cbl HB.1 aU), (cbl HB.1 aV)⟩ (fun hHeld => ?_)
  clear hK K
  refine nm_ 48 ?_
  refine pu HT_.1 8 49 ?_
  refine pu HT_.1 9 50 ?_
  refine pu HT_.1 10 51 ?_
  refine pu HT_.1 11 52 ?_
  refine pu HT_.1 12 53 ?_
  refine pu HT_.1 13 54 ?_
  refine pu HT_.1 14 55 ?_
  refine pu HT_.1 15 56 ?_
  refine pu HT_.1 17 58 ?_
  refine tk HT_.1 HW_.1 hHeld 16 57 ?_
  refine pu HT_.1 18 59 ?_
  refine pu HT_.1 19 60 ?_
  refine pu HT_.1 20 61 ?_
  refine pu HT_.1 21 62 ?_
  refine pu HT_.1 22 63 ?_
  refine pu HT_.1 24 65 ?_
  refine tk HT_.1 HW_.1 hHeld 23 64 ?_
  refine pu HT_.1 25 66 ?_
  refine pu HT_.1 26 67 ?_
  refine tk HT_.1 HW_.1 hHeld 27 68 ?_
  refine pu HT_.1 28 69 ?_
  refine pu HT_.1 29 70 ?_
  refine pd HT_.1 30 71 ?_
  refine pd HT_.1 31 72 ?_
  refine pd HT_.1 32 73 ?_
  refine pd HT_.1 33 74 ?_
  refine pd HT_.1 34 75 ?_
  refine pd HT_.1 35 76 ?_
  refine pd HT_.1 36 77 ?_
  refine pd HT_.1 37 78 ?_
  refine pu HT_.1 38 79 ?_
  refine pu HT_.1 39 80 ?_
  refine done_ (done_of HT_.1 (by kernel_rfl)) ?_
  try go_wp2
  go_roundg k1
  case measure => have := b7.1; omega
  case rel => exact ⟨(wrap64 (ab + 1)), prs, H', ⟨by have := b7.1; omega⟩, ⟨pbk ae.1⟩, ⟨pbk aa.1⟩, ⟨pbg⟩⟩
 replace H := ifg H
 rcases H with ⟨cr, H⟩ | ⟨cr, H⟩
 ·obtain rfl := Option.some.inj H
  try go_wp2
  iterate 3 (try (rw [drewN_self aH]; generalize hq_ : World.drewN aH _ = aH; replace ae : Aside0 (aH.heap[aq]? = some (.cells #[.string aZ, .slice a5 ah.length a6, .slice (some aI) ac.length a7] 25 (0, 0))) := ⟨by rw [← hq_]; exact (by exact pbk ae.1)⟩; replace aa : Aside0 (aH.heap[ag]? = some (.cells #[.string ((rd_T60 ac a2).f0), .slice aj ((rd_T60 ac a2).f1).length ak, .slice ar ((rd_T60 ac a2).f2).length au, .slice av ((rd_T60 ac a2).f3).length aw, .int .i64 ((rd_T60 ac a2).f4)] 60 (0, 0))) := ⟨by rw [← hq_]; exact (by exact pbk aa.1)⟩; replace HB : Aside0 (Below w.heap.size w aH) := ⟨by rw [← hq_]; exact pbg⟩; clear hq_))
  replace ae := am (blk_drew ae.1)
  replace aa := am (blk_drew aa.1)
  replace HB := am (below_drew1 HB.1)
  have aE : 0 ≤ (ab : Int) := dq
  have aF : ab < (l1.length : Int) := dq
  obtain ⟨aS, bb, af⟩ := Kd.at_int bS.1 ab aE aF
  have ai := af
  obtain rfl : ax = aS := (by injection bb)
  replace af := cbl HB.1 af
  replace aE := eq_true aE
  replace aF := eq_true aF
  have bc : 0 ≤ (ab : Int) := dq
  have bd : ab < (l1.length : Int) := dq
  obtain ⟨bu, bH, al⟩ := Kd.at_int bS.1 ab bc bd
  have aG := al
  obtain rfl : ax = bu := (by injection bH)
  replace al := cbl HB.1 al
  replace bc := eq_true bc
  replace bd := eq_true bd
  have bv : 0 ≤ (ab : Int) := dq
  have bx : ab < (ah.length : Int) := dq
  obtain ⟨ao, bV, ay, az, aA⟩ := at_T57 ba.1 ab bv bx
  have aV := aA
  have aU := az
  have aT := ay
  cases bV
  replace ay := cbl HB.1 ay
  replace az := cbl HB.1 az
  replace aA := cbl HB.1 aA
  replace bv := eq_true bv
  replace bx := eq_true bx
  have bI : 0 ≤ (ab : Int) := dq
  have bK : ab < (ah.length : Int) := dq
  obtain ⟨bT, cd, aL, aM, aN⟩ := at_T57 ba.1 ab bI bK
  have bh := aN
  have bg := aM
  have bf := aL
  obtain rfl : ao = bT := (by injection cd)
  replace aL := cbl HB.1 aL
  replace aM := cbl HB.1 aM
  replace aN := cbl HB.1 aN
  replace bI := eq_true bI
  replace bK := eq_true bK
  refine start_ (n := 40) (S := fun w' => w'.cell? ⟨ag, 0, none⟩ = some (.string ((rd_T60 ac a2).f0)) ∧ w'.cell? ⟨ag, 1, none⟩ = some (.slice aj ((rd_T60 ac a2).f1).length ak) ∧ w'.cell? ⟨ag, 2, none⟩ = some (.slice ar ((rd_T60 ac a2).f2).length au) ∧ w'.cell? ⟨ag, 3, none⟩ = some (.slice av ((rd_T60 ac a2).f3).length aw) ∧ w'.cell? ⟨ag, 4, none⟩ = some (.int .i64 ((rd_T60 ac a2).f4)) ∧ w'.cell? ⟨aq, 0, none⟩ = some (.string aZ) ∧ w'.cell? ⟨aq, 1, none⟩ = some (.slice (some ao) ah.length a6) ∧ w'.cell? ⟨aq, 2, none⟩ = some (.slice (some aI) ac.length a7) ∧ w'.cell? (ax.add (ab).toNat) = some (.int .i64 (rd l1 ab)) ∧ w'.cell? (ax.add (ab).toNat) = some (.int .i64 (rd l1 ab)) ∧ w'.cell? (ao.add ((ab).toNat * 3)) = some (.string ((rd_T57 ah ab).f0)) ∧ w'.cell? ⟨(ao.add ((ab).toNat * 3)).block, (ao.add ((ab).toNat * 3)).off + 1, none⟩ = some (.int .i64 ((rd_T57 ah ab).f1)) ∧ w'.cell? ⟨(ao.add ((ab).toNat * 3)).block, (ao.add ((ab).toNat * 3)).off + 2, none⟩ = some (.int .i64 ((rd_T57 ah ab).f2)) ∧ w'.cell? (ao.add ((ab).toNat * 3)) = some (.string ((rd_T57 ah ab).f0)) ∧ w'.cell? ⟨(ao.add ((ab).toNat * 3)).block, (ao.add ((ab).toNat * 3)).off + 1, none⟩ = some (.int .i64 ((rd_T57 ah ab).f1)) ∧ w'.cell? ⟨(ao.add ((ab).toNat * 3)).block, (ao.add ((ab).toNat * 3)).off + 2, none⟩ = some (.int .i64 ((rd_T57 ah ab).f2))) (ds := []) #[false, false, false, false, false, false, false, false, false, false, false, false, false, false, false, false, false, false, false, false, false, false, false, false, false, false, false, false, false, false, false, false, false, false, false, false, false, false, false, false] (by kernel_rfl) rfl rfl ⟨(blk_cell aa.1 0).trans rfl, (blk_cell aa.1 1).trans rfl, (blk_cell aa.1 2).trans rfl, (blk_cell aa.1 3).trans rfl, (blk_cell aa.1 4).trans rfl, (blk_cell ae.1 0).trans rfl, (blk_cell ae.1 1).trans rfl, (blk_cell ae.1 2).trans rfl, (cbl HB.1 ai), (cbl HB.1 aG), (cbl HB.1 aT), (cbl HB.1 aU), (cbl HB.1 aV), (cbl HB.1 bf), (cbl HB.1 bg), (cbl HB.1 bh)⟩ (fun hHeld => ?_); refine with_tabW r11_Ready.tab7 r11_Ready.bits7 (fun HT_ HW_ => ?_)
  generalize aH.drew = cY at ae aa HB af al ay az aA aL aM aN hHeld ⊢
  refine pu HT_.1 0 41 ?_
  refine pu HT_.1 1 42 ?_
  refine pu HT_.1 2 43 ?_
  refine pu HT_.1 4 45 ?_
  refine pu HT_.1 6 47 ?_
  refine tk HT_.1 HW_.1 hHeld 3 44 ?_
  refine tk HT_.1 HW_.1 hHeld 5 46 ?_
  refine on HT_.1 7 (some 48) rfl fun K hK => ?_
  refine goes_ Try.func75 (by kernel_rfl) rfl #[.slice aj ((rd_T60 ac a2).f1).length ak, .int .i64 ab] (by rfl) rfl rfl pgz ?_
  with_reducible refine (r11_weight.calls k1 _ _ ((rd_T60 ac a2).f1) ab bA _ ?side1 ?side2 b6.1).mono ?_
  (case side1 => exact csb aK HB)
  (case side2 => exact aJ.1)
  rintro e w' ⟨rfl, ⟨nd, rfl⟩⟩
  refine ⟨_, rfl, ?_⟩
  refine hK.out _ _ ⟨(blk_cell aa.1 0).trans rfl, (blk_cell aa.1 1).trans rfl, (blk_cell aa.1 2).trans rfl, (blk_cell aa.1 3).trans rfl, (blk_cell aa.1 4).trans rfl, (blk_cell ae.1 0).trans rfl, (blk_cell ae.1 1).trans rfl, (blk_cell ae.1 2).trans rfl, (cbl HB.1 ai), (cbl HB.1 aG), (cbl HB.1 aT), (cbl HB.1 aU), (cbl HB.1 aV), (cbl HB.1 bf), (cbl HB.1 bg), (cbl HB.1 bh)⟩ (fun hHeld => ?_)
  clear hK K
  refine nm_ 48 ?_
  refine pu HT_.1 8 49 ?_
  refine pu HT_.1 9 50 ?_
  refine pu HT_.1 10 51 ?_
  refine pu HT_.1 11 52 ?_
  refine pu HT_.1 12 53 ?_
  refine pu HT_.1 13 54 ?_
  refine pu HT_.1 14 55 ?_
  refine pu HT_.1 15 56 ?_
  refine pu HT_.1 17 58 ?_
  refine tk HT_.1 HW_.1 hHeld 16 57 ?_
  refine pu HT_.1 18 59 ?_
  refine pu HT_.1 19 60 ?_
  refine pu HT_.1 20 61 ?_
  refine pu HT_.1 21 62 ?_
  refine pu HT_.1 22 63 ?_
  refine pu HT_.1 24 65 ?_
  refine tk HT_.1 HW_.1 hHeld 23 64 ?_
  refine pu HT_.1 25 66 ?_
  refine pu HT_.1 26 67 ?_
  refine tk HT_.1 HW_.1 hHeld 27 68 ?_
  refine pu HT_.1 28 69 ?_
  refine pu HT_.1 29 70 ?_
  refine pu HT_.1 30 71 ?_
  refine pu HT_.1 31 72 ?_
  refine pu HT_.1 33 74 ?_
  refine tk HT_.1 HW_.1 hHeld 32 73 ?_
  refine pu HT_.1 34 75 ?_
  refine pu HT_.1 35 76 ?_
  refine tk HT_.1 HW_.1 hHeld 36 77 ?_
  refine pu HT_.1 37 78 ?_
  refine pu HT_.1 38 79 ?_
  refine pu HT_.1 39 80 ?_
  refine done_ (done_of HT_.1 (by kernel_rfl)) ?_
  try go_wp2
  go_ret
  exact ⟨per, pbg⟩
 have H' := am H
 clear H
 try go_wp2
 iterate 3 (try (rw [drewN_self aH]; generalize hq_ : World.drewN aH _ = aH; replace ae : Aside0 (aH.heap[aq]? = some (.cells #[.string aZ, .slice a5 ah.length a6, .slice (some aI) ac.length a7] 25 (0, 0))) := ⟨by rw [← hq_]; exact (by exact pbk ae.1)⟩; replace aa : Aside0 (aH.heap[ag]? = some (.cells #[.string ((rd_T60 ac a2).f0), .slice aj ((rd_T60 ac a2).f1).length ak, .slice ar ((rd_T60 ac a2).f2).length au, .slice av ((rd_T60 ac a2).f3).length aw, .int .i64 ((rd_T60 ac a2).f4)] 60 (0, 0))) := ⟨by rw [← hq_]; exact (by exact pbk aa.1)⟩; replace HB : Aside0 (Below w.heap.size w aH) := ⟨by rw [← hq_]; exact pbg⟩; clear hq_))
 replace ae := am (blk_drew ae.1)
 replace aa := am (blk_drew aa.1)
 replace HB := am (below_drew1 HB.1)
 have aE : 0 ≤ (ab : Int) := dq
 have aF : ab < (l1.length : Int) := dq
 obtain ⟨aS, bb, af⟩ := Kd.at_int bS.1 ab aE aF
 have ai := af
 obtain rfl : ax = aS := (by injection bb)
 replace af := cbl HB.1 af
 replace aE := eq_true aE
 replace aF := eq_true aF
 have bc : 0 ≤ (ab : Int) := dq
 have bd : ab < (l1.length : Int) := dq
 obtain ⟨bu, bH, al⟩ := Kd.at_int bS.1 ab bc bd
 have aG := al
 obtain rfl : ax = bu := (by injection bH)
 replace al := cbl HB.1 al
 replace bc := eq_true bc
 replace bd := eq_true bd
 have bv : 0 ≤ (ab : Int) := dq
 have bx : ab < (ah.length : Int) := dq
 obtain ⟨ao, bV, ay, az, aA⟩ := at_T57 ba.1 ab bv bx
 have aV := aA
 have aU := az
 have aT := ay
 cases bV
 replace ay := cbl HB.1 ay
 replace az := cbl HB.1 az
 replace aA := cbl HB.1 aA
 replace bv := eq_true bv
 replace bx := eq_true bx
 have bI : 0 ≤ (ab : Int) := dq
 have bK : ab < (ah.length : Int) := dq
 obtain ⟨bT, cd, aL, aM, aN⟩ := at_T57 ba.1 ab bI bK
 have bh := aN
 have bg := aM
 have bf := aL
 obtain rfl : ao = bT := (by injection cd)
 replace aL := cbl HB.1 aL
 replace aM := cbl HB.1 aM
 replace aN := cbl HB.1 aN
 replace bI := eq_true bI
 replace bK := eq_true bK
 refine start_ (n := 40) (S := fun w' => w'.cell? ⟨ag, 0, none⟩ = some (.string ((rd_T60 ac a2).f0)) ∧ w'.cell? ⟨ag, 1, none⟩ = some (.slice aj ((rd_T60 ac a2).f1).length ak) ∧ w'.cell? ⟨ag, 2, none⟩ = some (.slice ar ((rd_T60 ac a2).f2).length au) ∧ w'.cell? ⟨ag, 3, none⟩ = some (.slice av ((rd_T60 ac a2).f3).length aw) ∧ w'.cell? ⟨ag, 4, none⟩ = some (.int .i64 ((rd_T60 ac a2).f4)) ∧ w'.cell? ⟨aq, 0, none⟩ = some (.string aZ) ∧ w'.cell? ⟨aq, 1, none⟩ = some (.slice (some ao) ah.length a6) ∧ w'.cell? ⟨aq, 2, none⟩ = some (.slice (some aI) ac.length a7) ∧ w'.cell? (ax.add (ab).toNat) = some (.int .i64 (rd l1 ab)) ∧ w'.cell? (ax.add (ab).toNat) = some (.int .i64 (rd l1 ab)) ∧ w'.cell? (ao.add ((ab).toNat * 3)) = some (.string ((rd_T57 ah ab).f0)) ∧ w'.cell? ⟨(ao.add ((ab).toNat * 3)).block, (ao.add ((ab).toNat * 3)).off + 1, none⟩ = some (.int .i64 ((rd_T57 ah ab).f1)) ∧ w'.cell? ⟨(ao.add ((ab).toNat * 3)).block, (ao.add ((ab).toNat * 3)).off + 2, none⟩ = some (.int .i64 ((rd_T57 ah ab).f2)) ∧ w'.cell? (ao.add ((ab).toNat * 3)) = some (.string ((rd_T57 ah ab).f0)) ∧ w'.cell? ⟨(ao.add ((ab).toNat * 3)).block, (ao.add ((ab).toNat * 3)).off + 1, none⟩ = some (.int .i64 ((rd_T57 ah ab).f1)) ∧ w'.cell? ⟨(ao.add ((ab).toNat * 3)).block, (ao.add ((ab).toNat * 3)).off + 2, none⟩ = some (.int .i64 ((rd_T57 ah ab).f2))) (ds := []) #[false, false, false, false, false, false, false, false, false, false, false, false, false, false, false, false, false, false, false, false, false, false, false, false, false, false, false, false, false, false, false, false, false, false, false, false, false, false, false, false] (by kernel_rfl) rfl rfl ⟨(blk_cell aa.1 0).trans rfl, (blk_cell aa.1 1).trans rfl, (blk_cell aa.1 2).trans rfl, (blk_cell aa.1 3).trans rfl, (blk_cell aa.1 4).trans rfl, (blk_cell ae.1 0).trans rfl, (blk_cell ae.1 1).trans rfl, (blk_cell ae.1 2).trans rfl, (cbl HB.1 ai), (cbl HB.1 aG), (cbl HB.1 aT), (cbl HB.1 aU), (cbl HB.1 aV), (cbl HB.1 bf), (cbl HB.1 bg), (cbl HB.1 bh)⟩ (fun hHeld => ?_); refine with_tabW r11_Ready.tab7 r11_Ready.bits7 (fun HT_ HW_ => ?_)
 generalize aH.drew = cZ at ae aa HB af al ay az aA aL aM aN hHeld ⊢
 refine pu HT_.1 0 41 ?_
 refine pu HT_.1 1 42 ?_
 refine pu HT_.1 2 43 ?_
 refine pu HT_.1 4 45 ?_
 refine pu HT_.1 6 47 ?_
 refine tk HT_.1 HW_.1 hHeld 3 44 ?_
 refine tk HT_.1 HW_.1 hHeld 5 46 ?_
 refine on HT_.1 7 (some 48) rfl fun K hK => ?_
 refine goes_ Try.func75 (by kernel_rfl) rfl #[.slice aj ((rd_T60 ac a2).f1).length ak, .int .i64 ab] (by rfl) rfl rfl pgz ?_
 with_reducible refine (r11_weight.calls k1 _ _ ((rd_T60 ac a2).f1) ab bA _ ?side1 ?side2 b6.1).mono ?_
 (case side1 => exact csb aK HB)
 (case side2 => exact aJ.1)
 rintro e w' ⟨rfl, ⟨nd, rfl⟩⟩
 refine ⟨_, rfl, ?_⟩
 refine hK.out _ _ ⟨(blk_cell aa.1 0).trans rfl, (blk_cell aa.1 1).trans rfl, (blk_cell aa.1 2).trans rfl, (blk_cell aa.1 3).trans rfl, (blk_cell aa.1 4).trans rfl, (blk_cell ae.1 0).trans rfl, (blk_cell ae.1 1).trans rfl, (blk_cell ae.1 2).trans rfl, (cbl HB.1 ai), (cbl HB.1 aG), (cbl HB.1 aT), (cbl HB.1 aU), (cbl HB.1 aV), (cbl HB.1 bf), (cbl HB.1 bg), (cbl HB.1 bh)⟩ (fun hHeld => ?_)
 clear hK K
 refine nm_ 48 ?_
 refine pu HT_.1 8 49 ?_
 refine pu HT_.1 9 50 ?_
 refine pu HT_.1 10 51 ?_
 refine pu HT_.1 11 52 ?_
 refine pu HT_.1 12 53 ?_
 refine pu HT_.1 13 54 ?_
 refine pu HT_.1 14 55 ?_
 refine pu HT_.1 15 56 ?_
 refine pu HT_.1 17 58 ?_
 refine tk HT_.1 HW_.1 hHeld 16 57 ?_
 refine pu HT_.1 18 59 ?_
 refine pu HT_.1 19 60 ?_
 refine pu HT_.1 20 61 ?_
 refine pu HT_.1 21 62 ?_
 refine pu HT_.1 22 63 ?_
 refine pu HT_.1 24 65 ?_
 refine tk HT_.1 HW_.1 hHeld 23 64 ?_
 refine pu HT_.1 25 66 ?_
 refine pu HT_.1 26 67 ?_
 refine tk HT_.1 HW_.1 hHeld 27 68 ?_
 refine pu HT_.1 28 69 ?_
 refine pu HT_.1 29 70 ?_
 refine pu HT_.1 30 71 ?_
 refine pu HT_.1 31 72 ?_
 refine pu HT_.1 33 74 ?_
 refine tk HT_.1 HW_.1 hHeld 32 73 ?_
 refine pu HT_.1 34 75 ?_
 refine pu HT_.1 35 76 ?_
 refine tk HT_.1 HW_.1 hHeld 36 77 ?_
 refine pu HT_.1 37 78 ?_
 refine pu HT_.1 38 79 ?_
 refine pu HT_.1 39 80 ?_
 refine done_ (done_of HT_.1 (by kernel_rfl)) ?_
 try go_wp2
 go_roundg k1
 case measure => have := b7.1; omega
 case rel => exact ⟨(wrap64 (ab + 1)), prs, H', ⟨by have := b7.1; omega⟩, ⟨pbk ae.1⟩, ⟨pbk aa.1⟩, ⟨pbg⟩⟩

/-! ### r11_Fires: function 56 -/
mutual
def r11_Fires.l0 : Nat → List Int → List Int → Int → Int → ByteArray → List (S57) → List (S60) → Option (List Int)
 | 0, _, _, _, _, _, _, _ => none
 | k + 1, x1, x5, x6, x7, ag, ah, ab => if x7 < (ab.length : Int) then ((r11_Ready.f k ag ah ab x1 x7).bind fun bu => (if bu = true then (if x5.length < 17592186044416 then (if 0 ≤ x7 then (r11_Fires.l0 k x1 (x5 ++ [x7]) (mx x6 ((rd_T60 ab x7).f4)) (wrap64 (x7 + 1)) ag ah ab) else (none)) else (none)) else (r11_Fires.l0 k x1 x5 x6 (wrap64 (x7 + 1)) ag ah ab))) else (r11_Fires.l1 k x5 x6 ([] : List Int) 0 ag ah ab)
def r11_Fires.l1 : Nat → List Int → Int → List Int → Int → ByteArray → List (S57) → List (S60) → Option (List Int)
 | 0, _, _, _, _, _, _, _ => none
 | k + 1, x5, x6, x8, x9, ag, ah, ab => if x9 < (x5.length : Int) then (if 0 ≤ x9 then (if 0 ≤ (rd x5 x9) then (if (rd x5 x9) < (ab.length : Int) then (if ((rd_T60 ab (rd x5 x9)).f4) = x6 then (if x8.length < 17592186044416 then (r11_Fires.l1 k x5 x6 (x8 ++ [rd x5 x9]) (wrap64 (x9 + 1)) ag ah ab) else (none)) else (r11_Fires.l1 k x5 x6 x8 (wrap64 (x9 + 1)) ag ah ab)) else (none)) else (none)) else (none)) else (some x8)
end
def r11_Fires.f (k : Nat) (aj : ByteArray) (ai : List (S57)) (ae : List (S60)) (l1 : List Int) : Option (List Int) := r11_Fires.l0 k l1 ([] : List Int) 0 0 aj ai ae
theorem r11_Fires.mono_l : ∀ k, M7 r11_Fires.l0 k ∧ M7 r11_Fires.l1 k
 | 0 => ⟨fun _ _ _ _ _ _ _ r h => by simp [r11_Fires.l0] at h, fun _ _ _ _ _ _ _ r h => by simp [r11_Fires.l1] at h⟩
 | k + 1 => by
  obtain ⟨b8, b9⟩ := r11_Fires.mono_l k
  refine ⟨?_, ?_⟩ <;> dsimp only [M7] <;> intros <;> (first | unfold r11_Fires.l0 | unfold r11_Fires.l1) <;> repeat' first | (with_reducible first | apply b8 | apply b9 | apply r11_Ready.mono | apply lr | apply ln | apply li | refine lb ?_ fun _ => ?_)
theorem r11_Fires.mono : ∀ a0 a1 a2 a3 k, LeO (r11_Fires.f k a0 a1 a2 a3) (r11_Fires.f (k + 1) a0 a1 a2 a3) := by
 intro a0 a1 a2 a3 k
 obtain ⟨b8, b9⟩ := r11_Fires.mono_l k
 unfold r11_Fires.f
 repeat' first | (with_reducible first | apply b8 | apply b9 | apply r11_Ready.mono | apply lr | apply ln | apply li | refine lb ?_ fun _ => ?_)
set_option maxHeartbeats 8000000 in
set_option maxRecDepth 100000 in
theorem r11_Fires.calls (k : Nat) (aj : ByteArray) (aR : Option Addr) (a4 : Nat) (ai : List (S57)) (aT : Option Addr) (a5 : Nat) (ae : List (S60)) (A1 : Option Addr) (c1 : Nat) (l1 : List Int) (r : List Int) (w : World) (bj : Kd.C k57 w aR ai.length ai) (bh : ai.length ≤ a4) (bk : Kd.C k60 w aT ae.length ae) (bi : ae.length ≤ a5) (cr : Kd.C (Kd.int .i64) w A1 l1.length l1) (cq : l1.length ≤ c1) (h : r11_Fires.f k aj ai ae l1 = some r) :
  Calls Try.prog 56 #[.agg #[.string aj, .slice aR ai.length a4, .slice aT ae.length a5], .slice A1 l1.length c1] w fun e w' => ∃ v0_ : Value, e = .returned (v0_) ∧ Kd.R (Kd.int .i64) 3 w' w.heap.size (fun _ => True) v0_ r ∧ Below w.heap.size w w' := by
 have cz := Try.underlying25
 have az := am bj
 have ax := am bh
 clear bj bh
 have ao := am bk
 have ay := am bi
 clear bk bi
 have bP := am cr
 have bK := am cq
 clear cr cq
 have HB := am (Below.refl w.heap.size w)
 have H := h
 unfold r11_Fires.f at H
 clear h
 have H' := am H
 clear H
 go_enter Try.func56, Try.ntmps56
 iterate 4 (try go_wp2_with (first | ((with_reducible refine gate_dst (N := 2) rfl ?_); refine box_ev ?_; intro bg hg w3 hbox hb; have aa := am hbox; have bw := gwl hg; have cg := bw; replace HB := bsl hb; clear hb hbox hg)); try go_quiet (fail))
 go_loopg [5, 6, 7] k (fun kq v5 v6 v7 w' => ∃ (ak : List Int) (ap : Int) (af : Int), v6 = .int .i64 ap ∧ v7 = .int .i64 af ∧ Aside0 (r11_Fires.l0 kq l1 ak ap af aj ai ae = some r) ∧ Aside0 (kq ≤ k) ∧ Aside0 (Kd.R (Kd.int .i64) 3 w' w.heap.size (fun _ => True) v5 ak) ∧ Aside0 (w'.heap[bg]? = some (.cells #[.string aj, (.slice aR ai.length a4), (.slice aT ae.length a5)] 25 (0, 0))) ∧ Aside0 (Below w.heap.size w w'))
 case atStart => exact ⟨(([] : List Int)), (0), (0), prs, prs, H', ⟨Nat.le_refl _⟩, ⟨knl⟩, ⟨pbk aa.1⟩, ⟨pbg⟩⟩
 clear H'
 try clear c1
 obtain ⟨ak, ap, af, rfl, rfl, HA, bf, ac, aa, HB⟩ := hrel
 obtain _ | k1 := gk
 ·exact absurd HA.1 (by simp [r11_Fires.l0])
 have H := HA.1
 clear HA
 simp only [r11_Fires.l0] at H
 replace H := ifl H
 rcases H with ⟨bI, H⟩ | ⟨bI, H⟩
 ·replace H := bnd H
  obtain ⟨bu, A5, H⟩ := H
  (try dsimp only at H)
  cases bu
  ·rw [if_neg Bool.false_ne_true] at H
   have H' := am H
   clear H
   have cI := cf3 aa.1
   iterate 4 (try go_wp2_with (first | (go_at_call 74; (with_reducible refine (r11_Ready.calls k1 aj _ _ ai _ _ ae _ _ l1 af false _ ?side1 ?side2 ?side3 ?side4 ?side5 ?side6 A5.1).mono ?_); (case side1 => exact csb az HB); (case side2 => exact ax.1); (case side3 => exact csb ao HB); (case side4 => exact ay.1); (case side5 => exact csb bP HB); (case side6 => exact bK.1); rintro e cF ⟨rfl, hb⟩; replace ac := rbw ac hb; replace aa := bbh aa hb; replace HB := bst hb; (try clear hb))); try go_quiet (first | (go_at_call 74; (with_reducible refine (r11_Ready.calls k1 aj _ _ ai _ _ ae _ _ l1 af false _ ?side1 ?side2 ?side3 ?side4 ?side5 ?side6 A5.1).mono ?_); (case side1 => exact csb az HB); (case side2 => exact ax.1); (case side3 => exact csb ao HB); (case side4 => exact ay.1); (case side5 => exact csb bP HB); (case side6 => exact bK.1); rintro e cF ⟨rfl, hb⟩; replace ac := rbw ac hb; replace aa := bbh aa hb; replace HB := bst hb; (try clear hb))))
   go_roundg k1
   case measure => have := bf.1; omega
   case rel => exact ⟨(ak), (ap), (wrap64 (af + 1)), prs, prs, H', ⟨by have := bf.1; omega⟩, ⟨pkr ac.1⟩, ⟨pbk aa.1⟩, ⟨pbg⟩⟩
  rw [if_pos rfl] at H
  replace H := ifp H
  obtain ⟨c7, H⟩ := H
  have bX := am c7
  clear c7
  obtain ⟨bv, aN⟩ : ∃ y_ : List Int, y_ = (ak ++ [af]) := ⟨_, rfl⟩
  replace H : (if 0 ≤ af then (r11_Fires.l0 k1 l1 bv (mx ap ((rd_T60 ae af).f4)) (wrap64 (af + 1)) aj ai ae) else (none)) = some r := hrp aN H
  have bB := am aN
  clear aN
  replace H := ifp H
  obtain ⟨c8, H⟩ := H
  have b1 := decide_eq_true c8
  clear c8
  obtain ⟨ca, aM⟩ : ∃ j_ : Int, (mx ap ((rd_T60 ae af).f4)) = j_ := ⟨_, rfl⟩
  replace H : (r11_Fires.l0 k1 l1 bv ca (wrap64 (af + 1)) aj ai ae) = some r := by first | (rw [aM] at H; exact H) | (simp only [aM] at H ⊢; exact H)
  (try rw [aM] at A5)
  have hji9_ : (if ap < ((rd_T60 ae af).f4) then ((rd_T60 ae af).f4) else ap) = ca := aM
  have H' := am H
  clear H
  have cG := cf3 aa.1
  iterate 4 (try go_wp2_with (first | (go_at_call 74; (with_reducible refine (r11_Ready.calls k1 aj _ _ ai _ _ ae _ _ l1 af true _ ?side1 ?side2 ?side3 ?side4 ?side5 ?side6 A5.1).mono ?_); (case side1 => exact csb az HB); (case side2 => exact ax.1); (case side3 => exact csb ao HB); (case side4 => exact ay.1); (case side5 => exact csb bP HB); (case side6 => exact bK.1); rintro e cE ⟨rfl, hb⟩; replace ac := rbw ac hb; replace aa := bbh aa hb; replace HB := bst hb; (try clear hb)) | ((with_reducible refine gate_builtin (b := .append) (xs := #[.tmp 21, .tmp 23]) rfl ?_); at_builtin; refine Kd.R_append (Kd.int .i64) (w0 := w) w.heap.size rfl (.tmp 21) (.tmp 23) 26 3 (.int .i64 0) 8 rfl Try.underlying26 info3 rfl (by decide) (by omega) u5 ak af [.int .i64 af] (fun _ => True) (fun _ => False) rfl rfl ?aP (fun _ hk => hk.elim) ?aF ?aO ?aB ?aS ?aL ?_; (case aP => exact rfl); (case aB => exact pbg); (case aF => exact (fun _ _ => trivial)); (case aO => exact (pkr ac.1)); (case aS => exact (below_size pbg)); (case aL => have := bX.1; omega); intro cC cK ho hb hg hat; rw [← bB.1] at ho; have bx := am ho; replace aa := (bgr aa hg (Kd.R_ne ac.1 aa.1 (by decide))); replace HB := am hb; clear ac; clear ho hb hg hat; have cH := cf3 aa.1; have bc : 0 ≤ (af : Int) := dq; have bd : af < (ae.length : Int) := dq; obtain ⟨ch, bU, bY, bV, bZ, bW, b0, b3, aq, ar, au, av, aw, aE, aA, aG, aC, aH, aD⟩ := at_T60 ao.1 af bc bd; cases b3; replace aq := cbl HB.1 aq; replace ar := cbl HB.1 ar; replace au := cbl HB.1 au; replace av := cbl HB.1 av; replace aw := cbl HB.1 aw; have bQ := am aA; have bL := am aE; clear aA aE; have bR := am aC; have bM := am aG; clear aC aG; have bS := am aD; have bN := am aH; clear aD aH; replace bc := eq_true bc; replace bd := eq_true bd)); try go_quiet (first | (go_at_call 74; (with_reducible refine (r11_Ready.calls k1 aj _ _ ai _ _ ae _ _ l1 af true _ ?side1 ?side2 ?side3 ?side4 ?side5 ?side6 A5.1).mono ?_); (case side1 => exact csb az HB); (case side2 => exact ax.1); (case side3 => exact csb ao HB); (case side4 => exact ay.1); (case side5 => exact csb bP HB); (case side6 => exact bK.1); rintro e cE ⟨rfl, hb⟩; replace ac := rbw ac hb; replace aa := bbh aa hb; replace HB := bst hb; (try clear hb))))
  go_roundg k1
  case measure => have := bf.1; omega
  case rel => exact ⟨(bv), (ca), (wrap64 (af + 1)), (by first | rfl | (simp; done) | (simp only [← aM] <;> (first | rfl | simp)) | (simp [*]; done)), prs, H', ⟨by have := bf.1; omega⟩, ⟨pkr bx.1⟩, ⟨pbk aa.1⟩, ⟨pbg⟩⟩
 have H' := am H
 clear H
 have cJ := cf3 aa.1
 go_wp2
 repeat (go_quiet (fail); try go_wp2)
 go_loopg [8, 9] k1 (fun kq v8 v9 w' => ∃ (aI : List Int) (al : Int), v9 = .int .i64 al ∧ Aside0 (r11_Fires.l1 kq ak ap aI al aj ai ae = some r) ∧ Aside0 (kq ≤ k1) ∧ Aside0 (Kd.R (Kd.int .i64) 3 w' w.heap.size (fun k_ => some k_ ≠ (v8 : Value).ownBlock) u5 ak) ∧ Aside0 (Kd.R (Kd.int .i64) 3 w' w.heap.size (fun k_ => some k_ ≠ (u5 : Value).ownBlock) v8 aI) ∧ Aside0 (w'.heap[bg]? = some (.cells #[.string aj, (.slice aR ai.length a4), (.slice aT ae.length a5)] 25 (0, 0))) ∧ Aside0 (Below w.heap.size w w'))
 case atStart => exact ⟨(([] : List Int)), (0), prs, H', ⟨Nat.le_refl _⟩, ⟨by (with_reducible repeat (first | apply Kd.R_alloc | apply Kd.R_drewN | apply Kd.R_drew)); exact Kd.R_mono ac.1 (fun _ hk => (by simp [Value.ownBlock]))⟩, ⟨knl⟩, ⟨pbk aa.1⟩, ⟨pbg⟩⟩
 clear H'
 try clear c1 bI c6 c7 c8 b1 cG cH cI cJ aq ar au av aw bc bd
 obtain ⟨aI, al, rfl, HA, bO, ac, aJ, aa, HB⟩ := hrel
 obtain _ | k2 := gk
 ·exact absurd HA.1 (by simp [r11_Fires.l1])
 have H := HA.1
 clear HA
 simp only [r11_Fires.l1] at H
 replace H := ifl H
 rcases H with ⟨bF, H⟩ | ⟨bF, H⟩
 rotate_left
 ·obtain rfl := Option.some.inj H
  obtain ⟨cw, cy, b7⟩ := Kd.R_slice ac.1
  subst b7
  go_wp2
  repeat (go_quiet (fail); try go_wp2)
  go_ret
  exact ⟨_, per, by (with_reducible repeat (first | apply Kd.R_alloc | apply Kd.R_drewN | apply Kd.R_drew)); exact Kd.R_mono aJ.1 (fun _ hk => trivial), pbg⟩
 replace H := ifp H
 obtain ⟨ci, H⟩ := H
 have cj := decide_eq_true ci
 clear ci
 replace H := ifp H
 obtain ⟨ck, H⟩ := H
 have cm := decide_eq_true ck
 clear ck
 replace H := ifp H
 obtain ⟨cn, H⟩ := H
 have co := decide_eq_true cn
 clear cn
 replace H := ife H
 rcases H with ⟨bG, bH, H⟩ | ⟨bG, bH, H⟩
 rotate_left
 ·have H' := am H
  clear H
  obtain ⟨cv, cx, b6⟩ := Kd.R_slice ac.1
  subst b6
  have cN := cf3 aa.1
  obtain ⟨cb, ce, aK, br, a6⟩ := dint (Kd.R_reads' ac.1).2.2 al
  cases br
  obtain ⟨cd, cf, bD, bl, bo, bm, bp, bn, bq, bs, a7, a8, a9, ba, bb, aU, aX, aV, aY, aW, aZ⟩ := bT60 ao.1 HB.1 (rd ak al)
  cases bs
  go_wp2
  repeat (go_quiet (fail); try go_wp2)
  go_roundg k2
  case measure => have := bf.1; have := bO.1; omega
  case rel => exact ⟨(aI), (wrap64 (al + 1)), prs, H', ⟨by have := bf.1; have := bO.1; omega⟩, ⟨pkr ac.1⟩, ⟨pkr aJ.1⟩, ⟨pbk aa.1⟩, ⟨pbg⟩⟩
 replace H := ifp H
 obtain ⟨cp, H⟩ := H
 have bA := am cp
 clear cp
 obtain ⟨bJ, aQ⟩ : ∃ y_ : List Int, y_ = (aI ++ [rd ak al]) := ⟨_, rfl⟩
 replace H : (r11_Fires.l1 k2 ak ap bJ (wrap64 (al + 1)) aj ai ae) = some r := hrp aQ H
 have bC := am aQ
 clear aQ
 have H' := am H
 clear H
 obtain ⟨cu, b2, b5⟩ := Kd.R_slice ac.1
 subst b5
 have cM := cf3 aa.1
 obtain ⟨cb, ce, aK, br, a6⟩ := dint (Kd.R_reads' ac.1).2.2 al
 cases br
 obtain ⟨cd, cf, bD, bl, bo, bm, bp, bn, bq, bs, a7, a8, a9, ba, bb, aU, aX, aV, aY, aW, aZ⟩ := bT60 ao.1 HB.1 (rd ak al)
 cases bs
 obtain ⟨cA, cB, bE, b4, bT⟩ := dint (Kd.R_reads' ac.1).2.2 al
 obtain rfl : aK = bE := (by injection b4)
 iterate 4 (try go_wp2_with (first | ((with_reducible refine gate_builtin (b := .append) (xs := #[.tmp 50, .tmp 55]) rfl ?_); at_builtin; refine Kd.R_append (Kd.int .i64) (w0 := w) w.heap.size rfl (.tmp 50) (.tmp 55) 26 3 (.int .i64 0) 8 rfl Try.underlying26 info3 rfl (by decide) (by omega) u8 aI (rd ak al) [.int .i64 (rd ak al)] (fun k_ => some k_ ≠ (.slice (some aK) ak.length b2 : Value).ownBlock) (fun _ => False) rfl rfl ?aP (fun _ hk => hk.elim) ?aF ?aO ?aB ?aS ?aL ?_; (case aP => exact rfl); (case aB => exact pbg); (case aF => exact (fun k_ hk => Kd.fresh' (Kd.R_lt (pkr ac.1)) k_ hk)); (case aO => exact (pkr aJ.1)); (case aS => exact (below_size pbg)); (case aL => have := bA.1; omega); intro cD cL ho hb hg hat; rw [← bC.1] at ho; have bz := am ho; replace ac := am (Kd.R_after (ok := (fun _ => True)) (by (with_reducible repeat (first | apply Kd.R_alloc | apply Kd.R_drewN | apply Kd.R_drew)); exact Kd.R_mono ac.1 (fun _ hk => ⟨trivial, hk⟩)) hg hat); replace aa := (bgr aa hg (Kd.R_ne aJ.1 aa.1 (by decide))); replace HB := am hb; clear aJ; clear ho hb hg hat)); try go_quiet (fail))
 go_roundg k2
 case measure => have := bf.1; have := bO.1; omega
 case rel => exact ⟨(bJ), (wrap64 (al + 1)), prs, H', ⟨by have := bf.1; have := bO.1; omega⟩, ⟨by (with_reducible repeat (first | apply Kd.R_alloc | apply Kd.R_drewN | apply Kd.R_drew)); exact Kd.R_mono ac.1 (fun _ hk => hk.2)⟩, ⟨pkr bz.1⟩, ⟨pbk aa.1⟩, ⟨pbg⟩⟩

/-! ### r11_After: function 57 -/
def r11_After.l0 : Nat → List Int → Int → List Int → Int → ByteArray → List (S57) → List (S60) → Option (List Int × Bool)
 | 0, _, _, _, _, _, _, _ => none
 | k + 1, x1, x2, x8, x9, bi, a6, aD => if x9 < (a6.length : Int) then (if 0 ≤ x9 then (if x9 < (x1.length : Int) then (if 0 ≤ x2 then (if x2 < (aD.length : Int) then ((r11_weight.f k ((rd_T60 aD x2).f1) x9).bind fun aH => ((r11_weight.f k ((rd_T60 aD x2).f2) x9).bind fun aI => (if (wrap64 ((wrap64 ((rd x1 x9) - aH)) + aI)) > 1048576 then (some (([] : List Int), false)) else (if x8.length < 17592186044416 then (r11_After.l0 k x1 x2 (x8 ++ [wrap64 ((wrap64 ((rd x1 x9) - aH)) + aI)]) (wrap64 (x9 + 1)) bi a6 aD) else (none))))) else (none)) else (none)) else (none)) else (none)) else (some (x8, true))
def r11_After.f (k : Nat) (aW : ByteArray) (aG : List (S57)) (ao : List (S60)) (l1 : List Int) (a2 : Int) : Option (List Int × Bool) := r11_After.l0 k l1 a2 ([] : List Int) 0 aW aG ao
theorem r11_After.mono_l : ∀ k, M7 r11_After.l0 k
 | 0 => fun _ _ _ _ _ _ _ r h => by simp [r11_After.l0] at h
 | k + 1 => by
  have bK := r11_After.mono_l k
  ·intro y0 y1 y2 y3 y4 y5 y6
   unfold r11_After.l0
   repeat' first | (with_reducible first | apply bK | apply r11_weight.mono | apply lr | apply ln | apply li | refine lb ?_ fun _ => ?_)
theorem r11_After.mono : ∀ a0 a1 a2 a3 a4 k, LeO (r11_After.f k a0 a1 a2 a3 a4) (r11_After.f (k + 1) a0 a1 a2 a3 a4) := by
 intro a0 a1 a2 a3 a4 k
 have bK := r11_After.mono_l k
 unfold r11_After.f
 repeat' first | (with_reducible first | apply bK | apply r11_weight.mono | apply lr | apply ln | apply li | refine lb ?_ fun _ => ?_)
set_option maxHeartbeats 8000000 in
set_option maxRecDepth 100000 in
theorem r11_After.calls (k : Nat) (aW : ByteArray) (bn : Option Addr) (bs : Nat) (aG : List (S57)) (bo : Option Addr) (bu : Nat) (ao : List (S60)) (A1 : Option Addr) (c1 : Nat) (l1 : List Int) (a2 : Int) (r1 : List Int) (r2 : Bool) (w : World) (bl : Kd.C k57 w bn aG.length aG) (bj : aG.length ≤ bs) (bm : Kd.C k60 w bo ao.length ao) (bk : ao.length ≤ bu) (bX : Kd.C (Kd.int .i64) w A1 l1.length l1) (bW : l1.length ≤ c1) (h : r11_After.f k aW aG ao l1 a2 = some (r1, r2)) :
  Calls Try.prog 57 #[.agg #[.string aW, .slice bn aG.length bs, .slice bo ao.length bu], .slice A1 l1.length c1, .int .i64 a2] w fun e w' => ∃ v0_ : Value, e = .returned (.tuple #[v0_, .bool r2]) ∧ Kd.R (Kd.int .i64) 3 w' w.heap.size (fun _ => True) v0_ r1 ∧ Below w.heap.size w w' := by
 have b2 := Try.underlying25
 have bT := am bl
 have bQ := am bj
 clear bl bj
 have aJ := am bm
 have bR := am bk
 clear bm bk
 have bU := am bX
 have b4 := am bW
 clear bX bW
 have HB := am (Below.refl w.heap.size w)
 have H := h
 unfold r11_After.f at H
 clear h
 have H' := am H
 clear H
 go_enter Try.func57, Try.ntmps57
 iterate 4 (try go_wp2_with (first | ((with_reducible refine gate_dst (N := 3) rfl ?_); refine box_ev ?_; intro bH hg w4 hbox hb; have aw := am hbox; have bB := gwl hg; have bP := bB; replace HB := bsl hb; clear hb hbox hg)); try go_quiet (fail))
 go_loopg [8, 9] k (fun kq v8 v9 w' => ∃ (a8 : List Int) (ar : Int), v9 = .int .i64 ar ∧ Aside0 (r11_After.l0 kq l1 a2 a8 ar aW aG ao = some (r1, r2)) ∧ Aside0 (kq ≤ k) ∧ Aside0 (Kd.R (Kd.int .i64) 3 w' w.heap.size (fun _ => True) v8 a8) ∧ Aside0 (w'.heap[bH]? = some (.cells #[.string aW, (.slice bn aG.length bs), (.slice bo ao.length bu)] 25 (0, 0))) ∧ Aside0 (Below w.heap.size w w'))
 case atStart => exact ⟨(([] : List Int)), (0), prs, H', ⟨Nat.le_refl _⟩, ⟨knl⟩, ⟨pbk aw.1⟩, ⟨pbg⟩⟩
 clear H'
 try clear c1
 obtain ⟨a8, ar, rfl, HA, bS, bb, aw, HB⟩ := hrel
 obtain _ | k1 := gk
 ·exact absurd HA.1 (by simp [r11_After.l0])
 have H := HA.1
 clear HA
 simp only [r11_After.l0] at H
 replace H := ifl H
 rcases H with ⟨bJ, H⟩ | ⟨bJ, H⟩
 all_goals (try have wq_ := wr2 bJ)
 rotate_left
 ·simp only [Option.some.injEq, Prod.mk.injEq] at H
  obtain ⟨rfl, rfl⟩ := H
  have b8 := cf3 aw.1
  go_wp2
  repeat (go_quiet (fail); try go_wp2)
  go_ret2
  exact ⟨_, per, by (with_reducible repeat (first | apply Kd.R_alloc | apply Kd.R_drewN | apply Kd.R_drew)); exact bb.1, pbg⟩
 replace H := ifp H
 obtain ⟨c6, H⟩ := H
 have bY := decide_eq_true c6
 clear c6
 replace H := ifp H
 obtain ⟨c7, H⟩ := H
 have bZ := decide_eq_true c7
 clear c7
 replace H := ifp H
 obtain ⟨c8, H⟩ := H
 have b0 := decide_eq_true c8
 clear c8
 replace H := ifp H
 obtain ⟨c9, H⟩ := H
 have b1 := decide_eq_true c9
 clear c9
 replace H := bnd H
 obtain ⟨aH, A10, H⟩ := H
 (try dsimp only at H)
 replace H := bnd H
 obtain ⟨aI, A11, H⟩ := H
 (try dsimp only at H)
 replace H := ifg H
 rcases H with ⟨bG, H⟩ | ⟨bG, H⟩
 all_goals (try have wq_ := wr2 bG)
 ·simp only [Option.some.injEq, Prod.mk.injEq] at H
  obtain ⟨rfl, rfl⟩ := H
  have b6 := cf3 aw.1
  obtain ⟨bL, bN, bF, bz, bf⟩ := bint bU.1 HB.1 ar
  cases bz
  obtain ⟨bM, bO, aR, bp, bv, bq, bw, br, bx, bA, bg, az, aA, aC, bh, ax, ay, a9, bc, ba, bd⟩ := bT60 aJ.1 HB.1 a2
  cases bA
  iterate 4 (try go_wp2_with (first | (go_at_call 75; (with_reducible refine (r11_weight.calls k1 _ _ ((rd_T60 ao a2).f1) ar aH _ ?side1 ?side2 A10.1).mono ?_); (case side1 => exact csb ay HB); (case side2 => exact ax.1); rintro e w' ⟨rfl, ⟨nd, rfl⟩⟩; (try first | exact ⟨rfl, _, World.drewN_drewN _ _ _⟩ | exact ⟨rfl, _, Eq.trans (World.drewN_drewN _ _ _) (congrArg (World.drewN _) (Nat.add_assoc _ _ _))⟩); have au : 0 ≤ (a2 : Int) := dq; have av : a2 < (ao.length : Int) := dq; obtain ⟨aE, aT, aX, aU, aY, aV, aZ, a5, ak, aa, ab, ac, al, ah, ae, ai, af, aj, ag⟩ := at_T60 aJ.1 a2 au av; obtain rfl : aR = aE := (by injection a5); replace ak := cbl HB.1 ak; replace aa := cbl HB.1 aa; replace ab := cbl HB.1 ab; replace ac := cbl HB.1 ac; replace al := cbl HB.1 al; have aN := am ae; have aK := am ah; clear ae ah; have aq := am af; have ap := am ai; clear af ai; have aQ := am ag; have aM := am aj; clear ag aj; replace au := eq_true au; replace av := eq_true av; have ea_ := Option.some.inj (az.symm.trans aa); injection ea_ with ea_ en_ ec_; subst ea_; subst ec_; clear en_; have ea_ := Option.some.inj (aA.symm.trans ab); injection ea_ with ea_ en_ ec_; subst ea_; subst ec_; clear en_; have ea_ := Option.some.inj (aC.symm.trans ac); injection ea_ with ea_ en_ ec_; subst ea_; subst ec_; clear en_) | (go_at_call 75; (with_reducible refine (r11_weight.calls k1 _ _ ((rd_T60 ao a2).f2) ar aI _ ?side1 ?side2 A11.1).mono ?_); (case side1 => exact csd ((Kd.C_below aq.1 pbg))); (case side2 => exact ap.1); rintro e w' ⟨rfl, ⟨nd, rfl⟩⟩; (try first | exact ⟨rfl, _, World.drewN_drewN _ _ _⟩ | exact ⟨rfl, _, Eq.trans (World.drewN_drewN _ _ _) (congrArg (World.drewN _) (Nat.add_assoc _ _ _))⟩))); try go_quiet (first | (go_at_call 75; (with_reducible refine (r11_weight.calls k1 _ _ ((rd_T60 ao a2).f1) ar aH _ ?side1 ?side2 A10.1).mono ?_); (case side1 => exact csb ay HB); (case side2 => exact ax.1); rintro e w' ⟨rfl, ⟨nd, rfl⟩⟩; (try first | exact ⟨rfl, _, World.drewN_drewN _ _ _⟩ | exact ⟨rfl, _, Eq.trans (World.drewN_drewN _ _ _) (congrArg (World.drewN _) (Nat.add_assoc _ _ _))⟩); have au : 0 ≤ (a2 : Int) := dq; have av : a2 < (ao.length : Int) := dq; obtain ⟨aE, aT, aX, aU, aY, aV, aZ, a5, ak, aa, ab, ac, al, ah, ae, ai, af, aj, ag⟩ := at_T60 aJ.1 a2 au av; obtain rfl : aR = aE := (by injection a5); replace ak := cbl HB.1 ak; replace aa := cbl HB.1 aa; replace ab := cbl HB.1 ab; replace ac := cbl HB.1 ac; replace al := cbl HB.1 al; have aN := am ae; have aK := am ah; clear ae ah; have aq := am af; have ap := am ai; clear af ai; have aQ := am ag; have aM := am aj; clear ag aj; replace au := eq_true au; replace av := eq_true av; have ea_ := Option.some.inj (az.symm.trans aa); injection ea_ with ea_ en_ ec_; subst ea_; subst ec_; clear en_; have ea_ := Option.some.inj (aA.symm.trans ab); injection ea_ with ea_ en_ ec_; subst ea_; subst ec_; clear en_; have ea_ := Option.some.inj (aC.symm.trans ac); injection ea_ with ea_ en_ ec_; subst ea_; subst ec_; clear en_) | (go_at_call 75; (with_reducible refine (r11_weight.calls k1 _ _ ((rd_T60 ao a2).f2) ar aI _ ?side1 ?side2 A11.1).mono ?_); (case side1 => exact csd ((Kd.C_below aq.1 pbg))); (case side2 => exact ap.1); rintro e w' ⟨rfl, ⟨nd, rfl⟩⟩; (try first | exact ⟨rfl, _, World.drewN_drewN _ _ _⟩ | exact ⟨rfl, _, Eq.trans (World.drewN_drewN _ _ _) (congrArg (World.drewN _) (Nat.add_assoc _ _ _))⟩))))
  go_ret2
  exact ⟨_, per, knl, pbg⟩
 replace H := ifp H
 obtain ⟨bV, H⟩ := H
 have bD := am bV
 clear bV
 obtain ⟨bI, a7⟩ : ∃ y_ : List Int, y_ = (a8 ++ [wrap64 ((wrap64 ((rd l1 ar) - aH)) + aI)]) := ⟨_, rfl⟩
 replace H : (r11_After.l0 k1 l1 a2 bI (wrap64 (ar + 1)) aW aG ao) = some (r1, r2) := hrp a7 H
 have bE := am a7
 clear a7
 have H' := am H
 clear H
 have b7 := cf3 aw.1
 obtain ⟨bL, bN, bF, bz, bf⟩ := bint bU.1 HB.1 ar
 cases bz
 obtain ⟨bM, bO, aR, bp, bv, bq, bw, br, bx, bA, bg, az, aA, aC, bh, ax, ay, a9, bc, ba, bd⟩ := bT60 aJ.1 HB.1 a2
 cases bA
 iterate 4 (try go_wp2_with (first | (go_at_call 75; (with_reducible refine (r11_weight.calls k1 _ _ ((rd_T60 ao a2).f1) ar aH _ ?side1 ?side2 A10.1).mono ?_); (case side1 => exact csb ay HB); (case side2 => exact ax.1); rintro e w' ⟨rfl, ⟨nd, rfl⟩⟩; (try first | exact ⟨rfl, _, World.drewN_drewN _ _ _⟩ | exact ⟨rfl, _, Eq.trans (World.drewN_drewN _ _ _) (congrArg (World.drewN _) (Nat.add_assoc _ _ _))⟩); have au : 0 ≤ (a2 : Int) := dq; have av : a2 < (ao.length : Int) := dq; obtain ⟨aE, aT, aX, aU, aY, aV, aZ, a5, ak, aa, ab, ac, al, ah, ae, ai, af, aj, ag⟩ := at_T60 aJ.1 a2 au av; obtain rfl : aR = aE := (by injection a5); replace ak := cbl HB.1 ak; replace aa := cbl HB.1 aa; replace ab := cbl HB.1 ab; replace ac := cbl HB.1 ac; replace al := cbl HB.1 al; have aN := am ae; have aK := am ah; clear ae ah; have aq := am af; have ap := am ai; clear af ai; have aQ := am ag; have aM := am aj; clear ag aj; replace au := eq_true au; replace av := eq_true av; have ea_ := Option.some.inj (az.symm.trans aa); injection ea_ with ea_ en_ ec_; subst ea_; subst ec_; clear en_; have ea_ := Option.some.inj (aA.symm.trans ab); injection ea_ with ea_ en_ ec_; subst ea_; subst ec_; clear en_; have ea_ := Option.some.inj (aC.symm.trans ac); injection ea_ with ea_ en_ ec_; subst ea_; subst ec_; clear en_) | (go_at_call 75; (with_reducible refine (r11_weight.calls k1 _ _ ((rd_T60 ao a2).f2) ar aI _ ?side1 ?side2 A11.1).mono ?_); (case side1 => exact csd ((Kd.C_below aq.1 pbg))); (case side2 => exact ap.1); rintro e w' ⟨rfl, ⟨nd, rfl⟩⟩; (try first | exact ⟨rfl, _, World.drewN_drewN _ _ _⟩ | exact ⟨rfl, _, Eq.trans (World.drewN_drewN _ _ _) (congrArg (World.drewN _) (Nat.add_assoc _ _ _))⟩)) | ((with_reducible refine gate_builtin (b := .append) (xs := #[.tmp 42, .tmp 44]) rfl ?_); at_builtin; refine Kd.R_append (Kd.int .i64) (w0 := w) w.heap.size rfl (.tmp 42) (.tmp 44) 26 3 (.int .i64 0) 8 rfl Try.underlying26 info3 rfl (by decide) (by omega) u8 a8 (wrap64 ((wrap64 ((rd l1 ar) - aH)) + aI)) [.int .i64 (wrap64 ((wrap64 ((rd l1 ar) - aH)) + aI))] (fun _ => True) (fun _ => False) rfl rfl ?aP (fun _ hk => hk.elim) ?aF ?aO ?aB ?aS ?aL ?_; (case aP => exact rfl); (case aB => exact pbg); (case aF => exact (fun _ _ => trivial)); (case aO => exact (pkr bb.1)); (case aS => exact (below_size pbg)); (case aL => have := bD.1; omega); intro b3 b5 ho hb hg hat; rw [← bE.1] at ho; have bC := am ho; replace aw := (bgr aw hg (Kd.R_ne bb.1 aw.1 (by decide))); replace HB := am hb; clear bb; clear ho hb hg hat)); try go_quiet (first | (go_at_call 75; (with_reducible refine (r11_weight.calls k1 _ _ ((rd_T60 ao a2).f1) ar aH _ ?side1 ?side2 A10.1).mono ?_); (case side1 => exact csb ay HB); (case side2 => exact ax.1); rintro e w' ⟨rfl, ⟨nd, rfl⟩⟩; (try first | exact ⟨rfl, _, World.drewN_drewN _ _ _⟩ | exact ⟨rfl, _, Eq.trans (World.drewN_drewN _ _ _) (congrArg (World.drewN _) (Nat.add_assoc _ _ _))⟩); have au : 0 ≤ (a2 : Int) := dq; have av : a2 < (ao.length : Int) := dq; obtain ⟨aE, aT, aX, aU, aY, aV, aZ, a5, ak, aa, ab, ac, al, ah, ae, ai, af, aj, ag⟩ := at_T60 aJ.1 a2 au av; obtain rfl : aR = aE := (by injection a5); replace ak := cbl HB.1 ak; replace aa := cbl HB.1 aa; replace ab := cbl HB.1 ab; replace ac := cbl HB.1 ac; replace al := cbl HB.1 al; have aN := am ae; have aK := am ah; clear ae ah; have aq := am af; have ap := am ai; clear af ai; have aQ := am ag; have aM := am aj; clear ag aj; replace au := eq_true au; replace av := eq_true av; have ea_ := Option.some.inj (az.symm.trans aa); injection ea_ with ea_ en_ ec_; subst ea_; subst ec_; clear en_; have ea_ := Option.some.inj (aA.symm.trans ab); injection ea_ with ea_ en_ ec_; subst ea_; subst ec_; clear en_; have ea_ := Option.some.inj (aC.symm.trans ac); injection ea_ with ea_ en_ ec_; subst ea_; subst ec_; clear en_) | (go_at_call 75; (with_reducible refine (r11_weight.calls k1 _ _ ((rd_T60 ao a2).f2) ar aI _ ?side1 ?side2 A11.1).mono ?_); (case side1 => exact csd ((Kd.C_below aq.1 pbg))); (case side2 => exact ap.1); rintro e w' ⟨rfl, ⟨nd, rfl⟩⟩; (try first | exact ⟨rfl, _, World.drewN_drewN _ _ _⟩ | exact ⟨rfl, _, Eq.trans (World.drewN_drewN _ _ _) (congrArg (World.drewN _) (Nat.add_assoc _ _ _))⟩))))
 go_roundg k1
 case measure => have := bS.1; omega
 case rel => exact ⟨(bI), (wrap64 (ar + 1)), prs, H', ⟨by have := bS.1; omega⟩, ⟨pkr bC.1⟩, ⟨pbk aw.1⟩, ⟨pbg⟩⟩

end Go.Proofs.Yteknagfpiadaiaa.P
