-- LAID BY OUR PROGRAM OVER THE PRINT (xprint.py, part.py): Lean checks it.
import Derived.Test.YtnoebjmhimehcaaPx0
import Derived.Test.YtnoebjmhimehcaaPx1
import Derived.BigRegion
import Derived.Laws.EntriesVeiled
import Derived.RegionTactic
import Derived.Test.YtnoebjmhimehcaaCopyS
namespace Go.Proofs.Ytnoebjmhimehcaa.P
open Go.RowKit Go.Proofs.YtnoebjmhimehcaaW.PrintWords Go.Proofs.YtnoebjmhimehcaaW.PrintLast Go.Proofs.YtnoebjmhimehcaaW.PrintMore
attribute [local go_sem] max2_int min2_int max_two min_two max_three min_three max_four min_four   -- for this text's walks alone
set_option linter.unusedVariables false
set_option linter.unusedSimpArgs false

/-! ### netclass_valid: function 53 -/
def netclass_valid.f (k : Nat) (ae : ByteArray) (aa : List (S52)) (ab : List (S48)) : Option (Bool) := (net_Check.f k ae aa ab).bind fun au => (some (au.1 == 0))
theorem netclass_valid.mono : ∀ a0 a1 a2 k, LeO (netclass_valid.f k a0 a1 a2) (netclass_valid.f (k + 1) a0 a1 a2) := by
 intro a0 a1 a2 k
 unfold netclass_valid.f
 repeat' first | (with_reducible first | apply net_Check.mono | apply lr | apply ln | apply li | refine lb ?_ fun _ => ?_)
set_option maxHeartbeats 8000000 in
set_option maxRecDepth 100000 in
theorem netclass_valid.calls (k : Nat) (ae : ByteArray) (aj : Option Addr) (av : Nat) (aa : List (S52)) (ak : Option Addr) (aw : Nat) (ab : List (S48)) (r : Bool) (w : World) (ah : Kd.C k52 w aj aa.length aa) (af : aa.length ≤ av) (ai : Kd.C k48 w ak ab.length ab) (ag : ab.length ≤ aw) (h : netclass_valid.f k ae aa ab = some r) :
  Calls Try.prog 53 #[.agg #[.string ae, .slice aj aa.length av, .slice ak ab.length aw]] w fun e w' => e = .returned (.bool r) ∧ Below w.heap.size w w' := by
 have ax : ∀ (x0 x1 : Value) (W : World), (Instr.field 60 (.agg #[x0, x1]) 0).run Try.prog W = .ok x0 W := fun x0 x1 W => by kernel_rfl
 have aC := Try.underlying25
 have aq := am ah
 have ao := am af
 clear ah af
 have ar := am ai
 have ap := am ag
 clear ai ag
 have HB := am (Below.refl w.heap.size w)
 have H := h
 unfold netclass_valid.f at H
 clear h
 replace H := bnd H
 obtain ⟨⟨ay, az⟩, A2, H⟩ := H
 (try dsimp only at H)
 obtain rfl := Option.some.inj H
 go_enter Try.func53, Try.ntmps53
 go_wp2_with (first | ((with_reducible refine gate_dst (N := 1) rfl ?_); refine box_ev ?_; intro aB hg w3 hbox hb; have ac := am hbox; have al := gwl hg; have aA := al; replace HB := bsl hb; clear hb hbox hg; have z4 := cf3 ac.1) | ((with_reducible refine gate_callee (f := 37) rfl ?_); refine gC 4 Try.func37 _ (net_Check.calls k ae _ _ aa _ _ ab ay az _ (csb aq HB) ao.1 (csb ar HB) ap.1 A2.1) ?_; rintro e w5 ⟨rfl, hb⟩; refine ⟨_, rfl, ?_⟩; replace ac := bbh ac hb; replace HB := bst hb; (try clear hb)))
 go_ret
 exact ⟨per, pbg⟩

/-! ### netclass_Flow: function 55 -/
mutual
def netclass_Flow.l0 : Nat → Int → List (List Int) → List (S48) → Int → Int → Option ((List (List Int)))
 | 0, _, _, _, _, _ => none
 | k + 1, x3, x4, bf, cH, aY => if aY < cH then (if 0 ≤ aY then (if aY < (bf.length : Int) then (netclass_Flow.l1 k x3 x4 aY bf cH aY ((rd_T48 bf aY).f1) (((rd_T48 bf aY).f1).length : Int) 0 ((rd_T48 bf aY).f0) ((rd_T48 bf aY).f1) ((rd_T48 bf aY).f2) ((rd_T48 bf aY).f3) ((rd_T48 bf aY).f4)) else (none)) else (none)) else (some x4)
def netclass_Flow.l1 : Nat → Int → List (List Int) → Int → List (S48) → Int → Int → List (S55) → Int → Int → ByteArray → List (S55) → List (S55) → List (S55) → Int → Option ((List (List Int)))
 | 0, _, _, _, _, _, _, _, _, _, _, _, _, _, _ => none
 | k + 1, x3, x4, x5, bf, cH, aY, da, ff, cd, b8, b9, aX, ca, cb => if cd < ff then (if 0 ≤ cd then (if cd < (da.length : Int) then (if 0 ≤ ((rd_T55 da cd).f0) then (if ((rd_T55 da cd).f0) < (x4.length : Int) then (if (rd_L11 x4 ((rd_T55 da cd).f0)).length < 17592186044416 then (netclass_Flow.l1 k x3 (x4.set (((rd_T55 da cd).f0) : Int).toNat ((rd_L11 x4 ((rd_T55 da cd).f0)) ++ [wrap64 (x3 + x5)])) x5 bf cH aY da ff (wrap64 (cd + 1)) b8 b9 aX ca cb) else (none)) else (none)) else (none)) else (none)) else (none)) else (netclass_Flow.l2 k x3 x4 x5 bf cH aY aX (aX.length : Int) 0)
def netclass_Flow.l2 : Nat → Int → List (List Int) → Int → List (S48) → Int → Int → List (S55) → Int → Int → Option ((List (List Int)))
 | 0, _, _, _, _, _, _, _, _, _ => none
 | k + 1, x3, x4, x5, bf, cH, aY, eF, fg, dR => if dR < fg then (if 0 ≤ dR then (if dR < (eF.length : Int) then (if 0 ≤ (wrap64 (x3 + x5)) then (if (wrap64 (x3 + x5)) < (x4.length : Int) then (if (rd_L11 x4 (wrap64 (x3 + x5))).length < 17592186044416 then (netclass_Flow.l2 k x3 (x4.set ((wrap64 (x3 + x5)) : Int).toNat ((rd_L11 x4 (wrap64 (x3 + x5))) ++ [(rd_T55 eF dR).f0])) x5 bf cH aY eF fg (wrap64 (dR + 1))) else (none)) else (none)) else (none)) else (none)) else (none)) else (netclass_Flow.l0 k x3 x4 bf cH (wrap64 (aY + 1)))
end
def netclass_Flow.f (k : Nat) (aD : ByteArray) (ai : List (S52)) (ab : List (S48)) : Option ((List (List Int))) := (netclass_valid.f k aD ai ab).bind fun cZ => (if cZ = true then (if 0 ≤ (wrap64 ((ai.length : Int) + (ab.length : Int))) then (if (wrap64 ((ai.length : Int) + (ab.length : Int)) : Int).toNat ≤ 11728124029610 then (netclass_Flow.l0 k (ai.length : Int) (List.replicate (wrap64 ((ai.length : Int) + (ab.length : Int)) : Int).toNat []) ab (ab.length : Int) 0) else (none)) else (none)) else (some ([] : List (List Int))))
theorem netclass_Flow.mono_l : ∀ k, M5 netclass_Flow.l0 k ∧ M14 netclass_Flow.l1 k ∧ M9 netclass_Flow.l2 k
 | 0 => ⟨fun _ _ _ _ _ r h => by simp [netclass_Flow.l0] at h, fun _ _ _ _ _ _ _ _ _ _ _ _ _ _ r h => by simp [netclass_Flow.l1] at h, fun _ _ _ _ _ _ _ _ _ r h => by simp [netclass_Flow.l2] at h⟩
 | k + 1 => by
  obtain ⟨ew, ex, ey⟩ := netclass_Flow.mono_l k
  refine ⟨?_, ?_, ?_⟩ <;> dsimp only [M5, M9, M14] <;> intros <;> (first | unfold netclass_Flow.l0 | unfold netclass_Flow.l1 | unfold netclass_Flow.l2) <;> repeat' first | (with_reducible first | apply ew | apply ex | apply ey | apply netclass_valid.mono | apply lr | apply ln | apply li | refine lb ?_ fun _ => ?_)
theorem netclass_Flow.mono : ∀ a0 a1 a2 k, LeO (netclass_Flow.f k a0 a1 a2) (netclass_Flow.f (k + 1) a0 a1 a2) := by
 intro a0 a1 a2 k
 obtain ⟨ew, ex, ey⟩ := netclass_Flow.mono_l k
 unfold netclass_Flow.f
 repeat' first | (with_reducible first | apply ew | apply ex | apply ey | apply netclass_valid.mono | apply lr | apply ln | apply li | refine lb ?_ fun _ => ?_)
def netclass_Flow.T11 : Bool × List (List Nat × List Nat) := (true, [([], []), ([], []), ([1], [1]), ([], []), ([], []), ([4], [4]), ([3, 5], [3, 5]), ([6], [6]), ([], []), ([], []), ([8, 9], [8, 9]), ([10], [10]), ([7, 11], [7, 11]), ([0, 2, 0, 1, 2, 3, 4, 5, 6, 7, 8, 9, 10, 11, 12], [0, 2]), ([13, 12, 12, 0, 1, 2, 3, 4, 5, 6, 7, 8, 9, 10, 11, 12], [12, 13])])
def netclass_Flow.B11 : List Nat := [0, 0, 2, 0, 0, 16, 56, 120, 0, 0, 768, 1792, 4088, 8191, 16383]
theorem netclass_Flow.tab11 : rtab .any (opsOf Try.f55 11) = netclass_Flow.T11 := by kernel_rfl
theorem netclass_Flow.bits11 : waitsOk netclass_Flow.T11.2 netclass_Flow.B11 = true := by kernel_rfl
def netclass_Flow.T16 : Bool × List (List Nat × List Nat) := (true, [([], []), ([], []), ([], []), ([1, 2], [1, 2]), ([], []), ([], []), ([], []), ([5, 6], [5, 6]), ([4, 7], [4, 7]), ([8], [8]), ([], []), ([10], [10]), ([11], [11]), ([9, 12], [9, 12]), ([0, 3, 0, 1, 2, 3, 4, 5, 6, 7, 8, 9, 10, 11, 12, 13], [0, 3]), ([14, 13, 13, 0, 1, 2, 3, 4, 5, 6, 7, 8, 9, 10, 11, 12, 13], [13, 14])])
def netclass_Flow.B16 : List Nat := [0, 0, 0, 6, 0, 0, 0, 96, 240, 496, 0, 1024, 3072, 8176, 16383, 32767]
theorem netclass_Flow.tab16 : rtab .any (opsOf Try.f55 16) = netclass_Flow.T16 := by kernel_rfl
theorem netclass_Flow.bits16 : waitsOk netclass_Flow.T16.2 netclass_Flow.B16 = true := by kernel_rfl
set_option maxHeartbeats 8000000 in
set_option maxRecDepth 100000 in
theorem netclass_Flow.calls (k : Nat) (aD : ByteArray) (aZ : Option Addr) (a9 : Nat) (ai : List (S52)) (cI : Option Addr) (ba : Nat) (ab : List (S48)) (r : List (List Int)) (w : World) (cD : Kd.C k52 w aZ ai.length ai) (cr : ai.length ≤ a9) (cE : Kd.C k48 w cI ab.length ab) (cu : ab.length ≤ ba) (h : netclass_Flow.f k aD ai ab = some r) :
  Calls Try.prog 55 #[.agg #[.string aD, .slice aZ ai.length a9, .slice cI ab.length ba]] w fun e w' => ∃ v0_ : Value, e = .returned (v0_) ∧ Kd.S (Kd.slice 3 (Kd.int .i64)) 39 w' w.heap.size (fun _ => True) v0_ r ∧ Below w.heap.size w w' := by
 have fx := Try.underlying25
 have fy := Try.underlying48
 have fz := Try.underlying55
 have cm := am cD
 have ch := am cr
 clear cD cr
 have bz := am cE
 have ci := am cu
 clear cE cu
 have HB := am (Below.refl w.heap.size w)
 have H := h
 unfold netclass_Flow.f at H
 clear h
 replace H := bnd H
 obtain ⟨cZ, A2, H⟩ := H
 (try dsimp only at H)
 cases cZ
 ·rw [if_neg Bool.false_ne_true] at H
  obtain rfl := Option.some.inj H
  go_enter Try.func55, Try.ntmps55
  go_wp2_with (first | ((with_reducible refine gate_dst (N := 1) rfl ?_); refine box_ev ?_; intro aC hg fS hbox hb; have ac := am hbox; have bx := gwl hg; have dg := bx; replace HB := bsl hb; clear hb hbox hg; have fU := cf3 ac.1) | ((with_reducible refine gate_callee (f := 53) rfl ?_); refine gC 12 Try.func53 _ (netclass_valid.calls k aD _ _ ai _ _ ab false _ (csb cm HB) ch.1 (csb bz HB) ci.1 A2.1) ?_; rintro e fT ⟨rfl, hb⟩; refine ⟨_, rfl, ?_⟩; replace ac := bbh ac hb; replace HB := bst hb; (try clear hb)))
  go_ret
  exact ⟨_, per, knl, pbg⟩
 rw [if_pos rfl] at H
 obtain ⟨b5, bJ⟩ : ∃ j_ : Int, (wrap64 ((ai.length : Int) + (ab.length : Int))) = j_ := ⟨_, rfl⟩
 replace H : (if 0 ≤ (b5) then (if (b5 : Int).toNat ≤ 11728124029610 then (netclass_Flow.l0 k (ai.length : Int) (List.replicate (b5 : Int).toNat []) ab (ab.length : Int) 0) else (none)) else (none)) = some r := by first | (rw [bJ] at H; exact H) | (simp only [bJ] at H ⊢; exact H)
 (try rw [bJ] at A2)
 have hji4w : (IntKind.i64.wrap ((ai.length : Int) + (ab.length : Int))) = b5 := (i64_w _).trans bJ
 replace H := ifp H
 obtain ⟨c5, H⟩ := H
 have cP := eq_true c5
 have cQ : decide (0 ≤ (b5)) = true := decide_eq_true c5
 clear c5
 replace H := ifp H
 obtain ⟨c6, H⟩ := H
 have cR := eq_true c6
 have cS : decide ((b5 : Int).toNat ≤ 11728124029610) = true := decide_eq_true c6
 clear c6
 obtain ⟨dS, bP⟩ : ∃ y_ : List (List Int), y_ = (List.replicate (b5 : Int).toNat []) := ⟨_, rfl⟩
 replace H : (netclass_Flow.l0 k (ai.length : Int) dS ab (ab.length : Int) 0) = some r := hrp bP H
 have cn := am bP
 clear bP
 have H' := am H
 clear H
 go_enter Try.func55, Try.ntmps55
 go_wp2_with (first | ((with_reducible refine gate_dst (N := 1) rfl ?_); refine box_ev ?_; intro aC hg w7 hbox hb; have ac := am hbox; have bx := gwl hg; have dg := bx; replace HB := bsl hb; clear hb hbox hg; have z8 := cf3 ac.1) | ((with_reducible refine gate_callee (f := 53) rfl ?_); refine gC 12 Try.func53 _ (netclass_valid.calls k aD _ _ ai _ _ ab true _ (csb cm HB) ch.1 (csb bz HB) ci.1 A2.1) ?_; rintro e w9 ⟨rfl, hb⟩; refine ⟨_, rfl, ?_⟩; replace ac := bbh ac hb; replace HB := bst hb; (try clear hb); have eG := cf3 ac.1) | ((with_reducible refine gate_dst (N := 22) rfl ?_); refine Kd.S_make (Kd.slice 3 (Kd.int .i64)) _ 39 rfl (N := 22) rfl 72 _ _ rfl b5 rfl rfl Try.underlying72 (.slice none 0 0) 24 info39 rfl (by decide) (by omega) [] (ok := fun _ => True) (okp := fun _ => True) ⟨_, rfl, Kd.R_nil _ _ _ _ _⟩ (fun _ hk => hk) trivial (dq) (Nat.le_trans (Nat.mul_le_mul_right _ (dq : b5.toNat ≤ 11728124029610)) (by omega)) (Below.refl _ _) (Nat.le_refl _) ?_; intro bW fO bL hb hg_ hnew_; clear hg_ hnew_; (first | rw [← cn.1] at bL | (simp only [Int.reduceToNat] at bL; rw [← cn.1] at bL)); have dm := am (Kd.S_lower bL (below_size pbg)); replace ac := bbh ac hb; replace HB := bst hb; clear hb bL; have eH := cf3 ac.1))
 go_loopg [26] k (fun kq fE w' => ∃ (ce : List (List Int)) (aa : Int), fE = .int .i64 aa ∧ Aside0 (netclass_Flow.l0 kq (ai.length : Int) ce ab (ab.length : Int) aa = some r) ∧ Aside0 (kq ≤ k) ∧ Aside0 (Kd.S (Kd.slice 3 (Kd.int .i64)) 39 w' w.heap.size (fun _ => True) bW ce) ∧ Aside0 (w'.heap[aC]? = some (.cells #[.string aD, (.slice aZ ai.length a9), (.slice cI ab.length ba)] 25 (0, 0))) ∧ Aside0 (Below w.heap.size w w'))
 case atStart => exact ⟨(dS), (0), prs, H', ⟨Nat.le_refl _⟩, ⟨pks dm.1⟩, ⟨pbk ac.1⟩, ⟨pbg⟩⟩
 clear H'
 try clear c5 cP cQ c6 cR cS eG eH z8
 obtain ⟨ce, aa, rfl, HA, db, ag, ac, HB⟩ := hrel
 obtain _ | k1 := gk
 ·exact absurd HA.1 (by simp [netclass_Flow.l0])
 have H := HA.1
 clear HA
 simp only [netclass_Flow.l0] at H
 replace H := ifl H
 rcases H with ⟨bA, H⟩ | ⟨bA, H⟩
 rotate_left
 ·obtain rfl := Option.some.inj H
  go_wp2
  go_ret
  exact ⟨_, by first | rfl | (simp [errW_none, errW_some] <;> rfl) | (simp only [← bJ]; first | rfl | (simp [errW_none, errW_some] <;> rfl)) | (simp [*, errW_none, errW_some] <;> rfl), by (with_reducible repeat (first | apply Kd.S_alloc | apply Kd.S_drewN | apply Kd.S_drew)); exact ag.1, pbg⟩
 replace H := ifp H
 obtain ⟨d3, H⟩ := H
 have co := decide_eq_true d3
 clear d3
 replace H := ifp H
 obtain ⟨d4, H⟩ := H
 have cp := decide_eq_true d4
 clear d4
 have H' := am H
 clear H
 obtain ⟨dP, dQ, bi, a3, aN, a4, aQ, aM, aR, en, bn, bo, bp, bq, br, dW, bX, dX, bY, dY, d2⟩ := bT48 bz.1 HB.1 aa
 cases en
 go_wp2_with (first | ((with_reducible refine gate_dst (N := 6) rfl ?_); refine box_ev (N := 6) (cs := #[.string (⟨#[]⟩ : ByteArray), .slice none 0 0, .slice none 0 0, .slice none 0 0, .int .i64 0]) (t := 48) ?_; intro aE hg fP hbox hb; have af := am hbox; have dh := gwb hg; have eI := dh; have aA := nlt hg ac; have aI := ngt hg ac; replace ag := sbw ag hb; replace ac := bbh ac hb; replace HB := bst hb; clear hb hbox hg; have eY := aI.1; have e7 := aA.1; have fh := cf5 af.1))
 go_loopg [34] k1 (fun kq fF w' => ∃ (av : List (List Int)) (ae : Int), fF = .int .i64 ae ∧ Aside0 (netclass_Flow.l1 kq (ai.length : Int) av aa ab (ab.length : Int) aa ((rd_T48 ab aa).f1) (((rd_T48 ab aa).f1).length : Int) ae ((rd_T48 ab aa).f0) ((rd_T48 ab aa).f1) ((rd_T48 ab aa).f2) ((rd_T48 ab aa).f3) ((rd_T48 ab aa).f4) = some r) ∧ Aside0 (kq ≤ k1) ∧ Aside0 (Kd.S (Kd.slice 3 (Kd.int .i64)) 39 w' w.heap.size (fun _ => True) bW av) ∧ Aside0 (w'.heap[aC]? = some (.cells #[.string aD, (.slice aZ ai.length a9), (.slice (some bi) ab.length ba)] 25 (0, 0))) ∧ Aside0 (w'.heap[aE]? = some (.cells #[.string ((rd_T48 ab aa).f0), (.slice a3 ((rd_T48 ab aa).f1).length aN), (.slice a4 ((rd_T48 ab aa).f2).length aQ), (.slice aM ((rd_T48 ab aa).f3).length aR), .int .i64 ((rd_T48 ab aa).f4)] 48 (0, 0))) ∧ Aside0 (Below w.heap.size w w'))
 case atStart => exact ⟨(ce), (0), prs, H', ⟨Nat.le_refl _⟩, ⟨by (with_reducible repeat (first | apply Kd.S_alloc | apply Kd.S_drewN | apply Kd.S_drew)); exact Kd.S_mono (fS5 aE (Kd.S_types ag.1 af.1 (by decide)) (fun _ hk => hk.2)) (fun _ hk => trivial)⟩, ⟨by (with_reducible repeat (first | refine blk_drewN ?_ _ | refine blk_drew ?_ | refine blk_alloc ?_ _)); refine bf5 ?_ aA.1; exact pbk ac.1⟩, ⟨by (with_reducible repeat (first | refine blk_drewN ?_ _ | refine blk_drew ?_ | refine blk_alloc ?_ _)); exact bp5 (pbk af.1)⟩, ⟨pbg⟩⟩
 clear H'
 try clear c3 c5 cP cQ c6 cR cS bA d3 co d4 cp eG eH fh z8 bn bo bp bq br dP dQ
 obtain ⟨av, ae, rfl, HA, dc, ag, ac, af, HB⟩ := hrel
 obtain _ | k2 := gk
 ·exact absurd HA.1 (by simp [netclass_Flow.l1])
 have H := HA.1
 clear HA
 simp only [netclass_Flow.l1] at H
 replace H := ifl H
 rcases H with ⟨cq, H⟩ | ⟨cq, H⟩
 ·replace H := ifp H
  obtain ⟨eg, H⟩ := H
  have dy := decide_eq_true eg
  clear eg
  replace H := ifp H
  obtain ⟨eh, H⟩ := H
  have dz := decide_eq_true eh
  clear eh
  replace H := ifp H
  obtain ⟨ei, H⟩ := H
  have dA := decide_eq_true ei
  clear ei
  replace H := ifp H
  obtain ⟨ej, H⟩ := H
  have dB := decide_eq_true ej
  clear ej
  replace H := ifp H
  obtain ⟨ek, H⟩ := H
  have dn := am ek
  clear ek
  obtain ⟨cf, bQ⟩ : ∃ y_ : List Int, y_ = ((rd_L11 av ((rd_T55 ((rd_T48 ab aa).f1) ae).f0)) ++ [wrap64 ((ai.length : Int) + aa)]) := ⟨_, rfl⟩
  replace H : (netclass_Flow.l1 k2 (ai.length : Int) (av.set (((rd_T55 ((rd_T48 ab aa).f1) ae).f0) : Int).toNat cf) aa ab (ab.length : Int) aa ((rd_T48 ab aa).f1) (((rd_T48 ab aa).f1).length : Int) (wrap64 (ae + 1)) ((rd_T48 ab aa).f0) ((rd_T48 ab aa).f1) ((rd_T48 ab aa).f2) ((rd_T48 ab aa).f3) ((rd_T48 ab aa).f4)) = some r := hrp bQ H
  have dr := am bQ
  clear bQ
  obtain ⟨dU, bR⟩ : ∃ y_ : List (List Int), y_ = (av.set (((rd_T55 ((rd_T48 ab aa).f1) ae).f0) : Int).toNat cf) := ⟨_, rfl⟩
  replace H : (netclass_Flow.l1 k2 (ai.length : Int) dU aa ab (ab.length : Int) aa ((rd_T48 ab aa).f1) (((rd_T48 ab aa).f1).length : Int) (wrap64 (ae + 1)) ((rd_T48 ab aa).f0) ((rd_T48 ab aa).f1) ((rd_T48 ab aa).f2) ((rd_T48 ab aa).f3) ((rd_T48 ab aa).f4)) = some r := hrp bR H
  have dt := am bR
  clear bR
  have H' := am H
  clear H
  obtain ⟨ez, eB, dw, eo, b3, b4⟩ := bT55 bX.1 HB.1 ae
  cases eo
  try go_wp2_with (first | ((with_reducible refine gate_dst (N := 8) rfl ?_); refine box_ev ?_; intro aq hg de hbox hb; have aj := am hbox; have di := gwb hg; have eJ := di; have aG := nlt hg ac; have bs := ngt hg ac; have aJ := nlt hg af; have bu := ngt hg af; replace ag := sbw ag hb; replace ac := bbh ac hb; replace af := bbh af hb; replace HB := bst hb; clear hb hbox hg; have eZ := bs.1; have e8 := aG.1; have e0 := bu.1; have e9 := aJ.1; have fL := cf2 aj.1))
  have n0_ : Aside0 (Kd.S (Kd.slice 3 (Kd.int .i64)) 39 ((de.setCell ⟨aq, 0, none⟩ (.int .i64 ((rd_T55 ((rd_T48 ab aa).f1) ae).f0))).setCell ⟨aq, 1, none⟩ (.int .i64 ((rd_T55 ((rd_T48 ab aa).f1) ae).f1))) w.heap.size (fun _ => True) bW av) := ⟨by (with_reducible repeat (first | apply Kd.S_alloc | apply Kd.S_drewN | apply Kd.S_drew)); exact Kd.S_mono (fS2 aq (Kd.S_types ag.1 aj.1 (by decide)) (fun _ hk => hk.2)) (fun _ hk => trivial)⟩
  have n1_ : Aside0 (((de.setCell ⟨aq, 0, none⟩ (.int .i64 ((rd_T55 ((rd_T48 ab aa).f1) ae).f0))).setCell ⟨aq, 1, none⟩ (.int .i64 ((rd_T55 ((rd_T48 ab aa).f1) ae).f1))).heap[aC]? = some (.cells #[.string aD, .slice aZ ai.length a9, .slice (some bi) ab.length ba] 25 (0, 0))) := ⟨by (with_reducible repeat (first | refine blk_drewN ?_ _ | refine blk_drew ?_ | refine blk_alloc ?_ _)); refine bf2 ?_ aG.1; exact pbk ac.1⟩
  have n2_ : Aside0 (((de.setCell ⟨aq, 0, none⟩ (.int .i64 ((rd_T55 ((rd_T48 ab aa).f1) ae).f0))).setCell ⟨aq, 1, none⟩ (.int .i64 ((rd_T55 ((rd_T48 ab aa).f1) ae).f1))).heap[aE]? = some (.cells #[.string ((rd_T48 ab aa).f0), .slice (some dw) ((rd_T48 ab aa).f1).length aN, .slice a4 ((rd_T48 ab aa).f2).length aQ, .slice aM ((rd_T48 ab aa).f3).length aR, .int .i64 ((rd_T48 ab aa).f4)] 48 (0, 0))) := ⟨by (with_reducible repeat (first | refine blk_drewN ?_ _ | refine blk_drew ?_ | refine blk_alloc ?_ _)); refine bf2 ?_ aJ.1; exact pbk af.1⟩
  have n3_ : Aside0 (((de.setCell ⟨aq, 0, none⟩ (.int .i64 ((rd_T55 ((rd_T48 ab aa).f1) ae).f0))).setCell ⟨aq, 1, none⟩ (.int .i64 ((rd_T55 ((rd_T48 ab aa).f1) ae).f1))).heap[aq]? = some (.cells #[.int .i64 ((rd_T55 ((rd_T48 ab aa).f1) ae).f0), .int .i64 ((rd_T55 ((rd_T48 ab aa).f1) ae).f1)] 55 (0, 0))) := ⟨by (with_reducible repeat (first | refine blk_drewN ?_ _ | refine blk_drew ?_ | refine blk_alloc ?_ _)); exact bp2 (pbk aj.1)⟩
  have n4_ : Aside0 (Below w.heap.size w ((de.setCell ⟨aq, 0, none⟩ (.int .i64 ((rd_T55 ((rd_T48 ab aa).f1) ae).f0))).setCell ⟨aq, 1, none⟩ (.int .i64 ((rd_T55 ((rd_T48 ab aa).f1) ae).f1)))) := ⟨pbg⟩
  (try clear ag)
  (try clear ac)
  (try clear af)
  (try clear aj)
  (try clear HB)
  generalize ((de.setCell ⟨aq, 0, none⟩ (.int .i64 ((rd_T55 ((rd_T48 ab aa).f1) ae).f0))).setCell ⟨aq, 1, none⟩ (.int .i64 ((rd_T55 ((rd_T48 ab aa).f1) ae).f1))) = fH at n0_ n1_ n2_ n3_ n4_ ⊢
  have ag := n0_
  have ac := n1_
  have af := n2_
  have aj := n3_
  have HB := n4_
  clear n0_ n1_ n2_ n3_ n4_
  replace ag := am (Kd.S_drew ag.1)
  replace ac := am (blk_drew ac.1)
  replace af := am (blk_drew af.1)
  replace aj := am (blk_drew aj.1)
  replace HB := am (below_drew1 HB.1)
  obtain ⟨fi, ft, dD⟩ := Kd.S_slice ag.1
  (first | subst dD | (injection dD with f1_ f2_ f3_; have f4_ := f1_.symm; have f5_ := f3_.symm; clear f1_ f2_ f3_; subst f4_; subst f5_))
  have bU : 0 ≤ (((rd_T55 ((rd_T48 ab aa).f1) ae).f0) : Int) := dq
  have bV : ((rd_T55 ((rd_T48 ab aa).f1) ae).f0) < (av.length : Int) := dq
  obtain ⟨eL, a5, bb, ep, aw, bl, bj⟩ := at_L11 (Kd.S_reads' ag.1).2.2 ((rd_T55 ((rd_T48 ab aa).f1) ae).f0) bU bV
  cases ep
  obtain ⟨eW, cX, cT, bF⟩ := Kd.S_get ag.1 [] ((rd_T55 ((rd_T48 ab aa).f1) ae).f0) bU (by first | exact bV | exact dq | (have e_ := (Kd.S_reads' ag.1).1; omega))
  obtain ⟨d7, rfl, aT⟩ := cT
  have ax := bF 0 _ rfl
  rw [Nat.add_zero, show ((Kd.slice 3 (Kd.int .i64))).sz = 1 from rfl, Nat.mul_one] at ax
  replace ax := Option.some.inj (ax.symm.trans aw)
  rw [ax] at aT
  have al := am (show Kd.R (Kd.int .i64) 3 _ _ _ _ (rd_L11 av ((rd_T55 ((rd_T48 ab aa).f1) ae).f0)) from aT)
  clear ax aT
  have bg := am aw
  clear bF cX
  have bZ := am bj
  have dZ := am bl
  clear bj bl
  replace bU := eq_true bU
  replace bV := eq_true bV
  obtain ⟨bD, fu, dE, dJ, es, fp, dk⟩ := Kd.S_form ag.1 (by have h_ : (((rd_T55 ((rd_T48 ab aa).f1) ae).f0) : Int) < ((av.length : Int) : Int) := dq; have h2_ : 0 ≤ (((rd_T55 ((rd_T48 ab aa).f1) ae).f0) : Int) := (dq); omega)
  (first | cases dE | (injection dE with ea_ en_ ec_; (first | subst ea_ | (injection ea_ with ea_; subst ea_)); subst ec_; clear en_))
  have fk := am dJ
  have ec := am dk
  clear dJ es dk
  (first | simp only [add_plain] at aw | skip)
  obtain ⟨cF, fm, dN, eu, cv, _, _, dL⟩ := Kd.S_elem ag.1 [] (((rd_T55 ((rd_T48 ab aa).f1) ae).f0) : Int) (dq) (by have h_ : (((rd_T55 ((rd_T48 ab aa).f1) ae).f0) : Int) < ((av.length : Int) : Int) := dq; first | exact h_ | (have e_ := (Kd.S_reads' ag.1).1; omega) | simpa using h_)
  obtain ⟨eD, rfl, bB⟩ := eu
  have bM := cv 0 _ rfl
  have cV := bg.1
  (try simp only [add_plain] at cV)
  (try simp only [Nat.add_zero] at bM)
  (try rw [show ((Kd.slice 3 (Kd.int .i64))).sz = 1 from rfl, Nat.mul_one] at bM)
  replace bM := Option.some.inj (bM.symm.trans cV)
  subst bM
  clear cV cv dN
  have b1 := am (show Kd.R (Kd.int .i64) 3 _ w.heap.size cF (.slice a5 (rd_L11 av ((rd_T55 ((rd_T48 ab aa).f1) ae).f0)).length bb) (rd_L11 av ((rd_T55 ((rd_T48 ab aa).f1) ae).f0)) from bB)
  have a7 := am dL
  have cJ := am (Kd.S_reads' ag.1).1
  clear dL bB
  refine start_ (n := 15) (S := fun w' => w'.cell? ⟨aq, 0, none⟩ = some (.int .i64 ((rd_T55 ((rd_T48 ab aa).f1) ae).f0)) ∧ w'.cell? ⟨aq, 1, none⟩ = some (.int .i64 ((rd_T55 ((rd_T48 ab aa).f1) ae).f1)) ∧ w'.cell? ⟨bD, (((rd_T55 ((rd_T48 ab aa).f1) ae).f0)).toNat, none⟩ = some (.slice a5 (rd_L11 av ((rd_T55 ((rd_T48 ab aa).f1) ae).f0)).length bb)) (ds := [14]) #[false, false, false, false, false, false, false, false, false, false, false, false, false, false, false] (by kernel_rfl) rfl rfl ⟨(blk_cell aj.1 0).trans rfl, (blk_cell aj.1 1).trans rfl, aw⟩ (fun hHeld => ?_); refine with_tabW netclass_Flow.tab11 netclass_Flow.bits11 (fun HT_ HW_ => ?_)
  generalize fH.drew = fI at ag ac af aj HB ec a7 al bZ bg b1 aw hHeld ⊢
  refine pu HT_.1 0 38 ?_
  refine pu HT_.1 1 39 ?_
  refine pu HT_.1 3 41 ?_
  refine pu HT_.1 4 42 ?_
  refine pu HT_.1 8 46 ?_
  refine pu HT_.1 9 47 ?_
  refine pu HT_.1 10 48 ?_
  refine tk HT_.1 HW_.1 hHeld 2 40 ?_
  refine tk HT_.1 HW_.1 hHeld 5 43 ?_
  refine pu HT_.1 6 44 ?_
  refine tk HT_.1 HW_.1 hHeld 7 45 ?_
  refine on HT_.1 11 (some 49) rfl fun K hK => ?_
  refine value_ (w1 := ?_) (v := ?_) (by rfl) rfl ?_ ?_
  rotate_left 2
  ·go_simp
   constructor
   ·rfl
   ·rfl
  refine hK.out _ _ ⟨(blk_cell (blk_alloc aj.1 _) 0).trans rfl, (blk_cell (blk_alloc aj.1 _) 1).trans rfl, (World.cell?_alloc_lt _ _ _ (World.block_lt_of_cell? _ _ (hHeld.2.2))).trans (hHeld.2.2)⟩ (fun hHeld => ?_)
  clear hK K
  refine nm_ 49 ?_
  refine on HT_.1 12 (some 50) rfl fun K hK => ?_
  refine Kd.R_append_step (Kd.int .i64) (w0 := w) w.heap.size (by rfl) (.tmp 45) (.tmp 49) 39 3 (.int .i64 0) 8 rfl Try.underlying39 info3 rfl (by decide) (by omega) (.slice a5 (rd_L11 av ((rd_T55 ((rd_T48 ab aa).f1) ae).f0)).length bb) (rd_L11 av ((rd_T55 ((rd_T48 ab aa).f1) ae).f0)) (wrap64 ((ai.length : Int) + aa)) [.int .i64 (wrap64 ((ai.length : Int) + aa))] (fun k_ => cF k_ ∨ ((fun _ => True)) k_ ∧ fI.heap.size ≤ k_) (fun _ => False) rfl rfl ?aP (fun _ hk => hk.elim) ?aF ?aO ?aB ?aS ?aL ?_
  (case aP => exact rfl)
  (case aB => exact pbg)
  (case aF => exact (fun k_ hk => .inr ⟨trivial, hk⟩))
  (case aO => exact (by (with_reducible repeat (first | apply Kd.R_alloc | apply Kd.R_drewN | apply Kd.R_drew)); exact Kd.R_mono b1.1 (fun _ hk => .inl hk)))
  (case aS => exact (below_size pbg))
  (case aL => have := dn.1; omega)
  intro fC fQ ho hb hg hat
  (first | have HS2_ := cell_grown hg (hHeld.2.2) (by first | (rw [add_block]; exact (fun e_ => ((al.1.1 _ e_.symm).2) rfl)) | (show some (Addr.add _ _).block ≠ _; rw [add_block]; exact (fun e_ => ((al.1.1 _ e_.symm).2) rfl)) | exact (fun e_ => ((al.1.1 _ e_.symm).2) rfl)) | have HS2_ := cell_grown hg (cell_unalloc (hHeld.2.2) (by first | (rw [add_block]; exact Kd.S_lt ag.1 _ rfl) | (show (Addr.add _ _).block < _; rw [add_block]; exact Kd.S_lt ag.1 _ rfl) | exact Kd.S_lt ag.1 _ rfl)) (by first | (rw [add_block]; exact (fun e_ => ((al.1.1 _ e_.symm).2) rfl)) | (show some (Addr.add _ _).block ≠ _; rw [add_block]; exact (fun e_ => ((al.1.1 _ e_.symm).2) rfl)) | exact (fun e_ => ((al.1.1 _ e_.symm).2) rfl)))
  rw [← dr.1] at ho
  have n0_ := (bgr ac hg (Kd.R_ne al.1 ac.1 (by decide)))
  have n1_ := (bgr af hg (Kd.R_ne al.1 af.1 (by decide)))
  have n2_ := (bgr aj hg (Kd.R_ne al.1 aj.1 (by decide)))
  have n3_ := am hb
  have n4_ := am (Kd.H_grown (Kd.H_widen (by repeat (first | exact a7.1 | refine Kd.H_alloc ?_ _ | refine Kd.H_drewN ?_ _ | refine Kd.H_drew ?_))) hg (fun k_ e_ => .inl (b1.1.1 k_ e_)))
  have n5_ := am ho
  clear ac af aj HB a7 ag b1 al
  have ac := n0_
  have af := n1_
  have aj := n2_
  have HB := n3_
  have a7 := n4_
  have cj := n5_
  clear n0_ n1_ n2_ n3_ n4_ n5_ ho hb hg hat
  have eA : 0 ≤ (((rd_T55 ((rd_T48 ab aa).f1) ae).f0) : Int) := dq
  have eC : (((rd_T55 ((rd_T48 ab aa).f1) ae).f0) : Int) < ((av.length : Int) : Int) := dq
  replace eA := eq_true eA
  replace eC := eq_true eC
  obtain ⟨d9, el, dF⟩ := Kd.R_slice cj.1
  (first | subst dF | (injection dF with f1_ f2_ f3_; have f4_ := f1_.symm; have f5_ := f3_.symm; clear f1_ f2_ f3_; subst f4_; subst f5_))
  obtain ⟨_, _, aV, _, _, cw, _⟩ := Kd.H_raw a7.1 (dq) (by have h_ : (((rd_T55 ((rd_T48 ab aa).f1) ae).f0) : Int) < ((av.length : Int) : Int) := dq; first | exact h_ | (have e_ := (cJ.1); omega) | simpa using h_)
  obtain ⟨_, cz⟩ := Kd.H_at a7.1 (dq) (by have h_ : (((rd_T55 ((rd_T48 ab aa).f1) ae).f0) : Int) < ((av.length : Int) : Int) := dq; first | exact h_ | (have e_ := (cJ.1); omega) | simpa using h_)
  have bd := cw 0 _ rfl
  have bH := cz 0
  (try simp only [Nat.add_zero] at bd bH)
  (try rw [show ((Kd.slice 3 (Kd.int .i64))).sz = 1 from rfl, Nat.mul_one] at bd)
  (try rw [show ((Kd.slice 3 (Kd.int .i64))).sz = 1 from rfl, Nat.mul_one] at bH)
  have cL := Kd.S_seg0 a7.1 (dq) (by have h_ : (((rd_T55 ((rd_T48 ab aa).f1) ae).f0) : Int) < ((av.length : Int) : Int) := dq; first | exact h_ | (have e_ := (cJ.1); omega) | simpa using h_) (seg := [.slice d9 cf.length el]) (j := 0) (show 1 ≤ 1 from by decide) (x' := cf) (Kd.M_row cj.1) (fun _ hk => hk)
  (try simp only [show ((Kd.slice 3 (Kd.int .i64))).sz = 1 from rfl, Nat.mul_one, Nat.add_zero] at cL)
  clear cw cz
  have HNB148_go34 := am (show aC ≠ bD from by have h_ := Kd.R_ne aV ac.1 (by decide); intro e_; exact h_ (by rw [e_]; rfl))
  have HNB154_go34 := am (show aE ≠ bD from by have h_ := Kd.R_ne aV af.1 (by decide); intro e_; exact h_ (by rw [e_]; rfl))
  have HNB156_go34 := am (show aq ≠ bD from by have h_ := Kd.R_ne aV aj.1 (by decide); intro e_; exact h_ (by rw [e_]; rfl))
  have cN := cL.1
  rw [← dt.1] at cN
  have ee := am cN
  obtain ⟨_, cB⟩ := Kd.R_typed aV bD rfl
  have GG36_ := am cB
  clear cL cN cB
  refine hK.out _ _ ⟨(blk_cell aj.1 0).trans rfl, (blk_cell aj.1 1).trans rfl, HS2_⟩ (fun hHeld => ?_)
  clear hK K
  refine nm_ 50 ?_
  refine pu HT_.1 13 51 ?_
  refine la HT_.1 14 none rfl fun K hK => ?_
  refine skip_ (w1 := ?_) (by rfl) rfl ?_ ?_
  rotate_left
  ·go_simp
   rfl
  refine hK.out _ _ ?_
  clear hK K
  refine done_ (done_of HT_.1 (by kernel_rfl)) ?_
  try go_wp2
  go_roundg k2
  case measure => have := db.1; have := dc.1; omega
  case rel => exact ⟨(dU), (wrap64 (ae + 1)), prs, H', ⟨by have := db.1; have := dc.1; omega⟩, ⟨pks ee.1⟩, ⟨by (with_reducible repeat (first | refine blk_drewN ?_ _ | refine blk_drew ?_ | refine blk_alloc ?_ _)); refine blk_far ?_ HNB148_go34.1 _; exact pbk ac.1⟩, ⟨by (with_reducible repeat (first | refine blk_drewN ?_ _ | refine blk_drew ?_ | refine blk_alloc ?_ _)); refine blk_far ?_ HNB154_go34.1 _; exact pbk af.1⟩, ⟨pbg⟩⟩
 have H' := am H
 clear H
 have e4 := aI.1
 have fa := aA.1
 have fM := cf5 af.1
 go_wp2
 go_loopg [56] k2 (fun kq fG w' => ∃ (au : List (List Int)) (ah : Int), fG = .int .i64 ah ∧ Aside0 (netclass_Flow.l2 kq (ai.length : Int) au aa ab (ab.length : Int) aa ((rd_T48 ab aa).f2) (((rd_T48 ab aa).f2).length : Int) ah = some r) ∧ Aside0 (kq ≤ k2) ∧ Aside0 (Kd.S (Kd.slice 3 (Kd.int .i64)) 39 w' w.heap.size (fun _ => True) bW au) ∧ Aside0 (w'.heap[aC]? = some (.cells #[.string aD, (.slice aZ ai.length a9), (.slice (some bi) ab.length ba)] 25 (0, 0))) ∧ Aside0 (w'.heap[aE]? = some (.cells #[.string ((rd_T48 ab aa).f0), (.slice a3 ((rd_T48 ab aa).f1).length aN), (.slice a4 ((rd_T48 ab aa).f2).length aQ), (.slice aM ((rd_T48 ab aa).f3).length aR), .int .i64 ((rd_T48 ab aa).f4)] 48 (0, 0))) ∧ Aside0 (Below w.heap.size w w'))
 case atStart => exact ⟨(av), (0), prs, H', ⟨Nat.le_refl _⟩, ⟨pks ag.1⟩, ⟨pbk ac.1⟩, ⟨pbk af.1⟩, ⟨pbg⟩⟩
 clear H'
 try clear c3 c5 cP cQ c6 cR cS fN bA d3 co d4 cp cq eg dy eh dz ei dA ej dB ek eA eC eG eH fh fL fM z8 bn bo bp bq br b3 b4 aw bd dP ez bU dQ eB bV
 obtain ⟨au, ah, rfl, HA, d1, ag, ac, af, HB⟩ := hrel
 obtain _ | k3 := gk
 ·exact absurd HA.1 (by simp [netclass_Flow.l2])
 have H := HA.1
 clear HA
 simp only [netclass_Flow.l2] at H
 replace H := ifl H
 rcases H with ⟨dC, H⟩ | ⟨dC, H⟩
 rotate_left
 ·have H' := am H
  clear H
  go_wp2
  go_roundg k3
  case measure => have := db.1; have := dc.1; have := d1.1; omega
  case rel => exact ⟨(au), (wrap64 (aa + 1)), prs, H', ⟨by have := db.1; have := dc.1; have := d1.1; omega⟩, ⟨pks ag.1⟩, ⟨pbk ac.1⟩, ⟨pbg⟩⟩
 replace H := ifp H
 obtain ⟨eN, H⟩ := H
 have eO := decide_eq_true eN
 clear eN
 replace H := ifp H
 obtain ⟨eP, H⟩ := H
 have eQ := decide_eq_true eP
 clear eP
 obtain ⟨ap, bK⟩ : ∃ j_ : Int, (wrap64 ((ai.length : Int) + aa)) = j_ := ⟨_, rfl⟩
 replace H : (if 0 ≤ (ap) then (if (ap) < (au.length : Int) then (if (rd_L11 au (ap)).length < 17592186044416 then (netclass_Flow.l2 k3 (ai.length : Int) (au.set ((ap) : Int).toNat ((rd_L11 au (ap)) ++ [(rd_T55 ((rd_T48 ab aa).f2) ah).f0])) aa ab (ab.length : Int) aa ((rd_T48 ab aa).f2) (((rd_T48 ab aa).f2).length : Int) (wrap64 (ah + 1))) else (none)) else (none)) else (none)) = some r := by first | (rw [bK] at H; exact H) | (simp only [bK] at H ⊢; exact H)
 have hji44w : (IntKind.i64.wrap ((ai.length : Int) + aa)) = ap := (i64_w _).trans bK
 replace H := ifp H
 obtain ⟨eR, H⟩ := H
 have eS := decide_eq_true eR
 clear eR
 replace H := ifp H
 obtain ⟨eT, H⟩ := H
 have eU := decide_eq_true eT
 clear eT
 replace H := ifp H
 obtain ⟨eV, H⟩ := H
 have dp := am eV
 clear eV
 obtain ⟨cg, bS⟩ : ∃ y_ : List Int, y_ = ((rd_L11 au (ap)) ++ [(rd_T55 ((rd_T48 ab aa).f2) ah).f0]) := ⟨_, rfl⟩
 replace H : (netclass_Flow.l2 k3 (ai.length : Int) (au.set ((ap) : Int).toNat cg) aa ab (ab.length : Int) aa ((rd_T48 ab aa).f2) (((rd_T48 ab aa).f2).length : Int) (wrap64 (ah + 1))) = some r := hrp bS H
 have du := am bS
 clear bS
 obtain ⟨dV, bT⟩ : ∃ y_ : List (List Int), y_ = (au.set ((ap) : Int).toNat cg) := ⟨_, rfl⟩
 replace H : (netclass_Flow.l2 k3 (ai.length : Int) dV aa ab (ab.length : Int) aa ((rd_T48 ab aa).f2) (((rd_T48 ab aa).f2).length : Int) (wrap64 (ah + 1))) = some r := hrp bT H
 have dv := am bT
 clear bT
 have H' := am H
 clear H
 obtain ⟨fA, fB, dx, eq, d5, d6⟩ := bT55 bY.1 HB.1 ah
 cases eq
 try go_wp2_with (first | ((with_reducible refine gate_dst (N := 10) rfl ?_); refine box_ev ?_; intro ar hg df hbox hb; have ak := am hbox; have dj := gwb hg; have eK := dj; have aH := nlt hg ac; have bv := ngt hg ac; have aK := nlt hg af; have bw := ngt hg af; replace ag := sbw ag hb; replace ac := bbh ac hb; replace af := bbh af hb; replace HB := bst hb; clear hb hbox hg; have e5 := bv.1; have fb := aH.1; have e6 := bw.1; have fc := aK.1; have z52 := cf2 ak.1))
 have n0_ : Aside0 (Kd.S (Kd.slice 3 (Kd.int .i64)) 39 ((df.setCell ⟨ar, 0, none⟩ (.int .i64 ((rd_T55 ((rd_T48 ab aa).f2) ah).f0))).setCell ⟨ar, 1, none⟩ (.int .i64 ((rd_T55 ((rd_T48 ab aa).f2) ah).f1))) w.heap.size (fun _ => True) bW au) := ⟨by (with_reducible repeat (first | apply Kd.S_alloc | apply Kd.S_drewN | apply Kd.S_drew)); exact Kd.S_mono (fS2 ar (Kd.S_types ag.1 ak.1 (by decide)) (fun _ hk => hk.2)) (fun _ hk => trivial)⟩
 have n1_ : Aside0 (((df.setCell ⟨ar, 0, none⟩ (.int .i64 ((rd_T55 ((rd_T48 ab aa).f2) ah).f0))).setCell ⟨ar, 1, none⟩ (.int .i64 ((rd_T55 ((rd_T48 ab aa).f2) ah).f1))).heap[aC]? = some (.cells #[.string aD, .slice aZ ai.length a9, .slice (some bi) ab.length ba] 25 (0, 0))) := ⟨by (with_reducible repeat (first | refine blk_drewN ?_ _ | refine blk_drew ?_ | refine blk_alloc ?_ _)); refine bf2 ?_ aH.1; exact pbk ac.1⟩
 have n2_ : Aside0 (((df.setCell ⟨ar, 0, none⟩ (.int .i64 ((rd_T55 ((rd_T48 ab aa).f2) ah).f0))).setCell ⟨ar, 1, none⟩ (.int .i64 ((rd_T55 ((rd_T48 ab aa).f2) ah).f1))).heap[aE]? = some (.cells #[.string ((rd_T48 ab aa).f0), .slice a3 ((rd_T48 ab aa).f1).length aN, .slice (some dx) ((rd_T48 ab aa).f2).length aQ, .slice aM ((rd_T48 ab aa).f3).length aR, .int .i64 ((rd_T48 ab aa).f4)] 48 (0, 0))) := ⟨by (with_reducible repeat (first | refine blk_drewN ?_ _ | refine blk_drew ?_ | refine blk_alloc ?_ _)); refine bf2 ?_ aK.1; exact pbk af.1⟩
 have n3_ : Aside0 (((df.setCell ⟨ar, 0, none⟩ (.int .i64 ((rd_T55 ((rd_T48 ab aa).f2) ah).f0))).setCell ⟨ar, 1, none⟩ (.int .i64 ((rd_T55 ((rd_T48 ab aa).f2) ah).f1))).heap[ar]? = some (.cells #[.int .i64 ((rd_T55 ((rd_T48 ab aa).f2) ah).f0), .int .i64 ((rd_T55 ((rd_T48 ab aa).f2) ah).f1)] 55 (0, 0))) := ⟨by (with_reducible repeat (first | refine blk_drewN ?_ _ | refine blk_drew ?_ | refine blk_alloc ?_ _)); exact bp2 (pbk ak.1)⟩
 have n4_ : Aside0 (Below w.heap.size w ((df.setCell ⟨ar, 0, none⟩ (.int .i64 ((rd_T55 ((rd_T48 ab aa).f2) ah).f0))).setCell ⟨ar, 1, none⟩ (.int .i64 ((rd_T55 ((rd_T48 ab aa).f2) ah).f1)))) := ⟨pbg⟩
 (try clear ag)
 (try clear ac)
 (try clear af)
 (try clear ak)
 (try clear HB)
 generalize ((df.setCell ⟨ar, 0, none⟩ (.int .i64 ((rd_T55 ((rd_T48 ab aa).f2) ah).f0))).setCell ⟨ar, 1, none⟩ (.int .i64 ((rd_T55 ((rd_T48 ab aa).f2) ah).f1))) = fJ at n0_ n1_ n2_ n3_ n4_ ⊢
 have ag := n0_
 have ac := n1_
 have af := n2_
 have ak := n3_
 have HB := n4_
 clear n0_ n1_ n2_ n3_ n4_
 replace ag := am (Kd.S_drew ag.1)
 replace ac := am (blk_drew ac.1)
 replace af := am (blk_drew af.1)
 replace ak := am (blk_drew ak.1)
 replace HB := am (below_drew1 HB.1)
 obtain ⟨fj, fv, dG⟩ := Kd.S_slice ag.1
 (first | subst dG | (injection dG with f1_ f2_ f3_; have f4_ := f1_.symm; have f5_ := f3_.symm; clear f1_ f2_ f3_; subst f4_; subst f5_))
 have b6 : 0 ≤ ((ap) : Int) := dq
 have b7 : (ap) < (au.length : Int) := dq
 obtain ⟨eM, a6, bc, er, az, bm, bk⟩ := at_L11 (Kd.S_reads' ag.1).2.2 (ap) b6 b7
 cases er
 obtain ⟨eX, cY, cU, bG⟩ := Kd.S_get ag.1 [] (ap) b6 (by first | exact b7 | exact dq | (have e_ := (Kd.S_reads' ag.1).1; omega))
 obtain ⟨d8, rfl, aU⟩ := cU
 have ay := bG 0 _ rfl
 rw [Nat.add_zero, show ((Kd.slice 3 (Kd.int .i64))).sz = 1 from rfl, Nat.mul_one] at ay
 replace ay := Option.some.inj (ay.symm.trans az)
 rw [ay] at aU
 have ao := am (show Kd.R (Kd.int .i64) 3 _ _ _ _ (rd_L11 au (ap)) from aU)
 clear ay aU
 have bh := am az
 clear bG cY
 have b0 := am bk
 have d0 := am bm
 clear bk bm
 replace b6 := eq_true b6
 replace b7 := eq_true b7
 obtain ⟨bE, fw, dH, dK, et, fq, dl⟩ := Kd.S_form ag.1 (by have h_ : ((ap) : Int) < ((au.length : Int) : Int) := dq; have h2_ : 0 ≤ ((ap) : Int) := (dq); omega)
 (first | cases dH | (injection dH with ea_ en_ ec_; (first | subst ea_ | (injection ea_ with ea_; subst ea_)); subst ec_; clear en_))
 have fl := am dK
 have ed := am dl
 clear dK et dl
 (first | simp only [add_plain] at az | skip)
 obtain ⟨cG, fo, dO, ev, cx, _, _, dM⟩ := Kd.S_elem ag.1 [] ((ap) : Int) (dq) (by have h_ : ((ap) : Int) < ((au.length : Int) : Int) := dq; first | exact h_ | (have e_ := (Kd.S_reads' ag.1).1; omega) | simpa using h_)
 obtain ⟨eE, rfl, bC⟩ := ev
 have bN := cx 0 _ rfl
 have cW := bh.1
 (try simp only [add_plain] at cW)
 (try simp only [Nat.add_zero] at bN)
 (try rw [show ((Kd.slice 3 (Kd.int .i64))).sz = 1 from rfl, Nat.mul_one] at bN)
 replace bN := Option.some.inj (bN.symm.trans cW)
 subst bN
 clear cW cx dO
 have b2 := am (show Kd.R (Kd.int .i64) 3 _ w.heap.size cG (.slice a6 (rd_L11 au (ap)).length bc) (rd_L11 au (ap)) from bC)
 have a8 := am dM
 have cK := am (Kd.S_reads' ag.1).1
 clear dM bC
 refine start_ (n := 16) (S := fun w' => w'.cell? ⟨ar, 0, none⟩ = some (.int .i64 ((rd_T55 ((rd_T48 ab aa).f2) ah).f0)) ∧ w'.cell? ⟨ar, 1, none⟩ = some (.int .i64 ((rd_T55 ((rd_T48 ab aa).f2) ah).f1)) ∧ w'.cell? ⟨bE, ((ap)).toNat, none⟩ = some (.slice a6 (rd_L11 au (ap)).length bc)) (ds := [15]) #[false, false, false, false, false, false, false, false, false, false, false, false, false, false, false, false] (by kernel_rfl) rfl rfl ⟨(blk_cell ak.1 0).trans rfl, (blk_cell ak.1 1).trans rfl, az⟩ (fun hHeld => ?_); refine with_tabW netclass_Flow.tab16 netclass_Flow.bits16 (fun HT_ HW_ => ?_)
 generalize fJ.drew = fK at ag ac af ak HB ed a8 ao b0 bh b2 az hHeld ⊢
 refine pu HT_.1 0 60 ?_
 refine pu HT_.1 1 61 ?_
 refine pu HT_.1 2 62 ?_
 refine pu HT_.1 3 63 ?_
 refine pu HT_.1 4 64 ?_
 refine pu HT_.1 5 65 ?_
 refine pu HT_.1 6 66 ?_
 refine pu HT_.1 7 67 ?_
 refine pu HT_.1 8 68 ?_
 refine pu HT_.1 10 70 ?_
 refine tk HT_.1 HW_.1 hHeld 9 69 ?_
 refine tk HT_.1 HW_.1 hHeld 11 71 ?_
 refine on HT_.1 12 (some 72) rfl fun K hK => ?_
 refine value_ (w1 := ?_) (v := ?_) (by rfl) rfl ?_ ?_
 rotate_left 2
 ·go_simp
  constructor
  ·rfl
  ·rfl
 refine hK.out _ _ ⟨(blk_cell (blk_alloc ak.1 _) 0).trans rfl, (blk_cell (blk_alloc ak.1 _) 1).trans rfl, (World.cell?_alloc_lt _ _ _ (World.block_lt_of_cell? _ _ (hHeld.2.2))).trans (hHeld.2.2)⟩ (fun hHeld => ?_)
 clear hK K
 refine nm_ 72 ?_
 refine on HT_.1 13 (some 73) rfl fun K hK => ?_
 refine Kd.R_append_step (Kd.int .i64) (w0 := w) w.heap.size (by rfl) (.tmp 69) (.tmp 72) 39 3 (.int .i64 0) 8 rfl Try.underlying39 info3 rfl (by decide) (by omega) (.slice a6 (rd_L11 au (ap)).length bc) (rd_L11 au (ap)) ((rd_T55 ((rd_T48 ab aa).f2) ah).f0) [.int .i64 ((rd_T55 ((rd_T48 ab aa).f2) ah).f0)] (fun k_ => cG k_ ∨ ((fun _ => True)) k_ ∧ fK.heap.size ≤ k_) (fun _ => False) rfl rfl ?aP (fun _ hk => hk.elim) ?aF ?aO ?aB ?aS ?aL ?_
 (case aP => exact rfl)
 (case aB => exact pbg)
 (case aF => exact (fun k_ hk => .inr ⟨trivial, hk⟩))
 (case aO => exact (by (with_reducible repeat (first | apply Kd.R_alloc | apply Kd.R_drewN | apply Kd.R_drew)); exact Kd.R_mono b2.1 (fun _ hk => .inl hk)))
 (case aS => exact (below_size pbg))
 (case aL => have := dp.1; omega)
 intro fD fR ho hb hg hat
 (first | have HS2_ := cell_grown hg (hHeld.2.2) (by first | (rw [add_block]; exact (fun e_ => ((ao.1.1 _ e_.symm).2) rfl)) | (show some (Addr.add _ _).block ≠ _; rw [add_block]; exact (fun e_ => ((ao.1.1 _ e_.symm).2) rfl)) | exact (fun e_ => ((ao.1.1 _ e_.symm).2) rfl)) | have HS2_ := cell_grown hg (cell_unalloc (hHeld.2.2) (by first | (rw [add_block]; exact Kd.S_lt ag.1 _ rfl) | (show (Addr.add _ _).block < _; rw [add_block]; exact Kd.S_lt ag.1 _ rfl) | exact Kd.S_lt ag.1 _ rfl)) (by first | (rw [add_block]; exact (fun e_ => ((ao.1.1 _ e_.symm).2) rfl)) | (show some (Addr.add _ _).block ≠ _; rw [add_block]; exact (fun e_ => ((ao.1.1 _ e_.symm).2) rfl)) | exact (fun e_ => ((ao.1.1 _ e_.symm).2) rfl)))
 rw [← du.1] at ho
 have n0_ := (bgr ac hg (Kd.R_ne ao.1 ac.1 (by decide)))
 have n1_ := (bgr af hg (Kd.R_ne ao.1 af.1 (by decide)))
 have n2_ := (bgr ak hg (Kd.R_ne ao.1 ak.1 (by decide)))
 have n3_ := am hb
 have n4_ := am (Kd.H_grown (Kd.H_widen (by repeat (first | exact a8.1 | refine Kd.H_alloc ?_ _ | refine Kd.H_drewN ?_ _ | refine Kd.H_drew ?_))) hg (fun k_ e_ => .inl (b2.1.1 k_ e_)))
 have n5_ := am ho
 clear ac af ak HB a8 ag b2 ao
 have ac := n0_
 have af := n1_
 have ak := n2_
 have HB := n3_
 have a8 := n4_
 have ck := n5_
 clear n0_ n1_ n2_ n3_ n4_ n5_ ho hb hg hat
 have fd : 0 ≤ ((ap) : Int) := dq
 have fe : ((ap) : Int) < ((au.length : Int) : Int) := dq
 replace fd := eq_true fd
 replace fe := eq_true fe
 obtain ⟨ea, em, dI⟩ := Kd.R_slice ck.1
 (first | subst dI | (injection dI with f1_ f2_ f3_; have f4_ := f1_.symm; have f5_ := f3_.symm; clear f1_ f2_ f3_; subst f4_; subst f5_))
 obtain ⟨_, _, aW, _, _, cy, _⟩ := Kd.H_raw a8.1 (dq) (by have h_ : ((ap) : Int) < ((au.length : Int) : Int) := dq; first | exact h_ | (have e_ := (cK.1); omega) | simpa using h_)
 obtain ⟨_, cA⟩ := Kd.H_at a8.1 (dq) (by have h_ : ((ap) : Int) < ((au.length : Int) : Int) := dq; first | exact h_ | (have e_ := (cK.1); omega) | simpa using h_)
 have bO := cy 0 _ rfl
 have bI := cA 0
 (try simp only [Nat.add_zero] at bO bI)
 (try rw [show ((Kd.slice 3 (Kd.int .i64))).sz = 1 from rfl, Nat.mul_one] at bO)
 (try rw [show ((Kd.slice 3 (Kd.int .i64))).sz = 1 from rfl, Nat.mul_one] at bI)
 have cM := Kd.S_seg0 a8.1 (dq) (by have h_ : ((ap) : Int) < ((au.length : Int) : Int) := dq; first | exact h_ | (have e_ := (cK.1); omega) | simpa using h_) (seg := [.slice ea cg.length em]) (j := 0) (show 1 ≤ 1 from by decide) (x' := cg) (Kd.M_row ck.1) (fun _ hk => hk)
 (try simp only [show ((Kd.slice 3 (Kd.int .i64))).sz = 1 from rfl, Nat.mul_one, Nat.add_zero] at cM)
 clear cy cA
 have HNB148_go56 := am (show aC ≠ bE from by have h_ := Kd.R_ne aW ac.1 (by decide); intro e_; exact h_ (by rw [e_]; rfl))
 have HNB154_go56 := am (show aE ≠ bE from by have h_ := Kd.R_ne aW af.1 (by decide); intro e_; exact h_ (by rw [e_]; rfl))
 have HNB163_go56 := am (show ar ≠ bE from by have h_ := Kd.R_ne aW ak.1 (by decide); intro e_; exact h_ (by rw [e_]; rfl))
 have cO := cM.1
 rw [← dv.1] at cO
 have ef := am cO
 obtain ⟨_, cC⟩ := Kd.R_typed aW bE rfl
 have GG58_ := am cC
 clear cM cO cC
 refine hK.out _ _ ⟨(blk_cell ak.1 0).trans rfl, (blk_cell ak.1 1).trans rfl, HS2_⟩ (fun hHeld => ?_)
 clear hK K
 refine nm_ 73 ?_
 refine pu HT_.1 14 74 ?_
 refine la HT_.1 15 none rfl fun K hK => ?_
 refine skip_ (w1 := ?_) (by rfl) rfl ?_ ?_
 rotate_left
 ·go_simp
  rfl
 refine hK.out _ _ ?_
 clear hK K
 refine done_ (done_of HT_.1 (by kernel_rfl)) ?_
 try go_wp2
 go_roundg k3
 case measure => have := db.1; have := dc.1; have := d1.1; omega
 case rel => exact ⟨(dV), (wrap64 (ah + 1)), prs, H', ⟨by have := db.1; have := dc.1; have := d1.1; omega⟩, ⟨pks ef.1⟩, ⟨by (with_reducible repeat (first | refine blk_drewN ?_ _ | refine blk_drew ?_ | refine blk_alloc ?_ _)); refine blk_far ?_ HNB148_go56.1 _; exact pbk ac.1⟩, ⟨by (with_reducible repeat (first | refine blk_drewN ?_ _ | refine blk_drew ?_ | refine blk_alloc ?_ _)); refine blk_far ?_ HNB154_go56.1 _; exact pbk af.1⟩, ⟨pbg⟩⟩

/-! ### workflow_onPath: function 40 -/
def workflow_onPath.l0 : Nat → List Bool → List Bool → Int → Int → Option (List Bool)
 | 0, _, _, _, _ => none
 | k + 1, x8, bA, b1, aK => if aK < b1 then (if 0 ≤ aK then (if aK < (bA.length : Int) then (if aK < (x8.length : Int) then (if rdOf false x8 aK = true then (workflow_onPath.l0 k (x8.set (aK : Int).toNat (rdOf false bA aK)) bA b1 (wrap64 (aK + 1))) else (workflow_onPath.l0 k (x8.set (aK : Int).toNat false) bA b1 (wrap64 (aK + 1)))) else (none)) else (none)) else (none)) else (some x8)
def workflow_onPath.f (k : Nat) (az : ByteArray) (ap : List (S52)) (aq : List (S48)) (a1 : Int) (a2 : Int) : Option (List Bool) := (netclass_Flow.f k az ap aq).bind fun av => ((digraph_Reach.f k av (([a1] : List Int))).bind fun aw => ((digraph_Reverse.f k av).bind fun ax => ((digraph_Reach.f k ax (([a2] : List Int))).bind fun ac => (workflow_onPath.l0 k aw ac (ac.length : Int) 0))))
theorem workflow_onPath.mono_l : ∀ k, M4 workflow_onPath.l0 k
 | 0 => fun _ _ _ _ r h => by simp [workflow_onPath.l0] at h
 | k + 1 => by
  have bQ := workflow_onPath.mono_l k
  ·intro y0 y1 y2 y3
   unfold workflow_onPath.l0
   repeat' first | (with_reducible first | apply bQ | apply digraph_Reach.mono | apply digraph_Reverse.mono | apply netclass_Flow.mono | apply lr | apply ln | apply li | refine lb ?_ fun _ => ?_)
theorem workflow_onPath.mono : ∀ a0 a1 a2 a3 a4 k, LeO (workflow_onPath.f k a0 a1 a2 a3 a4) (workflow_onPath.f (k + 1) a0 a1 a2 a3 a4) := by
 intro a0 a1 a2 a3 a4 k
 have bQ := workflow_onPath.mono_l k
 unfold workflow_onPath.f
 repeat' first | (with_reducible first | apply bQ | apply digraph_Reach.mono | apply digraph_Reverse.mono | apply netclass_Flow.mono | apply lr | apply ln | apply li | refine lb ?_ fun _ => ?_)
set_option maxHeartbeats 8000000 in
set_option maxRecDepth 100000 in
theorem workflow_onPath.calls (k : Nat) (az : ByteArray) (aT : Option Addr) (aX : Nat) (ap : List (S52)) (aU : Option Addr) (aY : Nat) (aq : List (S48)) (a1 : Int) (a2 : Int) (r : List Bool) (w : World) (aR : Kd.C k52 w aT ap.length ap) (aP : ap.length ≤ aX) (aS : Kd.C k48 w aU aq.length aq) (aQ : aq.length ≤ aY) (h : workflow_onPath.f k az ap aq a1 a2 = some r) :
  Calls Try.prog 40 #[.agg #[.string az, .slice aT ap.length aX, .slice aU aq.length aY], .int .i64 a1, .int .i64 a2] w fun e w' => ∃ v0_ : Value, e = .returned (v0_) ∧ Kd.R Kd.bool 4 w' w.heap.size (fun _ => True) v0_ r ∧ Below w.heap.size w w' := by
 have cr := Try.underlying25
 have bh := am aR
 have bc := am aP
 clear aR aP
 have bi := am aS
 have bd := am aQ
 clear aS aQ
 have HB := am (Below.refl w.heap.size w)
 have H := h
 unfold workflow_onPath.f at H
 clear h
 replace H := bnd H
 obtain ⟨av, A4, H⟩ := H
 (try dsimp only at H)
 obtain ⟨bv, aG⟩ : ∃ y_ : List Int, y_ = (([a1] : List Int)) := ⟨_, rfl⟩
 replace H : ((digraph_Reach.f k av bv).bind fun aw => ((digraph_Reverse.f k av).bind fun ax => ((digraph_Reach.f k ax (([a2] : List Int))).bind fun ac => (workflow_onPath.l0 k aw ac (ac.length : Int) 0)))) = some r := hrp aG H
 have aN := am aG
 clear aG
 replace H := bnd H
 obtain ⟨aw, A5, H⟩ := H
 (try dsimp only at H)
 replace H := bnd H
 obtain ⟨ax, A6, H⟩ := H
 (try dsimp only at H)
 obtain ⟨bw, aH⟩ : ∃ y_ : List Int, y_ = (([a2] : List Int)) := ⟨_, rfl⟩
 replace H : ((digraph_Reach.f k ax bw).bind fun ac => (workflow_onPath.l0 k aw ac (ac.length : Int) 0)) = some r := hrp aH H
 have aO := am aH
 clear aH
 replace H := bnd H
 obtain ⟨ac, A7, H⟩ := H
 (try dsimp only at H)
 have H' := am H
 clear H
 go_enter Try.func40, Try.ntmps40
 go_wp2_with (first | ((with_reducible refine gate_dst (N := 3) rfl ?_); refine box_ev ?_; intro bq hg w8 hbox hb; have ab := am hbox; have bb := gwl hg; have b2 := bb; replace HB := bsl hb; clear hb hbox hg; have z9 := cf3 ab.1) | ((with_reducible refine gate_callee (f := 55) rfl ?_); refine gC 12 Try.func55 _ (netclass_Flow.calls k az _ _ ap _ _ aq av _ (csb bh HB) bc.1 (csb bi HB) bd.1 A4.1) ?_; rintro e cA ⟨cu, rfl, aA, hb⟩; refine ⟨_, rfl, ?_⟩; have ae := am (Kd.S_lower aA (below_size pbg)); replace ab := bbh ab hb; replace HB := bst hb; (try clear hb); (try clear aA)) | ((with_reducible refine gate_dst (N := 15) rfl ?_); refine Kd.R_lit (Kd.int .i64) _ 3 ?hg (N := 15) ?hd (xs := ([a1] : List Int)) (inner := [.int .i64 a1]) (ok := fun _ => True) (okp := fun _ => True) ?hr ?hp (fun _ hk => hk) trivial (Below.refl _ _) (Nat.le_refl _) (by simp) ?_; (case hd => rfl); (case hg => rfl); (case hr => first | (go_simp; done) | (go_simp; rfl)); (case hp => exact (Reps.one (show Kd.M (Kd.int .i64) _ _ _ a1 [.int .i64 a1] from rfl) (Reps.none _ _))); intro cv cB aB hb hg_ hnew_; clear hg_ hnew_; (first | rw [← aN.1] at aB | (simp only [Int.reduceToNat] at aB; rw [← aN.1] at aB)); have af := am (Kd.R_lower aB (below_size pbg)); replace ae := am (Kd.S_elder' (pks ae.1) (Kd.R_base aB) hb); replace ab := bbh ab hb; replace HB := bst hb; clear hb aB; obtain ⟨b9, ck, bD⟩ := Kd.S_slice ae.1; subst bD; obtain ⟨ca, cm, bE⟩ := Kd.R_slice af.1; subst bE) | ((with_reducible refine gate_callee (f := 63) rfl ?_); refine gC 16 Try.func63 _ (digraph_Reach.calls k _ _ av _ _ bv aw _ (csd ((Kd.S_reads' ae.1).2.2)) ((Kd.S_reads' ae.1).2.1) (csd ((Kd.R_reads' af.1).2.2)) ((Kd.R_reads' af.1).2.1) A5.1) ?_; rintro e cC ⟨bu, rfl, aA, hb⟩; refine ⟨_, rfl, ?_⟩; have aj := am (Kd.R_lower aA (below_size pbg)); replace ae := sbw ae hb; replace af := rbw af hb; replace ab := bbh ab hb; replace HB := bst hb; (try clear hb); (try clear aA)) | ((with_reducible refine gate_callee (f := 64) rfl ?_); refine gC 18 Try.func64 _ (digraph_Reverse.calls k _ _ av ax _ (csd ((Kd.S_reads' ae.1).2.2)) ((Kd.S_reads' ae.1).2.1) A6.1) ?_; rintro e cD ⟨cw, rfl, aA, hb⟩; refine ⟨_, rfl, ?_⟩; have al := am (Kd.S_lower (Kd.S_new' (Kd.S_new' aA (Kd.S_lt (pks ae.1))) (Kd.R_lt (pkr af.1))) (below_size pbg)); replace ae := am (Kd.S_elder' (pks ae.1) (Kd.S_base aA) hb); replace af := rbw af hb; replace aj := rbw aj hb; replace ab := bbh ab hb; replace HB := bst hb; (try clear hb); (try clear aA)) | ((with_reducible refine gate_dst (N := 20) rfl ?_); refine Kd.R_lit (Kd.int .i64) _ 3 ?hg (N := 20) ?hd (xs := ([a2] : List Int)) (inner := [.int .i64 a2]) (ok := fun _ => True) (okp := fun _ => True) ?hr ?hp (fun _ hk => hk) trivial (Below.refl _ _) (Nat.le_refl _) (by simp) ?_; (case hd => rfl); (case hg => rfl); (case hr => first | (go_simp; done) | (go_simp; rfl)); (case hp => exact (Reps.one (show Kd.M (Kd.int .i64) _ _ _ a2 [.int .i64 a2] from rfl) (Reps.none _ _))); intro cx cE au hb hg_ hnew_; clear hg_ hnew_; (first | rw [← aO.1] at au | (simp only [Int.reduceToNat] at au; rw [← aO.1] at au)); have ar := am (Kd.R_lower (Kd.R_new' au (Kd.R_lt (pkr af.1))) (below_size pbg)); replace ae := am (Kd.S_elder' (pks ae.1) (Kd.R_base au) hb); replace af := am (Kd.R_elder' (pkr af.1) (Kd.R_base au) hb); replace aj := rbw aj hb; replace al := am (Kd.S_elder' (pks al.1) (Kd.R_base au) hb); replace ab := bbh ab hb; replace HB := bst hb; clear hb au; obtain ⟨cb, cn, bF⟩ := Kd.S_slice al.1; subst bF; obtain ⟨cd, co, bG⟩ := Kd.R_slice ar.1; subst bG) | ((with_reducible refine gate_callee (f := 63) rfl ?_); refine gC 21 Try.func63 _ (digraph_Reach.calls k _ _ ax _ _ bw ac _ (csd ((Kd.S_reads' al.1).2.2)) ((Kd.S_reads' al.1).2.1) (csd ((Kd.R_reads' ar.1).2.2)) ((Kd.R_reads' ar.1).2.1) A7.1) ?_; rintro e cF ⟨cy, rfl, aA, hb⟩; refine ⟨_, rfl, ?_⟩; have aM := am (Kd.R_lower (Kd.R_new' aA (Kd.R_lt (pkr aj.1))) (below_size pbg)); replace ae := sbw ae hb; replace af := rbw af hb; replace aj := am (Kd.R_elder' (pkr aj.1) (Kd.R_base aA) hb); replace al := sbw al hb; replace ar := rbw ar hb; replace ab := bbh ab hb; replace HB := bst hb; (try clear hb); (try clear aA); obtain ⟨ba, aL, bH⟩ := Kd.R_slice aM.1; subst bH))
 go_loopg [23] k (fun kq cz w' => ∃ (ah : List Bool) (aa : Int), cz = .int .i64 aa ∧ Aside0 (workflow_onPath.l0 kq ah ac (ac.length : Int) aa = some r) ∧ Aside0 (kq ≤ k) ∧ Aside0 (Kd.R Kd.bool 4 w' w.heap.size (fun k_ => some k_ ≠ ((.slice ba ac.length aL) : Value).ownBlock) bu ah) ∧ Aside0 (Kd.R Kd.bool 4 w' w.heap.size (fun k_ => some k_ ≠ (bu : Value).ownBlock) (.slice ba ac.length aL) ac) ∧ Aside0 (w'.heap[bq]? = some (.cells #[.string az, (.slice aT ap.length aX), (.slice aU aq.length aY)] 25 (0, 0))) ∧ Aside0 (Below w.heap.size w w'))
 case atStart => exact ⟨(aw), (0), prs, H', ⟨Nat.le_refl _⟩, ⟨by (with_reducible repeat (first | apply Kd.R_alloc | apply Kd.R_drewN | apply Kd.R_drew)); exact Kd.R_mono aj.1 (fun _ hk => hk.2)⟩, ⟨by (with_reducible repeat (first | apply Kd.R_alloc | apply Kd.R_drewN | apply Kd.R_drew)); exact Kd.R_mono aM.1 (fun _ hk => hk.2)⟩, ⟨pbk ab.1⟩, ⟨pbg⟩⟩
 clear H'
 try clear z9
 obtain ⟨ah, aa, rfl, HA, bx, ag, ak, ab, HB⟩ := hrel
 obtain _ | k1 := gk
 ·exact absurd HA.1 (by simp [workflow_onPath.l0])
 have H := HA.1
 clear HA
 simp only [workflow_onPath.l0] at H
 replace H := ifl H
 rcases H with ⟨bn, H⟩ | ⟨bn, H⟩
 rotate_left
 ·obtain rfl := Option.some.inj H
  go_wp2
  go_ret
  exact ⟨_, per, by (with_reducible repeat (first | apply Kd.R_alloc | apply Kd.R_drewN | apply Kd.R_drew)); exact Kd.R_mono ag.1 (fun _ hk => trivial), pbg⟩
 replace H := ifp H
 obtain ⟨b3, H⟩ := H
 have b4 := decide_eq_true b3
 clear b3
 replace H := ifp H
 obtain ⟨b5, H⟩ := H
 have b6 := decide_eq_true b5
 clear b5
 replace H := ifp H
 obtain ⟨b7, H⟩ := H
 have b8 := decide_eq_true b7
 clear b7
 obtain ⟨bm, aF⟩ : ∃ b_ : Bool, b_ = (rdOf false ah aa) := ⟨_, rfl⟩
 replace H : (if bm = true then (workflow_onPath.l0 k1 (ah.set (aa : Int).toNat (rdOf false ac aa)) ac (ac.length : Int) (wrap64 (aa + 1))) else (workflow_onPath.l0 k1 (ah.set (aa : Int).toNat false) ac (ac.length : Int) (wrap64 (aa + 1)))) = some r := by rw [← aF] at H; exact H
 have ay := am aF
 clear aF
 by_cases bz : bm = true
 ·subst bz
  rw [if_pos rfl] at H
  obtain ⟨a8, aI⟩ : ∃ y_ : List Bool, y_ = (ah.set (aa : Int).toNat (rdOf false ac aa)) := ⟨_, rfl⟩
  replace H : (workflow_onPath.l0 k1 a8 ac (ac.length : Int) (wrap64 (aa + 1))) = some r := hrp aI H
  have bj := am aI
  clear aI
  have H' := am H
  clear H
  obtain ⟨bR, bV, aC, a6, ao⟩ := dbool (Kd.R_reads' ak.1).2.2 aa
  (try rw [← ay.1] at ao)
  cases a6
  obtain ⟨ce, aZ, bI⟩ := Kd.R_slice ag.1
  subst bI
  obtain ⟨bS, bW, bl, a7, ai⟩ := dbool (Kd.R_reads' ag.1).2.2 aa
  (try rw [← ay.1] at ai)
  cases a7
  have bT : 0 ≤ (aa : Int) := dq
  have bX : (aa : Int) < ((ah.length : Int) : Int) := dq
  obtain ⟨aD, cp, bo, br, bK, ci, bf⟩ := Kd.R_form ag.1 (by omega)
  (first | cases bo | (injection bo with ea_ en_ ec_; (first | subst ea_ | (injection ea_ with ea_; subst ea_)); subst ec_; clear en_))
  have bB := am br
  have cg := am bf
  clear br bK bf
  (first | simp only [add_plain] at ai | skip)
  obtain ⟨bO, bM⟩ := Kd.R_celln false ag.1 (aa : Int) bT bX
  replace bT := eq_true bT
  replace bX := eq_true bX
  have aV := Kd.R_putg ag.1 (aa : Int) (rdOf false ac aa)
  go_wp2_with (first | ((with_reducible refine gate_store (t := 4) (p := 37) rfl ?_); refine store_event (t := 4) (p := 37) (v := ?vo_w32) (w1 := (wr.setCell ⟨aD, (aa : Int).toNat, none⟩ (.bool (rdOf false ac aa)))) ?hg ?ho ?hn ?hr ?_; (case ho => rfl); (case hg => rfl); (case hn => rfl); (case hr => first | (go_simp; done) | (go_simp; rfl)); intro bZ hw; have hg : wr.grownBy bZ (some aD) := (by rw [hw]; exact aV.2); have hp_ : Kd.R Kd.bool 4 bZ w.heap.size (fun k_ => some k_ ≠ (.slice (some aC) ac.length aL : Value).ownBlock) (.slice (some ⟨aD, 0, none⟩) ah.length aZ) a8 := (by rw [hw, bj.1]; exact aV.1); clear aV; replace ak := am (Kd.R_after (v := (.slice (some ⟨aD, 0, none⟩) ah.length aZ)) (v1 := (.slice (some ⟨aD, 0, none⟩) ah.length aZ)) (ok := (fun _ => True)) (by (with_reducible repeat (first | apply Kd.R_alloc | apply Kd.R_drewN | apply Kd.R_drew)); exact Kd.R_mono ak.1 (fun _ hk => ⟨trivial, hk⟩)) hg (.inl rfl)); replace ab := (bgr ab hg (Kd.R_ne ag.1 ab.1 (by decide))); replace ag := am hp_; replace HB := am ((by rw [hw]; exact below_set (HB.1) bB.1 : Below w.heap.size w bZ)); clear hg hw hp_))
  go_roundg k1
  case measure => have := bx.1; omega
  case rel => exact ⟨(a8), (wrap64 (aa + 1)), prs, H', ⟨by have := bx.1; omega⟩, ⟨pkr ag.1⟩, ⟨by (with_reducible repeat (first | apply Kd.R_alloc | apply Kd.R_drewN | apply Kd.R_drew)); exact Kd.R_mono ak.1 (fun _ hk => hk.2)⟩, ⟨pbk ab.1⟩, ⟨pbg⟩⟩
 replace bz := Bool.eq_false_iff.mpr bz
 subst bz
 rw [if_neg Bool.false_ne_true] at H
 obtain ⟨a9, aJ⟩ : ∃ y_ : List Bool, y_ = (ah.set (aa : Int).toNat false) := ⟨_, rfl⟩
 replace H : (workflow_onPath.l0 k1 a9 ac (ac.length : Int) (wrap64 (aa + 1))) = some r := hrp aJ H
 have bk := am aJ
 clear aJ
 have H' := am H
 clear H
 obtain ⟨bR, bV, aC, a6, ao⟩ := dbool (Kd.R_reads' ak.1).2.2 aa
 (try rw [← ay.1] at ao)
 cases a6
 obtain ⟨cf, a5, bJ⟩ := Kd.R_slice ag.1
 subst bJ
 obtain ⟨bS, bW, bl, a7, ai⟩ := dbool (Kd.R_reads' ag.1).2.2 aa
 (try rw [← ay.1] at ai)
 cases a7
 have bU : 0 ≤ (aa : Int) := dq
 have bY : (aa : Int) < ((ah.length : Int) : Int) := dq
 obtain ⟨aE, cq, bp, bs, bL, cj, bg⟩ := Kd.R_form ag.1 (by omega)
 (first | cases bp | (injection bp with ea_ en_ ec_; (first | subst ea_ | (injection ea_ with ea_; subst ea_)); subst ec_; clear en_))
 have bC := am bs
 have ch := am bg
 clear bs bL bg
 (first | simp only [add_plain] at ai | skip)
 obtain ⟨bP, bN⟩ := Kd.R_celln false ag.1 (aa : Int) bU bY
 replace bU := eq_true bU
 replace bY := eq_true bY
 have aW := Kd.R_putg ag.1 (aa : Int) false
 go_wp2_with (first | ((with_reducible refine gate_store (t := 4) (p := 37) rfl ?_); refine store_event (t := 4) (p := 37) (v := ?vo_w36) (w1 := (wr.setCell ⟨aE, (aa : Int).toNat, none⟩ (.bool false))) ?hg ?ho ?hn ?hr ?_; (case ho => rfl); (case hg => rfl); (case hn => rfl); (case hr => first | (go_simp; done) | (go_simp; rfl)); intro b0 hw; have hg : wr.grownBy b0 (some aE) := (by rw [hw]; exact aW.2); have hp_ : Kd.R Kd.bool 4 b0 w.heap.size (fun k_ => some k_ ≠ (.slice (some aC) ac.length aL : Value).ownBlock) (.slice (some ⟨aE, 0, none⟩) ah.length a5) a9 := (by rw [hw, bk.1]; exact aW.1); clear aW; replace ak := am (Kd.R_after (v := (.slice (some ⟨aE, 0, none⟩) ah.length a5)) (v1 := (.slice (some ⟨aE, 0, none⟩) ah.length a5)) (ok := (fun _ => True)) (by (with_reducible repeat (first | apply Kd.R_alloc | apply Kd.R_drewN | apply Kd.R_drew)); exact Kd.R_mono ak.1 (fun _ hk => ⟨trivial, hk⟩)) hg (.inl rfl)); replace ab := (bgr ab hg (Kd.R_ne ag.1 ab.1 (by decide))); replace ag := am hp_; replace HB := am ((by rw [hw]; exact below_set (HB.1) bC.1 : Below w.heap.size w b0)); clear hg hw hp_))
 go_roundg k1
 case measure => have := bx.1; omega
 case rel => exact ⟨(a9), (wrap64 (aa + 1)), prs, H', ⟨by have := bx.1; omega⟩, ⟨pkr ag.1⟩, ⟨by (with_reducible repeat (first | apply Kd.R_alloc | apply Kd.R_drewN | apply Kd.R_drew)); exact Kd.R_mono ak.1 (fun _ hk => hk.2)⟩, ⟨pbk ab.1⟩, ⟨pbg⟩⟩

/-! ### net_Place: function 31 -/
def net_Place.l0 : Nat → ByteArray → List (S52) → Int → Int → Option (Int)
 | 0, _, _, _, _ => none
 | k + 1, x1, x11, x12, x13 => if x13 < x12 then (if 0 ≤ x13 then (if x13 < (x11.length : Int) then (if ((rd_T52 x11 x13).f0).toList = x1.toList then (some x13) else (net_Place.l0 k x1 x11 x12 (wrap64 (x13 + 1)))) else (none)) else (none)) else (some (-1))
def net_Place.f (k : Nat) (ah : ByteArray) (ab : List (S52)) (ag : List (S48)) (a1 : ByteArray) : Option (Int) := (net_valid.f k ah ab ag).bind fun aH => (if aH = true then (net_Place.l0 k a1 ab (ab.length : Int) 0) else (some (-1)))
theorem net_Place.mono_l : ∀ k, M4 net_Place.l0 k
 | 0 => fun _ _ _ _ r h => by simp [net_Place.l0] at h
 | k + 1 => by
  have aP := net_Place.mono_l k
  ·intro y0 y1 y2 y3
   unfold net_Place.l0
   repeat' first | (with_reducible first | apply aP | apply net_valid.mono | apply lr | apply ln | apply li | refine lb ?_ fun _ => ?_)
theorem net_Place.mono : ∀ a0 a1 a2 a3 k, LeO (net_Place.f k a0 a1 a2 a3) (net_Place.f (k + 1) a0 a1 a2 a3) := by
 intro a0 a1 a2 a3 k
 have aP := net_Place.mono_l k
 unfold net_Place.f
 repeat' first | (with_reducible first | apply aP | apply net_valid.mono | apply lr | apply ln | apply li | refine lb ?_ fun _ => ?_)
set_option maxHeartbeats 8000000 in
set_option maxRecDepth 100000 in
theorem net_Place.calls (k : Nat) (ah : ByteArray) (aB : Option Addr) (aD : Nat) (ab : List (S52)) (aC : Option Addr) (aE : Nat) (ag : List (S48)) (a1 : ByteArray) (r : Int) (w : World) (az : Kd.C k52 w aB ab.length ab) (ax : ab.length ≤ aD) (aA : Kd.C k48 w aC ag.length ag) (ay : ag.length ≤ aE) (h : net_Place.f k ah ab ag a1 = some r) :
  Calls Try.prog 31 #[.agg #[.string ah, .slice aB ab.length aD, .slice aC ag.length aE], .string a1] w fun e w' => e = .returned (.int .i64 r) ∧ Below w.heap.size w w' := by
 have a4 := Try.underlying25
 have a5 := Try.underlying52
 have ai := am az
 have ar := am ax
 clear az ax
 have av := am aA
 have au := am ay
 clear aA ay
 have HB := am (Below.refl w.heap.size w)
 have H := h
 unfold net_Place.f at H
 clear h
 replace H := bnd H
 obtain ⟨aH, A3, H⟩ := H
 (try dsimp only at H)
 cases aH
 ·rw [if_neg Bool.false_ne_true] at H
  obtain rfl := Option.some.inj H
  go_enter Try.func31, Try.ntmps31
  go_wp2_with (first | ((with_reducible refine gate_dst (N := 2) rfl ?_); refine box_ev ?_; intro aw hg a9 hbox hb; have aa := am hbox; have ak := gwl hg; have aI := ak; replace HB := bsl hb; clear hb hbox hg; have bd := cf3 aa.1) | ((with_reducible refine gate_callee (f := 52) rfl ?_); refine gC 8 Try.func52 _ (net_valid.calls k ah _ _ ab _ _ ag false _ (csb ai HB) ar.1 (csb av HB) au.1 A3.1) ?_; rintro e ba ⟨rfl, hb⟩; refine ⟨_, rfl, ?_⟩; replace aa := bbh aa hb; replace HB := bst hb; (try clear hb)))
  go_ret
  exact ⟨per, pbg⟩
 rw [if_pos rfl] at H
 have H' := am H
 clear H
 go_enter Try.func31, Try.ntmps31
 go_wp2_with (first | ((with_reducible refine gate_dst (N := 2) rfl ?_); refine box_ev ?_; intro aw hg w5 hbox hb; have aa := am hbox; have ak := gwl hg; have aI := ak; replace HB := bsl hb; clear hb hbox hg; have z6 := cf3 aa.1) | ((with_reducible refine gate_callee (f := 52) rfl ?_); refine gC 8 Try.func52 _ (net_valid.calls k ah _ _ ab _ _ ag true _ (csb ai HB) ar.1 (csb av HB) au.1 A3.1) ?_; rintro e w7 ⟨rfl, hb⟩; refine ⟨_, rfl, ?_⟩; replace aa := bbh aa hb; replace HB := bst hb; (try clear hb); have z8 := cf3 aa.1))
 go_loopg [13] k (fun kq a6 w' => ∃ (ac : Int), a6 = .int .i64 ac ∧ Aside0 (net_Place.l0 kq a1 ab (ab.length : Int) ac = some r) ∧ Aside0 (kq ≤ k) ∧ Aside0 (w'.heap[aw]? = some (.cells #[.string ah, (.slice aB ab.length aD), (.slice aC ag.length aE)] 25 (0, 0))) ∧ Aside0 (Below w.heap.size w w'))
 case atStart => exact ⟨(0), prs, H', ⟨Nat.le_refl _⟩, ⟨pbk aa.1⟩, ⟨pbg⟩⟩
 clear H'
 try clear z6 z8
 obtain ⟨ac, rfl, HA, aS, aa, HB⟩ := hrel
 obtain _ | k1 := gk
 ·exact absurd HA.1 (by simp [net_Place.l0])
 have H := HA.1
 clear HA
 simp only [net_Place.l0] at H
 replace H := ifl H
 rcases H with ⟨aO, H⟩ | ⟨aO, H⟩
 rotate_left
 ·obtain rfl := Option.some.inj H
  go_wp2
  go_ret
  exact ⟨per, pbg⟩
 replace H := ifp H
 obtain ⟨c10, H⟩ := H
 have aT := decide_eq_true c10
 clear c10
 replace H := ifp H
 obtain ⟨aU, H⟩ := H
 have aV := decide_eq_true aU
 clear aU
 by_cases aF : ((rd_T52 ab ac).f0).toList = a1.toList
 ·rw [if_pos aF] at H
  have aL : (((rd_T52 ab ac).f0).toList == a1.toList) = true := beq_iff_eq.mpr aF
  have aM : (((rd_T52 ab ac).f0).toList != a1.toList) = false := bne_eq_false_iff_eq.mpr aF
  clear aF
  obtain rfl := Option.some.inj H
  obtain ⟨aQ, aR, aK, aG, ao, ap, aq⟩ := bT52 ai.1 HB.1 ac
  cases aG
  go_wp2_with (first | ((with_reducible refine gate_dst (N := 6) rfl ?_); refine box_ev (N := 6) (cs := #[.string (⟨#[]⟩ : ByteArray), .int .i64 0, .int .i64 0]) (t := 52) ?_; intro aN hg a7 hbox hb; have aj := am hbox; have al := gwb hg; have aJ := al; have ae := nlt hg aa; have af := ngt hg aa; replace aa := bbh aa hb; replace HB := bst hb; clear hb hbox hg; have aW := af.1; have aY := ae.1; have bb := cf3 aj.1))
  go_ret
  exact ⟨per, pbg⟩
 rw [if_neg aF] at H
 have aL : (((rd_T52 ab ac).f0).toList == a1.toList) = false := beq_eq_false_iff_ne.mpr aF
 have aM : (((rd_T52 ab ac).f0).toList != a1.toList) = true := bne_iff_ne.mpr aF
 have H' := am H
 clear H
 obtain ⟨aQ, aR, aK, aG, ao, ap, aq⟩ := bT52 ai.1 HB.1 ac
 cases aG
 go_wp2_with (first | ((with_reducible refine gate_dst (N := 6) rfl ?_); refine box_ev (N := 6) (cs := #[.string (⟨#[]⟩ : ByteArray), .int .i64 0, .int .i64 0]) (t := 52) ?_; intro aN hg a8 hbox hb; have aj := am hbox; have al := gwb hg; have aJ := al; have ae := nlt hg aa; have af := ngt hg aa; replace aa := bbh aa hb; replace HB := bst hb; clear hb hbox hg; have aX := af.1; have aZ := ae.1; have bc := cf3 aj.1))
 go_roundg k1
 case measure => have := aS.1; omega
 case rel => exact ⟨(wrap64 (ac + 1)), prs, H', ⟨by have := aS.1; omega⟩, ⟨by (with_reducible repeat (first | refine blk_drewN ?_ _ | refine blk_drew ?_ | refine blk_alloc ?_ _)); refine bf3 ?_ ae.1; exact pbk aa.1⟩, ⟨pbg⟩⟩

/-! ### net_Trans: function 32 -/
def net_Trans.l0 : Nat → ByteArray → List (S48) → Int → Int → Option (Int)
 | 0, _, _, _, _ => none
 | k + 1, x1, x11, x12, x13 => if x13 < x12 then (if 0 ≤ x13 then (if x13 < (x11.length : Int) then (if ((rd_T48 x11 x13).f0).toList = x1.toList then (some x13) else (net_Trans.l0 k x1 x11 x12 (wrap64 (x13 + 1)))) else (none)) else (none)) else (some (-1))
def net_Trans.f (k : Nat) (ah : ByteArray) (ag : List (S52)) (ab : List (S48)) (a1 : ByteArray) : Option (Int) := (net_valid.f k ah ag ab).bind fun aV => (if aV = true then (net_Trans.l0 k a1 ab (ab.length : Int) 0) else (some (-1)))
theorem net_Trans.mono_l : ∀ k, M4 net_Trans.l0 k
 | 0 => fun _ _ _ _ r h => by simp [net_Trans.l0] at h
 | k + 1 => by
  have a7 := net_Trans.mono_l k
  ·intro y0 y1 y2 y3
   unfold net_Trans.l0
   repeat' first | (with_reducible first | apply a7 | apply net_valid.mono | apply lr | apply ln | apply li | refine lb ?_ fun _ => ?_)
theorem net_Trans.mono : ∀ a0 a1 a2 a3 k, LeO (net_Trans.f k a0 a1 a2 a3) (net_Trans.f (k + 1) a0 a1 a2 a3) := by
 intro a0 a1 a2 a3 k
 have a7 := net_Trans.mono_l k
 unfold net_Trans.f
 repeat' first | (with_reducible first | apply a7 | apply net_valid.mono | apply lr | apply ln | apply li | refine lb ?_ fun _ => ?_)
set_option maxHeartbeats 8000000 in
set_option maxRecDepth 100000 in
theorem net_Trans.calls (k : Nat) (ah : ByteArray) (aJ : Option Addr) (aO : Nat) (ag : List (S52)) (aK : Option Addr) (aP : Nat) (ab : List (S48)) (a1 : ByteArray) (r : Int) (w : World) (aH : Kd.C k52 w aJ ag.length ag) (aF : ag.length ≤ aO) (aI : Kd.C k48 w aK ab.length ab) (aG : ab.length ≤ aP) (h : net_Trans.f k ah ag ab a1 = some r) :
  Calls Try.prog 32 #[.agg #[.string ah, .slice aJ ag.length aO, .slice aK ab.length aP], .string a1] w fun e w' => e = .returned (.int .i64 r) ∧ Below w.heap.size w w' := by
 have bj := Try.underlying25
 have bk := Try.underlying48
 have aD := am aH
 have aB := am aF
 clear aH aF
 have ai := am aI
 have aC := am aG
 clear aI aG
 have HB := am (Below.refl w.heap.size w)
 have H := h
 unfold net_Trans.f at H
 clear h
 replace H := bnd H
 obtain ⟨aV, A3, H⟩ := H
 (try dsimp only at H)
 cases aV
 ·rw [if_neg Bool.false_ne_true] at H
  obtain rfl := Option.some.inj H
  go_enter Try.func32, Try.ntmps32
  go_wp2_with (first | ((with_reducible refine gate_dst (N := 2) rfl ?_); refine box_ev ?_; intro aE hg bo hbox hb; have aa := am hbox; have ak := gwl hg; have aW := ak; replace HB := bsl hb; clear hb hbox hg; have bs := cf3 aa.1) | ((with_reducible refine gate_callee (f := 52) rfl ?_); refine gC 8 Try.func52 _ (net_valid.calls k ah _ _ ag _ _ ab false _ (csb aD HB) aB.1 (csb ai HB) aC.1 A3.1) ?_; rintro e bp ⟨rfl, hb⟩; refine ⟨_, rfl, ?_⟩; replace aa := bbh aa hb; replace HB := bst hb; (try clear hb)))
  go_ret
  exact ⟨per, pbg⟩
 rw [if_pos rfl] at H
 have H' := am H
 clear H
 go_enter Try.func32, Try.ntmps32
 go_wp2_with (first | ((with_reducible refine gate_dst (N := 2) rfl ?_); refine box_ev ?_; intro aE hg w5 hbox hb; have aa := am hbox; have ak := gwl hg; have aW := ak; replace HB := bsl hb; clear hb hbox hg; have z6 := cf3 aa.1) | ((with_reducible refine gate_callee (f := 52) rfl ?_); refine gC 8 Try.func52 _ (net_valid.calls k ah _ _ ag _ _ ab true _ (csb aD HB) aB.1 (csb ai HB) aC.1 A3.1) ?_; rintro e w7 ⟨rfl, hb⟩; refine ⟨_, rfl, ?_⟩; replace aa := bbh aa hb; replace HB := bst hb; (try clear hb); have z8 := cf3 aa.1))
 go_loopg [13] k (fun kq bl w' => ∃ (ac : Int), bl = .int .i64 ac ∧ Aside0 (net_Trans.l0 kq a1 ab (ab.length : Int) ac = some r) ∧ Aside0 (kq ≤ k) ∧ Aside0 (w'.heap[aE]? = some (.cells #[.string ah, (.slice aJ ag.length aO), (.slice aK ab.length aP)] 25 (0, 0))) ∧ Aside0 (Below w.heap.size w w'))
 case atStart => exact ⟨(0), prs, H', ⟨Nat.le_refl _⟩, ⟨pbk aa.1⟩, ⟨pbg⟩⟩
 clear H'
 try clear z6 z8
 obtain ⟨ac, rfl, HA, ba, aa, HB⟩ := hrel
 obtain _ | k1 := gk
 ·exact absurd HA.1 (by simp [net_Trans.l0])
 have H := HA.1
 clear HA
 simp only [net_Trans.l0] at H
 replace H := ifl H
 rcases H with ⟨a6, H⟩ | ⟨a6, H⟩
 rotate_left
 ·obtain rfl := Option.some.inj H
  go_wp2
  go_ret
  exact ⟨per, pbg⟩
 replace H := ifp H
 obtain ⟨c10, H⟩ := H
 have bb := decide_eq_true c10
 clear c10
 replace H := ifp H
 obtain ⟨bc, H⟩ := H
 have bd := decide_eq_true bc
 clear bc
 by_cases aQ : ((rd_T48 ab ac).f0).toList = a1.toList
 ·rw [if_pos aQ] at H
  have aZ : (((rd_T48 ab ac).f0).toList == a1.toList) = true := beq_iff_eq.mpr aQ
  have a4 : (((rd_T48 ab ac).f0).toList != a1.toList) = false := bne_eq_false_iff_eq.mpr aQ
  clear aQ
  obtain rfl := Option.some.inj H
  obtain ⟨a8, a9, aY, aL, aR, aM, aS, aN, aT, aU, aw, ax, ay, az, aA, ao, ar, ap, au, aq, av⟩ := bT48 ai.1 HB.1 ac
  cases aU
  go_wp2_with (first | ((with_reducible refine gate_dst (N := 6) rfl ?_); refine box_ev (N := 6) (cs := #[.string (⟨#[]⟩ : ByteArray), .slice none 0 0, .slice none 0 0, .slice none 0 0, .int .i64 0]) (t := 48) ?_; intro a5 hg bm hbox hb; have aj := am hbox; have al := gwb hg; have aX := al; have ae := nlt hg aa; have af := ngt hg aa; replace aa := bbh aa hb; replace HB := bst hb; clear hb hbox hg; have bf := af.1; have bh := ae.1; have bq := cf5 aj.1))
  go_ret
  exact ⟨per, pbg⟩
 rw [if_neg aQ] at H
 have aZ : (((rd_T48 ab ac).f0).toList == a1.toList) = false := beq_eq_false_iff_ne.mpr aQ
 have a4 : (((rd_T48 ab ac).f0).toList != a1.toList) = true := bne_iff_ne.mpr aQ
 have H' := am H
 clear H
 obtain ⟨a8, a9, aY, aL, aR, aM, aS, aN, aT, aU, aw, ax, ay, az, aA, ao, ar, ap, au, aq, av⟩ := bT48 ai.1 HB.1 ac
 cases aU
 go_wp2_with (first | ((with_reducible refine gate_dst (N := 6) rfl ?_); refine box_ev (N := 6) (cs := #[.string (⟨#[]⟩ : ByteArray), .slice none 0 0, .slice none 0 0, .slice none 0 0, .int .i64 0]) (t := 48) ?_; intro a5 hg bn hbox hb; have aj := am hbox; have al := gwb hg; have aX := al; have ae := nlt hg aa; have af := ngt hg aa; replace aa := bbh aa hb; replace HB := bst hb; clear hb hbox hg; have bg := af.1; have bi := ae.1; have br := cf5 aj.1))
 go_roundg k1
 case measure => have := ba.1; omega
 case rel => exact ⟨(wrap64 (ac + 1)), prs, H', ⟨by have := ba.1; omega⟩, ⟨by (with_reducible repeat (first | refine blk_drewN ?_ _ | refine blk_drew ?_ | refine blk_alloc ?_ _)); refine bf5 ?_ ae.1; exact pbk aa.1⟩, ⟨pbg⟩⟩

/-! ### net_Producers: function 29 -/
-- IMPORTS Derived.RegionTactic,Derived.BigRegion,Derived.Laws.EntriesVeiled
theorem arcs_Producers (w : World) (s : ByteArray) (v1 v2 v3 : Value) (x : Int) : Calls Try.prog 50 #[.agg #[.string s, v1, v2, v3, .int .i64 x]] w fun e w' => e = .returned v2 ∧ Below w.heap.size w w' := by
 have hu := Try.underlying48
 obtain ⟨c0, c1, c2, c3, c4⟩ := trans_facts (alloc_new w (.cells #[.string s, v1, v2, v3, .int .i64 x] 48))
 go_enter Try.func50, Try.ntmps50
 go_wp2
 go_ret
 exact ⟨rfl, below_alloc (Below.refl _ _) _⟩
def net_Producers.l0 : Nat → List S48 → Int → List Int → Int → Option (List Int)
 | 0, _, _, _, _ => none
 | k + 1, l2, p, out, i => if i < (l2.length : Int) then (if 0 ≤ i then ((net_weight.f k (rd_T48 l2 i).f2 p).bind fun t => if t > 0 then (if out.length < 17592186044416 then net_Producers.l0 k l2 p (out ++ [i]) (wrap64 (i + 1)) else none) else net_Producers.l0 k l2 p out (wrap64 (i + 1))) else none) else some out
def net_Producers.f (k : Nat) (ac : ByteArray) (ab : List (S52)) (aa : List (S48)) (a1 : Int) : Option (List Int) := (net_valid.f k ac ab aa).bind fun t => if t = true then net_Producers.l0 k aa a1 [] 0 else some []
theorem net_Producers.mono_l : ∀ k y0 y1 y2 y3, LeO (net_Producers.l0 k y0 y1 y2 y3) (net_Producers.l0 (k + 1) y0 y1 y2 y3)
 | 0 => fun _ _ _ _ r h => by simp [net_Producers.l0] at h
 | k + 1 => by
  have aK := net_Producers.mono_l k
  intro y0 y1 y2 y3
  unfold net_Producers.l0
  repeat' first | exact aK _ _ _ _ | exact net_weight.mono _ _ _ | exact LeO.refl _ | exact LeO.none _ | refine LeO.ite ?_ ?_ | refine LeO.bind (net_weight.mono _ _ _) (fun _ => ?_)
theorem net_Producers.mono : ∀ a0 a1 a2 a3 k, LeO (net_Producers.f k a0 a1 a2 a3) (net_Producers.f (k + 1) a0 a1 a2 a3) := by
 intro a0 a1 a2 a3 k
 unfold net_Producers.f
 exact LeO.bind (net_valid.mono _ _ _ _) (fun _ => LeO.ite (net_Producers.mono_l k _ _ _ _) (LeO.refl _))
set_option maxHeartbeats 4000000 in
set_option maxRecDepth 100000 in
theorem users_Producers (k : Nat) (ac : ByteArray) (ae : Option Addr) (ag : Nat) (ab : List (S52)) (af : Option Addr) (ah : Nat) (aa : List (S48)) (a1 : Int) (r : List Int) (w : World) (ak : Kd.C k52 w ae ab.length ab) (ai : ab.length ≤ ag) (al : Kd.C k48 w af aa.length aa) (aj : aa.length ≤ ah) (h : net_Producers.f k ac ab aa a1 = some r) :
  Calls Try.prog 49 #[.agg #[.string ac, .slice ae ab.length ag, .slice af aa.length ah], .int .i64 a1, .func (.func 50) #[] #[]] w fun e w' => ∃ v0_ : Value, e = .returned (v0_) ∧ Kd.R (Kd.int .i64) 3 w' w.heap.size (fun _ => True) v0_ r ∧ Below w.heap.size w w' := by
 have aJ := Try.underlying25
 have hu2 := Try.underlying48
 have ax := Aside0.mk ak
 have av := Aside0.mk ai
 have ar := Aside0.mk al
 have aw := Aside0.mk aj
 clear ak ai al aj
 unfold net_Producers.f at h
 obtain ⟨t, ht, h⟩ := Option.bind_eq_some_iff.mp h
 have HV := Aside0.mk ht
 have HX := Aside0.mk (alloc_new w (.cells #[.string ac, .slice ae ab.length ag, .slice af aa.length ah] 25))
 have HB := Aside0.mk (show Below w.heap.size w (w.alloc (.cells #[.string ac, .slice ae ab.length ag, .slice af aa.length ah] 25)) from below_alloc (Below.refl _ _) _)
 obtain ⟨ay, az, aA⟩ := net_facts HX.out
 clear ht
 cases t with
 | false =>
  rw [if_neg Bool.false_ne_true] at h
  obtain rfl := Option.some.inj h
  go_enter Try.func49, Try.ntmps49
  go_wp2_with (first | (go_at_call 52; refine (net_valid.calls k _ _ _ _ _ _ _ _ _ (Kd.C_below ax.out HB.out) av.out (Kd.C_below ar.out HB.out) aw.out HV.out).mono ?_; rintro e w3 ⟨rfl, hb⟩; have ap := Aside0.mk (HB.out.trans (hb.mono HB.out.size)); clear hb))
  go_ret
  exact ⟨_, rfl, Kd.R_nil _ _ _ _ _, ap.out⟩
 | true =>
  rw [if_pos rfl] at h
  have H := Aside0.mk h
  clear h
  go_enter Try.func49, Try.ntmps49
  go_wp2_with (first | (go_at_call 52; refine (net_valid.calls k _ _ _ _ _ _ _ _ _ (Kd.C_below ax.out HB.out) av.out (Kd.C_below ar.out HB.out) aw.out HV.out).mono ?_; rintro e w3 ⟨rfl, hb⟩; have ap := Aside0.mk (HB.out.trans (hb.mono HB.out.size)); obtain ⟨aG, aH, aI⟩ := net_facts (blk_below HX.out hb); clear hb))
  clear aG aH aI ay az aA HX HB HV
  go_loopg [7, 16] k (fun kq v7 aM w' => ∃ (i : Int) (out : List Int), aM = .int .i64 i ∧ Aside0 (net_Producers.l0 kq aa a1 out i = some r) ∧ Aside0 (kq ≤ k) ∧ Aside0 (Kd.R (Kd.int .i64) 3 w' w.heap.size (fun _ => True) v7 out) ∧ Aside0 (Below w.heap.size w w'))
  case atStart => exact ⟨0, [], rfl, H, ⟨Nat.le_refl _⟩, ⟨Kd.R_nil _ _ _ _ _⟩, ap⟩
  case round =>
   clear H ap
   obtain ⟨i, out, rfl, HA, HJ, HO, HB⟩ := hrel
   cases gk with
   | zero => exact absurd HA.out (by simp [net_Producers.l0])
   | succ k1 =>
   have H := HA.out
   clear HA
   simp only [net_Producers.l0] at H
   by_cases d1 : i < (aa.length : Int)
   case neg =>
    rw [if_neg d1] at H
    have d1b : decide (i < (aa.length : Int)) = false := decide_eq_false d1
    obtain rfl := Option.some.inj H
    clear d1
    go_wp2
    go_ret
    exact ⟨_, rfl, HO.out, HB.out⟩
   rw [if_pos d1] at H
   have d1b : decide (i < (aa.length : Int)) = true := decide_eq_true d1
   by_cases d2 : 0 ≤ i
   case neg => rw [if_neg d2] at H; cases H
   rw [if_pos d2] at H
   obtain ⟨t, ht, H⟩ := Option.bind_eq_some_iff.mp H
   have HT := Aside0.mk ht
   clear ht
   obtain ⟨ad, A1, c1, A2, c2, A3, c3, eA, y0, y1, y2, y3, y4, m1, g1, m2, g2, m3, g3⟩ := at_T48 ar.out i d2 d1
   subst eA
   have u0 := pw_cell_below HB.out y0
   have u1 := pw_cell_below HB.out y1
   have u2 := pw_cell_below HB.out y2
   have u3 := pw_cell_below HB.out y3
   have u4 := pw_cell_below HB.out y4
   clear y0 y1 y2 y3 y4
   have M := Aside0.mk m2
   have G := Aside0.mk g2
   clear m1 m2 m3 g1 g2 g3
   have q1 : (0 ≤ i) = True := eq_true d2
   have q2 : (i < (aa.length : Int)) = True := eq_true d1
   have HPl := Aside0.mk (alloc_new wr (.cells #[.string (rd_T48 aa i).f0, .slice A1 (rd_T48 aa i).f1.length c1, .slice A2 (rd_T48 aa i).f2.length c2, .slice A3 (rd_T48 aa i).f3.length c3, .int .i64 (rd_T48 aa i).f4] 48))
   have au := Aside0.mk (show Below wr.heap.size wr (wr.alloc (.cells #[.string (rd_T48 aa i).f0, .slice A1 (rd_T48 aa i).f1.length c1, .slice A2 (rd_T48 aa i).f2.length c2, .slice A3 (rd_T48 aa i).f3.length c3, .int .i64 (rd_T48 aa i).f4] 48)) from below_alloc (Below.refl _ _) _)
   obtain ⟨v0, v1, v2, v3, v4⟩ := trans_facts HPl.out
   have HM := Aside0.mk (show (aa.length : Int) ≤ 9223372036854775807 by have := ar.out.2.1; omega)
   by_cases d3 : t > 0
   ·rw [if_pos d3] at H
    have d3b : decide (0 < t) = true := decide_eq_true d3
    by_cases d4 : out.length < 17592186044416
    case neg => rw [if_neg d4] at H; cases H
    rw [if_pos d4, show wrap64 (i + 1) = i + 1 by have := HM.out; unfold wrap64; omega] at H
    have H' := Aside0.mk H
    have D4 := Aside0.mk d4
    clear H d3 d4
    go_wp2_with (first
     | (go_at_call 50; refine (arcs_Producers _ _ _ _ _ _).mono ?_; rintro e w4 ⟨rfl, hb⟩; have ao := Aside0.mk (au.out.trans (hb.mono au.out.size)); clear hb)
     | (go_at_call 71; refine (net_weight.calls k1 _ _ _ _ _ _ (Kd.C_below G.out (HB.out.trans (ao.out.mono HB.out.size))) M.out HT.out).mono ?_; rintro e w5 ⟨rfl, hb⟩; have aq := Aside0.mk (ao.out.trans (hb.mono ao.out.size)); have aD := Aside0.mk (Kd.R_below HO.out aq.out); clear hb)
     | ((with_reducible refine gate_builtin (b := .append) (xs := #[.tmp 27, .tmp 29]) rfl ?_); at_builtin; refine Kd.R_append (Kd.int .i64) (w0 := w) w.heap.size rfl (.tmp 27) (.tmp 29) 39 3 (.int .i64 0) 8 rfl Try.underlying39 info3 rfl (by decide) (by omega) _ out i [.int .i64 i] (fun _ => True) (fun _ => False) rfl rfl ?aP (fun _ hk => hk.elim) ?aF ?aO ?aB ?aS ?aL ?_; (case aP => exact rfl); (case aF => exact (fun _ _ => trivial)); (case aO => exact aD.out); (case aB => exact (HB.out.trans (aq.out.mono HB.out.size))); (case aS => exact Nat.le_trans HB.out.size aq.out.size); (case aL => have := D4.out; omega); intro v2 w2 ho hb hg hat; have aE := Aside0.mk ho; have aC := Aside0.mk hb; clear ho hb hg hat))
    go_roundg k1
    case measure => have := HJ.out; omega
    case rel => exact ⟨_, _, (by congr 1; have := HM.out; (first | omega | (unfold wrap64; omega) | (show wrap64 _ = _; unfold wrap64; omega))), H', ⟨by have := HJ.out; omega⟩, aE, aC⟩
   ·rw [if_neg d3, show wrap64 (i + 1) = i + 1 by have := HM.out; unfold wrap64; omega] at H
    have d3b : decide (0 < t) = false := decide_eq_false d3
    have H' := Aside0.mk H
    clear H d3
    go_wp2_with (first
     | (go_at_call 50; refine (arcs_Producers _ _ _ _ _ _).mono ?_; rintro e w4 ⟨rfl, hb⟩; have ao := Aside0.mk (au.out.trans (hb.mono au.out.size)); clear hb)
     | (go_at_call 71; refine (net_weight.calls k1 _ _ _ _ _ _ (Kd.C_below G.out (HB.out.trans (ao.out.mono HB.out.size))) M.out HT.out).mono ?_; rintro e w5 ⟨rfl, hb⟩; have aq := Aside0.mk (ao.out.trans (hb.mono ao.out.size)); clear hb))
    go_roundg k1
    case measure => have := HJ.out; omega
    case rel => exact ⟨_, _, (by congr 1; have := HM.out; (first | omega | (unfold wrap64; omega) | (show wrap64 _ = _; unfold wrap64; omega))), H', ⟨by have := HJ.out; omega⟩, ⟨Kd.R_below HO.out aq.out⟩, ⟨HB.out.trans (aq.out.mono HB.out.size)⟩⟩
theorem net_Producers.calls (k : Nat) (ac : ByteArray) (ae : Option Addr) (ag : Nat) (ab : List (S52)) (af : Option Addr) (ah : Nat) (aa : List (S48)) (a1 : Int) (r : List Int) (w : World) (ak : Kd.C k52 w ae ab.length ab) (ai : ab.length ≤ ag) (al : Kd.C k48 w af aa.length aa) (aj : aa.length ≤ ah) (h : net_Producers.f k ac ab aa a1 = some r) :
  Calls Try.prog 29 #[.agg #[.string ac, .slice ae ab.length ag, .slice af aa.length ah], .int .i64 a1] w fun e w' => ∃ v0_ : Value, e = .returned (v0_) ∧ Kd.R (Kd.int .i64) 3 w' w.heap.size (fun _ => True) v0_ r ∧ Below w.heap.size w w' := by
 have aJ := Try.underlying25
 have HB := Aside0.mk (show Below w.heap.size w (w.alloc (.cells #[.string ac, .slice ae ab.length ag, .slice af aa.length ah] 25)) from below_alloc (Below.refl _ _) _)
 have ax := Aside0.mk (Kd.C_below ak HB.out)
 have av := Aside0.mk ai
 have ar := Aside0.mk (Kd.C_below al HB.out)
 have aw := Aside0.mk aj
 have H := Aside0.mk h
 obtain ⟨ay, az, aA⟩ := net_facts (alloc_new w (.cells #[.string ac, .slice ae ab.length ag, .slice af aa.length ah] 25))
 clear ak ai al aj h
 go_enter Try.func29, Try.ntmps29
 go_wp2_with (first | (go_at_call 49; refine (users_Producers k _ _ _ _ _ _ _ _ _ _ ax.out av.out ar.out aw.out H.out).mono ?_; rintro e w3 ⟨v3, rfl, ho, hb⟩; have HO := Aside0.mk (Kd.R_lower ho HB.out.size); have ap := Aside0.mk (HB.out.trans (hb.mono HB.out.size)); clear ho hb))
 go_ret
 exact ⟨_, rfl, HO.out, ap.out⟩

/-! ### workflow_only_Producers: function 98 -/
def workflow_only_Producers.l0 : Nat → Int → Int → Int → ByteArray → List (S52) → List (S48) → Option (Int × Bool)
 | 0, _, _, _, _, _, _ => none
 | k + 1, x6, x14, x15, ah, ai, aj => if x15 < x14 then ((net_Producers.f k ah ai aj x15).bind fun ag => (if (ag.length : Int) > 0 then (workflow_only_Producers.l0 k x6 x14 (wrap64 (x15 + 1)) ah ai aj) else (if x6 ≥ 0 then (some ((-1), false)) else (workflow_only_Producers.l0 k x15 x14 (wrap64 (x15 + 1)) ah ai aj)))) else (some (x6, decide (x6 ≥ 0)))
def workflow_only_Producers.f (k : Nat) (af : ByteArray) (ab : List (S52)) (ac : List (S48)) : Option (Int × Bool) := (net_Check.f k af ab ac).bind fun aG => (if aG.1 = 0 then (workflow_only_Producers.l0 k (-1) (ab.length : Int) 0 af ab ac) else (some ((-1), false)))
theorem workflow_only_Producers.mono_l : ∀ k, M6 workflow_only_Producers.l0 k
 | 0 => fun _ _ _ _ _ _ r h => by simp [workflow_only_Producers.l0] at h
 | k + 1 => by
  have aV := workflow_only_Producers.mono_l k
  ·intro y0 y1 y2 y3 y4 y5
   unfold workflow_only_Producers.l0
   repeat' first | (with_reducible first | apply aV | apply net_Check.mono | apply net_Producers.mono | apply lr | apply ln | apply li | refine lb ?_ fun _ => ?_)
theorem workflow_only_Producers.mono : ∀ a0 a1 a2 k, LeO (workflow_only_Producers.f k a0 a1 a2) (workflow_only_Producers.f (k + 1) a0 a1 a2) := by
 intro a0 a1 a2 k
 have aV := workflow_only_Producers.mono_l k
 unfold workflow_only_Producers.f
 repeat' first | (with_reducible first | apply aV | apply net_Check.mono | apply net_Producers.mono | apply lr | apply ln | apply li | refine lb ?_ fun _ => ?_)
set_option maxHeartbeats 8000000 in
set_option maxRecDepth 100000 in
theorem workflow_only_Producers.calls (k : Nat) (af : ByteArray) (aB : Option Addr) (aD : Nat) (ab : List (S52)) (aC : Option Addr) (aE : Nat) (ac : List (S48)) (r1 : Int) (r2 : Bool) (w : World) (az : Kd.C k52 w aB ab.length ab) (aw : ab.length ≤ aD) (aA : Kd.C k48 w aC ac.length ac) (ax : ac.length ≤ aE) (h : workflow_only_Producers.f k af ab ac = some (r1, r2)) :
  Calls Try.prog 35 #[.agg #[.string af, .slice aB ab.length aD, .slice aC ac.length aE], .func (.func 29) #[] #[]] w fun e w' => e = .returned (.tuple #[.int .i64 r1, .bool r2]) ∧ Below w.heap.size w w' := by
 have aU : ∀ (x0 x1 : Value) (W : World), (Instr.field 60 (.agg #[x0, x1]) 0).run Try.prog W = .ok x0 W := fun x0 x1 W => by kernel_rfl
 have a5 := Try.underlying25
 have ap := am az
 have ak := am aw
 clear az aw
 have aq := am aA
 have al := am ax
 clear aA ax
 have HB := am (Below.refl w.heap.size w)
 have H := h
 unfold workflow_only_Producers.f at H
 clear h
 replace H := bnd H
 obtain ⟨⟨aM, aN⟩, A2, H⟩ := H
 (try dsimp only at H)
 replace H := ife H
 rcases H with ⟨aK, aL, H⟩ | ⟨aK, aL, H⟩
 rotate_left
 ·simp only [Option.some.injEq, Prod.mk.injEq] at H
  obtain ⟨rfl, rfl⟩ := H
  go_enter Try.func35, Try.ntmps35
  go_wp2_with (first | ((with_reducible refine gate_dst (N := 2) rfl ?_); refine box_ev ?_; intro av hg ba hbox hb; have aa := am hbox; have ar := gwl hg; have aF := ar; replace HB := bsl hb; clear hb hbox hg; have bg := cf3 aa.1) | ((with_reducible refine gate_callee (f := 37) rfl ?_); refine gC 9 Try.func37 _ (net_Check.calls k af _ _ ab _ _ ac aM aN _ (csb ap HB) ak.1 (csb aq HB) al.1 A2.1) ?_; rintro e bb ⟨rfl, hb⟩; refine ⟨_, rfl, ?_⟩; replace aa := bbh aa hb; replace HB := bst hb; (try clear hb)))
  go_ret2
  exact ⟨per, pbg⟩
 have H' := am H
 clear H
 go_enter Try.func35, Try.ntmps35
 go_wp2_with (first | ((with_reducible refine gate_dst (N := 2) rfl ?_); refine box_ev ?_; intro av hg w4 hbox hb; have aa := am hbox; have ar := gwl hg; have aF := ar; replace HB := bsl hb; clear hb hbox hg; have z5 := cf3 aa.1) | ((with_reducible refine gate_callee (f := 37) rfl ?_); refine gC 9 Try.func37 _ (net_Check.calls k af _ _ ab _ _ ac aM aN _ (csb ap HB) ak.1 (csb aq HB) al.1 A2.1) ?_; rintro e w6 ⟨rfl, hb⟩; refine ⟨_, rfl, ?_⟩; replace aa := bbh aa hb; replace HB := bst hb; (try clear hb); have z7 := cf3 aa.1))
 go_loopg [6, 15] k (fun kq v6 a6 w' => ∃ (au : Int) (ae : Int), v6 = .int .i64 au ∧ a6 = .int .i64 ae ∧ Aside0 (workflow_only_Producers.l0 kq au (ab.length : Int) ae af ab ac = some (r1, r2)) ∧ Aside0 (kq ≤ k) ∧ Aside0 (w'.heap[av]? = some (.cells #[.string af, (.slice aB ab.length aD), (.slice aC ac.length aE)] 25 (0, 0))) ∧ Aside0 (Below w.heap.size w w'))
 case atStart => exact ⟨((-1)), (0), prs, prs, H', ⟨Nat.le_refl _⟩, ⟨pbk aa.1⟩, ⟨pbg⟩⟩
 clear H'
 try clear aK aL z5 z7
 obtain ⟨au, ae, rfl, rfl, HA, aP, aa, HB⟩ := hrel
 obtain _ | k1 := gk
 ·exact absurd HA.1 (by simp [workflow_only_Producers.l0])
 have H := HA.1
 clear HA
 simp only [workflow_only_Producers.l0] at H
 replace H := ifl H
 rcases H with ⟨aQ, H⟩ | ⟨aQ, H⟩
 rotate_left
 ·simp only [Option.some.injEq, Prod.mk.injEq] at H
  obtain ⟨rfl, rfl⟩ := H
  go_wp2
  go_ret2
  exact ⟨per, pbg⟩
 replace H := bnd H
 obtain ⟨ag, A9, H⟩ := H
 (try dsimp only at H)
 by_cases c10 : (ag.length : Int) > 0
 ·rw [if_pos c10] at H
  have aH : decide (0 < (ag.length : Int)) = true := decide_eq_true c10
  have aI : decide (0 < ag.length) = true := decide_eq_true (by omega)
  clear c10
  have H' := am H
  clear H
  have bc := cf3 aa.1
  go_wp2_with (first | (go_at_call 29; (with_reducible refine (net_Producers.calls k1 af _ _ ab _ _ ac ae ag _ ?side1 ?side2 ?side3 ?side4 A9.1).mono ?_); (case side1 => exact csb ap HB); (case side2 => exact ak.1); (case side3 => exact csb aq HB); (case side4 => exact al.1); rintro e a7 ⟨aO, rfl, ay, hb⟩; have ao := am (Kd.R_lower ay (below_size pbg)); replace aa := bbh aa hb; replace HB := bst hb; (try clear hb); (try clear ay); obtain ⟨aW, aZ, aR⟩ := Kd.R_slice ao.1; subst aR))
  go_roundg k1
  case measure => have := aP.1; omega
  case rel => exact ⟨(au), (wrap64 (ae + 1)), prs, prs, H', ⟨by have := aP.1; omega⟩, ⟨pbk aa.1⟩, ⟨pbg⟩⟩
 rw [if_neg c10] at H
 have aH : decide (0 < (ag.length : Int)) = false := decide_eq_false c10
 have aI : decide (0 < ag.length) = false := decide_eq_false (by omega)
 clear c10
 replace H := ifh H
 rcases H with ⟨aJ, H⟩ | ⟨aJ, H⟩
 ·simp only [Option.some.injEq, Prod.mk.injEq] at H
  obtain ⟨rfl, rfl⟩ := H
  have bd := cf3 aa.1
  go_wp2_with (first | (go_at_call 29; (with_reducible refine (net_Producers.calls k1 af _ _ ab _ _ ac ae ag _ ?side1 ?side2 ?side3 ?side4 A9.1).mono ?_); (case side1 => exact csb ap HB); (case side2 => exact ak.1); (case side3 => exact csb aq HB); (case side4 => exact al.1); rintro e a8 ⟨aO, rfl, ay, hb⟩; have ao := am (Kd.R_lower ay (below_size pbg)); replace aa := bbh aa hb; replace HB := bst hb; (try clear hb); (try clear ay); obtain ⟨aX, a3, aS⟩ := Kd.R_slice ao.1; subst aS))
  go_ret2
  exact ⟨per, pbg⟩
 have H' := am H
 clear H
 have bf := cf3 aa.1
 go_wp2_with (first | (go_at_call 29; (with_reducible refine (net_Producers.calls k1 af _ _ ab _ _ ac ae ag _ ?side1 ?side2 ?side3 ?side4 A9.1).mono ?_); (case side1 => exact csb ap HB); (case side2 => exact ak.1); (case side3 => exact csb aq HB); (case side4 => exact al.1); rintro e a9 ⟨aO, rfl, ay, hb⟩; have ao := am (Kd.R_lower ay (below_size pbg)); replace aa := bbh aa hb; replace HB := bst hb; (try clear hb); (try clear ay); obtain ⟨aY, a4, aT⟩ := Kd.R_slice ao.1; subst aT))
 go_roundg k1
 case measure => have := aP.1; omega
 case rel => exact ⟨(ae), (wrap64 (ae + 1)), prs, prs, H', ⟨by have := aP.1; omega⟩, ⟨pbk aa.1⟩, ⟨pbg⟩⟩

/-! ### workflow_Source: function 12 -/
def workflow_Source.f (k : Nat) (ae : ByteArray) (aa : List (S52)) (ab : List (S48)) : Option (Int × Bool) := (workflow_only_Producers.f k ae aa ab).bind fun af => (some (af.1, af.2))
theorem workflow_Source.mono : ∀ a0 a1 a2 k, LeO (workflow_Source.f k a0 a1 a2) (workflow_Source.f (k + 1) a0 a1 a2) := by
 intro a0 a1 a2 k
 unfold workflow_Source.f
 repeat' first | (with_reducible first | apply workflow_only_Producers.mono | apply lr | apply ln | apply li | refine lb ?_ fun _ => ?_)
set_option maxHeartbeats 8000000 in
set_option maxRecDepth 100000 in
theorem workflow_Source.calls (k : Nat) (ae : ByteArray) (ak : Option Addr) (av : Nat) (aa : List (S52)) (al : Option Addr) (aw : Nat) (ab : List (S48)) (r1 : Int) (r2 : Bool) (w : World) (ai : Kd.C k52 w ak aa.length aa) (ag : aa.length ≤ av) (aj : Kd.C k48 w al ab.length ab) (ah : ab.length ≤ aw) (h : workflow_Source.f k ae aa ab = some (r1, r2)) :
  Calls Try.prog 12 #[.agg #[.string ae, .slice ak aa.length av, .slice al ab.length aw]] w fun e w' => e = .returned (.tuple #[.int .i64 r1, .bool r2]) ∧ Below w.heap.size w w' := by
 have aB := Try.underlying25
 have ar := am ai
 have ap := am ag
 clear ai ag
 have au := am aj
 have aq := am ah
 clear aj ah
 have HB := am (Below.refl w.heap.size w)
 have H := h
 unfold workflow_Source.f at H
 clear h
 replace H := bnd H
 obtain ⟨⟨ax, ay⟩, A2, H⟩ := H
 (try dsimp only at H)
 simp only [Option.some.injEq, Prod.mk.injEq] at H
 obtain ⟨rfl, rfl⟩ := H
 go_enter Try.func12, Try.ntmps12
 go_wp2_with (first | ((with_reducible refine gate_dst (N := 1) rfl ?_); refine box_ev ?_; intro aA hg w3 hbox hb; have ac := am hbox; have ao := gwl hg; have az := ao; replace HB := bsl hb; clear hb hbox hg; have z4 := cf3 ac.1) | ((with_reducible refine gate_callee (f := 35) rfl ?_); refine gC 5 Try.func35 _ (workflow_only_Producers.calls k ae _ _ aa _ _ ab ax ay _ (csb ar HB) ap.1 (csb au HB) aq.1 A2.1) ?_; rintro e w5 ⟨rfl, hb⟩; refine ⟨_, rfl, ?_⟩; replace ac := bbh ac hb; replace HB := bst hb; (try clear hb)))
 go_ret2
 exact ⟨per, pbg⟩

/-! ### net_Consumers: function 30 -/
-- IMPORTS Derived.RegionTactic,Derived.BigRegion,Derived.Laws.EntriesVeiled
theorem arcs_Consumers (w : World) (s : ByteArray) (v1 v2 v3 : Value) (x : Int) : Calls Try.prog 51 #[.agg #[.string s, v1, v2, v3, .int .i64 x]] w fun e w' => e = .returned v1 ∧ Below w.heap.size w w' := by
 have hu := Try.underlying48
 obtain ⟨c0, c1, c2, c3, c4⟩ := trans_facts (alloc_new w (.cells #[.string s, v1, v2, v3, .int .i64 x] 48))
 go_enter Try.func51, Try.ntmps51
 go_wp2
 go_ret
 exact ⟨rfl, below_alloc (Below.refl _ _) _⟩
def net_Consumers.l0 : Nat → List S48 → Int → List Int → Int → Option (List Int)
 | 0, _, _, _, _ => none
 | k + 1, l2, p, out, i => if i < (l2.length : Int) then (if 0 ≤ i then ((net_weight.f k (rd_T48 l2 i).f1 p).bind fun t => if t > 0 then (if out.length < 17592186044416 then net_Consumers.l0 k l2 p (out ++ [i]) (wrap64 (i + 1)) else none) else net_Consumers.l0 k l2 p out (wrap64 (i + 1))) else none) else some out
def net_Consumers.f (k : Nat) (ac : ByteArray) (ab : List (S52)) (aa : List (S48)) (a1 : Int) : Option (List Int) := (net_valid.f k ac ab aa).bind fun t => if t = true then net_Consumers.l0 k aa a1 [] 0 else some []
theorem net_Consumers.mono_l : ∀ k y0 y1 y2 y3, LeO (net_Consumers.l0 k y0 y1 y2 y3) (net_Consumers.l0 (k + 1) y0 y1 y2 y3)
 | 0 => fun _ _ _ _ r h => by simp [net_Consumers.l0] at h
 | k + 1 => by
  have aK := net_Consumers.mono_l k
  intro y0 y1 y2 y3
  unfold net_Consumers.l0
  repeat' first | exact aK _ _ _ _ | exact net_weight.mono _ _ _ | exact LeO.refl _ | exact LeO.none _ | refine LeO.ite ?_ ?_ | refine LeO.bind (net_weight.mono _ _ _) (fun _ => ?_)
theorem net_Consumers.mono : ∀ a0 a1 a2 a3 k, LeO (net_Consumers.f k a0 a1 a2 a3) (net_Consumers.f (k + 1) a0 a1 a2 a3) := by
 intro a0 a1 a2 a3 k
 unfold net_Consumers.f
 exact LeO.bind (net_valid.mono _ _ _ _) (fun _ => LeO.ite (net_Consumers.mono_l k _ _ _ _) (LeO.refl _))
set_option maxHeartbeats 4000000 in
set_option maxRecDepth 100000 in
theorem users_Consumers (k : Nat) (ac : ByteArray) (ae : Option Addr) (ag : Nat) (ab : List (S52)) (af : Option Addr) (ah : Nat) (aa : List (S48)) (a1 : Int) (r : List Int) (w : World) (ak : Kd.C k52 w ae ab.length ab) (ai : ab.length ≤ ag) (al : Kd.C k48 w af aa.length aa) (aj : aa.length ≤ ah) (h : net_Consumers.f k ac ab aa a1 = some r) :
  Calls Try.prog 49 #[.agg #[.string ac, .slice ae ab.length ag, .slice af aa.length ah], .int .i64 a1, .func (.func 51) #[] #[]] w fun e w' => ∃ v0_ : Value, e = .returned (v0_) ∧ Kd.R (Kd.int .i64) 3 w' w.heap.size (fun _ => True) v0_ r ∧ Below w.heap.size w w' := by
 have aJ := Try.underlying25
 have hu2 := Try.underlying48
 have ax := Aside0.mk ak
 have av := Aside0.mk ai
 have ar := Aside0.mk al
 have aw := Aside0.mk aj
 clear ak ai al aj
 unfold net_Consumers.f at h
 obtain ⟨t, ht, h⟩ := Option.bind_eq_some_iff.mp h
 have HV := Aside0.mk ht
 have HX := Aside0.mk (alloc_new w (.cells #[.string ac, .slice ae ab.length ag, .slice af aa.length ah] 25))
 have HB := Aside0.mk (show Below w.heap.size w (w.alloc (.cells #[.string ac, .slice ae ab.length ag, .slice af aa.length ah] 25)) from below_alloc (Below.refl _ _) _)
 obtain ⟨ay, az, aA⟩ := net_facts HX.out
 clear ht
 cases t with
 | false =>
  rw [if_neg Bool.false_ne_true] at h
  obtain rfl := Option.some.inj h
  go_enter Try.func49, Try.ntmps49
  go_wp2_with (first | (go_at_call 52; refine (net_valid.calls k _ _ _ _ _ _ _ _ _ (Kd.C_below ax.out HB.out) av.out (Kd.C_below ar.out HB.out) aw.out HV.out).mono ?_; rintro e w3 ⟨rfl, hb⟩; have ap := Aside0.mk (HB.out.trans (hb.mono HB.out.size)); clear hb))
  go_ret
  exact ⟨_, rfl, Kd.R_nil _ _ _ _ _, ap.out⟩
 | true =>
  rw [if_pos rfl] at h
  have H := Aside0.mk h
  clear h
  go_enter Try.func49, Try.ntmps49
  go_wp2_with (first | (go_at_call 52; refine (net_valid.calls k _ _ _ _ _ _ _ _ _ (Kd.C_below ax.out HB.out) av.out (Kd.C_below ar.out HB.out) aw.out HV.out).mono ?_; rintro e w3 ⟨rfl, hb⟩; have ap := Aside0.mk (HB.out.trans (hb.mono HB.out.size)); obtain ⟨aG, aH, aI⟩ := net_facts (blk_below HX.out hb); clear hb))
  clear aG aH aI ay az aA HX HB HV
  go_loopg [7, 16] k (fun kq v7 aM w' => ∃ (i : Int) (out : List Int), aM = .int .i64 i ∧ Aside0 (net_Consumers.l0 kq aa a1 out i = some r) ∧ Aside0 (kq ≤ k) ∧ Aside0 (Kd.R (Kd.int .i64) 3 w' w.heap.size (fun _ => True) v7 out) ∧ Aside0 (Below w.heap.size w w'))
  case atStart => exact ⟨0, [], rfl, H, ⟨Nat.le_refl _⟩, ⟨Kd.R_nil _ _ _ _ _⟩, ap⟩
  case round =>
   clear H ap
   obtain ⟨i, out, rfl, HA, HJ, HO, HB⟩ := hrel
   cases gk with
   | zero => exact absurd HA.out (by simp [net_Consumers.l0])
   | succ k1 =>
   have H := HA.out
   clear HA
   simp only [net_Consumers.l0] at H
   by_cases d1 : i < (aa.length : Int)
   case neg =>
    rw [if_neg d1] at H
    have d1b : decide (i < (aa.length : Int)) = false := decide_eq_false d1
    obtain rfl := Option.some.inj H
    clear d1
    go_wp2
    go_ret
    exact ⟨_, rfl, HO.out, HB.out⟩
   rw [if_pos d1] at H
   have d1b : decide (i < (aa.length : Int)) = true := decide_eq_true d1
   by_cases d2 : 0 ≤ i
   case neg => rw [if_neg d2] at H; cases H
   rw [if_pos d2] at H
   obtain ⟨t, ht, H⟩ := Option.bind_eq_some_iff.mp H
   have HT := Aside0.mk ht
   clear ht
   obtain ⟨ad, A1, c1, A2, c2, A3, c3, eA, y0, y1, y2, y3, y4, m1, g1, m2, g2, m3, g3⟩ := at_T48 ar.out i d2 d1
   subst eA
   have u0 := pw_cell_below HB.out y0
   have u1 := pw_cell_below HB.out y1
   have u2 := pw_cell_below HB.out y2
   have u3 := pw_cell_below HB.out y3
   have u4 := pw_cell_below HB.out y4
   clear y0 y1 y2 y3 y4
   have M := Aside0.mk m1
   have G := Aside0.mk g1
   clear m1 m2 m3 g1 g2 g3
   have q1 : (0 ≤ i) = True := eq_true d2
   have q2 : (i < (aa.length : Int)) = True := eq_true d1
   have HPl := Aside0.mk (alloc_new wr (.cells #[.string (rd_T48 aa i).f0, .slice A1 (rd_T48 aa i).f1.length c1, .slice A2 (rd_T48 aa i).f2.length c2, .slice A3 (rd_T48 aa i).f3.length c3, .int .i64 (rd_T48 aa i).f4] 48))
   have au := Aside0.mk (show Below wr.heap.size wr (wr.alloc (.cells #[.string (rd_T48 aa i).f0, .slice A1 (rd_T48 aa i).f1.length c1, .slice A2 (rd_T48 aa i).f2.length c2, .slice A3 (rd_T48 aa i).f3.length c3, .int .i64 (rd_T48 aa i).f4] 48)) from below_alloc (Below.refl _ _) _)
   obtain ⟨v0, v1, v2, v3, v4⟩ := trans_facts HPl.out
   have HM := Aside0.mk (show (aa.length : Int) ≤ 9223372036854775807 by have := ar.out.2.1; omega)
   by_cases d3 : t > 0
   ·rw [if_pos d3] at H
    have d3b : decide (0 < t) = true := decide_eq_true d3
    by_cases d4 : out.length < 17592186044416
    case neg => rw [if_neg d4] at H; cases H
    rw [if_pos d4, show wrap64 (i + 1) = i + 1 by have := HM.out; unfold wrap64; omega] at H
    have H' := Aside0.mk H
    have D4 := Aside0.mk d4
    clear H d3 d4
    go_wp2_with (first
     | (go_at_call 51; refine (arcs_Consumers _ _ _ _ _ _).mono ?_; rintro e w4 ⟨rfl, hb⟩; have ao := Aside0.mk (au.out.trans (hb.mono au.out.size)); clear hb)
     | (go_at_call 71; refine (net_weight.calls k1 _ _ _ _ _ _ (Kd.C_below G.out (HB.out.trans (ao.out.mono HB.out.size))) M.out HT.out).mono ?_; rintro e w5 ⟨rfl, hb⟩; have aq := Aside0.mk (ao.out.trans (hb.mono ao.out.size)); have aD := Aside0.mk (Kd.R_below HO.out aq.out); clear hb)
     | ((with_reducible refine gate_builtin (b := .append) (xs := #[.tmp 27, .tmp 29]) rfl ?_); at_builtin; refine Kd.R_append (Kd.int .i64) (w0 := w) w.heap.size rfl (.tmp 27) (.tmp 29) 39 3 (.int .i64 0) 8 rfl Try.underlying39 info3 rfl (by decide) (by omega) _ out i [.int .i64 i] (fun _ => True) (fun _ => False) rfl rfl ?aP (fun _ hk => hk.elim) ?aF ?aO ?aB ?aS ?aL ?_; (case aP => exact rfl); (case aF => exact (fun _ _ => trivial)); (case aO => exact aD.out); (case aB => exact (HB.out.trans (aq.out.mono HB.out.size))); (case aS => exact Nat.le_trans HB.out.size aq.out.size); (case aL => have := D4.out; omega); intro v2 w2 ho hb hg hat; have aE := Aside0.mk ho; have aC := Aside0.mk hb; clear ho hb hg hat))
    go_roundg k1
    case measure => have := HJ.out; omega
    case rel => exact ⟨_, _, (by congr 1; have := HM.out; (first | omega | (unfold wrap64; omega) | (show wrap64 _ = _; unfold wrap64; omega))), H', ⟨by have := HJ.out; omega⟩, aE, aC⟩
   ·rw [if_neg d3, show wrap64 (i + 1) = i + 1 by have := HM.out; unfold wrap64; omega] at H
    have d3b : decide (0 < t) = false := decide_eq_false d3
    have H' := Aside0.mk H
    clear H d3
    go_wp2_with (first
     | (go_at_call 51; refine (arcs_Consumers _ _ _ _ _ _).mono ?_; rintro e w4 ⟨rfl, hb⟩; have ao := Aside0.mk (au.out.trans (hb.mono au.out.size)); clear hb)
     | (go_at_call 71; refine (net_weight.calls k1 _ _ _ _ _ _ (Kd.C_below G.out (HB.out.trans (ao.out.mono HB.out.size))) M.out HT.out).mono ?_; rintro e w5 ⟨rfl, hb⟩; have aq := Aside0.mk (ao.out.trans (hb.mono ao.out.size)); clear hb))
    go_roundg k1
    case measure => have := HJ.out; omega
    case rel => exact ⟨_, _, (by congr 1; have := HM.out; (first | omega | (unfold wrap64; omega) | (show wrap64 _ = _; unfold wrap64; omega))), H', ⟨by have := HJ.out; omega⟩, ⟨Kd.R_below HO.out aq.out⟩, ⟨HB.out.trans (aq.out.mono HB.out.size)⟩⟩
theorem net_Consumers.calls (k : Nat) (ac : ByteArray) (ae : Option Addr) (ag : Nat) (ab : List (S52)) (af : Option Addr) (ah : Nat) (aa : List (S48)) (a1 : Int) (r : List Int) (w : World) (ak : Kd.C k52 w ae ab.length ab) (ai : ab.length ≤ ag) (al : Kd.C k48 w af aa.length aa) (aj : aa.length ≤ ah) (h : net_Consumers.f k ac ab aa a1 = some r) :
  Calls Try.prog 30 #[.agg #[.string ac, .slice ae ab.length ag, .slice af aa.length ah], .int .i64 a1] w fun e w' => ∃ v0_ : Value, e = .returned (v0_) ∧ Kd.R (Kd.int .i64) 3 w' w.heap.size (fun _ => True) v0_ r ∧ Below w.heap.size w w' := by
 have aJ := Try.underlying25
 have HB := Aside0.mk (show Below w.heap.size w (w.alloc (.cells #[.string ac, .slice ae ab.length ag, .slice af aa.length ah] 25)) from below_alloc (Below.refl _ _) _)
 have ax := Aside0.mk (Kd.C_below ak HB.out)
 have av := Aside0.mk ai
 have ar := Aside0.mk (Kd.C_below al HB.out)
 have aw := Aside0.mk aj
 have H := Aside0.mk h
 obtain ⟨ay, az, aA⟩ := net_facts (alloc_new w (.cells #[.string ac, .slice ae ab.length ag, .slice af aa.length ah] 25))
 clear ak ai al aj h
 go_enter Try.func30, Try.ntmps30
 go_wp2_with (first | (go_at_call 49; refine (users_Consumers k _ _ _ _ _ _ _ _ _ _ ax.out av.out ar.out aw.out H.out).mono ?_; rintro e w3 ⟨v3, rfl, ho, hb⟩; have HO := Aside0.mk (Kd.R_lower ho HB.out.size); have ap := Aside0.mk (HB.out.trans (hb.mono HB.out.size)); clear ho hb))
 go_ret
 exact ⟨_, rfl, HO.out, ap.out⟩

/-! ### workflow_only_Consumers: function 99 -/
def workflow_only_Consumers.l0 : Nat → Int → Int → Int → ByteArray → List (S52) → List (S48) → Option (Int × Bool)
 | 0, _, _, _, _, _, _ => none
 | k + 1, x6, x14, x15, ah, ai, aj => if x15 < x14 then ((net_Consumers.f k ah ai aj x15).bind fun ag => (if (ag.length : Int) > 0 then (workflow_only_Consumers.l0 k x6 x14 (wrap64 (x15 + 1)) ah ai aj) else (if x6 ≥ 0 then (some ((-1), false)) else (workflow_only_Consumers.l0 k x15 x14 (wrap64 (x15 + 1)) ah ai aj)))) else (some (x6, decide (x6 ≥ 0)))
def workflow_only_Consumers.f (k : Nat) (af : ByteArray) (ab : List (S52)) (ac : List (S48)) : Option (Int × Bool) := (net_Check.f k af ab ac).bind fun aG => (if aG.1 = 0 then (workflow_only_Consumers.l0 k (-1) (ab.length : Int) 0 af ab ac) else (some ((-1), false)))
theorem workflow_only_Consumers.mono_l : ∀ k, M6 workflow_only_Consumers.l0 k
 | 0 => fun _ _ _ _ _ _ r h => by simp [workflow_only_Consumers.l0] at h
 | k + 1 => by
  have aV := workflow_only_Consumers.mono_l k
  ·intro y0 y1 y2 y3 y4 y5
   unfold workflow_only_Consumers.l0
   repeat' first | (with_reducible first | apply aV | apply net_Check.mono | apply net_Consumers.mono | apply lr | apply ln | apply li | refine lb ?_ fun _ => ?_)
theorem workflow_only_Consumers.mono : ∀ a0 a1 a2 k, LeO (workflow_only_Consumers.f k a0 a1 a2) (workflow_only_Consumers.f (k + 1) a0 a1 a2) := by
 intro a0 a1 a2 k
 have aV := workflow_only_Consumers.mono_l k
 unfold workflow_only_Consumers.f
 repeat' first | (with_reducible first | apply aV | apply net_Check.mono | apply net_Consumers.mono | apply lr | apply ln | apply li | refine lb ?_ fun _ => ?_)
set_option maxHeartbeats 8000000 in
set_option maxRecDepth 100000 in
theorem workflow_only_Consumers.calls (k : Nat) (af : ByteArray) (aB : Option Addr) (aD : Nat) (ab : List (S52)) (aC : Option Addr) (aE : Nat) (ac : List (S48)) (r1 : Int) (r2 : Bool) (w : World) (az : Kd.C k52 w aB ab.length ab) (aw : ab.length ≤ aD) (aA : Kd.C k48 w aC ac.length ac) (ax : ac.length ≤ aE) (h : workflow_only_Consumers.f k af ab ac = some (r1, r2)) :
  Calls Try.prog 35 #[.agg #[.string af, .slice aB ab.length aD, .slice aC ac.length aE], .func (.func 30) #[] #[]] w fun e w' => e = .returned (.tuple #[.int .i64 r1, .bool r2]) ∧ Below w.heap.size w w' := by
 have aU : ∀ (x0 x1 : Value) (W : World), (Instr.field 60 (.agg #[x0, x1]) 0).run Try.prog W = .ok x0 W := fun x0 x1 W => by kernel_rfl
 have a5 := Try.underlying25
 have ap := am az
 have ak := am aw
 clear az aw
 have aq := am aA
 have al := am ax
 clear aA ax
 have HB := am (Below.refl w.heap.size w)
 have H := h
 unfold workflow_only_Consumers.f at H
 clear h
 replace H := bnd H
 obtain ⟨⟨aM, aN⟩, A2, H⟩ := H
 (try dsimp only at H)
 replace H := ife H
 rcases H with ⟨aK, aL, H⟩ | ⟨aK, aL, H⟩
 rotate_left
 ·simp only [Option.some.injEq, Prod.mk.injEq] at H
  obtain ⟨rfl, rfl⟩ := H
  go_enter Try.func35, Try.ntmps35
  go_wp2_with (first | ((with_reducible refine gate_dst (N := 2) rfl ?_); refine box_ev ?_; intro av hg ba hbox hb; have aa := am hbox; have ar := gwl hg; have aF := ar; replace HB := bsl hb; clear hb hbox hg; have bg := cf3 aa.1) | ((with_reducible refine gate_callee (f := 37) rfl ?_); refine gC 9 Try.func37 _ (net_Check.calls k af _ _ ab _ _ ac aM aN _ (csb ap HB) ak.1 (csb aq HB) al.1 A2.1) ?_; rintro e bb ⟨rfl, hb⟩; refine ⟨_, rfl, ?_⟩; replace aa := bbh aa hb; replace HB := bst hb; (try clear hb)))
  go_ret2
  exact ⟨per, pbg⟩
 have H' := am H
 clear H
 go_enter Try.func35, Try.ntmps35
 go_wp2_with (first | ((with_reducible refine gate_dst (N := 2) rfl ?_); refine box_ev ?_; intro av hg w4 hbox hb; have aa := am hbox; have ar := gwl hg; have aF := ar; replace HB := bsl hb; clear hb hbox hg; have z5 := cf3 aa.1) | ((with_reducible refine gate_callee (f := 37) rfl ?_); refine gC 9 Try.func37 _ (net_Check.calls k af _ _ ab _ _ ac aM aN _ (csb ap HB) ak.1 (csb aq HB) al.1 A2.1) ?_; rintro e w6 ⟨rfl, hb⟩; refine ⟨_, rfl, ?_⟩; replace aa := bbh aa hb; replace HB := bst hb; (try clear hb); have z7 := cf3 aa.1))
 go_loopg [6, 15] k (fun kq v6 a6 w' => ∃ (au : Int) (ae : Int), v6 = .int .i64 au ∧ a6 = .int .i64 ae ∧ Aside0 (workflow_only_Consumers.l0 kq au (ab.length : Int) ae af ab ac = some (r1, r2)) ∧ Aside0 (kq ≤ k) ∧ Aside0 (w'.heap[av]? = some (.cells #[.string af, (.slice aB ab.length aD), (.slice aC ac.length aE)] 25 (0, 0))) ∧ Aside0 (Below w.heap.size w w'))
 case atStart => exact ⟨((-1)), (0), prs, prs, H', ⟨Nat.le_refl _⟩, ⟨pbk aa.1⟩, ⟨pbg⟩⟩
 clear H'
 try clear aK aL z5 z7
 obtain ⟨au, ae, rfl, rfl, HA, aP, aa, HB⟩ := hrel
 obtain _ | k1 := gk
 ·exact absurd HA.1 (by simp [workflow_only_Consumers.l0])
 have H := HA.1
 clear HA
 simp only [workflow_only_Consumers.l0] at H
 replace H := ifl H
 rcases H with ⟨aQ, H⟩ | ⟨aQ, H⟩
 rotate_left
 ·simp only [Option.some.injEq, Prod.mk.injEq] at H
  obtain ⟨rfl, rfl⟩ := H
  go_wp2
  go_ret2
  exact ⟨per, pbg⟩
 replace H := bnd H
 obtain ⟨ag, A9, H⟩ := H
 (try dsimp only at H)
 by_cases c10 : (ag.length : Int) > 0
 ·rw [if_pos c10] at H
  have aH : decide (0 < (ag.length : Int)) = true := decide_eq_true c10
  have aI : decide (0 < ag.length) = true := decide_eq_true (by omega)
  clear c10
  have H' := am H
  clear H
  have bc := cf3 aa.1
  go_wp2_with (first | (go_at_call 30; (with_reducible refine (net_Consumers.calls k1 af _ _ ab _ _ ac ae ag _ ?side1 ?side2 ?side3 ?side4 A9.1).mono ?_); (case side1 => exact csb ap HB); (case side2 => exact ak.1); (case side3 => exact csb aq HB); (case side4 => exact al.1); rintro e a7 ⟨aO, rfl, ay, hb⟩; have ao := am (Kd.R_lower ay (below_size pbg)); replace aa := bbh aa hb; replace HB := bst hb; (try clear hb); (try clear ay); obtain ⟨aW, aZ, aR⟩ := Kd.R_slice ao.1; subst aR))
  go_roundg k1
  case measure => have := aP.1; omega
  case rel => exact ⟨(au), (wrap64 (ae + 1)), prs, prs, H', ⟨by have := aP.1; omega⟩, ⟨pbk aa.1⟩, ⟨pbg⟩⟩
 rw [if_neg c10] at H
 have aH : decide (0 < (ag.length : Int)) = false := decide_eq_false c10
 have aI : decide (0 < ag.length) = false := decide_eq_false (by omega)
 clear c10
 replace H := ifh H
 rcases H with ⟨aJ, H⟩ | ⟨aJ, H⟩
 ·simp only [Option.some.injEq, Prod.mk.injEq] at H
  obtain ⟨rfl, rfl⟩ := H
  have bd := cf3 aa.1
  go_wp2_with (first | (go_at_call 30; (with_reducible refine (net_Consumers.calls k1 af _ _ ab _ _ ac ae ag _ ?side1 ?side2 ?side3 ?side4 A9.1).mono ?_); (case side1 => exact csb ap HB); (case side2 => exact ak.1); (case side3 => exact csb aq HB); (case side4 => exact al.1); rintro e a8 ⟨aO, rfl, ay, hb⟩; have ao := am (Kd.R_lower ay (below_size pbg)); replace aa := bbh aa hb; replace HB := bst hb; (try clear hb); (try clear ay); obtain ⟨aX, a3, aS⟩ := Kd.R_slice ao.1; subst aS))
  go_ret2
  exact ⟨per, pbg⟩
 have H' := am H
 clear H
 have bf := cf3 aa.1
 go_wp2_with (first | (go_at_call 30; (with_reducible refine (net_Consumers.calls k1 af _ _ ab _ _ ac ae ag _ ?side1 ?side2 ?side3 ?side4 A9.1).mono ?_); (case side1 => exact csb ap HB); (case side2 => exact ak.1); (case side3 => exact csb aq HB); (case side4 => exact al.1); rintro e a9 ⟨aO, rfl, ay, hb⟩; have ao := am (Kd.R_lower ay (below_size pbg)); replace aa := bbh aa hb; replace HB := bst hb; (try clear hb); (try clear ay); obtain ⟨aY, a4, aT⟩ := Kd.R_slice ao.1; subst aT))
 go_roundg k1
 case measure => have := aP.1; omega
 case rel => exact ⟨(ae), (wrap64 (ae + 1)), prs, prs, H', ⟨by have := aP.1; omega⟩, ⟨pbk aa.1⟩, ⟨pbg⟩⟩

/-! ### workflow_Sink: function 14 -/
def workflow_Sink.f (k : Nat) (ae : ByteArray) (aa : List (S52)) (ab : List (S48)) : Option (Int × Bool) := (workflow_only_Consumers.f k ae aa ab).bind fun af => (some (af.1, af.2))
theorem workflow_Sink.mono : ∀ a0 a1 a2 k, LeO (workflow_Sink.f k a0 a1 a2) (workflow_Sink.f (k + 1) a0 a1 a2) := by
 intro a0 a1 a2 k
 unfold workflow_Sink.f
 repeat' first | (with_reducible first | apply workflow_only_Consumers.mono | apply lr | apply ln | apply li | refine lb ?_ fun _ => ?_)
set_option maxHeartbeats 8000000 in
set_option maxRecDepth 100000 in
theorem workflow_Sink.calls (k : Nat) (ae : ByteArray) (ak : Option Addr) (av : Nat) (aa : List (S52)) (al : Option Addr) (aw : Nat) (ab : List (S48)) (r1 : Int) (r2 : Bool) (w : World) (ai : Kd.C k52 w ak aa.length aa) (ag : aa.length ≤ av) (aj : Kd.C k48 w al ab.length ab) (ah : ab.length ≤ aw) (h : workflow_Sink.f k ae aa ab = some (r1, r2)) :
  Calls Try.prog 14 #[.agg #[.string ae, .slice ak aa.length av, .slice al ab.length aw]] w fun e w' => e = .returned (.tuple #[.int .i64 r1, .bool r2]) ∧ Below w.heap.size w w' := by
 have aB := Try.underlying25
 have ar := am ai
 have ap := am ag
 clear ai ag
 have au := am aj
 have aq := am ah
 clear aj ah
 have HB := am (Below.refl w.heap.size w)
 have H := h
 unfold workflow_Sink.f at H
 clear h
 replace H := bnd H
 obtain ⟨⟨ax, ay⟩, A2, H⟩ := H
 (try dsimp only at H)
 simp only [Option.some.injEq, Prod.mk.injEq] at H
 obtain ⟨rfl, rfl⟩ := H
 go_enter Try.func14, Try.ntmps14
 go_wp2_with (first | ((with_reducible refine gate_dst (N := 1) rfl ?_); refine box_ev ?_; intro aA hg w3 hbox hb; have ac := am hbox; have ao := gwl hg; have az := ao; replace HB := bsl hb; clear hb hbox hg; have z4 := cf3 ac.1) | ((with_reducible refine gate_callee (f := 35) rfl ?_); refine gC 5 Try.func35 _ (workflow_only_Consumers.calls k ae _ _ aa _ _ ab ax ay _ (csb ar HB) ap.1 (csb au HB) aq.1 A2.1) ?_; rintro e w5 ⟨rfl, hb⟩; refine ⟨_, rfl, ?_⟩; replace ac := bbh ac hb; replace HB := bst hb; (try clear hb)))
 go_ret2
 exact ⟨per, pbg⟩

/-! ### workflow_Problems: function 18 -/
-- IMPORTS Derived.RegionTactic,Derived.BigRegion,Derived.Laws.EntriesVeiled
def workflow_Problems.l0 : Nat → List Bool → Int → Int → List (S50) → Option (List (S50) × Int)
 | 0, _, _, _, _ => none
 | k + 1, on, np, i, ds => if i < (on.length : Int) then (if 0 ≤ i then (if rdOf false on i = true then workflow_Problems.l0 k on np (wrap64 (i + 1)) ds else (if ds.length < 1000000 then workflow_Problems.l0 k on np (wrap64 (i + 1)) (ds ++ [if i < np then ⟨3, i⟩ else ⟨4, wrap64 (i - np)⟩]) else none)) else none) else some (ds, 0)
def workflow_Problems.f (k : Nat) (az : ByteArray) (ae : List (S52)) (ax : List (S48)) : Option (List (S50) × Int) :=
 (net_Check.f k az ae ax).bind fun c => if c.1 = 0 then ((net_Plain.f k az ae ax).bind fun p => if p = true then ((workflow_Source.f k az ae ax).bind fun s => (workflow_Sink.f k az ae ax).bind fun t => if s.2 = true then (if t.2 = true then ((workflow_onPath.f k az ae ax s.1 t.1).bind fun on => workflow_Problems.l0 k on (ae.length : Int) 0 (if s.1 = t.1 then [⟨3, s.1⟩] else [])) else some ([⟨2, 0⟩], 0)) else (if t.2 = true then some ([⟨1, 0⟩], 0) else some ([⟨1, 0⟩, ⟨2, 0⟩], 0))) else some ([], 12)) else some ([], c.1)
theorem workflow_Problems.mono_l : ∀ k y0 y1 y2 y3, LeO (workflow_Problems.l0 k y0 y1 y2 y3) (workflow_Problems.l0 (k + 1) y0 y1 y2 y3)
 | 0 => fun _ _ _ _ r h => by simp [workflow_Problems.l0] at h
 | k + 1 => by
  have bs := workflow_Problems.mono_l k
  intro y0 y1 y2 y3
  unfold workflow_Problems.l0
  repeat' first | exact bs _ _ _ _ | exact LeO.refl _ | exact LeO.none _ | refine LeO.ite ?_ ?_
theorem workflow_Problems.mono : ∀ a0 a1 a2 k, LeO (workflow_Problems.f k a0 a1 a2) (workflow_Problems.f (k + 1) a0 a1 a2) := by
 intro a0 a1 a2 k
 unfold workflow_Problems.f
 refine LeO.bind (net_Check.mono _ _ _ _) fun _ => LeO.ite (LeO.bind (net_Plain.mono _ _ _ _) fun _ => LeO.ite (LeO.bind (workflow_Source.mono _ _ _ _) fun _ => LeO.bind (workflow_Sink.mono _ _ _ _) fun _ => LeO.ite (LeO.ite (LeO.bind (workflow_onPath.mono _ _ _ _ _ _) fun _ => workflow_Problems.mono_l _ _ _ _ _) (LeO.refl _)) (LeO.refl _)) (LeO.refl _)) (LeO.refl _)

/-- The diagnoses so far, in a variable of the call's own, and the net in another one. -/
structure DInv (w0 w : World) (Bx Bo : Nat) (net : Array Value) (ds : List (S50)) : Prop where
 t : ∃ v, w.heap[Bo]? = some (.cells #[v] 32 (0, 0)) ∧ Kd.R k50 50 w w0.heap.size (fun _ => True) v ds
 B : Below w0.heap.size w0 w
 b : w0.heap.size ≤ Bo
 bx : w.heap[Bx]? = some (.cells net 25 (0, 0))
def DKeep (w0 w w1 : World) : Prop := ∀ v on, Kd.R Kd.bool 4 w w0.heap.size (fun _ => True) v on → Kd.R Kd.bool 4 w1 w0.heap.size (fun _ => True) v on
theorem DInv.below {w0 w w1 : World} {Bx Bo : Nat} {net : Array Value} {ds : List (S50)} (h : DInv w0 w Bx Bo net ds) (hb : Below w.heap.size w w1) : DInv w0 w1 Bx Bo net ds := by
 obtain ⟨⟨v, h1, h2⟩, B, b, bx⟩ := h
 exact ⟨⟨v, blk_below h1 hb, Kd.R_below h2 hb⟩, B.trans (hb.mono B.size), b, blk_below bx hb⟩
theorem DInv.push {w0 w w1 : World} {Bx Bo : Nat} {net : Array Value} {ds ds' : List (S50)} (h : DInv w0 w Bx Bo net ds) {v v1 : Value} (hT : Kd.R k50 50 w w0.heap.size (fun _ => True) v ds)
  (h1 : Kd.R k50 50 w1 w0.heap.size (fun _ => True) v1 ds') (hb : Below w0.heap.size w0 w1) (hg : w.grownBy w1 v.ownBlock) : (DInv w0 (w1.setCell ⟨Bo, 0, none⟩ v1) Bx Bo net ds' ∧ DKeep w0 w (w1.setCell ⟨Bo, 0, none⟩ v1)) ∧ w1.cell? ⟨Bo, 0, none⟩ ≠ none ∧ w1.frozen? ⟨Bo, 0, none⟩ = false := by
 obtain ⟨⟨vt, h3, h4⟩, B, b, bx⟩ := h
 have e3 := grown_blk h3 (Kd.R_typed hT) (by decide) hg
 have eb := grown_blk bx (Kd.R_typed hT) (by decide) hg
 refine ⟨⟨⟨⟨v1, one_setCell e3, Kd.R_set h1 e3 (by decide) _ _⟩, below_set hb b, b, blk_over eb (blk_apart eb e3 (by decide)) _⟩, fun u on ho => ?_⟩, by rw [cell_of_one e3]; simp, free_of_one e3⟩
 exact Kd.R_set (Kd.R_over' ho (Kd.R_typed hT) (by decide) hg) e3 (by decide) _ _
set_option maxHeartbeats 1000000 in
set_option maxRecDepth 100000 in
theorem tell_calls (w0 w : World) (Bx Bo : Nat) (net : Array Value) (ds : List (S50)) (x : S50) (h : DInv w0 w Bx Bo net ds) (hl : ds.length < 1000000) :
  Calls Try.prog 39 #[.int .i64 x.f0, .int .i64 x.f1, .pointer (some ⟨Bo, 0, none⟩)] w fun e w' => e = .returned (.tuple #[]) ∧ DInv w0 w' Bx Bo net (ds ++ [x]) ∧ DKeep w0 w w' := by
 have HV := Aside0.mk h
 obtain ⟨vt, aZ, aU⟩ := h.t
 obtain ⟨At, ct, rfl⟩ := Kd.R_slice aU
 have bb := cell_of_one aZ
 have HT := Aside0.mk aU
 have HL := Aside0.mk hl
 clear h aZ aU hl
 go_enter Try.func39, Try.ntmps39
 go_wp2_with (first
  | ((with_reducible refine gate_builtin (b := .append) (xs := #[.tmp 5, .tmp 9]) rfl ?_); at_builtin; refine Kd.R_append k50 (w0 := w0) w0.heap.size rfl (.tmp 5) (.tmp 9) 32 50 (.agg #[.int .i64 0, .int .i64 0]) 16 rfl Try.underlying32 info50 rfl (by decide) (by omega) (.slice At ds.length ct) ds x [.int .i64 x.f0, .int .i64 x.f1] (fun _ => True) (fun _ => False) rfl rfl ?aP (fun _ hk => hk.elim) ?aF ?aO ?aB ?aS ?aL ?_; (case aP => exact k50_mkM _ _ _ x); (case aF => exact (fun _ _ => trivial)); (case aO => exact HT.out); (case aB => exact HV.out.B); (case aS => exact HV.out.B.size); (case aL => have := HL.out; omega); intro v2 w2 ho hb hg hat; obtain ⟨A2, k2, rfl⟩ := Kd.R_slice ho; have HX := Aside0.mk (DInv.push HV.out HT.out ho hb hg); obtain ⟨c2, bA⟩ := Option.ne_none_iff_exists'.mp HX.out.2.1; have hf2 := HX.out.2.2; clear ho hb hg hat))
 go_end0
 have x_ := HX.out.1
 rw [List.length_append] at x_
 exact ⟨rfl, x_.1, x_.2⟩
theorem tell_at (w0 w : World) (Bx Bo : Nat) (net : Array Value) (ds : List (S50)) (a b : Int) (h : DInv w0 w Bx Bo net ds) (hl : ds.length < 1000000) :
  Calls Try.prog 39 #[.int .i64 a, .int .i64 b, .pointer (some ⟨Bo, 0, none⟩)] w fun e w' => e = .returned (.tuple #[]) ∧ DInv w0 w' Bx Bo net (ds ++ [⟨a, b⟩]) ∧ DKeep w0 w w' := tell_calls w0 w Bx Bo net ds ⟨a, b⟩ h hl
theorem net3 {W : World} {B : Nat} {x y z : Value} (h : W.heap[B]? = some (.cells #[x, y, z] 25 (0, 0))) : W.cell? ⟨B, 0, none⟩ = some x ∧ W.cell? ⟨B, 1, none⟩ = some y ∧ W.cell? ⟨B, 2, none⟩ = some z := ⟨(blk_cell h 0).trans rfl, (blk_cell h 1).trans rfl, (blk_cell h 2).trans rfl⟩
set_option maxHeartbeats 8000000 in
set_option maxRecDepth 100000 in
theorem workflow_Problems.calls (k : Nat) (az : ByteArray) (a3 : Option Addr) (a5 : Nat) (ae : List (S52)) (a4 : Option Addr) (a6 : Nat) (ax : List (S48)) (r1 : List (S50)) (r2 : Int) (w : World) (bf : Kd.C k52 w a3 ae.length ae) (bc : ae.length ≤ a5) (bg : Kd.C k48 w a4 ax.length ax) (bd : ax.length ≤ a6) (h : workflow_Problems.f k az ae ax = some (r1, r2)) :
  Calls Try.prog 18 #[.agg #[.string az, .slice a3 ae.length a5, .slice a4 ax.length a6]] w fun e w' => ∃ v0_ : Value, e = .returned (.tuple #[v0_, .int .i64 r2]) ∧ Kd.R k50 50 w' w.heap.size (fun _ => True) v0_ r1 ∧ Below w.heap.size w w' := by
 have bB := Try.underlying25
 have hu2 := Try.underlying60
 have hmf : ∀ (fn : Fn) (first cap : Array Value) (w : World), (Instr.makeFunc fn first cap).run Try.prog w = .ok (.func fn first cap) w := fun _ _ _ _ => rfl
 have ah := am bf
 have af := am bc
 have ai := am bg
 have ag := am bd
 have HB := am (Below.refl w.heap.size w)
 clear bf bc bg bd
 unfold workflow_Problems.f at h
 obtain ⟨⟨aR, aT⟩, hq, h⟩ := Option.bind_eq_some_iff.mp h
 have A2 := am hq
 clear hq
 dsimp only at h
 by_cases c3 : aR = 0
 case neg =>
  rw [if_neg c3] at h
  have bk : (aR == 0) = false := beq_eq_false_iff_ne.mpr c3
  have bl : (aR != 0) = true := bne_iff_ne.mpr c3
  simp only [Option.some.injEq, Prod.mk.injEq] at h
  obtain ⟨rfl, rfl⟩ := h
  go_enter Try.func18, Try.ntmps18
  have fl_ := trivial
  iterate 3 (try ((first | clear fl_ | go_step3); go_wp2_with (first | ((with_reducible refine gate_dst (N := 1) rfl ?_); refine box_ev ?_; intro aN hg w6 hbox hb; have aa := am hbox; have aW := gwl hg; replace HB := bsl hb; clear hb hbox hg; obtain ⟨aG, aH, aI, aJ, aK, aM⟩ := cf3 aa.1) | (go_at_call 37; (with_reducible refine (net_Check.calls k az _ _ ae _ _ ax aR aT _ ?side1 ?side2 ?side3 ?side4 A2.1).mono ?_); (case side1 => exact csb ah HB); (case side2 => exact af.1); (case side3 => exact csb ai HB); (case side4 => exact ag.1); rintro e w8 ⟨rfl, hb⟩; replace aa := bbh aa hb; replace HB := bst hb; (try clear hb); (try clear a9); (try clear hk); (try clear hi)) | ((with_reducible refine gate_dst (N := 4) rfl ?_); refine box_ev ?_; intro aQ hg w9 hbox hb; have ay := am hbox; have aE := gwb hg; have aV := aE; have ab := nlt hg aa; have ac := ngt hg aa; replace aa := bbh aa hb; replace HB := bst hb; clear hb hbox hg; have aX := ac.1; have aY := ab.1; obtain ⟨aj, ak, aq, ar⟩ := cf2 ay.1; obtain ⟨al, ao, ap, au, av, aw⟩ := cf3 aa.1))))
  have BF := am (show ((w9.setCell ⟨aQ, 0, none⟩ (.int .i64 aR)).setCell ⟨aQ, 1, none⟩ (.int .i64 aT)).heap[aQ]? = some (.cells #[.int .i64 aR, .int .i64 aT] 60 (0, 0)) from blk_put (cs := #[.int .i64 aR, .int .i64 0]) (blk_put (cs := #[.int .i64 0, .int .i64 0]) ay.1 0 _ rfl) 1 _ rfl)
  have bq := am (show Below w.heap.size w ((w9.setCell ⟨aQ, 0, none⟩ (.int .i64 aR)).setCell ⟨aQ, 1, none⟩ (.int .i64 aT)) from below_set (below_set HB.1 aE.1) aE.1)
  clear aj ak aq ar al ao ap au av aw
  generalize ((w9.setCell ⟨aQ, 0, none⟩ (.int .i64 aR)).setCell ⟨aQ, 1, none⟩ (.int .i64 aT)) = bC at BF bq ⊢
  obtain ⟨bu, bv, bw, bz⟩ := cf2 BF.1
  go_quiet (fail)
  try go_wp2
  iterate 2 (try (go_step3; go_wp2))
  (try rw [Exit.noGoto_ret])
  go_ret2
  exact ⟨_, per, knl, pw_below_drewN bq.1 _⟩
 rw [if_pos c3] at h
 have bk : (aR == 0) = true := beq_iff_eq.mpr c3
 have bl : (aR != 0) = false := bne_eq_false_iff_eq.mpr c3
 clear c3
 obtain ⟨p, hp, h⟩ := Option.bind_eq_some_iff.mp h
 have A4 := am hp
 clear hp
 cases p with
 | false =>
  rw [if_neg Bool.false_ne_true] at h
  simp only [Option.some.injEq, Prod.mk.injEq] at h
  obtain ⟨rfl, rfl⟩ := h
  go_enter Try.func18, Try.ntmps18
  have fl_ := trivial
  iterate 3 (try ((first | clear fl_ | go_step3); go_wp2_with (first | ((with_reducible refine gate_dst (N := 1) rfl ?_); refine box_ev ?_; intro aN hg w6 hbox hb; have aa := am hbox; have aW := gwl hg; replace HB := bsl hb; clear hb hbox hg; obtain ⟨aG, aH, aI, aJ, aK, aM⟩ := cf3 aa.1) | (go_at_call 37; (with_reducible refine (net_Check.calls k az _ _ ae _ _ ax aR aT _ ?side1 ?side2 ?side3 ?side4 A2.1).mono ?_); (case side1 => exact csb ah HB); (case side2 => exact af.1); (case side3 => exact csb ai HB); (case side4 => exact ag.1); rintro e w8 ⟨rfl, hb⟩; replace aa := bbh aa hb; replace HB := bst hb; (try clear hb); (try clear a9); (try clear hk); (try clear hi)) | ((with_reducible refine gate_dst (N := 4) rfl ?_); refine box_ev ?_; intro aQ hg w9 hbox hb; have ay := am hbox; have aE := gwb hg; have aV := aE; have ab := nlt hg aa; have ac := ngt hg aa; replace aa := bbh aa hb; replace HB := bst hb; clear hb hbox hg; have aX := ac.1; have aY := ab.1; obtain ⟨aj, ak, aq, ar⟩ := cf2 ay.1; obtain ⟨al, ao, ap, au, av, aw⟩ := cf3 aa.1) | (go_at_call 38; (with_reducible refine (net_Plain.calls k az _ _ ae _ _ ax false _ ?side1 ?side2 ?side3 ?side4 A4.1).mono ?_); (case side1 => exact Kd.C_below ah.1 pbg); (case side2 => exact af.1); (case side3 => exact Kd.C_below ai.1 pbg); (case side4 => exact ag.1); rintro e a7 ⟨rfl, hb⟩; replace aa := bbx aa (fun h_ => by (with_reducible repeat (first | refine blk_drewN ?_ _ | refine blk_drew ?_ | refine blk_alloc ?_ _)); refine bf2 ?_ ab.1; exact pbk h_) hb; replace HB := bst hb; (try clear ay); (try clear hb); (try clear a9); (try clear hk); (try clear hi)))))
  (try rw [Exit.noGoto_ret])
  go_ret2
  exact ⟨_, per, knl, pbg⟩
 | true =>
  rw [if_pos rfl] at h
  obtain ⟨⟨t1, b1⟩, h1, h⟩ := Option.bind_eq_some_iff.mp h
  have A5 := am h1
  obtain ⟨⟨t2, b2⟩, h2, h⟩ := Option.bind_eq_some_iff.mp h
  have A6 := am h2
  clear h1 h2
  dsimp only at h
  cases b1 with
  | false =>
   rw [if_neg Bool.false_ne_true] at h
   cases b2 with
   | false =>
    rw [if_neg Bool.false_ne_true] at h
    simp only [Option.some.injEq, Prod.mk.injEq] at h
    obtain ⟨rfl, rfl⟩ := h
    go_enter Try.func18, Try.ntmps18
    have fl_ := trivial
    iterate 3 (try ((first | clear fl_ | go_step3); go_wp2_with (first | ((with_reducible refine gate_dst (N := 1) rfl ?_); refine box_ev ?_; intro aN hg w6 hbox hb; have aa := am hbox; have aW := gwl hg; replace HB := bsl hb; clear hb hbox hg; obtain ⟨aG, aH, aI, aJ, aK, aM⟩ := cf3 aa.1) | (go_at_call 37; (with_reducible refine (net_Check.calls k az _ _ ae _ _ ax aR aT _ ?side1 ?side2 ?side3 ?side4 A2.1).mono ?_); (case side1 => exact csb ah HB); (case side2 => exact af.1); (case side3 => exact csb ai HB); (case side4 => exact ag.1); rintro e w8 ⟨rfl, hb⟩; replace aa := bbh aa hb; replace HB := bst hb; (try clear hb); (try clear a9); (try clear hk); (try clear hi)) | ((with_reducible refine gate_dst (N := 4) rfl ?_); refine box_ev ?_; intro aQ hg w9 hbox hb; have ay := am hbox; have aE := gwb hg; have aV := aE; have ab := nlt hg aa; have ac := ngt hg aa; replace aa := bbh aa hb; replace HB := bst hb; clear hb hbox hg; have aX := ac.1; have aY := ab.1; obtain ⟨aj, ak, aq, ar⟩ := cf2 ay.1; obtain ⟨al, ao, ap, au, av, aw⟩ := cf3 aa.1) | (go_at_call 38; (with_reducible refine (net_Plain.calls k az _ _ ae _ _ ax true _ ?side1 ?side2 ?side3 ?side4 A4.1).mono ?_); (case side1 => exact Kd.C_below ah.1 pbg); (case side2 => exact af.1); (case side3 => exact Kd.C_below ai.1 pbg); (case side4 => exact ag.1); rintro e a7 ⟨rfl, hb⟩; replace aa := bbx aa (fun h_ => by (with_reducible repeat (first | refine blk_drewN ?_ _ | refine blk_drew ?_ | refine blk_alloc ?_ _)); refine bf2 ?_ ab.1; exact pbk h_) hb; replace HB := bst hb; (try clear ay); (try clear hb); (try clear a9); (try clear hk); (try clear hi); have HX := am (show DInv w (a7.alloc (.cells #[.slice none 0 0] 32)) aN a7.heap.size #[.string az, .slice a3 ae.length a5, .slice a4 ax.length a6] [] from ⟨⟨.slice none 0 0, alloc_new _ _, Kd.R_nil _ _ _ _ _⟩, below_alloc HB.out _, HB.out.size, blk_below aa.out (below_alloc (Below.refl _ _) _)⟩); (try clear aG aH aI aJ aK aM aj ak aq ar al ao ap au av aw); (try clear aA aC aD); obtain ⟨aA, aC, aD, _, _, _⟩ := cf3 HX.out.bx) | (go_at_call 12; refine (workflow_Source.calls k _ _ _ _ _ _ _ _ _ _ (Kd.C_below ah.1 HX.1.B) af.1 (Kd.C_below ai.1 HX.1.B) ag.1 A5.1).mono ?_; rintro e w4 ⟨rfl, hb⟩; replace HX := am (HX.1.below hb); clear hb; (try clear aA aC aD); obtain ⟨aA, aC, aD, _, _, _⟩ := cf3 HX.out.bx) | (go_at_call 14; refine (workflow_Sink.calls k _ _ _ _ _ _ _ _ _ _ (Kd.C_below ah.1 HX.1.B) af.1 (Kd.C_below ai.1 HX.1.B) ag.1 A6.1).mono ?_; rintro e w4 ⟨rfl, hb⟩; replace HX := am (HX.1.below hb); clear hb; (try clear aA aC aD); obtain ⟨aA, aC, aD, _, _, _⟩ := cf3 HX.out.bx) | (go_at_call 39; refine (tell_at w _ _ _ _ _ _ _ HX.out (by simp)).mono ?_; rintro e w7 ⟨rfl, hx, hk⟩; replace HX := am hx; clear hx hk; (try clear aA aC aD); obtain ⟨aA, aC, aD, _, _, _⟩ := cf3 HX.out.bx; (try clear HT bb); obtain ⟨vt, aZ, aU⟩ := HX.out.t; have bb := cell_of_one aZ; have HT := am aU; clear aZ aU))))
    (try rw [Exit.noGoto_ret])
    go_ret2
    exact ⟨_, per, HT.out, HX.out.B⟩
   | true =>
    rw [if_pos rfl] at h
    simp only [Option.some.injEq, Prod.mk.injEq] at h
    obtain ⟨rfl, rfl⟩ := h
    go_enter Try.func18, Try.ntmps18
    have fl_ := trivial
    iterate 3 (try ((first | clear fl_ | go_step3); go_wp2_with (first | ((with_reducible refine gate_dst (N := 1) rfl ?_); refine box_ev ?_; intro aN hg w6 hbox hb; have aa := am hbox; have aW := gwl hg; replace HB := bsl hb; clear hb hbox hg; obtain ⟨aG, aH, aI, aJ, aK, aM⟩ := cf3 aa.1) | (go_at_call 37; (with_reducible refine (net_Check.calls k az _ _ ae _ _ ax aR aT _ ?side1 ?side2 ?side3 ?side4 A2.1).mono ?_); (case side1 => exact csb ah HB); (case side2 => exact af.1); (case side3 => exact csb ai HB); (case side4 => exact ag.1); rintro e w8 ⟨rfl, hb⟩; replace aa := bbh aa hb; replace HB := bst hb; (try clear hb); (try clear a9); (try clear hk); (try clear hi)) | ((with_reducible refine gate_dst (N := 4) rfl ?_); refine box_ev ?_; intro aQ hg w9 hbox hb; have ay := am hbox; have aE := gwb hg; have aV := aE; have ab := nlt hg aa; have ac := ngt hg aa; replace aa := bbh aa hb; replace HB := bst hb; clear hb hbox hg; have aX := ac.1; have aY := ab.1; obtain ⟨aj, ak, aq, ar⟩ := cf2 ay.1; obtain ⟨al, ao, ap, au, av, aw⟩ := cf3 aa.1) | (go_at_call 38; (with_reducible refine (net_Plain.calls k az _ _ ae _ _ ax true _ ?side1 ?side2 ?side3 ?side4 A4.1).mono ?_); (case side1 => exact Kd.C_below ah.1 pbg); (case side2 => exact af.1); (case side3 => exact Kd.C_below ai.1 pbg); (case side4 => exact ag.1); rintro e a7 ⟨rfl, hb⟩; replace aa := bbx aa (fun h_ => by (with_reducible repeat (first | refine blk_drewN ?_ _ | refine blk_drew ?_ | refine blk_alloc ?_ _)); refine bf2 ?_ ab.1; exact pbk h_) hb; replace HB := bst hb; (try clear ay); (try clear hb); (try clear a9); (try clear hk); (try clear hi); have HX := am (show DInv w (a7.alloc (.cells #[.slice none 0 0] 32)) aN a7.heap.size #[.string az, .slice a3 ae.length a5, .slice a4 ax.length a6] [] from ⟨⟨.slice none 0 0, alloc_new _ _, Kd.R_nil _ _ _ _ _⟩, below_alloc HB.out _, HB.out.size, blk_below aa.out (below_alloc (Below.refl _ _) _)⟩); (try clear aG aH aI aJ aK aM aj ak aq ar al ao ap au av aw); (try clear aA aC aD); obtain ⟨aA, aC, aD, _, _, _⟩ := cf3 HX.out.bx) | (go_at_call 12; refine (workflow_Source.calls k _ _ _ _ _ _ _ _ _ _ (Kd.C_below ah.1 HX.1.B) af.1 (Kd.C_below ai.1 HX.1.B) ag.1 A5.1).mono ?_; rintro e w4 ⟨rfl, hb⟩; replace HX := am (HX.1.below hb); clear hb; (try clear aA aC aD); obtain ⟨aA, aC, aD, _, _, _⟩ := cf3 HX.out.bx) | (go_at_call 14; refine (workflow_Sink.calls k _ _ _ _ _ _ _ _ _ _ (Kd.C_below ah.1 HX.1.B) af.1 (Kd.C_below ai.1 HX.1.B) ag.1 A6.1).mono ?_; rintro e w4 ⟨rfl, hb⟩; replace HX := am (HX.1.below hb); clear hb; (try clear aA aC aD); obtain ⟨aA, aC, aD, _, _, _⟩ := cf3 HX.out.bx) | (go_at_call 39; refine (tell_at w _ _ _ _ _ _ _ HX.out (by simp)).mono ?_; rintro e w7 ⟨rfl, hx, hk⟩; replace HX := am hx; clear hx hk; (try clear aA aC aD); obtain ⟨aA, aC, aD, _, _, _⟩ := cf3 HX.out.bx; (try clear HT bb); obtain ⟨vt, aZ, aU⟩ := HX.out.t; have bb := cell_of_one aZ; have HT := am aU; clear aZ aU))))
    (try rw [Exit.noGoto_ret])
    go_ret2
    exact ⟨_, per, HT.out, HX.out.B⟩
  | true =>
   rw [if_pos rfl] at h
   cases b2 with
   | false =>
    rw [if_neg Bool.false_ne_true] at h
    simp only [Option.some.injEq, Prod.mk.injEq] at h
    obtain ⟨rfl, rfl⟩ := h
    go_enter Try.func18, Try.ntmps18
    have fl_ := trivial
    iterate 3 (try ((first | clear fl_ | go_step3); go_wp2_with (first | ((with_reducible refine gate_dst (N := 1) rfl ?_); refine box_ev ?_; intro aN hg w6 hbox hb; have aa := am hbox; have aW := gwl hg; replace HB := bsl hb; clear hb hbox hg; obtain ⟨aG, aH, aI, aJ, aK, aM⟩ := cf3 aa.1) | (go_at_call 37; (with_reducible refine (net_Check.calls k az _ _ ae _ _ ax aR aT _ ?side1 ?side2 ?side3 ?side4 A2.1).mono ?_); (case side1 => exact csb ah HB); (case side2 => exact af.1); (case side3 => exact csb ai HB); (case side4 => exact ag.1); rintro e w8 ⟨rfl, hb⟩; replace aa := bbh aa hb; replace HB := bst hb; (try clear hb); (try clear a9); (try clear hk); (try clear hi)) | ((with_reducible refine gate_dst (N := 4) rfl ?_); refine box_ev ?_; intro aQ hg w9 hbox hb; have ay := am hbox; have aE := gwb hg; have aV := aE; have ab := nlt hg aa; have ac := ngt hg aa; replace aa := bbh aa hb; replace HB := bst hb; clear hb hbox hg; have aX := ac.1; have aY := ab.1; obtain ⟨aj, ak, aq, ar⟩ := cf2 ay.1; obtain ⟨al, ao, ap, au, av, aw⟩ := cf3 aa.1) | (go_at_call 38; (with_reducible refine (net_Plain.calls k az _ _ ae _ _ ax true _ ?side1 ?side2 ?side3 ?side4 A4.1).mono ?_); (case side1 => exact Kd.C_below ah.1 pbg); (case side2 => exact af.1); (case side3 => exact Kd.C_below ai.1 pbg); (case side4 => exact ag.1); rintro e a7 ⟨rfl, hb⟩; replace aa := bbx aa (fun h_ => by (with_reducible repeat (first | refine blk_drewN ?_ _ | refine blk_drew ?_ | refine blk_alloc ?_ _)); refine bf2 ?_ ab.1; exact pbk h_) hb; replace HB := bst hb; (try clear ay); (try clear hb); (try clear a9); (try clear hk); (try clear hi); have HX := am (show DInv w (a7.alloc (.cells #[.slice none 0 0] 32)) aN a7.heap.size #[.string az, .slice a3 ae.length a5, .slice a4 ax.length a6] [] from ⟨⟨.slice none 0 0, alloc_new _ _, Kd.R_nil _ _ _ _ _⟩, below_alloc HB.out _, HB.out.size, blk_below aa.out (below_alloc (Below.refl _ _) _)⟩); (try clear aG aH aI aJ aK aM aj ak aq ar al ao ap au av aw); (try clear aA aC aD); obtain ⟨aA, aC, aD, _, _, _⟩ := cf3 HX.out.bx) | (go_at_call 12; refine (workflow_Source.calls k _ _ _ _ _ _ _ _ _ _ (Kd.C_below ah.1 HX.1.B) af.1 (Kd.C_below ai.1 HX.1.B) ag.1 A5.1).mono ?_; rintro e w4 ⟨rfl, hb⟩; replace HX := am (HX.1.below hb); clear hb; (try clear aA aC aD); obtain ⟨aA, aC, aD, _, _, _⟩ := cf3 HX.out.bx) | (go_at_call 14; refine (workflow_Sink.calls k _ _ _ _ _ _ _ _ _ _ (Kd.C_below ah.1 HX.1.B) af.1 (Kd.C_below ai.1 HX.1.B) ag.1 A6.1).mono ?_; rintro e w4 ⟨rfl, hb⟩; replace HX := am (HX.1.below hb); clear hb; (try clear aA aC aD); obtain ⟨aA, aC, aD, _, _, _⟩ := cf3 HX.out.bx) | (go_at_call 39; refine (tell_at w _ _ _ _ _ _ _ HX.out (by simp)).mono ?_; rintro e w7 ⟨rfl, hx, hk⟩; replace HX := am hx; clear hx hk; (try clear aA aC aD); obtain ⟨aA, aC, aD, _, _, _⟩ := cf3 HX.out.bx; (try clear HT bb); obtain ⟨vt, aZ, aU⟩ := HX.out.t; have bb := cell_of_one aZ; have HT := am aU; clear aZ aU))))
    (try rw [Exit.noGoto_ret])
    go_ret2
    exact ⟨_, per, HT.out, HX.out.B⟩
   | true =>
    rw [if_pos rfl] at h
    obtain ⟨on, h3, h⟩ := Option.bind_eq_some_iff.mp h
    have A7 := am h3
    clear h3
    by_cases c6 : t1 = t2
    case pos =>
     rw [if_pos c6] at h
     have bm : (t1 == t2) = true := beq_iff_eq.mpr c6
     clear c6
     have bj := am h
     clear h
     go_enter Try.func18, Try.ntmps18
     have fl_ := trivial
     iterate 3 (try ((first | clear fl_ | go_step3); go_wp2_with (first | ((with_reducible refine gate_dst (N := 1) rfl ?_); refine box_ev ?_; intro aN hg w6 hbox hb; have aa := am hbox; have aW := gwl hg; replace HB := bsl hb; clear hb hbox hg; obtain ⟨aG, aH, aI, aJ, aK, aM⟩ := cf3 aa.1) | (go_at_call 37; (with_reducible refine (net_Check.calls k az _ _ ae _ _ ax aR aT _ ?side1 ?side2 ?side3 ?side4 A2.1).mono ?_); (case side1 => exact csb ah HB); (case side2 => exact af.1); (case side3 => exact csb ai HB); (case side4 => exact ag.1); rintro e w8 ⟨rfl, hb⟩; replace aa := bbh aa hb; replace HB := bst hb; (try clear hb); (try clear a9); (try clear hk); (try clear hi)) | ((with_reducible refine gate_dst (N := 4) rfl ?_); refine box_ev ?_; intro aQ hg w9 hbox hb; have ay := am hbox; have aE := gwb hg; have aV := aE; have ab := nlt hg aa; have ac := ngt hg aa; replace aa := bbh aa hb; replace HB := bst hb; clear hb hbox hg; have aX := ac.1; have aY := ab.1; obtain ⟨aj, ak, aq, ar⟩ := cf2 ay.1; obtain ⟨al, ao, ap, au, av, aw⟩ := cf3 aa.1) | (go_at_call 38; (with_reducible refine (net_Plain.calls k az _ _ ae _ _ ax true _ ?side1 ?side2 ?side3 ?side4 A4.1).mono ?_); (case side1 => exact Kd.C_below ah.1 pbg); (case side2 => exact af.1); (case side3 => exact Kd.C_below ai.1 pbg); (case side4 => exact ag.1); rintro e a7 ⟨rfl, hb⟩; replace aa := bbx aa (fun h_ => by (with_reducible repeat (first | refine blk_drewN ?_ _ | refine blk_drew ?_ | refine blk_alloc ?_ _)); refine bf2 ?_ ab.1; exact pbk h_) hb; replace HB := bst hb; (try clear ay); (try clear hb); (try clear a9); (try clear hk); (try clear hi); have HX := am (show DInv w (a7.alloc (.cells #[.slice none 0 0] 32)) aN a7.heap.size #[.string az, .slice a3 ae.length a5, .slice a4 ax.length a6] [] from ⟨⟨.slice none 0 0, alloc_new _ _, Kd.R_nil _ _ _ _ _⟩, below_alloc HB.out _, HB.out.size, blk_below aa.out (below_alloc (Below.refl _ _) _)⟩); (try clear aG aH aI aJ aK aM aj ak aq ar al ao ap au av aw); (try clear aA aC aD); obtain ⟨aA, aC, aD, _, _, _⟩ := cf3 HX.out.bx) | (go_at_call 12; refine (workflow_Source.calls k _ _ _ _ _ _ _ _ _ _ (Kd.C_below ah.1 HX.1.B) af.1 (Kd.C_below ai.1 HX.1.B) ag.1 A5.1).mono ?_; rintro e w4 ⟨rfl, hb⟩; replace HX := am (HX.1.below hb); clear hb; (try clear aA aC aD); obtain ⟨aA, aC, aD, _, _, _⟩ := cf3 HX.out.bx) | (go_at_call 14; refine (workflow_Sink.calls k _ _ _ _ _ _ _ _ _ _ (Kd.C_below ah.1 HX.1.B) af.1 (Kd.C_below ai.1 HX.1.B) ag.1 A6.1).mono ?_; rintro e w4 ⟨rfl, hb⟩; replace HX := am (HX.1.below hb); clear hb; (try clear aA aC aD); obtain ⟨aA, aC, aD, _, _, _⟩ := cf3 HX.out.bx) | (go_at_call 39; refine (tell_at w _ _ _ _ _ _ _ HX.out (by simp)).mono ?_; rintro e w7 ⟨rfl, hx, hk⟩; replace HX := am hx; clear hx hk; (try clear aA aC aD); obtain ⟨aA, aC, aD, _, _, _⟩ := cf3 HX.out.bx; (try clear HT bb); obtain ⟨vt, aZ, aU⟩ := HX.out.t; have bb := cell_of_one aZ; have HT := am aU; clear aZ aU) | (go_at_call 40; refine (workflow_onPath.calls k _ _ _ _ _ _ _ _ _ _ _ (Kd.C_below ah.1 HX.1.B) af.1 (Kd.C_below ai.1 HX.1.B) ag.1 A7.1).mono ?_; rintro e w4 ⟨vo, rfl, ho, hb⟩; have HO := am (Kd.R_lower ho HX.1.B.size); replace HX := am (HX.1.below hb); clear hb ho; (try clear aA aC aD); obtain ⟨aA, aC, aD, _, _, _⟩ := cf3 HX.out.bx; obtain ⟨Ao, co, rfl⟩ := Kd.R_slice HO.out))))
     go_loopg [60] k (fun kq bp w' => ∃ (i : Int) (ds : List (S50)), bp = .int .i64 i ∧ Aside0 (workflow_Problems.l0 kq on (ae.length : Int) i ds = some (r1, r2)) ∧ Aside0 (kq ≤ k) ∧ Aside0 (DInv w w' aN a7.heap.size #[.string az, .slice a3 ae.length a5, .slice a4 ax.length a6] ds) ∧ Aside0 (Kd.R Kd.bool 4 w' w.heap.size (fun _ => True) (.slice Ao on.length co) on))
     case atStart => exact ⟨0, [⟨3, t1⟩], rfl, bj, ⟨Nat.le_refl _⟩, HX, HO⟩
     clear bj HX HO
     obtain ⟨i, ds, rfl, HA, HK, HX, HO⟩ := hrel
     obtain _ | k1 := gk
     ·exact absurd HA.out (by simp [workflow_Problems.l0])
     have H := HA.out
     clear HA
     simp only [workflow_Problems.l0] at H
     obtain ⟨aA, aC, aD, _, _, _⟩ := cf3 HX.out.bx
     by_cases c8 : i < (on.length : Int)
     case neg =>
      rw [if_neg c8] at H
      have bh : decide (i < (on.length : Int)) = false := decide_eq_false c8
      clear c8
      simp only [Option.some.injEq, Prod.mk.injEq] at H
      obtain ⟨rfl, rfl⟩ := H
      obtain ⟨vt, aZ, aU⟩ := HX.out.t
      have bb := cell_of_one aZ
      have HT := am aU
      clear aZ aU
      have fl_ := trivial
      iterate 3 (try ((first | clear fl_ | go_step3); go_wp2))
      (try rw [Exit.noGoto_ret])
      go_ret2
      exact ⟨_, per, HT.out, HX.out.B⟩
     rw [if_pos c8] at H
     have bh : decide (i < (on.length : Int)) = true := decide_eq_true c8
     by_cases c9 : 0 ≤ i
     rotate_left
     ·rw [if_neg c9] at H
      exact absurd H (by simp)
     rw [if_pos c9] at H
     have p1 : 0 ≤ i := c9
     have q1 : i < (on.length : Int) := c8
     obtain ⟨bo, hbo⟩ : ∃ b, b = rdOf false on i := ⟨_, rfl⟩
     obtain ⟨br, e7, bn⟩ := Kd.at_bool (Kd.R_reads' HO.1).2.2 i p1 q1
     rw [← hbo] at bn H
     cases e7
     replace p1 := eq_true p1
     replace q1 := eq_true q1
     clear c8 c9 hbo
     cases bo with
     | true =>
      rw [if_pos rfl] at H
      have H' := am H
      clear H
      have fl_ := trivial
      iterate 3 (try ((first | clear fl_ | go_step3); go_wp2))
      go_roundg k1
      case measure => have := HK.1; omega
      case rel => exact ⟨(wrap64 (i + 1)), ds, prs, H', ⟨by have := HK.1; omega⟩, HX, HO⟩
     | false =>
      rw [if_neg Bool.false_ne_true] at H
      by_cases c10 : ds.length < 1000000
      rotate_left
      ·rw [if_neg c10] at H
       exact absurd H (by simp)
      rw [if_pos c10] at H
      have bi := am c10
      clear c10
      by_cases a8 : i < (ae.length : Int)
      case pos =>
       rw [if_pos a8] at H
       have ba : decide (i < (ae.length : Int)) = true := decide_eq_true a8
       clear a8
       have H' := am H
       clear H
       have fl_ := trivial
       iterate 3 (try ((first | clear fl_ | go_step3); go_wp2_with (first | (go_at_call 39; refine (tell_at w _ _ _ _ _ _ _ HX.out bi.out).mono ?_; rintro e w7 ⟨rfl, hx, hk⟩; replace HX := am hx; replace HO := am (hk _ _ HO.out); clear hx hk; (try clear aA aC aD); obtain ⟨aA, aC, aD, _, _, _⟩ := cf3 HX.out.bx))))
       go_roundg k1
       case measure => have := HK.1; omega
       case rel => exact ⟨(wrap64 (i + 1)), _, prs, H', ⟨by have := HK.1; omega⟩, HX, HO⟩
      case neg =>
       rw [if_neg a8] at H
       have ba : decide (i < (ae.length : Int)) = false := decide_eq_false a8
       clear a8
       have H' := am H
       clear H
       have fl_ := trivial
       iterate 3 (try ((first | clear fl_ | go_step3); go_wp2_with (first | (go_at_call 39; refine (tell_at w _ _ _ _ _ _ _ HX.out bi.out).mono ?_; rintro e w7 ⟨rfl, hx, hk⟩; replace HX := am hx; replace HO := am (hk _ _ HO.out); clear hx hk; (try clear aA aC aD); obtain ⟨aA, aC, aD, _, _, _⟩ := cf3 HX.out.bx))))
       go_roundg k1
       case measure => have := HK.1; omega
       case rel => exact ⟨(wrap64 (i + 1)), _, prs, H', ⟨by have := HK.1; omega⟩, HX, HO⟩
    case neg =>
     rw [if_neg c6] at h
     have bm : (t1 == t2) = false := beq_eq_false_iff_ne.mpr c6
     clear c6
     have bj := am h
     clear h
     go_enter Try.func18, Try.ntmps18
     have fl_ := trivial
     iterate 3 (try ((first | clear fl_ | go_step3); go_wp2_with (first | ((with_reducible refine gate_dst (N := 1) rfl ?_); refine box_ev ?_; intro aN hg w6 hbox hb; have aa := am hbox; have aW := gwl hg; replace HB := bsl hb; clear hb hbox hg; obtain ⟨aG, aH, aI, aJ, aK, aM⟩ := cf3 aa.1) | (go_at_call 37; (with_reducible refine (net_Check.calls k az _ _ ae _ _ ax aR aT _ ?side1 ?side2 ?side3 ?side4 A2.1).mono ?_); (case side1 => exact csb ah HB); (case side2 => exact af.1); (case side3 => exact csb ai HB); (case side4 => exact ag.1); rintro e w8 ⟨rfl, hb⟩; replace aa := bbh aa hb; replace HB := bst hb; (try clear hb); (try clear a9); (try clear hk); (try clear hi)) | ((with_reducible refine gate_dst (N := 4) rfl ?_); refine box_ev ?_; intro aQ hg w9 hbox hb; have ay := am hbox; have aE := gwb hg; have aV := aE; have ab := nlt hg aa; have ac := ngt hg aa; replace aa := bbh aa hb; replace HB := bst hb; clear hb hbox hg; have aX := ac.1; have aY := ab.1; obtain ⟨aj, ak, aq, ar⟩ := cf2 ay.1; obtain ⟨al, ao, ap, au, av, aw⟩ := cf3 aa.1) | (go_at_call 38; (with_reducible refine (net_Plain.calls k az _ _ ae _ _ ax true _ ?side1 ?side2 ?side3 ?side4 A4.1).mono ?_); (case side1 => exact Kd.C_below ah.1 pbg); (case side2 => exact af.1); (case side3 => exact Kd.C_below ai.1 pbg); (case side4 => exact ag.1); rintro e a7 ⟨rfl, hb⟩; replace aa := bbx aa (fun h_ => by (with_reducible repeat (first | refine blk_drewN ?_ _ | refine blk_drew ?_ | refine blk_alloc ?_ _)); refine bf2 ?_ ab.1; exact pbk h_) hb; replace HB := bst hb; (try clear ay); (try clear hb); (try clear a9); (try clear hk); (try clear hi); have HX := am (show DInv w (a7.alloc (.cells #[.slice none 0 0] 32)) aN a7.heap.size #[.string az, .slice a3 ae.length a5, .slice a4 ax.length a6] [] from ⟨⟨.slice none 0 0, alloc_new _ _, Kd.R_nil _ _ _ _ _⟩, below_alloc HB.out _, HB.out.size, blk_below aa.out (below_alloc (Below.refl _ _) _)⟩); (try clear aG aH aI aJ aK aM aj ak aq ar al ao ap au av aw); (try clear aA aC aD); obtain ⟨aA, aC, aD, _, _, _⟩ := cf3 HX.out.bx) | (go_at_call 12; refine (workflow_Source.calls k _ _ _ _ _ _ _ _ _ _ (Kd.C_below ah.1 HX.1.B) af.1 (Kd.C_below ai.1 HX.1.B) ag.1 A5.1).mono ?_; rintro e w4 ⟨rfl, hb⟩; replace HX := am (HX.1.below hb); clear hb; (try clear aA aC aD); obtain ⟨aA, aC, aD, _, _, _⟩ := cf3 HX.out.bx) | (go_at_call 14; refine (workflow_Sink.calls k _ _ _ _ _ _ _ _ _ _ (Kd.C_below ah.1 HX.1.B) af.1 (Kd.C_below ai.1 HX.1.B) ag.1 A6.1).mono ?_; rintro e w4 ⟨rfl, hb⟩; replace HX := am (HX.1.below hb); clear hb; (try clear aA aC aD); obtain ⟨aA, aC, aD, _, _, _⟩ := cf3 HX.out.bx) | (go_at_call 40; refine (workflow_onPath.calls k _ _ _ _ _ _ _ _ _ _ _ (Kd.C_below ah.1 HX.1.B) af.1 (Kd.C_below ai.1 HX.1.B) ag.1 A7.1).mono ?_; rintro e w4 ⟨vo, rfl, ho, hb⟩; have HO := am (Kd.R_lower ho HX.1.B.size); replace HX := am (HX.1.below hb); clear hb ho; (try clear aA aC aD); obtain ⟨aA, aC, aD, _, _, _⟩ := cf3 HX.out.bx; obtain ⟨Ao, co, rfl⟩ := Kd.R_slice HO.out))))
     go_loopg [60] k (fun kq bp w' => ∃ (i : Int) (ds : List (S50)), bp = .int .i64 i ∧ Aside0 (workflow_Problems.l0 kq on (ae.length : Int) i ds = some (r1, r2)) ∧ Aside0 (kq ≤ k) ∧ Aside0 (DInv w w' aN a7.heap.size #[.string az, .slice a3 ae.length a5, .slice a4 ax.length a6] ds) ∧ Aside0 (Kd.R Kd.bool 4 w' w.heap.size (fun _ => True) (.slice Ao on.length co) on))
     case atStart => exact ⟨0, _, rfl, bj, ⟨Nat.le_refl _⟩, HX, HO⟩
     clear bj HX HO
     obtain ⟨i, ds, rfl, HA, HK, HX, HO⟩ := hrel
     obtain _ | k1 := gk
     ·exact absurd HA.out (by simp [workflow_Problems.l0])
     have H := HA.out
     clear HA
     simp only [workflow_Problems.l0] at H
     obtain ⟨aA, aC, aD, _, _, _⟩ := cf3 HX.out.bx
     by_cases c8 : i < (on.length : Int)
     case neg =>
      rw [if_neg c8] at H
      have bh : decide (i < (on.length : Int)) = false := decide_eq_false c8
      clear c8
      simp only [Option.some.injEq, Prod.mk.injEq] at H
      obtain ⟨rfl, rfl⟩ := H
      obtain ⟨vt, aZ, aU⟩ := HX.out.t
      have bb := cell_of_one aZ
      have HT := am aU
      clear aZ aU
      have fl_ := trivial
      iterate 3 (try ((first | clear fl_ | go_step3); go_wp2))
      (try rw [Exit.noGoto_ret])
      go_ret2
      exact ⟨_, per, HT.out, HX.out.B⟩
     rw [if_pos c8] at H
     have bh : decide (i < (on.length : Int)) = true := decide_eq_true c8
     by_cases c9 : 0 ≤ i
     rotate_left
     ·rw [if_neg c9] at H
      exact absurd H (by simp)
     rw [if_pos c9] at H
     have p1 : 0 ≤ i := c9
     have q1 : i < (on.length : Int) := c8
     obtain ⟨bo, hbo⟩ : ∃ b, b = rdOf false on i := ⟨_, rfl⟩
     obtain ⟨br, e7, bn⟩ := Kd.at_bool (Kd.R_reads' HO.1).2.2 i p1 q1
     rw [← hbo] at bn H
     cases e7
     replace p1 := eq_true p1
     replace q1 := eq_true q1
     clear c8 c9 hbo
     cases bo with
     | true =>
      rw [if_pos rfl] at H
      have H' := am H
      clear H
      have fl_ := trivial
      iterate 3 (try ((first | clear fl_ | go_step3); go_wp2))
      go_roundg k1
      case measure => have := HK.1; omega
      case rel => exact ⟨(wrap64 (i + 1)), ds, prs, H', ⟨by have := HK.1; omega⟩, HX, HO⟩
     | false =>
      rw [if_neg Bool.false_ne_true] at H
      by_cases c10 : ds.length < 1000000
      rotate_left
      ·rw [if_neg c10] at H
       exact absurd H (by simp)
      rw [if_pos c10] at H
      have bi := am c10
      clear c10
      by_cases a8 : i < (ae.length : Int)
      case pos =>
       rw [if_pos a8] at H
       have ba : decide (i < (ae.length : Int)) = true := decide_eq_true a8
       clear a8
       have H' := am H
       clear H
       have fl_ := trivial
       iterate 3 (try ((first | clear fl_ | go_step3); go_wp2_with (first | (go_at_call 39; refine (tell_at w _ _ _ _ _ _ _ HX.out bi.out).mono ?_; rintro e w7 ⟨rfl, hx, hk⟩; replace HX := am hx; replace HO := am (hk _ _ HO.out); clear hx hk; (try clear aA aC aD); obtain ⟨aA, aC, aD, _, _, _⟩ := cf3 HX.out.bx))))
       go_roundg k1
       case measure => have := HK.1; omega
       case rel => exact ⟨(wrap64 (i + 1)), _, prs, H', ⟨by have := HK.1; omega⟩, HX, HO⟩
      case neg =>
       rw [if_neg a8] at H
       have ba : decide (i < (ae.length : Int)) = false := decide_eq_false a8
       clear a8
       have H' := am H
       clear H
       have fl_ := trivial
       iterate 3 (try ((first | clear fl_ | go_step3); go_wp2_with (first | (go_at_call 39; refine (tell_at w _ _ _ _ _ _ _ HX.out bi.out).mono ?_; rintro e w7 ⟨rfl, hx, hk⟩; replace HX := am hx; replace HO := am (hk _ _ HO.out); clear hx hk; (try clear aA aC aD); obtain ⟨aA, aC, aD, _, _, _⟩ := cf3 HX.out.bx))))
       go_roundg k1
       case measure => have := HK.1; omega
       case rel => exact ⟨(wrap64 (i + 1)), _, prs, H', ⟨by have := HK.1; omega⟩, HX, HO⟩

/-! ### workflow_Is: function 16 -/
def workflow_Is.f (k : Nat) (ae : ByteArray) (ab : List (S52)) (ac : List (S48)) : Option (Bool) := (workflow_Problems.f k ae ab ac).bind fun al => (if al.2 = 0 then (some ((al.1.length : Int) == 0)) else (some false))
theorem workflow_Is.mono : ∀ a0 a1 a2 k, LeO (workflow_Is.f k a0 a1 a2) (workflow_Is.f (k + 1) a0 a1 a2) := by
 intro a0 a1 a2 k
 unfold workflow_Is.f
 repeat' first | (with_reducible first | apply workflow_Problems.mono | apply lr | apply ln | apply li | refine lb ?_ fun _ => ?_)
set_option maxHeartbeats 8000000 in
set_option maxRecDepth 100000 in
theorem workflow_Is.calls (k : Nat) (ae : ByteArray) (au : Option Addr) (ax : Nat) (ab : List (S52)) (av : Option Addr) (ay : Nat) (ac : List (S48)) (r : Bool) (w : World) (aq : Kd.C k52 w au ab.length ab) (ao : ab.length ≤ ax) (ar : Kd.C k48 w av ac.length ac) (ap : ac.length ≤ ay) (h : workflow_Is.f k ae ab ac = some r) :
  Calls Try.prog 16 #[.agg #[.string ae, .slice au ab.length ax, .slice av ac.length ay]] w fun e w' => e = .returned (.bool r) ∧ Below w.heap.size w w' := by
 have aH := Try.underlying25
 have aj := am aq
 have ag := am ao
 clear aq ao
 have ak := am ar
 have ah := am ap
 clear ar ap
 have HB := am (Below.refl w.heap.size w)
 have H := h
 unfold workflow_Is.f at H
 clear h
 replace H := bnd H
 obtain ⟨⟨aB, aC⟩, A2, H⟩ := H
 (try dsimp only at H)
 replace H := ife H
 rcases H with ⟨aD, aE, H⟩ | ⟨aD, aE, H⟩
 rotate_left
 ·obtain rfl := Option.some.inj H
  go_enter Try.func16, Try.ntmps16
  go_wp2_with (first | ((with_reducible refine gate_dst (N := 1) rfl ?_); (try (refine gate_guard (by rfl) ?_; dsimp only)); refine box_ev ?_; intro az hg w8 hbox hb; have aa := am hbox; have af := gwl hg; have aw := af; replace HB := bsl hb; clear hb hbox hg; have z9 := cf3 aa.1) | ((with_reducible refine gate_callee (f := 18) rfl ?_); refine gC 7 Try.func18 _ (workflow_Problems.calls k ae _ _ ab _ _ ac aB aC _ (csb aj HB) ag.1 (csb ak HB) ah.1 A2.1) ?_; rintro e aK ⟨aF, rfl, aA, hb⟩; refine ⟨_, rfl, ?_⟩; have ai := am (Kd.R_lower aA (below_size pbg)); replace aa := bbh aa hb; replace HB := bst hb; (try clear hb); (try clear aA)))
  go_ret
  exact ⟨per, pbg⟩
 obtain rfl := Option.some.inj H
 go_enter Try.func16, Try.ntmps16
 go_wp2_with (first | ((with_reducible refine gate_dst (N := 1) rfl ?_); (try (refine gate_guard (by rfl) ?_; dsimp only)); refine box_ev ?_; intro az hg w4 hbox hb; have aa := am hbox; have af := gwl hg; have aw := af; replace HB := bsl hb; clear hb hbox hg; have z5 := cf3 aa.1) | ((with_reducible refine gate_callee (f := 18) rfl ?_); refine gC 7 Try.func18 _ (workflow_Problems.calls k ae _ _ ab _ _ ac aB aC _ (csb aj HB) ag.1 (csb ak HB) ah.1 A2.1) ?_; rintro e w6 ⟨aF, rfl, aA, hb⟩; refine ⟨_, rfl, ?_⟩; have ai := am (Kd.R_lower aA (below_size pbg)); replace aa := bbh aa hb; replace HB := bst hb; (try clear hb); (try clear aA); obtain ⟨aI, aJ, aG⟩ := Kd.R_slice ai.1; subst aG))
 go_ret
 exact ⟨per, pbg⟩

/-! ### workflow_arcs: function 44 -/
-- IMPORTS Derived.Test.YtnoebjmhimehcaaCopyS
def workflow_arcs.f (l0 : List (S55)) : Option (List (S55)) := if l0.length ≤ 1000000 then some l0 else none
def arcCells (x : S55) : List Value := [.int .i64 x.f0, .int .i64 x.f1]
theorem arcCells_one (x : S55) : ∀ u ∈ arcCells x, u.oneCell' = true := by
 intro u hu
 unfold arcCells at hu
 simp at hu
 rcases hu with rfl | rfl <;> rfl
set_option maxHeartbeats 1000000 in
set_option maxRecDepth 100000 in
theorem workflow_arcs.calls (A0 : Option Addr) (c0 : Nat) (l0 : List (S55)) (r : List (S55)) (w : World) (ab : Kd.C k55 w A0 l0.length l0) (hc0 : l0.length ≤ c0) (h : workflow_arcs.f l0 = some r) :
  Calls Try.prog 44 #[.slice A0 l0.length c0] w fun e w' => ∃ v0_ : Value, e = .returned (v0_) ∧ Kd.R k55 55 w' w.heap.size (fun _ => True) v0_ r ∧ Below w.heap.size w w' := by
 have HR := Aside0.mk ab
 have HC := Aside0.mk hc0
 unfold workflow_arcs.f at h
 by_cases c : l0.length ≤ 1000000
 case neg => rw [if_neg c] at h; cases h
 rw [if_pos c] at h
 obtain rfl := Option.some.inj h
 have HL := Aside0.mk c
 have hz : (0 : Int) ≤ (l0.length : Int) := Int.natCast_nonneg _
 have HZ := Aside0.mk hz
 clear ab hc0 h c hz
 go_enter Try.func44, Try.ntmps44
 go_wp2_with (first
  | ((with_reducible refine gate_dst (N := 6) rfl ?_); refine Kd.R_make (w0 := w) k55 w.heap.size 55 rfl (N := 6) rfl 46 _ _ rfl (l0.length : Int) rfl rfl Try.underlying46 (.agg #[.int .i64 0, .int .i64 0]) 16 info55 rfl (by decide) (by omega) z55 (ok := fun _ => True) (okp := fun _ => True) (k55_mkM _ _ _ z55) (fun _ hk => hk) trivial HZ.out (by have := HL.out; omega) (Below.refl _ _) (Nat.le_refl _) ?_; intro v1 w1 ho hb hg hnew; rw [Int.toNat_natCast] at ho; have HO := Aside0.mk ho; have HB := Aside0.mk hb; have HN := Aside0.mk (show v1.ownBlock ≠ none by obtain ⟨b, aa, _⟩ := hnew; rw [aa]; simp); have ag := Aside0.mk (Kd.C_below HR.out hb); have HSZ := Aside0.mk hb.size; clear ho hb hg hnew)
  | ((with_reducible refine gate_builtin (b := .copy) (xs := #[.tmp 7, .tmp 8]) rfl ?_); refine R_copyS (w0 := w) arcCells (fun _ => rfl) (fun hk => k55_open hk) (k55_mkM _ _ _ _) arcCells_one w.heap.size rfl (.tmp 7) (.tmp 8) 46 46 rfl Try.underlying46 (by kernel_rfl) rfl rfl HO.out HN.out List.length_replicate ag.out HB.out HSZ.out ?_; intro w2 n ac aa ah; have af := Aside0.mk ac; have ae := Aside0.mk aa; clear ac aa ah))
 go_ret
 exact ⟨_, rfl, af.out, ae.out⟩

end Go.Proofs.Ytnoebjmhimehcaa.P
