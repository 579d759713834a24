-- LAID BY OUR PROGRAM OVER THE PRINT (xprint.py, part.py): Lean checks it.
import Derived.Test.YtaoogghpadifiaaPx0
import Derived.Test.YtaoogghpadifiaaPx1
import Derived.Test.YtaoogghpadifiaaPx2
import Derived.Test.YtaoogghpadifiaaPx3
import Derived.Test.YtaoogghpadifiaaPx4
import Derived.Test.YtaoogghpadifiaaPx7
import Derived.Test.YtaoogghpadifiaaPx8
import Derived.Test.YtaoogghpadifiaaPx17
import Derived.Test.YtaoogghpadifiaaPx19
namespace Go.Proofs.Ytaoogghpadifiaa.P
open Go.RowKit Go.Proofs.YtaoogghpadifiaaW.PrintWords Go.Proofs.YtaoogghpadifiaaW.PrintLast Go.Proofs.YtaoogghpadifiaaW.PrintMore
attribute [local go_sem] max2_int min2_int max_two min_two max_three min_three max_four min_four   -- for this text's walks alone
set_option maxHeartbeats 8000000
set_option maxRecDepth 100000
set_option linter.unusedVariables false
set_option linter.unusedSimpArgs false

/-! ### qBF: function 28 -/
mutual
def qBF.j0 : Nat → Int → Bool → ByteArray → List (S64) → List (S38) → Option ((List (List Int)) × (List (S59)) × Bool × Int)
 | 0, _, _, _, _, _ => none
 | k + 1, x1, iF, aG, az, aH => if iF = true then (some (([] : List (List Int)), ([] : List (S59)), false, 1)) else (qBF.l0 k x1 ([] : List Int) 0 aG az aH)
def qBF.l0 : Nat → Int → List Int → Int → ByteArray → List (S64) → List (S38) → Option ((List (List Int)) × (List (S59)) × Bool × Int)
 | 0, _, _, _, _, _, _ => none
 | k + 1, x1, x7, x8, aG, az, aH => if x8 < (az.length : Int) then (if 0 ≤ x8 then (if x7.length < 17592186044416 then (qBF.l0 k x1 (x7 ++ [(rd_T64 az x8).f1]) (wrap64 (x8 + 1)) aG az aH) else (none)) else (none)) else (qBF.l1 k x1 0 aG az aH (([x7] : List (List Int))) ([] : List (S59)) true)
def qBF.l1 : Nat → Int → Int → ByteArray → List (S64) → List (S38) → List (List Int) → List (S59) → Bool → Option ((List (List Int)) × (List (S59)) × Bool × Int)
 | 0, _, _, _, _, _, _, _, _ => none
 | k + 1, x1, x10, aG, az, aH, aA, aW, a5 => if x10 < (aA.length : Int) then (if 0 ≤ x10 then ((r11_Fires.f k aG az aH (rd_L11 aA x10)).bind fun aM => (qBF.l2 k x1 x10 aM 0 aG az aH aA aW a5)) else (none)) else (some (aA, aW, a5, 0))
def qBF.l2 : Nat → Int → Int → List Int → Int → ByteArray → List (S64) → List (S38) → List (List Int) → List (S59) → Bool → Option ((List (List Int)) × (List (S59)) × Bool × Int)
 | 0, _, _, _, _, _, _, _, _, _, _ => none
 | k + 1, x1, x10, x11, x12, aG, az, aH, aA, aW, a5 => if x12 < (x11.length : Int) then (if 0 ≤ x10 then (if x10 < (aA.length : Int) then (if 0 ≤ x12 then ((r11_After.f k aG az aH (rd_L11 aA x10) (rd x11 x12)).bind fun b3 => (if b3.2 = true then ((r14_Find.f k aA b3.1).bind fun bH => (if bH < 0 then (qBF.j4 k x1 x10 x11 x12 b3.1 bH (decide ((aA.length : Int) ≥ x1)) aG az aH aA aW a5) else (qBF.j4 k x1 x10 x11 x12 b3.1 bH false aG az aH aA aW a5))) else (some (([] : List (List Int)), ([] : List (S59)), false, 3)))) else (none)) else (none)) else (none)) else (qBF.l1 k x1 (wrap64 (x10 + 1)) aG az aH aA aW a5)
def qBF.j4 : Nat → Int → Int → List Int → Int → List Int → Int → Bool → ByteArray → List (S64) → List (S38) → List (List Int) → List (S59) → Bool → Option ((List (List Int)) × (List (S59)) × Bool × Int)
 | 0, _, _, _, _, _, _, _, _, _, _, _, _, _ => none
 | k + 1, x1, x10, x11, x12, x13, x15, iG, aG, az, aH, aA, aW, a5 => if iG = true then (qBF.l2 k x1 x10 x11 (wrap64 (x12 + 1)) aG az aH aA aW false) else (if x15 < 0 then (if aA.length < 5864062014805 then (if 0 ≤ x12 then (if x12 < (x11.length : Int) then (if aW.length < 5864062014805 then (qBF.l2 k x1 x10 x11 (wrap64 (x12 + 1)) aG az aH (aA ++ [x13]) (aW ++ [(⟨x10, rd x11 x12, (aA.length : Int)⟩ : S59)]) a5) else (none)) else (none)) else (none)) else (none)) else (if 0 ≤ x12 then (if x12 < (x11.length : Int) then (if aW.length < 5864062014805 then (qBF.l2 k x1 x10 x11 (wrap64 (x12 + 1)) aG az aH aA (aW ++ [(⟨x10, rd x11 x12, x15⟩ : S59)]) a5) else (none)) else (none)) else (none)))
end
def qBF.f (k : Nat) (aR : ByteArray) (aE : List (S64)) (aN : List (S38)) (a1 : Int) : Option ((List (List Int)) × (List (S59)) × Bool × Int) := (r09_Check.f k aR aE aN).bind fun cP => (if cP.1 = 0 then (if a1 < 1 then (qBF.j0 k a1 true aR aE aN) else (qBF.j0 k a1 (decide (a1 > 20000)) aR aE aN)) else (some (([] : List (List Int)), ([] : List (S59)), false, cP.1)))
def qBF.T15 : Bool × List (List Nat × List Nat) := (true, [([], []), ([], []), ([1], [1]), ([], []), ([2, 3], [2, 3]), ([4], [4]), ([0, 5], [0, 5]), ([6, 6, 0, 1, 2, 3, 4, 5, 6], [6])])
def qBF.B15 : List Nat := [0, 0, 2, 0, 14, 30, 63, 127]
theorem qBF.tab15 : rtab .any (opsOf Try.f28 15) = qBF.T15 := by kernel_rfl
theorem qBF.bits15 : waitsOk qBF.T15.2 qBF.B15 = true := by kernel_rfl
def qBF.T19 : Bool × List (List Nat × List Nat) := (true, [([], []), ([], []), ([1], [1]), ([], []), ([2, 3], [2, 3]), ([4], [4]), ([], []), ([], []), ([6, 7], [6, 7]), ([8], [8]), ([0, 5, 9], [0, 5, 9]), ([10], [10]), ([11], [11]), ([11], [11]), ([12, 10, 0, 1, 2, 3, 4, 5, 6, 7, 8, 9, 10, 11, 12], [12]), ([13, 14, 0, 1, 2, 3, 4, 5, 6, 7, 8, 9, 10, 11, 12, 13, 14], [13])])
def qBF.B19 : List Nat := [0, 0, 2, 0, 14, 30, 0, 0, 192, 448, 1023, 2047, 4095, 4095, 8191, 32767]
theorem qBF.tab19 : rtab .any (opsOf Try.f28 19) = qBF.T19 := by kernel_rfl
theorem qBF.bits19 : waitsOk qBF.T19.2 qBF.B19 = true := by kernel_rfl
def qBF.T28 : Bool × List (List Nat × List Nat) := (true, [([], []), ([0], [0]), ([], []), ([], []), ([], []), ([3, 4], [3, 4]), ([5], [5]), ([], []), ([2, 6, 7], [2, 6, 7]), ([8], [8]), ([1, 9], [1, 9]), ([0, 1, 2, 3, 4, 5, 6, 7, 8, 9, 10], []), ([11, 10, 10, 0, 1, 2, 3, 4, 5, 6, 7, 8, 9, 10], [10, 11])])
def qBF.B28 : List Nat := [0, 1, 0, 0, 0, 24, 56, 0, 252, 508, 1023, 2047, 4095]
theorem qBF.tab28 : rtab .any (opsOf Try.f28 28) = qBF.T28 := by kernel_rfl
theorem qBF.bits28 : waitsOk qBF.T28.2 qBF.B28 = true := by kernel_rfl
theorem qBF.calls (k : Nat) (aR : ByteArray) (bf : Option Addr) (bj : Nat) (aE : List (S64)) (bg : Option Addr) (bk : Nat) (aN : List (S38)) (a1 : Int) (r1 : List (List Int)) (r2 : List (S59)) (r3 : Bool) (r4 : Int) (w : World) (cV : Kd.C k64 w bf aE.length aE) (cT : aE.length ≤ bj) (cW : Kd.C k38 w bg aN.length aN) (cU : aN.length ≤ bk) (h : qBF.f k aR aE aN a1 = some (r1, r2, r3, r4)) :
  Calls Try.prog 28 #[.agg #[.string aR, .slice bf aE.length bj, .slice bg aN.length bk], .int .i64 a1] w fun e w' => ∃ v0_ v1_ : Value, e = .returned (.tuple #[.agg #[v0_, v1_, .bool r3], .int .i64 r4]) ∧ Kd.N (Kd.slice 3 (Kd.int .i64)) 39 w' w.heap.size (fun k_ => (w.heap.size ≤ k_) ∧ some k_ ≠ (v1_ : Value).ownBlock) v0_ r1 ∧ Kd.R k59 59 w' w.heap.size (fun k_ => (w.heap.size ≤ k_)) v1_ r2 ∧ Below w.heap.size w w' := by
 have ia := Try.underlying25
 have ic := Try.underlying53
 have ib := Try.underlying48
 have ie := Try.underlying59
 have bK := am cV
 have bW := am cT
 clear cV cT
 have bY := am cW
 have bX := am cU
 clear cW cU
 have HB := am (Below.refl w.heap.size w)
 have H := h
 unfold qBF.f at H
 clear h
 replace H := bnd H
 obtain ⟨⟨bm, bn⟩, A3, H⟩ := H
 (try dsimp only at H)
 replace H := ife H
 rcases H with ⟨cb, cd, H⟩ | ⟨cb, cd, H⟩
 rotate_left
 ·simp only [Option.some.injEq, Prod.mk.injEq] at H
  obtain ⟨rfl, rfl, rfl, rfl⟩ := H
  go_enter Try.func28, Try.ntmps28
  try go_wp2_with (first | ((with_reducible refine qBN (N := 2) rfl ?_); (try (refine qBP (by rfl) ?_; dsimp only)); refine box_ev ?_; intro aw hg iz hbox hb; have ac := am hbox; have cm := gwl hg; have dr := cm; replace HB := bsl hb; clear hb hbox hg) | ((with_reducible refine qBN (N := 4) rfl ?_); (try (refine qBP (by rfl) ?_; dsimp only)); refine box_ev (N := 4) (cs := #[.slice none 0 0, .slice none 0 0, .bool false]) (t := 53) ?_; intro ar hg iA hbox hb; have af := am hbox; have cn := gwb hg; have dt := cn; have aI := nlt hg ac; have aJ := ngt hg ac; replace ac := bbh ac hb; replace HB := bst hb; clear hb hbox hg; have fa := aI.1; have fl := aJ.1; have hD := cf3 ac.1) | ((with_reducible refine qBO (f := 34) rfl ?_); refine gC 17 Try.func34 _ (r09_Check.calls k aR _ _ aE _ _ aN bm bn _ (csb bK HB) bW.1 (csb bY HB) bX.1 A3.1) ?_; rintro e iB ⟨rfl, hb⟩; refine ⟨_, rfl, ?_⟩; replace ac := bbh ac hb; replace af := bbh af hb; replace HB := bst hb; (try clear hb)) | ((with_reducible refine qBN (N := 6) rfl ?_); (try (refine qBP (by rfl) ?_; dsimp only)); refine box_ev ?_; intro ao hg cD hbox hb; have ah := am hbox; have co := gwb hg; have du := co; have aX := nlt hg ac; have a9 := ngt hg ac; have aC := nlt hg af; have aK := ngt hg af; replace ac := bbh ac hb; replace af := bbh af hb; replace HB := bst hb; clear hb hbox hg; have fb := a9.1; have fm := aX.1; have fc := aK.1; have fo := aC.1; have hG := cf2 ah.1))
  have n0_ : Aside0 (((cD.setCell ⟨ao, 0, none⟩ (.int .i64 bm)).setCell ⟨ao, 1, none⟩ (.int .i64 bn)).heap[aw]? = some (.cells #[.string aR, .slice bf aE.length bj, .slice bg aN.length bk] 25 (0, 0))) := ⟨by (with_reducible repeat (first | refine qBK ?_ _ | refine qBM ?_ | refine qBL ?_ _)); refine bf2 ?_ aX.1; exact pbk ac.1⟩
  have n1_ : Aside0 (((cD.setCell ⟨ao, 0, none⟩ (.int .i64 bm)).setCell ⟨ao, 1, none⟩ (.int .i64 bn)).heap[ar]? = some (.cells #[.slice none 0 0, .slice none 0 0, .bool false] 53 (0, 0))) := ⟨by (with_reducible repeat (first | refine qBK ?_ _ | refine qBM ?_ | refine qBL ?_ _)); refine bf2 ?_ aC.1; exact pbk af.1⟩
  have n2_ : Aside0 (((cD.setCell ⟨ao, 0, none⟩ (.int .i64 bm)).setCell ⟨ao, 1, none⟩ (.int .i64 bn)).heap[ao]? = some (.cells #[.int .i64 bm, .int .i64 bn] 48 (0, 0))) := ⟨by (with_reducible repeat (first | refine qBK ?_ _ | refine qBM ?_ | refine qBL ?_ _)); exact bp2 (pbk ah.1)⟩
  have n3_ : Aside0 (Below w.heap.size w ((cD.setCell ⟨ao, 0, none⟩ (.int .i64 bm)).setCell ⟨ao, 1, none⟩ (.int .i64 bn))) := ⟨pbg⟩
  (try clear ac)
  (try clear af)
  (try clear ah)
  (try clear HB)
  generalize ((cD.setCell ⟨ao, 0, none⟩ (.int .i64 bm)).setCell ⟨ao, 1, none⟩ (.int .i64 bn)) = fy at n0_ n1_ n2_ n3_ ⊢
  have ac := n0_
  have af := n1_
  have ah := n2_
  have HB := n3_
  clear n0_ n1_ n2_ n3_
  replace ac := am (qBM ac.1)
  replace af := am (qBM af.1)
  replace ah := am (qBM ah.1)
  replace HB := am (qCB HB.1)
  refine start_ (n := 5) (S := fun w' => w'.cell? ⟨ao, 0, none⟩ = some (.int .i64 bm) ∧ w'.cell? ⟨ao, 1, none⟩ = some (.int .i64 bn)) (ds := []) #[false, false, false, false, false] (by kernel_rfl) rfl rfl ⟨(qBI ah.1 0).trans rfl, (qBI ah.1 1).trans rfl⟩ (fun hHeld => ?_)
  generalize fy.drew = df at ac af ah HB hHeld ⊢
  refine pure_ (i := 0) (N := some 21) (v := ?_) (a' := ?_) #[true, false, false, false, false] rfl rfl (by kernel_rfl) (fun _ _ _ h => h) (Or.inl ⟨by rfl, ?_⟩) ?_ ?_
  rotate_left
  ·intro w'
   go_simp
   with_reducible rfl
  rotate_left
  ·simp only [Act.put, List.setIfInBounds_toArray, List.set_cons_zero, List.set_cons_succ, i64_w, i32_w]
   rfl
  refine pure_ (i := 1) (N := some 22) (v := ?_) (a' := ?_) #[true, true, false, false, false] rfl rfl (by kernel_rfl) (fun _ _ _ h => h) (Or.inl ⟨by rfl, ?_⟩) ?_ ?_
  rotate_left
  ·intro w'
   go_simp
   with_reducible rfl
  rotate_left
  ·simp only [Act.put, List.setIfInBounds_toArray, List.set_cons_zero, List.set_cons_succ, i64_w, i32_w]
   rfl
  refine take_ (i := 2) (N := some 23) (v := ?_) (a' := ?_) #[true, true, true, false, false] rfl rfl (by kernel_rfl) (fun _ _ _ h => h) (Or.inl ⟨by rfl, ?_⟩) hHeld ?_ ?_
  rotate_left
  ·rintro w' ⟨s0, s1⟩
   go_simp
   with_reducible rfl
  rotate_left
  ·simp only [Act.put, List.setIfInBounds_toArray, List.set_cons_zero, List.set_cons_succ, i64_w, i32_w]
   rfl
  refine one_ (i := 3) (N := none) #[true, true, true, true, false] rfl rfl (by kernel_rfl) (by decide) (fun K hK => ?_)
  have gZ : df.cell? ⟨ar, 0, none⟩ = some (.slice none 0 0) := (qBI af.1 0).trans rfl
  have eW := qCJ af.1 0
  have d9 := aI.1
  have ea := aK.1
  have d3 := aJ.1
  have d4 := aC.1
  have g4 : df.cell? ⟨ar, 1, none⟩ = some (.slice none 0 0) := (qBI af.1 1).trans rfl
  have eX := qCJ af.1 1
  have ec := aI.1
  have ed := aK.1
  have d5 := aJ.1
  have d6 := aC.1
  have g5 : df.cell? ⟨ar, 2, none⟩ = some (.bool false) := (qBI af.1 2).trans rfl
  have eY := qCJ af.1 2
  have ee := aI.1
  have ef := aK.1
  have d7 := aJ.1
  have d8 := aC.1
  refine skip_ (w1 := ?_) (by rfl) rfl ?_ ?_
  rotate_left
  ·go_simp
   rfl
  refine hK.out _ _ ⟨((far3 aK.1).trans (hHeld.1)), ((far3 aK.1).trans (hHeld.2))⟩ (fun hHeld => ?_)
  clear hK K
  refine pure_ (i := 4) (N := some 5) (v := ?_) (a' := ?_) #[true, true, true, true, true] rfl rfl (by kernel_rfl) (fun _ _ _ h => h) (Or.inl ⟨by rfl, ?_⟩) ?_ ?_
  rotate_left
  ·intro w'
   go_simp
   with_reducible rfl
  rotate_left
  ·simp only [Act.put, List.setIfInBounds_toArray, List.set_cons_zero, List.set_cons_succ, i64_w, i32_w]
   rfl
  refine done_ (by kernel_rfl) ?_
  try go_wp2
  refine bodyPost_ret (results_ct rfl _ _ ar 53 #[.slice none 0 0, .slice none 0 0, .bool false] (0, 0) _ rfl (by (with_reducible repeat (first | refine qBK ?_ _ | refine qBM ?_ | refine qBL ?_ _)); exact bp3 (pbk af.1)) Try.underlying53 rfl (by kernel_rfl)) rfl ?_
  exact ⟨_, _, per, knl, knl, pbg⟩
 have eF := am H
 clear H
 go_enter Try.func28, Try.ntmps28
 go_upto_region 4 with (first | ((with_reducible refine qBN (N := 2) rfl ?_); (try (refine qBP (by rfl) ?_; dsimp only)); refine box_ev ?_; intro aw hg w6 hbox hb; have ac := am hbox; have cm := gwl hg; have dr := cm; replace HB := bsl hb; clear hb hbox hg) | ((with_reducible refine qBN (N := 4) rfl ?_); (try (refine qBP (by rfl) ?_; dsimp only)); refine box_ev (N := 4) (cs := #[.slice none 0 0, .slice none 0 0, .bool false]) (t := 53) ?_; intro ar hg w7 hbox hb; have af := am hbox; have cn := gwb hg; have dt := cn; have aI := nlt hg ac; have aJ := ngt hg ac; replace ac := bbh ac hb; replace HB := bst hb; clear hb hbox hg; have hV := aI.1; have hX := aJ.1; have el := cf3 ac.1) | ((with_reducible refine qBO (f := 34) rfl ?_); refine gC 17 Try.func34 _ (r09_Check.calls k aR _ _ aE _ _ aN bm bn _ (csb bK HB) bW.1 (csb bY HB) bX.1 A3.1) ?_; rintro e iN ⟨rfl, hb⟩; refine ⟨_, rfl, ?_⟩; replace ac := bbh ac hb; replace af := bbh af hb; replace HB := bst hb; (try clear hb)) | ((with_reducible refine qBN (N := 6) rfl ?_); (try (refine qBP (by rfl) ?_; dsimp only)); refine box_ev ?_; intro ao hg iO hbox hb; have ah := am hbox; have co := gwb hg; have du := co; have aX := nlt hg ac; have a9 := ngt hg ac; have aC := nlt hg af; have aK := ngt hg af; replace ac := bbh ac hb; replace af := bbh af hb; replace HB := bst hb; clear hb hbox hg; have fZ := a9.1; have gy := aX.1; have f5 := aK.1; have gz := aC.1; have cE := cf2 ah.1))
 (try simp only [Act.put, List.setIfInBounds_toArray, List.set_cons_zero, List.set_cons_succ])
 go_cut [29] (fun io wc => ∃ (kq : Nat) (b9 : Bool), io = .bool b9 ∧ Aside0 (qBF.j0 kq a1 b9 aR aE aN = some (r1, r2, r3, r4)) ∧ Aside0 (kq ≤ k) ∧ Aside0 (wc.heap[aw]? = some (.cells #[.string aR, (.slice bf aE.length bj), (.slice bg aN.length bk)] 25 (0, 0))) ∧ Aside0 (wc.heap[ar]? = some (.cells #[(.slice none 0 0), (.slice none 0 0), .bool false] 53 (0, 0))) ∧ Aside0 (wc.heap[ao]? = some (.cells #[.int .i64 bm, .int .i64 bn] 48 (0, 0))) ∧ Aside0 (Below w.heap.size w wc))
 case first =>
  have H := eF.1
  clear eF
  replace H := ifl H
  rcases H with ⟨bp, H⟩ | ⟨bp, H⟩
  ·(first | rw [bp] | (simp only [i64_w, i32_w]; rw [bp]) | skip)
   have H' := am H
   clear H
   go_wp2
   go_meet
   case rel => exact ⟨_, (true), prs, H', ⟨by first | omega | exact Nat.le_refl _⟩, ⟨by (with_reducible repeat (first | refine qBK ?_ _ | refine qBM ?_ | refine qBL ?_ _)); refine bf2 ?_ aX.1; exact pbk ac.1⟩, ⟨by (with_reducible repeat (first | refine qBK ?_ _ | refine qBM ?_ | refine qBL ?_ _)); refine bf2 ?_ aC.1; exact pbk af.1⟩, ⟨by (with_reducible repeat (first | refine qBK ?_ _ | refine qBM ?_ | refine qBL ?_ _)); exact bp2 (pbk ah.1)⟩, ⟨pbg⟩⟩
  (first | rw [bp] | (simp only [i64_w, i32_w]; rw [bp]) | skip)
  have H' := am H
  clear H
  go_wp2
  go_meet
  case rel => exact ⟨_, (decide (a1 > 20000)), prs, H', ⟨by first | omega | exact Nat.le_refl _⟩, ⟨by (with_reducible repeat (first | refine qBK ?_ _ | refine qBM ?_ | refine qBL ?_ _)); refine bf2 ?_ aX.1; exact pbk ac.1⟩, ⟨by (with_reducible repeat (first | refine qBK ?_ _ | refine qBM ?_ | refine qBL ?_ _)); refine bf2 ?_ aC.1; exact pbk af.1⟩, ⟨by (with_reducible repeat (first | refine qBK ?_ _ | refine qBM ?_ | refine qBL ?_ _)); exact bp2 (pbk ah.1)⟩, ⟨pbg⟩⟩
 clear eF
 try clear cb cd em bp cE el
 obtain ⟨kq, b9, rfl, HA, ch, ac, af, ah, HB⟩ := hcut
 obtain _ | g6 := kq
 ·exact absurd HA.1 (by simp [qBF.j0])
 have H := HA.1
 clear HA
 simp only [qBF.j0] at H
 cases b9
 rotate_left
 ·rw [if_pos rfl] at H
  simp only [Option.some.injEq, Prod.mk.injEq] at H
  obtain ⟨rfl, rfl, rfl, rfl⟩ := H
  have f6 := aJ.1
  have gA := aI.1
  have f7 := aC.1
  have gB := aK.1
  have cL := cf3 af.1
  go_wp2
  refine bodyPost_ret (results_ct rfl _ _ ar 53 #[.slice none 0 0, .slice none 0 0, .bool false] (0, 0) _ rfl (by (with_reducible repeat (first | refine qBK ?_ _ | refine qBM ?_ | refine qBL ?_ _)); exact bp3 (pbk af.1)) Try.underlying53 rfl (by kernel_rfl)) rfl ?_
  exact ⟨_, _, per, knl, knl, pbg⟩
 rw [if_neg Bool.false_ne_true] at H
 have H' := am H
 clear H
 go_wp2
 go_loopg [7, 8] g6 (fun kq v7 v8 w' => ∃ (bI : List Int) (bU : Int), v8 = .int .i64 bU ∧ Aside0 (qBF.l0 kq a1 bI bU aR aE aN = some (r1, r2, r3, r4)) ∧ Aside0 (kq ≤ g6) ∧ Aside0 (Kd.R (Kd.int .i64) 3 w' w.heap.size (fun k_ => (w.heap.size ≤ k_)) v7 bI) ∧ Aside0 (w'.heap[aw]? = some (.cells #[.string aR, (.slice bf aE.length bj), (.slice bg aN.length bk)] 25 (0, 0))) ∧ Aside0 (w'.heap[ar]? = some (.cells #[(.slice none 0 0), (.slice none 0 0), .bool false] 53 (0, 0))) ∧ Aside0 (w'.heap[ao]? = some (.cells #[.int .i64 bm, .int .i64 bn] 48 (0, 0))) ∧ Aside0 (Below w.heap.size w w'))
 case atStart => exact ⟨(([] : List Int)), (0), prs, H', ⟨Nat.le_refl _⟩, ⟨knl⟩, ⟨pbk ac.1⟩, ⟨pbk af.1⟩, ⟨pbk ah.1⟩, ⟨pbg⟩⟩
 clear H'
 try clear c4 cb cd em bp cE cL el
 obtain ⟨bI, bU, rfl, HA, ci, bO, ac, af, ah, HB⟩ := hrel
 obtain _ | k2 := gk
 ·exact absurd HA.1 (by simp [qBF.l0])
 have H := HA.1
 clear HA
 simp only [qBF.l0] at H
 replace H := ifl H
 rcases H with ⟨b4, H⟩ | ⟨b4, H⟩
 ·replace H := ifp H
  obtain ⟨dJ, H⟩ := H
  have cq := decide_eq_true dJ
  clear dJ
  replace H := ifp H
  obtain ⟨dK, H⟩ := H
  have dy := am dK
  clear dK
  obtain ⟨ej, cy⟩ : ∃ y_ : List Int, y_ = (bI ++ [(rd_T64 aE bU).f1]) := ⟨_, rfl⟩
  replace H : (qBF.l0 k2 a1 ej (wrap64 (bU + 1)) aR aE aN) = some (r1, r2, r3, r4) := hrp cy H
  have dD := am cy
  clear cy
  have H' := am H
  clear H
  have f8 := aI.1
  have gD := aJ.1
  have f9 := aX.1
  have gE := a9.1
  have dj := cf3 ac.1
  obtain ⟨dc, de, fG, eM, bQ, bR, bS⟩ := bT64 bK.1 HB.1 bU
  cases eM
  go_wp2_with (first | ((with_reducible refine qBQ (b := .append) (xs := #[.tmp 38, .tmp 45]) rfl ?_); (try (refine qBP (by rfl) ?_; dsimp only)); at_builtin; refine Kd.R_append (Kd.int .i64) (w0 := w) w.heap.size rfl (.tmp 38) (.tmp 45) 39 3 (.int .i64 0) 8 rfl Try.underlying39 info3 rfl (by decide) (by omega) u7 bI ((rd_T64 aE bU).f1) [.int .i64 ((rd_T64 aE bU).f1)] (fun k_ => (w.heap.size ≤ k_)) (fun _ => False) rfl rfl ?aP (fun _ hk => hk.elim) ?aF ?aO ?aB ?aS ?aL ?_; (case aP => exact rfl); (case aB => exact pbg); (case aF => exact (fun k_ hk => (Nat.le_trans (qBJ pbg) hk))); (case aO => exact (pkr bO.1)); (case aS => exact (qBJ pbg)); (case aL => have := dy.1; omega); intro ip iP ho hb hg hat; rw [← dD.1] at ho; have dw := am ho; replace ac := (bgr ac hg (Kd.R_ne bO.1 ac.1 (by decide))); replace af := (bgr af hg (Kd.R_ne bO.1 af.1 (by decide))); replace ah := (bgr ah hg (Kd.R_ne bO.1 ah.1 (by decide))); replace HB := am hb; clear bO; clear ho hb hg hat))
  go_roundg k2
  case measure => have := ch.1; have := ci.1; omega
  case rel => exact ⟨(ej), (wrap64 (bU + 1)), prs, H', ⟨by have := ch.1; have := ci.1; omega⟩, ⟨pkr dw.1⟩, ⟨pbk ac.1⟩, ⟨pbk af.1⟩, ⟨pbk ah.1⟩, ⟨pbg⟩⟩
 obtain ⟨dg, cz⟩ : ∃ y_ : List (List Int), y_ = (([bI] : List (List Int))) := ⟨_, rfl⟩
 replace H : (qBF.l1 k2 a1 0 aR aE aN dg ([] : List (S59)) true) = some (r1, r2, r3, r4) := hrp cz H
 have cO := am cz
 clear cz
 have H' := am H
 clear H
 have ga := aI.1
 have gF := aJ.1
 have gb := aX.1
 have gG := a9.1
 have dk := cf3 ac.1
 obtain ⟨dp, dU, eQ⟩ := Kd.R_slice bO.1
 subst eQ
 go_wp2_with (first | ((with_reducible refine qBN (N := 48) rfl ?_); (try (refine qBP (by rfl) ?_; dsimp only)); refine Kd.N_lit (Kd.slice 3 (Kd.int .i64)) _ 39 ?hg (N' := 48) ?hd (xs := ([bI] : List (List Int))) (inner := [.slice dp bI.length dU]) (ok := (fun k_ => (w.heap.size ≤ k_) ∧ k_ ≠ aw ∧ k_ ≠ ar ∧ k_ ≠ ao)) (okp := (fun k_ => (w.heap.size ≤ k_) ∧ k_ ≠ aw ∧ k_ ≠ ar ∧ k_ ≠ ao)) ?hr ?hp (fun _ hk => hk) ((show ∀ k_, wr.heap.size ≤ k_ → (fun k_ => (w.heap.size ≤ k_) ∧ k_ ≠ aw ∧ k_ ≠ ar ∧ k_ ≠ ao) k_ from fun k_ hk => ⟨(Nat.le_trans (qBJ pbg) hk), Kd.freshB (g := aw) (o := .cells #[.string aR, .slice bf aE.length bj, .slice bg aN.length bk] 25 (0, 0)) (by exact pbk ac.1) k_ hk, Kd.freshB (g := ar) (o := .cells #[.slice none 0 0, .slice none 0 0, .bool false] 53 (0, 0)) (by exact pbk af.1) k_ hk, Kd.freshB (g := ao) (o := .cells #[.int .i64 bm, .int .i64 bn] 48 (0, 0)) (by exact pbk ah.1) k_ hk⟩) _ (Nat.le_refl _)) (Below.refl _ _) (Nat.le_refl _) (by simp) ?_; (case hd => rfl); (case hg => rfl); (case hr => first | (go_simp; done) | (go_simp; rfl)); (case hp => exact (Reps.one (show Kd.FK (Kd.slice 3 (Kd.int .i64)) _ _ bI [.slice dp bI.length dU] from (Kd.qBW (Kd.qBR (Kd.R_mono (ok' := (fun k_ => (w.heap.size ≤ k_) ∧ k_ ≠ aw ∧ k_ ≠ ar ∧ k_ ≠ ao)) (Kd.qCI (Kd.qCI (Kd.qCI (bO.1) ac.1 (by decide)) af.1 (by decide)) ah.1 (by decide)) (fun k_ hk => ⟨hk.1.1.1, ⟨hk.1.1.2, ⟨hk.1.2, hk.2⟩⟩⟩))).2.1 (Kd.R_F (Kd.R_mono (ok' := (fun k_ => (w.heap.size ≤ k_) ∧ k_ ≠ aw ∧ k_ ≠ ar ∧ k_ ≠ ao)) (Kd.qCI (Kd.qCI (Kd.qCI (bO.1) ac.1 (by decide)) af.1 (by decide)) ah.1 (by decide)) (fun k_ hk => ⟨hk.1.1.1, ⟨hk.1.1.2, ⟨hk.1.2, hk.2⟩⟩⟩))))) (Reps.none _ _))); intro iq iQ cx hb hg_ hnew_; clear hg_ hnew_; (first | rw [← cO.1] at cx | (simp only [Int.reduceToNat] at cx; rw [← cO.1] at cx)); have b2 := am (Kd.N_lower cx (qBJ pbg)); replace ac := bbh ac hb; replace af := bbh af hb; replace ah := bbh ah hb; replace HB := bst hb; clear bO; clear hb cx; obtain ⟨eC, eJ, eR⟩ := Kd.N_slice b2.1; subst eR) | ((with_reducible refine qBN (N := 9) rfl ?_); (try (refine qBP (by rfl) ?_; dsimp only)); refine box_ev (N := 9) (cs := #[.slice none 0 0, .slice none 0 0, .bool false]) (t := 53) ?_; intro ai hg iR hbox hb; have ag := am hbox; have dv := gwb hg; have fF := dv; have au := nlt hg ac; have aT := ngt hg ac; have aq := nlt hg af; have aQ := ngt hg af; have av := nlt hg ah; have aU := ngt hg ah; replace b2 := am (Kd.N_below (Kd.N_elderB (pkn b2.1) ai (Nat.le_of_eq hg.symm)) hb); replace ac := bbh ac hb; replace af := bbh af hb; replace ah := bbh ah hb; replace HB := bst hb; clear hb hbox hg; have gc := aT.1; have gH := au.1; have ge := aQ.1; have gI := aq.1; have gf := aU.1; have gJ := av.1; have dl := cf3 ag.1))
 go_loopg [10] k2 (fun kq il w' => ∃ (ak : Int) (bz : Bool) (aD : List (List Int)) (ba : List (S59)) (a6 : Bool) (u800000 : Value) (u800001 : Value), il = .int .i64 ak ∧ Aside0 (qBF.l1 kq a1 ak aR aE aN aD ba a6 = some (r1, r2, r3, r4)) ∧ Aside0 (kq ≤ k2) ∧ Aside0 (Kd.N (Kd.slice 3 (Kd.int .i64)) 39 w' w.heap.size (fun k_ => (w.heap.size ≤ k_) ∧ some k_ ≠ (u800001 : Value).ownBlock ∧ k_ ≠ aw ∧ k_ ≠ ar ∧ k_ ≠ ao ∧ k_ ≠ ai) u800000 aD) ∧ Aside0 (Kd.R k59 59 w' w.heap.size (fun k_ => (w.heap.size ≤ k_)) u800001 ba) ∧ Aside0 (w'.heap[aw]? = some (.cells #[.string aR, (.slice bf aE.length bj), (.slice bg aN.length bk)] 25 (0, 0))) ∧ Aside0 (w'.heap[ar]? = some (.cells #[(.slice none 0 0), (.slice none 0 0), .bool bz] 53 (0, 0))) ∧ Aside0 (w'.heap[ao]? = some (.cells #[.int .i64 bm, .int .i64 bn] 48 (0, 0))) ∧ Aside0 (w'.heap[ai]? = some (.cells #[u800000, u800001, .bool a6] 53 (0, 0))) ∧ Aside0 (Below w.heap.size w w'))
 case atStart => exact ⟨(0), (false), (dg), (([] : List (S59))), (true), (.slice eC dg.length eJ), (.slice none 0 0), prs, H', ⟨Nat.le_refl _⟩, ⟨by (with_reducible repeat (first | apply Kd.N_alloc | apply Kd.N_drewN | apply Kd.N_drew)); exact Kd.N_mono (fN3 ai (Kd.N_mono b2.1 (fun k_ hk => (⟨hk, hk.2⟩ : _ ∧ k_ ≠ ai))) (fun _ hk => hk.2)) (fun _ hk => ⟨hk.1.1.1, ⟨(by simp [Value.ownBlock]), ⟨hk.1.1.2.1, ⟨hk.1.1.2.2.1, ⟨hk.1.1.2.2.2, hk.1.2⟩⟩⟩⟩⟩)⟩, ⟨knl⟩, ⟨by (with_reducible repeat (first | refine qBK ?_ _ | refine qBM ?_ | refine qBL ?_ _)); refine bf3 ?_ au.1; exact pbk ac.1⟩, ⟨by (with_reducible repeat (first | refine qBK ?_ _ | refine qBM ?_ | refine qBL ?_ _)); refine bf3 ?_ aq.1; exact pbk af.1⟩, ⟨by (with_reducible repeat (first | refine qBK ?_ _ | refine qBM ?_ | refine qBL ?_ _)); refine bf3 ?_ av.1; exact pbk ah.1⟩, ⟨by (with_reducible repeat (first | refine qBK ?_ _ | refine qBM ?_ | refine qBL ?_ _)); exact bp3 (pbk ag.1)⟩, ⟨pbg⟩⟩
 clear H'
 try clear c4 cb cd em bp fH b4 dJ cq dK cE cL dj dk dl el bQ bR bS dc de
 obtain ⟨ak, bz, aD, ba, a6, u800000, u800001, rfl, HA, cF, aa, ab, ac, af, ah, ag, HB⟩ := hrel
 obtain _ | k3 := gk
 ·exact absurd HA.1 (by simp [qBF.l1])
 have H := HA.1
 clear HA
 simp only [qBF.l1] at H
 replace H := ifl H
 rcases H with ⟨cr, H⟩ | ⟨cr, H⟩
 rotate_left
 ·simp only [Option.some.injEq, Prod.mk.injEq] at H
  obtain ⟨rfl, rfl, rfl, rfl⟩ := H
  have e5 := aT.1
  have fg := au.1
  have e6 := aQ.1
  have fh := aq.1
  have e7 := aU.1
  have fi := av.1
  have g8 := cf3 ag.1
  obtain ⟨dm, dR, dY⟩ := Kd.N_slice aa.1
  subst dY
  have e8 := aJ.1
  have fj := aI.1
  have e9 := aC.1
  have fk := aK.1
  have g9 := cf3 af.1
  obtain ⟨dn, dS, dZ⟩ := Kd.R_slice ab.1
  subst dZ
  go_wp2
  refine bodyPost_ret (results_ct rfl _ _ ar 53 #[.slice dm aD.length dR, .slice dn ba.length dS, .bool a6] (0, 0) _ rfl (by (with_reducible repeat (first | refine qBK ?_ _ | refine qBM ?_ | refine qBL ?_ _)); exact bp3 (pbk af.1)) Try.underlying53 rfl (by kernel_rfl)) rfl ?_
  exact ⟨_, _, per, by (with_reducible repeat (first | apply Kd.N_alloc | apply Kd.N_drewN | apply Kd.N_drew)); exact Kd.N_mono (fN3 ar (Kd.N_mono aa.1 (fun k_ hk => (⟨hk, hk.2.2.2.1⟩ : _ ∧ k_ ≠ ar))) (fun _ hk => hk.2)) (fun _ hk => ⟨hk.1.1, hk.1.2.1⟩), by (with_reducible repeat (first | apply Kd.R_alloc | apply Kd.R_drewN | apply Kd.R_drew)); exact Kd.R_mono (fR3 ar (Kd.qCI ab.1 af.1 (by decide)) (fun _ hk => hk.2)) (fun _ hk => hk.1), pbg⟩
 replace H := ifd H
 obtain ⟨cQ, H⟩ := H
 replace H := bnd H
 obtain ⟨aM, hI, H⟩ := H
 (try dsimp only at H)
 have H' := am H
 clear H
 have gg := aT.1
 have gK := au.1
 have gh := aQ.1
 have gL := aq.1
 have gi := aU.1
 have gM := av.1
 have ek := cf3 ag.1
 obtain ⟨hL, dV, eS⟩ := Kd.N_slice aa.1
 subst eS
 try go_wp2
 replace aa := am (Kd.N_drew aa.1)
 replace ab := am (Kd.R_drew ab.1)
 replace ac := am (qBM ac.1)
 replace af := am (qBM af.1)
 replace ah := am (qBM ah.1)
 replace ag := am (qBM ag.1)
 replace HB := am (qCB HB.1)
 have cf : 0 ≤ (ak : Int) := dq
 have cg : ak < (aD.length : Int) := dq
 obtain ⟨cp, cj, cu, eN, bw, b6, b5⟩ := at_L11 (Kd.qBS aa.1).2.2 ak cf cg
 cases eN
 obtain ⟨fT, db, da, cw⟩ := Kd.N_get aa.1 [] ak cf (by first | exact cg | exact dq | (have e_ := (Kd.qBS aa.1).1; omega))
 obtain ⟨eA, eB, rfl, bT, bP⟩ := Kd.qBV da
 have bB := cw 0 _ rfl
 rw [Nat.add_zero, show ((Kd.slice 3 (Kd.int .i64))).sz = 1 from rfl, Nat.mul_one] at bB
 replace bB := Option.some.inj (bB.symm.trans bw)
 injection bB with hva_ hvn_ hvc_
 rw [hva_] at bP
 rw [hvc_] at bT
 have bN := am (show Kd.V (Kd.int .i64) 3 _ w.heap.size _ _ (rd_L11 aD ak) from Kd.V_mk bT bP)
 clear hva_ hvn_ hvc_ bP bT cw db
 have br := am b5
 have cH := am b6
 clear b5 b6
 replace cf := eq_true cf
 replace cg := eq_true cg
 refine start_ (n := 8) (S := fun w' => w'.cell? ⟨aw, 0, none⟩ = some (.string aR) ∧ w'.cell? ⟨aw, 1, none⟩ = some (.slice bf aE.length bj) ∧ w'.cell? ⟨aw, 2, none⟩ = some (.slice bg aN.length bk) ∧ w'.cell? ⟨ai, 0, none⟩ = some (.slice (some cp) aD.length dV) ∧ w'.cell? ⟨ai, 1, none⟩ = some (u800001) ∧ w'.cell? ⟨ai, 2, none⟩ = some (.bool a6) ∧ w'.cell? (cp.add (ak).toNat) = some (.slice cj (rd_L11 aD ak).length cu)) (ds := []) #[false, false, false, false, false, false, false, false] (by kernel_rfl) rfl rfl ⟨(qBI ac.1 0).trans rfl, (qBI ac.1 1).trans rfl, (qBI ac.1 2).trans rfl, (qBI ag.1 0).trans rfl, (qBI ag.1 1).trans rfl, (qBI ag.1 2).trans rfl, bw⟩ (fun hHeld => ?_); refine qCL qBF.tab15 qBF.bits15 (fun HT_ HW_ => ?_)
 generalize wr.drew = iS at aa ab ac af ah ag HB bN br bw hHeld ⊢
 refine pu HT_.1 1 58 ?_
 refine pu HT_.1 3 60 ?_
 refine tk HT_.1 HW_.1 hHeld 0 57 ?_
 refine tk HT_.1 HW_.1 hHeld 2 59 ?_
 refine pu HT_.1 4 61 ?_
 refine tk HT_.1 HW_.1 hHeld 5 62 ?_
 refine on HT_.1 6 (some 63) rfl fun K hK => ?_
 refine goes_ Try.func51 (by kernel_rfl) rfl #[.agg #[.string aR, .slice bf aE.length bj, .slice bg aN.length bk], .slice cj (rd_L11 aD ak).length cu] (by rfl) rfl rfl pgz ?_
 with_reducible refine (r11_Fires.calls k3 aR _ _ aE _ _ aN _ _ (rd_L11 aD ak) aM _ ?side1 ?side2 ?side3 ?side4 ?side5 ?side6 hI.1).mono ?_
 (case side1 => exact csb bK HB)
 (case side2 => exact bW.1)
 (case side3 => exact csb bY HB)
 (case side4 => exact bX.1)
 (case side5 => exact csd br.1)
 (case side6 => exact cH.1)
 rintro e iT ⟨ei, rfl, bZ, hb⟩
 have HS6_ := (hb.cell (World.block_lt_of_cell? _ _ (hHeld.2.2.2.2.2.2))).trans (hHeld.2.2.2.2.2.2)
 refine ⟨_, rfl, ?_⟩
 have dx := am (Kd.qCH (Kd.R_newM (M := fun k_ => (w.heap.size ≤ k_)) bZ (qBJ pbg) (fun k_ h_ => h_)) (qBJ pbg))
 replace aa := am (Kd.qBX (pkn aa.1) (Kd.R_base bZ) hb)
 replace ab := rbw ab hb
 replace bN := am (Kd.qBY (pkv bN.1) (Kd.R_base bZ) hb)
 replace ac := bbh ac hb
 replace af := bbh af hb
 replace ah := bbh ah hb
 replace ag := bbh ag hb
 replace br := cbb br hb
 replace HB := bst hb
 (try clear hb)
 (try clear fW)
 (try clear hk)
 (try clear hi)
 (try clear bZ)
 refine hK.out _ _ ⟨(qBI ac.1 0).trans rfl, (qBI ac.1 1).trans rfl, (qBI ac.1 2).trans rfl, (qBI ag.1 0).trans rfl, (qBI ag.1 1).trans rfl, (qBI ag.1 2).trans rfl, HS6_⟩ (fun hHeld => ?_)
 clear hK K
 refine nm_ 63 ?_
 refine pu HT_.1 7 11 ?_
 refine done_ (done_of HT_.1 (by kernel_rfl)) ?_
 try go_wp2
 go_loopg [12] k3 (fun kq im w' => ∃ (ap : Int) (aV : Bool) (ae : List (List Int)) (ax : List (S59)) (aj : Bool) (u800000 : Value) (u800001 : Value), im = .int .i64 ap ∧ Aside0 (qBF.l2 kq a1 ak aM ap aR aE aN ae ax aj = some (r1, r2, r3, r4)) ∧ Aside0 (kq ≤ k3) ∧ Aside0 (Kd.R (Kd.int .i64) 3 w' w.heap.size (fun k_ => (w.heap.size ≤ k_)) ei aM) ∧ Aside0 (Kd.N (Kd.slice 3 (Kd.int .i64)) 39 w' w.heap.size (fun k_ => (w.heap.size ≤ k_) ∧ some k_ ≠ (ei : Value).ownBlock ∧ some k_ ≠ (u800001 : Value).ownBlock ∧ k_ ≠ aw ∧ k_ ≠ ar ∧ k_ ≠ ao ∧ k_ ≠ ai) u800000 ae) ∧ Aside0 (Kd.R k59 59 w' w.heap.size (fun k_ => (w.heap.size ≤ k_)) u800001 ax) ∧ Aside0 (w'.heap[aw]? = some (.cells #[.string aR, (.slice bf aE.length bj), (.slice bg aN.length bk)] 25 (0, 0))) ∧ Aside0 (w'.heap[ar]? = some (.cells #[(.slice none 0 0), (.slice none 0 0), .bool aV] 53 (0, 0))) ∧ Aside0 (w'.heap[ao]? = some (.cells #[.int .i64 bm, .int .i64 bn] 48 (0, 0))) ∧ Aside0 (w'.heap[ai]? = some (.cells #[u800000, u800001, .bool aj] 53 (0, 0))) ∧ Aside0 (Below w.heap.size w w'))
 case atStart => exact ⟨(0), (bz), (aD), (ba), (a6), (.slice (some cp) aD.length dV), (u800001), prs, H', ⟨Nat.le_refl _⟩, ⟨rmo dx.1 (fun _ hk => hk.1)⟩, ⟨nmo aa.1 (fun _ hk => ⟨hk.1.1, ⟨hk.2, ⟨hk.1.2.1, ⟨hk.1.2.2.1, ⟨hk.1.2.2.2.1, ⟨hk.1.2.2.2.2.1, hk.1.2.2.2.2.2⟩⟩⟩⟩⟩⟩)⟩, ⟨pkr ab.1⟩, ⟨pbk ac.1⟩, ⟨pbk af.1⟩, ⟨pbk ah.1⟩, ⟨pbk ag.1⟩, ⟨pbg⟩⟩
 clear H'
 try clear c4 cb cd em bp fH hU b4 dJ cq dK cr en cQ cE cL dj dk dl ek el bQ bR bS bw dc cf de cg
 obtain ⟨ap, aV, ae, ax, aj, u800000, u800001, rfl, HA, cG, al, aa, ab, ac, af, ah, ag, HB⟩ := hrel
 obtain _ | k4 := gk
 ·exact absurd HA.1 (by simp [qBF.l2])
 have H := HA.1
 clear HA
 simp only [qBF.l2] at H
 replace H := ifl H
 rcases H with ⟨cR, H⟩ | ⟨cR, H⟩
 rotate_left
 ·have H' := am H
  clear H
  obtain ⟨fE, fV, dX⟩ := Kd.R_slice al.1
  subst dX
  go_wp2
  go_roundg k4
  case measure => have := ch.1; have := ci.1; have := cF.1; have := cG.1; omega
  case rel => exact ⟨(wrap64 (ak + 1)), (aV), (ae), (ax), (aj), (u800000), (u800001), prs, H', ⟨by have := ch.1; have := ci.1; have := cF.1; have := cG.1; omega⟩, ⟨nmo aa.1 (fun _ hk => ⟨hk.1, ⟨hk.2.2.1, ⟨hk.2.2.2.1, ⟨hk.2.2.2.2.1, ⟨hk.2.2.2.2.2.1, hk.2.2.2.2.2.2⟩⟩⟩⟩⟩)⟩, ⟨pkr ab.1⟩, ⟨pbk ac.1⟩, ⟨pbk af.1⟩, ⟨pbk ah.1⟩, ⟨pbk ag.1⟩, ⟨pbg⟩⟩
 replace H := ifd H
 obtain ⟨dL, H⟩ := H
 replace H := ifd H
 obtain ⟨dM, H⟩ := H
 replace H := ifd H
 obtain ⟨dN, H⟩ := H
 replace H := bnd H
 obtain ⟨⟨bA, fw⟩, fB, H⟩ := H
 (try dsimp only at H)
 cases fw
 ·rw [if_neg Bool.false_ne_true] at H
  simp only [Option.some.injEq, Prod.mk.injEq] at H
  obtain ⟨rfl, rfl, rfl, rfl⟩ := H
  obtain ⟨fC, fU, dW⟩ := Kd.R_slice al.1
  subst dW
  try go_wp2
  replace al := am (Kd.R_drew al.1)
  replace aa := am (Kd.N_drew aa.1)
  replace ab := am (Kd.R_drew ab.1)
  replace ac := am (qBM ac.1)
  replace af := am (qBM af.1)
  replace ah := am (qBM ah.1)
  replace ag := am (qBM ag.1)
  replace HB := am (qCB HB.1)
  obtain ⟨fD, dQ, cS⟩ := Kd.N_slice aa.1
  (first | subst cS | (injection cS with f1_ f2_ f3_; have f4_ := f1_.symm; have f5_ := f3_.symm; clear f1_ f2_ f3_; subst f4_; subst f5_))
  have bF : 0 ≤ (ak : Int) := dq
  have bG : ak < (ae.length : Int) := dq
  obtain ⟨aY, bx, bC, cY, a7, bv, bu⟩ := at_L11 (Kd.qBS aa.1).2.2 ak bF bG
  cases cY
  obtain ⟨dP, b1, b0, bE⟩ := Kd.N_get aa.1 [] ak bF (by first | exact bG | exact dq | (have e_ := (Kd.qBS aa.1).1; omega))
  obtain ⟨cI, cJ, rfl, bd, bc⟩ := Kd.qBV b0
  have a4 := bE 0 _ rfl
  rw [Nat.add_zero, show ((Kd.slice 3 (Kd.int .i64))).sz = 1 from rfl, Nat.mul_one] at a4
  replace a4 := Option.some.inj (a4.symm.trans a7)
  injection a4 with hva_ hvn_ hvc_
  rw [hva_] at bc
  rw [hvc_] at bd
  have bb := am (show Kd.V (Kd.int .i64) 3 _ w.heap.size _ _ (rd_L11 ae ak) from Kd.V_mk bd bc)
  clear hva_ hvn_ hvc_ bc bd bE b1
  have ay := am bu
  have bM := am bv
  clear bu bv
  replace bF := eq_true bF
  replace bG := eq_true bG
  obtain ⟨eg, eh, aZ, cZ, bo⟩ := dint (Kd.qBR al.1).2.2 ap
  cases cZ
  refine start_ (n := 16) (S := fun w' => w'.cell? ⟨aw, 0, none⟩ = some (.string aR) ∧ w'.cell? ⟨aw, 1, none⟩ = some (.slice bf aE.length bj) ∧ w'.cell? ⟨aw, 2, none⟩ = some (.slice bg aN.length bk) ∧ w'.cell? ⟨ai, 0, none⟩ = some (.slice (some aY) ae.length dQ) ∧ w'.cell? ⟨ai, 1, none⟩ = some (u800001) ∧ w'.cell? ⟨ai, 2, none⟩ = some (.bool aj) ∧ w'.cell? (aY.add (ak).toNat) = some (.slice bx (rd_L11 ae ak).length bC) ∧ w'.cell? (aZ.add (ap).toNat) = some (.int .i64 (rd aM ap))) (ds := []) #[false, false, false, false, false, false, false, false, false, false, false, false, false, false, false, false] (by kernel_rfl) rfl rfl ⟨(qBI ac.1 0).trans rfl, (qBI ac.1 1).trans rfl, (qBI ac.1 2).trans rfl, (qBI ag.1 0).trans rfl, (qBI ag.1 1).trans rfl, (qBI ag.1 2).trans rfl, a7, bo⟩ (fun hHeld => ?_); refine qCL qBF.tab19 qBF.bits19 (fun HT_ HW_ => ?_)
  generalize wr.drew = ix at al aa ab ac af ah ag HB bb ay a7 bo hHeld ⊢
  refine pu HT_.1 1 72 ?_
  refine pu HT_.1 3 74 ?_
  refine pu HT_.1 6 77 ?_
  refine pu HT_.1 7 78 ?_
  refine pu HT_.1 8 79 ?_
  refine tk HT_.1 HW_.1 hHeld 0 71 ?_
  refine tk HT_.1 HW_.1 hHeld 2 73 ?_
  refine pu HT_.1 4 75 ?_
  refine tk HT_.1 HW_.1 hHeld 5 76 ?_
  refine tk HT_.1 HW_.1 hHeld 9 80 ?_
  refine on HT_.1 10 (some 81) rfl fun K hK => ?_
  refine goes_ Try.func52 (by kernel_rfl) rfl #[.agg #[.string aR, .slice bf aE.length bj, .slice bg aN.length bk], .slice bx (rd_L11 ae ak).length bC, .int .i64 (rd aM ap)] (by rfl) rfl rfl pgz ?_
  with_reducible refine (r11_After.calls k4 aR _ _ aE _ _ aN _ _ (rd_L11 ae ak) (rd aM ap) bA false _ ?side1 ?side2 ?side3 ?side4 ?side5 ?side6 fB.1).mono ?_
  (case side1 => exact csb bK HB)
  (case side2 => exact bW.1)
  (case side3 => exact csb bY HB)
  (case side4 => exact bX.1)
  (case side5 => exact csd ay.1)
  (case side6 => exact bM.1)
  rintro e iy ⟨fx, rfl, bZ, hb⟩
  have HS6_ := (hb.cell (World.block_lt_of_cell? _ _ (hHeld.2.2.2.2.2.2.1))).trans (hHeld.2.2.2.2.2.2.1)
  have HS7_ := (hb.cell (World.block_lt_of_cell? _ _ (hHeld.2.2.2.2.2.2.2))).trans (hHeld.2.2.2.2.2.2.2)
  refine ⟨_, rfl, ?_⟩
  have bJ := am (Kd.qCH (Kd.R_new' (Kd.R_newM (M := fun k_ => (w.heap.size ≤ k_)) bZ (qBJ pbg) (fun k_ h_ => h_)) (Kd.R_lt (pkr al.1))) (qBJ pbg))
  replace al := am (Kd.R_elder' (pkr al.1) (Kd.R_base bZ) hb)
  replace aa := am (Kd.qBX (pkn aa.1) (Kd.R_base bZ) hb)
  replace ab := rbw ab hb
  replace bb := am (Kd.qBY (pkv bb.1) (Kd.R_base bZ) hb)
  replace ac := bbh ac hb
  replace af := bbh af hb
  replace ah := bbh ah hb
  replace ag := bbh ag hb
  replace ay := cbb ay hb
  replace HB := bst hb
  (try clear hb)
  (try clear fW)
  (try clear hk)
  (try clear hi)
  (try clear bZ)
  refine hK.out _ _ ⟨(qBI ac.1 0).trans rfl, (qBI ac.1 1).trans rfl, (qBI ac.1 2).trans rfl, (qBI ag.1 0).trans rfl, (qBI ag.1 1).trans rfl, (qBI ag.1 2).trans rfl, HS6_, HS7_⟩ (fun hHeld => ?_)
  clear hK K
  refine nm_ 81 ?_
  refine pu HT_.1 11 70 ?_
  refine pu HT_.1 12 82 ?_
  refine pu HT_.1 13 83 ?_
  refine pu HT_.1 14 13 ?_
  refine pu HT_.1 15 14 ?_
  refine done_ (done_of HT_.1 (by kernel_rfl)) ?_
  have eZ := aJ.1
  have fd := aI.1
  have e0 := aC.1
  have fe := aK.1
  have e4 := aq.1
  have ff := aQ.1
  have g7 := cf3 af.1
  try go_wp2
  refine bodyPost_ret (results_ct rfl _ _ ar 53 #[.slice none 0 0, .slice none 0 0, .bool false] (0, 0) _ rfl (by (with_reducible repeat (first | refine qBK ?_ _ | refine qBM ?_ | refine qBL ?_ _)); exact bp3 (pbk af.1)) Try.underlying53 rfl (by kernel_rfl)) rfl ?_
  exact ⟨_, _, per, knl, knl, pbg⟩
 rw [if_pos rfl] at H
 replace H := bnd H
 obtain ⟨bH, hJ, H⟩ := H
 (try dsimp only at H)
 have cX := am H
 clear H
 obtain ⟨hO, bD, eT⟩ := Kd.R_slice al.1
 subst eT
 try go_wp2
 replace al := am (Kd.R_drew al.1)
 replace aa := am (Kd.N_drew aa.1)
 replace ab := am (Kd.R_drew ab.1)
 replace ac := am (qBM ac.1)
 replace af := am (qBM af.1)
 replace ah := am (qBM ah.1)
 replace ag := am (qBM ag.1)
 replace HB := am (qCB HB.1)
 obtain ⟨hP, bs, d0⟩ := Kd.N_slice aa.1
 (first | subst d0 | (injection d0 with f1_ f2_ f3_; have f4_ := f1_.symm; have f5_ := f3_.symm; clear f1_ f2_ f3_; subst f4_; subst f5_))
 have bF : 0 ≤ (ak : Int) := dq
 have bG : ak < (ae.length : Int) := dq
 obtain ⟨aY, bx, bC, cY, a7, bv, bu⟩ := at_L11 (Kd.qBS aa.1).2.2 ak bF bG
 cases cY
 obtain ⟨dP, b1, b0, bE⟩ := Kd.N_get aa.1 [] ak bF (by first | exact bG | exact dq | (have e_ := (Kd.qBS aa.1).1; omega))
 obtain ⟨cI, cJ, rfl, bd, bc⟩ := Kd.qBV b0
 have a4 := bE 0 _ rfl
 rw [Nat.add_zero, show ((Kd.slice 3 (Kd.int .i64))).sz = 1 from rfl, Nat.mul_one] at a4
 replace a4 := Option.some.inj (a4.symm.trans a7)
 injection a4 with hva_ hvn_ hvc_
 rw [hva_] at bc
 rw [hvc_] at bd
 have bb := am (show Kd.V (Kd.int .i64) 3 _ w.heap.size _ _ (rd_L11 ae ak) from Kd.V_mk bd bc)
 clear hva_ hvn_ hvc_ bc bd bE b1
 have ay := am bu
 have bM := am bv
 clear bu bv
 replace bF := eq_true bF
 replace bG := eq_true bG
 obtain ⟨eg, eh, aZ, cZ, bo⟩ := dint (Kd.qBR al.1).2.2 ap
 cases cZ
 refine start_ (n := 16) (S := fun w' => w'.cell? ⟨aw, 0, none⟩ = some (.string aR) ∧ w'.cell? ⟨aw, 1, none⟩ = some (.slice bf aE.length bj) ∧ w'.cell? ⟨aw, 2, none⟩ = some (.slice bg aN.length bk) ∧ w'.cell? ⟨ai, 0, none⟩ = some (.slice (some aY) ae.length bs) ∧ w'.cell? ⟨ai, 1, none⟩ = some (u800001) ∧ w'.cell? ⟨ai, 2, none⟩ = some (.bool aj) ∧ w'.cell? (aY.add (ak).toNat) = some (.slice bx (rd_L11 ae ak).length bC) ∧ w'.cell? (aZ.add (ap).toNat) = some (.int .i64 (rd aM ap))) (ds := []) #[false, false, false, false, false, false, false, false, false, false, false, false, false, false, false, false] (by kernel_rfl) rfl rfl ⟨(qBI ac.1 0).trans rfl, (qBI ac.1 1).trans rfl, (qBI ac.1 2).trans rfl, (qBI ag.1 0).trans rfl, (qBI ag.1 1).trans rfl, (qBI ag.1 2).trans rfl, a7, bo⟩ (fun hHeld => ?_); refine qCL qBF.tab19 qBF.bits19 (fun HT_ HW_ => ?_)
 generalize wr.drew = iU at al aa ab ac af ah ag HB bb ay a7 bo hHeld ⊢
 refine pu HT_.1 1 72 ?_
 refine pu HT_.1 3 74 ?_
 refine pu HT_.1 6 77 ?_
 refine pu HT_.1 7 78 ?_
 refine pu HT_.1 8 79 ?_
 refine tk HT_.1 HW_.1 hHeld 0 71 ?_
 refine tk HT_.1 HW_.1 hHeld 2 73 ?_
 refine pu HT_.1 4 75 ?_
 refine tk HT_.1 HW_.1 hHeld 5 76 ?_
 refine tk HT_.1 HW_.1 hHeld 9 80 ?_
 refine on HT_.1 10 (some 81) rfl fun K hK => ?_
 refine goes_ Try.func52 (by kernel_rfl) rfl #[.agg #[.string aR, .slice bf aE.length bj, .slice bg aN.length bk], .slice bx (rd_L11 ae ak).length bC, .int .i64 (rd aM ap)] (by rfl) rfl rfl pgz ?_
 with_reducible refine (r11_After.calls k4 aR _ _ aE _ _ aN _ _ (rd_L11 ae ak) (rd aM ap) bA true _ ?side1 ?side2 ?side3 ?side4 ?side5 ?side6 fB.1).mono ?_
 (case side1 => exact csb bK HB)
 (case side2 => exact bW.1)
 (case side3 => exact csb bY HB)
 (case side4 => exact bX.1)
 (case side5 => exact csd ay.1)
 (case side6 => exact bM.1)
 rintro e iV ⟨fx, rfl, bZ, hb⟩
 have HS6_ := (hb.cell (World.block_lt_of_cell? _ _ (hHeld.2.2.2.2.2.2.1))).trans (hHeld.2.2.2.2.2.2.1)
 have HS7_ := (hb.cell (World.block_lt_of_cell? _ _ (hHeld.2.2.2.2.2.2.2))).trans (hHeld.2.2.2.2.2.2.2)
 refine ⟨_, rfl, ?_⟩
 have bJ := am (Kd.qCH (Kd.R_new' (Kd.R_newM (M := fun k_ => (w.heap.size ≤ k_)) bZ (qBJ pbg) (fun k_ h_ => h_)) (Kd.R_lt (pkr al.1))) (qBJ pbg))
 replace al := am (Kd.R_elder' (pkr al.1) (Kd.R_base bZ) hb)
 replace aa := am (Kd.qBX (pkn aa.1) (Kd.R_base bZ) hb)
 replace ab := rbw ab hb
 replace bb := am (Kd.qBY (pkv bb.1) (Kd.R_base bZ) hb)
 replace ac := bbh ac hb
 replace af := bbh af hb
 replace ah := bbh ah hb
 replace ag := bbh ag hb
 replace ay := cbb ay hb
 replace HB := bst hb
 (try clear hb)
 (try clear fW)
 (try clear hk)
 (try clear hi)
 (try clear bZ)
 refine hK.out _ _ ⟨(qBI ac.1 0).trans rfl, (qBI ac.1 1).trans rfl, (qBI ac.1 2).trans rfl, (qBI ag.1 0).trans rfl, (qBI ag.1 1).trans rfl, (qBI ag.1 2).trans rfl, HS6_, HS7_⟩ (fun hHeld => ?_)
 clear hK K
 refine nm_ 81 ?_
 refine pu HT_.1 11 70 ?_
 refine pu HT_.1 12 82 ?_
 refine pu HT_.1 13 83 ?_
 refine pu HT_.1 14 13 ?_
 refine pu HT_.1 15 14 ?_
 refine done_ (done_of HT_.1 (by kernel_rfl)) ?_
 have gj := aT.1
 have gN := au.1
 have gl := aQ.1
 have gO := aq.1
 have gm := aU.1
 have gP := av.1
 have fz := cf3 ag.1
 obtain ⟨ck, cv, eU⟩ := Kd.R_slice bJ.1
 subst eU
 go_upto_region 23 with (first | ((with_reducible refine qBO (f := 53) rfl ?_); refine gC 90 Try.func53 _ (r14_Find.calls k4 _ _ ae _ _ bA bH _ (csd ((Kd.qBS aa.1).2.2)) ((Kd.qBS aa.1).2.1) (csd ((Kd.qBR bJ.1).2.2)) ((Kd.qBR bJ.1).2.1) hJ.1) ?_; rintro e w' ⟨rfl, ⟨nd, rfl⟩⟩; refine ⟨_, rfl, ?_⟩))
 (try simp only [Act.put, List.setIfInBounds_toArray, List.set_cons_zero, List.set_cons_succ])
 go_cut [99] (fun iw wc => ∃ (kq : Nat) (bV : Bool), iw = .bool bV ∧ Aside0 (qBF.j4 kq a1 ak aM ap bA bH bV aR aE aN ae ax aj = some (r1, r2, r3, r4)) ∧ Aside0 (kq ≤ k4) ∧ Aside0 (Kd.R (Kd.int .i64) 3 wc w.heap.size (fun k_ => (w.heap.size ≤ k_) ∧ some k_ ≠ ((.slice ck bA.length cv) : Value).ownBlock) (.slice (some aZ) aM.length bD) aM) ∧ Aside0 (Kd.R (Kd.int .i64) 3 wc w.heap.size (fun k_ => (w.heap.size ≤ k_) ∧ some k_ ≠ ((.slice (some aZ) aM.length bD) : Value).ownBlock) (.slice ck bA.length cv) bA) ∧ Aside0 (Kd.N (Kd.slice 3 (Kd.int .i64)) 39 wc w.heap.size (fun k_ => (w.heap.size ≤ k_) ∧ some k_ ≠ ((.slice (some aZ) aM.length bD) : Value).ownBlock ∧ some k_ ≠ ((.slice ck bA.length cv) : Value).ownBlock ∧ some k_ ≠ (u800001 : Value).ownBlock ∧ k_ ≠ aw ∧ k_ ≠ ar ∧ k_ ≠ ao ∧ k_ ≠ ai) (.slice (some aY) ae.length bs) ae) ∧ Aside0 (Kd.R k59 59 wc w.heap.size (fun k_ => (w.heap.size ≤ k_)) u800001 ax) ∧ Aside0 (wc.heap[aw]? = some (.cells #[.string aR, (.slice bf aE.length bj), (.slice bg aN.length bk)] 25 (0, 0))) ∧ Aside0 (wc.heap[ar]? = some (.cells #[(.slice none 0 0), (.slice none 0 0), .bool aV] 53 (0, 0))) ∧ Aside0 (wc.heap[ao]? = some (.cells #[.int .i64 bm, .int .i64 bn] 48 (0, 0))) ∧ Aside0 (wc.heap[ai]? = some (.cells #[(.slice (some aY) ae.length bs), u800001, .bool aj] 53 (0, 0))) ∧ Aside0 (Kd.C (Kd.int .i64) wc bx (rd_L11 ae ak).length (rd_L11 ae ak)) ∧ Aside0 (Below w.heap.size w wc))
 case first =>
  have H := cX.1
  clear cX
  replace H := ifl H
  rcases H with ⟨bL, H⟩ | ⟨bL, H⟩
  rotate_left
  ·(first | rw [bL] | (simp only [i64_w, i32_w]; rw [bL]) | skip)
   have H' := am H
   clear H
   go_wp2
   go_meet
   case rel => exact ⟨_, (false), prs, H', ⟨by have := ch.1; have := ci.1; have := cF.1; have := cG.1; first | omega | exact Nat.le_refl _⟩, ⟨pkr al.1⟩, ⟨rmo bJ.1 (fun _ hk => ⟨hk.1.1, hk.2⟩)⟩, ⟨nmo aa.1 (fun _ hk => ⟨hk.1.1, ⟨hk.1.2.1, ⟨hk.2, ⟨hk.1.2.2.1, ⟨hk.1.2.2.2.1, ⟨hk.1.2.2.2.2.1, ⟨hk.1.2.2.2.2.2.1, hk.1.2.2.2.2.2.2⟩⟩⟩⟩⟩⟩⟩)⟩, ⟨pkr ab.1⟩, ⟨pbk ac.1⟩, ⟨pbk af.1⟩, ⟨pbk ah.1⟩, ⟨pbk ag.1⟩, ⟨by repeat (first | (with_reducible exact ay.1) | (with_reducible refine Kd.C_alloc ?_ _) | (with_reducible refine Kd.C_drewN ?_ _) | (with_reducible refine Kd.C_drew ?_) | exact ay.1)⟩, ⟨pbg⟩⟩
  (first | rw [bL] | (simp only [i64_w, i32_w]; rw [bL]) | skip)
  have H' := am H
  clear H
  have gn := aT.1
  have gQ := au.1
  have gp := aQ.1
  have gR := aq.1
  have gq := aU.1
  have gS := av.1
  have fA := cf3 ag.1
  go_wp2
  go_meet
  case rel => exact ⟨_, (decide ((ae.length : Int) ≥ a1)), prs, H', ⟨by have := ch.1; have := ci.1; have := cF.1; have := cG.1; first | omega | exact Nat.le_refl _⟩, ⟨pkr al.1⟩, ⟨rmo bJ.1 (fun _ hk => ⟨hk.1.1, hk.2⟩)⟩, ⟨nmo aa.1 (fun _ hk => ⟨hk.1.1, ⟨hk.1.2.1, ⟨hk.2, ⟨hk.1.2.2.1, ⟨hk.1.2.2.2.1, ⟨hk.1.2.2.2.2.1, ⟨hk.1.2.2.2.2.2.1, hk.1.2.2.2.2.2.2⟩⟩⟩⟩⟩⟩⟩)⟩, ⟨pkr ab.1⟩, ⟨pbk ac.1⟩, ⟨pbk af.1⟩, ⟨pbk ah.1⟩, ⟨pbk ag.1⟩, ⟨by repeat (first | (with_reducible exact ay.1) | (with_reducible refine Kd.C_alloc ?_ _) | (with_reducible refine Kd.C_drewN ?_ _) | (with_reducible refine Kd.C_drew ?_) | exact ay.1)⟩, ⟨pbg⟩⟩
 clear cX
 try clear c4 cb cd em bp fH hU b4 dJ cq dK iK cr en cQ iL cR eG dL eH dM eI dN iM bL cE cL dj dk dl ek fz fA el bQ bR bS bw a7 bo dc cf bF eg de cg bG eh
 obtain ⟨kq, bV, rfl, HA, ca, al, bq, aa, ab, ac, af, ah, ag, ay, HB⟩ := hcut
 obtain _ | ce := kq
 ·exact absurd HA.1 (by simp [qBF.j4])
 have H := HA.1
 clear HA
 simp only [qBF.j4] at H
 cases bV
 rotate_left
 ·rw [if_pos rfl] at H
  have H' := am H
  clear H
  have gr := aT.1
  have gT := au.1
  have gs := aQ.1
  have gU := aq.1
  have gu := aU.1
  have gV := av.1
  have iH := cf3 ag.1
  go_wp2
  go_roundg ce
  case measure => have := ch.1; have := ci.1; have := cF.1; have := cG.1; have := ca.1; omega
  case rel => exact ⟨(wrap64 (ap + 1)), (aV), (ae), (ax), (false), (.slice (some aY) ae.length bs), (u800001), prs, H', ⟨by have := ch.1; have := ci.1; have := cF.1; have := cG.1; have := ca.1; omega⟩, ⟨by (with_reducible repeat (first | apply Kd.R_alloc | apply Kd.R_drewN | apply Kd.R_drew)); exact Kd.R_mono (Kd.R_far (p := ⟨ai, 2, none⟩) (Kd.qCI al.1 ag.1 (by decide)) (fun _ hk => hk.2) _) (fun _ hk => hk.1.1)⟩, ⟨by (with_reducible repeat (first | apply Kd.N_alloc | apply Kd.N_drewN | apply Kd.N_drew)); exact Kd.N_mono (Kd.N_far (p := ⟨ai, 2, none⟩) (Kd.N_mono aa.1 (fun k_ hk => (⟨hk, hk.2.2.2.2.2.2.2⟩ : _ ∧ k_ ≠ ai))) (fun _ hk => hk.2) _) (fun _ hk => ⟨hk.1.1, ⟨hk.1.2.1, ⟨hk.1.2.2.2.1, ⟨hk.1.2.2.2.2.1, ⟨hk.1.2.2.2.2.2.1, ⟨hk.1.2.2.2.2.2.2.1, hk.1.2.2.2.2.2.2.2⟩⟩⟩⟩⟩⟩)⟩, ⟨by (with_reducible repeat (first | apply Kd.R_alloc | apply Kd.R_drewN | apply Kd.R_drew)); exact Kd.R_mono (Kd.R_far (p := ⟨ai, 2, none⟩) (Kd.qCI ab.1 ag.1 (by decide)) (fun _ hk => hk.2) _) (fun _ hk => hk.1)⟩, ⟨by (with_reducible repeat (first | refine qBK ?_ _ | refine qBM ?_ | refine qBL ?_ _)); refine blk_far ?_ au.1 _; exact pbk ac.1⟩, ⟨by (with_reducible repeat (first | refine qBK ?_ _ | refine qBM ?_ | refine qBL ?_ _)); refine blk_far ?_ aq.1 _; exact pbk af.1⟩, ⟨by (with_reducible repeat (first | refine qBK ?_ _ | refine qBM ?_ | refine qBL ?_ _)); refine blk_far ?_ av.1 _; exact pbk ah.1⟩, ⟨by (with_reducible repeat (first | refine qBK ?_ _ | refine qBM ?_ | refine qBL ?_ _)); refine blk_put (cs := #[.slice (some aY) ae.length bs, u800001, .bool aj]) ?_ 2 _ rfl; exact pbk ag.1⟩, ⟨pbg⟩⟩
 rw [if_neg Bool.false_ne_true] at H
 replace H := ifl H
 rcases H with ⟨dO, H⟩ | ⟨dO, H⟩
 rotate_left
 ·replace H := ifp H
  obtain ⟨fO, H⟩ := H
  have fP := decide_eq_true fO
  clear fO
  replace H := ifd H
  obtain ⟨fR, H⟩ := H
  replace H := ifp H
  obtain ⟨fS, H⟩ := H
  have dC := am fS
  clear fS
  obtain ⟨di, cC⟩ : ∃ y_ : List (S59), y_ = (ax ++ [(⟨ak, rd aM ap, bH⟩ : S59)]) := ⟨_, rfl⟩
  replace H : (qBF.l2 ce a1 ak aM (wrap64 (ap + 1)) aR aE aN ae di aj) = some (r1, r2, r3, r4) := hrp cC H
  have dG := am cC
  clear cC
  have H' := am H
  clear H
  try go_wp2
  replace al := am (Kd.R_drew al.1)
  replace bq := am (Kd.R_drew bq.1)
  replace aa := am (Kd.N_drew aa.1)
  replace ab := am (Kd.R_drew ab.1)
  replace ac := am (qBM ac.1)
  replace af := am (qBM af.1)
  replace ah := am (qBM ah.1)
  replace ag := am (qBM ag.1)
  replace ay := am (Kd.C_drew ay.1)
  replace HB := am (qCB HB.1)
  obtain ⟨ii, ik, dI, eP, b8⟩ := dint (Kd.qBR al.1).2.2 ap
  obtain rfl : aZ = dI := (by injection eP)
  refine start_ (n := 13) (S := fun w' => w'.cell? ⟨ai, 0, none⟩ = some (.slice (some aY) ae.length bs) ∧ w'.cell? ⟨ai, 1, none⟩ = some (u800001) ∧ w'.cell? ⟨ai, 2, none⟩ = some (.bool aj) ∧ w'.cell? (aZ.add (ap).toNat) = some (.int .i64 (rd aM ap))) (ds := [10, 12]) #[false, false, false, false, false, false, false, false, false, false, false, false, false] (by kernel_rfl) rfl rfl ⟨(qBI ag.1 0).trans rfl, (qBI ag.1 1).trans rfl, (qBI ag.1 2).trans rfl, b8⟩ (fun hHeld => ?_); refine qCL qBF.tab28 qBF.bits28 (fun HT_ HW_ => ?_)
  generalize wc.drew = iX at al bq aa ab ac af ah ag ay HB b8 hHeld ⊢
  refine pu HT_.1 0 112 ?_
  refine pu HT_.1 2 114 ?_
  refine pu HT_.1 3 115 ?_
  refine pu HT_.1 4 116 ?_
  refine pu HT_.1 5 117 ?_
  refine pu HT_.1 7 119 ?_
  refine tk HT_.1 HW_.1 hHeld 1 113 ?_
  refine tk HT_.1 HW_.1 hHeld 6 118 ?_
  refine pu HT_.1 8 120 ?_
  refine on HT_.1 9 (some 121) rfl fun K hK => ?_
  refine value_ (w1 := ?_) (v := ?_) (by rfl) rfl ?_ ?_
  rotate_left 2
  ·go_simp
   constructor
   ·rfl
   ·rfl
  refine hK.out _ _ ⟨(qBI (qBL ag.1 _) 0).trans rfl, (qBI (qBL ag.1 _) 1).trans rfl, (qBI (qBL ag.1 _) 2).trans rfl, (World.cell?_alloc_lt _ _ _ (World.block_lt_of_cell? _ _ (hHeld.2.2.2))).trans (hHeld.2.2.2)⟩ (fun hHeld => ?_)
  clear hK K
  refine nm_ 121 ?_
  refine la HT_.1 10 (some 122) rfl fun K hK => ?_
  refine Kd.R_append_step k59 (w0 := w) w.heap.size (by rfl) (.tmp 113) (.tmp 121) 51 59 (.agg #[(.int .i64 0), (.int .i64 0), (.int .i64 0)]) 24 rfl Try.underlying51 info59 rfl (by decide) (by omega) u800001 ax (⟨ak, rd aM ap, bH⟩ : S59) [.int .i64 ak, .int .i64 (rd aM ap), .int .i64 bH] (fun k_ => (w.heap.size ≤ k_)) (fun _ => False) rfl rfl ?aP (fun _ hk => hk.elim) ?aF ?aO ?aB ?aS ?aL ?_
  (case aP => exact k59_mkM _ _ _ (⟨ak, rd aM ap, bH⟩ : S59))
  (case aB => exact pbg)
  (case aF => exact (fun k_ hk => (Nat.le_trans (qBJ pbg) hk)))
  (case aO => exact (pkr ab.1))
  (case aS => exact (qBJ pbg))
  (case aL => have := dC.1; omega)
  intro iv iE ho hb hg hat
  rw [← dG.1] at ho
  have n0_ := am (Kd.R_over' (pkr al.1) (Kd.R_typed (pkr ab.1)) (by decide) hg)
  have n1_ := am (Kd.R_over' (pkr bq.1) (Kd.R_typed (pkr ab.1)) (by decide) hg)
  have n2_ := am (Kd.qCD (ok := (fun k_ => (w.heap.size ≤ k_) ∧ some k_ ≠ (.slice (some aZ) aM.length bD : Value).ownBlock ∧ some k_ ≠ (.slice ck bA.length cv : Value).ownBlock ∧ k_ ≠ aw ∧ k_ ≠ ar ∧ k_ ≠ ao ∧ k_ ≠ ai)) (by (with_reducible repeat (first | apply Kd.N_alloc | apply Kd.N_drewN | apply Kd.N_drew)); exact Kd.N_mono aa.1 (fun _ hk => ⟨⟨hk.1, ⟨hk.2.1, ⟨hk.2.2.1, ⟨hk.2.2.2.2.1, ⟨hk.2.2.2.2.2.1, ⟨hk.2.2.2.2.2.2.1, hk.2.2.2.2.2.2.2⟩⟩⟩⟩⟩⟩, hk.2.2.2.1⟩)) hg hat)
  have n3_ := (bgr ac hg (Kd.R_ne ab.1 ac.1 (by decide)))
  have n4_ := (bgr af hg (Kd.R_ne ab.1 af.1 (by decide)))
  have n5_ := (bgr ah hg (Kd.R_ne ab.1 ah.1 (by decide)))
  have n6_ := (bgr ag hg (Kd.R_ne ab.1 ag.1 (by decide)))
  have n7_ := am hb
  have n8_ := am ho
  clear al bq aa ac af ah ag HB ab
  have al := n0_
  have bq := n1_
  have aa := n2_
  have ac := n3_
  have af := n4_
  have ah := n5_
  have ag := n6_
  have HB := n7_
  have cN := n8_
  clear n0_ n1_ n2_ n3_ n4_ n5_ n6_ n7_ n8_ ho hb hg hat
  obtain ⟨eE, eL, d2⟩ := Kd.R_slice cN.1
  (first | subst d2 | (injection d2 with f1_ f2_ f3_; have f4_ := f1_.symm; have f5_ := f3_.symm; clear f1_ f2_ f3_; subst f4_; subst f5_))
  refine hK.out _ _ ?_
  clear hK K
  refine nm_ 122 ?_
  refine pu HT_.1 11 123 ?_
  refine la HT_.1 12 none rfl fun K hK => ?_
  have hZ : iE.cell? ⟨ai, 1, none⟩ = some (u800001) := (qBI ag.1 1).trans rfl
  have fY := qCJ ag.1 1
  have ex := au.1
  have ey := aq.1
  have ez := av.1
  have er := aT.1
  have es := aQ.1
  have et := aU.1
  refine skip_ (w1 := ?_) (by rfl) rfl ?_ ?_
  rotate_left
  ·go_simp
   rfl
  refine hK.out _ _ ?_
  clear hK K
  refine done_ (done_of HT_.1 (by kernel_rfl)) ?_
  try go_wp2
  go_roundg ce
  case measure => have := ch.1; have := ci.1; have := cF.1; have := cG.1; have := ca.1; omega
  case rel => exact ⟨(wrap64 (ap + 1)), (aV), (ae), (di), (aj), (.slice (some aY) ae.length bs), (.slice eE di.length eL), prs, H', ⟨by have := ch.1; have := ci.1; have := cF.1; have := cG.1; have := ca.1; omega⟩, ⟨by (with_reducible repeat (first | apply Kd.R_alloc | apply Kd.R_drewN | apply Kd.R_drew)); exact Kd.R_mono (Kd.R_far (p := ⟨ai, 1, none⟩) (Kd.qCI al.1 ag.1 (by decide)) (fun _ hk => hk.2) _) (fun _ hk => hk.1.1)⟩, ⟨by (with_reducible repeat (first | apply Kd.N_alloc | apply Kd.N_drewN | apply Kd.N_drew)); exact Kd.N_mono (Kd.N_far (p := ⟨ai, 1, none⟩) (Kd.N_mono aa.1 (fun k_ hk => (⟨hk, hk.1.2.2.2.2.2.2⟩ : _ ∧ k_ ≠ ai))) (fun _ hk => hk.2) _) (fun _ hk => ⟨hk.1.1.1, ⟨hk.1.1.2.1, ⟨hk.1.2, ⟨hk.1.1.2.2.2.1, ⟨hk.1.1.2.2.2.2.1, ⟨hk.1.1.2.2.2.2.2.1, hk.1.1.2.2.2.2.2.2⟩⟩⟩⟩⟩⟩)⟩, ⟨by (with_reducible repeat (first | apply Kd.R_alloc | apply Kd.R_drewN | apply Kd.R_drew)); exact Kd.R_mono (Kd.R_far (p := ⟨ai, 1, none⟩) (Kd.qCI cN.1 ag.1 (by decide)) (fun _ hk => hk.2) _) (fun _ hk => hk.1)⟩, ⟨by (with_reducible repeat (first | refine qBK ?_ _ | refine qBM ?_ | refine qBL ?_ _)); refine blk_far ?_ au.1 _; exact pbk ac.1⟩, ⟨by (with_reducible repeat (first | refine qBK ?_ _ | refine qBM ?_ | refine qBL ?_ _)); refine blk_far ?_ aq.1 _; exact pbk af.1⟩, ⟨by (with_reducible repeat (first | refine qBK ?_ _ | refine qBM ?_ | refine qBL ?_ _)); refine blk_far ?_ av.1 _; exact pbk ah.1⟩, ⟨by (with_reducible repeat (first | refine qBK ?_ _ | refine qBM ?_ | refine qBL ?_ _)); refine blk_put (cs := #[.slice (some aY) ae.length bs, u800001, .bool aj]) ?_ 1 _ rfl; exact pbk ag.1⟩, ⟨pbg⟩⟩
 replace H := ifp H
 obtain ⟨fI, H⟩ := H
 have dz := am fI
 clear fI
 obtain ⟨a8, cA⟩ : ∃ y_ : List (List Int), y_ = (ae ++ [bA]) := ⟨_, rfl⟩
 replace H : (if 0 ≤ ap then (if ap < (aM.length : Int) then (if ax.length < 5864062014805 then (qBF.l2 ce a1 ak aM (wrap64 (ap + 1)) aR aE aN a8 (ax ++ [(⟨ak, rd aM ap, (ae.length : Int)⟩ : S59)]) aj) else (none)) else (none)) else (none)) = some (r1, r2, r3, r4) := hrp cA H
 have dE := am cA
 clear cA
 replace H := ifd H
 obtain ⟨fK, H⟩ := H
 replace H := ifd H
 obtain ⟨fM, H⟩ := H
 replace H := ifp H
 obtain ⟨fN, H⟩ := H
 have dB := am fN
 clear fN
 obtain ⟨dh, cB⟩ : ∃ y_ : List (S59), y_ = (ax ++ [(⟨ak, rd aM ap, (ae.length : Int)⟩ : S59)]) := ⟨_, rfl⟩
 replace H : (qBF.l2 ce a1 ak aM (wrap64 (ap + 1)) aR aE aN a8 dh aj) = some (r1, r2, r3, r4) := hrp cB H
 have dF := am cB
 clear cB
 have H' := am H
 clear H
 have gv := aT.1
 have gW := au.1
 have gw := aQ.1
 have gX := aq.1
 have gx := aU.1
 have gY := av.1
 have iI := cf3 ag.1
 try go_wp2_with (first | ((with_reducible refine qBQ (b := .append) (xs := #[.tmp 107, .tmp 109]) rfl ?_); (try (refine qBP (by rfl) ?_; dsimp only)); at_builtin; refine Kd.N_append (Kd.slice 3 (Kd.int .i64)) (w0 := w) w.heap.size rfl (.tmp 107) (.tmp 109) 30 39 (.slice none 0 0) 24 rfl Try.underlying30 info39 rfl (by decide) (by omega) (.slice (some aY) ae.length bs) ae bA [.slice ck bA.length cv] (fun k_ => (w.heap.size ≤ k_) ∧ some k_ ≠ (.slice (some aZ) aM.length bD : Value).ownBlock ∧ some k_ ≠ (u800001 : Value).ownBlock ∧ k_ ≠ aw ∧ k_ ≠ ar ∧ k_ ≠ ao ∧ k_ ≠ ai) (fun k_ => ((fun k_ => (w.heap.size ≤ k_) ∧ some k_ ≠ (.slice (some aZ) aM.length bD : Value).ownBlock ∧ some k_ ≠ (u800001 : Value).ownBlock ∧ k_ ≠ aw ∧ k_ ≠ ar ∧ k_ ≠ ao ∧ k_ ≠ ai)) k_ ∧ some k_ ≠ (.slice (some aY) ae.length bs : Value).ownBlock) rfl rfl ?aP (fun _ hk => hk) ?aF ?aO ?aB ?aS ?aL ?_; (case aP => exact (Kd.qBW (Kd.qBR (Kd.R_mono (ok' := (fun k_ => ((fun k_ => (w.heap.size ≤ k_) ∧ some k_ ≠ (.slice (some aZ) aM.length bD : Value).ownBlock ∧ some k_ ≠ (u800001 : Value).ownBlock ∧ k_ ≠ aw ∧ k_ ≠ ar ∧ k_ ≠ ao ∧ k_ ≠ ai)) k_ ∧ some k_ ≠ (.slice (some aY) ae.length bs : Value).ownBlock)) (Kd.qCI (Kd.qCI (Kd.qCI (Kd.qCI (Kd.qCO (Kd.qCO (bq.1) (Kd.R_typed ab.1) (by decide)) (Kd.N_typed aa.1) (by decide)) ac.1 (by decide)) af.1 (by decide)) ah.1 (by decide)) ag.1 (by decide)) (fun k_ hk => ⟨⟨hk.1.1.1.1.1.1.1, ⟨hk.1.1.1.1.1.1.2, ⟨hk.1.1.1.1.1.2, ⟨hk.1.1.1.2, ⟨hk.1.1.2, ⟨hk.1.2, hk.2⟩⟩⟩⟩⟩⟩, hk.1.1.1.1.2⟩))).2.1 (Kd.R_F (Kd.R_mono (ok' := (fun k_ => ((fun k_ => (w.heap.size ≤ k_) ∧ some k_ ≠ (.slice (some aZ) aM.length bD : Value).ownBlock ∧ some k_ ≠ (u800001 : Value).ownBlock ∧ k_ ≠ aw ∧ k_ ≠ ar ∧ k_ ≠ ao ∧ k_ ≠ ai)) k_ ∧ some k_ ≠ (.slice (some aY) ae.length bs : Value).ownBlock)) (Kd.qCI (Kd.qCI (Kd.qCI (Kd.qCI (Kd.qCO (Kd.qCO (bq.1) (Kd.R_typed ab.1) (by decide)) (Kd.N_typed aa.1) (by decide)) ac.1 (by decide)) af.1 (by decide)) ah.1 (by decide)) ag.1 (by decide)) (fun k_ hk => ⟨⟨hk.1.1.1.1.1.1.1, ⟨hk.1.1.1.1.1.1.2, ⟨hk.1.1.1.1.1.2, ⟨hk.1.1.1.2, ⟨hk.1.1.2, ⟨hk.1.2, hk.2⟩⟩⟩⟩⟩⟩, hk.1.1.1.1.2⟩))))); (case aB => exact pbg); (case aF => exact (fun k_ hk => ⟨(Nat.le_trans (qBJ pbg) hk), Kd.fresh' (Kd.R_lt (pkr al.1)) k_ hk, Kd.fresh' (Kd.R_lt (pkr ab.1)) k_ hk, Kd.freshB (g := aw) (o := .cells #[.string aR, .slice bf aE.length bj, .slice bg aN.length bk] 25 (0, 0)) (by exact pbk ac.1) k_ hk, Kd.freshB (g := ar) (o := .cells #[.slice none 0 0, .slice none 0 0, .bool aV] 53 (0, 0)) (by exact pbk af.1) k_ hk, Kd.freshB (g := ao) (o := .cells #[.int .i64 bm, .int .i64 bn] 48 (0, 0)) (by exact pbk ah.1) k_ hk, Kd.freshB (g := ai) (o := .cells #[.slice (some aY) ae.length bs, u800001, .bool aj] 53 (0, 0)) (by exact pbk ag.1) k_ hk⟩)); (case aO => exact (by (with_reducible repeat (first | apply Kd.N_alloc | apply Kd.N_drewN | apply Kd.N_drew)); exact Kd.N_mono aa.1 (fun _ hk => ⟨hk.1, ⟨hk.2.1, ⟨hk.2.2.2.1, ⟨hk.2.2.2.2.1, ⟨hk.2.2.2.2.2.1, ⟨hk.2.2.2.2.2.2.1, hk.2.2.2.2.2.2.2⟩⟩⟩⟩⟩⟩))); (case aS => exact (qBJ pbg)); (case aL => have := dz.1; omega); intro ir cK ho hb hg hat; rw [← dE.1] at ho; have bi := am ho; replace al := am (Kd.R_over' (pkr al.1) (Kd.N_typed (pkn aa.1)) (by decide) hg); replace ab := am (Kd.R_over' (pkr ab.1) (Kd.N_typed (pkn aa.1)) (by decide) hg); replace ac := (bgr ac hg (Kd.N_ne aa.1 ac.1 (by decide))); replace af := (bgr af hg (Kd.N_ne aa.1 af.1 (by decide))); replace ah := (bgr ah hg (Kd.N_ne aa.1 ah.1 (by decide))); replace ag := (bgr ag hg (Kd.N_ne aa.1 ag.1 (by decide))); replace HB := am hb; (try clear aa bq); clear ho hb hg hat; obtain ⟨bh, bl, eV⟩ := Kd.N_slice bi.1; subst eV; have iJ := cf3 ag.1))
 have n0_ : Aside0 (Kd.R (Kd.int .i64) 3 (cK.setCell ⟨ai, 0, none⟩ (.slice bh a8.length bl)) w.heap.size (fun k_ => (w.heap.size ≤ k_)) (.slice (some aZ) aM.length bD) aM) := ⟨by (with_reducible repeat (first | apply Kd.R_alloc | apply Kd.R_drewN | apply Kd.R_drew)); exact Kd.R_mono (Kd.R_far (p := ⟨ai, 0, none⟩) (Kd.qCI al.1 ag.1 (by decide)) (fun _ hk => hk.2) (.slice bh a8.length bl)) (fun _ hk => hk.1.1)⟩
 have n1_ : Aside0 (Kd.R k59 59 (cK.setCell ⟨ai, 0, none⟩ (.slice bh a8.length bl)) w.heap.size (fun k_ => (w.heap.size ≤ k_)) u800001 ax) := ⟨by (with_reducible repeat (first | apply Kd.R_alloc | apply Kd.R_drewN | apply Kd.R_drew)); exact Kd.R_mono (Kd.R_far (p := ⟨ai, 0, none⟩) (Kd.qCI ab.1 ag.1 (by decide)) (fun _ hk => hk.2) (.slice bh a8.length bl)) (fun _ hk => hk.1)⟩
 have n2_ : Aside0 (Kd.N (Kd.slice 3 (Kd.int .i64)) 39 (cK.setCell ⟨ai, 0, none⟩ (.slice bh a8.length bl)) w.heap.size (fun k_ => (w.heap.size ≤ k_) ∧ some k_ ≠ (.slice (some aZ) aM.length bD : Value).ownBlock ∧ some k_ ≠ (u800001 : Value).ownBlock ∧ k_ ≠ aw ∧ k_ ≠ ar ∧ k_ ≠ ao ∧ k_ ≠ ai) (.slice bh a8.length bl) a8) := ⟨by (with_reducible repeat (first | apply Kd.N_alloc | apply Kd.N_drewN | apply Kd.N_drew)); exact Kd.N_mono (Kd.N_far (p := ⟨ai, 0, none⟩) (Kd.N_mono bi.1 (fun k_ hk => (⟨hk, hk.2.2.2.2.2.2⟩ : _ ∧ k_ ≠ ai))) (fun _ hk => hk.2) (.slice bh a8.length bl)) (fun _ hk => ⟨hk.1.1, ⟨hk.1.2.1, ⟨hk.1.2.2.1, ⟨hk.1.2.2.2.1, ⟨hk.1.2.2.2.2.1, ⟨hk.1.2.2.2.2.2.1, hk.1.2.2.2.2.2.2⟩⟩⟩⟩⟩⟩)⟩
 have n3_ : Aside0 ((cK.setCell ⟨ai, 0, none⟩ (.slice bh a8.length bl)).heap[aw]? = some (.cells #[.string aR, .slice bf aE.length bj, .slice bg aN.length bk] 25 (0, 0))) := ⟨by (with_reducible repeat (first | refine qBK ?_ _ | refine qBM ?_ | refine qBL ?_ _)); refine blk_far ?_ au.1 _; exact pbk ac.1⟩
 have n4_ : Aside0 ((cK.setCell ⟨ai, 0, none⟩ (.slice bh a8.length bl)).heap[ar]? = some (.cells #[.slice none 0 0, .slice none 0 0, .bool aV] 53 (0, 0))) := ⟨by (with_reducible repeat (first | refine qBK ?_ _ | refine qBM ?_ | refine qBL ?_ _)); refine blk_far ?_ aq.1 _; exact pbk af.1⟩
 have n5_ : Aside0 ((cK.setCell ⟨ai, 0, none⟩ (.slice bh a8.length bl)).heap[ao]? = some (.cells #[.int .i64 bm, .int .i64 bn] 48 (0, 0))) := ⟨by (with_reducible repeat (first | refine qBK ?_ _ | refine qBM ?_ | refine qBL ?_ _)); refine blk_far ?_ av.1 _; exact pbk ah.1⟩
 have n6_ : Aside0 ((cK.setCell ⟨ai, 0, none⟩ (.slice bh a8.length bl)).heap[ai]? = some (.cells #[.slice bh a8.length bl, u800001, .bool aj] 53 (0, 0))) := ⟨by (with_reducible repeat (first | refine qBK ?_ _ | refine qBM ?_ | refine qBL ?_ _)); refine blk_put (cs := #[.slice (some aY) ae.length bs, u800001, .bool aj]) ?_ 0 _ rfl; exact pbk ag.1⟩
 have n7_ : Aside0 (Below w.heap.size w (cK.setCell ⟨ai, 0, none⟩ (.slice bh a8.length bl))) := ⟨pbg⟩
 (try clear al)
 (try clear ab)
 (try clear bi)
 (try clear ac)
 (try clear af)
 (try clear ah)
 (try clear ag)
 (try clear HB)
 generalize (cK.setCell ⟨ai, 0, none⟩ (.slice bh a8.length bl)) = iC at n0_ n1_ n2_ n3_ n4_ n5_ n6_ n7_ ⊢
 have al := n0_
 have ab := n1_
 have bi := n2_
 have ac := n3_
 have af := n4_
 have ah := n5_
 have ag := n6_
 have HB := n7_
 clear n0_ n1_ n2_ n3_ n4_ n5_ n6_ n7_
 replace al := am (Kd.R_drew al.1)
 replace ab := am (Kd.R_drew ab.1)
 replace bi := am (Kd.N_drew bi.1)
 replace ac := am (qBM ac.1)
 replace af := am (qBM af.1)
 replace ah := am (qBM ah.1)
 replace ag := am (qBM ag.1)
 replace HB := am (qCB HB.1)
 obtain ⟨ig, ij, dH, eO, b7⟩ := dint (Kd.qBR al.1).2.2 ap
 obtain rfl : aZ = dH := (by injection eO)
 refine start_ (n := 13) (S := fun w' => w'.cell? ⟨ai, 0, none⟩ = some (.slice bh a8.length bl) ∧ w'.cell? ⟨ai, 1, none⟩ = some (u800001) ∧ w'.cell? ⟨ai, 2, none⟩ = some (.bool aj) ∧ w'.cell? (aZ.add (ap).toNat) = some (.int .i64 (rd aM ap))) (ds := [10, 12]) #[false, false, false, false, false, false, false, false, false, false, false, false, false] (by kernel_rfl) rfl rfl ⟨(qBI ag.1 0).trans rfl, (qBI ag.1 1).trans rfl, (qBI ag.1 2).trans rfl, b7⟩ (fun hHeld => ?_); refine qCL qBF.tab28 qBF.bits28 (fun HT_ HW_ => ?_)
 generalize iC.drew = iW at al ab bi ac af ah ag HB b7 hHeld ⊢
 refine pu HT_.1 0 112 ?_
 refine pu HT_.1 2 114 ?_
 refine pu HT_.1 3 115 ?_
 refine pu HT_.1 4 116 ?_
 refine pu HT_.1 5 117 ?_
 refine pu HT_.1 7 119 ?_
 refine tk HT_.1 HW_.1 hHeld 1 113 ?_
 refine tk HT_.1 HW_.1 hHeld 6 118 ?_
 refine pu HT_.1 8 120 ?_
 refine on HT_.1 9 (some 121) rfl fun K hK => ?_
 refine value_ (w1 := ?_) (v := ?_) (by rfl) rfl ?_ ?_
 rotate_left 2
 ·go_simp
  constructor
  ·rfl
  ·rfl
 refine hK.out _ _ ⟨(qBI (qBL ag.1 _) 0).trans rfl, (qBI (qBL ag.1 _) 1).trans rfl, (qBI (qBL ag.1 _) 2).trans rfl, (World.cell?_alloc_lt _ _ _ (World.block_lt_of_cell? _ _ (hHeld.2.2.2))).trans (hHeld.2.2.2)⟩ (fun hHeld => ?_)
 clear hK K
 refine nm_ 121 ?_
 refine la HT_.1 10 (some 122) rfl fun K hK => ?_
 refine Kd.R_append_step k59 (w0 := w) w.heap.size (by rfl) (.tmp 113) (.tmp 121) 51 59 (.agg #[(.int .i64 0), (.int .i64 0), (.int .i64 0)]) 24 rfl Try.underlying51 info59 rfl (by decide) (by omega) u800001 ax (⟨ak, rd aM ap, (ae.length : Int)⟩ : S59) [.int .i64 ak, .int .i64 (rd aM ap), .int .i64 (ae.length : Int)] (fun k_ => (w.heap.size ≤ k_)) (fun _ => False) rfl rfl ?aP (fun _ hk => hk.elim) ?aF ?aO ?aB ?aS ?aL ?_
 (case aP => exact k59_mkM _ _ _ (⟨ak, rd aM ap, (ae.length : Int)⟩ : S59))
 (case aB => exact pbg)
 (case aF => exact (fun k_ hk => (Nat.le_trans (qBJ pbg) hk)))
 (case aO => exact (pkr ab.1))
 (case aS => exact (qBJ pbg))
 (case aL => have := dB.1; omega)
 intro iu iD ho hb hg hat
 rw [← dF.1] at ho
 have n0_ := am (Kd.R_over' (pkr al.1) (Kd.R_typed (pkr ab.1)) (by decide) hg)
 have n1_ := (bgr ac hg (Kd.R_ne ab.1 ac.1 (by decide)))
 have n2_ := (bgr af hg (Kd.R_ne ab.1 af.1 (by decide)))
 have n3_ := (bgr ah hg (Kd.R_ne ab.1 ah.1 (by decide)))
 have n4_ := (bgr ag hg (Kd.R_ne ab.1 ag.1 (by decide)))
 have n5_ := am (Kd.qCD (ok := (fun k_ => (w.heap.size ≤ k_) ∧ some k_ ≠ (.slice (some aZ) aM.length bD : Value).ownBlock ∧ k_ ≠ aw ∧ k_ ≠ ar ∧ k_ ≠ ao ∧ k_ ≠ ai)) (by (with_reducible repeat (first | apply Kd.N_alloc | apply Kd.N_drewN | apply Kd.N_drew)); exact Kd.N_mono bi.1 (fun _ hk => ⟨⟨hk.1, ⟨hk.2.1, ⟨hk.2.2.2.1, ⟨hk.2.2.2.2.1, ⟨hk.2.2.2.2.2.1, hk.2.2.2.2.2.2⟩⟩⟩⟩⟩, hk.2.2.1⟩)) hg hat)
 have n6_ := am hb
 have n7_ := am ho
 clear al ac af ah ag bi HB ab
 have al := n0_
 have ac := n1_
 have af := n2_
 have ah := n3_
 have ag := n4_
 have bi := n5_
 have HB := n6_
 have cM := n7_
 clear n0_ n1_ n2_ n3_ n4_ n5_ n6_ n7_ ho hb hg hat
 obtain ⟨eD, eK, d1⟩ := Kd.R_slice cM.1
 (first | subst d1 | (injection d1 with f1_ f2_ f3_; have f4_ := f1_.symm; have f5_ := f3_.symm; clear f1_ f2_ f3_; subst f4_; subst f5_))
 refine hK.out _ _ ?_
 clear hK K
 refine nm_ 122 ?_
 refine pu HT_.1 11 123 ?_
 refine la HT_.1 12 none rfl fun K hK => ?_
 have hY : iD.cell? ⟨ai, 1, none⟩ = some (u800001) := (qBI ag.1 1).trans rfl
 have fX := qCJ ag.1 1
 have eu := au.1
 have ev := aq.1
 have ew := av.1
 have eo := aT.1
 have ep := aQ.1
 have eq := aU.1
 refine skip_ (w1 := ?_) (by rfl) rfl ?_ ?_
 rotate_left
 ·go_simp
  rfl
 refine hK.out _ _ ?_
 clear hK K
 refine done_ (done_of HT_.1 (by kernel_rfl)) ?_
 try go_wp2
 go_roundg ce
 case measure => have := ch.1; have := ci.1; have := cF.1; have := cG.1; have := ca.1; omega
 case rel => exact ⟨(wrap64 (ap + 1)), (aV), (a8), (dh), (aj), (.slice bh a8.length bl), (.slice eD dh.length eK), prs, H', ⟨by have := ch.1; have := ci.1; have := cF.1; have := cG.1; have := ca.1; omega⟩, ⟨by (with_reducible repeat (first | apply Kd.R_alloc | apply Kd.R_drewN | apply Kd.R_drew)); exact Kd.R_mono (Kd.R_far (p := ⟨ai, 1, none⟩) (Kd.qCI al.1 ag.1 (by decide)) (fun _ hk => hk.2) _) (fun _ hk => hk.1)⟩, ⟨by (with_reducible repeat (first | apply Kd.N_alloc | apply Kd.N_drewN | apply Kd.N_drew)); exact Kd.N_mono (Kd.N_far (p := ⟨ai, 1, none⟩) (Kd.N_mono bi.1 (fun k_ hk => (⟨hk, hk.1.2.2.2.2.2⟩ : _ ∧ k_ ≠ ai))) (fun _ hk => hk.2) _) (fun _ hk => ⟨hk.1.1.1, ⟨hk.1.1.2.1, ⟨hk.1.2, ⟨hk.1.1.2.2.1, ⟨hk.1.1.2.2.2.1, ⟨hk.1.1.2.2.2.2.1, hk.1.1.2.2.2.2.2⟩⟩⟩⟩⟩⟩)⟩, ⟨by (with_reducible repeat (first | apply Kd.R_alloc | apply Kd.R_drewN | apply Kd.R_drew)); exact Kd.R_mono (Kd.R_far (p := ⟨ai, 1, none⟩) (Kd.qCI cM.1 ag.1 (by decide)) (fun _ hk => hk.2) _) (fun _ hk => hk.1)⟩, ⟨by (with_reducible repeat (first | refine qBK ?_ _ | refine qBM ?_ | refine qBL ?_ _)); refine blk_far ?_ au.1 _; exact pbk ac.1⟩, ⟨by (with_reducible repeat (first | refine qBK ?_ _ | refine qBM ?_ | refine qBL ?_ _)); refine blk_far ?_ aq.1 _; exact pbk af.1⟩, ⟨by (with_reducible repeat (first | refine qBK ?_ _ | refine qBM ?_ | refine qBL ?_ _)); refine blk_far ?_ av.1 _; exact pbk ah.1⟩, ⟨by (with_reducible repeat (first | refine qBK ?_ _ | refine qBM ?_ | refine qBL ?_ _)); refine blk_put (cs := #[.slice bh a8.length bl, u800001, .bool aj]) ?_ 1 _ rfl; exact pbk ag.1⟩, ⟨pbg⟩⟩

/-! ### r04_Leq: function 30 -/
def r04_Leq.l0 : Nat → List Int → List Int → Int → Option (Bool)
 | 0, _, _, _ => none
 | k + 1, x0, x1, x5 => if x5 < (x0.length : Int) then (if 0 ≤ x5 then (if x5 < (x1.length : Int) then (if (rd x0 x5) > (rd x1 x5) then (some false) else (r04_Leq.l0 k x0 x1 (wrap64 (x5 + 1)))) else (none)) else (none)) else (some true)
def r04_Leq.f (k : Nat) (l0 : List Int) (l1 : List Int) : Option (Bool) := if (l0.length : Int) = (l1.length : Int) then (r04_Leq.l0 k l0 l1 0) else (some false)
theorem r04_Leq.calls (k : Nat) (A0 : Option Addr) (c0 : Nat) (l0 : List Int) (A1 : Option Addr) (c1 : Nat) (l1 : List Int) (r : Bool) (w : World) (aA : Kd.C (Kd.int .i64) w A0 l0.length l0) (hc0 : l0.length ≤ c0) (hr1 : Kd.C (Kd.int .i64) w A1 l1.length l1) (az : l1.length ≤ c1) (h : r04_Leq.f k l0 l1 = some r) :
  Calls Try.prog 30 #[.slice A0 l0.length c0, .slice A1 l1.length c1] w fun e w' => e = .returned (.bool r) ∧ Drawn0 w w' := by
 have ax := am aA
 have aD := am hc0
 clear aA hc0
 have ay := am hr1
 have aE := am az
 clear hr1 az
 have H := h
 unfold r04_Leq.f at H
 clear h
 by_cases c3 : (l0.length : Int) = (l1.length : Int)
 rotate_left
 ·rw [if_neg c3] at H
  have ai : ((l0.length : Int) == (l1.length : Int)) = false := beq_eq_false_iff_ne.mpr c3
  have aj : ((l0.length : Int) != (l1.length : Int)) = true := bne_iff_ne.mpr c3
  have ak : (l0.length == l1.length) = false := by first | simpa using c3 | (simp at c3 ⊢; omega)
  obtain rfl := Option.some.inj H
  go_enter Try.func30, Try.ntmps30
  go_wp2
  repeat (go_quiet (fail); try go_wp2)
  go_ret
  exact ⟨prs, pdr⟩
 rw [if_pos c3] at H
 have ai : ((l0.length : Int) == (l1.length : Int)) = true := beq_iff_eq.mpr c3
 have aj : ((l0.length : Int) != (l1.length : Int)) = false := bne_eq_false_iff_eq.mpr c3
 have ak : (l0.length == l1.length) = true := by first | simpa using c3 | (simp at c3 ⊢; omega)
 clear c3
 have H' := am H
 clear H
 go_enter Try.func30, Try.ntmps30
 go_wp2
 repeat (go_quiet (fail); try go_wp2)
 go_loopg [5] k (fun kq v5 w' => ∃ (aa : Int), v5 = .int .i64 aa ∧ Aside0 (r04_Leq.l0 kq l0 l1 aa = some r) ∧ Aside0 (kq ≤ k) ∧ Drawn0 w w')
 case atStart => exact ⟨(0), prs, H', ⟨Nat.le_refl _⟩, pdr⟩
 clear H'
 try clear c1 c3 ai aj ak
 obtain ⟨aa, rfl, HA, aw, ⟨m1, rfl⟩⟩ := hrel
 obtain _ | k1 := gk
 ·exact absurd HA.1 (by simp [r04_Leq.l0])
 have H := HA.1
 clear HA
 simp only [r04_Leq.l0] at H
 replace H := ifl H
 rcases H with ⟨al, H⟩ | ⟨al, H⟩
 rotate_left
 ·obtain rfl := Option.some.inj H
  go_wp2
  repeat (go_quiet (fail); try go_wp2)
  go_ret
  exact ⟨prs, pdr⟩
 replace H := ifd H
 obtain ⟨aB, H⟩ := H
 replace H := ifd H
 obtain ⟨aC, H⟩ := H
 replace H := ifg H
 rcases H with ⟨ao, H⟩ | ⟨ao, H⟩
 ·obtain rfl := Option.some.inj H
  obtain ⟨aq, au, ag, ae, ab⟩ := dint ax.1 aa
  cases ae
  obtain ⟨ar, av, ah, af, ac⟩ := dint ay.1 aa
  cases af
  go_wp2
  repeat (go_quiet (fail); try go_wp2)
  go_ret
  exact ⟨prs, pdr⟩
 have H' := am H
 clear H
 obtain ⟨aq, au, ag, ae, ab⟩ := dint ax.1 aa
 cases ae
 obtain ⟨ar, av, ah, af, ac⟩ := dint ay.1 aa
 cases af
 go_wp2
 repeat (go_quiet (fail); try go_wp2)
 go_roundg k1
 case measure => have := aw.1; omega
 case rel => exact ⟨(wrap64 (aa + 1)), prs, H', ⟨by have := aw.1; omega⟩, pdr⟩

/-! ### qAA: function 7 -/
mutual
def qAA.j0 : Nat → List Int → List Int → Bool → ByteArray → List (S64) → List (S38) → Option (Bool)
 | 0, _, _, _, _, _, _ => none
 | k + 1, x1, x2, jk, ar, ap, al => if jk = true then ((qAB.f k).bind fun dQ => (some dQ)) else ((qAX.f k ar ap al 200).bind fun cb => (if cb.2.2 = 0 then (qAA.j1 k x1 x2 cb.1 (!cb.2.1) ar ap al) else (qAA.j1 k x1 x2 cb.1 true ar ap al)))
def qAA.j1 : Nat → List Int → List Int → List (List Int) → Bool → ByteArray → List (S64) → List (S38) → Option (Bool)
 | 0, _, _, _, _, _, _, _ => none
 | k + 1, x1, x2, x9, jl, ar, ap, al => if jl = true then ((qAB.f k).bind fun dR => (some dR)) else ((r09_Initial.f k ar ap al).bind fun bI => ((r11_Run.f k ar ap al bI x2).bind fun dg => (if dg.2.1 = 0 then ((qAU.f k x9 dg.1).bind fun dS => (if dS = true then ((qAU.f k x9 bI).bind fun cT => (qAA.j2 k x1 x9 (!cT) ar ap al)) else (none))) else ((qAU.f k x9 bI).bind fun cU => (qAA.j2 k x1 x9 (!cU) ar ap al)))))
def qAA.j2 : Nat → List Int → List (List Int) → Bool → ByteArray → List (S64) → List (S38) → Option (Bool)
 | 0, _, _, _, _, _, _ => none
 | k + 1, x1, x9, jm, ar, ap, al => if jm = true then (none) else ((qBF.f k ar ap al 100).bind fun bG => (if bG.2.2.2 = 0 then (qAA.j3 k x1 x9 (!bG.2.2.1) ar ap al bG.1 bG.2.1 bG.2.2.1) else (qAA.j3 k x1 x9 true ar ap al bG.1 bG.2.1 bG.2.2.1)))
def qAA.j3 : Nat → List Int → List (List Int) → Bool → ByteArray → List (S64) → List (S38) → List (List Int) → List (S59) → Bool → Option (Bool)
 | 0, _, _, _, _, _, _, _, _, _ => none
 | k + 1, x1, x9, jn, ar, ap, al, aY, aN, ba => if jn = true then ((qAB.f k).bind fun dU => (some dU)) else (qAA.l0 k x1 x9 false 0 ar ap al aY aN ba)
def qAA.l0 : Nat → List Int → List (List Int) → Bool → Int → ByteArray → List (S64) → List (S38) → List (List Int) → List (S59) → Bool → Option (Bool)
 | 0, _, _, _, _, _, _, _, _, _, _ => none
 | k + 1, x1, x9, cX, d5, ar, ap, al, aY, aN, ba => if d5 < (aY.length : Int) then (if cX = true then (qAA.l0 k x1 x9 true (wrap64 (d5 + 1)) ar ap al aY aN ba) else ((r04_Valid.f k x1 (ap.length : Int)).bind fun dV => (if dV = true then (if 0 ≤ d5 then ((r04_Leq.f k x1 (rd_L11 aY d5)).bind fun cV => (qAA.l0 k x1 x9 cV (wrap64 (d5 + 1)) ar ap al aY aN ba)) else (none)) else (qAA.l0 k x1 x9 false (wrap64 (d5 + 1)) ar ap al aY aN ba)))) else (if 0 ≤ (al.length : Int) then (if ((al.length : Int) : Int).toNat ≤ 281474976710656 then (qAA.l1 k x1 x9 cX (List.replicate ((al.length : Int) : Int).toNat false) 0 ar ap al aY aN ba) else (none)) else (none))
def qAA.l1 : Nat → List Int → List (List Int) → Bool → List Bool → Int → ByteArray → List (S64) → List (S38) → List (List Int) → List (S59) → Bool → Option (Bool)
 | 0, _, _, _, _, _, _, _, _, _, _, _ => none
 | k + 1, x1, x9, cX, dp, d6, ar, ap, al, aY, aN, ba => if d6 < (aN.length : Int) then (if 0 ≤ d6 then (if 0 ≤ ((rd_T59 aN d6).f1) then (if ((rd_T59 aN d6).f1) < (dp.length : Int) then (qAA.l1 k x1 x9 cX (dp.set (((rd_T59 aN d6).f1) : Int).toNat true) (wrap64 (d6 + 1)) ar ap al aY aN ba) else (none)) else (none)) else (none)) else (qAA.l2 k x1 x9 cX dp ([] : List Int) 0 ar ap al)
def qAA.l2 : Nat → List Int → List (List Int) → Bool → List Bool → List Int → Int → ByteArray → List (S64) → List (S38) → Option (Bool)
 | 0, _, _, _, _, _, _, _, _, _ => none
 | k + 1, x1, x9, cX, dp, eR, d7, ar, ap, al => if d7 < (dp.length : Int) then (if 0 ≤ d7 then (if rdOf false dp d7 = true then (if eR.length < 17592186044416 then (qAA.l2 k x1 x9 cX dp (eR ++ [d7]) (wrap64 (d7 + 1)) ar ap al) else (none)) else (qAA.l2 k x1 x9 cX dp eR (wrap64 (d7 + 1)) ar ap al)) else (none)) else ((qAW.f k x9).bind fun dW => (if dW = true then ((qAU.f k x9 x1).bind fun cC => (if (cC == cX) = true then ((qAV.f k ar ap al x9).bind fun cW => ((r04_Same.f k cW eR).bind fun dX => (if dX = true then ((qAB.f k).bind fun dY => (some dY)) else (none)))) else (none))) else (none)))
end
def qAA.f (k : Nat) (bs : ByteArray) (bh : List (S64)) (bi : List (S38)) (l1 : List Int) (l2 : List Int) : Option (Bool) := (r09_Small.f k bs bh bi).bind fun bc => (if bc.2.2.2 = true then ((r09_Light.f k bc.1 bc.2.1 bc.2.2.1).bind fun dP => (if dP = true then (qAA.j0 k l1 l2 (decide ((l2.length : Int) > 40)) bc.1 bc.2.1 bc.2.2.1) else (qAA.j0 k l1 l2 true bc.1 bc.2.1 bc.2.2.1))) else (qAA.j0 k l1 l2 true bc.1 bc.2.1 bc.2.2.1))
theorem qAA.calls (k : Nat) (bs : ByteArray) (bB : Option Addr) (bE : Nat) (bh : List (S64)) (bC : Option Addr) (bF : Nat) (bi : List (S38)) (A1 : Option Addr) (c1 : Nat) (l1 : List Int) (A2 : Option Addr) (c2 : Nat) (l2 : List Int) (r : Bool) (w : World) (dm : Kd.C k64 w bB bh.length bh) (dk : bh.length ≤ bE) (dn : Kd.C k38 w bC bi.length bi) (dl : bi.length ≤ bF) (hr1 : Kd.C (Kd.int .i64) w A1 l1.length l1) (gP : l1.length ≤ c1) (hr2 : Kd.C (Kd.int .i64) w A2 l2.length l2) (gQ : l2.length ≤ c2) (h : qAA.f k bs bh bi l1 l2 = some r) :
  Calls Try.prog 7 #[.agg #[.string bs, .slice bB bh.length bE, .slice bC bi.length bF], .slice A1 l1.length c1, .slice A2 l2.length c2] w fun e w' => e = .returned (.bool r) ∧ Below w.heap.size w w' := by
 have iW := Try.underlying25
 have iX := Try.underlying48
 have iY := Try.underlying53
 have eh := am dm
 have ed := am dk
 clear dm dk
 have ei := am dn
 have ee := am dl
 clear dn dl
 have eJ := am hr1
 have eG := am gP
 clear hr1 gP
 have iS := am hr2
 have iR := am gQ
 clear hr2 gQ
 have HB := am (Below.refl w.heap.size w)
 have H := h
 unfold qAA.f at H
 clear h
 replace H := bnd H
 obtain ⟨⟨aQ, aw, av, ex⟩, A4, H⟩ := H
 (try dsimp only at H)
 have eZ := am H
 clear H
 go_enter Try.func7, Try.ntmps7
 go_upto_region 2 with (first | ((with_reducible refine qBN (N := 3) rfl ?_); (try (refine qBP (by rfl) ?_; dsimp only)); refine box_ev ?_; intro aj hg w6 hbox hb; have ae := am hbox; have bY := gwl hg; have gA := bY; replace HB := bsl hb; clear hb hbox hg; have d1 := cf3 ae.1) | ((with_reducible refine qBO (f := 10) rfl ?_); refine gC 25 Try.func10 _ (r09_Small.calls k bs (fun k_ => k_ < w.heap.size) _ _ bh (fun k_ => k_ < w.heap.size) _ _ bi aQ aw av ex _ (Kd.V_mk ed.1 (Kd.F_below (Kd.C_F k64_heap eh.1) pbg)) (Kd.V_mk ee.1 (Kd.F_below (Kd.C_F k38_heap ei.1) pbg)) A4.1) ?_; rintro e w8 ⟨i7, i8, rfl, bq, ho1, hb⟩; refine ⟨_, rfl, ?_⟩; have a8 := am (Kd.V_lower (Kd.V_mono (ok' := fun k_ => k_ ≠ aj) bq (fun k_ hk_ => Or.elim hk_ (fun hs_ => Or.elim hs_ (fun hs_ => fun e_ => Nat.not_le.2 hs_ (by rw [e_]; exact bY.1)) (fun hs_ => fun e_ => Nat.not_le.2 hs_ (by rw [e_]; exact bY.1))) (fun hn_ => (Kd.freshB (g := aj) (o := .cells #[.string bs, .slice bB bh.length bE, .slice bC bi.length bF] 25 (0, 0)) (by exact pbk ae.1) k_ hn_)))) (qBJ pbg)); have a9 := am (Kd.V_lower (Kd.V_mono (ok' := fun k_ => k_ ≠ aj) ho1 (fun k_ hk_ => Or.elim hk_ (fun hs_ => Or.elim hs_ (fun hs_ => fun e_ => Nat.not_le.2 hs_ (by rw [e_]; exact bY.1)) (fun hs_ => fun e_ => Nat.not_le.2 hs_ (by rw [e_]; exact bY.1))) (fun hn_ => (Kd.freshB (g := aj) (o := .cells #[.string bs, .slice bB bh.length bE, .slice bC bi.length bF] 25 (0, 0)) (by exact pbk ae.1) k_ hn_)))) (qBJ pbg)); replace ae := bbh ae hb; replace HB := bst hb; (try clear hb); (try clear bq); (try clear ho1)) | ((with_reducible refine qBN (N := 7) rfl ?_); (try (refine qBP (by rfl) ?_; dsimp only)); refine box_ev (N := 7) (cs := #[.string (⟨#[]⟩ : ByteArray), .slice none 0 0, .slice none 0 0]) (t := 25) ?_; intro ah hg w9 hbox hb; have ac := am hbox; have d9 := gwb hg; have gB := d9; have ax := nlt hg ae; have aG := ngt hg ae; replace a8 := vbb a8 hg hb; replace a9 := vbb a9 hg hb; replace ae := bbh ae hb; replace HB := bst hb; clear hb hbox hg; have gR := aG.1; have hY := ax.1; have b6 := cf3 ac.1; obtain ⟨bm, bd, fe⟩ := Kd.V_slice a8.1; subst fe; obtain ⟨bn, bf, ff⟩ := Kd.V_slice a9.1; subst ff))
 (try simp only [Act.put, List.setIfInBounds_toArray, List.set_cons_zero, List.set_cons_succ])
 go_cut [39] (fun i4 wc => ∃ (kq : Nat) (cg : Bool), i4 = .bool cg ∧ Aside0 (qAA.j0 kq l1 l2 cg aQ aw av = some r) ∧ Aside0 (kq ≤ k) ∧ Aside0 (Kd.V k64 64 wc w.heap.size (fun k_ => k_ ≠ aj ∧ k_ ≠ ah) (.slice bm aw.length bd) aw) ∧ Aside0 (Kd.V k38 38 wc w.heap.size (fun k_ => k_ ≠ aj ∧ k_ ≠ ah) (.slice bn av.length bf) av) ∧ Aside0 (wc.heap[aj]? = some (.cells #[.string bs, (.slice bB bh.length bE), (.slice bC bi.length bF)] 25 (0, 0))) ∧ Aside0 (wc.heap[ah]? = some (.cells #[.string aQ, (.slice bm aw.length bd), (.slice bn av.length bf)] 25 (0, 0))) ∧ Aside0 (Below w.heap.size w wc))
 case first =>
  have H := eZ.1
  clear eZ
  cases ex
  ·rw [if_neg Bool.false_ne_true] at H
   have H' := am H
   clear H
   go_wp2
   go_meet
   case rel => exact ⟨_, (true), prs, H', ⟨by first | omega | exact Nat.le_refl _⟩, ⟨by (with_reducible repeat (first | apply Kd.V_alloc | apply Kd.V_drewN | apply Kd.V_drew)); exact Kd.V_mono (fV3 ah (Kd.V_mono a8.1 (fun k_ hk => (⟨hk, hk.2⟩ : _ ∧ k_ ≠ ah))) (fun _ hk => hk.2)) (fun _ hk => ⟨hk.1.1, hk.1.2⟩)⟩, ⟨by (with_reducible repeat (first | apply Kd.V_alloc | apply Kd.V_drewN | apply Kd.V_drew)); exact Kd.V_mono (fV3 ah (Kd.V_mono a9.1 (fun k_ hk => (⟨hk, hk.2⟩ : _ ∧ k_ ≠ ah))) (fun _ hk => hk.2)) (fun _ hk => ⟨hk.1.1, hk.1.2⟩)⟩, ⟨by (with_reducible repeat (first | refine qBK ?_ _ | refine qBM ?_ | refine qBL ?_ _)); refine bf3 ?_ ax.1; exact pbk ae.1⟩, ⟨by (with_reducible repeat (first | refine qBK ?_ _ | refine qBM ?_ | refine qBL ?_ _)); exact bp3 (pbk ac.1)⟩, ⟨pbg⟩⟩
  rw [if_pos rfl] at H
  replace H := bnd H
  obtain ⟨dP, A15, H⟩ := H
  (try dsimp only at H)
  cases dP
  rotate_left
  ·rw [if_pos rfl] at H
   have H' := am H
   clear H
   have gS := aG.1
   have hZ := ax.1
   have b7 := cf3 ac.1
   go_wp2_with (first | (go_at_call 11; (with_reducible refine (r09_Light.calls k aQ _ _ aw _ _ av true _ ?side1 ?side2 ?side3 ?side4 A15.1).mono ?_); (case side1 => refine (Kd.qBT (e := 64) (base := w.heap.size) (ok := fun k_ => (k_ ≠ aj ∧ k_ ≠ ah)) (n := aw.length) (c := bd) ?_).2.2; exact (by (with_reducible repeat (first | apply Kd.V_alloc | apply Kd.V_drewN | apply Kd.V_drew)); exact (fV3 ah a8.1 (fun k_ hk => hk.2)))); (case side2 => exact (Kd.qBT a8.1).2.1); (case side3 => refine (Kd.qBT (e := 38) (base := w.heap.size) (ok := fun k_ => (k_ ≠ aj ∧ k_ ≠ ah)) (n := av.length) (c := bf) ?_).2.2; exact (by (with_reducible repeat (first | apply Kd.V_alloc | apply Kd.V_drewN | apply Kd.V_drew)); exact (fV3 ah a9.1 (fun k_ hk => hk.2)))); (case side4 => exact (Kd.qBT a9.1).2.1); rintro e jp ⟨rfl, hb⟩; replace a8 := am (Kd.V_below (by (with_reducible repeat (first | apply Kd.V_alloc | apply Kd.V_drewN | apply Kd.V_drew)); exact (fV3 ah a8.1 (fun k_ hk => hk.2))) hb); replace a9 := am (Kd.V_below (by (with_reducible repeat (first | apply Kd.V_alloc | apply Kd.V_drewN | apply Kd.V_drew)); exact (fV3 ah a9.1 (fun k_ hk => hk.2))) hb); replace ae := bbx ae (fun h_ => by (with_reducible repeat (first | refine qBK ?_ _ | refine qBM ?_ | refine qBL ?_ _)); refine bf3 ?_ ax.1; exact pbk h_) hb; replace ac := am (qCF (g := ah) (o := .cells #[.string aQ, .slice bm aw.length bd, .slice bn av.length bf] 25 (0, 0)) (by (with_reducible repeat (first | refine qBK ?_ _ | refine qBM ?_ | refine qBL ?_ _)); exact bp3 (pbk ac.1)) hb); replace HB := bst hb; (try clear hb); (try clear hk)))
   go_meet
   case rel => exact ⟨_, (decide ((l2.length : Int) > 40)), prs, H', ⟨by first | omega | exact Nat.le_refl _⟩, ⟨pkv a8.1⟩, ⟨pkv a9.1⟩, ⟨pbk ae.1⟩, ⟨pbk ac.1⟩, ⟨pbg⟩⟩
  rw [if_neg Bool.false_ne_true] at H
  have H' := am H
  clear H
  have gT := aG.1
  have ia := ax.1
  have b8 := cf3 ac.1
  go_wp2_with (first | (go_at_call 11; (with_reducible refine (r09_Light.calls k aQ _ _ aw _ _ av false _ ?side1 ?side2 ?side3 ?side4 A15.1).mono ?_); (case side1 => refine (Kd.qBT (e := 64) (base := w.heap.size) (ok := fun k_ => (k_ ≠ aj ∧ k_ ≠ ah)) (n := aw.length) (c := bd) ?_).2.2; exact (by (with_reducible repeat (first | apply Kd.V_alloc | apply Kd.V_drewN | apply Kd.V_drew)); exact (fV3 ah a8.1 (fun k_ hk => hk.2)))); (case side2 => exact (Kd.qBT a8.1).2.1); (case side3 => refine (Kd.qBT (e := 38) (base := w.heap.size) (ok := fun k_ => (k_ ≠ aj ∧ k_ ≠ ah)) (n := av.length) (c := bf) ?_).2.2; exact (by (with_reducible repeat (first | apply Kd.V_alloc | apply Kd.V_drewN | apply Kd.V_drew)); exact (fV3 ah a9.1 (fun k_ hk => hk.2)))); (case side4 => exact (Kd.qBT a9.1).2.1); rintro e jq ⟨rfl, hb⟩; replace a8 := am (Kd.V_below (by (with_reducible repeat (first | apply Kd.V_alloc | apply Kd.V_drewN | apply Kd.V_drew)); exact (fV3 ah a8.1 (fun k_ hk => hk.2))) hb); replace a9 := am (Kd.V_below (by (with_reducible repeat (first | apply Kd.V_alloc | apply Kd.V_drewN | apply Kd.V_drew)); exact (fV3 ah a9.1 (fun k_ hk => hk.2))) hb); replace ae := bbx ae (fun h_ => by (with_reducible repeat (first | refine qBK ?_ _ | refine qBM ?_ | refine qBL ?_ _)); refine bf3 ?_ ax.1; exact pbk h_) hb; replace ac := am (qCF (g := ah) (o := .cells #[.string aQ, .slice bm aw.length bd, .slice bn av.length bf] 25 (0, 0)) (by (with_reducible repeat (first | refine qBK ?_ _ | refine qBM ?_ | refine qBL ?_ _)); exact bp3 (pbk ac.1)) hb); replace HB := bst hb; (try clear hb); (try clear hk)))
  go_meet
  case rel => exact ⟨_, (true), prs, H', ⟨by first | omega | exact Nat.le_refl _⟩, ⟨pkv a8.1⟩, ⟨pkv a9.1⟩, ⟨pbk ae.1⟩, ⟨pbk ac.1⟩, ⟨pbg⟩⟩
 clear eZ
 try clear c1 c2 d3 d4 b6 b7 b8 d1
 obtain ⟨kq, cg, rfl, HA, bX, aa, ab, ae, ac, HB⟩ := hcut
 obtain _ | gi := kq
 ·exact absurd HA.1 (by simp [qAA.j0])
 have H := HA.1
 clear HA
 simp only [qAA.j0] at H
 cases cg
 rotate_left
 ·rw [if_pos rfl] at H
  replace H := bnd H
  obtain ⟨dQ, iE, H⟩ := H
  (try dsimp only at H)
  obtain rfl := Option.some.inj H
  go_wp2_with (first | ((with_reducible refine qBO (f := 13) rfl ?_); refine gC 40 Try.func13 _ (qAB.calls gi  dQ _ iE.1) ?_; rintro e jr ⟨rfl, hb⟩; refine ⟨_, rfl, ?_⟩; replace aa := vbw aa hb; replace ab := vbw ab hb; replace ae := bbh ae hb; replace ac := bbh ac hb; replace HB := bst hb; (try clear hb)))
  go_ret
  exact ⟨per, pbg⟩
 rw [if_neg Bool.false_ne_true] at H
 replace H := bnd H
 obtain ⟨⟨a6, ey, gp⟩, iF, H⟩ := H
 (try dsimp only at H)
 have dz := am H
 clear H
 have gU := aG.1
 have ib := ax.1
 have cj := cf3 ac.1
 go_upto_region 5 with (first | ((with_reducible refine qBO (f := 14) rfl ?_); refine gC 43 Try.func14 _ (qAX.calls gi aQ _ _ aw _ _ av 200 a6 ey gp _ (csd ((Kd.qBT aa.1).2.2)) ((Kd.qBT aa.1).2.1) (csd ((Kd.qBT ab.1).2.2)) ((Kd.qBT ab.1).2.1) iF.1) ?_; rintro e js ⟨aV, rfl, bq, hb⟩; refine ⟨_, rfl, ?_⟩; have dc := am (Kd.N_lower (Kd.N_mono (ok' := fun k_ => k_ ≠ aj ∧ k_ ≠ ah) bq (fun k_ hk_ => ⟨(Kd.freshB (g := aj) (o := .cells #[.string bs, .slice bB bh.length bE, .slice bC bi.length bF] 25 (0, 0)) (by exact pbk ae.1) k_ hk_), (Kd.freshB (g := ah) (o := .cells #[.string aQ, .slice bm aw.length bd, .slice bn av.length bf] 25 (0, 0)) (by exact pbk ac.1) k_ hk_)⟩)) (qBJ pbg)); replace aa := am (Kd.qBY (pkv aa.1) (Kd.N_base bq) hb); replace ab := am (Kd.qBY (pkv ab.1) (Kd.N_base bq) hb); replace ae := bbh ae hb; replace ac := bbh ac hb; replace HB := bst hb; (try clear hb); (try clear bq)))
 (try simp only [Act.put, List.setIfInBounds_toArray, List.set_cons_zero, List.set_cons_succ])
 go_cut [52] (fun i5 wc => ∃ (kq : Nat) (bU : Bool), i5 = .bool bU ∧ Aside0 (qAA.j1 kq l1 l2 a6 bU aQ aw av = some r) ∧ Aside0 (kq ≤ gi) ∧ Aside0 (Kd.N (Kd.slice 3 (Kd.int .i64)) 39 wc w.heap.size (fun k_ => k_ ≠ aj ∧ k_ ≠ ah) aV a6) ∧ Aside0 (Kd.V k64 64 wc w.heap.size (fun k_ => some k_ ≠ (aV : Value).ownBlock ∧ k_ ≠ aj ∧ k_ ≠ ah) (.slice bm aw.length bd) aw) ∧ Aside0 (Kd.V k38 38 wc w.heap.size (fun k_ => some k_ ≠ (aV : Value).ownBlock ∧ k_ ≠ aj ∧ k_ ≠ ah) (.slice bn av.length bf) av) ∧ Aside0 (wc.heap[aj]? = some (.cells #[.string bs, (.slice bB bh.length bE), (.slice bC bi.length bF)] 25 (0, 0))) ∧ Aside0 (wc.heap[ah]? = some (.cells #[.string aQ, (.slice bm aw.length bd), (.slice bn av.length bf)] 25 (0, 0))) ∧ Aside0 (Below w.heap.size w wc))
 case first =>
  have H := dz.1
  clear dz
  replace H := ife H
  rcases H with ⟨bp, bK, H⟩ | ⟨bp, bK, H⟩
  rotate_left
  ·(first | rw [bp] | (simp only [i64_w, i32_w]; rw [bp]) | skip)
   have H' := am H
   clear H
   go_wp2
   go_meet
   case rel => exact ⟨_, (true), prs, H', ⟨by have := bX.1; first | omega | exact Nat.le_refl _⟩, ⟨pkn dc.1⟩, ⟨vmo aa.1 (fun _ hk => ⟨hk.2, ⟨hk.1.1, hk.1.2⟩⟩)⟩, ⟨vmo ab.1 (fun _ hk => ⟨hk.2, ⟨hk.1.1, hk.1.2⟩⟩)⟩, ⟨pbk ae.1⟩, ⟨pbk ac.1⟩, ⟨pbg⟩⟩
  (first | rw [bp] | (simp only [i64_w, i32_w]; rw [bp]) | skip)
  have H' := am H
  clear H
  go_wp2
  go_meet
  case rel => exact ⟨_, (!ey), prs, H', ⟨by have := bX.1; first | omega | exact Nat.le_refl _⟩, ⟨pkn dc.1⟩, ⟨vmo aa.1 (fun _ hk => ⟨hk.2, ⟨hk.1.1, hk.1.2⟩⟩)⟩, ⟨vmo ab.1 (fun _ hk => ⟨hk.2, ⟨hk.1.1, hk.1.2⟩⟩)⟩, ⟨pbk ae.1⟩, ⟨pbk ac.1⟩, ⟨pbg⟩⟩
 clear dz
 try clear c1 c2 d3 d4 en bp bK b6 b7 b8 cj d1
 obtain ⟨kq, bU, rfl, HA, br, aq, aa, ab, ae, ac, HB⟩ := hcut
 obtain _ | b5 := kq
 ·exact absurd HA.1 (by simp [qAA.j1])
 have H := HA.1
 clear HA
 simp only [qAA.j1] at H
 cases bU
 rotate_left
 ·rw [if_pos rfl] at H
  replace H := bnd H
  obtain ⟨dR, iG, H⟩ := H
  (try dsimp only at H)
  obtain rfl := Option.some.inj H
  go_wp2_with (first | ((with_reducible refine qBO (f := 13) rfl ?_); refine gC 53 Try.func13 _ (qAB.calls b5  dR _ iG.1) ?_; rintro e jt ⟨rfl, hb⟩; refine ⟨_, rfl, ?_⟩; replace aq := nbw aq hb; replace aa := vbw aa hb; replace ab := vbw ab hb; replace ae := bbh ae hb; replace ac := bbh ac hb; replace HB := bst hb; (try clear hb)))
  go_ret
  exact ⟨per, pbg⟩
 rw [if_neg Bool.false_ne_true] at H
 replace H := bnd H
 obtain ⟨bI, iH, H⟩ := H
 (try dsimp only at H)
 replace H := bnd H
 obtain ⟨⟨cS, bR, bS⟩, iI, H⟩ := H
 (try dsimp only at H)
 have dB := am H
 clear H
 have gV := aG.1
 have ic := ax.1
 have cD := cf3 ac.1
 go_upto_region 9 with (first | ((with_reducible refine qBO (f := 26) rfl ?_); refine gC 55 Try.func26 _ (r09_Initial.calls b5 aQ _ _ aw _ _ av bI _ (csd ((Kd.qBT aa.1).2.2)) ((Kd.qBT aa.1).2.1) (csd ((Kd.qBT ab.1).2.2)) ((Kd.qBT ab.1).2.1) iH.1) ?_; rintro e ju ⟨i9, rfl, bq, hb⟩; refine ⟨_, rfl, ?_⟩; have aX := am (Kd.qCH bq (qBJ pbg)); replace aq := am (Kd.qBX (pkn aq.1) (Kd.R_base bq) hb); replace aa := am (Kd.qBY (pkv aa.1) (Kd.R_base bq) hb); replace ab := am (Kd.qBY (pkv ab.1) (Kd.R_base bq) hb); replace ae := bbh ae hb; replace ac := bbh ac hb; replace HB := bst hb; (try clear hb); (try clear bq); have cE := cf3 ac.1; obtain ⟨dy, cL, fg⟩ := Kd.R_slice aX.1; subst fg) | ((with_reducible refine qBO (f := 27) rfl ?_); refine gC 60 Try.func27 _ (r11_Run.calls b5 aQ _ _ aw _ _ av _ _ bI _ _ l2 cS bR bS _ (csd ((Kd.qBT aa.1).2.2)) ((Kd.qBT aa.1).2.1) (csd ((Kd.qBT ab.1).2.2)) ((Kd.qBT ab.1).2.1) (csd ((Kd.qBR aX.1).2.2)) ((Kd.qBR aX.1).2.1) (csb iS HB) iR.1 iI.1) ?_; rintro e jv ⟨eA, rfl, bq, hb⟩; refine ⟨_, rfl, ?_⟩; have bo := am (Kd.qCH (Kd.R_new' bq (Kd.R_lt (pkr aX.1))) (qBJ pbg)); replace aq := am (Kd.qBX (pkn aq.1) (Kd.R_base bq) hb); replace aa := am (Kd.qBY (pkv aa.1) (Kd.R_base bq) hb); replace ab := am (Kd.qBY (pkv ab.1) (Kd.R_base bq) hb); replace aX := am (Kd.R_elder' (pkr aX.1) (Kd.R_base bq) hb); replace ae := bbh ae hb; replace ac := bbh ac hb; replace HB := bst hb; (try clear hb); (try clear bq)) | ((with_reducible refine qBN (N := 14) rfl ?_); (try (refine qBP (by rfl) ?_; dsimp only)); refine box_ev ?_; intro ak hg jw hbox hb; have ai := am hbox; have ea := gwb hg; have gD := ea; have bb := nlt hg ae; have bD := ngt hg ae; have aH := nlt hg ac; have aR := ngt hg ac; replace aq := am (Kd.N_below (Kd.N_elderB (pkn aq.1) ak (Nat.le_of_eq hg.symm)) hb); replace aa := vbb aa hg hb; replace ab := vbb ab hg hb; replace aX := rbw aX hb; replace bo := rbw bo hb; replace ae := bbh ae hb; replace ac := bbh ac hb; replace HB := bst hb; clear hb hbox hg; have gW := bD.1; have ie := bb.1; have gX := aR.1; have ig := aH.1; have cF := cf2 ai.1))
 (try simp only [Act.put, List.setIfInBounds_toArray, List.set_cons_zero, List.set_cons_succ])
 go_cut [77] (fun i6 wc => ∃ (kq : Nat) (bV : Bool), i6 = .bool bV ∧ Aside0 (qAA.j2 kq l1 a6 bV aQ aw av = some r) ∧ Aside0 (kq ≤ b5) ∧ Aside0 (Kd.N (Kd.slice 3 (Kd.int .i64)) 39 wc w.heap.size (fun k_ => k_ ≠ aj ∧ k_ ≠ ah ∧ k_ ≠ ak) aV a6) ∧ Aside0 (Kd.V k64 64 wc w.heap.size (fun k_ => some k_ ≠ (aV : Value).ownBlock ∧ k_ ≠ aj ∧ k_ ≠ ah ∧ k_ ≠ ak) (.slice bm aw.length bd) aw) ∧ Aside0 (Kd.V k38 38 wc w.heap.size (fun k_ => some k_ ≠ (aV : Value).ownBlock ∧ k_ ≠ aj ∧ k_ ≠ ah ∧ k_ ≠ ak) (.slice bn av.length bf) av) ∧ Aside0 (wc.heap[aj]? = some (.cells #[.string bs, (.slice bB bh.length bE), (.slice bC bi.length bF)] 25 (0, 0))) ∧ Aside0 (wc.heap[ah]? = some (.cells #[.string aQ, (.slice bm aw.length bd), (.slice bn av.length bf)] 25 (0, 0))) ∧ Aside0 (wc.heap[ak]? = some (.cells #[.int .i64 bR, .int .i64 bS] 48 (0, 0))) ∧ Aside0 (Below w.heap.size w wc))
 case first =>
  have H := dB.1
  clear dB
  replace H := ife H
  rcases H with ⟨bu, bN, H⟩ | ⟨bu, bN, H⟩
  rotate_left
  ·(first | rw [bu] | (simp only [i64_w, i32_w]; rw [bu]) | skip)
   replace H := bnd H
   obtain ⟨cU, iL, H⟩ := H
   (try dsimp only at H)
   have H' := am H
   clear H
   have g4 := bD.1
   have ik := bb.1
   have g5 := aR.1
   have il := aH.1
   have cH := cf2 ai.1
   obtain ⟨iQ, fb, fj⟩ := Kd.N_slice aq.1
   subst fj
   go_wp2_with (first | (go_at_call 17; (with_reducible refine (qAU.calls b5 _ _ a6 _ _ bI cU _ ?side1 ?side2 ?side3 ?side4 iL.1).mono ?_); (case side1 => refine (Kd.qBS (e := 39) (base := w.heap.size) (ok := fun k_ => ((((k_ ≠ aj ∧ k_ ≠ ah) ∧ some k_ ≠ (.slice dy bI.length cL : Value).ownBlock) ∧ some k_ ≠ (eA : Value).ownBlock) ∧ k_ ≠ ak)) (n := a6.length) (c := fb) ?_).2.2; exact (by (with_reducible repeat (first | apply Kd.N_alloc | apply Kd.N_drewN | apply Kd.N_drew)); exact (fN2 ak aq.1 (fun k_ hk => hk.2)))); (case side2 => exact (Kd.qBS aq.1).2.1); (case side3 => refine (Kd.qBR (e := 3) (base := w.heap.size) (ok := fun k_ => (True ∧ some k_ ≠ (eA : Value).ownBlock)) (n := bI.length) (c := cL) ?_).2.2; exact (by (with_reducible repeat (first | apply Kd.R_alloc | apply Kd.R_drewN | apply Kd.R_drew)); exact (Kd.R_mono (fR2 ak (Kd.qCI aX.1 ai.1 (by decide)) (fun _ hk => hk.2)) (fun _ h_ => h_.1)))); (case side4 => exact (Kd.qBR aX.1).2.1); rintro e jz ⟨rfl, hb⟩; replace aq := am (Kd.N_below (by (with_reducible repeat (first | apply Kd.N_alloc | apply Kd.N_drewN | apply Kd.N_drew)); exact (fN2 ak aq.1 (fun k_ hk => hk.2))) hb); replace aa := am (Kd.V_below (by (with_reducible repeat (first | apply Kd.V_alloc | apply Kd.V_drewN | apply Kd.V_drew)); exact (fV2 ak aa.1 (fun k_ hk => hk.2))) hb); replace ab := am (Kd.V_below (by (with_reducible repeat (first | apply Kd.V_alloc | apply Kd.V_drewN | apply Kd.V_drew)); exact (fV2 ak ab.1 (fun k_ hk => hk.2))) hb); replace aX := am (Kd.R_below (by (with_reducible repeat (first | apply Kd.R_alloc | apply Kd.R_drewN | apply Kd.R_drew)); exact (Kd.R_mono (fR2 ak (Kd.qCI aX.1 ai.1 (by decide)) (fun _ hk => hk.2)) (fun _ h_ => h_.1))) hb); replace bo := am (Kd.R_below (by (with_reducible repeat (first | apply Kd.R_alloc | apply Kd.R_drewN | apply Kd.R_drew)); exact (Kd.R_mono (fR2 ak (Kd.qCI bo.1 ai.1 (by decide)) (fun _ hk => hk.2)) (fun _ h_ => h_.1))) hb); replace ae := bbx ae (fun h_ => by (with_reducible repeat (first | refine qBK ?_ _ | refine qBM ?_ | refine qBL ?_ _)); refine bf2 ?_ bb.1; exact pbk h_) hb; replace ac := bbx ac (fun h_ => by (with_reducible repeat (first | refine qBK ?_ _ | refine qBM ?_ | refine qBL ?_ _)); refine bf2 ?_ aH.1; exact pbk h_) hb; replace ai := am (qCF (g := ak) (o := .cells #[.int .i64 bR, .int .i64 bS] 48 (0, 0)) (by (with_reducible repeat (first | refine qBK ?_ _ | refine qBM ?_ | refine qBL ?_ _)); exact bp2 (pbk ai.1)) hb); replace HB := bst hb; (try clear hb); (try clear hk)))
   go_meet
   case rel => exact ⟨_, (!cU), prs, H', ⟨by have := bX.1; have := br.1; first | omega | exact Nat.le_refl _⟩, ⟨nmo aq.1 (fun _ hk => ⟨hk.1.1.1.1, ⟨hk.1.1.1.2, hk.2⟩⟩)⟩, ⟨vmo aa.1 (fun _ hk => ⟨hk.1.1.1.1, ⟨hk.1.1.1.2.1, ⟨hk.1.1.1.2.2, hk.2⟩⟩⟩)⟩, ⟨vmo ab.1 (fun _ hk => ⟨hk.1.1.1.1, ⟨hk.1.1.1.2.1, ⟨hk.1.1.1.2.2, hk.2⟩⟩⟩)⟩, ⟨pbk ae.1⟩, ⟨pbk ac.1⟩, ⟨pbk ai.1⟩, ⟨pbg⟩⟩
  (first | rw [bu] | (simp only [i64_w, i32_w]; rw [bu]) | skip)
  replace H := bnd H
  obtain ⟨dS, iJ, H⟩ := H
  (try dsimp only at H)
  cases dS
  ·rw [if_neg Bool.false_ne_true] at H
   exact absurd H (by simp)
  rw [if_pos rfl] at H
  replace H := bnd H
  obtain ⟨cT, iK, H⟩ := H
  (try dsimp only at H)
  have H' := am H
  clear H
  have gY := bD.1
  have ii := bb.1
  have gZ := aR.1
  have ij := aH.1
  have cG := cf2 ai.1
  obtain ⟨iP, fa, fh⟩ := Kd.N_slice aq.1
  subst fh
  obtain ⟨eY, eo, fi⟩ := Kd.R_slice bo.1
  subst fi
  go_wp2_with (first | (go_at_call 17; (with_reducible refine (qAU.calls b5 _ _ a6 _ _ cS true _ ?side1 ?side2 ?side3 ?side4 iJ.1).mono ?_); (case side1 => refine (Kd.qBS (e := 39) (base := w.heap.size) (ok := fun k_ => ((((k_ ≠ aj ∧ k_ ≠ ah) ∧ some k_ ≠ (.slice dy bI.length cL : Value).ownBlock) ∧ some k_ ≠ (.slice eY cS.length eo : Value).ownBlock) ∧ k_ ≠ ak)) (n := a6.length) (c := fa) ?_).2.2; exact (by (with_reducible repeat (first | apply Kd.N_alloc | apply Kd.N_drewN | apply Kd.N_drew)); exact (fN2 ak aq.1 (fun k_ hk => hk.2)))); (case side2 => exact (Kd.qBS aq.1).2.1); (case side3 => refine (Kd.qBR (e := 3) (base := w.heap.size) (ok := fun k_ => (True ∧ some k_ ≠ (.slice dy bI.length cL : Value).ownBlock)) (n := cS.length) (c := eo) ?_).2.2; exact (by (with_reducible repeat (first | apply Kd.R_alloc | apply Kd.R_drewN | apply Kd.R_drew)); exact (Kd.R_mono (fR2 ak (Kd.qCI bo.1 ai.1 (by decide)) (fun _ hk => hk.2)) (fun _ h_ => h_.1)))); (case side4 => exact (Kd.qBR bo.1).2.1); rintro e jx ⟨rfl, hb⟩; replace aq := am (Kd.N_below (by (with_reducible repeat (first | apply Kd.N_alloc | apply Kd.N_drewN | apply Kd.N_drew)); exact (fN2 ak aq.1 (fun k_ hk => hk.2))) hb); replace aa := am (Kd.V_below (by (with_reducible repeat (first | apply Kd.V_alloc | apply Kd.V_drewN | apply Kd.V_drew)); exact (fV2 ak aa.1 (fun k_ hk => hk.2))) hb); replace ab := am (Kd.V_below (by (with_reducible repeat (first | apply Kd.V_alloc | apply Kd.V_drewN | apply Kd.V_drew)); exact (fV2 ak ab.1 (fun k_ hk => hk.2))) hb); replace aX := am (Kd.R_below (by (with_reducible repeat (first | apply Kd.R_alloc | apply Kd.R_drewN | apply Kd.R_drew)); exact (Kd.R_mono (fR2 ak (Kd.qCI aX.1 ai.1 (by decide)) (fun _ hk => hk.2)) (fun _ h_ => h_.1))) hb); replace bo := am (Kd.R_below (by (with_reducible repeat (first | apply Kd.R_alloc | apply Kd.R_drewN | apply Kd.R_drew)); exact (Kd.R_mono (fR2 ak (Kd.qCI bo.1 ai.1 (by decide)) (fun _ hk => hk.2)) (fun _ h_ => h_.1))) hb); replace ae := bbx ae (fun h_ => by (with_reducible repeat (first | refine qBK ?_ _ | refine qBM ?_ | refine qBL ?_ _)); refine bf2 ?_ bb.1; exact pbk h_) hb; replace ac := bbx ac (fun h_ => by (with_reducible repeat (first | refine qBK ?_ _ | refine qBM ?_ | refine qBL ?_ _)); refine bf2 ?_ aH.1; exact pbk h_) hb; replace ai := am (qCF (g := ak) (o := .cells #[.int .i64 bR, .int .i64 bS] 48 (0, 0)) (by (with_reducible repeat (first | refine qBK ?_ _ | refine qBM ?_ | refine qBL ?_ _)); exact bp2 (pbk ai.1)) hb); replace HB := bst hb; (try clear hb); (try clear hk)) | (go_at_call 17; (with_reducible refine (qAU.calls b5 _ _ a6 _ _ bI cT _ ?side1 ?side2 ?side3 ?side4 iK.1).mono ?_); (case side1 => exact csd ((Kd.qBS aq.1).2.2)); (case side2 => exact (Kd.qBS aq.1).2.1); (case side3 => exact csd ((Kd.qBR aX.1).2.2)); (case side4 => exact (Kd.qBR aX.1).2.1); rintro e jy ⟨rfl, hb⟩; replace aq := nbw aq hb; replace aa := vbw aa hb; replace ab := vbw ab hb; replace aX := rbw aX hb; replace bo := rbw bo hb; replace ae := bbh ae hb; replace ac := bbh ac hb; replace ai := bbh ai hb; replace HB := bst hb; (try clear hb)))
  go_meet
  case rel => exact ⟨_, (!cT), prs, H', ⟨by have := bX.1; have := br.1; first | omega | exact Nat.le_refl _⟩, ⟨nmo aq.1 (fun _ hk => ⟨hk.1.1.1.1, ⟨hk.1.1.1.2, hk.2⟩⟩)⟩, ⟨vmo aa.1 (fun _ hk => ⟨hk.1.1.1.1, ⟨hk.1.1.1.2.1, ⟨hk.1.1.1.2.2, hk.2⟩⟩⟩)⟩, ⟨vmo ab.1 (fun _ hk => ⟨hk.1.1.1.1, ⟨hk.1.1.1.2.1, ⟨hk.1.1.1.2.2, hk.2⟩⟩⟩)⟩, ⟨pbk ae.1⟩, ⟨pbk ac.1⟩, ⟨pbk ai.1⟩, ⟨pbg⟩⟩
 clear dB
 try clear c1 c2 d3 d4 eK en bp bK eL bu bN eM b6 b7 b8 cj cD cE cF cG cH d1
 obtain ⟨kq, bV, rfl, HA, bx, aq, aa, ab, ae, ac, ai, HB⟩ := hcut
 obtain _ | ew := kq
 ·exact absurd HA.1 (by simp [qAA.j2])
 have H := HA.1
 clear HA
 simp only [qAA.j2] at H
 cases bV
 rotate_left
 ·rw [if_pos rfl] at H
  exact absurd H (by simp)
 rw [if_neg Bool.false_ne_true] at H
 replace H := bnd H
 obtain ⟨⟨aC, ay, bL, gq⟩, iM, H⟩ := H
 (try dsimp only at H)
 have dC := am H
 clear H
 have g6 := aG.1
 have im := ax.1
 have g7 := aH.1
 have io := aR.1
 have cY := cf3 ac.1
 go_upto_region 12 with (first | ((with_reducible refine qBO (f := 28) rfl ?_); refine gC 80 Try.func28 _ (qBF.calls ew aQ _ _ aw _ _ av 100 aC ay bL gq _ (csd ((Kd.qBT aa.1).2.2)) ((Kd.qBT aa.1).2.1) (csd ((Kd.qBT ab.1).2.2)) ((Kd.qBT ab.1).2.1) iM.1) ?_; rintro e jA ⟨ja, gr, rfl, bq, ho1, hb⟩; refine ⟨_, rfl, ?_⟩; have bZ := am (Kd.N_lower (Kd.N_mono (ok' := fun k_ => some k_ ≠ (gr : Value).ownBlock ∧ some k_ ≠ (aV : Value).ownBlock ∧ k_ ≠ aj ∧ k_ ≠ ah ∧ k_ ≠ ak) bq (fun k_ hk_ => ⟨hk_.2, (Kd.fresh' (Kd.N_lt (pkn aq.1)) k_ hk_.1), (Kd.freshB (g := aj) (o := .cells #[.string bs, .slice bB bh.length bE, .slice bC bi.length bF] 25 (0, 0)) (by exact pbk ae.1) k_ hk_.1), (Kd.freshB (g := ah) (o := .cells #[.string aQ, .slice bm aw.length bd, .slice bn av.length bf] 25 (0, 0)) (by exact pbk ac.1) k_ hk_.1), (Kd.freshB (g := ak) (o := .cells #[.int .i64 bR, .int .i64 bS] 48 (0, 0)) (by exact pbk ai.1) k_ hk_.1)⟩)) (qBJ pbg)); have b0 := am (Kd.qCH (Kd.R_mono (ok' := fun k_ => True) ho1 (fun _ hk_ => trivial)) (qBJ pbg)); replace aq := am (Kd.N_mono (Kd.N_told (Kd.N_told (Kd.N_old (pkn aq.1) hb) (Kd.N_base bq)) (Kd.R_base ho1)) (fun _ h_ => h_.1)); replace aa := am (Kd.V_mono (Kd.V_told (Kd.V_told (Kd.V_old (pkv aa.1) hb) (Kd.N_base bq)) (Kd.R_base ho1)) (fun _ h_ => h_.1)); replace ab := am (Kd.V_mono (Kd.V_told (Kd.V_told (Kd.V_old (pkv ab.1) hb) (Kd.N_base bq)) (Kd.R_base ho1)) (fun _ h_ => h_.1)); replace ae := bbh ae hb; replace ac := bbh ac hb; replace ai := bbh ai hb; replace HB := bst hb; (try clear hb); (try clear bq); (try clear ho1)) | ((with_reducible refine qBN (N := 15) rfl ?_); (try (refine qBP (by rfl) ?_; dsimp only)); refine box_ev (N := 15) (cs := #[.slice none 0 0, .slice none 0 0, .bool false]) (t := 53) ?_; intro ao hg jB hbox hb; have au := am hbox; have ec := gwb hg; have gE := ec; have aE := nlt hg ae; have aT := ngt hg ae; have aA := nlt hg ac; have aJ := ngt hg ac; have aI := nlt hg ai; have aU := ngt hg ai; replace aq := am (Kd.N_below (Kd.N_elderB (pkn aq.1) ao (Nat.le_of_eq hg.symm)) hb); replace aa := vbb aa hg hb; replace ab := vbb ab hg hb; replace bZ := am (Kd.N_below (Kd.N_elderB (pkn bZ.1) ao (Nat.le_of_eq hg.symm)) hb); replace b0 := rbw b0 hb; replace ae := bbh ae hb; replace ac := bbh ac hb; replace ai := bbh ai hb; replace HB := bst hb; clear hb hbox hg; obtain ⟨aZ, a5, fk⟩ := Kd.N_slice bZ.1; subst fk; have g8 := aT.1; have ip := aE.1; have g9 := aJ.1; have iq := aA.1; have hD := aU.1; have ir := aI.1; have cZ := cf3 au.1; obtain ⟨aW, aM, fl⟩ := Kd.R_slice b0.1; subst fl))
 (try simp only [Act.put, List.setIfInBounds_toArray, List.set_cons_zero, List.set_cons_succ])
 go_cut [89] (fun jd wc => ∃ (kq : Nat) (bW : Bool), jd = .bool bW ∧ Aside0 (qAA.j3 kq l1 a6 bW aQ aw av aC ay bL = some r) ∧ Aside0 (kq ≤ ew) ∧ Aside0 (Kd.N (Kd.slice 3 (Kd.int .i64)) 39 wc w.heap.size (fun k_ => some k_ ≠ ((.slice aZ aC.length a5) : Value).ownBlock ∧ some k_ ≠ ((.slice aW ay.length aM) : Value).ownBlock ∧ k_ ≠ aj ∧ k_ ≠ ah ∧ k_ ≠ ak ∧ k_ ≠ ao) aV a6) ∧ Aside0 (Kd.V k64 64 wc w.heap.size (fun k_ => some k_ ≠ (aV : Value).ownBlock ∧ some k_ ≠ ((.slice aZ aC.length a5) : Value).ownBlock ∧ some k_ ≠ ((.slice aW ay.length aM) : Value).ownBlock ∧ k_ ≠ aj ∧ k_ ≠ ah ∧ k_ ≠ ak ∧ k_ ≠ ao) (.slice bm aw.length bd) aw) ∧ Aside0 (Kd.V k38 38 wc w.heap.size (fun k_ => some k_ ≠ (aV : Value).ownBlock ∧ some k_ ≠ ((.slice aZ aC.length a5) : Value).ownBlock ∧ some k_ ≠ ((.slice aW ay.length aM) : Value).ownBlock ∧ k_ ≠ aj ∧ k_ ≠ ah ∧ k_ ≠ ak ∧ k_ ≠ ao) (.slice bn av.length bf) av) ∧ Aside0 (Kd.N (Kd.slice 3 (Kd.int .i64)) 39 wc w.heap.size (fun k_ => some k_ ≠ (aV : Value).ownBlock ∧ some k_ ≠ ((.slice aW ay.length aM) : Value).ownBlock ∧ k_ ≠ aj ∧ k_ ≠ ah ∧ k_ ≠ ak ∧ k_ ≠ ao) (.slice aZ aC.length a5) aC) ∧ Aside0 (Kd.R k59 59 wc w.heap.size (fun _ => True) (.slice aW ay.length aM) ay) ∧ Aside0 (wc.heap[aj]? = some (.cells #[.string bs, (.slice bB bh.length bE), (.slice bC bi.length bF)] 25 (0, 0))) ∧ Aside0 (wc.heap[ah]? = some (.cells #[.string aQ, (.slice bm aw.length bd), (.slice bn av.length bf)] 25 (0, 0))) ∧ Aside0 (wc.heap[ak]? = some (.cells #[.int .i64 bR, .int .i64 bS] 48 (0, 0))) ∧ Aside0 (wc.heap[ao]? = some (.cells #[(.slice aZ aC.length a5), (.slice aW ay.length aM), .bool bL] 53 (0, 0))) ∧ Aside0 (Below w.heap.size w wc))
 case first =>
  have H := dC.1
  clear dC
  replace H := ife H
  rcases H with ⟨bz, b3, H⟩ | ⟨bz, b3, H⟩
  rotate_left
  ·(first | rw [bz] | (simp only [i64_w, i32_w]; rw [bz]) | skip)
   have H' := am H
   clear H
   go_wp2
   go_meet
   case rel => exact ⟨_, (true), prs, H', ⟨by have := bX.1; have := br.1; have := bx.1; first | omega | exact Nat.le_refl _⟩, ⟨by (with_reducible repeat (first | apply Kd.N_alloc | apply Kd.N_drewN | apply Kd.N_drew)); exact Kd.N_mono (fN3 ao (Kd.N_mono aq.1 (fun k_ hk => (⟨hk, hk.2⟩ : _ ∧ k_ ≠ ao))) (fun _ hk => hk.2)) (fun _ hk => ⟨hk.1.1.1.2, ⟨hk.1.1.2, ⟨hk.1.1.1.1.1, ⟨hk.1.1.1.1.2.1, ⟨hk.1.1.1.1.2.2, hk.1.2⟩⟩⟩⟩⟩)⟩, ⟨by (with_reducible repeat (first | apply Kd.V_alloc | apply Kd.V_drewN | apply Kd.V_drew)); exact Kd.V_mono (fV3 ao (Kd.V_mono aa.1 (fun k_ hk => (⟨hk, hk.2⟩ : _ ∧ k_ ≠ ao))) (fun _ hk => hk.2)) (fun _ hk => ⟨hk.1.1.1.1.1, ⟨hk.1.1.1.2, ⟨hk.1.1.2, ⟨hk.1.1.1.1.2.1, ⟨hk.1.1.1.1.2.2.1, ⟨hk.1.1.1.1.2.2.2, hk.1.2⟩⟩⟩⟩⟩⟩)⟩, ⟨by (with_reducible repeat (first | apply Kd.V_alloc | apply Kd.V_drewN | apply Kd.V_drew)); exact Kd.V_mono (fV3 ao (Kd.V_mono ab.1 (fun k_ hk => (⟨hk, hk.2⟩ : _ ∧ k_ ≠ ao))) (fun _ hk => hk.2)) (fun _ hk => ⟨hk.1.1.1.1.1, ⟨hk.1.1.1.2, ⟨hk.1.1.2, ⟨hk.1.1.1.1.2.1, ⟨hk.1.1.1.1.2.2.1, ⟨hk.1.1.1.1.2.2.2, hk.1.2⟩⟩⟩⟩⟩⟩)⟩, ⟨by (with_reducible repeat (first | apply Kd.N_alloc | apply Kd.N_drewN | apply Kd.N_drew)); exact Kd.N_mono (fN3 ao (Kd.N_mono bZ.1 (fun k_ hk => (⟨hk, hk.2⟩ : _ ∧ k_ ≠ ao))) (fun _ hk => hk.2)) (fun _ hk => ⟨hk.1.1.2.1, ⟨hk.1.1.1, ⟨hk.1.1.2.2.1, ⟨hk.1.1.2.2.2.1, ⟨hk.1.1.2.2.2.2, hk.1.2⟩⟩⟩⟩⟩)⟩, ⟨by (with_reducible repeat (first | apply Kd.R_alloc | apply Kd.R_drewN | apply Kd.R_drew)); exact Kd.R_mono (fR3 ao (Kd.qCI b0.1 au.1 (by decide)) (fun _ hk => hk.2)) (fun _ hk => trivial)⟩, ⟨by (with_reducible repeat (first | refine qBK ?_ _ | refine qBM ?_ | refine qBL ?_ _)); refine bf3 ?_ aE.1; exact pbk ae.1⟩, ⟨by (with_reducible repeat (first | refine qBK ?_ _ | refine qBM ?_ | refine qBL ?_ _)); refine bf3 ?_ aA.1; exact pbk ac.1⟩, ⟨by (with_reducible repeat (first | refine qBK ?_ _ | refine qBM ?_ | refine qBL ?_ _)); refine bf3 ?_ aI.1; exact pbk ai.1⟩, ⟨by (with_reducible repeat (first | refine qBK ?_ _ | refine qBM ?_ | refine qBL ?_ _)); exact bp3 (pbk au.1)⟩, ⟨pbg⟩⟩
  (first | rw [bz] | (simp only [i64_w, i32_w]; rw [bz]) | skip)
  have H' := am H
  clear H
  have hG := aT.1
  have iu := aE.1
  have hI := aJ.1
  have iv := aA.1
  have hJ := aU.1
  have iw := aI.1
  have da := cf3 au.1
  go_wp2
  go_meet
  case rel => exact ⟨_, (!bL), prs, H', ⟨by have := bX.1; have := br.1; have := bx.1; first | omega | exact Nat.le_refl _⟩, ⟨by (with_reducible repeat (first | apply Kd.N_alloc | apply Kd.N_drewN | apply Kd.N_drew)); exact Kd.N_mono (fN3 ao (Kd.N_mono aq.1 (fun k_ hk => (⟨hk, hk.2⟩ : _ ∧ k_ ≠ ao))) (fun _ hk => hk.2)) (fun _ hk => ⟨hk.1.1.1.2, ⟨hk.1.1.2, ⟨hk.1.1.1.1.1, ⟨hk.1.1.1.1.2.1, ⟨hk.1.1.1.1.2.2, hk.1.2⟩⟩⟩⟩⟩)⟩, ⟨by (with_reducible repeat (first | apply Kd.V_alloc | apply Kd.V_drewN | apply Kd.V_drew)); exact Kd.V_mono (fV3 ao (Kd.V_mono aa.1 (fun k_ hk => (⟨hk, hk.2⟩ : _ ∧ k_ ≠ ao))) (fun _ hk => hk.2)) (fun _ hk => ⟨hk.1.1.1.1.1, ⟨hk.1.1.1.2, ⟨hk.1.1.2, ⟨hk.1.1.1.1.2.1, ⟨hk.1.1.1.1.2.2.1, ⟨hk.1.1.1.1.2.2.2, hk.1.2⟩⟩⟩⟩⟩⟩)⟩, ⟨by (with_reducible repeat (first | apply Kd.V_alloc | apply Kd.V_drewN | apply Kd.V_drew)); exact Kd.V_mono (fV3 ao (Kd.V_mono ab.1 (fun k_ hk => (⟨hk, hk.2⟩ : _ ∧ k_ ≠ ao))) (fun _ hk => hk.2)) (fun _ hk => ⟨hk.1.1.1.1.1, ⟨hk.1.1.1.2, ⟨hk.1.1.2, ⟨hk.1.1.1.1.2.1, ⟨hk.1.1.1.1.2.2.1, ⟨hk.1.1.1.1.2.2.2, hk.1.2⟩⟩⟩⟩⟩⟩)⟩, ⟨by (with_reducible repeat (first | apply Kd.N_alloc | apply Kd.N_drewN | apply Kd.N_drew)); exact Kd.N_mono (fN3 ao (Kd.N_mono bZ.1 (fun k_ hk => (⟨hk, hk.2⟩ : _ ∧ k_ ≠ ao))) (fun _ hk => hk.2)) (fun _ hk => ⟨hk.1.1.2.1, ⟨hk.1.1.1, ⟨hk.1.1.2.2.1, ⟨hk.1.1.2.2.2.1, ⟨hk.1.1.2.2.2.2, hk.1.2⟩⟩⟩⟩⟩)⟩, ⟨by (with_reducible repeat (first | apply Kd.R_alloc | apply Kd.R_drewN | apply Kd.R_drew)); exact Kd.R_mono (fR3 ao (Kd.qCI b0.1 au.1 (by decide)) (fun _ hk => hk.2)) (fun _ hk => trivial)⟩, ⟨by (with_reducible repeat (first | refine qBK ?_ _ | refine qBM ?_ | refine qBL ?_ _)); refine bf3 ?_ aE.1; exact pbk ae.1⟩, ⟨by (with_reducible repeat (first | refine qBK ?_ _ | refine qBM ?_ | refine qBL ?_ _)); refine bf3 ?_ aA.1; exact pbk ac.1⟩, ⟨by (with_reducible repeat (first | refine qBK ?_ _ | refine qBM ?_ | refine qBL ?_ _)); refine bf3 ?_ aI.1; exact pbk ai.1⟩, ⟨by (with_reducible repeat (first | refine qBK ?_ _ | refine qBM ?_ | refine qBL ?_ _)); exact bp3 (pbk au.1)⟩, ⟨pbg⟩⟩
 clear dC
 try clear c1 c2 d3 d4 eK en bp bK e7 eL bu bN eM e8 bz b3 b6 b7 b8 cj cD cE cF cG cH cY cZ d1 da
 obtain ⟨kq, bW, rfl, HA, bH, aq, aa, ab, af, ag, ae, ac, ai, au, HB⟩ := hcut
 obtain _ | dO := kq
 ·exact absurd HA.1 (by simp [qAA.j3])
 have H := HA.1
 clear HA
 simp only [qAA.j3] at H
 cases bW
 rotate_left
 ·rw [if_pos rfl] at H
  replace H := bnd H
  obtain ⟨dU, iN, H⟩ := H
  (try dsimp only at H)
  obtain rfl := Option.some.inj H
  go_wp2_with (first | ((with_reducible refine qBO (f := 13) rfl ?_); refine gC 90 Try.func13 _ (qAB.calls dO  dU _ iN.1) ?_; rintro e jC ⟨rfl, hb⟩; refine ⟨_, rfl, ?_⟩; replace aq := nbw aq hb; replace aa := vbw aa hb; replace ab := vbw ab hb; replace af := nbw af hb; replace ag := rbw ag hb; replace ae := bbh ae hb; replace ac := bbh ac hb; replace ai := bbh ai hb; replace au := bbh au hb; replace HB := bst hb; (try clear hb)))
  go_ret
  exact ⟨per, pbg⟩
 rw [if_neg Bool.false_ne_true] at H
 have H' := am H
 clear H
 go_wp2
 go_loopg [17, 18] dO (fun kq iZ i1 w' => ∃ (bg : Bool) (bk : Int), iZ = .bool bg ∧ i1 = .int .i64 bk ∧ Aside0 (qAA.l0 kq l1 a6 bg bk aQ aw av aC ay bL = some r) ∧ Aside0 (kq ≤ dO) ∧ Aside0 (Kd.N (Kd.slice 3 (Kd.int .i64)) 39 w' w.heap.size (fun k_ => some k_ ≠ ((.slice aZ aC.length a5) : Value).ownBlock ∧ some k_ ≠ ((.slice aW ay.length aM) : Value).ownBlock ∧ k_ ≠ aj ∧ k_ ≠ ah ∧ k_ ≠ ak ∧ k_ ≠ ao) aV a6) ∧ Aside0 (Kd.V k64 64 w' w.heap.size (fun k_ => some k_ ≠ (aV : Value).ownBlock ∧ some k_ ≠ ((.slice aZ aC.length a5) : Value).ownBlock ∧ some k_ ≠ ((.slice aW ay.length aM) : Value).ownBlock ∧ k_ ≠ aj ∧ k_ ≠ ah ∧ k_ ≠ ak ∧ k_ ≠ ao) (.slice bm aw.length bd) aw) ∧ Aside0 (Kd.V k38 38 w' w.heap.size (fun k_ => some k_ ≠ (aV : Value).ownBlock ∧ some k_ ≠ ((.slice aZ aC.length a5) : Value).ownBlock ∧ some k_ ≠ ((.slice aW ay.length aM) : Value).ownBlock ∧ k_ ≠ aj ∧ k_ ≠ ah ∧ k_ ≠ ak ∧ k_ ≠ ao) (.slice bn av.length bf) av) ∧ Aside0 (Kd.N (Kd.slice 3 (Kd.int .i64)) 39 w' w.heap.size (fun k_ => some k_ ≠ (aV : Value).ownBlock ∧ some k_ ≠ ((.slice aW ay.length aM) : Value).ownBlock ∧ k_ ≠ aj ∧ k_ ≠ ah ∧ k_ ≠ ak ∧ k_ ≠ ao) (.slice aZ aC.length a5) aC) ∧ Aside0 (Kd.R k59 59 w' w.heap.size (fun _ => True) (.slice aW ay.length aM) ay) ∧ Aside0 (w'.heap[aj]? = some (.cells #[.string bs, (.slice bB bh.length bE), (.slice bC bi.length bF)] 25 (0, 0))) ∧ Aside0 (w'.heap[ah]? = some (.cells #[.string aQ, (.slice bm aw.length bd), (.slice bn av.length bf)] 25 (0, 0))) ∧ Aside0 (w'.heap[ak]? = some (.cells #[.int .i64 bR, .int .i64 bS] 48 (0, 0))) ∧ Aside0 (w'.heap[ao]? = some (.cells #[(.slice aZ aC.length a5), (.slice aW ay.length aM), .bool bL] 53 (0, 0))) ∧ Aside0 (Below w.heap.size w w'))
 case atStart => exact ⟨(false), (0), prs, prs, H', ⟨Nat.le_refl _⟩, ⟨pkn aq.1⟩, ⟨pkv aa.1⟩, ⟨pkv ab.1⟩, ⟨pkn af.1⟩, ⟨pkr ag.1⟩, ⟨pbk ae.1⟩, ⟨pbk ac.1⟩, ⟨pbk ai.1⟩, ⟨pbk au.1⟩, ⟨pbg⟩⟩
 clear H'
 try clear c1 c2 d3 d4 eK en bp bK e7 eL bu bN eM gH e8 bz b3 b6 b7 b8 cj cD cE cF cG cH cY cZ d1 da
 obtain ⟨bg, bk, rfl, rfl, HA, ck, aq, aa, ab, af, ag, ae, ac, ai, au, HB⟩ := hrel
 obtain _ | k5 := gk
 ·exact absurd HA.1 (by simp [qAA.l0])
 have H := HA.1
 clear HA
 simp only [qAA.l0] at H
 replace H := ifl H
 rcases H with ⟨cx, H⟩ | ⟨cx, H⟩
 ·cases bg
  rotate_left
  ·rw [if_pos rfl] at H
   have H' := am H
   clear H
   have hL := aT.1
   have ix := aE.1
   have hO := aJ.1
   have iy := aA.1
   have hP := aU.1
   have iz := aI.1
   have eF := cf3 au.1
   go_wp2
   go_roundg k5
   case measure => have := bX.1; have := br.1; have := bx.1; have := bH.1; have := ck.1; omega
   case rel => exact ⟨(true), (wrap64 (bk + 1)), prs, prs, H', ⟨by have := bX.1; have := br.1; have := bx.1; have := bH.1; have := ck.1; omega⟩, ⟨pkn aq.1⟩, ⟨pkv aa.1⟩, ⟨pkv ab.1⟩, ⟨pkn af.1⟩, ⟨pkr ag.1⟩, ⟨pbk ae.1⟩, ⟨pbk ac.1⟩, ⟨pbk ai.1⟩, ⟨pbk au.1⟩, ⟨pbg⟩⟩
  rw [if_neg Bool.false_ne_true] at H
  replace H := bnd H
  obtain ⟨dV, gs, H⟩ := H
  (try dsimp only at H)
  cases dV
  ·rw [if_neg Bool.false_ne_true] at H
   have H' := am H
   clear H
   have fp := aT.1
   have fM := aE.1
   have fq := aJ.1
   have fN := aA.1
   have ft := aU.1
   have fO := aI.1
   have du := cf3 au.1
   have fu := aG.1
   have fP := ax.1
   have fv := aH.1
   have fQ := aR.1
   have dv := cf3 ac.1
   go_wp2_with (first | (go_at_call 29; (with_reducible refine (r04_Valid.calls k5 _ _ l1 (aw.length : Int) false _ ?side1 ?side2 gs.1).mono ?_); (case side1 => exact csb eJ HB); (case side2 => exact eG.1); rintro e w' ⟨rfl, ⟨nd, rfl⟩⟩))
   go_roundg k5
   case measure => have := bX.1; have := br.1; have := bx.1; have := bH.1; have := ck.1; omega
   case rel => exact ⟨(false), (wrap64 (bk + 1)), prs, prs, H', ⟨by have := bX.1; have := br.1; have := bx.1; have := bH.1; have := ck.1; omega⟩, ⟨pkn aq.1⟩, ⟨pkv aa.1⟩, ⟨pkv ab.1⟩, ⟨pkn af.1⟩, ⟨pkr ag.1⟩, ⟨pbk ae.1⟩, ⟨pbk ac.1⟩, ⟨pbk ai.1⟩, ⟨pbk au.1⟩, ⟨pbg⟩⟩
  rw [if_pos rfl] at H
  replace H := ifd H
  obtain ⟨dh, H⟩ := H
  replace H := bnd H
  obtain ⟨cV, iO, H⟩ := H
  (try dsimp only at H)
  have H' := am H
  clear H
  have hU := aT.1
  have iA := aE.1
  have hV := aJ.1
  have iB := aA.1
  have hX := aU.1
  have iC := aI.1
  have dr := cf3 au.1
  have fm := aG.1
  have fK := ax.1
  have fo := aH.1
  have fL := aR.1
  have dt := cf3 ac.1
  go_wp2_with (first | (go_at_call 29; (with_reducible refine (r04_Valid.calls k5 _ _ l1 (aw.length : Int) true _ ?side1 ?side2 gs.1).mono ?_); (case side1 => exact csb eJ HB); (case side2 => exact eG.1); rintro e w' ⟨rfl, ⟨nd, rfl⟩⟩; have ch : 0 ≤ (bk : Int) := dq; have ci : bk < (aC.length : Int) := dq; obtain ⟨gG, eX, e9, fc, bP, cf, ce⟩ := at_L11 (Kd.qBS af.1).2.2 bk ch ci; cases fc; obtain ⟨gI, dN, dM, cy⟩ := Kd.N_get af.1 [] bk ch (by first | exact ci | exact dq | (have e_ := (Kd.qBS af.1).1; omega)); obtain ⟨eP, eQ, rfl, bT, bO⟩ := Kd.qBV dM; have bJ := cy 0 _ rfl; rw [Nat.add_zero, show ((Kd.slice 3 (Kd.int .i64))).sz = 1 from rfl, Nat.mul_one] at bJ; replace bJ := Option.some.inj (bJ.symm.trans bP); injection bJ with hva_ hvn_ hvc_; rw [hva_] at bO; rw [hvc_] at bT; have eI := am (show Kd.V (Kd.int .i64) 3 _ w.heap.size _ _ (rd_L11 aC bk) from Kd.V_mk bT bO); clear hva_ hvn_ hvc_ bO bT; clear cy dN; have b9 := am ce; have cI := am cf; clear ce cf; replace ch := eq_true ch; replace ci := eq_true ci) | (go_at_call 30; (with_reducible refine (r04_Leq.calls k5 _ _ l1 _ _ (rd_L11 aC bk) cV _ ?side1 ?side2 ?side3 ?side4 iO.1).mono ?_); (case side1 => exact csd ((Kd.qCG eJ.1 pbg))); (case side2 => exact eG.1); (case side3 => exact csd b9.1); (case side4 => exact cI.1); rintro e w' ⟨rfl, ⟨nd, rfl⟩⟩))
  go_roundg k5
  case measure => have := bX.1; have := br.1; have := bx.1; have := bH.1; have := ck.1; omega
  case rel => exact ⟨(cV), (wrap64 (bk + 1)), prs, prs, H', ⟨by have := bX.1; have := br.1; have := bx.1; have := bH.1; have := ck.1; omega⟩, ⟨pkn aq.1⟩, ⟨pkv aa.1⟩, ⟨pkv ab.1⟩, ⟨pkn af.1⟩, ⟨pkr ag.1⟩, ⟨pbk ae.1⟩, ⟨pbk ac.1⟩, ⟨pbk ai.1⟩, ⟨pbk au.1⟩, ⟨pbg⟩⟩
 replace H := ifp H
 obtain ⟨co, H⟩ := H
 have cp := eq_true co
 have cq : decide (0 ≤ (av.length : Int)) = true := decide_eq_true co
 clear co
 replace H := ifp H
 obtain ⟨cr, H⟩ := H
 have cu := eq_true cr
 have cv : decide (((av.length : Int) : Int).toNat ≤ 281474976710656) = true := decide_eq_true cr
 clear cr
 obtain ⟨eB, cz⟩ : ∃ y_ : List Bool, y_ = (List.replicate ((av.length : Int) : Int).toNat false) := ⟨_, rfl⟩
 replace H : (qAA.l1 k5 l1 a6 bg eB 0 aQ aw av aC ay bL) = some r := hrp cz H
 have de := am cz
 clear cz
 have H' := am H
 clear H
 have fw := aT.1
 have fR := aE.1
 have fx := aJ.1
 have fS := aA.1
 have fy := aU.1
 have fT := aI.1
 have dw := cf3 au.1
 have fz := aG.1
 have fU := ax.1
 have fA := aH.1
 have fV := aR.1
 have dx := cf3 ac.1
 go_wp2_with (first | ((with_reducible refine qBN (N := 118) rfl ?_); (try (refine qBP (by rfl) ?_; dsimp only)); refine Kd.R_make Kd.bool _ 4 rfl (N := 118) rfl 57 _ _ rfl (av.length : Int) rfl rfl Try.underlying57 (.bool false) 1 info4 rfl (by decide) (by omega) false (ok := fun _ => True) (okp := fun _ => True) rfl (fun _ hk => hk) trivial (dq) (Nat.le_trans (Nat.mul_le_mul_right _ (dq : (av.length : Int).toNat ≤ 281474976710656)) (by omega)) (Below.refl _ _) (Nat.le_refl _) ?_; intro bM je bA hb hg_ hnew_; clear hg_ hnew_; (first | rw [← de.1] at bA | (simp only [Int.reduceToNat] at bA; rw [← de.1] at bA)); have ef := am (Kd.qCH bA (qBJ pbg)); replace aq := am (Kd.qBX (pkn aq.1) (Kd.R_base bA) hb); replace aa := am (Kd.qBY (pkv aa.1) (Kd.R_base bA) hb); replace ab := am (Kd.qBY (pkv ab.1) (Kd.R_base bA) hb); replace af := am (Kd.qBX (pkn af.1) (Kd.R_base bA) hb); replace ag := rbw ag hb; replace ae := bbh ae hb; replace ac := bbh ac hb; replace ai := bbh ai hb; replace au := bbh au hb; replace HB := bst hb; clear hb bA))
 go_loopg [20] k5 (fun kq i2 w' => ∃ (aD : List Bool) (bl : Int), i2 = .int .i64 bl ∧ Aside0 (qAA.l1 kq l1 a6 bg aD bl aQ aw av aC ay bL = some r) ∧ Aside0 (kq ≤ k5) ∧ Aside0 (Kd.N (Kd.slice 3 (Kd.int .i64)) 39 w' w.heap.size (fun k_ => some k_ ≠ (bM : Value).ownBlock ∧ some k_ ≠ ((.slice aZ aC.length a5) : Value).ownBlock ∧ some k_ ≠ ((.slice aW ay.length aM) : Value).ownBlock ∧ k_ ≠ aj ∧ k_ ≠ ah ∧ k_ ≠ ak ∧ k_ ≠ ao) aV a6) ∧ Aside0 (Kd.R Kd.bool 4 w' w.heap.size (fun _ => True) bM aD) ∧ Aside0 (Kd.V k64 64 w' w.heap.size (fun k_ => some k_ ≠ (aV : Value).ownBlock ∧ some k_ ≠ (bM : Value).ownBlock ∧ some k_ ≠ ((.slice aZ aC.length a5) : Value).ownBlock ∧ some k_ ≠ ((.slice aW ay.length aM) : Value).ownBlock ∧ k_ ≠ aj ∧ k_ ≠ ah ∧ k_ ≠ ak ∧ k_ ≠ ao) (.slice bm aw.length bd) aw) ∧ Aside0 (Kd.V k38 38 w' w.heap.size (fun k_ => some k_ ≠ (aV : Value).ownBlock ∧ some k_ ≠ (bM : Value).ownBlock ∧ some k_ ≠ ((.slice aZ aC.length a5) : Value).ownBlock ∧ some k_ ≠ ((.slice aW ay.length aM) : Value).ownBlock ∧ k_ ≠ aj ∧ k_ ≠ ah ∧ k_ ≠ ak ∧ k_ ≠ ao) (.slice bn av.length bf) av) ∧ Aside0 (Kd.N (Kd.slice 3 (Kd.int .i64)) 39 w' w.heap.size (fun k_ => some k_ ≠ (aV : Value).ownBlock ∧ some k_ ≠ (bM : Value).ownBlock ∧ some k_ ≠ ((.slice aW ay.length aM) : Value).ownBlock ∧ k_ ≠ aj ∧ k_ ≠ ah ∧ k_ ≠ ak ∧ k_ ≠ ao) (.slice aZ aC.length a5) aC) ∧ Aside0 (Kd.R k59 59 w' w.heap.size (fun _ => True) (.slice aW ay.length aM) ay) ∧ Aside0 (w'.heap[aj]? = some (.cells #[.string bs, (.slice bB bh.length bE), (.slice bC bi.length bF)] 25 (0, 0))) ∧ Aside0 (w'.heap[ah]? = some (.cells #[.string aQ, (.slice bm aw.length bd), (.slice bn av.length bf)] 25 (0, 0))) ∧ Aside0 (w'.heap[ak]? = some (.cells #[.int .i64 bR, .int .i64 bS] 48 (0, 0))) ∧ Aside0 (w'.heap[ao]? = some (.cells #[(.slice aZ aC.length a5), (.slice aW ay.length aM), .bool bL] 53 (0, 0))) ∧ Aside0 (Below w.heap.size w w'))
 case atStart => exact ⟨(eB), (0), prs, H', ⟨Nat.le_refl _⟩, ⟨nmo aq.1 (fun _ hk => ⟨hk.2, ⟨hk.1.1, ⟨hk.1.2.1, ⟨hk.1.2.2.1, ⟨hk.1.2.2.2.1, ⟨hk.1.2.2.2.2.1, hk.1.2.2.2.2.2⟩⟩⟩⟩⟩⟩)⟩, ⟨pkr ef.1⟩, ⟨vmo aa.1 (fun _ hk => ⟨hk.1.1, ⟨hk.2, ⟨hk.1.2.1, ⟨hk.1.2.2.1, ⟨hk.1.2.2.2.1, ⟨hk.1.2.2.2.2.1, ⟨hk.1.2.2.2.2.2.1, hk.1.2.2.2.2.2.2⟩⟩⟩⟩⟩⟩⟩)⟩, ⟨vmo ab.1 (fun _ hk => ⟨hk.1.1, ⟨hk.2, ⟨hk.1.2.1, ⟨hk.1.2.2.1, ⟨hk.1.2.2.2.1, ⟨hk.1.2.2.2.2.1, ⟨hk.1.2.2.2.2.2.1, hk.1.2.2.2.2.2.2⟩⟩⟩⟩⟩⟩⟩)⟩, ⟨nmo af.1 (fun _ hk => ⟨hk.1.1, ⟨hk.2, ⟨hk.1.2.1, ⟨hk.1.2.2.1, ⟨hk.1.2.2.2.1, ⟨hk.1.2.2.2.2.1, hk.1.2.2.2.2.2⟩⟩⟩⟩⟩⟩)⟩, ⟨pkr ag.1⟩, ⟨pbk ae.1⟩, ⟨pbk ac.1⟩, ⟨pbk ai.1⟩, ⟨pbk au.1⟩, ⟨pbg⟩⟩
 clear H'
 try clear c1 c2 d3 d4 eK en bp bK e7 eL bu bN eM gH e8 bz b3 iT cx iU iV eN dh co cp cq cr cu cv dr dt du dv dw dx b6 b7 b8 cj cD cE cF cG cH cY cZ d1 da eF bP ch ci
 obtain ⟨aD, bl, rfl, HA, d2, aq, az, aa, ab, af, ag, ae, ac, ai, au, HB⟩ := hrel
 obtain _ | k6 := gk
 ·exact absurd HA.1 (by simp [qAA.l1])
 have H := HA.1
 clear HA
 simp only [qAA.l1] at H
 replace H := ifl H
 rcases H with ⟨cw, H⟩ | ⟨cw, H⟩
 ·replace H := ifp H
  obtain ⟨dE, H⟩ := H
  have dF := decide_eq_true dE
  clear dE
  replace H := ifd H
  obtain ⟨dH, H⟩ := H
  replace H := ifd H
  obtain ⟨dJ, H⟩ := H
  obtain ⟨d0, cA⟩ : ∃ y_ : List Bool, y_ = (aD.set (((rd_T59 ay bl).f1) : Int).toNat true) := ⟨_, rfl⟩
  replace H : (qAA.l1 k6 l1 a6 bg d0 (wrap64 (bl + 1)) aQ aw av aC ay bL) = some r := hrp cA H
  have ej := am cA
  clear cA
  have H' := am H
  clear H
  have fB := aT.1
  have fW := aE.1
  have fC := aJ.1
  have fX := aA.1
  have fD := aU.1
  have fY := aI.1
  have eD := cf3 au.1
  obtain ⟨gj, gm, ca, fd, cN, cO, cP⟩ := dT59 (Kd.qBR ag.1).2.2 bl
  cases fd
  have cQ : 0 ≤ (((rd_T59 ay bl).f1) : Int) := dq
  have cR : (((rd_T59 ay bl).f1) : Int) < ((aD.length : Int) : Int) := dq
  obtain ⟨bj, bv, di, dj, ev, gJ, db⟩ := Kd.R_form az.1 (by omega)
  (first | cases di | (injection di with ea_ en_ ec_; (first | subst ea_ | (injection ea_ with ea_; subst ea_)); subst ec_; clear en_))
  have d8 := am dj
  have gF := am db
  clear dj ev db
  obtain ⟨cM, eO⟩ := Kd.R_celln false az.1 (((rd_T59 ay bl).f1) : Int) cQ cR
  replace cQ := eq_true cQ
  replace cR := eq_true cR
  have cm := Kd.R_putg az.1 (((rd_T59 ay bl).f1) : Int) true
  go_wp2_with (first | ((with_reducible refine gate_store (t := 4) (p := 133) rfl ?_); refine store_event (t := 4) (p := 133) (v := ?vo_w132) (w1 := (wr.setCell ⟨bj, (((rd_T59 ay bl).f1) : Int).toNat, none⟩ (.bool true))) ?hg ?ho ?hn ?hr ?_; (case ho => rfl); (case hg => rfl); (case hn => rfl); (case hr => first | (go_simp; done) | (go_simp; rfl)); intro dZ hw; have hg : wr.grownBy dZ (some bj) := (by rw [hw]; exact cm.2); have hp_ : Kd.R Kd.bool 4 dZ w.heap.size (fun _ => True) (.slice (some ⟨bj, 0, none⟩) aD.length bv) d0 := (by rw [hw, ej.1]; exact cm.1); clear cm; replace aq := am (Kd.qCD (v := (.slice (some ⟨bj, 0, none⟩) aD.length bv)) (v1 := (.slice (some ⟨bj, 0, none⟩) aD.length bv)) (ok := (fun k_ => some k_ ≠ (.slice aZ aC.length a5 : Value).ownBlock ∧ some k_ ≠ (.slice (some ca) ay.length aM : Value).ownBlock ∧ k_ ≠ aj ∧ k_ ≠ ah ∧ k_ ≠ ak ∧ k_ ≠ ao)) (by (with_reducible repeat (first | apply Kd.N_alloc | apply Kd.N_drewN | apply Kd.N_drew)); exact Kd.N_mono aq.1 (fun _ hk => ⟨⟨hk.2.1, ⟨hk.2.2.1, ⟨hk.2.2.2.1, ⟨hk.2.2.2.2.1, ⟨hk.2.2.2.2.2.1, hk.2.2.2.2.2.2⟩⟩⟩⟩⟩, hk.1⟩)) hg (.inl rfl)); replace aa := am (Kd.qCE (v := (.slice (some ⟨bj, 0, none⟩) aD.length bv)) (v1 := (.slice (some ⟨bj, 0, none⟩) aD.length bv)) (ok := (fun k_ => some k_ ≠ (aV : Value).ownBlock ∧ some k_ ≠ (.slice aZ aC.length a5 : Value).ownBlock ∧ some k_ ≠ (.slice (some ca) ay.length aM : Value).ownBlock ∧ k_ ≠ aj ∧ k_ ≠ ah ∧ k_ ≠ ak ∧ k_ ≠ ao)) (by (with_reducible repeat (first | apply Kd.V_alloc | apply Kd.V_drewN | apply Kd.V_drew)); exact Kd.V_mono aa.1 (fun _ hk => ⟨⟨hk.1, ⟨hk.2.2.1, ⟨hk.2.2.2.1, ⟨hk.2.2.2.2.1, ⟨hk.2.2.2.2.2.1, ⟨hk.2.2.2.2.2.2.1, hk.2.2.2.2.2.2.2⟩⟩⟩⟩⟩⟩, hk.2.1⟩)) hg (.inl rfl)); replace ab := am (Kd.qCE (v := (.slice (some ⟨bj, 0, none⟩) aD.length bv)) (v1 := (.slice (some ⟨bj, 0, none⟩) aD.length bv)) (ok := (fun k_ => some k_ ≠ (aV : Value).ownBlock ∧ some k_ ≠ (.slice aZ aC.length a5 : Value).ownBlock ∧ some k_ ≠ (.slice (some ca) ay.length aM : Value).ownBlock ∧ k_ ≠ aj ∧ k_ ≠ ah ∧ k_ ≠ ak ∧ k_ ≠ ao)) (by (with_reducible repeat (first | apply Kd.V_alloc | apply Kd.V_drewN | apply Kd.V_drew)); exact Kd.V_mono ab.1 (fun _ hk => ⟨⟨hk.1, ⟨hk.2.2.1, ⟨hk.2.2.2.1, ⟨hk.2.2.2.2.1, ⟨hk.2.2.2.2.2.1, ⟨hk.2.2.2.2.2.2.1, hk.2.2.2.2.2.2.2⟩⟩⟩⟩⟩⟩, hk.2.1⟩)) hg (.inl rfl)); replace af := am (Kd.qCD (v := (.slice (some ⟨bj, 0, none⟩) aD.length bv)) (v1 := (.slice (some ⟨bj, 0, none⟩) aD.length bv)) (ok := (fun k_ => some k_ ≠ (aV : Value).ownBlock ∧ some k_ ≠ (.slice (some ca) ay.length aM : Value).ownBlock ∧ k_ ≠ aj ∧ k_ ≠ ah ∧ k_ ≠ ak ∧ k_ ≠ ao)) (by (with_reducible repeat (first | apply Kd.N_alloc | apply Kd.N_drewN | apply Kd.N_drew)); exact Kd.N_mono af.1 (fun _ hk => ⟨⟨hk.1, ⟨hk.2.2.1, ⟨hk.2.2.2.1, ⟨hk.2.2.2.2.1, ⟨hk.2.2.2.2.2.1, hk.2.2.2.2.2.2⟩⟩⟩⟩⟩, hk.2.1⟩)) hg (.inl rfl)); replace ag := am (Kd.R_over' (v := (.slice (some ⟨bj, 0, none⟩) aD.length bv)) (pkr ag.1) (Kd.R_typed az.1) (by decide) hg); replace ae := (bgr ae hg (Kd.R_ne az.1 ae.1 (by decide))); replace ac := (bgr ac hg (Kd.R_ne az.1 ac.1 (by decide))); replace ai := (bgr ai hg (Kd.R_ne az.1 ai.1 (by decide))); replace au := (bgr au hg (Kd.R_ne az.1 au.1 (by decide))); replace az := am hp_; replace HB := am ((by rw [hw]; exact qCN (HB.1) d8.1 : Below w.heap.size w dZ)); clear hg hw hp_))
  go_roundg k6
  case measure => have := bX.1; have := br.1; have := bx.1; have := bH.1; have := ck.1; have := d2.1; omega
  case rel => exact ⟨(d0), (wrap64 (bl + 1)), prs, H', ⟨by have := bX.1; have := br.1; have := bx.1; have := bH.1; have := ck.1; have := d2.1; omega⟩, ⟨nmo aq.1 (fun _ hk => ⟨hk.2, ⟨hk.1.1, ⟨hk.1.2.1, ⟨hk.1.2.2.1, ⟨hk.1.2.2.2.1, ⟨hk.1.2.2.2.2.1, hk.1.2.2.2.2.2⟩⟩⟩⟩⟩⟩)⟩, ⟨pkr az.1⟩, ⟨vmo aa.1 (fun _ hk => ⟨hk.1.1, ⟨hk.2, ⟨hk.1.2.1, ⟨hk.1.2.2.1, ⟨hk.1.2.2.2.1, ⟨hk.1.2.2.2.2.1, ⟨hk.1.2.2.2.2.2.1, hk.1.2.2.2.2.2.2⟩⟩⟩⟩⟩⟩⟩)⟩, ⟨vmo ab.1 (fun _ hk => ⟨hk.1.1, ⟨hk.2, ⟨hk.1.2.1, ⟨hk.1.2.2.1, ⟨hk.1.2.2.2.1, ⟨hk.1.2.2.2.2.1, ⟨hk.1.2.2.2.2.2.1, hk.1.2.2.2.2.2.2⟩⟩⟩⟩⟩⟩⟩)⟩, ⟨nmo af.1 (fun _ hk => ⟨hk.1.1, ⟨hk.2, ⟨hk.1.2.1, ⟨hk.1.2.2.1, ⟨hk.1.2.2.2.1, ⟨hk.1.2.2.2.2.1, hk.1.2.2.2.2.2⟩⟩⟩⟩⟩⟩)⟩, ⟨pkr ag.1⟩, ⟨pbk ae.1⟩, ⟨pbk ac.1⟩, ⟨pbk ai.1⟩, ⟨pbk au.1⟩, ⟨pbg⟩⟩
 have H' := am H
 clear H
 have fE := aT.1
 have fZ := aE.1
 have fF := aJ.1
 have f5 := aA.1
 have fG := aU.1
 have f6 := aI.1
 have eE := cf3 au.1
 go_wp2
 go_loopg [21, 22] k6 (fun kq ez i3 w' => ∃ (bw : List Int) (a7 : Int), i3 = .int .i64 a7 ∧ Aside0 (qAA.l2 kq l1 a6 bg aD bw a7 aQ aw av = some r) ∧ Aside0 (kq ≤ k6) ∧ Aside0 (Kd.N (Kd.slice 3 (Kd.int .i64)) 39 w' w.heap.size (fun k_ => some k_ ≠ (bM : Value).ownBlock ∧ some k_ ≠ (ez : Value).ownBlock ∧ some k_ ≠ ((.slice aZ aC.length a5) : Value).ownBlock ∧ some k_ ≠ ((.slice aW ay.length aM) : Value).ownBlock ∧ k_ ≠ aj ∧ k_ ≠ ah ∧ k_ ≠ ak ∧ k_ ≠ ao) aV a6) ∧ Aside0 (Kd.R Kd.bool 4 w' w.heap.size (fun _ => True) bM aD) ∧ Aside0 (Kd.R (Kd.int .i64) 3 w' w.heap.size (fun _ => True) ez bw) ∧ Aside0 (Kd.V k64 64 w' w.heap.size (fun k_ => some k_ ≠ (aV : Value).ownBlock ∧ some k_ ≠ (bM : Value).ownBlock ∧ some k_ ≠ (ez : Value).ownBlock ∧ some k_ ≠ ((.slice aZ aC.length a5) : Value).ownBlock ∧ some k_ ≠ ((.slice aW ay.length aM) : Value).ownBlock ∧ k_ ≠ aj ∧ k_ ≠ ah ∧ k_ ≠ ak ∧ k_ ≠ ao) (.slice bm aw.length bd) aw) ∧ Aside0 (Kd.V k38 38 w' w.heap.size (fun k_ => some k_ ≠ (aV : Value).ownBlock ∧ some k_ ≠ (bM : Value).ownBlock ∧ some k_ ≠ (ez : Value).ownBlock ∧ some k_ ≠ ((.slice aZ aC.length a5) : Value).ownBlock ∧ some k_ ≠ ((.slice aW ay.length aM) : Value).ownBlock ∧ k_ ≠ aj ∧ k_ ≠ ah ∧ k_ ≠ ak ∧ k_ ≠ ao) (.slice bn av.length bf) av) ∧ Aside0 (Kd.N (Kd.slice 3 (Kd.int .i64)) 39 w' w.heap.size (fun k_ => some k_ ≠ (aV : Value).ownBlock ∧ some k_ ≠ (bM : Value).ownBlock ∧ some k_ ≠ (ez : Value).ownBlock ∧ some k_ ≠ ((.slice aW ay.length aM) : Value).ownBlock ∧ k_ ≠ aj ∧ k_ ≠ ah ∧ k_ ≠ ak ∧ k_ ≠ ao) (.slice aZ aC.length a5) aC) ∧ Aside0 (Kd.R k59 59 w' w.heap.size (fun _ => True) (.slice aW ay.length aM) ay) ∧ Aside0 (w'.heap[aj]? = some (.cells #[.string bs, (.slice bB bh.length bE), (.slice bC bi.length bF)] 25 (0, 0))) ∧ Aside0 (w'.heap[ah]? = some (.cells #[.string aQ, (.slice bm aw.length bd), (.slice bn av.length bf)] 25 (0, 0))) ∧ Aside0 (w'.heap[ak]? = some (.cells #[.int .i64 bR, .int .i64 bS] 48 (0, 0))) ∧ Aside0 (w'.heap[ao]? = some (.cells #[(.slice aZ aC.length a5), (.slice aW ay.length aM), .bool bL] 53 (0, 0))) ∧ Aside0 (Below w.heap.size w w'))
 case atStart => exact ⟨(([] : List Int)), (0), prs, H', ⟨Nat.le_refl _⟩, ⟨nmo aq.1 (fun _ hk => ⟨hk.1, ⟨(by simp [Value.ownBlock]), ⟨hk.2.1, ⟨hk.2.2.1, ⟨hk.2.2.2.1, ⟨hk.2.2.2.2.1, ⟨hk.2.2.2.2.2.1, hk.2.2.2.2.2.2⟩⟩⟩⟩⟩⟩⟩)⟩, ⟨pkr az.1⟩, ⟨knl⟩, ⟨vmo aa.1 (fun _ hk => ⟨hk.1, ⟨hk.2.1, ⟨(by simp [Value.ownBlock]), ⟨hk.2.2.1, ⟨hk.2.2.2.1, ⟨hk.2.2.2.2.1, ⟨hk.2.2.2.2.2.1, ⟨hk.2.2.2.2.2.2.1, hk.2.2.2.2.2.2.2⟩⟩⟩⟩⟩⟩⟩⟩)⟩, ⟨vmo ab.1 (fun _ hk => ⟨hk.1, ⟨hk.2.1, ⟨(by simp [Value.ownBlock]), ⟨hk.2.2.1, ⟨hk.2.2.2.1, ⟨hk.2.2.2.2.1, ⟨hk.2.2.2.2.2.1, ⟨hk.2.2.2.2.2.2.1, hk.2.2.2.2.2.2.2⟩⟩⟩⟩⟩⟩⟩⟩)⟩, ⟨nmo af.1 (fun _ hk => ⟨hk.1, ⟨hk.2.1, ⟨(by simp [Value.ownBlock]), ⟨hk.2.2.1, ⟨hk.2.2.2.1, ⟨hk.2.2.2.2.1, ⟨hk.2.2.2.2.2.1, hk.2.2.2.2.2.2⟩⟩⟩⟩⟩⟩⟩)⟩, ⟨pkr ag.1⟩, ⟨pbk ae.1⟩, ⟨pbk ac.1⟩, ⟨pbk ai.1⟩, ⟨pbk au.1⟩, ⟨pbg⟩⟩
 clear H'
 try clear c1 c2 d3 d4 eK en bp bK e7 eL bu bN eM gH e8 bz b3 iT jo cx iU iV eN dh co cp cq cr cu cv cw dE dF dG dH dI dJ cQ cR dr dt du dv dw dx b6 eD eE b7 b8 cj cD cE cF cG cH cY cZ d1 da eF cM bP cN cO cP ch gj ci gm
 obtain ⟨bw, a7, rfl, HA, eH, aq, az, aK, aa, ab, af, ag, ae, ac, ai, au, HB⟩ := hrel
 obtain _ | k7 := gk
 ·exact absurd HA.1 (by simp [qAA.l2])
 have H := HA.1
 clear HA
 simp only [qAA.l2] at H
 replace H := ifl H
 rcases H with ⟨dK, H⟩ | ⟨dK, H⟩
 ·replace H := ifp H
  obtain ⟨el, H⟩ := H
  have e0 := decide_eq_true el
  clear el
  obtain ⟨df, b4⟩ : ∃ b_ : Bool, b_ = (rdOf false aD a7) := ⟨_, rfl⟩
  replace H : (if df = true then (if bw.length < 17592186044416 then (qAA.l2 k7 l1 a6 bg aD (bw ++ [a7]) (wrap64 (a7 + 1)) aQ aw av) else (none)) else (qAA.l2 k7 l1 a6 bg aD bw (wrap64 (a7 + 1)) aQ aw av)) = some r := by rw [← b4] at H; exact H
  have cn := am b4
  clear b4
  by_cases cJ : df = true
  rotate_left
  ·replace cJ := Bool.eq_false_iff.mpr cJ
   subst cJ
   rw [if_neg Bool.false_ne_true] at H
   have H' := am H
   clear H
   obtain ⟨gv, gK, eq⟩ := Kd.R_slice az.1
   subst eq
   obtain ⟨gl, gn, b2, dL, bQ⟩ := dbool (Kd.qBR az.1).2.2 a7
   (try rw [← cn.1] at bQ)
   cases dL
   go_wp2
   go_roundg k7
   case measure => have := bX.1; have := br.1; have := bx.1; have := bH.1; have := ck.1; have := d2.1; have := eH.1; omega
   case rel => exact ⟨(bw), (wrap64 (a7 + 1)), prs, H', ⟨by have := bX.1; have := br.1; have := bx.1; have := bH.1; have := ck.1; have := d2.1; have := eH.1; omega⟩, ⟨pkn aq.1⟩, ⟨pkr az.1⟩, ⟨pkr aK.1⟩, ⟨pkv aa.1⟩, ⟨pkv ab.1⟩, ⟨pkn af.1⟩, ⟨pkr ag.1⟩, ⟨pbk ae.1⟩, ⟨pbk ac.1⟩, ⟨pbk ai.1⟩, ⟨pbk au.1⟩, ⟨pbg⟩⟩
  subst cJ
  rw [if_pos rfl] at H
  replace H := ifp H
  obtain ⟨em, H⟩ := H
  have dD := am em
  clear em
  obtain ⟨eC, cB⟩ : ∃ y_ : List Int, y_ = (bw ++ [a7]) := ⟨_, rfl⟩
  replace H : (qAA.l2 k7 l1 a6 bg aD eC (wrap64 (a7 + 1)) aQ aw av) = some r := hrp cB H
  have ek := am cB
  clear cB
  have H' := am H
  clear H
  obtain ⟨gu, cd, ep⟩ := Kd.R_slice az.1
  subst ep
  obtain ⟨gl, gn, b2, dL, bQ⟩ := dbool (Kd.qBR az.1).2.2 a7
  (try rw [← cn.1] at bQ)
  cases dL
  go_wp2_with (first | ((with_reducible refine qBQ (b := .append) (xs := #[.tmp 144, .tmp 146]) rfl ?_); (try (refine qBP (by rfl) ?_; dsimp only)); at_builtin; refine Kd.R_append (Kd.int .i64) (w0 := w) w.heap.size rfl (.tmp 144) (.tmp 146) 39 3 (.int .i64 0) 8 rfl Try.underlying39 info3 rfl (by decide) (by omega) u21 bw a7 [.int .i64 a7] (fun _ => True) (fun _ => False) rfl rfl ?aP (fun _ hk => hk.elim) ?aF ?aO ?aB ?aS ?aL ?_; (case aP => exact rfl); (case aB => exact pbg); (case aF => exact (fun _ _ => trivial)); (case aO => exact (pkr aK.1)); (case aS => exact (qBJ pbg)); (case aL => have := dD.1; omega); intro jb jf ho hb hg hat; rw [← ek.1] at ho; have eg := am ho; replace aq := am (Kd.qCD (ok := (fun k_ => some k_ ≠ (.slice (some b2) aD.length cd : Value).ownBlock ∧ some k_ ≠ (.slice aZ aC.length a5 : Value).ownBlock ∧ some k_ ≠ (.slice aW ay.length aM : Value).ownBlock ∧ k_ ≠ aj ∧ k_ ≠ ah ∧ k_ ≠ ak ∧ k_ ≠ ao)) (by (with_reducible repeat (first | apply Kd.N_alloc | apply Kd.N_drewN | apply Kd.N_drew)); exact Kd.N_mono aq.1 (fun _ hk => ⟨⟨hk.1, ⟨hk.2.2.1, ⟨hk.2.2.2.1, ⟨hk.2.2.2.2.1, ⟨hk.2.2.2.2.2.1, ⟨hk.2.2.2.2.2.2.1, hk.2.2.2.2.2.2.2⟩⟩⟩⟩⟩⟩, hk.2.1⟩)) hg hat); replace az := am (Kd.R_over' (pkr az.1) (Kd.R_typed (pkr aK.1)) (by decide) hg); replace aa := am (Kd.qCE (ok := (fun k_ => some k_ ≠ (aV : Value).ownBlock ∧ some k_ ≠ (.slice (some b2) aD.length cd : Value).ownBlock ∧ some k_ ≠ (.slice aZ aC.length a5 : Value).ownBlock ∧ some k_ ≠ (.slice aW ay.length aM : Value).ownBlock ∧ k_ ≠ aj ∧ k_ ≠ ah ∧ k_ ≠ ak ∧ k_ ≠ ao)) (by (with_reducible repeat (first | apply Kd.V_alloc | apply Kd.V_drewN | apply Kd.V_drew)); exact Kd.V_mono aa.1 (fun _ hk => ⟨⟨hk.1, ⟨hk.2.1, ⟨hk.2.2.2.1, ⟨hk.2.2.2.2.1, ⟨hk.2.2.2.2.2.1, ⟨hk.2.2.2.2.2.2.1, ⟨hk.2.2.2.2.2.2.2.1, hk.2.2.2.2.2.2.2.2⟩⟩⟩⟩⟩⟩⟩, hk.2.2.1⟩)) hg hat); replace ab := am (Kd.qCE (ok := (fun k_ => some k_ ≠ (aV : Value).ownBlock ∧ some k_ ≠ (.slice (some b2) aD.length cd : Value).ownBlock ∧ some k_ ≠ (.slice aZ aC.length a5 : Value).ownBlock ∧ some k_ ≠ (.slice aW ay.length aM : Value).ownBlock ∧ k_ ≠ aj ∧ k_ ≠ ah ∧ k_ ≠ ak ∧ k_ ≠ ao)) (by (with_reducible repeat (first | apply Kd.V_alloc | apply Kd.V_drewN | apply Kd.V_drew)); exact Kd.V_mono ab.1 (fun _ hk => ⟨⟨hk.1, ⟨hk.2.1, ⟨hk.2.2.2.1, ⟨hk.2.2.2.2.1, ⟨hk.2.2.2.2.2.1, ⟨hk.2.2.2.2.2.2.1, ⟨hk.2.2.2.2.2.2.2.1, hk.2.2.2.2.2.2.2.2⟩⟩⟩⟩⟩⟩⟩, hk.2.2.1⟩)) hg hat); replace af := am (Kd.qCD (ok := (fun k_ => some k_ ≠ (aV : Value).ownBlock ∧ some k_ ≠ (.slice (some b2) aD.length cd : Value).ownBlock ∧ some k_ ≠ (.slice aW ay.length aM : Value).ownBlock ∧ k_ ≠ aj ∧ k_ ≠ ah ∧ k_ ≠ ak ∧ k_ ≠ ao)) (by (with_reducible repeat (first | apply Kd.N_alloc | apply Kd.N_drewN | apply Kd.N_drew)); exact Kd.N_mono af.1 (fun _ hk => ⟨⟨hk.1, ⟨hk.2.1, ⟨hk.2.2.2.1, ⟨hk.2.2.2.2.1, ⟨hk.2.2.2.2.2.1, ⟨hk.2.2.2.2.2.2.1, hk.2.2.2.2.2.2.2⟩⟩⟩⟩⟩⟩, hk.2.2.1⟩)) hg hat); replace ag := am (Kd.R_over' (pkr ag.1) (Kd.R_typed (pkr aK.1)) (by decide) hg); replace ae := (bgr ae hg (Kd.R_ne aK.1 ae.1 (by decide))); replace ac := (bgr ac hg (Kd.R_ne aK.1 ac.1 (by decide))); replace ai := (bgr ai hg (Kd.R_ne aK.1 ai.1 (by decide))); replace au := (bgr au hg (Kd.R_ne aK.1 au.1 (by decide))); replace HB := am hb; clear aK; clear ho hb hg hat))
  go_roundg k7
  case measure => have := bX.1; have := br.1; have := bx.1; have := bH.1; have := ck.1; have := d2.1; have := eH.1; omega
  case rel => exact ⟨(eC), (wrap64 (a7 + 1)), prs, H', ⟨by have := bX.1; have := br.1; have := bx.1; have := bH.1; have := ck.1; have := d2.1; have := eH.1; omega⟩, ⟨nmo aq.1 (fun _ hk => ⟨hk.1.1, ⟨hk.2, ⟨hk.1.2.1, ⟨hk.1.2.2.1, ⟨hk.1.2.2.2.1, ⟨hk.1.2.2.2.2.1, ⟨hk.1.2.2.2.2.2.1, hk.1.2.2.2.2.2.2⟩⟩⟩⟩⟩⟩⟩)⟩, ⟨pkr az.1⟩, ⟨pkr eg.1⟩, ⟨vmo aa.1 (fun _ hk => ⟨hk.1.1, ⟨hk.1.2.1, ⟨hk.2, ⟨hk.1.2.2.1, ⟨hk.1.2.2.2.1, ⟨hk.1.2.2.2.2.1, ⟨hk.1.2.2.2.2.2.1, ⟨hk.1.2.2.2.2.2.2.1, hk.1.2.2.2.2.2.2.2⟩⟩⟩⟩⟩⟩⟩⟩)⟩, ⟨vmo ab.1 (fun _ hk => ⟨hk.1.1, ⟨hk.1.2.1, ⟨hk.2, ⟨hk.1.2.2.1, ⟨hk.1.2.2.2.1, ⟨hk.1.2.2.2.2.1, ⟨hk.1.2.2.2.2.2.1, ⟨hk.1.2.2.2.2.2.2.1, hk.1.2.2.2.2.2.2.2⟩⟩⟩⟩⟩⟩⟩⟩)⟩, ⟨nmo af.1 (fun _ hk => ⟨hk.1.1, ⟨hk.1.2.1, ⟨hk.2, ⟨hk.1.2.2.1, ⟨hk.1.2.2.2.1, ⟨hk.1.2.2.2.2.1, ⟨hk.1.2.2.2.2.2.1, hk.1.2.2.2.2.2.2⟩⟩⟩⟩⟩⟩⟩)⟩, ⟨pkr ag.1⟩, ⟨pbk ae.1⟩, ⟨pbk ac.1⟩, ⟨pbk ai.1⟩, ⟨pbk au.1⟩, ⟨pbg⟩⟩
 replace H := bnd H
 obtain ⟨dW, eS, H⟩ := H
 (try dsimp only at H)
 cases dW
 ·rw [if_neg Bool.false_ne_true] at H
  exact absurd H (by simp)
 rw [if_pos rfl] at H
 replace H := bnd H
 obtain ⟨cC, eT, H⟩ := H
 (try dsimp only at H)
 replace H := ifp H
 obtain ⟨cK, H⟩ := H
 have e4 := cK
 (try (have e5 : decide (cC = bg) = true := by simpa using cK))
 (try (have e6 : (cC == bg) = true := by simpa using cK))
 clear cK
 replace H := bnd H
 obtain ⟨cW, eU, H⟩ := H
 (try dsimp only at H)
 replace H := bnd H
 obtain ⟨dX, eV, H⟩ := H
 (try dsimp only at H)
 cases dX
 ·rw [if_neg Bool.false_ne_true] at H
  exact absurd H (by simp)
 rw [if_pos rfl] at H
 replace H := bnd H
 obtain ⟨dY, eW, H⟩ := H
 (try dsimp only at H)
 obtain rfl := Option.some.inj H
 obtain ⟨gw, gL, er⟩ := Kd.R_slice az.1
 subst er
 obtain ⟨gx, gM, es⟩ := Kd.N_slice aq.1
 subst es
 go_wp2_with (first | ((with_reducible refine qBO (f := 22) rfl ?_); refine gC 149 Try.func22 _ (qAW.calls k7 _ _ a6 true _ (csd ((Kd.qBS aq.1).2.2)) ((Kd.qBS aq.1).2.1) eS.1) ?_; rintro e jg ⟨rfl, hb⟩; refine ⟨_, rfl, ?_⟩; replace aq := nbw aq hb; replace az := rbw az hb; replace aK := rbw aK hb; replace aa := vbw aa hb; replace ab := vbw ab hb; replace af := nbw af hb; replace ag := rbw ag hb; replace ae := bbh ae hb; replace ac := bbh ac hb; replace ai := bbh ai hb; replace au := bbh au hb; replace HB := bst hb; (try clear hb)) | (go_at_call 17; (with_reducible refine (qAU.calls k7 _ _ a6 _ _ l1 cC _ ?side1 ?side2 ?side3 ?side4 eT.1).mono ?_); (case side1 => exact csd ((Kd.qBS aq.1).2.2)); (case side2 => exact (Kd.qBS aq.1).2.1); (case side3 => exact csb eJ HB); (case side4 => exact eG.1); rintro e jh ⟨rfl, hb⟩; replace aq := nbw aq hb; replace az := rbw az hb; replace aK := rbw aK hb; replace aa := vbw aa hb; replace ab := vbw ab hb; replace af := nbw af hb; replace ag := rbw ag hb; replace ae := bbh ae hb; replace ac := bbh ac hb; replace ai := bbh ai hb; replace au := bbh au hb; replace HB := bst hb; (try clear hb); have fH := aG.1; have f7 := ax.1; have fI := aH.1; have f8 := aR.1; have fJ := aA.1; have f9 := aJ.1; have iD := cf3 ac.1) | (go_at_call 24; (with_reducible refine (qAV.calls k7 aQ _ _ aw _ _ av _ _ a6 cW _ ?side1 ?side2 ?side3 ?side4 ?side5 ?side6 eU.1).mono ?_); (case side1 => exact csd ((Kd.qBT aa.1).2.2)); (case side2 => exact (Kd.qBT aa.1).2.1); (case side3 => exact csd ((Kd.qBT ab.1).2.2)); (case side4 => exact (Kd.qBT ab.1).2.1); (case side5 => exact csd ((Kd.qBS aq.1).2.2)); (case side6 => exact (Kd.qBS aq.1).2.1); rintro e ji ⟨jc, rfl, bq, hb⟩; have b1 := am (Kd.qCH (Kd.R_new' bq (Kd.R_lt (pkr aK.1))) (qBJ pbg)); replace aq := am (Kd.qBX (pkn aq.1) (Kd.R_base bq) hb); replace az := rbw az hb; replace aK := am (Kd.R_elder' (pkr aK.1) (Kd.R_base bq) hb); replace aa := am (Kd.qBY (pkv aa.1) (Kd.R_base bq) hb); replace ab := am (Kd.qBY (pkv ab.1) (Kd.R_base bq) hb); replace af := am (Kd.qBX (pkn af.1) (Kd.R_base bq) hb); replace ag := rbw ag hb; replace ae := bbh ae hb; replace ac := bbh ac hb; replace ai := bbh ai hb; replace au := bbh au hb; replace HB := bst hb; (try clear hb); (try clear bq); obtain ⟨gy, gN, et⟩ := Kd.R_slice b1.1; subst et; obtain ⟨gz, gO, eu⟩ := Kd.R_slice aK.1; subst eu) | (go_at_call 19; (with_reducible refine (r04_Same.calls k7 _ _ cW _ _ bw true _ ?side1 ?side2 ?side3 ?side4 eV.1).mono ?_); (case side1 => exact csd ((Kd.qBR b1.1).2.2)); (case side2 => exact (Kd.qBR b1.1).2.1); (case side3 => exact csd ((Kd.qBR aK.1).2.2)); (case side4 => exact (Kd.qBR aK.1).2.1); rintro e w' ⟨rfl, ⟨nd, rfl⟩⟩) | (go_at_call 13; (with_reducible refine (qAB.calls k7  dY _ eW.1).mono ?_); rintro e jj ⟨rfl, hb⟩; replace aq := nbw aq hb; replace az := rbw az hb; replace aK := rbw aK hb; replace aa := vbw aa hb; replace ab := vbw ab hb; replace af := nbw af hb; replace ag := rbw ag hb; replace b1 := rbw b1 hb; replace ae := bbh ae hb; replace ac := bbh ac hb; replace ai := bbh ai hb; replace au := bbh au hb; replace HB := bst hb; (try clear hb)))
 go_ret
 exact ⟨per, pbg⟩

end Go.Proofs.Ytaoogghpadifiaa.P
