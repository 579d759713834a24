-- LAID BY OUR PROGRAM OVER THE PRINT (xprint.py, part.py): Lean checks it.
import Derived.Test.YtnoebjmhimehcaaPx0
import Derived.Test.YtnoebjmhimehcaaPx1
import Derived.Test.YtnoebjmhimehcaaPx3
namespace Go.Proofs.Ytnoebjmhimehcaa.P
open Go.RowKit Go.Proofs.YtnoebjmhimehcaaW.PrintWords Go.Proofs.YtnoebjmhimehcaaW.PrintLast Go.Proofs.YtnoebjmhimehcaaW.PrintMore
attribute [local go_sem] max2_int min2_int max_two min_two max_three min_three max_four min_four   -- for this text's walks alone
set_option linter.unusedVariables false
set_option linter.unusedSimpArgs false

/-! ### workflow_Prepare: function 21 -/
attribute [local go_sem high] eqA50
mutual
def workflow_Prepare.l0 : Nat → Int → List (S52) → Int → Int → ByteArray → List (S52) → List (S48) → ByteArray → List (S52) → Option (ByteArray × (List (S52)) × (List (S48)) × Int)
 | 0, _, _, _, _, _, _, _, _, _ => none
 | k + 1, x6, b9, dE, bH, bv, bw, bf, a6, aM => if bH < dE then (if 0 ≤ bH then (if bH < (b9.length : Int) then (if bH = x6 then (if aM.length < 4398046511104 then (workflow_Prepare.l0 k x6 b9 dE (wrap64 (bH + 1)) bv bw bf a6 (aM ++ [(⟨(rd_T52 b9 bH).f0, 1, (rd_T52 b9 bH).f2⟩ : S52)])) else (none)) else (if aM.length < 4398046511104 then (workflow_Prepare.l0 k x6 b9 dE (wrap64 (bH + 1)) bv bw bf a6 (aM ++ [(⟨(rd_T52 b9 bH).f0, 0, (rd_T52 b9 bH).f2⟩ : S52)])) else (none))) else (none)) else (none)) else (workflow_Prepare.l1 k bf (bf.length : Int) 0 a6 aM ([] : List (S48)))
def workflow_Prepare.l1 : Nat → List (S48) → Int → Int → ByteArray → List (S52) → List (S48) → Option (ByteArray × (List (S52)) × (List (S48)) × Int)
 | 0, _, _, _, _, _, _ => none
 | k + 1, cf, eE, b2, a6, aM, bj => if b2 < eE then (if 0 ≤ b2 then (if b2 < (cf.length : Int) then ((workflow_arcs.f ((rd_T48 cf b2).f1)).bind fun aE => ((workflow_arcs.f ((rd_T48 cf b2).f2)).bind fun aG => (if bj.length < 1466015503701 then (workflow_Prepare.l1 k cf eE (wrap64 (b2 + 1)) a6 aM (bj ++ [(⟨(rd_T48 cf b2).f0, aE, aG, ([] : List (S55)), (rd_T48 cf b2).f4⟩ : S48)])) else (none)))) else (none)) else (none)) else (some (a6, aM, bj, 0))
end
def workflow_Prepare.f (k : Nat) (ar : ByteArray) (al : List (S52)) (af : List (S48)) : Option (ByteArray × (List (S52)) × (List (S48)) × Int) := (workflow_Problems.f k ar al af).bind fun bD => (if bD.2 = 0 then (if (bD.1.length : Int) > 0 then (some ((⟨#[]⟩ : ByteArray), ([] : List (S52)), ([] : List (S48)), 15)) else ((workflow_Source.f k ar al af).bind fun cr => (workflow_Prepare.l0 k cr.1 al (al.length : Int) 0 ar al af ar ([] : List (S52))))) else (some ((⟨#[]⟩ : ByteArray), ([] : List (S52)), ([] : List (S48)), bD.2)))
theorem workflow_Prepare.mono_l : ∀ k, M9 workflow_Prepare.l0 k ∧ M6 workflow_Prepare.l1 k
 | 0 => ⟨fun _ _ _ _ _ _ _ _ _ r h => by simp [workflow_Prepare.l0] at h, fun _ _ _ _ _ _ r h => by simp [workflow_Prepare.l1] at h⟩
 | k + 1 => by
  obtain ⟨dB, dC⟩ := workflow_Prepare.mono_l k
  refine ⟨?_, ?_⟩ <;> dsimp only [M6, M9] <;> intros <;> (first | unfold workflow_Prepare.l0 | unfold workflow_Prepare.l1) <;> repeat' first | (with_reducible first | apply dB | apply dC | apply workflow_Problems.mono | apply workflow_Source.mono | apply lr | apply ln | apply li | refine lb ?_ fun _ => ?_)
theorem workflow_Prepare.mono : ∀ a0 a1 a2 k, LeO (workflow_Prepare.f k a0 a1 a2) (workflow_Prepare.f (k + 1) a0 a1 a2) := by
 intro a0 a1 a2 k
 obtain ⟨dB, dC⟩ := workflow_Prepare.mono_l k
 unfold workflow_Prepare.f
 repeat' first | (with_reducible first | apply dB | apply dC | apply workflow_Problems.mono | apply workflow_Source.mono | apply lr | apply ln | apply li | refine lb ?_ fun _ => ?_)
def workflow_Prepare.T19 : Bool × List (List Nat × List Nat) := (true, [([], []), ([0], [0]), ([1], [1]), ([], []), ([3], [3]), ([4, 2], [4]), ([0, 1, 2, 3, 4], []), ([6, 2, 5, 0, 1, 2, 3, 4], [2, 6]), ([0, 1, 2, 3, 4, 5, 6, 7], []), ([8, 5, 7, 0, 1, 2, 3, 4, 5, 6, 7], [5, 8]), ([0, 1, 2, 3, 4, 5, 6, 7, 8, 9], []), ([10, 9, 0, 1, 2, 3, 4, 5, 6, 7, 8, 9], [10])])
def workflow_Prepare.B19 : List Nat := [0, 1, 3, 0, 8, 31, 31, 127, 255, 511, 1023, 2047]
theorem workflow_Prepare.tab19 : rtab .any (opsOf Try.f21 19) = workflow_Prepare.T19 := by kernel_rfl
theorem workflow_Prepare.bits19 : waitsOk workflow_Prepare.T19.2 workflow_Prepare.B19 = true := by kernel_rfl
attribute [local go_sem] isc
set_option maxHeartbeats 8000000 in
set_option maxRecDepth 100000 in
theorem workflow_Prepare.calls (k : Nat) (ar : ByteArray) (bx : Option Addr) (bz : Nat) (al : List (S52)) (bI : Option Addr) (bA : Nat) (af : List (S48)) (r1 : ByteArray) (r2 : List (S52)) (r3 : List (S48)) (r4 : Int) (w : World) (bZ : Kd.C k52 w bx al.length al) (bX : al.length ≤ bz) (b0 : Kd.C k48 w bI af.length af) (bY : af.length ≤ bA) (h : workflow_Prepare.f k ar al af = some (r1, r2, r3, r4)) :
  Calls Try.prog 21 #[.agg #[.string ar, .slice bx al.length bz, .slice bI af.length bA]] w fun e w' => ∃ v1_ v2_ : Value, e = .returned (.tuple #[.agg #[.string r1, v1_, v2_], .int .i64 r4]) ∧ Kd.R k52 52 w' w.heap.size (fun _ => True) v1_ r2 ∧ Kd.S k48 48 w' w.heap.size (fun _ => True) v2_ r3 ∧ Below w.heap.size w w' := by
 have eW := Try.underlying25
 have eY := Try.underlying52
 have eX := Try.underlying48
 have bh := am bZ
 have bp := am bX
 clear bZ bX
 have bm := am b0
 have bq := am bY
 clear b0 bY
 have HB := am (Below.refl w.heap.size w)
 have H := h
 unfold workflow_Prepare.f at H
 clear h
 replace H := bnd H
 obtain ⟨⟨bo, b8⟩, A2, H⟩ := H
 (try dsimp only at H)
 replace H := ife H
 rcases H with ⟨b3, b4, H⟩ | ⟨b3, b4, H⟩
 rotate_left
 ·simp only [Option.some.injEq, Prod.mk.injEq] at H
  obtain ⟨rfl, rfl, rfl, rfl⟩ := H
  go_enter Try.func21, Try.ntmps21
  go_wp2_with (first | ((with_reducible refine gate_dst (N := 1) rfl ?_); refine box_ev ?_; intro bi hg fz hbox hb; have ae := am hbox; have bk := gwl hg; have bO := bk; replace HB := bsl hb; clear hb hbox hg) | ((with_reducible refine gate_dst (N := 2) rfl ?_); refine box_ev (N := 2) (cs := #[.string (⟨#[]⟩ : ByteArray), .slice none 0 0, .slice none 0 0]) (t := 25) ?_; intro aZ hg fA hbox hb; have ah := am hbox; have bl := gwb hg; have bP := bl; have aA := nlt hg ae; have aC := ngt hg ae; replace ae := bbh ae hb; replace HB := bst hb; clear hb hbox hg; have ef := aA.1; have eD := aC.1; have fI := cf3 ae.1) | ((with_reducible refine gate_callee (f := 18) rfl ?_); refine gC 15 Try.func18 _ (workflow_Problems.calls k ar _ _ al _ _ af bo b8 _ (csb bh HB) bp.1 (csb bm HB) bq.1 A2.1) ?_; rintro e fB ⟨cB, rfl, bn, hb⟩; refine ⟨_, rfl, ?_⟩; have bc := am (Kd.R_lower bn (below_size pbg)); replace ae := bbh ae hb; replace ah := bbh ah hb; replace HB := bst hb; (try clear hb); (try clear bn); have fJ := cf3 ah.1))
  refine bodyPost_ret (results_ct rfl _ _ aZ 25 #[.string (⟨#[]⟩ : ByteArray), .slice none 0 0, .slice none 0 0] (0, 0) _ rfl (by (with_reducible repeat (first | refine blk_drewN ?_ _ | refine blk_drew ?_ | refine blk_alloc ?_ _)); exact bp3 (pbk ah.1)) Try.underlying25 rfl (by kernel_rfl)) rfl ?_
  exact ⟨_, _, per, knl, knl, pbg⟩
 by_cases c4 : (bo.length : Int) > 0
 ·rw [if_pos c4] at H
  have b5 : decide (0 < (bo.length : Int)) = true := decide_eq_true c4
  have b6 : decide (0 < bo.length) = true := decide_eq_true (by omega)
  clear c4
  simp only [Option.some.injEq, Prod.mk.injEq] at H
  obtain ⟨rfl, rfl, rfl, rfl⟩ := H
  go_enter Try.func21, Try.ntmps21
  go_wp2_with (first | ((with_reducible refine gate_dst (N := 1) rfl ?_); refine box_ev ?_; intro bi hg w5 hbox hb; have ae := am hbox; have bk := gwl hg; have bO := bk; replace HB := bsl hb; clear hb hbox hg) | ((with_reducible refine gate_dst (N := 2) rfl ?_); refine box_ev (N := 2) (cs := #[.string (⟨#[]⟩ : ByteArray), .slice none 0 0, .slice none 0 0]) (t := 25) ?_; intro aZ hg w6 hbox hb; have ah := am hbox; have bl := gwb hg; have bP := bl; have aA := nlt hg ae; have aC := ngt hg ae; replace ae := bbh ae hb; replace HB := bst hb; clear hb hbox hg; have eR := aA.1; have eS := aC.1; have z8 := cf3 ae.1) | ((with_reducible refine gate_callee (f := 18) rfl ?_); refine gC 15 Try.func18 _ (workflow_Problems.calls k ar _ _ al _ _ af bo b8 _ (csb bh HB) bp.1 (csb bm HB) bq.1 A2.1) ?_; rintro e w9 ⟨cB, rfl, bn, hb⟩; refine ⟨_, rfl, ?_⟩; have bc := am (Kd.R_lower bn (below_size pbg)); replace ae := bbh ae hb; replace ah := bbh ah hb; replace HB := bst hb; (try clear hb); (try clear bn); obtain ⟨eM, eO, du⟩ := Kd.R_slice bc.1; subst du; have eF := cf3 ah.1))
  refine bodyPost_ret (results_ct rfl _ _ aZ 25 #[.string (⟨#[]⟩ : ByteArray), .slice none 0 0, .slice none 0 0] (0, 0) _ rfl (by (with_reducible repeat (first | refine blk_drewN ?_ _ | refine blk_drew ?_ | refine blk_alloc ?_ _)); exact bp3 (pbk ah.1)) Try.underlying25 rfl (by kernel_rfl)) rfl ?_
  exact ⟨_, _, per, knl, knl, pbg⟩
 rw [if_neg c4] at H
 have b5 : decide (0 < (bo.length : Int)) = false := decide_eq_false c4
 have b6 : decide (0 < bo.length) = false := decide_eq_false (by omega)
 clear c4
 replace H := bnd H
 obtain ⟨⟨bN, dD⟩, A12, H⟩ := H
 (try dsimp only at H)
 have H' := am H
 clear H
 go_enter Try.func21, Try.ntmps21
 go_wp2_with (first | ((with_reducible refine gate_dst (N := 1) rfl ?_); refine box_ev ?_; intro bi hg fj hbox hb; have ae := am hbox; have bk := gwl hg; have bO := bk; replace HB := bsl hb; clear hb hbox hg) | ((with_reducible refine gate_dst (N := 2) rfl ?_); refine box_ev (N := 2) (cs := #[.string (⟨#[]⟩ : ByteArray), .slice none 0 0, .slice none 0 0]) (t := 25) ?_; intro aZ hg fk hbox hb; have ah := am hbox; have bl := gwb hg; have bP := bl; have aA := nlt hg ae; have aC := ngt hg ae; replace ae := bbh ae hb; replace HB := bst hb; clear hb hbox hg; have dQ := aA.1; have eg := aC.1; have eG := cf3 ae.1) | ((with_reducible refine gate_callee (f := 18) rfl ?_); refine gC 15 Try.func18 _ (workflow_Problems.calls k ar _ _ al _ _ af bo b8 _ (csb bh HB) bp.1 (csb bm HB) bq.1 A2.1) ?_; rintro e fl ⟨cB, rfl, bn, hb⟩; refine ⟨_, rfl, ?_⟩; have bc := am (Kd.R_lower bn (below_size pbg)); replace ae := bbh ae hb; replace ah := bbh ah hb; replace HB := bst hb; (try clear hb); (try clear bn); obtain ⟨eN, eP, dv⟩ := Kd.R_slice bc.1; subst dv; have eH := cf3 ae.1) | ((with_reducible refine gate_callee (f := 12) rfl ?_); refine gC 28 Try.func12 _ (workflow_Source.calls k ar _ _ al _ _ af bN dD _ (csb bh HB) bp.1 (csb bm HB) bq.1 A12.1) ?_; rintro e fm ⟨rfl, hb⟩; refine ⟨_, rfl, ?_⟩; replace bc := rbw bc hb; replace ae := bbh ae hb; replace ah := bbh ah hb; replace HB := bst hb; (try clear hb); have eI := cf3 ae.1) | ((with_reducible refine gate_dst (N := 8) rfl ?_); refine box_ev (N := 8) (cs := #[.string (⟨#[]⟩ : ByteArray), .slice none 0 0, .slice none 0 0]) (t := 25) ?_; intro bd hg fo hbox hb; have ai := am hbox; have ch := gwb hg; have dF := ch; have ap := nlt hg ae; have aJ := ngt hg ae; have aq := nlt hg ah; have aR := ngt hg ah; replace bc := rbw bc hb; replace ae := bbh ae hb; replace ah := bbh ah hb; replace HB := bst hb; clear hb hbox hg; have dR := aJ.1; have eh := ap.1; have dS := aR.1; have ei := aq.1; have z25 := cf3 ai.1; have eJ := cf3 ae.1))
 go_loopg [37] k (fun kq e9 w' => ∃ (aj : Int) (ao : List (S52)) (u225001 : Value), e9 = .int .i64 aj ∧ Aside0 (workflow_Prepare.l0 kq bN al (al.length : Int) aj ar al af ar ao = some (r1, r2, r3, r4)) ∧ Aside0 (kq ≤ k) ∧ Aside0 (Kd.R k52 52 w' w.heap.size (fun _ => True) u225001 ao) ∧ Aside0 (w'.heap[bi]? = some (.cells #[.string ar, (.slice bx al.length bz), (.slice bI af.length bA)] 25 (0, 0))) ∧ Aside0 (w'.heap[aZ]? = some (.cells #[.string (⟨#[]⟩ : ByteArray), (.slice none 0 0), (.slice none 0 0)] 25 (0, 0))) ∧ Aside0 (w'.heap[bd]? = some (.cells #[.string ar, u225001, (.slice none 0 0)] 25 (0, 0))) ∧ Aside0 (Below w.heap.size w w'))
 case atStart => exact ⟨(0), (([] : List (S52))), (.slice none 0 0), prs, H', ⟨Nat.le_refl _⟩, ⟨knl⟩, ⟨by (with_reducible repeat (first | refine blk_drewN ?_ _ | refine blk_drew ?_ | refine blk_alloc ?_ _)); refine bf3 ?_ ap.1; exact pbk ae.1⟩, ⟨by (with_reducible repeat (first | refine blk_drewN ?_ _ | refine blk_drew ?_ | refine blk_alloc ?_ _)); refine bf3 ?_ aq.1; exact pbk ah.1⟩, ⟨by (with_reducible repeat (first | refine blk_drewN ?_ _ | refine blk_drew ?_ | refine blk_alloc ?_ _)); exact bp3 (pbk ai.1)⟩, ⟨pbg⟩⟩
 clear H'
 try clear c3 b3 b4 c4 b5 b6 eF eG eH eI z25 eJ z8
 obtain ⟨aj, ao, u225001, rfl, HA, ce, ab, ae, ah, ai, HB⟩ := hrel
 obtain _ | k1 := gk
 ·exact absurd HA.1 (by simp [workflow_Prepare.l0])
 have H := HA.1
 clear HA
 simp only [workflow_Prepare.l0] at H
 replace H := ifl H
 rcases H with ⟨bU, H⟩ | ⟨bU, H⟩
 ·replace H := ifp H
  obtain ⟨dh, H⟩ := H
  have cu := decide_eq_true dh
  clear dh
  replace H := ifp H
  obtain ⟨di, H⟩ := H
  have cv := decide_eq_true di
  clear di
  replace H := ife H
  rcases H with ⟨bV, bW, H⟩ | ⟨bV, bW, H⟩
  rotate_left
  ·replace H := ifp H
   obtain ⟨dk, H⟩ := H
   have ck := am dk
   clear dk
   obtain ⟨cb, bF⟩ : ∃ y_ : List (S52), y_ = (ao ++ [(⟨(rd_T52 al aj).f0, 0, (rd_T52 al aj).f2⟩ : S52)]) := ⟨_, rfl⟩
   replace H : (workflow_Prepare.l0 k1 bN al (al.length : Int) (wrap64 (aj + 1)) ar al af ar cb) = some (r1, r2, r3, r4) := hrp bF H
   have co := am bF
   clear bF
   have H' := am H
   clear H
   obtain ⟨cz, cA, cq, b7, br, bs, bu⟩ := bT52 bh.1 HB.1 aj
   cases b7
   go_wp2_with (first | ((with_reducible refine gate_dst (N := 10) rfl ?_); refine box_ev (N := 10) (cs := #[.string (⟨#[]⟩ : ByteArray), .int .i64 0, .int .i64 0]) (t := 52) ?_; intro aU hg ft hbox hb; have a8 := am hbox; have bC := gwb hg; have cg := bC; have aN := nlt hg ae; have a9 := ngt hg ae; have aQ := nlt hg ah; have ba := ngt hg ah; have aT := nlt hg ai; have bb := ngt hg ai; replace ab := am (Kd.R_below (Kd.R_elderB (pkr ab.1) aU (Nat.le_of_eq hg.symm)) hb); replace ae := bbh ae hb; replace ah := bbh ah hb; replace ai := bbh ai hb; replace HB := bst hb; clear hb hbox hg; have dZ := a9.1; have eo := aN.1; have d0 := ba.1; have ep := aQ.1; have d1 := bb.1; have eq := aT.1; have z48 := cf3 a8.1; have d2 := aJ.1; have er := ap.1; have d3 := aR.1; have es := aq.1; have ff := cf3 ai.1) | ((with_reducible refine gate_builtin (b := .append) (xs := #[.tmp 48, .tmp 50]) rfl ?_); at_builtin; refine Kd.R_append k52 (w0 := w) w.heap.size rfl (.tmp 48) (.tmp 50) 22 52 (.agg #[(.string ⟨#[]⟩), (.int .i64 0), (.int .i64 0)]) 32 rfl Try.underlying22 info52 rfl (by decide) (by omega) u225001 ao (⟨(rd_T52 al aj).f0, 0, (rd_T52 al aj).f2⟩ : S52) [.string ((rd_T52 al aj).f0), .int .i64 0, .int .i64 ((rd_T52 al aj).f2)] (fun k_ => k_ ≠ aU) (fun _ => False) rfl (by first | (go_simp; done) | (go_simp; rfl)) ?aP (fun _ hk => hk.elim) ?aF ?aO ?aB ?aS ?aL ?_; (case aP => exact k52_mkM _ _ _ (⟨(rd_T52 al aj).f0, 0, (rd_T52 al aj).f2⟩ : S52)); (case aB => exact pbg); (case aF => exact (fun k_ hk => Kd.freshB (g := aU) (o := .cells #[.string ((rd_T52 al aj).f0), .int .i64 0, .int .i64 ((rd_T52 al aj).f2)] 52 (0, 0)) (by (with_reducible repeat (first | refine blk_drewN ?_ _ | refine blk_drew ?_ | refine blk_alloc ?_ _)); refine blk_put (cs := #[.string ((rd_T52 al aj).f0), .int .i64 ((rd_T52 al aj).f1), .int .i64 ((rd_T52 al aj).f2)]) ?_ 1 _ rfl; (with_reducible repeat (first | refine blk_drewN ?_ _ | refine blk_drew ?_ | refine blk_alloc ?_ _)); exact bp3 (pbk a8.1)) k_ hk)); (case aO => exact (by (with_reducible repeat (first | apply Kd.R_alloc | apply Kd.R_drewN | apply Kd.R_drew)); exact Kd.R_mono (fR4 aU (Kd.R_mono ab.1 (fun k_ hk => (⟨hk, hk.2⟩ : _ ∧ k_ ≠ aU))) (fun _ hk => hk.2)) (fun _ hk => hk.1.2))); (case aS => exact (below_size pbg)); (case aL => have := ck.1; omega); intro e5 fu ho hb hg hat; rw [← co.1] at ho; have bR := am ho; replace ae := (bgx ae (fun h_ => by (with_reducible repeat (first | refine blk_drewN ?_ _ | refine blk_drew ?_ | refine blk_alloc ?_ _)); refine bf4 ?_ aN.1; exact pbk h_) hg (Kd.R_ne ab.1 ae.1 (by decide))); replace ah := (bgx ah (fun h_ => by (with_reducible repeat (first | refine blk_drewN ?_ _ | refine blk_drew ?_ | refine blk_alloc ?_ _)); refine bf4 ?_ aQ.1; exact pbk h_) hg (Kd.R_ne ab.1 ah.1 (by decide))); replace ai := (bgx ai (fun h_ => by (with_reducible repeat (first | refine blk_drewN ?_ _ | refine blk_drew ?_ | refine blk_alloc ?_ _)); refine bf4 ?_ aT.1; exact pbk h_) hg (Kd.R_ne ab.1 ai.1 (by decide))); replace a8 := am (blk_grown (g := aU) (o := .cells #[.string ((rd_T52 al aj).f0), .int .i64 0, .int .i64 ((rd_T52 al aj).f2)] 52 (0, 0)) (by (with_reducible repeat (first | refine blk_drewN ?_ _ | refine blk_drew ?_ | refine blk_alloc ?_ _)); refine blk_put (cs := #[.string ((rd_T52 al aj).f0), .int .i64 ((rd_T52 al aj).f1), .int .i64 ((rd_T52 al aj).f2)]) ?_ 1 _ rfl; (with_reducible repeat (first | refine blk_drewN ?_ _ | refine blk_drew ?_ | refine blk_alloc ?_ _)); exact bp3 (pbk a8.1)) hg (Kd.R_away ab.1 (fun _ hk => hk.2))); replace HB := am hb; clear ab; clear ho hb hg hat; obtain ⟨dc, dm, dx⟩ := Kd.R_slice bR.1; subst dx; have fg := cf3 ai.1))
   go_roundg k1
   case measure => have := ce.1; omega
   case rel => exact ⟨(wrap64 (aj + 1)), (cb), (.slice dc cb.length dm), prs, H', ⟨by have := ce.1; omega⟩, ⟨by (with_reducible repeat (first | apply Kd.R_alloc | apply Kd.R_drewN | apply Kd.R_drew)); exact Kd.R_mono (Kd.R_far (p := ⟨bd, 1, none⟩) (Kd.R_types bR.1 ai.1 (by decide)) (fun _ hk => hk.2) _) (fun _ hk => trivial)⟩, ⟨by (with_reducible repeat (first | refine blk_drewN ?_ _ | refine blk_drew ?_ | refine blk_alloc ?_ _)); refine blk_far ?_ ap.1 _; exact pbk ae.1⟩, ⟨by (with_reducible repeat (first | refine blk_drewN ?_ _ | refine blk_drew ?_ | refine blk_alloc ?_ _)); refine blk_far ?_ aq.1 _; exact pbk ah.1⟩, ⟨by (with_reducible repeat (first | refine blk_drewN ?_ _ | refine blk_drew ?_ | refine blk_alloc ?_ _)); refine blk_put (cs := #[.string ar, u225001, .slice none 0 0]) ?_ 1 _ rfl; exact pbk ai.1⟩, ⟨pbg⟩⟩
  replace H := ifp H
  obtain ⟨dj, H⟩ := H
  have cj := am dj
  clear dj
  obtain ⟨ca, bE⟩ : ∃ y_ : List (S52), y_ = (ao ++ [(⟨(rd_T52 al aj).f0, 1, (rd_T52 al aj).f2⟩ : S52)]) := ⟨_, rfl⟩
  replace H : (workflow_Prepare.l0 k1 bN al (al.length : Int) (wrap64 (aj + 1)) ar al af ar ca) = some (r1, r2, r3, r4) := hrp bE H
  have cn := am bE
  clear bE
  have H' := am H
  clear H
  obtain ⟨cz, cA, cq, b7, br, bs, bu⟩ := bT52 bh.1 HB.1 aj
  cases b7
  go_wp2_with (first | ((with_reducible refine gate_dst (N := 10) rfl ?_); refine box_ev (N := 10) (cs := #[.string (⟨#[]⟩ : ByteArray), .int .i64 0, .int .i64 0]) (t := 52) ?_; intro aU hg fp hbox hb; have a8 := am hbox; have bC := gwb hg; have cg := bC; have aN := nlt hg ae; have a9 := ngt hg ae; have aQ := nlt hg ah; have ba := ngt hg ah; have aT := nlt hg ai; have bb := ngt hg ai; replace ab := am (Kd.R_below (Kd.R_elderB (pkr ab.1) aU (Nat.le_of_eq hg.symm)) hb); replace ae := bbh ae hb; replace ah := bbh ah hb; replace ai := bbh ai hb; replace HB := bst hb; clear hb hbox hg; have dU := a9.1; have ej := aN.1; have dV := ba.1; have ek := aQ.1; have dW := bb.1; have el := aT.1; have fc := cf3 a8.1; have dX := aJ.1; have em := ap.1; have dY := aR.1; have en := aq.1; have fd := cf3 ai.1) | ((with_reducible refine gate_builtin (b := .append) (xs := #[.tmp 48, .tmp 50]) rfl ?_); at_builtin; refine Kd.R_append k52 (w0 := w) w.heap.size rfl (.tmp 48) (.tmp 50) 22 52 (.agg #[(.string ⟨#[]⟩), (.int .i64 0), (.int .i64 0)]) 32 rfl Try.underlying22 info52 rfl (by decide) (by omega) u225001 ao (⟨(rd_T52 al aj).f0, 1, (rd_T52 al aj).f2⟩ : S52) [.string ((rd_T52 al aj).f0), .int .i64 1, .int .i64 ((rd_T52 al aj).f2)] (fun k_ => k_ ≠ aU) (fun _ => False) rfl (by first | (go_simp; done) | (go_simp; rfl)) ?aP (fun _ hk => hk.elim) ?aF ?aO ?aB ?aS ?aL ?_; (case aP => exact k52_mkM _ _ _ (⟨(rd_T52 al aj).f0, 1, (rd_T52 al aj).f2⟩ : S52)); (case aB => exact pbg); (case aF => exact (fun k_ hk => Kd.freshB (g := aU) (o := .cells #[.string ((rd_T52 al aj).f0), .int .i64 1, .int .i64 ((rd_T52 al aj).f2)] 52 (0, 0)) (by (with_reducible repeat (first | refine blk_drewN ?_ _ | refine blk_drew ?_ | refine blk_alloc ?_ _)); refine blk_put (cs := #[.string ((rd_T52 al aj).f0), .int .i64 0, .int .i64 ((rd_T52 al aj).f2)]) ?_ 1 _ rfl; (with_reducible repeat (first | refine blk_drewN ?_ _ | refine blk_drew ?_ | refine blk_alloc ?_ _)); refine blk_put (cs := #[.string ((rd_T52 al aj).f0), .int .i64 ((rd_T52 al aj).f1), .int .i64 ((rd_T52 al aj).f2)]) ?_ 1 _ rfl; (with_reducible repeat (first | refine blk_drewN ?_ _ | refine blk_drew ?_ | refine blk_alloc ?_ _)); exact bp3 (pbk a8.1)) k_ hk)); (case aO => exact (by (with_reducible repeat (first | apply Kd.R_alloc | apply Kd.R_drewN | apply Kd.R_drew)); exact Kd.R_mono (fR5 aU (Kd.R_mono ab.1 (fun k_ hk => (⟨hk, hk.2⟩ : _ ∧ k_ ≠ aU))) (fun _ hk => hk.2)) (fun _ hk => hk.1.2))); (case aS => exact (below_size pbg)); (case aL => have := cj.1; omega); intro e4 fq ho hb hg hat; rw [← cn.1] at ho; have bQ := am ho; replace ae := (bgx ae (fun h_ => by (with_reducible repeat (first | refine blk_drewN ?_ _ | refine blk_drew ?_ | refine blk_alloc ?_ _)); refine bf5 ?_ aN.1; exact pbk h_) hg (Kd.R_ne ab.1 ae.1 (by decide))); replace ah := (bgx ah (fun h_ => by (with_reducible repeat (first | refine blk_drewN ?_ _ | refine blk_drew ?_ | refine blk_alloc ?_ _)); refine bf5 ?_ aQ.1; exact pbk h_) hg (Kd.R_ne ab.1 ah.1 (by decide))); replace ai := (bgx ai (fun h_ => by (with_reducible repeat (first | refine blk_drewN ?_ _ | refine blk_drew ?_ | refine blk_alloc ?_ _)); refine bf5 ?_ aT.1; exact pbk h_) hg (Kd.R_ne ab.1 ai.1 (by decide))); replace a8 := am (blk_grown (g := aU) (o := .cells #[.string ((rd_T52 al aj).f0), .int .i64 1, .int .i64 ((rd_T52 al aj).f2)] 52 (0, 0)) (by (with_reducible repeat (first | refine blk_drewN ?_ _ | refine blk_drew ?_ | refine blk_alloc ?_ _)); refine blk_put (cs := #[.string ((rd_T52 al aj).f0), .int .i64 0, .int .i64 ((rd_T52 al aj).f2)]) ?_ 1 _ rfl; (with_reducible repeat (first | refine blk_drewN ?_ _ | refine blk_drew ?_ | refine blk_alloc ?_ _)); refine blk_put (cs := #[.string ((rd_T52 al aj).f0), .int .i64 ((rd_T52 al aj).f1), .int .i64 ((rd_T52 al aj).f2)]) ?_ 1 _ rfl; (with_reducible repeat (first | refine blk_drewN ?_ _ | refine blk_drew ?_ | refine blk_alloc ?_ _)); exact bp3 (pbk a8.1)) hg (Kd.R_away ab.1 (fun _ hk => hk.2))); replace HB := am hb; clear ab; clear ho hb hg hat; obtain ⟨db, dl, dw⟩ := Kd.R_slice bQ.1; subst dw; have fe := cf3 ai.1))
  go_roundg k1
  case measure => have := ce.1; omega
  case rel => exact ⟨(wrap64 (aj + 1)), (ca), (.slice db ca.length dl), prs, H', ⟨by have := ce.1; omega⟩, ⟨by (with_reducible repeat (first | apply Kd.R_alloc | apply Kd.R_drewN | apply Kd.R_drew)); exact Kd.R_mono (Kd.R_far (p := ⟨bd, 1, none⟩) (Kd.R_types bQ.1 ai.1 (by decide)) (fun _ hk => hk.2) _) (fun _ hk => trivial)⟩, ⟨by (with_reducible repeat (first | refine blk_drewN ?_ _ | refine blk_drew ?_ | refine blk_alloc ?_ _)); refine blk_far ?_ ap.1 _; exact pbk ae.1⟩, ⟨by (with_reducible repeat (first | refine blk_drewN ?_ _ | refine blk_drew ?_ | refine blk_alloc ?_ _)); refine blk_far ?_ aq.1 _; exact pbk ah.1⟩, ⟨by (with_reducible repeat (first | refine blk_drewN ?_ _ | refine blk_drew ?_ | refine blk_alloc ?_ _)); refine blk_put (cs := #[.string ar, u225001, .slice none 0 0]) ?_ 1 _ rfl; exact pbk ai.1⟩, ⟨pbg⟩⟩
 have H' := am H
 clear H
 have d4 := aA.1
 have et := aC.1
 have d5 := ap.1
 have eu := aJ.1
 have fh := cf3 ae.1
 go_wp2
 go_loopg [57] k1 (fun kq fa w' => ∃ (ac : Int) (au : List (S48)) (u225002 : Value), fa = .int .i64 ac ∧ Aside0 (workflow_Prepare.l1 kq af (af.length : Int) ac ar ao au = some (r1, r2, r3, r4)) ∧ Aside0 (kq ≤ k1) ∧ Aside0 (Kd.R k52 52 w' w.heap.size (fun _ => True) u225001 ao) ∧ Aside0 (Kd.S k48 48 w' w.heap.size (fun _ => True) u225002 au) ∧ Aside0 (w'.heap[bi]? = some (.cells #[.string ar, (.slice bx al.length bz), (.slice bI af.length bA)] 25 (0, 0))) ∧ Aside0 (w'.heap[aZ]? = some (.cells #[.string (⟨#[]⟩ : ByteArray), (.slice none 0 0), (.slice none 0 0)] 25 (0, 0))) ∧ Aside0 (w'.heap[bd]? = some (.cells #[.string ar, u225001, u225002] 25 (0, 0))) ∧ Aside0 (Below w.heap.size w w'))
 case atStart => exact ⟨(0), (([] : List (S48))), (.slice none 0 0), prs, H', ⟨Nat.le_refl _⟩, ⟨pkr ab.1⟩, ⟨knl⟩, ⟨pbk ae.1⟩, ⟨pbk ah.1⟩, ⟨pbk ai.1⟩, ⟨pbg⟩⟩
 clear H'
 try clear c3 b3 b4 c4 b5 b6 bU dh cu di cv fi bV bW dj dk eF eG eH eI z25 eJ fc fd fe z48 ff fg fh z8 br bs bu cz cA
 obtain ⟨ac, au, u225002, rfl, HA, dH, ab, ag, ae, ah, ai, HB⟩ := hrel
 obtain _ | k2 := gk
 ·exact absurd HA.1 (by simp [workflow_Prepare.l1])
 have H := HA.1
 clear HA
 simp only [workflow_Prepare.l1] at H
 replace H := ifl H
 rcases H with ⟨cw, H⟩ | ⟨cw, H⟩
 rotate_left
 ·simp only [Option.some.injEq, Prod.mk.injEq] at H
  obtain ⟨rfl, rfl, rfl, rfl⟩ := H
  have ec := aJ.1
  have eA := ap.1
  have ed := aR.1
  have eB := aq.1
  have fG := cf3 ai.1
  have ee := aC.1
  have eC := aA.1
  have fH := cf3 ah.1
  obtain ⟨df, dp, dz⟩ := Kd.R_slice ab.1
  subst dz
  obtain ⟨dg, dr, dA⟩ := Kd.S_slice ag.1
  subst dA
  go_wp2
  refine bodyPost_ret (results_ct rfl _ _ aZ 25 #[.string ar, .slice df ao.length dp, .slice dg au.length dr] (0, 0) _ rfl (by (with_reducible repeat (first | refine blk_drewN ?_ _ | refine blk_drew ?_ | refine blk_alloc ?_ _)); exact bp3 (pbk ah.1)) Try.underlying25 rfl (by kernel_rfl)) rfl ?_
  exact ⟨_, _, per, by (with_reducible repeat (first | apply Kd.R_alloc | apply Kd.R_drewN | apply Kd.R_drew)); exact Kd.R_mono (fR3 aZ (Kd.R_types ab.1 ah.1 (by decide)) (fun _ hk => hk.2)) (fun _ hk => trivial), by (with_reducible repeat (first | apply Kd.S_alloc | apply Kd.S_drewN | apply Kd.S_drew)); exact Kd.S_mono (fS3 aZ (Kd.S_types ag.1 ah.1 (by decide)) (fun _ hk => hk.2)) (fun _ hk => trivial), pbg⟩
 replace H := ifp H
 obtain ⟨dI, H⟩ := H
 have dJ := decide_eq_true dI
 clear dI
 replace H := ifp H
 obtain ⟨dK, H⟩ := H
 have dL := decide_eq_true dK
 clear dK
 replace H := bnd H
 obtain ⟨aE, eK, H⟩ := H
 (try dsimp only at H)
 replace H := bnd H
 obtain ⟨aG, eL, H⟩ := H
 (try dsimp only at H)
 replace H := ifp H
 obtain ⟨dM, H⟩ := H
 have cm := am dM
 clear dM
 obtain ⟨cd, bG⟩ : ∃ y_ : List (S48), y_ = (au ++ [(⟨(rd_T48 af ac).f0, aE, aG, ([] : List (S55)), (rd_T48 af ac).f4⟩ : S48)]) := ⟨_, rfl⟩
 replace H : (workflow_Prepare.l1 k2 af (af.length : Int) (wrap64 (ac + 1)) ar ao cd) = some (r1, r2, r3, r4) := hrp bG H
 have cp := am bG
 clear bG
 have H' := am H
 clear H
 obtain ⟨eZ, e0, bT, az, aD, av, ax, aw, ay, dt, cW, cX, cY, cZ, da, bJ, bL, bK, bM, cC, cD⟩ := bT48 bm.1 HB.1 ac
 cases dt
 try go_wp2_with (first | ((with_reducible refine gate_dst (N := 12) rfl ?_); refine box_ev (N := 12) (cs := #[.string (⟨#[]⟩ : ByteArray), .slice none 0 0, .slice none 0 0, .slice none 0 0, .int .i64 0]) (t := 48) ?_; intro aa hg b1 hbox hb; have ak := am hbox; have ci := gwb hg; have dG := ci; have aH := nlt hg ae; have a3 := ngt hg ae; have aI := nlt hg ah; have a4 := ngt hg ah; have aK := nlt hg ai; have a5 := ngt hg ai; replace ab := rbw ab hb; replace ag := am (Kd.S_below (Kd.S_elderB (pks ag.1) aa (Nat.le_of_eq hg.symm)) hb); replace ae := bbh ae hb; replace ah := bbh ah hb; replace ai := bbh ai hb; replace HB := bst hb; clear hb hbox hg; have d6 := a3.1; have ev := aH.1; have d7 := a4.1; have ew := aI.1; have d8 := a5.1; have ex := aK.1; have fC := cf5 ak.1))
 have n0_ : Aside0 (Kd.R k52 52 (((((b1.setCell ⟨aa, 0, none⟩ (.string ((rd_T48 af ac).f0))).setCell ⟨aa, 1, none⟩ (.slice az ((rd_T48 af ac).f1).length aD)).setCell ⟨aa, 2, none⟩ (.slice av ((rd_T48 af ac).f2).length ax)).setCell ⟨aa, 3, none⟩ (.slice aw ((rd_T48 af ac).f3).length ay)).setCell ⟨aa, 4, none⟩ (.int .i64 ((rd_T48 af ac).f4))) w.heap.size (fun _ => True) u225001 ao) := ⟨by (with_reducible repeat (first | apply Kd.R_alloc | apply Kd.R_drewN | apply Kd.R_drew)); exact Kd.R_mono (fR5 aa (Kd.R_types ab.1 ak.1 (by decide)) (fun _ hk => hk.2)) (fun _ hk => trivial)⟩
 have n1_ : Aside0 (Kd.S k48 48 (((((b1.setCell ⟨aa, 0, none⟩ (.string ((rd_T48 af ac).f0))).setCell ⟨aa, 1, none⟩ (.slice az ((rd_T48 af ac).f1).length aD)).setCell ⟨aa, 2, none⟩ (.slice av ((rd_T48 af ac).f2).length ax)).setCell ⟨aa, 3, none⟩ (.slice aw ((rd_T48 af ac).f3).length ay)).setCell ⟨aa, 4, none⟩ (.int .i64 ((rd_T48 af ac).f4))) w.heap.size (fun k_ => k_ ≠ aa) u225002 au) := ⟨by (with_reducible repeat (first | apply Kd.S_alloc | apply Kd.S_drewN | apply Kd.S_drew)); exact Kd.S_mono (fS5 aa (Kd.S_mono ag.1 (fun k_ hk => (⟨hk, hk.2⟩ : _ ∧ k_ ≠ aa))) (fun _ hk => hk.2)) (fun _ hk => hk.1.2)⟩
 have n2_ : Aside0 ((((((b1.setCell ⟨aa, 0, none⟩ (.string ((rd_T48 af ac).f0))).setCell ⟨aa, 1, none⟩ (.slice az ((rd_T48 af ac).f1).length aD)).setCell ⟨aa, 2, none⟩ (.slice av ((rd_T48 af ac).f2).length ax)).setCell ⟨aa, 3, none⟩ (.slice aw ((rd_T48 af ac).f3).length ay)).setCell ⟨aa, 4, none⟩ (.int .i64 ((rd_T48 af ac).f4))).heap[bi]? = some (.cells #[.string ar, .slice bx al.length bz, .slice (some bT) af.length bA] 25 (0, 0))) := ⟨by (with_reducible repeat (first | refine blk_drewN ?_ _ | refine blk_drew ?_ | refine blk_alloc ?_ _)); refine bf5 ?_ aH.1; exact pbk ae.1⟩
 have n3_ : Aside0 ((((((b1.setCell ⟨aa, 0, none⟩ (.string ((rd_T48 af ac).f0))).setCell ⟨aa, 1, none⟩ (.slice az ((rd_T48 af ac).f1).length aD)).setCell ⟨aa, 2, none⟩ (.slice av ((rd_T48 af ac).f2).length ax)).setCell ⟨aa, 3, none⟩ (.slice aw ((rd_T48 af ac).f3).length ay)).setCell ⟨aa, 4, none⟩ (.int .i64 ((rd_T48 af ac).f4))).heap[aZ]? = some (.cells #[.string (⟨#[]⟩ : ByteArray), .slice none 0 0, .slice none 0 0] 25 (0, 0))) := ⟨by (with_reducible repeat (first | refine blk_drewN ?_ _ | refine blk_drew ?_ | refine blk_alloc ?_ _)); refine bf5 ?_ aI.1; exact pbk ah.1⟩
 have n4_ : Aside0 ((((((b1.setCell ⟨aa, 0, none⟩ (.string ((rd_T48 af ac).f0))).setCell ⟨aa, 1, none⟩ (.slice az ((rd_T48 af ac).f1).length aD)).setCell ⟨aa, 2, none⟩ (.slice av ((rd_T48 af ac).f2).length ax)).setCell ⟨aa, 3, none⟩ (.slice aw ((rd_T48 af ac).f3).length ay)).setCell ⟨aa, 4, none⟩ (.int .i64 ((rd_T48 af ac).f4))).heap[bd]? = some (.cells #[.string ar, u225001, u225002] 25 (0, 0))) := ⟨by (with_reducible repeat (first | refine blk_drewN ?_ _ | refine blk_drew ?_ | refine blk_alloc ?_ _)); refine bf5 ?_ aK.1; exact pbk ai.1⟩
 have n5_ : Aside0 ((((((b1.setCell ⟨aa, 0, none⟩ (.string ((rd_T48 af ac).f0))).setCell ⟨aa, 1, none⟩ (.slice az ((rd_T48 af ac).f1).length aD)).setCell ⟨aa, 2, none⟩ (.slice av ((rd_T48 af ac).f2).length ax)).setCell ⟨aa, 3, none⟩ (.slice aw ((rd_T48 af ac).f3).length ay)).setCell ⟨aa, 4, none⟩ (.int .i64 ((rd_T48 af ac).f4))).heap[aa]? = some (.cells #[.string ((rd_T48 af ac).f0), .slice az ((rd_T48 af ac).f1).length aD, .slice av ((rd_T48 af ac).f2).length ax, .slice aw ((rd_T48 af ac).f3).length ay, .int .i64 ((rd_T48 af ac).f4)] 48 (0, 0))) := ⟨by (with_reducible repeat (first | refine blk_drewN ?_ _ | refine blk_drew ?_ | refine blk_alloc ?_ _)); exact bp5 (pbk ak.1)⟩
 have n6_ : Aside0 (Below w.heap.size w (((((b1.setCell ⟨aa, 0, none⟩ (.string ((rd_T48 af ac).f0))).setCell ⟨aa, 1, none⟩ (.slice az ((rd_T48 af ac).f1).length aD)).setCell ⟨aa, 2, none⟩ (.slice av ((rd_T48 af ac).f2).length ax)).setCell ⟨aa, 3, none⟩ (.slice aw ((rd_T48 af ac).f3).length ay)).setCell ⟨aa, 4, none⟩ (.int .i64 ((rd_T48 af ac).f4)))) := ⟨pbg⟩
 (try clear ab)
 (try clear ag)
 (try clear ae)
 (try clear ah)
 (try clear ai)
 (try clear ak)
 (try clear HB)
 generalize (((((b1.setCell ⟨aa, 0, none⟩ (.string ((rd_T48 af ac).f0))).setCell ⟨aa, 1, none⟩ (.slice az ((rd_T48 af ac).f1).length aD)).setCell ⟨aa, 2, none⟩ (.slice av ((rd_T48 af ac).f2).length ax)).setCell ⟨aa, 3, none⟩ (.slice aw ((rd_T48 af ac).f3).length ay)).setCell ⟨aa, 4, none⟩ (.int .i64 ((rd_T48 af ac).f4))) = fb at n0_ n1_ n2_ n3_ n4_ n5_ n6_ ⊢
 have ab := n0_
 have ag := n1_
 have ae := n2_
 have ah := n3_
 have ai := n4_
 have ak := n5_
 have HB := n6_
 clear n0_ n1_ n2_ n3_ n4_ n5_ n6_
 replace ab := am (Kd.R_drew ab.1)
 replace ag := am (Kd.S_drew ag.1)
 replace ae := am (blk_drew ae.1)
 replace ah := am (blk_drew ah.1)
 replace ai := am (blk_drew ai.1)
 replace ak := am (blk_drew ak.1)
 replace HB := am (below_drew1 HB.1)
 refine start_ (n := 12) (S := fun w' => w'.cell? ⟨aa, 0, none⟩ = some (.string ((rd_T48 af ac).f0)) ∧ w'.cell? ⟨aa, 1, none⟩ = some (.slice az ((rd_T48 af ac).f1).length aD) ∧ w'.cell? ⟨aa, 2, none⟩ = some (.slice av ((rd_T48 af ac).f2).length ax) ∧ w'.cell? ⟨aa, 3, none⟩ = some (.slice aw ((rd_T48 af ac).f3).length ay) ∧ w'.cell? ⟨aa, 4, none⟩ = some (.int .i64 ((rd_T48 af ac).f4))) (ds := [7, 9, 11]) #[false, false, false, false, false, false, false, false, false, false, false, false] (by kernel_rfl) rfl rfl ⟨(blk_cell ak.1 0).trans rfl, (blk_cell ak.1 1).trans rfl, (blk_cell ak.1 2).trans rfl, (blk_cell ak.1 3).trans rfl, (blk_cell ak.1 4).trans rfl⟩ (fun hHeld => ?_); refine with_tabW workflow_Prepare.tab19 workflow_Prepare.bits19 (fun HT_ HW_ => ?_)
 generalize fb.drew = fv at ab ag ae ah ai ak HB hHeld ⊢
 refine pu HT_.1 0 61 ?_
 refine pu HT_.1 3 64 ?_
 refine tk HT_.1 HW_.1 hHeld 1 62 ?_
 refine tk HT_.1 HW_.1 hHeld 4 65 ?_
 refine on HT_.1 2 (some 63) rfl fun K hK => ?_
 refine goes_ Try.func44 (by kernel_rfl) rfl #[.slice az ((rd_T48 af ac).f1).length aD] (by rfl) rfl rfl pgz ?_
 with_reducible refine (workflow_arcs.calls _ _ ((rd_T48 af ac).f1) aE _ ?side1 ?side2 eK.1).mono ?_
 (case side1 => exact csb bL HB)
 (case side2 => exact bJ.1)
 rintro e fw ⟨e6, rfl, bn, hb⟩
 refine ⟨_, rfl, ?_⟩
 have a7 := am (Kd.R_lower bn (below_size pbg))
 replace ab := rbw ab hb
 replace ag := am (Kd.S_elder' (pks ag.1) (Kd.R_base bn) hb)
 replace ae := bbh ae hb
 replace ah := bbh ah hb
 replace ai := bbh ai hb
 replace ak := bbh ak hb
 replace HB := bst hb
 (try clear hb)
 (try clear eQ)
 (try clear hk)
 (try clear hi)
 (try clear bn)
 refine hK.out _ _ ⟨(blk_cell ak.1 0).trans rfl, (blk_cell ak.1 1).trans rfl, (blk_cell ak.1 2).trans rfl, (blk_cell ak.1 3).trans rfl, (blk_cell ak.1 4).trans rfl⟩ (fun hHeld => ?_)
 clear hK K
 refine nm_ 63 ?_
 refine pu HT_.1 6 67 ?_
 refine on HT_.1 5 (some 66) rfl fun K hK => ?_
 refine goes_ Try.func44 (by kernel_rfl) rfl #[.slice av ((rd_T48 af ac).f2).length ax] (by rfl) rfl rfl pgz ?_
 with_reducible refine (workflow_arcs.calls _ _ ((rd_T48 af ac).f2) aG _ ?side1 ?side2 eL.1).mono ?_
 (case side1 => exact csb bM HB)
 (case side2 => exact bK.1)
 rintro e bB ⟨e7, rfl, bn, hb⟩
 refine ⟨_, rfl, ?_⟩
 have bg := am (Kd.R_lower (Kd.R_new' bn (Kd.R_lt (pkr a7.1))) (below_size pbg))
 replace ab := rbw ab hb
 replace ag := am (Kd.S_elder' (pks ag.1) (Kd.R_base bn) hb)
 replace a7 := am (Kd.R_elder' (pkr a7.1) (Kd.R_base bn) hb)
 replace ae := bbh ae hb
 replace ah := bbh ah hb
 replace ai := bbh ai hb
 replace ak := bbh ak hb
 replace HB := bst hb
 (try clear hb)
 (try clear eQ)
 (try clear hk)
 (try clear hi)
 (try clear bn)
 obtain ⟨aV, aW, cx⟩ := Kd.R_slice a7.1
 (first | subst cx | (injection cx with f1_ f2_ f3_; have f4_ := f1_.symm; have f5_ := f3_.symm; clear f1_ f2_ f3_; subst f4_; subst f5_))
 obtain ⟨aX, aY, cy⟩ := Kd.R_slice bg.1
 (first | subst cy | (injection cy with f1_ f2_ f3_; have f4_ := f1_.symm; have f5_ := f3_.symm; clear f1_ f2_ f3_; subst f4_; subst f5_))
 refine hK.out _ _ ⟨(blk_cell ak.1 0).trans rfl, (blk_cell ak.1 1).trans rfl, (blk_cell ak.1 2).trans rfl, (blk_cell ak.1 3).trans rfl, (blk_cell ak.1 4).trans rfl⟩ (fun hHeld => ?_)
 clear hK K
 refine nm_ 66 ?_
 refine la HT_.1 7 none rfl fun K hK => ?_
 have eT : bB.cell? ⟨aa, 1, none⟩ = some (.slice az ((rd_T48 af ac).f1).length aD) := (blk_cell ak.1 1).trans rfl
 have dN := blk_frozen ak.1 1
 have cN := aH.1
 have cO := aI.1
 have cP := aK.1
 have cE := a3.1
 have cF := a4.1
 have cG := a5.1
 refine skip_ (w1 := ?_) (by rfl) rfl ?_ ?_
 rotate_left
 ·go_simp
  rfl
 refine hK.out _ _ ?_
 clear hK K
 refine pu HT_.1 8 68 ?_
 refine la HT_.1 9 none rfl fun K hK => ?_
 have eU : bB.cell? ⟨aa, 2, none⟩ = some (.slice av ((rd_T48 af ac).f2).length ax) := (blk_cell ak.1 2).trans rfl
 have dO := blk_frozen ak.1 2
 have cQ := aH.1
 have cR := aI.1
 have cS := aK.1
 have cH := a3.1
 have cI := a4.1
 have cJ := a5.1
 refine skip_ (w1 := ?_) (by rfl) rfl ?_ ?_
 rotate_left
 ·go_simp
  rfl
 refine hK.out _ _ ?_
 clear hK K
 refine pu HT_.1 10 69 ?_
 refine la HT_.1 11 none rfl fun K hK => ?_
 have eV : bB.cell? ⟨aa, 3, none⟩ = some (.slice aw ((rd_T48 af ac).f3).length ay) := (blk_cell ak.1 3).trans rfl
 have dP := blk_frozen ak.1 3
 have cT := aH.1
 have cU := aI.1
 have cV := aK.1
 have cK := a3.1
 have cL := a4.1
 have cM := a5.1
 refine skip_ (w1 := ?_) (by rfl) rfl ?_ ?_
 rotate_left
 ·go_simp
  rfl
 refine hK.out _ _ ?_
 clear hK K
 refine done_ (done_of HT_.1 (by kernel_rfl)) ?_
 have n0_ : Aside0 (Kd.R k52 52 (((bB.setCell ⟨aa, 1, none⟩ (.slice aV aE.length aW)).setCell ⟨aa, 2, none⟩ (.slice aX aG.length aY)).setCell ⟨aa, 3, none⟩ (.slice none 0 0)) w.heap.size (fun _ => True) u225001 ao) := ⟨by (with_reducible repeat (first | apply Kd.R_alloc | apply Kd.R_drewN | apply Kd.R_drew)); exact Kd.R_mono (fR3 aa (Kd.R_types ab.1 ak.1 (by decide)) (fun _ hk => hk.2)) (fun _ hk => trivial)⟩
 have n1_ : Aside0 (Kd.S k48 48 (((bB.setCell ⟨aa, 1, none⟩ (.slice aV aE.length aW)).setCell ⟨aa, 2, none⟩ (.slice aX aG.length aY)).setCell ⟨aa, 3, none⟩ (.slice none 0 0)) w.heap.size (fun k_ => some k_ ≠ (.slice aV aE.length aW : Value).ownBlock ∧ some k_ ≠ (.slice aX aG.length aY : Value).ownBlock ∧ k_ ≠ aa) u225002 au) := ⟨by (with_reducible repeat (first | apply Kd.S_alloc | apply Kd.S_drewN | apply Kd.S_drew)); exact Kd.S_mono (fS3 aa (Kd.S_mono ag.1 (fun k_ hk => (⟨hk, hk.1.1⟩ : _ ∧ k_ ≠ aa))) (fun _ hk => hk.2)) (fun _ hk => ⟨hk.1.1.2, ⟨hk.1.2, hk.1.1.1⟩⟩)⟩
 have n2_ : Aside0 (Kd.R k55 55 (((bB.setCell ⟨aa, 1, none⟩ (.slice aV aE.length aW)).setCell ⟨aa, 2, none⟩ (.slice aX aG.length aY)).setCell ⟨aa, 3, none⟩ (.slice none 0 0)) w.heap.size (fun k_ => some k_ ≠ (.slice aX aG.length aY : Value).ownBlock) (.slice aV aE.length aW) aE) := ⟨by (with_reducible repeat (first | apply Kd.R_alloc | apply Kd.R_drewN | apply Kd.R_drew)); exact Kd.R_mono (fR3 aa (Kd.R_types a7.1 ak.1 (by decide)) (fun _ hk => hk.2)) (fun _ hk => hk.1.2)⟩
 have n3_ : Aside0 (Kd.R k55 55 (((bB.setCell ⟨aa, 1, none⟩ (.slice aV aE.length aW)).setCell ⟨aa, 2, none⟩ (.slice aX aG.length aY)).setCell ⟨aa, 3, none⟩ (.slice none 0 0)) w.heap.size (fun k_ => some k_ ≠ (.slice aV aE.length aW : Value).ownBlock) (.slice aX aG.length aY) aG) := ⟨by (with_reducible repeat (first | apply Kd.R_alloc | apply Kd.R_drewN | apply Kd.R_drew)); exact Kd.R_mono (fR3 aa (Kd.R_types bg.1 ak.1 (by decide)) (fun _ hk => hk.2)) (fun _ hk => hk.1.2)⟩
 have n4_ : Aside0 ((((bB.setCell ⟨aa, 1, none⟩ (.slice aV aE.length aW)).setCell ⟨aa, 2, none⟩ (.slice aX aG.length aY)).setCell ⟨aa, 3, none⟩ (.slice none 0 0)).heap[bi]? = some (.cells #[.string ar, .slice bx al.length bz, .slice (some bT) af.length bA] 25 (0, 0))) := ⟨by (with_reducible repeat (first | refine blk_drewN ?_ _ | refine blk_drew ?_ | refine blk_alloc ?_ _)); refine bf3 ?_ aH.1; exact pbk ae.1⟩
 have n5_ : Aside0 ((((bB.setCell ⟨aa, 1, none⟩ (.slice aV aE.length aW)).setCell ⟨aa, 2, none⟩ (.slice aX aG.length aY)).setCell ⟨aa, 3, none⟩ (.slice none 0 0)).heap[aZ]? = some (.cells #[.string (⟨#[]⟩ : ByteArray), .slice none 0 0, .slice none 0 0] 25 (0, 0))) := ⟨by (with_reducible repeat (first | refine blk_drewN ?_ _ | refine blk_drew ?_ | refine blk_alloc ?_ _)); refine bf3 ?_ aI.1; exact pbk ah.1⟩
 have n6_ : Aside0 ((((bB.setCell ⟨aa, 1, none⟩ (.slice aV aE.length aW)).setCell ⟨aa, 2, none⟩ (.slice aX aG.length aY)).setCell ⟨aa, 3, none⟩ (.slice none 0 0)).heap[bd]? = some (.cells #[.string ar, u225001, u225002] 25 (0, 0))) := ⟨by (with_reducible repeat (first | refine blk_drewN ?_ _ | refine blk_drew ?_ | refine blk_alloc ?_ _)); refine bf3 ?_ aK.1; exact pbk ai.1⟩
 have n7_ : Aside0 ((((bB.setCell ⟨aa, 1, none⟩ (.slice aV aE.length aW)).setCell ⟨aa, 2, none⟩ (.slice aX aG.length aY)).setCell ⟨aa, 3, none⟩ (.slice none 0 0)).heap[aa]? = some (.cells #[.string ((rd_T48 af ac).f0), .slice aV aE.length aW, .slice aX aG.length aY, .slice none 0 0, .int .i64 ((rd_T48 af ac).f4)] 48 (0, 0))) := ⟨by (with_reducible repeat (first | refine blk_drewN ?_ _ | refine blk_drew ?_ | refine blk_alloc ?_ _)); refine blk_put (cs := #[.string ((rd_T48 af ac).f0), .slice aV aE.length aW, .slice aX aG.length aY, .slice aw ((rd_T48 af ac).f3).length ay, .int .i64 ((rd_T48 af ac).f4)]) ?_ 3 _ rfl; (with_reducible repeat (first | refine blk_drewN ?_ _ | refine blk_drew ?_ | refine blk_alloc ?_ _)); refine blk_put (cs := #[.string ((rd_T48 af ac).f0), .slice aV aE.length aW, .slice av ((rd_T48 af ac).f2).length ax, .slice aw ((rd_T48 af ac).f3).length ay, .int .i64 ((rd_T48 af ac).f4)]) ?_ 2 _ rfl; (with_reducible repeat (first | refine blk_drewN ?_ _ | refine blk_drew ?_ | refine blk_alloc ?_ _)); refine blk_put (cs := #[.string ((rd_T48 af ac).f0), .slice az ((rd_T48 af ac).f1).length aD, .slice av ((rd_T48 af ac).f2).length ax, .slice aw ((rd_T48 af ac).f3).length ay, .int .i64 ((rd_T48 af ac).f4)]) ?_ 1 _ rfl; exact pbk ak.1⟩
 have n8_ : Aside0 (Below w.heap.size w (((bB.setCell ⟨aa, 1, none⟩ (.slice aV aE.length aW)).setCell ⟨aa, 2, none⟩ (.slice aX aG.length aY)).setCell ⟨aa, 3, none⟩ (.slice none 0 0))) := ⟨pbg⟩
 (try clear ab)
 (try clear ag)
 (try clear a7)
 (try clear bg)
 (try clear ae)
 (try clear ah)
 (try clear ai)
 (try clear ak)
 (try clear HB)
 generalize (((bB.setCell ⟨aa, 1, none⟩ (.slice aV aE.length aW)).setCell ⟨aa, 2, none⟩ (.slice aX aG.length aY)).setCell ⟨aa, 3, none⟩ (.slice none 0 0)) = fx at n0_ n1_ n2_ n3_ n4_ n5_ n6_ n7_ n8_ ⊢
 have ab := n0_
 have ag := n1_
 have a7 := n2_
 have bg := n3_
 have ae := n4_
 have ah := n5_
 have ai := n6_
 have ak := n7_
 have HB := n8_
 clear n0_ n1_ n2_ n3_ n4_ n5_ n6_ n7_ n8_
 have d9 := aJ.1
 have ey := ap.1
 have ea := aR.1
 have ez := aq.1
 have fD := cf3 ai.1
 have fE := cf5 ak.1
 try go_wp2_with (first | ((with_reducible refine gate_builtin (b := .append) (xs := #[.tmp 71, .tmp 73]) rfl ?_); at_builtin; refine Kd.S_append k48 (w0 := w) w.heap.size rfl (.tmp 71) (.tmp 73) 23 48 (.agg #[(.string ⟨#[]⟩), (.slice none 0 0), (.slice none 0 0), (.slice none 0 0), (.int .i64 0)]) 96 rfl Try.underlying23 info48 rfl (by decide) (by omega) u225002 au (⟨(rd_T48 af ac).f0, aE, aG, ([] : List (S55)), (rd_T48 af ac).f4⟩ : S48) [.string ((rd_T48 af ac).f0), .slice aV aE.length aW, .slice aX aG.length aY, .slice none 0 0, .int .i64 ((rd_T48 af ac).f4)] (fun k_ => k_ ≠ aa) (fun k_ => some k_ = (.slice aV aE.length aW : Value).ownBlock ∨ some k_ = (.slice aX aG.length aY : Value).ownBlock) rfl rfl ?aP (fun k_ hk_ => hk_.elim (fun h_ => ((Kd.R_mono (ok' := fun k_ => ((fun k_ => k_ ≠ aa)) k_ ∧ some k_ ≠ (u225002 : Value).ownBlock) (Kd.R_types (Kd.R_apart' (a7.1) (Kd.S_typed ag.1) (by decide)) ak.1 (by decide)) (fun k_ hk => ⟨hk.2, hk.1.2⟩))).1 k_ h_.symm) (fun h_ => ((Kd.R_mono (ok' := fun k_ => ((fun k_ => k_ ≠ aa)) k_ ∧ some k_ ≠ (u225002 : Value).ownBlock) (Kd.R_types (Kd.R_apart' (bg.1) (Kd.S_typed ag.1) (by decide)) ak.1 (by decide)) (fun k_ hk => ⟨hk.2, hk.1.2⟩))).1 k_ h_.symm)) ?aF ?aO ?aB ?aS ?aL ?_; (case aP => exact k48_mkM _ _ _ (⟨(rd_T48 af ac).f0, aE, aG, ([] : List (S55)), (rd_T48 af ac).f4⟩ : S48) (Kd.R_mono (Kd.R_tight rfl (Kd.R_mono (ok' := fun k_ => ((fun k_ => k_ ≠ aa)) k_ ∧ some k_ ≠ (u225002 : Value).ownBlock) (Kd.R_types (Kd.R_apart' (a7.1) (Kd.S_typed ag.1) (by decide)) ak.1 (by decide)) (fun k_ hk => ⟨hk.2, hk.1.2⟩))) (fun _ h_ => Or.inl h_)) (Kd.R_mono (Kd.R_tight rfl (Kd.R_mono (ok' := fun k_ => ((fun k_ => k_ ≠ aa)) k_ ∧ some k_ ≠ (u225002 : Value).ownBlock) (Kd.R_types (Kd.R_apart' (bg.1) (Kd.S_typed ag.1) (by decide)) ak.1 (by decide)) (fun k_ hk => ⟨hk.2, hk.1.2⟩))) (fun _ h_ => Or.inr (h_))) (Kd.R_nil _ _ _ _ _)); (case aB => exact pbg); (case aF => exact (fun k_ hk => Kd.freshB (g := aa) (o := .cells #[.string ((rd_T48 af ac).f0), .slice aV aE.length aW, .slice aX aG.length aY, .slice none 0 0, .int .i64 ((rd_T48 af ac).f4)] 48 (0, 0)) (by exact pbk ak.1) k_ hk)); (case aO => exact (by (with_reducible repeat (first | apply Kd.S_alloc | apply Kd.S_drewN | apply Kd.S_drew)); exact Kd.S_mono ag.1 (fun k_ hk => ⟨hk.2.2, fun e_ => e_.elim (fun h_ => hk.1 h_) (fun h_ => hk.2.1 h_)⟩))); (case aS => exact (below_size pbg)); (case aL => have := cm.1; omega); intro e8 fy ho hb hg hat; rw [← cp.1] at ho; have bS := am ho; replace ab := am (Kd.R_over' (pkr ab.1) (Kd.S_typed (pks ag.1)) (by decide) hg); replace ae := (bgr ae hg (Kd.S_ne ag.1 ae.1 (by decide))); replace ah := (bgr ah hg (Kd.S_ne ag.1 ah.1 (by decide))); replace ai := (bgr ai hg (Kd.S_ne ag.1 ai.1 (by decide))); replace ak := (bgr ak hg (Kd.S_away ag.1 (fun _ hk => hk.2.2))); replace HB := am hb; (try clear ag a7 bg); clear ho hb hg hat; obtain ⟨de, dn, dy⟩ := Kd.S_slice bS.1; subst dy; have fF := cf3 ai.1))
 go_roundg k2
 case measure => have := ce.1; have := dH.1; omega
 case rel => exact ⟨(wrap64 (ac + 1)), (cd), (.slice de cd.length dn), prs, H', ⟨by have := ce.1; have := dH.1; omega⟩, ⟨by (with_reducible repeat (first | apply Kd.R_alloc | apply Kd.R_drewN | apply Kd.R_drew)); exact Kd.R_mono (Kd.R_far (p := ⟨bd, 2, none⟩) (Kd.R_types ab.1 ai.1 (by decide)) (fun _ hk => hk.2) _) (fun _ hk => trivial)⟩, ⟨by (with_reducible repeat (first | apply Kd.S_alloc | apply Kd.S_drewN | apply Kd.S_drew)); exact Kd.S_mono (Kd.S_far (p := ⟨bd, 2, none⟩) (Kd.S_types bS.1 ai.1 (by decide)) (fun _ hk => hk.2) _) (fun _ hk => trivial)⟩, ⟨by (with_reducible repeat (first | refine blk_drewN ?_ _ | refine blk_drew ?_ | refine blk_alloc ?_ _)); refine blk_far ?_ ap.1 _; exact pbk ae.1⟩, ⟨by (with_reducible repeat (first | refine blk_drewN ?_ _ | refine blk_drew ?_ | refine blk_alloc ?_ _)); refine blk_far ?_ aq.1 _; exact pbk ah.1⟩, ⟨by (with_reducible repeat (first | refine blk_drewN ?_ _ | refine blk_drew ?_ | refine blk_alloc ?_ _)); refine blk_put (cs := #[.string ar, u225001, u225002]) ?_ 2 _ rfl; exact pbk ai.1⟩, ⟨pbg⟩⟩

/-! ### workflow_Final: function 23 -/
attribute [local go_sem high] eqA50
def workflow_Final.f (k : Nat) (ao : ByteArray) (ae : List (S52)) (aj : List (S48)) : Option (List Int × Int) := (workflow_Prepare.f k ao ae aj).bind fun aD => (if aD.2.2.2 = 0 then ((workflow_Sink.f k ao ae aj).bind fun ay => (if 0 ≤ (ae.length : Int) then (if ((ae.length : Int) : Int).toNat ≤ 35184372088832 then ((some (List.replicate ((ae.length : Int) : Int).toNat 0 : List Int)).bind fun al => (if 0 ≤ ay.1 then (if ay.1 < (al.length : Int) then (some ((al.set (ay.1 : Int).toNat 1), 0)) else (none)) else (none))) else (none)) else (none))) else (some (([] : List Int), aD.2.2.2)))
theorem workflow_Final.mono : ∀ a0 a1 a2 k, LeO (workflow_Final.f k a0 a1 a2) (workflow_Final.f (k + 1) a0 a1 a2) := by
 intro a0 a1 a2 k
 unfold workflow_Final.f
 repeat' first | (with_reducible first | apply workflow_Prepare.mono | apply workflow_Sink.mono | apply lr | apply ln | apply li | refine lb ?_ fun _ => ?_)
set_option maxHeartbeats 8000000 in
set_option maxRecDepth 100000 in
theorem workflow_Final.calls (k : Nat) (ao : ByteArray) (aM : Option Addr) (aR : Nat) (ae : List (S52)) (aN : Option Addr) (aS : Nat) (aj : List (S48)) (r1 : List Int) (r2 : Int) (w : World) (aG : Kd.C k52 w aM ae.length ae) (aE : ae.length ≤ aR) (aH : Kd.C k48 w aN aj.length aj) (aF : aj.length ≤ aS) (h : workflow_Final.f k ao ae aj = some (r1, r2)) :
  Calls Try.prog 23 #[.agg #[.string ao, .slice aM ae.length aR, .slice aN aj.length aS]] w fun e w' => ∃ v0_ : Value, e = .returned (.tuple #[v0_, .int .i64 r2]) ∧ Kd.R (Kd.int .i64) 3 w' w.heap.size (fun _ => True) v0_ r1 ∧ Below w.heap.size w w' := by
 have bF := Try.underlying25
 have aw := am aG
 have au := am aE
 clear aG aE
 have ax := am aH
 have av := am aF
 clear aH aF
 have HB := am (Below.refl w.heap.size w)
 have H := h
 unfold workflow_Final.f at H
 clear h
 replace H := bnd H
 obtain ⟨⟨aJ, aK, aL, aW⟩, A2, H⟩ := H
 (try dsimp only at H)
 replace H := ife H
 rcases H with ⟨a3, a4, H⟩ | ⟨a3, a4, H⟩
 rotate_left
 ·simp only [Option.some.injEq, Prod.mk.injEq] at H
  obtain ⟨rfl, rfl⟩ := H
  go_enter Try.func23, Try.ntmps23
  go_wp2_with (first | ((with_reducible refine gate_dst (N := 1) rfl ?_); refine box_ev ?_; intro aT hg bN hbox hb; have aa := am hbox; have aq := gwl hg; have aO := aq; replace HB := bsl hb; clear hb hbox hg; have bU := cf3 aa.1) | ((with_reducible refine gate_callee (f := 21) rfl ?_); refine gC 11 Try.func21 _ (workflow_Prepare.calls k ao _ _ ae _ _ aj aJ aK aL aW _ (csb aw HB) au.1 (csb ax HB) av.1 A2.1) ?_; rintro e bO ⟨bd, bf, rfl, aV, ho1, hb⟩; refine ⟨_, rfl, ?_⟩; have ab := am (Kd.R_lower aV (below_size pbg)); have ac := am (Kd.S_lower ho1 (below_size pbg)); replace aa := bbh aa hb; replace HB := bst hb; (try clear hb); (try clear aV); (try clear ho1)) | ((with_reducible refine gate_dst (N := 4) rfl ?_); refine box_ev (N := 4) (cs := #[.string (⟨#[]⟩ : ByteArray), .slice none 0 0, .slice none 0 0]) (t := 25) ?_; intro ap hg bP hbox hb; have af := am hbox; have ar := gwb hg; have aP := ar; have ag := nlt hg aa; have ai := ngt hg aa; replace ab := rbw ab hb; replace ac := sbw ac hb; replace aa := bbh aa hb; replace HB := bst hb; clear hb hbox hg; have bm := ai.1; have bo := ag.1; have bV := cf3 af.1; obtain ⟨br, bC, ba⟩ := Kd.R_slice ab.1; subst ba; obtain ⟨bs, bD, bb⟩ := Kd.S_slice ac.1; subst bb))
  go_ret2
  exact ⟨_, per, knl, pbg⟩
 replace H := bnd H
 obtain ⟨⟨ak, bc⟩, A4, H⟩ := H
 (try dsimp only at H)
 replace H := ifp H
 obtain ⟨c5, H⟩ := H
 have bv := eq_true c5
 have bw : decide (0 ≤ (ae.length : Int)) = true := decide_eq_true c5
 clear c5
 replace H := ifp H
 obtain ⟨c6, H⟩ := H
 have bx := eq_true c6
 have bz : decide (((ae.length : Int) : Int).toNat ≤ 35184372088832) = true := decide_eq_true c6
 clear c6
 obtain ⟨al, aA⟩ : ∃ y_ : List Int, y_ = (List.replicate ((ae.length : Int) : Int).toNat 0) := ⟨_, rfl⟩
 replace H : (if 0 ≤ ak then (if ak < (al.length : Int) then (some ((al.set (ak : Int).toNat 1), 0)) else (none)) else (none)) = some (r1, r2) := hrp aA H
 have aC := am aA
 clear aA
 replace H := ifp H
 obtain ⟨c7, H⟩ := H
 have bA := decide_eq_true c7
 clear c7
 replace H := ifp H
 obtain ⟨c8, H⟩ := H
 have bB := decide_eq_true c8
 clear c8
 obtain ⟨aX, aB⟩ : ∃ y_ : List Int, y_ = (al.set (ak : Int).toNat 1) := ⟨_, rfl⟩
 replace H : (some (aX, 0)) = some (r1, r2) := hrp aB H
 have aQ := am aB
 clear aB
 simp only [Option.some.injEq, Prod.mk.injEq] at H
 obtain ⟨rfl, rfl⟩ := H
 go_enter Try.func23, Try.ntmps23
 go_wp2_with (first | ((with_reducible refine gate_dst (N := 1) rfl ?_); refine box_ev ?_; intro aT hg bJ hbox hb; have aa := am hbox; have aq := gwl hg; have aO := aq; replace HB := bsl hb; clear hb hbox hg; have bQ := cf3 aa.1) | ((with_reducible refine gate_callee (f := 21) rfl ?_); refine gC 11 Try.func21 _ (workflow_Prepare.calls k ao _ _ ae _ _ aj aJ aK aL aW _ (csb aw HB) au.1 (csb ax HB) av.1 A2.1) ?_; rintro e bK ⟨bd, bf, rfl, aV, ho1, hb⟩; refine ⟨_, rfl, ?_⟩; have ab := am (Kd.R_lower aV (below_size pbg)); have ac := am (Kd.S_lower ho1 (below_size pbg)); replace aa := bbh aa hb; replace HB := bst hb; (try clear hb); (try clear aV); (try clear ho1)) | ((with_reducible refine gate_dst (N := 4) rfl ?_); refine box_ev (N := 4) (cs := #[.string (⟨#[]⟩ : ByteArray), .slice none 0 0, .slice none 0 0]) (t := 25) ?_; intro ap hg bL hbox hb; have af := am hbox; have ar := gwb hg; have aP := ar; have ag := nlt hg aa; have ai := ngt hg aa; replace ab := rbw ab hb; replace ac := sbw ac hb; replace aa := bbh aa hb; replace HB := bst hb; clear hb hbox hg; have bl := ai.1; have bn := ag.1; have bR := cf3 af.1; obtain ⟨aY, a5, a8⟩ := Kd.R_slice ab.1; subst a8; obtain ⟨aZ, a6, a9⟩ := Kd.S_slice ac.1; subst a9; have bS := cf3 aa.1) | ((with_reducible refine gate_callee (f := 14) rfl ?_); refine gC 19 Try.func14 _ (workflow_Sink.calls k ao _ _ ae _ _ aj ak bc _ (Kd.C_below aw.1 pbg) au.1 (Kd.C_below ax.1 pbg) av.1 A4.1) ?_; rintro e bM ⟨rfl, hb⟩; refine ⟨_, rfl, ?_⟩; replace ab := am (Kd.R_below (by (with_reducible repeat (first | apply Kd.R_alloc | apply Kd.R_drewN | apply Kd.R_drew)); exact (Kd.R_mono (fR3 ap (Kd.R_types ab.1 af.1 (by decide)) (fun _ hk => hk.2)) (fun _ h_ => h_.1))) hb); replace ac := am (Kd.S_below (by (with_reducible repeat (first | apply Kd.S_alloc | apply Kd.S_drewN | apply Kd.S_drew)); exact (Kd.S_mono (fS3 ap (Kd.S_types ac.1 af.1 (by decide)) (fun _ hk => hk.2)) (fun _ h_ => h_.1))) hb); replace aa := bbx aa (fun h_ => by (with_reducible repeat (first | refine blk_drewN ?_ _ | refine blk_drew ?_ | refine blk_alloc ?_ _)); refine bf3 ?_ ag.1; exact pbk h_) hb; replace af := am (blk_below (g := ap) (o := .cells #[.string aJ, .slice aY aK.length a5, .slice aZ aL.length a6] 25 (0, 0)) (by (with_reducible repeat (first | refine blk_drewN ?_ _ | refine blk_drew ?_ | refine blk_alloc ?_ _)); exact bp3 (pbk af.1)) hb); replace HB := bst hb; (try clear hb); (try clear hk); have bT := cf3 aa.1) | ((with_reducible refine gate_dst (N := 25) rfl ?_); refine Kd.R_make (Kd.int .i64) _ 3 rfl (N := 25) rfl 39 _ _ rfl (ae.length : Int) rfl rfl Try.underlying39 (.int .i64 0) 8 info3 rfl (by decide) (by omega) 0 (ok := fun _ => True) (okp := fun _ => True) rfl (fun _ hk => hk) trivial (dq) (Nat.le_trans (Nat.mul_le_mul_right _ (dq : (ae.length : Int).toNat ≤ 35184372088832)) (by omega)) (Below.refl _ _) (Nat.le_refl _) ?_; intro bG bq az hb hg_ hnew_; clear hg_ hnew_; (first | rw [← aC.1] at az | (simp only [Int.reduceToNat] at az; rw [← aC.1] at az)); have ah := am (Kd.R_lower az (below_size pbg)); replace ab := rbw ab hb; replace ac := sbw ac hb; replace aa := bbh aa hb; replace af := bbh af hb; replace HB := bst hb; clear hb az; have p9 : 0 ≤ (ak : Int) := dq; have q9 : (ak : Int) < ((al.length : Int) : Int) := dq; obtain ⟨aU, a7, bi, bj, bE, bI, bh⟩ := Kd.R_form ah.1 (by omega); (first | cases bi | (injection bi with ea_ en_ ec_; (first | subst ea_ | (injection ea_ with ea_; subst ea_)); subst ec_; clear en_)); have bu := am bj; have bH := am bh; clear bj bE bh; obtain ⟨bp, bk⟩ := Kd.R_celln 0 ah.1 (ak : Int) p9 q9; replace p9 := eq_true p9; replace q9 := eq_true q9; obtain ⟨hy23_, hz23_⟩ := Kd.R_celln 0 ah.1 (ak : Int) (dq) (dq); have aI := Kd.R_putg ah.1 (ak : Int) 1) | ((with_reducible refine gate_store (t := 3) (p := 28) rfl ?_); refine store_event (t := 3) (p := 28) (v := ?vo_w24) (w1 := (bq.setCell ⟨aU, (ak : Int).toNat, none⟩ (.int .i64 1))) ?hg ?ho ?hn ?hr ?_; (case ho => rfl); (case hg => rfl); (case hn => rfl); (case hr => first | (go_simp; done) | (go_simp; rfl)); intro bg hw; have hg : bq.grownBy bg (some aU) := (by rw [hw]; exact aI.2); have hp_ : Kd.R (Kd.int .i64) 3 bg w.heap.size (fun _ => True) (.slice (some ⟨aU, 0, none⟩) al.length a7) aX := (by rw [hw, aQ.1]; exact aI.1); clear aI; replace aa := (bgr aa hg (Kd.R_ne ah.1 aa.1 (by decide))); replace ab := am (Kd.R_over' (v := (.slice (some ⟨aU, 0, none⟩) al.length a7)) (pkr ab.1) (Kd.R_typed ah.1) (by decide) hg); replace ac := am (Kd.S_over' (v := (.slice (some ⟨aU, 0, none⟩) al.length a7)) (pks ac.1) (Kd.R_typed ah.1) (by decide) hg); replace af := (bgr af hg (Kd.R_ne ah.1 af.1 (by decide))); replace ah := am hp_; replace HB := am ((by rw [hw]; exact below_set (HB.1) bu.1 : Below w.heap.size w bg)); clear hg hw hp_))
 go_ret2
 exact ⟨_, per, by (with_reducible repeat (first | apply Kd.R_alloc | apply Kd.R_drewN | apply Kd.R_drew)); exact ah.1, pbg⟩

/-! ### workflow_Close: function 25 -/
attribute [local go_sem high] eqA50
def workflow_Close.j0 : Nat → Bool → ByteArray → List (S52) → List (S48) → ByteArray → List (S52) → List (S48) → Option (ByteArray × (List (S52)) × (List (S48)) × Int)
 | 0, _, _, _, _, _, _, _ => none
 | k + 1, df, aZ, a3, a4, bg, bh, a5 => if df = true then (some ((⟨#[]⟩ : ByteArray), ([] : List (S52)), ([] : List (S48)), 6)) else ((workflow_Source.f k aZ a3 a4).bind fun bI => ((workflow_Sink.f k aZ a3 a4).bind fun bJ => (if a5.length < 1466015503701 then (some (bg, bh, (a5 ++ [(⟨(⟨#[95, 99, 108, 111, 115, 101]⟩ : ByteArray), (([(⟨bJ.1, 1⟩ : S55)] : List (S55))), (([(⟨bI.1, 1⟩ : S55)] : List (S55))), ([] : List (S55)), 0⟩ : S48)]), 0)) else (none))))
def workflow_Close.f (k : Nat) (aA : ByteArray) (aw : List (S52)) (ax : List (S48)) : Option (ByteArray × (List (S52)) × (List (S48)) × Int) := (workflow_Prepare.f k aA aw ax).bind fun ar => (if ar.2.2.2 = 0 then (if (ar.2.2.1.length : Int) ≥ 24 then (some ((⟨#[]⟩ : ByteArray), ([] : List (S52)), ([] : List (S48)), 2)) else ((net_Trans.f k ar.1 ar.2.1 ar.2.2.1 (⟨#[95, 99, 108, 111, 115, 101]⟩ : ByteArray)).bind fun bd => (if bd ≥ 0 then (workflow_Close.j0 k true aA aw ax ar.1 ar.2.1 ar.2.2.1) else ((net_Place.f k ar.1 ar.2.1 ar.2.2.1 (⟨#[95, 99, 108, 111, 115, 101]⟩ : ByteArray)).bind fun bf => (workflow_Close.j0 k (decide (bf ≥ 0)) aA aw ax ar.1 ar.2.1 ar.2.2.1))))) else (some ((⟨#[]⟩ : ByteArray), ([] : List (S52)), ([] : List (S48)), ar.2.2.2)))
theorem workflow_Close.mono_l : ∀ k, M7 workflow_Close.j0 k
 | 0 => fun _ _ _ _ _ _ _ r h => by simp [workflow_Close.j0] at h
 | k + 1 => by
  have b2 := workflow_Close.mono_l k
  ·intro y0 y1 y2 y3 y4 y5 y6
   unfold workflow_Close.j0
   repeat' first | (with_reducible first | apply b2 | apply net_Place.mono | apply net_Trans.mono | apply workflow_Prepare.mono | apply workflow_Sink.mono | apply workflow_Source.mono | apply lr | apply ln | apply li | refine lb ?_ fun _ => ?_)
theorem workflow_Close.mono : ∀ a0 a1 a2 k, LeO (workflow_Close.f k a0 a1 a2) (workflow_Close.f (k + 1) a0 a1 a2) := by
 intro a0 a1 a2 k
 have b2 := workflow_Close.mono_l k
 unfold workflow_Close.f
 repeat' first | (with_reducible first | apply b2 | apply net_Place.mono | apply net_Trans.mono | apply workflow_Prepare.mono | apply workflow_Sink.mono | apply workflow_Source.mono | apply lr | apply ln | apply li | refine lb ?_ fun _ => ?_)
set_option maxHeartbeats 8000000 in
set_option maxRecDepth 100000 in
theorem workflow_Close.calls (k : Nat) (aA : ByteArray) (bv : Option Addr) (bA : Nat) (aw : List (S52)) (bw : Option Addr) (bB : Nat) (ax : List (S48)) (r1 : ByteArray) (r2 : List (S52)) (r3 : List (S48)) (r4 : Int) (w : World) (bs : Kd.C k52 w bv aw.length aw) (bp : aw.length ≤ bA) (bu : Kd.C k48 w bw ax.length ax) (bq : ax.length ≤ bB) (h : workflow_Close.f k aA aw ax = some (r1, r2, r3, r4)) :
  Calls Try.prog 25 #[.agg #[.string aA, .slice bv aw.length bA, .slice bw ax.length bB]] w fun e w' => ∃ v1_ v2_ : Value, e = .returned (.tuple #[.agg #[.string r1, v1_, v2_], .int .i64 r4]) ∧ Kd.R k52 52 w' w.heap.size (fun _ => True) v1_ r2 ∧ Kd.S k48 48 w' w.heap.size (fun _ => True) v2_ r3 ∧ Below w.heap.size w w' := by
 have cX := Try.underlying25
 have cZ := Try.underlying55
 have cY := Try.underlying48
 have aQ := am bs
 have aM := am bp
 clear bs bp
 have aR := am bu
 have aN := am bq
 clear bu bq
 have HB := am (Below.refl w.heap.size w)
 have H := h
 unfold workflow_Close.f at H
 clear h
 replace H := bnd H
 obtain ⟨⟨ay, av, ao, bD⟩, A2, H⟩ := H
 (try dsimp only at H)
 replace H := ife H
 rcases H with ⟨bK, bL, H⟩ | ⟨bK, bL, H⟩
 rotate_left
 ·simp only [Option.some.injEq, Prod.mk.injEq] at H
  obtain ⟨rfl, rfl, rfl, rfl⟩ := H
  go_enter Try.func25, Try.ntmps25
  go_wp2_with (first | ((with_reducible refine gate_dst (N := 1) rfl ?_); refine box_ev ?_; intro a9 hg dE hbox hb; have aa := am hbox; have aI := gwl hg; have bj := aI; replace HB := bsl hb; clear hb hbox hg) | ((with_reducible refine gate_dst (N := 2) rfl ?_); refine box_ev (N := 2) (cs := #[.string (⟨#[]⟩ : ByteArray), .slice none 0 0, .slice none 0 0]) (t := 25) ?_; intro az hg dF hbox hb; have ab := am hbox; have aJ := gwb hg; have bk := aJ; have ap := nlt hg aa; have aq := ngt hg aa; replace aa := bbh aa hb; replace HB := bst hb; clear hb hbox hg; have cn := ap.1; have cG := aq.1; have dO := cf3 aa.1) | ((with_reducible refine gate_callee (f := 21) rfl ?_); refine gC 12 Try.func21 _ (workflow_Prepare.calls k aA _ _ aw _ _ ax ay av ao bD _ (csb aQ HB) aM.1 (csb aR HB) aN.1 A2.1) ?_; rintro e dG ⟨bR, bS, rfl, br, ho1, hb⟩; refine ⟨_, rfl, ?_⟩; have ah := am (Kd.R_lower br (below_size pbg)); have ai := am (Kd.S_lower ho1 (below_size pbg)); replace aa := bbh aa hb; replace ab := bbh ab hb; replace HB := bst hb; (try clear hb); (try clear br); (try clear ho1)) | ((with_reducible refine gate_dst (N := 4) rfl ?_); refine box_ev (N := 4) (cs := #[.string (⟨#[]⟩ : ByteArray), .slice none 0 0, .slice none 0 0]) (t := 25) ?_; intro au hg dH hbox hb; have ae := am hbox; have aK := gwb hg; have bl := aK; have aj := nlt hg aa; have al := ngt hg aa; have af := nlt hg ab; have ak := ngt hg ab; replace ah := rbw ah hb; replace ai := sbw ai hb; replace aa := bbh aa hb; replace ab := bbh ab hb; replace HB := bst hb; clear hb hbox hg; have co := al.1; have cH := aj.1; have cp := ak.1; have cI := af.1; have dP := cf3 ae.1; obtain ⟨cO, cT, b0⟩ := Kd.R_slice ah.1; subst b0; obtain ⟨cP, cU, b1⟩ := Kd.S_slice ai.1; subst b1; have dQ := cf3 ab.1))
  refine bodyPost_ret (results_ct rfl _ _ az 25 #[.string (⟨#[]⟩ : ByteArray), .slice none 0 0, .slice none 0 0] (0, 0) _ rfl (by (with_reducible repeat (first | refine blk_drewN ?_ _ | refine blk_drew ?_ | refine blk_alloc ?_ _)); refine blk_put (cs := #[.string (⟨#[]⟩ : ByteArray), .slice none 0 0, .slice none 0 0]) ?_ 2 _ rfl; (with_reducible repeat (first | refine blk_drewN ?_ _ | refine blk_drew ?_ | refine blk_alloc ?_ _)); refine blk_put (cs := #[.string (⟨#[]⟩ : ByteArray), .slice none 0 0, .slice none 0 0]) ?_ 1 _ rfl; (with_reducible repeat (first | refine blk_drewN ?_ _ | refine blk_drew ?_ | refine blk_alloc ?_ _)); refine blk_put (cs := #[.string (⟨#[]⟩ : ByteArray), .slice none 0 0, .slice none 0 0]) ?_ 0 _ rfl; (with_reducible repeat (first | refine blk_drewN ?_ _ | refine blk_drew ?_ | refine blk_alloc ?_ _)); refine bf3 ?_ af.1; exact pbk ab.1) Try.underlying25 rfl (by kernel_rfl)) rfl ?_
  exact ⟨_, _, per, knl, knl, pbg⟩
 by_cases c4 : (ao.length : Int) ≥ 24
 ·rw [if_pos c4] at H
  have bM : decide (24 ≤ (ao.length : Int)) = true := decide_eq_true c4
  have bN : decide (24 ≤ ao.length) = true := decide_eq_true (by omega)
  clear c4
  simp only [Option.some.injEq, Prod.mk.injEq] at H
  obtain ⟨rfl, rfl, rfl, rfl⟩ := H
  go_enter Try.func25, Try.ntmps25
  go_wp2_with (first | ((with_reducible refine gate_dst (N := 1) rfl ?_); refine box_ev ?_; intro a9 hg w5 hbox hb; have aa := am hbox; have aI := gwl hg; have bj := aI; replace HB := bsl hb; clear hb hbox hg) | ((with_reducible refine gate_dst (N := 2) rfl ?_); refine box_ev (N := 2) (cs := #[.string (⟨#[]⟩ : ByteArray), .slice none 0 0, .slice none 0 0]) (t := 25) ?_; intro az hg w6 hbox hb; have ab := am hbox; have aJ := gwb hg; have bk := aJ; have ap := nlt hg aa; have aq := ngt hg aa; replace aa := bbh aa hb; replace HB := bst hb; clear hb hbox hg; have cV := ap.1; have cW := aq.1; have z8 := cf3 aa.1) | ((with_reducible refine gate_callee (f := 21) rfl ?_); refine gC 12 Try.func21 _ (workflow_Prepare.calls k aA _ _ aw _ _ ax ay av ao bD _ (csb aQ HB) aM.1 (csb aR HB) aN.1 A2.1) ?_; rintro e w9 ⟨bR, bS, rfl, br, ho1, hb⟩; refine ⟨_, rfl, ?_⟩; have ah := am (Kd.R_lower br (below_size pbg)); have ai := am (Kd.S_lower ho1 (below_size pbg)); replace aa := bbh aa hb; replace ab := bbh ab hb; replace HB := bst hb; (try clear hb); (try clear br); (try clear ho1)) | ((with_reducible refine gate_dst (N := 4) rfl ?_); refine box_ev (N := 4) (cs := #[.string (⟨#[]⟩ : ByteArray), .slice none 0 0, .slice none 0 0]) (t := 25) ?_; intro au hg dp hbox hb; have ae := am hbox; have aK := gwb hg; have bl := aK; have aj := nlt hg aa; have al := ngt hg aa; have af := nlt hg ab; have ak := ngt hg ab; replace ah := rbw ah hb; replace ai := sbw ai hb; replace aa := bbh aa hb; replace ab := bbh ab hb; replace HB := bst hb; clear hb hbox hg; have b7 := al.1; have cq := aj.1; have b8 := ak.1; have cr := af.1; have dg := cf3 ae.1; obtain ⟨cM, cR, bT⟩ := Kd.R_slice ah.1; subst bT; obtain ⟨cN, cS, bU⟩ := Kd.S_slice ai.1; subst bU; have dh := cf3 ab.1))
  refine bodyPost_ret (results_ct rfl _ _ az 25 #[.string (⟨#[]⟩ : ByteArray), .slice none 0 0, .slice none 0 0] (0, 0) _ rfl (by (with_reducible repeat (first | refine blk_drewN ?_ _ | refine blk_drew ?_ | refine blk_alloc ?_ _)); refine blk_put (cs := #[.string (⟨#[]⟩ : ByteArray), .slice none 0 0, .slice none 0 0]) ?_ 2 _ rfl; (with_reducible repeat (first | refine blk_drewN ?_ _ | refine blk_drew ?_ | refine blk_alloc ?_ _)); refine blk_put (cs := #[.string (⟨#[]⟩ : ByteArray), .slice none 0 0, .slice none 0 0]) ?_ 1 _ rfl; (with_reducible repeat (first | refine blk_drewN ?_ _ | refine blk_drew ?_ | refine blk_alloc ?_ _)); refine blk_put (cs := #[.string (⟨#[]⟩ : ByteArray), .slice none 0 0, .slice none 0 0]) ?_ 0 _ rfl; (with_reducible repeat (first | refine blk_drewN ?_ _ | refine blk_drew ?_ | refine blk_alloc ?_ _)); refine bf3 ?_ af.1; exact pbk ab.1) Try.underlying25 rfl (by kernel_rfl)) rfl ?_
  exact ⟨_, _, per, knl, knl, pbg⟩
 rw [if_neg c4] at H
 have bM : decide (24 ≤ (ao.length : Int)) = false := decide_eq_false c4
 have bN : decide (24 ≤ ao.length) = false := decide_eq_false (by omega)
 clear c4
 have bz := am H
 clear H
 go_enter Try.func25, Try.ntmps25
 go_upto_region 6 with (first | ((with_reducible refine gate_dst (N := 1) rfl ?_); refine box_ev ?_; intro a9 hg dr hbox hb; have aa := am hbox; have aI := gwl hg; have bj := aI; replace HB := bsl hb; clear hb hbox hg) | ((with_reducible refine gate_dst (N := 2) rfl ?_); refine box_ev (N := 2) (cs := #[.string (⟨#[]⟩ : ByteArray), .slice none 0 0, .slice none 0 0]) (t := 25) ?_; intro az hg dt hbox hb; have ab := am hbox; have aJ := gwb hg; have bk := aJ; have ap := nlt hg aa; have aq := ngt hg aa; replace aa := bbh aa hb; replace HB := bst hb; clear hb hbox hg; have b9 := ap.1; have cu := aq.1; have di := cf3 aa.1) | ((with_reducible refine gate_callee (f := 21) rfl ?_); refine gC 12 Try.func21 _ (workflow_Prepare.calls k aA _ _ aw _ _ ax ay av ao bD _ (csb aQ HB) aM.1 (csb aR HB) aN.1 A2.1) ?_; rintro e du ⟨bR, bS, rfl, br, ho1, hb⟩; refine ⟨_, rfl, ?_⟩; have ah := am (Kd.R_lower br (below_size pbg)); have ai := am (Kd.S_lower ho1 (below_size pbg)); replace aa := bbh aa hb; replace ab := bbh ab hb; replace HB := bst hb; (try clear hb); (try clear br); (try clear ho1)) | ((with_reducible refine gate_dst (N := 4) rfl ?_); refine box_ev (N := 4) (cs := #[.string (⟨#[]⟩ : ByteArray), .slice none 0 0, .slice none 0 0]) (t := 25) ?_; intro au hg dv hbox hb; have ae := am hbox; have aK := gwb hg; have bl := aK; have aj := nlt hg aa; have al := ngt hg aa; have af := nlt hg ab; have ak := ngt hg ab; replace ah := rbw ah hb; replace ai := sbw ai hb; replace aa := bbh aa hb; replace ab := bbh ab hb; replace HB := bst hb; clear hb hbox hg; have ca := al.1; have cv := aj.1; have cb := ak.1; have cw := af.1; have dj := cf3 ae.1; obtain ⟨a6, aT, bV⟩ := Kd.R_slice ah.1; subst bV; obtain ⟨aG, aD, bW⟩ := Kd.S_slice ai.1; subst bW))
 (try simp only [Act.put, List.setIfInBounds_toArray, List.set_cons_zero, List.set_cons_succ])
 go_cut [31] (fun de wc => ∃ (kq : Nat) (aH : Bool), de = .bool aH ∧ Aside0 (workflow_Close.j0 kq aH aA aw ax ay av ao = some (r1, r2, r3, r4)) ∧ Aside0 (kq ≤ k) ∧ Aside0 (Kd.R k52 52 wc w.heap.size (fun _ => True) (.slice a6 av.length aT) av) ∧ Aside0 (Kd.S k48 48 wc w.heap.size (fun _ => True) (.slice aG ao.length aD) ao) ∧ Aside0 (wc.heap[a9]? = some (.cells #[.string aA, (.slice bv aw.length bA), (.slice bw ax.length bB)] 25 (0, 0))) ∧ Aside0 (wc.heap[az]? = some (.cells #[.string (⟨#[]⟩ : ByteArray), (.slice none 0 0), (.slice none 0 0)] 25 (0, 0))) ∧ Aside0 (wc.heap[au]? = some (.cells #[.string ay, (.slice a6 av.length aT), (.slice aG ao.length aD)] 25 (0, 0))) ∧ Aside0 (Below w.heap.size w wc))
 case first =>
  have H := bz.1
  clear bz
  replace H := bnd H
  obtain ⟨bd, b5, H⟩ := H
  (try dsimp only at H)
  replace H := ifh H
  rcases H with ⟨aE, H⟩ | ⟨aE, H⟩
  ·(first | rw [aE] | (simp only [i64_w, i32_w]; rw [aE]) | skip)
   have H' := am H
   clear H
   have cd := al.1
   have cx := aj.1
   have ce := ak.1
   have cy := af.1
   have dk := cf3 ae.1
   go_wp2_with (first | ((with_reducible refine gate_callee (f := 32) rfl ?_); refine gC 25 Try.func32 _ (net_Trans.calls k ay _ _ av _ _ ao (⟨#[95, 99, 108, 111, 115, 101]⟩ : ByteArray) bd _ ?side1 ?side2 ?side3 ?side4 b5.1) ?_; (case side1 => refine (Kd.R_reads' (e := 52) (base := w.heap.size) (ok := fun k_ => True) (n := av.length) (c := aT) ?_).2.2; exact (by (with_reducible repeat (first | apply Kd.R_alloc | apply Kd.R_drewN | apply Kd.R_drew)); exact (Kd.R_mono (fR3 au (Kd.R_types ah.1 ae.1 (by decide)) (fun _ hk => hk.2)) (fun _ h_ => h_.1)))); (case side2 => exact (Kd.R_reads' ah.1).2.1); (case side3 => refine (Kd.S_reads' (e := 48) (base := w.heap.size) (ok := fun k_ => True) (n := ao.length) (c := aD) ?_).2.2; exact (by (with_reducible repeat (first | apply Kd.S_alloc | apply Kd.S_drewN | apply Kd.S_drew)); exact (Kd.S_mono (fS3 au (Kd.S_types ai.1 ae.1 (by decide)) (fun _ hk => hk.2)) (fun _ h_ => h_.1)))); (case side4 => exact (Kd.S_reads' ai.1).2.1); rintro e dw ⟨rfl, hb⟩; refine ⟨_, rfl, ?_⟩; replace ah := am (Kd.R_below (by (with_reducible repeat (first | apply Kd.R_alloc | apply Kd.R_drewN | apply Kd.R_drew)); exact (Kd.R_mono (fR3 au (Kd.R_types ah.1 ae.1 (by decide)) (fun _ hk => hk.2)) (fun _ h_ => h_.1))) hb); replace ai := am (Kd.S_below (by (with_reducible repeat (first | apply Kd.S_alloc | apply Kd.S_drewN | apply Kd.S_drew)); exact (Kd.S_mono (fS3 au (Kd.S_types ai.1 ae.1 (by decide)) (fun _ hk => hk.2)) (fun _ h_ => h_.1))) hb); replace aa := bbx aa (fun h_ => by (with_reducible repeat (first | refine blk_drewN ?_ _ | refine blk_drew ?_ | refine blk_alloc ?_ _)); refine bf3 ?_ aj.1; exact pbk h_) hb; replace ab := bbx ab (fun h_ => by (with_reducible repeat (first | refine blk_drewN ?_ _ | refine blk_drew ?_ | refine blk_alloc ?_ _)); refine bf3 ?_ af.1; exact pbk h_) hb; replace ae := am (blk_below (g := au) (o := .cells #[.string ay, .slice a6 av.length aT, .slice aG ao.length aD] 25 (0, 0)) (by (with_reducible repeat (first | refine blk_drewN ?_ _ | refine blk_drew ?_ | refine blk_alloc ?_ _)); exact bp3 (pbk ae.1)) hb); replace HB := bst hb; (try clear hb); (try clear hk)))
   go_meet
   case rel => exact ⟨_, (true), prs, H', ⟨by first | omega | exact Nat.le_refl _⟩, ⟨pkr ah.1⟩, ⟨pks ai.1⟩, ⟨pbk aa.1⟩, ⟨pbk ab.1⟩, ⟨pbk ae.1⟩, ⟨pbg⟩⟩
  (first | rw [aE] | (simp only [i64_w, i32_w]; rw [aE]) | skip)
  replace H := bnd H
  obtain ⟨bf, cJ, H⟩ := H
  (try dsimp only at H)
  have H' := am H
  clear H
  have cf := al.1
  have cz := aj.1
  have cg := ak.1
  have cA := af.1
  have dl := cf3 ae.1
  go_wp2_with (first | ((with_reducible refine gate_callee (f := 32) rfl ?_); refine gC 25 Try.func32 _ (net_Trans.calls k ay _ _ av _ _ ao (⟨#[95, 99, 108, 111, 115, 101]⟩ : ByteArray) bd _ ?side1 ?side2 ?side3 ?side4 b5.1) ?_; (case side1 => refine (Kd.R_reads' (e := 52) (base := w.heap.size) (ok := fun k_ => True) (n := av.length) (c := aT) ?_).2.2; exact (by (with_reducible repeat (first | apply Kd.R_alloc | apply Kd.R_drewN | apply Kd.R_drew)); exact (Kd.R_mono (fR3 au (Kd.R_types ah.1 ae.1 (by decide)) (fun _ hk => hk.2)) (fun _ h_ => h_.1)))); (case side2 => exact (Kd.R_reads' ah.1).2.1); (case side3 => refine (Kd.S_reads' (e := 48) (base := w.heap.size) (ok := fun k_ => True) (n := ao.length) (c := aD) ?_).2.2; exact (by (with_reducible repeat (first | apply Kd.S_alloc | apply Kd.S_drewN | apply Kd.S_drew)); exact (Kd.S_mono (fS3 au (Kd.S_types ai.1 ae.1 (by decide)) (fun _ hk => hk.2)) (fun _ h_ => h_.1)))); (case side4 => exact (Kd.S_reads' ai.1).2.1); rintro e dx ⟨rfl, hb⟩; refine ⟨_, rfl, ?_⟩; replace ah := am (Kd.R_below (by (with_reducible repeat (first | apply Kd.R_alloc | apply Kd.R_drewN | apply Kd.R_drew)); exact (Kd.R_mono (fR3 au (Kd.R_types ah.1 ae.1 (by decide)) (fun _ hk => hk.2)) (fun _ h_ => h_.1))) hb); replace ai := am (Kd.S_below (by (with_reducible repeat (first | apply Kd.S_alloc | apply Kd.S_drewN | apply Kd.S_drew)); exact (Kd.S_mono (fS3 au (Kd.S_types ai.1 ae.1 (by decide)) (fun _ hk => hk.2)) (fun _ h_ => h_.1))) hb); replace aa := bbx aa (fun h_ => by (with_reducible repeat (first | refine blk_drewN ?_ _ | refine blk_drew ?_ | refine blk_alloc ?_ _)); refine bf3 ?_ aj.1; exact pbk h_) hb; replace ab := bbx ab (fun h_ => by (with_reducible repeat (first | refine blk_drewN ?_ _ | refine blk_drew ?_ | refine blk_alloc ?_ _)); refine bf3 ?_ af.1; exact pbk h_) hb; replace ae := am (blk_below (g := au) (o := .cells #[.string ay, .slice a6 av.length aT, .slice aG ao.length aD] 25 (0, 0)) (by (with_reducible repeat (first | refine blk_drewN ?_ _ | refine blk_drew ?_ | refine blk_alloc ?_ _)); exact bp3 (pbk ae.1)) hb); replace HB := bst hb; (try clear hb); (try clear hk); have dm := cf3 ae.1) | (go_at_call 31; (with_reducible refine (net_Place.calls k ay _ _ av _ _ ao (⟨#[95, 99, 108, 111, 115, 101]⟩ : ByteArray) bf _ ?side1 ?side2 ?side3 ?side4 cJ.1).mono ?_); (case side1 => exact csd ((Kd.R_reads' ah.1).2.2)); (case side2 => exact (Kd.R_reads' ah.1).2.1); (case side3 => exact csd ((Kd.S_reads' ai.1).2.2)); (case side4 => exact (Kd.S_reads' ai.1).2.1); rintro e dy ⟨rfl, hb⟩; replace ah := rbw ah hb; replace ai := sbw ai hb; replace aa := bbh aa hb; replace ab := bbh ab hb; replace ae := bbh ae hb; replace HB := bst hb; (try clear hb)))
  go_meet
  case rel => exact ⟨_, (decide (bf ≥ 0)), prs, H', ⟨by first | omega | exact Nat.le_refl _⟩, ⟨pkr ah.1⟩, ⟨pks ai.1⟩, ⟨pbk aa.1⟩, ⟨pbk ab.1⟩, ⟨pbk ae.1⟩, ⟨pbg⟩⟩
 clear bz
 try clear c3 bK bL c4 bM bN dn aE dg dh di dj dk dl dm z8
 obtain ⟨kq, aH, rfl, HA, cQ, ag, ac, aa, ab, ae, HB⟩ := hcut
 obtain _ | bQ := kq
 ·exact absurd HA.1 (by simp [workflow_Close.j0])
 have H := HA.1
 clear HA
 simp only [workflow_Close.j0] at H
 cases aH
 rotate_left
 ·rw [if_pos rfl] at H
  simp only [Option.some.injEq, Prod.mk.injEq] at H
  obtain ⟨rfl, rfl, rfl, rfl⟩ := H
  have ch := aq.1
  have cB := ap.1
  have ci := af.1
  have cC := ak.1
  have dI := cf3 ab.1
  go_wp2
  refine bodyPost_ret (results_ct rfl _ _ az 25 #[.string (⟨#[]⟩ : ByteArray), .slice none 0 0, .slice none 0 0] (0, 0) _ rfl (by (with_reducible repeat (first | refine blk_drewN ?_ _ | refine blk_drew ?_ | refine blk_alloc ?_ _)); exact bp3 (pbk ab.1)) Try.underlying25 rfl (by kernel_rfl)) rfl ?_
  exact ⟨_, _, per, knl, knl, pbg⟩
 rw [if_neg Bool.false_ne_true] at H
 replace H := bnd H
 obtain ⟨⟨aU, b3⟩, cK, H⟩ := H
 (try dsimp only at H)
 replace H := bnd H
 obtain ⟨⟨aW, b4⟩, cL, H⟩ := H
 (try dsimp only at H)
 obtain ⟨aX, ba⟩ : ∃ y_ : List (S55), y_ = (([(⟨aW, 1⟩ : S55)] : List (S55))) := ⟨_, rfl⟩
 replace H : (if ao.length < 1466015503701 then (some (ay, av, (ao ++ [(⟨(⟨#[95, 99, 108, 111, 115, 101]⟩ : ByteArray), aX, (([(⟨aU, 1⟩ : S55)] : List (S55))), ([] : List (S55)), 0⟩ : S48)]), 0)) else (none)) = some (r1, r2, r3, r4) := hrp ba H
 have bn := am ba
 clear ba
 obtain ⟨a8, bb⟩ : ∃ y_ : List (S55), y_ = (([(⟨aU, 1⟩ : S55)] : List (S55))) := ⟨_, rfl⟩
 replace H : (if ao.length < 1466015503701 then (some (ay, av, (ao ++ [(⟨(⟨#[95, 99, 108, 111, 115, 101]⟩ : ByteArray), aX, a8, ([] : List (S55)), 0⟩ : S48)]), 0)) else (none)) = some (r1, r2, r3, r4) := hrp bb H
 have bo := am bb
 clear bb
 replace H := ifp H
 obtain ⟨b6, H⟩ := H
 have bG := am b6
 clear b6
 obtain ⟨bi, bc⟩ : ∃ y_ : List (S48), y_ = (ao ++ [(⟨(⟨#[95, 99, 108, 111, 115, 101]⟩ : ByteArray), aX, a8, ([] : List (S55)), 0⟩ : S48)]) := ⟨_, rfl⟩
 replace H : (some (ay, av, bi, 0)) = some (r1, r2, r3, r4) := hrp bc H
 have bH := am bc
 clear bc
 simp only [Option.some.injEq, Prod.mk.injEq] at H
 obtain ⟨rfl, rfl, rfl, rfl⟩ := H
 have cj := ap.1
 have cD := aq.1
 have ck := aj.1
 have cE := al.1
 have dJ := cf3 aa.1
 go_wp2_with (first | ((with_reducible refine gate_callee (f := 12) rfl ?_); refine gC 35 Try.func12 _ (workflow_Source.calls bQ aA _ _ aw _ _ ax aU b3 _ (csb aQ HB) aM.1 (csb aR HB) aN.1 cK.1) ?_; rintro e dz ⟨rfl, hb⟩; refine ⟨_, rfl, ?_⟩; replace ag := rbw ag hb; replace ac := sbw ac hb; replace aa := bbh aa hb; replace ab := bbh ab hb; replace ae := bbh ae hb; replace HB := bst hb; (try clear hb); have dK := cf3 aa.1) | ((with_reducible refine gate_callee (f := 14) rfl ?_); refine gC 40 Try.func14 _ (workflow_Sink.calls bQ aA _ _ aw _ _ ax aW b4 _ (csb aQ HB) aM.1 (csb aR HB) aN.1 cL.1) ?_; rintro e dA ⟨rfl, hb⟩; refine ⟨_, rfl, ?_⟩; replace ag := rbw ag hb; replace ac := sbw ac hb; replace aa := bbh aa hb; replace ab := bbh ab hb; replace ae := bbh ae hb; replace HB := bst hb; (try clear hb); have cm := ak.1; have cF := af.1; have dL := cf3 ae.1) | ((with_reducible refine gate_dst (N := 47) rfl ?_); refine Kd.R_lit k55 _ 55 ?hg (N := 47) ?hd (xs := ([(⟨aW, 1⟩ : S55)] : List (S55))) (inner := [.int .i64 aW, .int .i64 1]) (ok := fun _ => True) (okp := fun _ => True) ?hr ?hp (fun _ hk => hk) trivial (Below.refl _ _) (Nat.le_refl _) (by simp) ?_; (case hd => rfl); (case hg => rfl); (case hr => first | (go_simp; done) | (go_simp; rfl)); (case hp => exact (Reps.c2 (show Kd.M k55 _ _ _ (⟨aW, 1⟩ : S55) [.int .i64 aW, .int .i64 1] from (k55_mkM _ _ _ (⟨aW, 1⟩ : S55) )) (Reps.none _ _))); intro da dB a7 hb hg_ hnew_; clear hg_ hnew_; (first | rw [← bn.1] at a7 | (simp only [Int.reduceToNat] at a7; rw [← bn.1] at a7)); have aC := am (Kd.R_lower a7 (below_size pbg)); replace ag := rbw ag hb; replace ac := am (Kd.S_elder' (pks ac.1) (Kd.R_base a7) hb); replace aa := bbh aa hb; replace ab := bbh ab hb; replace ae := bbh ae hb; replace HB := bst hb; clear hb a7) | ((with_reducible refine gate_dst (N := 50) rfl ?_); refine Kd.R_lit k55 _ 55 ?hg (N := 50) ?hd (xs := ([(⟨aU, 1⟩ : S55)] : List (S55))) (inner := [.int .i64 aU, .int .i64 1]) (ok := fun _ => True) (okp := fun _ => True) ?hr ?hp (fun _ hk => hk) trivial (Below.refl _ _) (Nat.le_refl _) (by simp) ?_; (case hd => rfl); (case hg => rfl); (case hr => first | (go_simp; done) | (go_simp; rfl)); (case hp => exact (Reps.c2 (show Kd.M k55 _ _ _ (⟨aU, 1⟩ : S55) [.int .i64 aU, .int .i64 1] from (k55_mkM _ _ _ (⟨aU, 1⟩ : S55) )) (Reps.none _ _))); intro db dC aV hb hg_ hnew_; clear hg_ hnew_; (first | rw [← bo.1] at aV | (simp only [Int.reduceToNat] at aV; rw [← bo.1] at aV)); have aY := am (Kd.R_lower (Kd.R_new' aV (Kd.R_lt (pkr aC.1))) (below_size pbg)); replace ag := rbw ag hb; replace ac := am (Kd.S_elder' (pks ac.1) (Kd.R_base aV) hb); replace aC := am (Kd.R_elder' (pkr aC.1) (Kd.R_base aV) hb); replace aa := bbh aa hb; replace ab := bbh ab hb; replace ae := bbh ae hb; replace HB := bst hb; clear hb aV; obtain ⟨bE, bO, bX⟩ := Kd.R_slice aY.1; subst bX; obtain ⟨bF, bP, bY⟩ := Kd.R_slice aC.1; subst bY) | ((with_reducible refine gate_builtin (b := .append) (xs := #[.tmp 44, .tmp 52]) rfl ?_); at_builtin; refine Kd.S_append k48 (w0 := w) w.heap.size rfl (.tmp 44) (.tmp 52) 23 48 (.agg #[(.string ⟨#[]⟩), (.slice none 0 0), (.slice none 0 0), (.slice none 0 0), (.int .i64 0)]) 96 rfl Try.underlying23 info48 rfl (by decide) (by omega) (.slice aG ao.length aD) ao (⟨(⟨#[95, 99, 108, 111, 115, 101]⟩ : ByteArray), aX, a8, ([] : List (S55)), 0⟩ : S48) [.string (⟨#[95, 99, 108, 111, 115, 101]⟩ : ByteArray), .slice bF aX.length bP, .slice bE a8.length bO, .slice none 0 0, .int .i64 0] (fun _ => True) (fun k_ => some k_ = (.slice bF aX.length bP : Value).ownBlock ∨ some k_ = (.slice bE a8.length bO : Value).ownBlock) rfl rfl ?aP (fun k_ hk_ => hk_.elim (fun h_ => ((Kd.R_mono (ok' := fun k_ => ((fun _ => True)) k_ ∧ some k_ ≠ (.slice aG ao.length aD : Value).ownBlock) (Kd.R_apart' (aC.1) (Kd.S_typed ac.1) (by decide)) (fun k_ hk => ⟨trivial, hk.2⟩))).1 k_ h_.symm) (fun h_ => ((Kd.R_mono (ok' := fun k_ => ((fun _ => True)) k_ ∧ some k_ ≠ (.slice aG ao.length aD : Value).ownBlock) (Kd.R_apart' (aY.1) (Kd.S_typed ac.1) (by decide)) (fun k_ hk => ⟨trivial, hk.2⟩))).1 k_ h_.symm)) ?aF ?aO ?aB ?aS ?aL ?_; (case aP => exact k48_mkM _ _ _ (⟨(⟨#[95, 99, 108, 111, 115, 101]⟩ : ByteArray), aX, a8, ([] : List (S55)), 0⟩ : S48) (Kd.R_mono (Kd.R_tight rfl (Kd.R_mono (ok' := fun k_ => ((fun _ => True)) k_ ∧ some k_ ≠ (.slice aG ao.length aD : Value).ownBlock) (Kd.R_apart' (aC.1) (Kd.S_typed ac.1) (by decide)) (fun k_ hk => ⟨trivial, hk.2⟩))) (fun _ h_ => Or.inl h_)) (Kd.R_mono (Kd.R_tight rfl (Kd.R_mono (ok' := fun k_ => ((fun _ => True)) k_ ∧ some k_ ≠ (.slice aG ao.length aD : Value).ownBlock) (Kd.R_apart' (aY.1) (Kd.S_typed ac.1) (by decide)) (fun k_ hk => ⟨trivial, hk.2⟩))) (fun _ h_ => Or.inr (h_))) (Kd.R_nil _ _ _ _ _)); (case aB => exact pbg); (case aF => exact (fun _ _ => trivial)); (case aO => exact (by (with_reducible repeat (first | apply Kd.S_alloc | apply Kd.S_drewN | apply Kd.S_drew)); exact Kd.S_mono ac.1 (fun k_ hk => ⟨trivial, fun e_ => e_.elim (fun h_ => hk.1.2 h_) (fun h_ => hk.2 h_)⟩))); (case aS => exact (below_size pbg)); (case aL => have := bG.1; omega); intro dc dD ho hb hg hat; rw [← bH.1] at ho; have bm := am ho; replace ag := am (Kd.R_over' (pkr ag.1) (Kd.S_typed (pks ac.1)) (by decide) hg); replace aa := (bgr aa hg (Kd.S_ne ac.1 aa.1 (by decide))); replace ab := (bgr ab hg (Kd.S_ne ac.1 ab.1 (by decide))); replace ae := (bgr ae hg (Kd.S_ne ac.1 ae.1 (by decide))); replace HB := am hb; (try clear ac aC aY); clear ho hb hg hat; obtain ⟨bx, bC, bZ⟩ := Kd.S_slice bm.1; subst bZ; have dM := cf3 ae.1; have dN := cf3 ab.1))
 refine bodyPost_ret (results_ct rfl _ _ az 25 #[.string ay, .slice a6 av.length aT, .slice bx bi.length bC] (0, 0) _ rfl (by (with_reducible repeat (first | refine blk_drewN ?_ _ | refine blk_drew ?_ | refine blk_alloc ?_ _)); refine blk_put (cs := #[.string ay, .slice a6 av.length aT, .slice none 0 0]) ?_ 2 _ rfl; (with_reducible repeat (first | refine blk_drewN ?_ _ | refine blk_drew ?_ | refine blk_alloc ?_ _)); refine blk_put (cs := #[.string ay, .slice none 0 0, .slice none 0 0]) ?_ 1 _ rfl; (with_reducible repeat (first | refine blk_drewN ?_ _ | refine blk_drew ?_ | refine blk_alloc ?_ _)); refine blk_put (cs := #[.string (⟨#[]⟩ : ByteArray), .slice none 0 0, .slice none 0 0]) ?_ 0 _ rfl; (with_reducible repeat (first | refine blk_drewN ?_ _ | refine blk_drew ?_ | refine blk_alloc ?_ _)); refine blk_far ?_ af.1 _; exact pbk ab.1) Try.underlying25 rfl (by kernel_rfl)) rfl ?_
 exact ⟨_, _, per, by (with_reducible repeat (first | apply Kd.R_alloc | apply Kd.R_drewN | apply Kd.R_drew)); exact Kd.R_mono (fR3 az (Kd.R_far (p := ⟨au, 2, none⟩) (Kd.R_types (Kd.R_types ag.1 ae.1 (by decide)) ab.1 (by decide)) (fun _ hk => hk.1.2) (.slice bx bi.length bC)) (fun _ hk => hk.2)) (fun _ hk => trivial), by (with_reducible repeat (first | apply Kd.S_alloc | apply Kd.S_drewN | apply Kd.S_drew)); exact Kd.S_mono (fS3 az (Kd.S_far (p := ⟨au, 2, none⟩) (Kd.S_types (Kd.S_types bm.1 ae.1 (by decide)) ab.1 (by decide)) (fun _ hk => hk.1.2) (.slice bx bi.length bC)) (fun _ hk => hk.2)) (fun _ hk => trivial), pbg⟩

/-! ### petrinetlaw43_lives: function 11 -/
attribute [local go_sem high] eqA50
def petrinetlaw43_lives.j0 : Nat → Int → List Int → Int → Int → Bool → ByteArray → List (S52) → ByteArray → List (S52) → List (S48) → ByteArray → List (S52) → List (S48) → Option (Bool)
 | 0, _, _, _, _, _, _, _, _, _, _, _, _, _ => none
 | k + 1, x10, x11, x12, x14, gD, cx, cy, dJ, a1, dK, dL, dM, bO => if gD = true then (none) else (if (a1.length : Int) = 2 then (if 0 < (a1.length : Int) then (if ((rd_T52 a1 0).f1) = 1 then (if 1 < (a1.length : Int) then (if ((rd_T52 a1 1).f1) = 0 then (if x10 = 0 then (if (x11.length : Int) = 2 then (if 0 < (x11.length : Int) then (if (rd x11 0) = 0 then (if 1 < (x11.length : Int) then (if (rd x11 1) = 1 then (if x12 = 0 then (if (bO.length : Int) = 2 then (if 1 < (bO.length : Int) then (if ((rd_T48 bO 1).f0).toList = ([95, 99, 108, 111, 115, 101] : List UInt8) then (if x14 = 0 then ((workflow_Close.f k cx cy ([] : List (S48))).bind fun da => (some (da.2.2.2 == 15))) else (none)) else (none)) else (none)) else (none)) else (none)) else (none)) else (none)) else (none)) else (none)) else (none)) else (none)) else (none)) else (none)) else (none)) else (none)) else (none))
def petrinetlaw43_lives.f (k : Nat)  : Option (Bool) := (petrinetlaw43_line.f).bind fun aw => (if 1 ≤ (aw.2.1.length : Int) then ((some (aw.2.1.take 1 : List (S52))).bind fun aF => ((workflow_Source.f k aw.1 aw.2.1 aw.2.2).bind fun bP => ((workflow_Sink.f k aw.1 aw.2.1 aw.2.2).bind fun bQ => ((workflow_Problems.f k (⟨#[110]⟩ : ByteArray) aF ([] : List (S48))).bind fun aK => ((workflow_Prepare.f k aw.1 aw.2.1 aw.2.2).bind fun aY => ((workflow_Final.f k aw.1 aw.2.1 aw.2.2).bind fun bR => ((workflow_Close.f k aw.1 aw.2.1 aw.2.2).bind fun aZ => (if bP.1 = 0 then (if bP.2 = true then (if bQ.1 = 1 then (if bQ.2 = true then ((workflow_Is.f k aw.1 aw.2.1 aw.2.2).bind fun ck => (if ck = true then ((workflow_Is.f k (⟨#[110]⟩ : ByteArray) aF ([] : List (S48))).bind fun cm => (if cm = true then (none) else (if (aK.1.length : Int) = 1 then (if 0 < (aK.1.length : Int) then (if (!(((rd_T50 aK.1 0).f0) == 3) || (!(((rd_T50 aK.1 0).f1) == 0))) = true then (none) else (petrinetlaw43_lives.j0 k aY.2.2.2 bR.1 bR.2 aZ.2.2.2 (aK.2 != 0) (⟨#[110]⟩ : ByteArray) aF aY.1 aY.2.1 aY.2.2.1 aZ.1 aZ.2.1 aZ.2.2.1)) else (none)) else (none)))) else (none))) else (none)) else (none)) else (none)) else (none))))))))) else (none))
theorem petrinetlaw43_lives.mono_l : ∀ k, M13 petrinetlaw43_lives.j0 k
 | 0 => fun _ _ _ _ _ _ _ _ _ _ _ _ _ r h => by simp [petrinetlaw43_lives.j0] at h
 | k + 1 => by
  have er := petrinetlaw43_lives.mono_l k
  ·intro y0 y1 y2 y3 y4 y5 y6 y7 y8 y9 hJ hL hO
   unfold petrinetlaw43_lives.j0
   repeat' first | (with_reducible first | apply er | apply workflow_Close.mono | apply workflow_Final.mono | apply workflow_Is.mono | apply workflow_Prepare.mono | apply workflow_Problems.mono | apply workflow_Sink.mono | apply workflow_Source.mono | apply lr | apply ln | apply li | refine lb ?_ fun _ => ?_)
theorem petrinetlaw43_lives.mono : ∀ k, LeO (petrinetlaw43_lives.f k ) (petrinetlaw43_lives.f (k + 1) ) := by
 intro  k
 have er := petrinetlaw43_lives.mono_l k
 unfold petrinetlaw43_lives.f
 repeat' first | (with_reducible first | apply er | apply workflow_Close.mono | apply workflow_Final.mono | apply workflow_Is.mono | apply workflow_Prepare.mono | apply workflow_Problems.mono | apply workflow_Sink.mono | apply workflow_Source.mono | apply lr | apply ln | apply li | refine lb ?_ fun _ => ?_)
set_option maxHeartbeats 8000000 in
set_option maxRecDepth 100000 in
theorem petrinetlaw43_lives.calls (k : Nat)  (r : Bool) (w : World) (h : petrinetlaw43_lives.f k  = some r) :
  Calls Try.prog 11 #[] w fun e w' => e = .returned (.bool r) ∧ Below w.heap.size w w' := by
 have gr := Try.underlying25
 have gs := Try.underlying50
 have HB := am (Below.refl w.heap.size w)
 have H := h
 unfold petrinetlaw43_lives.f at H
 clear h
 replace H := bnd H
 obtain ⟨⟨aJ, af, aq⟩, A1, H⟩ := H
 (try dsimp only at H)
 replace H := ifp H
 obtain ⟨c2, H⟩ := H
 have dR := eq_true c2
 have dS : decide (1 ≤ (af.length : Int)) = true := decide_eq_true c2
 clear c2
 obtain ⟨aF, ci⟩ : ∃ y_ : List (S52), y_ = (af.take 1) := ⟨_, rfl⟩
 replace H : ((workflow_Source.f k aJ af aq).bind fun bP => ((workflow_Sink.f k aJ af aq).bind fun bQ => ((workflow_Problems.f k (⟨#[110]⟩ : ByteArray) aF ([] : List (S48))).bind fun aK => ((workflow_Prepare.f k aJ af aq).bind fun aY => ((workflow_Final.f k aJ af aq).bind fun bR => ((workflow_Close.f k aJ af aq).bind fun aZ => (if bP.1 = 0 then (if bP.2 = true then (if bQ.1 = 1 then (if bQ.2 = true then ((workflow_Is.f k aJ af aq).bind fun ck => (if ck = true then ((workflow_Is.f k (⟨#[110]⟩ : ByteArray) aF ([] : List (S48))).bind fun cm => (if cm = true then (none) else (if (aK.1.length : Int) = 1 then (if 0 < (aK.1.length : Int) then (if (!(((rd_T50 aK.1 0).f0) == 3) || (!(((rd_T50 aK.1 0).f1) == 0))) = true then (none) else (petrinetlaw43_lives.j0 k aY.2.2.2 bR.1 bR.2 aZ.2.2.2 (aK.2 != 0) (⟨#[110]⟩ : ByteArray) aF aY.1 aY.2.1 aY.2.2.1 aZ.1 aZ.2.1 aZ.2.2.1)) else (none)) else (none)))) else (none))) else (none)) else (none)) else (none)) else (none)))))))) = some r := hrp ci H
 have cz := am ci
 clear ci
 replace H := bnd H
 obtain ⟨⟨cQ, dr⟩, A3, H⟩ := H
 (try dsimp only at H)
 replace H := bnd H
 obtain ⟨⟨cR, dt⟩, A4, H⟩ := H
 (try dsimp only at H)
 replace H := bnd H
 obtain ⟨⟨bv, du⟩, A5, H⟩ := H
 (try dsimp only at H)
 replace H := bnd H
 obtain ⟨⟨cd, ar, aW, cr⟩, A6, H⟩ := H
 (try dsimp only at H)
 replace H := bnd H
 obtain ⟨⟨aS, cu⟩, A7, H⟩ := H
 (try dsimp only at H)
 replace H := bnd H
 obtain ⟨⟨cj, aT, aE, cv⟩, A8, H⟩ := H
 (try dsimp only at H)
 have dQ := am H
 clear H
 go_enter Try.func11, Try.ntmps11
 go_upto_region 9 with (first | ((with_reducible refine gate_callee (f := 34) rfl ?_); refine gC 17 Try.func34 _ (petrinetlaw43_line.calls  aJ af aq _ A1.1) ?_; rintro e gV ⟨ew, gw, rfl, aG, ho1, hb⟩; refine ⟨_, rfl, ?_⟩; have ab := am (Kd.R_lower (Kd.R_mono (ok' := fun k_ => True) aG (fun _ hk_ => trivial)) (below_size pbl)); have ac := am (Kd.N_lower (Kd.N_mono (ok' := fun k_ => some k_ ≠ (ew : Value).ownBlock) ho1 (fun k_ hk_ => hk_.2)) (below_size pbl)); replace HB := bsl hb; (try clear hb); (try clear aG); (try clear ho1)) | ((with_reducible refine gate_dst (N := 1) rfl ?_); (try (refine gate_guard (by rfl) ?_; dsimp only)); refine box_ev (N := 1) (cs := #[.string (⟨#[]⟩ : ByteArray), .slice none 0 0, .slice none 0 0]) (t := 25) ?_; intro ai hg gB hbox hb; have aa := am hbox; have cT := gwl hg; have eC := cT; replace ab := rbw ab hb; replace ac := am (Kd.N_below (Kd.N_elderB (pkn ac.1) ai (Nat.le_of_eq hg.symm)) hb); replace HB := bsl hb; clear hb hbox hg; have gF := cf3 aa.1; obtain ⟨ax, al, eh⟩ := Kd.R_slice ab.1; subst eh; obtain ⟨aX, aL, ei⟩ := Kd.N_slice ac.1; subst ei) | ((with_reducible refine gate_store (t := 25) (p := 1) rfl ?_); refine store_event (t := 25) (p := 1) (v := ?vo_w15) (w1 := (((gB.setCell ⟨ai, 0, none⟩ (.string aJ)).setCell ⟨ai, 1, none⟩ (.slice ax af.length al)).setCell ⟨ai, 2, none⟩ (.slice aX aq.length aL))) ?hg ?ho ?hn ?hr ?_; (case ho => rfl); (case hg => rfl); (case hn => rfl); (case hr => first | (go_simp; done) | (go_simp; rfl)); intro dI hw; replace ab : Aside0 (Kd.R k52 52 dI w.heap.size (fun _ => True) (.slice ax af.length al) af) := ⟨(by rw [hw]; exact (by (with_reducible repeat (first | apply Kd.R_alloc | apply Kd.R_drewN | apply Kd.R_drew)); exact Kd.R_mono (fR3 ai (Kd.R_types ab.1 aa.1 (by decide)) (fun _ hk => hk.2)) (fun _ hk => trivial)))⟩; replace ac : Aside0 (Kd.N k48 48 dI w.heap.size (fun k_ => some k_ ≠ (.slice ax af.length al : Value).ownBlock ∧ k_ ≠ ai) (.slice aX aq.length aL) aq) := ⟨(by rw [hw]; exact (by (with_reducible repeat (first | apply Kd.N_alloc | apply Kd.N_drewN | apply Kd.N_drew)); exact Kd.N_mono (fN3 ai (Kd.N_mono ac.1 (fun k_ hk => (⟨hk, hk.2⟩ : _ ∧ k_ ≠ ai))) (fun _ hk => hk.2)) (fun _ hk => ⟨hk.1.1, hk.1.2⟩)))⟩; replace aa : Aside0 (dI.heap[ai]? = some (.cells #[.string aJ, .slice ax af.length al, .slice aX aq.length aL] 25 (0, 0))) := ⟨(by rw [hw]; exact (by (with_reducible repeat (first | refine blk_drewN ?_ _ | refine blk_drew ?_ | refine blk_alloc ?_ _)); exact bp3 (pbk aa.1)))⟩; replace HB : Aside0 (Below w.heap.size w dI) := ⟨(by rw [hw]; exact pbg)⟩; clear hw; have gG := cf3 aa.1; have dB : (1 : Int) ≤ ((af.length : Int) : Int) := dq; obtain ⟨gu, cC, _, dp, _⟩ := info_parts info52; have hroom17 : af.length ≤ al := (Kd.R_reads' ab.1).2.1; have dn : Kd.F k52 _ _ ax af.length af := (Kd.V_at (base := w.heap.size) (Kd.R_V (Kd.R_types (Kd.R_apart' (ab.1) (Kd.N_typed ac.1) (by decide)) aa.1 (by decide)))).2.2; have cF := cut_to (P := Try.prog) 22 52 .i64 Try.underlying22 cC ax af.length al 1 (by omega) dB hroom17; have cG := Kd.F_take (m := 1) dn (by omega); have cH : aF.length = (1 : Int).toNat := (by rw [cz.1, List.length_take]; omega); rw [← cz.1] at cG; rw [← cH] at cF; have ah := am (show Kd.V k52 52 _ w.heap.size _ (.slice ax aF.length al) aF from Kd.V_mk (by omega) cG); have eH := am (show aF.length ≤ al from by omega); clear cG dn hroom17 cC dp; have gp := am cH; clear cH; replace dB := eq_true dB) | ((with_reducible refine gate_dst (N := 2) rfl ?_); (try (refine gate_guard (by rfl) ?_; dsimp only)); refine box_ev (N := 2) (cs := #[.string (⟨#[]⟩ : ByteArray), .slice none 0 0, .slice none 0 0]) (t := 25) ?_; intro ap hg gW hbox hb; have ae := am hbox; have cU := gwb hg; have eD := cU; have aN := nlt hg aa; have a3 := ngt hg aa; replace ab := rbw ab hb; replace ac := am (Kd.N_below (Kd.N_elderB (pkn ac.1) ap (Nat.le_of_eq hg.symm)) hb); replace ah := vbb ah hg hb; replace aa := bbh aa hb; replace HB := bst hb; clear hb hbox hg; have ft := a3.1; have fN := aN.1; have gH := cf3 ae.1; have gI := cf3 aa.1) | ((with_reducible refine gate_callee (f := 12) rfl ?_); refine gC 24 Try.func12 _ (workflow_Source.calls k aJ _ _ af _ _ aq cQ dr _ ?side1 ?side2 ?side3 ?side4 A3.1) ?_; (case side1 => refine (Kd.R_reads' (e := 52) (base := w.heap.size) (ok := fun k_ => True) (n := af.length) (c := al) ?_).2.2; exact (by (with_reducible repeat (first | apply Kd.R_alloc | apply Kd.R_drewN | apply Kd.R_drew)); exact (Kd.R_mono (fR3 ap (Kd.R_types ab.1 ae.1 (by decide)) (fun _ hk => hk.2)) (fun _ h_ => h_.1)))); (case side2 => exact (Kd.R_reads' ab.1).2.1); (case side3 => refine (Kd.N_reads' (e := 48) (base := w.heap.size) (ok := fun k_ => ((some k_ ≠ (.slice ax af.length al : Value).ownBlock ∧ k_ ≠ ai) ∧ k_ ≠ ap)) (n := aq.length) (c := aL) ?_).2.2; exact (by (with_reducible repeat (first | apply Kd.N_alloc | apply Kd.N_drewN | apply Kd.N_drew)); exact (fN3 ap ac.1 (fun k_ hk => hk.2)))); (case side4 => exact (Kd.N_reads' ac.1).2.1); rintro e gX ⟨rfl, hb⟩; refine ⟨_, rfl, ?_⟩; replace ab := am (Kd.R_below (by (with_reducible repeat (first | apply Kd.R_alloc | apply Kd.R_drewN | apply Kd.R_drew)); exact (Kd.R_mono (fR3 ap (Kd.R_types ab.1 ae.1 (by decide)) (fun _ hk => hk.2)) (fun _ h_ => h_.1))) hb); replace ac := am (Kd.N_below (by (with_reducible repeat (first | apply Kd.N_alloc | apply Kd.N_drewN | apply Kd.N_drew)); exact (fN3 ap ac.1 (fun k_ hk => hk.2))) hb); replace ah := am (Kd.V_below (by (with_reducible repeat (first | apply Kd.V_alloc | apply Kd.V_drewN | apply Kd.V_drew)); exact (fV3 ap ah.1 (fun k_ hk => hk.2))) hb); replace aa := bbx aa (fun h_ => by (with_reducible repeat (first | refine blk_drewN ?_ _ | refine blk_drew ?_ | refine blk_alloc ?_ _)); refine bf3 ?_ aN.1; exact pbk h_) hb; replace ae := am (blk_below (g := ap) (o := .cells #[.string (⟨#[110]⟩ : ByteArray), .slice ax aF.length al, .slice none 0 0] 25 (0, 0)) (by (with_reducible repeat (first | refine blk_drewN ?_ _ | refine blk_drew ?_ | refine blk_alloc ?_ _)); exact bp3 (pbk ae.1)) hb); replace HB := bst hb; (try clear hb); (try clear hk); have gJ := cf3 aa.1) | ((with_reducible refine gate_callee (f := 14) rfl ?_); refine gC 29 Try.func14 _ (workflow_Sink.calls k aJ _ _ af _ _ aq cR dt _ (csd ((Kd.R_reads' ab.1).2.2)) ((Kd.R_reads' ab.1).2.1) (csd ((Kd.N_reads' ac.1).2.2)) ((Kd.N_reads' ac.1).2.1) A4.1) ?_; rintro e gY ⟨rfl, hb⟩; refine ⟨_, rfl, ?_⟩; replace ab := rbw ab hb; replace ac := nbw ac hb; replace ah := vbw ah hb; replace aa := bbh aa hb; replace ae := bbh ae hb; replace HB := bst hb; (try clear hb); have z25 := cf3 ae.1) | ((with_reducible refine gate_callee (f := 18) rfl ?_); refine gC 34 Try.func18 _ (workflow_Problems.calls k (⟨#[110]⟩ : ByteArray) _ _ aF _ _ ([] : List (S48)) bv du _ (csd ((Kd.V_reads' ah.1).2.2)) ((Kd.V_reads' ah.1).2.1) (Kd.C_nil _ _) (Nat.le_refl _) A5.1) ?_; rintro e gZ ⟨cw, rfl, aG, hb⟩; refine ⟨_, rfl, ?_⟩; have ay := am (Kd.R_lower aG (below_size pbg)); replace ab := rbw ab hb; replace ac := am (Kd.N_elder' (pkn ac.1) (Kd.R_base aG) hb); replace ah := am (Kd.V_elder' (pkv ah.1) (Kd.R_base aG) hb); replace aa := bbh aa hb; replace ae := bbh ae hb; replace HB := bst hb; (try clear hb); (try clear aG); have gK := cf3 aa.1) | ((with_reducible refine gate_callee (f := 21) rfl ?_); refine gC 39 Try.func21 _ (workflow_Prepare.calls k aJ _ _ af _ _ aq cd ar aW cr _ (csd ((Kd.R_reads' ab.1).2.2)) ((Kd.R_reads' ab.1).2.1) (csd ((Kd.N_reads' ac.1).2.2)) ((Kd.N_reads' ac.1).2.1) A6.1) ?_; rintro e g4 ⟨ex, gx, rfl, aG, ho1, hb⟩; refine ⟨_, rfl, ?_⟩; have az := am (Kd.R_lower (Kd.R_new' aG (Kd.R_lt (pkr ab.1))) (below_size pbg)); have aD := am (Kd.N_lower (Kd.N_mono (ok' := fun k_ => some k_ ≠ (ex : Value).ownBlock ∧ some k_ ≠ (.slice ax af.length al : Value).ownBlock ∧ some k_ ≠ (.slice aX aq.length aL : Value).ownBlock ∧ some k_ ≠ (cw : Value).ownBlock ∧ k_ ≠ ai ∧ k_ ≠ ap) (Kd.S_N (Kd.S_bound (Kd.S_apart' ho1 (Kd.R_typed aG) (by decide)))) (fun k_ hk_ => ⟨hk_.1.2, (Kd.fresh' (Kd.R_lt (pkr ab.1)) k_ hk_.2.1), (Kd.fresh' (Kd.N_lt (pkn ac.1)) k_ hk_.2.1), (Kd.fresh' (Kd.R_lt (pkr ay.1)) k_ hk_.2.1), (Kd.freshB (g := ai) (o := .cells #[.string aJ, .slice ax af.length al, .slice aX aq.length aL] 25 (0, 0)) (by exact pbk aa.1) k_ hk_.2.1), (Kd.freshB (g := ap) (o := .cells #[.string (⟨#[110]⟩ : ByteArray), .slice ax aF.length al, .slice none 0 0] 25 (0, 0)) (by exact pbk ae.1) k_ hk_.2.1)⟩)) (below_size pbg)); replace ab := am (Kd.R_elder' (pkr ab.1) (Kd.R_base aG) hb); replace ac := am (Kd.N_mono (Kd.N_told (Kd.N_told (Kd.N_old (pkn ac.1) hb) (Kd.R_base aG)) (Kd.S_base ho1)) (fun _ h_ => h_.1)); replace ah := am (Kd.V_mono (Kd.V_told (Kd.V_told (Kd.V_old (pkv ah.1) hb) (Kd.R_base aG)) (Kd.S_base ho1)) (fun _ h_ => h_.1)); replace ay := rbw ay hb; replace aa := bbh aa hb; replace ae := bbh ae hb; replace HB := bst hb; (try clear hb); (try clear aG); (try clear ho1)) | ((with_reducible refine gate_dst (N := 9) rfl ?_); (try (refine gate_guard (by rfl) ?_; dsimp only)); refine box_ev (N := 9) (cs := #[.string (⟨#[]⟩ : ByteArray), .slice none 0 0, .slice none 0 0]) (t := 25) ?_; intro ak hg g5 hbox hb; have ag := am hbox; have cV := gwb hg; have eE := cV; have aO := nlt hg aa; have a4 := ngt hg aa; have aQ := nlt hg ae; have a5 := ngt hg ae; replace ab := rbw ab hb; replace ac := am (Kd.N_below (Kd.N_elderB (pkn ac.1) ak (Nat.le_of_eq hg.symm)) hb); replace ah := vbb ah hg hb; replace ay := rbw ay hb; replace az := rbw az hb; replace aD := am (Kd.N_below (Kd.N_elderB (pkn aD.1) ak (Nat.le_of_eq hg.symm)) hb); replace aa := bbh aa hb; replace ae := bbh ae hb; replace HB := bst hb; clear hb hbox hg; have fu := a4.1; have fO := aO.1; have fv := a5.1; have fP := aQ.1; have gL := cf3 ag.1; obtain ⟨aV, aM, ej⟩ := Kd.R_slice az.1; subst ej; obtain ⟨bd, bf, ek⟩ := Kd.N_slice aD.1; subst ek; have gM := cf3 aa.1) | ((with_reducible refine gate_callee (f := 23) rfl ?_); refine gC 44 Try.func23 _ (workflow_Final.calls k aJ _ _ af _ _ aq aS cu _ ?side1 ?side2 ?side3 ?side4 A7.1) ?_; (case side1 => refine (Kd.R_reads' (e := 52) (base := w.heap.size) (ok := fun k_ => (True ∧ some k_ ≠ (.slice aV ar.length aM : Value).ownBlock)) (n := af.length) (c := al) ?_).2.2; exact (by (with_reducible repeat (first | apply Kd.R_alloc | apply Kd.R_drewN | apply Kd.R_drew)); exact (Kd.R_mono (fR3 ak (Kd.R_types ab.1 ag.1 (by decide)) (fun _ hk => hk.2)) (fun _ h_ => h_.1)))); (case side2 => exact (Kd.R_reads' ab.1).2.1); (case side3 => refine (Kd.N_reads' (e := 48) (base := w.heap.size) (ok := fun k_ => ((((((some k_ ≠ (.slice ax af.length al : Value).ownBlock ∧ k_ ≠ ai) ∧ k_ ≠ ap) ∧ some k_ ≠ (cw : Value).ownBlock) ∧ some k_ ≠ (.slice aV ar.length aM : Value).ownBlock) ∧ some k_ ≠ (.slice bd aW.length bf : Value).ownBlock) ∧ k_ ≠ ak)) (n := aq.length) (c := aL) ?_).2.2; exact (by (with_reducible repeat (first | apply Kd.N_alloc | apply Kd.N_drewN | apply Kd.N_drew)); exact (fN3 ak ac.1 (fun k_ hk => hk.2)))); (case side4 => exact (Kd.N_reads' ac.1).2.1); rintro e g6 ⟨bT, rfl, aG, hb⟩; refine ⟨_, rfl, ?_⟩; have aU := am (Kd.R_lower aG (below_size pbg)); replace ab := am (Kd.R_below (by (with_reducible repeat (first | apply Kd.R_alloc | apply Kd.R_drewN | apply Kd.R_drew)); exact (Kd.R_mono (fR3 ak (Kd.R_types ab.1 ag.1 (by decide)) (fun _ hk => hk.2)) (fun _ h_ => h_.1))) hb); replace ac := am (Kd.N_elder' (by (with_reducible repeat (first | apply Kd.N_alloc | apply Kd.N_drewN | apply Kd.N_drew)); exact (fN3 ak ac.1 (fun k_ hk => hk.2))) (Kd.R_base aG) hb); replace ah := am (Kd.V_elder' (by (with_reducible repeat (first | apply Kd.V_alloc | apply Kd.V_drewN | apply Kd.V_drew)); exact (fV3 ak ah.1 (fun k_ hk => hk.2))) (Kd.R_base aG) hb); replace ay := am (Kd.R_below (by (with_reducible repeat (first | apply Kd.R_alloc | apply Kd.R_drewN | apply Kd.R_drew)); exact (Kd.R_mono (fR3 ak (Kd.R_types ay.1 ag.1 (by decide)) (fun _ hk => hk.2)) (fun _ h_ => h_.1))) hb); replace az := am (Kd.R_below (by (with_reducible repeat (first | apply Kd.R_alloc | apply Kd.R_drewN | apply Kd.R_drew)); exact (Kd.R_mono (fR3 ak (Kd.R_types az.1 ag.1 (by decide)) (fun _ hk => hk.2)) (fun _ h_ => h_.1))) hb); replace aD := am (Kd.N_elder' (by (with_reducible repeat (first | apply Kd.N_alloc | apply Kd.N_drewN | apply Kd.N_drew)); exact (fN3 ak aD.1 (fun k_ hk => hk.2))) (Kd.R_base aG) hb); replace aa := bbx aa (fun h_ => by (with_reducible repeat (first | refine blk_drewN ?_ _ | refine blk_drew ?_ | refine blk_alloc ?_ _)); refine bf3 ?_ aO.1; exact pbk h_) hb; replace ae := bbx ae (fun h_ => by (with_reducible repeat (first | refine blk_drewN ?_ _ | refine blk_drew ?_ | refine blk_alloc ?_ _)); refine bf3 ?_ aQ.1; exact pbk h_) hb; replace ag := am (blk_below (g := ak) (o := .cells #[.string cd, .slice aV ar.length aM, .slice bd aW.length bf] 25 (0, 0)) (by (with_reducible repeat (first | refine blk_drewN ?_ _ | refine blk_drew ?_ | refine blk_alloc ?_ _)); exact bp3 (pbk ag.1)) hb); replace HB := bst hb; (try clear hb); (try clear hk); (try clear aG); have gN := cf3 aa.1) | ((with_reducible refine gate_callee (f := 25) rfl ?_); refine gC 49 Try.func25 _ (workflow_Close.calls k aJ _ _ af _ _ aq cj aT aE cv _ (csd ((Kd.R_reads' ab.1).2.2)) ((Kd.R_reads' ab.1).2.1) (csd ((Kd.N_reads' ac.1).2.2)) ((Kd.N_reads' ac.1).2.1) A8.1) ?_; rintro e g7 ⟨ey, gy, rfl, aG, ho1, hb⟩; refine ⟨_, rfl, ?_⟩; have ba := am (Kd.R_lower (Kd.R_new' (Kd.R_new' aG (Kd.R_lt (pkr ab.1))) (Kd.R_lt (pkr az.1))) (below_size pbg)); have bb := am (Kd.N_lower (Kd.N_mono (ok' := fun k_ => some k_ ≠ (ey : Value).ownBlock ∧ some k_ ≠ (.slice ax af.length al : Value).ownBlock ∧ some k_ ≠ (.slice aX aq.length aL : Value).ownBlock ∧ some k_ ≠ (cw : Value).ownBlock ∧ some k_ ≠ (.slice aV ar.length aM : Value).ownBlock ∧ some k_ ≠ (.slice bd aW.length bf : Value).ownBlock ∧ some k_ ≠ (bT : Value).ownBlock ∧ k_ ≠ ai ∧ k_ ≠ ap ∧ k_ ≠ ak) (Kd.S_N (Kd.S_bound (Kd.S_apart' ho1 (Kd.R_typed aG) (by decide)))) (fun k_ hk_ => ⟨hk_.1.2, (Kd.fresh' (Kd.R_lt (pkr ab.1)) k_ hk_.2.1), (Kd.fresh' (Kd.N_lt (pkn ac.1)) k_ hk_.2.1), (Kd.fresh' (Kd.R_lt (pkr ay.1)) k_ hk_.2.1), (Kd.fresh' (Kd.R_lt (pkr az.1)) k_ hk_.2.1), (Kd.fresh' (Kd.N_lt (pkn aD.1)) k_ hk_.2.1), (Kd.fresh' (Kd.R_lt (pkr aU.1)) k_ hk_.2.1), (Kd.freshB (g := ai) (o := .cells #[.string aJ, .slice ax af.length al, .slice aX aq.length aL] 25 (0, 0)) (by exact pbk aa.1) k_ hk_.2.1), (Kd.freshB (g := ap) (o := .cells #[.string (⟨#[110]⟩ : ByteArray), .slice ax aF.length al, .slice none 0 0] 25 (0, 0)) (by exact pbk ae.1) k_ hk_.2.1), (Kd.freshB (g := ak) (o := .cells #[.string cd, .slice aV ar.length aM, .slice bd aW.length bf] 25 (0, 0)) (by exact pbk ag.1) k_ hk_.2.1)⟩)) (below_size pbg)); replace ab := am (Kd.R_elder' (pkr ab.1) (Kd.R_base aG) hb); replace ac := am (Kd.N_mono (Kd.N_told (Kd.N_told (Kd.N_old (pkn ac.1) hb) (Kd.R_base aG)) (Kd.S_base ho1)) (fun _ h_ => h_.1)); replace ah := am (Kd.V_mono (Kd.V_told (Kd.V_told (Kd.V_old (pkv ah.1) hb) (Kd.R_base aG)) (Kd.S_base ho1)) (fun _ h_ => h_.1)); replace ay := rbw ay hb; replace az := am (Kd.R_elder' (pkr az.1) (Kd.R_base aG) hb); replace aD := am (Kd.N_mono (Kd.N_told (Kd.N_told (Kd.N_old (pkn aD.1) hb) (Kd.R_base aG)) (Kd.S_base ho1)) (fun _ h_ => h_.1)); replace aU := rbw aU hb; replace aa := bbh aa hb; replace ae := bbh ae hb; replace ag := bbh ag hb; replace HB := bst hb; (try clear hb); (try clear aG); (try clear ho1)) | ((with_reducible refine gate_dst (N := 13) rfl ?_); (try (refine gate_guard (by rfl) ?_; dsimp only)); refine box_ev (N := 13) (cs := #[.string (⟨#[]⟩ : ByteArray), .slice none 0 0, .slice none 0 0]) (t := 25) ?_; intro aj hg g8 hbox hb; have ao := am hbox; have cW := gwb hg; have eF := cW; have aP := nlt hg aa; have a7 := ngt hg aa; have aR := nlt hg ae; have a8 := ngt hg ae; have a6 := nlt hg ag; have bw := ngt hg ag; replace ab := rbw ab hb; replace ac := am (Kd.N_below (Kd.N_elderB (pkn ac.1) aj (Nat.le_of_eq hg.symm)) hb); replace ah := vbb ah hg hb; replace ay := rbw ay hb; replace az := rbw az hb; replace aD := am (Kd.N_below (Kd.N_elderB (pkn aD.1) aj (Nat.le_of_eq hg.symm)) hb); replace aU := rbw aU hb; replace ba := rbw ba hb; replace bb := am (Kd.N_below (Kd.N_elderB (pkn bb.1) aj (Nat.le_of_eq hg.symm)) hb); replace aa := bbh aa hb; replace ae := bbh ae hb; replace ag := bbh ag hb; replace HB := bst hb; clear hb hbox hg; have fw := a7.1; have fQ := aP.1; have fx := a8.1; have fR := aR.1; have fy := bw.1; have fS := a6.1; have gO := cf3 ao.1; obtain ⟨a2, a9, el⟩ := Kd.R_slice ba.1; subst el; obtain ⟨bS, bx, em⟩ := Kd.N_slice bb.1; subst em))
 (try simp only [Act.put, List.setIfInBounds_toArray, List.set_cons_zero, List.set_cons_succ])
 go_cut [90] (fun gA wc => ∃ (kq : Nat) (b3 : Bool), gA = .bool b3 ∧ Aside0 (petrinetlaw43_lives.j0 kq cr aS cu cv b3 (⟨#[110]⟩ : ByteArray) aF cd ar aW cj aT aE = some r) ∧ Aside0 (kq ≤ k) ∧ Aside0 (Kd.R (Kd.int .i64) 3 wc w.heap.size (fun _ => True) bT aS) ∧ Aside0 (Kd.R k52 52 wc w.heap.size (fun k_ => some k_ ≠ ((.slice aV ar.length aM) : Value).ownBlock ∧ some k_ ≠ ((.slice a2 aT.length a9) : Value).ownBlock) (.slice ax af.length al) af) ∧ Aside0 (Kd.N k48 48 wc w.heap.size (fun k_ => some k_ ≠ (bT : Value).ownBlock ∧ some k_ ≠ ((.slice ax af.length al) : Value).ownBlock ∧ some k_ ≠ ((.slice aV ar.length aM) : Value).ownBlock ∧ some k_ ≠ ((.slice bd aW.length bf) : Value).ownBlock ∧ some k_ ≠ ((.slice a2 aT.length a9) : Value).ownBlock ∧ some k_ ≠ ((.slice bS aE.length bx) : Value).ownBlock ∧ k_ ≠ ai ∧ k_ ≠ ap ∧ k_ ≠ ak ∧ k_ ≠ aj) (.slice aX aq.length aL) aq) ∧ Aside0 (Kd.V k52 52 wc w.heap.size (fun k_ => some k_ ≠ (bT : Value).ownBlock ∧ some k_ ≠ ((.slice aX aq.length aL) : Value).ownBlock ∧ some k_ ≠ ((.slice aV ar.length aM) : Value).ownBlock ∧ some k_ ≠ ((.slice bd aW.length bf) : Value).ownBlock ∧ some k_ ≠ ((.slice a2 aT.length a9) : Value).ownBlock ∧ some k_ ≠ ((.slice bS aE.length bx) : Value).ownBlock ∧ k_ ≠ ai ∧ k_ ≠ ap ∧ k_ ≠ ak ∧ k_ ≠ aj) (.slice ax aF.length al) aF) ∧ Aside0 (Kd.R k52 52 wc w.heap.size (fun k_ => some k_ ≠ ((.slice ax af.length al) : Value).ownBlock ∧ some k_ ≠ ((.slice a2 aT.length a9) : Value).ownBlock) (.slice aV ar.length aM) ar) ∧ Aside0 (Kd.N k48 48 wc w.heap.size (fun k_ => some k_ ≠ (bT : Value).ownBlock ∧ some k_ ≠ ((.slice ax af.length al) : Value).ownBlock ∧ some k_ ≠ ((.slice aX aq.length aL) : Value).ownBlock ∧ some k_ ≠ ((.slice aV ar.length aM) : Value).ownBlock ∧ some k_ ≠ ((.slice a2 aT.length a9) : Value).ownBlock ∧ some k_ ≠ ((.slice bS aE.length bx) : Value).ownBlock ∧ k_ ≠ ai ∧ k_ ≠ ap ∧ k_ ≠ ak ∧ k_ ≠ aj) (.slice bd aW.length bf) aW) ∧ Aside0 (Kd.R k52 52 wc w.heap.size (fun k_ => some k_ ≠ ((.slice ax af.length al) : Value).ownBlock ∧ some k_ ≠ ((.slice aV ar.length aM) : Value).ownBlock) (.slice a2 aT.length a9) aT) ∧ Aside0 (Kd.N k48 48 wc w.heap.size (fun k_ => some k_ ≠ (bT : Value).ownBlock ∧ some k_ ≠ ((.slice ax af.length al) : Value).ownBlock ∧ some k_ ≠ ((.slice aX aq.length aL) : Value).ownBlock ∧ some k_ ≠ ((.slice aV ar.length aM) : Value).ownBlock ∧ some k_ ≠ ((.slice bd aW.length bf) : Value).ownBlock ∧ some k_ ≠ ((.slice a2 aT.length a9) : Value).ownBlock ∧ k_ ≠ ai ∧ k_ ≠ ap ∧ k_ ≠ ak ∧ k_ ≠ aj) (.slice bS aE.length bx) aE) ∧ Aside0 (wc.heap[ai]? = some (.cells #[.string aJ, (.slice ax af.length al), (.slice aX aq.length aL)] 25 (0, 0))) ∧ Aside0 (wc.heap[ap]? = some (.cells #[.string (⟨#[110]⟩ : ByteArray), (.slice ax aF.length al), (.slice none 0 0)] 25 (0, 0))) ∧ Aside0 (wc.heap[ak]? = some (.cells #[.string cd, (.slice aV ar.length aM), (.slice bd aW.length bf)] 25 (0, 0))) ∧ Aside0 (wc.heap[aj]? = some (.cells #[.string cj, (.slice a2 aT.length a9), (.slice bS aE.length bx)] 25 (0, 0))) ∧ Aside0 (Below w.heap.size w wc))
 case first =>
  have H := dQ.1
  clear dQ
  replace H := ifp H
  obtain ⟨dy, H⟩ := H
  have ch : (cQ == 0) = true := beq_iff_eq.mpr dy
  have db : (cQ != 0) = false := bne_eq_false_iff_eq.mpr dy
  clear dy
  (first | rw [ch] | (simp only [i64_w, i32_w]; rw [ch]) | skip)
  cases dr
  ·rw [if_neg Bool.false_ne_true] at H
   exact absurd H (by simp)
  rw [if_pos rfl] at H
  replace H := ifp H
  obtain ⟨dz, H⟩ := H
  have dc : (cR == 1) = true := beq_iff_eq.mpr dz
  have de : (cR != 1) = false := bne_eq_false_iff_eq.mpr dz
  clear dz
  cases dt
  ·rw [if_neg Bool.false_ne_true] at H
   exact absurd H (by simp)
  rw [if_pos rfl] at H
  replace H := bnd H
  obtain ⟨ck, gj, H⟩ := H
  (try dsimp only at H)
  cases ck
  ·rw [if_neg Bool.false_ne_true] at H
   exact absurd H (by simp)
  rw [if_pos rfl] at H
  replace H := bnd H
  obtain ⟨cm, gk, H⟩ := H
  (try dsimp only at H)
  cases cm
  rotate_left
  ·rw [if_pos rfl] at H
   exact absurd H (by simp)
  rw [if_neg Bool.false_ne_true] at H
  replace H := ifp H
  obtain ⟨dA, H⟩ := H
  have df : ((bv.length : Int) == 1) = true := beq_iff_eq.mpr dA
  have dg : ((bv.length : Int) != 1) = false := bne_eq_false_iff_eq.mpr dA
  clear dA
  replace H := ifp H
  obtain ⟨dX, H⟩ := H
  have dh := decide_eq_true dX
  have di : decide (0 < bv.length) = true := decide_eq_true (by omega)
  clear dX
  by_cases dj : (!(((rd_T50 bv 0).f0) == 3) || (!(((rd_T50 bv 0).f1) == 0))) = true
  ·rw [if_pos dj] at H
   exact absurd H (by simp)
  rw [if_neg dj] at H
  have dk : (!(((rd_T50 bv 0).f0) == 3) || (!(((rd_T50 bv 0).f1) == 0))) = false := by simpa using dj
  clear dj
  have H' := am H
  clear H
  have fz := aN.1
  have fT := a3.1
  have fA := aO.1
  have fU := a4.1
  have fB := aP.1
  have fV := a7.1
  have z60 := cf3 aa.1
  have tk0_ := am True.intro
  have tk1_ := am True.intro
  go_wp2_with (first | (go_at_call 16; have _t := tk0_; (with_reducible refine (workflow_Is.calls k aJ _ _ af _ _ aq true _ ?side1 ?side2 ?side3 ?side4 gj.1).mono ?_); (case side1 => refine (Kd.R_reads' (e := 52) (base := w.heap.size) (ok := fun k_ => ((True ∧ some k_ ≠ (.slice aV ar.length aM : Value).ownBlock) ∧ some k_ ≠ (.slice a2 aT.length a9 : Value).ownBlock)) (n := af.length) (c := al) ?_).2.2; exact (by (with_reducible repeat (first | apply Kd.R_alloc | apply Kd.R_drewN | apply Kd.R_drew)); exact (Kd.R_mono (fR3 aj (Kd.R_types ab.1 ao.1 (by decide)) (fun _ hk => hk.2)) (fun _ h_ => h_.1)))); (case side2 => exact (Kd.R_reads' ab.1).2.1); (case side3 => refine (Kd.N_reads' (e := 48) (base := w.heap.size) (ok := fun k_ => ((((((((((some k_ ≠ (.slice ax af.length al : Value).ownBlock ∧ k_ ≠ ai) ∧ k_ ≠ ap) ∧ some k_ ≠ (cw : Value).ownBlock) ∧ some k_ ≠ (.slice aV ar.length aM : Value).ownBlock) ∧ some k_ ≠ (.slice bd aW.length bf : Value).ownBlock) ∧ k_ ≠ ak) ∧ some k_ ≠ (bT : Value).ownBlock) ∧ some k_ ≠ (.slice a2 aT.length a9 : Value).ownBlock) ∧ some k_ ≠ (.slice bS aE.length bx : Value).ownBlock) ∧ k_ ≠ aj)) (n := aq.length) (c := aL) ?_).2.2; exact (by (with_reducible repeat (first | apply Kd.N_alloc | apply Kd.N_drewN | apply Kd.N_drew)); exact (fN3 aj ac.1 (fun k_ hk => hk.2)))); (case side4 => exact (Kd.N_reads' ac.1).2.1); rintro e g9 ⟨rfl, hb⟩; replace ab := am (Kd.R_below (by (with_reducible repeat (first | apply Kd.R_alloc | apply Kd.R_drewN | apply Kd.R_drew)); exact (Kd.R_mono (fR3 aj (Kd.R_types ab.1 ao.1 (by decide)) (fun _ hk => hk.2)) (fun _ h_ => h_.1))) hb); replace ac := am (Kd.N_below (by (with_reducible repeat (first | apply Kd.N_alloc | apply Kd.N_drewN | apply Kd.N_drew)); exact (fN3 aj ac.1 (fun k_ hk => hk.2))) hb); replace ah := am (Kd.V_below (by (with_reducible repeat (first | apply Kd.V_alloc | apply Kd.V_drewN | apply Kd.V_drew)); exact (fV3 aj ah.1 (fun k_ hk => hk.2))) hb); replace ay := am (Kd.R_below (by (with_reducible repeat (first | apply Kd.R_alloc | apply Kd.R_drewN | apply Kd.R_drew)); exact (Kd.R_mono (fR3 aj (Kd.R_types ay.1 ao.1 (by decide)) (fun _ hk => hk.2)) (fun _ h_ => h_.1))) hb); replace az := am (Kd.R_below (by (with_reducible repeat (first | apply Kd.R_alloc | apply Kd.R_drewN | apply Kd.R_drew)); exact (Kd.R_mono (fR3 aj (Kd.R_types az.1 ao.1 (by decide)) (fun _ hk => hk.2)) (fun _ h_ => h_.1))) hb); replace aD := am (Kd.N_below (by (with_reducible repeat (first | apply Kd.N_alloc | apply Kd.N_drewN | apply Kd.N_drew)); exact (fN3 aj aD.1 (fun k_ hk => hk.2))) hb); replace aU := am (Kd.R_below (by (with_reducible repeat (first | apply Kd.R_alloc | apply Kd.R_drewN | apply Kd.R_drew)); exact (Kd.R_mono (fR3 aj (Kd.R_types aU.1 ao.1 (by decide)) (fun _ hk => hk.2)) (fun _ h_ => h_.1))) hb); replace ba := am (Kd.R_below (by (with_reducible repeat (first | apply Kd.R_alloc | apply Kd.R_drewN | apply Kd.R_drew)); exact (Kd.R_mono (fR3 aj (Kd.R_types ba.1 ao.1 (by decide)) (fun _ hk => hk.2)) (fun _ h_ => h_.1))) hb); replace bb := am (Kd.N_below (by (with_reducible repeat (first | apply Kd.N_alloc | apply Kd.N_drewN | apply Kd.N_drew)); exact (fN3 aj bb.1 (fun k_ hk => hk.2))) hb); replace aa := bbx aa (fun h_ => by (with_reducible repeat (first | refine blk_drewN ?_ _ | refine blk_drew ?_ | refine blk_alloc ?_ _)); refine bf3 ?_ aP.1; exact pbk h_) hb; replace ae := bbx ae (fun h_ => by (with_reducible repeat (first | refine blk_drewN ?_ _ | refine blk_drew ?_ | refine blk_alloc ?_ _)); refine bf3 ?_ aR.1; exact pbk h_) hb; replace ag := bbx ag (fun h_ => by (with_reducible repeat (first | refine blk_drewN ?_ _ | refine blk_drew ?_ | refine blk_alloc ?_ _)); refine bf3 ?_ a6.1; exact pbk h_) hb; replace ao := am (blk_below (g := aj) (o := .cells #[.string cj, .slice a2 aT.length a9, .slice bS aE.length bx] 25 (0, 0)) (by (with_reducible repeat (first | refine blk_drewN ?_ _ | refine blk_drew ?_ | refine blk_alloc ?_ _)); exact bp3 (pbk ao.1)) hb); replace HB := bst hb; (try clear hb); (try clear hk); have fC := aQ.1; have fW := a5.1; have fD := aR.1; have fX := a8.1; have gP := cf3 ae.1; clear tk0_ _t) | (go_at_call 16; have _t := tk1_; (refine (workflow_Is.calls k (⟨#[110]⟩ : ByteArray) _ _ aF _ _ ([] : List (S48)) false _ ?side1 ?side2 ?side3 ?side4 gk.1).mono ?_); (case side1 => exact csd ((Kd.V_reads' ah.1).2.2)); (case side2 => exact (Kd.V_reads' ah.1).2.1); (case side3 => exact Kd.C_nil _ _); (case side4 => exact Nat.le_refl _); rintro e hD ⟨rfl, hb⟩; replace ab := rbw ab hb; replace ac := nbw ac hb; replace ah := vbw ah hb; replace ay := rbw ay hb; replace az := rbw az hb; replace aD := nbw aD hb; replace aU := rbw aU hb; replace ba := rbw ba hb; replace bb := nbw bb hb; replace aa := bbh aa hb; replace ae := bbh ae hb; replace ag := bbh ag hb; replace ao := bbh ao hb; replace HB := bst hb; (try clear hb); obtain ⟨gm, gq, en⟩ := Kd.R_slice ay.1; subst en; have cn : 0 ≤ (0 : Int) := (by omega); have cp : 0 < (bv.length : Int) := dq; obtain ⟨eI, ea, bp, bq⟩ := at_T50 (Kd.R_reads' ay.1).2.2 0 cn cp; cases ea; have gc : (0 < bv.length) = True := eq_true (by omega); (try rw [show ((0 : Int)).toNat = 0 from rfl] at bp); (try rw [show 0 * 2 = 0 from rfl] at bp); (try rw [Addr.add_zero'] at bp); (try rw [show ((0 : Int)).toNat = 0 from rfl] at bq); (try rw [show 0 * 2 = 0 from rfl] at bq); (try rw [Addr.add_zero'] at bq); replace cn := eq_true cn; replace cp := eq_true cp; clear tk1_ _t))
  go_meet
  case rel => exact ⟨_, ((du != 0)), prs, H', ⟨by first | omega | exact Nat.le_refl _⟩, ⟨pkr aU.1⟩, ⟨by (with_reducible repeat (first | apply Kd.R_alloc | apply Kd.R_drewN | apply Kd.R_drew)); exact Kd.R_mono ab.1 (fun _ hk => ⟨hk.1.2, hk.2⟩)⟩, ⟨by (with_reducible repeat (first | apply Kd.N_alloc | apply Kd.N_drewN | apply Kd.N_drew)); exact Kd.N_mono ac.1 (fun _ hk => ⟨hk.1.1.1.2, ⟨hk.1.1.1.1.1.1.1.1.1.1, ⟨hk.1.1.1.1.1.1.2, ⟨hk.1.1.1.1.1.2, ⟨hk.1.1.2, ⟨hk.1.2, ⟨hk.1.1.1.1.1.1.1.1.1.2, ⟨hk.1.1.1.1.1.1.1.1.2, ⟨hk.1.1.1.1.2, hk.2⟩⟩⟩⟩⟩⟩⟩⟩⟩)⟩, ⟨by (with_reducible repeat (first | apply Kd.V_alloc | apply Kd.V_drewN | apply Kd.V_drew)); exact Kd.V_mono ah.1 (fun _ hk => ⟨hk.1.1.1.2, ⟨hk.1.1.1.1.1.1.1.1.1.1.2, ⟨hk.1.1.1.1.1.1.2, ⟨hk.1.1.1.1.1.2, ⟨hk.1.1.2, ⟨hk.1.2, ⟨hk.1.1.1.1.1.1.1.1.1.2, ⟨hk.1.1.1.1.1.1.1.1.2, ⟨hk.1.1.1.1.2, hk.2⟩⟩⟩⟩⟩⟩⟩⟩⟩)⟩, ⟨by (with_reducible repeat (first | apply Kd.R_alloc | apply Kd.R_drewN | apply Kd.R_drew)); exact Kd.R_mono az.1 (fun _ hk => ⟨hk.1.2, hk.2⟩)⟩, ⟨by (with_reducible repeat (first | apply Kd.N_alloc | apply Kd.N_drewN | apply Kd.N_drew)); exact Kd.N_mono aD.1 (fun _ hk => ⟨hk.1.1.1.2, ⟨hk.1.1.1.1.1.2.1, ⟨hk.1.1.1.1.1.2.2.1, ⟨hk.1.1.1.1.1.1, ⟨hk.1.1.2, ⟨hk.1.2, ⟨hk.1.1.1.1.1.2.2.2.2.1, ⟨hk.1.1.1.1.1.2.2.2.2.2, ⟨hk.1.1.1.1.2, hk.2⟩⟩⟩⟩⟩⟩⟩⟩⟩)⟩, ⟨by (with_reducible repeat (first | apply Kd.R_alloc | apply Kd.R_drewN | apply Kd.R_drew)); exact Kd.R_mono ba.1 (fun _ hk => ⟨hk.1.2, hk.2⟩)⟩, ⟨by (with_reducible repeat (first | apply Kd.N_alloc | apply Kd.N_drewN | apply Kd.N_drew)); exact Kd.N_mono bb.1 (fun _ hk => ⟨hk.1.2.2.2.2.2.2.1, ⟨hk.1.2.1, ⟨hk.1.2.2.1, ⟨hk.1.2.2.2.2.1, ⟨hk.1.2.2.2.2.2.1, ⟨hk.1.1, ⟨hk.1.2.2.2.2.2.2.2.1, ⟨hk.1.2.2.2.2.2.2.2.2.1, ⟨hk.1.2.2.2.2.2.2.2.2.2, hk.2⟩⟩⟩⟩⟩⟩⟩⟩⟩)⟩, ⟨pbk aa.1⟩, ⟨pbk ae.1⟩, ⟨pbk ag.1⟩, ⟨pbk ao.1⟩, ⟨pbg⟩⟩
 clear dQ
 try clear c2 dR dS dB dy ch db gR dz dc de gS gT gU dA df dg dX dh di dj dk gF gG gH gI gJ z25 gK gL gM gN gO z60 gP bp bq cn cp
 obtain ⟨kq, b3, rfl, HA, gQ, bc, aA, aH, aB, au, aI, aC, av, aa, ae, ag, ao, HB⟩ := hcut
 obtain _ | gv := kq
 ·exact absurd HA.1 (by simp [petrinetlaw43_lives.j0])
 have H := HA.1
 clear HA
 simp only [petrinetlaw43_lives.j0] at H
 cases b3
 rotate_left
 ·rw [if_pos rfl] at H
  exact absurd H (by simp)
 rw [if_neg Bool.false_ne_true] at H
 replace H := ifp H
 obtain ⟨dY, H⟩ := H
 have eJ : ((ar.length : Int) == 2) = true := beq_iff_eq.mpr dY
 have eK : ((ar.length : Int) != 2) = false := bne_eq_false_iff_eq.mpr dY
 clear dY
 replace H := ifp H
 obtain ⟨eL, H⟩ := H
 have eM := decide_eq_true eL
 have eN : decide (0 < ar.length) = true := decide_eq_true (by omega)
 clear eL
 replace H := ifp H
 obtain ⟨dZ, H⟩ := H
 have eO : (((rd_T52 ar 0).f1) == 1) = true := beq_iff_eq.mpr dZ
 have eP : (((rd_T52 ar 0).f1) != 1) = false := bne_eq_false_iff_eq.mpr dZ
 clear dZ
 replace H := ifp H
 obtain ⟨eQ, H⟩ := H
 have eR := decide_eq_true eQ
 have eS : decide (1 < ar.length) = true := decide_eq_true (by omega)
 clear eQ
 replace H := ifp H
 obtain ⟨d0, H⟩ := H
 have eT : (((rd_T52 ar 1).f1) == 0) = true := beq_iff_eq.mpr d0
 have eU : (((rd_T52 ar 1).f1) != 0) = false := bne_eq_false_iff_eq.mpr d0
 clear d0
 replace H := ifp H
 obtain ⟨d1, H⟩ := H
 have eV : (cr == 0) = true := beq_iff_eq.mpr d1
 have eW : (cr != 0) = false := bne_eq_false_iff_eq.mpr d1
 clear d1
 replace H := ifp H
 obtain ⟨d2, H⟩ := H
 have eX : ((aS.length : Int) == 2) = true := beq_iff_eq.mpr d2
 have eY : ((aS.length : Int) != 2) = false := bne_eq_false_iff_eq.mpr d2
 clear d2
 replace H := ifp H
 obtain ⟨eZ, H⟩ := H
 have e0 := decide_eq_true eZ
 have e4 : decide (0 < aS.length) = true := decide_eq_true (by omega)
 clear eZ
 replace H := ifp H
 obtain ⟨d3, H⟩ := H
 have e5 : ((rd aS 0) == 0) = true := beq_iff_eq.mpr d3
 have e6 : ((rd aS 0) != 0) = false := bne_eq_false_iff_eq.mpr d3
 clear d3
 replace H := ifp H
 obtain ⟨e7, H⟩ := H
 have e8 := decide_eq_true e7
 have e9 : decide (1 < aS.length) = true := decide_eq_true (by omega)
 clear e7
 replace H := ifp H
 obtain ⟨d4, H⟩ := H
 have fa : ((rd aS 1) == 1) = true := beq_iff_eq.mpr d4
 have fb : ((rd aS 1) != 1) = false := bne_eq_false_iff_eq.mpr d4
 clear d4
 replace H := ifp H
 obtain ⟨d5, H⟩ := H
 have fc : (cu == 0) = true := beq_iff_eq.mpr d5
 have fd : (cu != 0) = false := bne_eq_false_iff_eq.mpr d5
 clear d5
 replace H := ifp H
 obtain ⟨d6, H⟩ := H
 have fe : ((aE.length : Int) == 2) = true := beq_iff_eq.mpr d6
 have ff : ((aE.length : Int) != 2) = false := bne_eq_false_iff_eq.mpr d6
 clear d6
 replace H := ifp H
 obtain ⟨fg, H⟩ := H
 have fh := decide_eq_true fg
 have fi : decide (1 < aE.length) = true := decide_eq_true (by omega)
 clear fg
 replace H := ifp H
 obtain ⟨d7, H⟩ := H
 have fj : (((rd_T48 aE 1).f0).toList == ([95, 99, 108, 111, 115, 101] : List UInt8)) = true := beq_iff_eq.mpr d7
 have fk : (((rd_T48 aE 1).f0).toList != ([95, 99, 108, 111, 115, 101] : List UInt8)) = false := bne_eq_false_iff_eq.mpr d7
 clear d7
 replace H := ifp H
 obtain ⟨d8, H⟩ := H
 have fl : (cv == 0) = true := beq_iff_eq.mpr d8
 have fm : (cv != 0) = false := bne_eq_false_iff_eq.mpr d8
 clear d8
 replace H := bnd H
 obtain ⟨⟨es, et, eu, ev⟩, gl, H⟩ := H
 (try dsimp only at H)
 obtain rfl := Option.some.inj H
 have fE := a4.1
 have fY := aO.1
 have fF := a5.1
 have fZ := aQ.1
 have fG := a6.1
 have f5 := bw.1
 have hP := cf3 ag.1
 have cI : 0 ≤ (0 : Int) := (by omega)
 have cM : 0 < (ar.length : Int) := dq
 obtain ⟨cg, ec, bD, bE, bF⟩ := at_T52 (Kd.R_reads' au.1).2.2 0 cI cM
 cases ec
 have ge : (0 < ar.length) = True := eq_true (by omega)
 (try rw [show ((0 : Int)).toNat = 0 from rfl] at bD)
 (try rw [show 0 * 3 = 0 from rfl] at bD)
 (try rw [Addr.add_zero'] at bD)
 (try rw [show ((0 : Int)).toNat = 0 from rfl] at bE)
 (try rw [show 0 * 3 = 0 from rfl] at bE)
 (try rw [Addr.add_zero'] at bE)
 (try rw [show ((0 : Int)).toNat = 0 from rfl] at bF)
 (try rw [show 0 * 3 = 0 from rfl] at bF)
 (try rw [Addr.add_zero'] at bF)
 replace cI := eq_true cI
 replace cM := eq_true cM
 have cJ : 0 ≤ (1 : Int) := (by omega)
 have cN : 1 < (ar.length : Int) := dq
 obtain ⟨cY, ed, bG, bH, bI⟩ := at_T52 (Kd.R_reads' au.1).2.2 1 cJ cN
 obtain rfl : cg = cY := (by injection ed)
 (try simp only [show (1 : Int).toNat = 1 from rfl, Nat.reduceMul, Nat.reduceEqDiff, Go.Addr.add, ↓reduceIte] at bG)
 (try simp only [show (1 : Int).toNat = 1 from rfl, Nat.reduceMul, Nat.reduceEqDiff, Go.Addr.add, ↓reduceIte] at bH)
 (try simp only [show (1 : Int).toNat = 1 from rfl, Nat.reduceMul, Nat.reduceEqDiff, Go.Addr.add, ↓reduceIte] at bI)
 have gf : (1 < ar.length) = True := eq_true (by omega)
 (try rw [show ((1 : Int)).toNat = 1 from rfl] at bG)
 (try rw [show 1 * 3 = 3 from rfl] at bG)
 (try rw [show ((1 : Int)).toNat = 1 from rfl] at bH)
 (try rw [show 1 * 3 = 3 from rfl] at bH)
 (try rw [show ((1 : Int)).toNat = 1 from rfl] at bI)
 (try rw [show 1 * 3 = 3 from rfl] at bI)
 replace cJ := eq_true cJ
 replace cN := eq_true cN
 obtain ⟨gn, d9, eo⟩ := Kd.R_slice bc.1
 subst eo
 have cK : 0 ≤ (0 : Int) := (by omega)
 have cO : 0 < (aS.length : Int) := dq
 obtain ⟨cA, ee, b1⟩ := Kd.at_int (Kd.R_reads' bc.1).2.2 0 cK cO
 cases ee
 have gg : (0 < aS.length) = True := eq_true (by omega)
 (try rw [show ((0 : Int)).toNat = 0 from rfl] at b1)
 (try rw [Addr.add_zero'] at b1)
 replace cK := eq_true cK
 replace cO := eq_true cO
 have cL : 0 ≤ (1 : Int) := (by omega)
 have cP : 1 < (aS.length : Int) := dq
 obtain ⟨cZ, ef, b2⟩ := Kd.at_int (Kd.R_reads' bc.1).2.2 1 cL cP
 obtain rfl : cA = cZ := (by injection ef)
 (try simp only [show (1 : Int).toNat = 1 from rfl, Nat.reduceMul, Nat.reduceEqDiff, Go.Addr.add, ↓reduceIte] at b2)
 have gh : (1 < aS.length) = True := eq_true (by omega)
 (try rw [show ((1 : Int)).toNat = 1 from rfl] at b2)
 replace cL := eq_true cL
 replace cP := eq_true cP
 have fH := a7.1
 have f6 := aP.1
 have fI := a8.1
 have f7 := aR.1
 have hU := cf3 ao.1
 have co : 0 ≤ (1 : Int) := (by omega)
 have cq : 1 < (aE.length : Int) := dq
 obtain ⟨cB, dN, dU, dO, dV, dP, dW, eg, bJ, br, bs, bu, bK, bY, bV, bZ, bW, b0, bX⟩ := at_T48 (Kd.N_reads' av.1).2.2 1 co cq
 cases eg
 obtain ⟨fo, cE, cD, bC⟩ := Kd.N_get av.1 z48 1 co (by first | exact cq | exact dq | (have e_ := (Kd.N_reads' av.1).1; omega))
 obtain ⟨dC, dF, dD, dG, dE, dH, rfl, bL, bz, bM, bA, bN, bB⟩ := k48_openF cD
 have bm := bC 1 _ rfl
 rw [add_field _ _ 1 (by omega)] at bm
 replace bm := Option.some.inj (bm.symm.trans br)
 injection bm with hva_ hvn_ hvc_
 rw [hva_] at bz
 rw [hvc_] at bL
 have bg := am (show Kd.V k55 55 _ w.heap.size _ _ ((rd_T48 aE 1).f1) from Kd.V_mk bL bz)
 clear hva_ hvn_ hvc_ bz bL
 have bn := bC 2 _ rfl
 rw [add_field _ _ 2 (by omega)] at bn
 replace bn := Option.some.inj (bn.symm.trans bs)
 injection bn with hva_ hvn_ hvc_
 rw [hva_] at bA
 rw [hvc_] at bM
 have bh := am (show Kd.V k55 55 _ w.heap.size _ _ ((rd_T48 aE 1).f2) from Kd.V_mk bM bA)
 clear hva_ hvn_ hvc_ bA bM
 have bo := bC 3 _ rfl
 rw [add_field _ _ 3 (by omega)] at bo
 replace bo := Option.some.inj (bo.symm.trans bu)
 injection bo with hva_ hvn_ hvc_
 rw [hva_] at bB
 rw [hvc_] at bN
 have bi := am (show Kd.V k55 55 _ w.heap.size _ _ ((rd_T48 aE 1).f3) from Kd.V_mk bN bB)
 clear hva_ hvn_ hvc_ bB bN bC cE
 (try simp only [show (1 : Int).toNat = 1 from rfl, Nat.reduceMul, Nat.reduceEqDiff, Go.Addr.add, ↓reduceIte] at bJ)
 (try simp only [show (1 : Int).toNat = 1 from rfl, Nat.reduceMul, Nat.reduceEqDiff, Go.Addr.add, ↓reduceIte] at br)
 (try simp only [show (1 : Int).toNat = 1 from rfl, Nat.reduceMul, Nat.reduceEqDiff, Go.Addr.add, ↓reduceIte] at bs)
 (try simp only [show (1 : Int).toNat = 1 from rfl, Nat.reduceMul, Nat.reduceEqDiff, Go.Addr.add, ↓reduceIte] at bu)
 (try simp only [show (1 : Int).toNat = 1 from rfl, Nat.reduceMul, Nat.reduceEqDiff, Go.Addr.add, ↓reduceIte] at bK)
 have gi : (1 < aE.length) = True := eq_true (by omega)
 (try rw [show ((1 : Int)).toNat = 1 from rfl] at bJ)
 (try rw [show 1 * 5 = 5 from rfl] at bJ)
 (try rw [show ((1 : Int)).toNat = 1 from rfl] at br)
 (try rw [show 1 * 5 = 5 from rfl] at br)
 (try rw [show ((1 : Int)).toNat = 1 from rfl] at bs)
 (try rw [show 1 * 5 = 5 from rfl] at bs)
 (try rw [show ((1 : Int)).toNat = 1 from rfl] at bu)
 (try rw [show 1 * 5 = 5 from rfl] at bu)
 (try rw [show ((1 : Int)).toNat = 1 from rfl] at bK)
 (try rw [show 1 * 5 = 5 from rfl] at bK)
 have bj := am bV
 have dv := am bY
 clear bV bY
 have bk := am bW
 have dw := am bZ
 clear bW bZ
 have bl := am bX
 have dx := am b0
 clear bX b0
 replace co := eq_true co
 replace cq := eq_true cq
 have fJ := a3.1
 have f8 := aN.1
 have hV := cf3 ae.1
 go_wp2_with (first | ((with_reducible refine gate_callee (f := 25) rfl ?_); refine gC 156 Try.func25 _ (workflow_Close.calls gv (⟨#[110]⟩ : ByteArray) _ _ aF _ _ ([] : List (S48)) es et eu ev _ (csd ((Kd.V_reads' aB.1).2.2)) ((Kd.V_reads' aB.1).2.1) (Kd.C_nil _ _) (Nat.le_refl _) gl.1) ?_; rintro e hG ⟨ez, gz, rfl, aG, ho1, hb⟩; refine ⟨_, rfl, ?_⟩; have ce := am (Kd.R_lower (Kd.R_new' (Kd.R_new' (Kd.R_new' aG (Kd.R_lt (pkr aA.1))) (Kd.R_lt (pkr au.1))) (Kd.R_lt (pkr aC.1))) (below_size pbg)); have cf := am (Kd.N_lower (Kd.N_mono (ok' := fun k_ => some k_ ≠ (ez : Value).ownBlock ∧ some k_ ≠ (.slice (some cA) aS.length d9 : Value).ownBlock ∧ some k_ ≠ (.slice ax af.length al : Value).ownBlock ∧ some k_ ≠ (.slice aX aq.length aL : Value).ownBlock ∧ some k_ ≠ (.slice (some cg) ar.length aM : Value).ownBlock ∧ some k_ ≠ (.slice bd aW.length bf : Value).ownBlock ∧ some k_ ≠ (.slice a2 aT.length a9 : Value).ownBlock ∧ some k_ ≠ (.slice (some cB) aE.length bx : Value).ownBlock ∧ k_ ≠ ai ∧ k_ ≠ ap ∧ k_ ≠ ak ∧ k_ ≠ aj) (Kd.S_N (Kd.S_bound (Kd.S_apart' ho1 (Kd.R_typed aG) (by decide)))) (fun k_ hk_ => ⟨hk_.1.2, (Kd.fresh' (Kd.R_lt (pkr bc.1)) k_ hk_.2.1), (Kd.fresh' (Kd.R_lt (pkr aA.1)) k_ hk_.2.1), (Kd.fresh' (Kd.N_lt (pkn aH.1)) k_ hk_.2.1), (Kd.fresh' (Kd.R_lt (pkr au.1)) k_ hk_.2.1), (Kd.fresh' (Kd.N_lt (pkn aI.1)) k_ hk_.2.1), (Kd.fresh' (Kd.R_lt (pkr aC.1)) k_ hk_.2.1), (Kd.fresh' (Kd.N_lt (pkn av.1)) k_ hk_.2.1), (Kd.freshB (g := ai) (o := .cells #[.string aJ, .slice ax af.length al, .slice aX aq.length aL] 25 (0, 0)) (by exact pbk aa.1) k_ hk_.2.1), (Kd.freshB (g := ap) (o := .cells #[.string (⟨#[110]⟩ : ByteArray), .slice ax aF.length al, .slice none 0 0] 25 (0, 0)) (by exact pbk ae.1) k_ hk_.2.1), (Kd.freshB (g := ak) (o := .cells #[.string cd, .slice (some cg) ar.length aM, .slice bd aW.length bf] 25 (0, 0)) (by exact pbk ag.1) k_ hk_.2.1), (Kd.freshB (g := aj) (o := .cells #[.string cj, .slice a2 aT.length a9, .slice (some cB) aE.length bx] 25 (0, 0)) (by exact pbk ao.1) k_ hk_.2.1)⟩)) (below_size pbg)); replace bc := rbw bc hb; replace aA := am (Kd.R_elder' (pkr aA.1) (Kd.R_base aG) hb); replace aH := am (Kd.N_mono (Kd.N_told (Kd.N_told (Kd.N_old (pkn aH.1) hb) (Kd.R_base aG)) (Kd.S_base ho1)) (fun _ h_ => h_.1)); replace aB := am (Kd.V_mono (Kd.V_told (Kd.V_told (Kd.V_old (pkv aB.1) hb) (Kd.R_base aG)) (Kd.S_base ho1)) (fun _ h_ => h_.1)); replace au := am (Kd.R_elder' (pkr au.1) (Kd.R_base aG) hb); replace aI := am (Kd.N_mono (Kd.N_told (Kd.N_told (Kd.N_old (pkn aI.1) hb) (Kd.R_base aG)) (Kd.S_base ho1)) (fun _ h_ => h_.1)); replace aC := am (Kd.R_elder' (pkr aC.1) (Kd.R_base aG) hb); replace av := am (Kd.N_mono (Kd.N_told (Kd.N_told (Kd.N_old (pkn av.1) hb) (Kd.R_base aG)) (Kd.S_base ho1)) (fun _ h_ => h_.1)); replace bg := am (Kd.V_mono (Kd.V_told (Kd.V_told (Kd.V_old (pkv bg.1) hb) (Kd.R_base aG)) (Kd.S_base ho1)) (fun _ h_ => h_.1)); replace bh := am (Kd.V_mono (Kd.V_told (Kd.V_told (Kd.V_old (pkv bh.1) hb) (Kd.R_base aG)) (Kd.S_base ho1)) (fun _ h_ => h_.1)); replace bi := am (Kd.V_mono (Kd.V_told (Kd.V_told (Kd.V_old (pkv bi.1) hb) (Kd.R_base aG)) (Kd.S_base ho1)) (fun _ h_ => h_.1)); replace aa := bbh aa hb; replace ae := bbh ae hb; replace ag := bbh ag hb; replace ao := bbh ao hb; replace bj := cbb bj hb; replace bk := cbb bk hb; replace bl := cbb bl hb; replace HB := bst hb; (try clear hb); (try clear aG); (try clear ho1)) | ((with_reducible refine gate_dst (N := 15) rfl ?_); (try (refine gate_guard (by rfl) ?_; dsimp only)); refine box_ev (N := 15) (cs := #[.string (⟨#[]⟩ : ByteArray), .slice none 0 0, .slice none 0 0]) (t := 25) ?_; intro bU hg hI hbox hb; have cS := am hbox; have cX := gwb hg; have eG := cX; have b4 := nlt hg aa; have b8 := ngt hg aa; have b5 := nlt hg ae; have b9 := ngt hg ae; have b6 := nlt hg ag; have ca := ngt hg ag; have b7 := nlt hg ao; have cb := ngt hg ao; replace bc := rbw bc hb; replace aA := rbw aA hb; replace aH := am (Kd.N_below (Kd.N_elderB (pkn aH.1) bU (Nat.le_of_eq hg.symm)) hb); replace aB := vbb aB hg hb; replace au := rbw au hb; replace aI := am (Kd.N_below (Kd.N_elderB (pkn aI.1) bU (Nat.le_of_eq hg.symm)) hb); replace aC := rbw aC hb; replace av := am (Kd.N_below (Kd.N_elderB (pkn av.1) bU (Nat.le_of_eq hg.symm)) hb); replace bg := vbb bg hg hb; replace bh := vbb bh hg hb; replace bi := vbb bi hg hb; replace ce := rbw ce hb; replace cf := am (Kd.N_below (Kd.N_elderB (pkn cf.1) bU (Nat.le_of_eq hg.symm)) hb); replace aa := bbh aa hb; replace ae := bbh ae hb; replace ag := bbh ag hb; replace ao := bbh ao hb; replace bj := cbb bj hb; replace bk := cbb bk hb; replace bl := cbb bl hb; replace HB := bst hb; clear hb hbox hg; have fK := b8.1; have f9 := b4.1; have fL := b9.1; have ga := b5.1; have fM := ca.1; have gb := b6.1; have ep := cb.1; have eq := b7.1; have gE := cf3 cS.1; obtain ⟨eA, fp, dl⟩ := Kd.R_slice ce.1; subst dl; obtain ⟨eB, fq, dm⟩ := Kd.N_slice cf.1; subst dm))
 go_ret
 exact ⟨per, pbg⟩

end Go.Proofs.Ytnoebjmhimehcaa.P
