-- LAID BY OUR PROGRAM OVER THE PRINT (xprint.py, part.py): Lean checks it.
import Derived.Test.YtaoogghpadifiaaPx0
namespace Go.Proofs.Ytaoogghpadifiaa.P
open Go.RowKit Go.Proofs.YtaoogghpadifiaaW.PrintWords Go.Proofs.YtaoogghpadifiaaW.PrintLast Go.Proofs.YtaoogghpadifiaaW.PrintMore
attribute [local go_sem] max2_int min2_int max_two min_two max_three min_three max_four min_four   -- for this text's walks alone
set_option maxHeartbeats 8000000
set_option maxRecDepth 100000
set_option linter.unusedVariables false
set_option linter.unusedSimpArgs false

/-! ### r09_Small: function 10 -/
mutual
def r09_Small.j0 : Nat → Bool → ByteArray → List (S64) → List (S38) → Option (ByteArray × (List (S64)) × (List (S38)) × Bool)
 | 0, _, _, _, _ => none
 | k + 1, dD, aZ, aW, aO => if dD = true then (some ((⟨#[]⟩ : ByteArray), ([] : List (S64)), ([] : List (S38)), false)) else (r09_Small.l0 k 0 aZ aW aO)
def r09_Small.l0 : Nat → Int → ByteArray → List (S64) → List (S38) → Option (ByteArray × (List (S64)) × (List (S38)) × Bool)
 | 0, _, _, _, _ => none
 | k + 1, x4, aZ, aW, aO => if x4 < (aW.length : Int) then (if 0 ≤ x4 then (if (((rd_T64 aW x4).f0).size : Int) > 20 then (some ((⟨#[]⟩ : ByteArray), ([] : List (S64)), ([] : List (S38)), false)) else (r09_Small.l0 k (wrap64 (x4 + 1)) aZ aW aO)) else (none)) else (r09_Small.l1 k 0 aZ aW aO)
def r09_Small.l1 : Nat → Int → ByteArray → List (S64) → List (S38) → Option (ByteArray × (List (S64)) × (List (S38)) × Bool)
 | 0, _, _, _, _ => none
 | k + 1, x5, aZ, aW, aO => if x5 < (aO.length : Int) then (if 0 ≤ x5 then (if (((rd_T38 aO x5).f0).size : Int) > 20 then (some ((⟨#[]⟩ : ByteArray), ([] : List (S64)), ([] : List (S38)), false)) else (if (((rd_T38 aO x5).f1).length : Int) > 26 then (some ((⟨#[]⟩ : ByteArray), ([] : List (S64)), ([] : List (S38)), false)) else (if (((rd_T38 aO x5).f2).length : Int) > 26 then (some ((⟨#[]⟩ : ByteArray), ([] : List (S64)), ([] : List (S38)), false)) else (if (((rd_T38 aO x5).f3).length : Int) > 26 then (some ((⟨#[]⟩ : ByteArray), ([] : List (S64)), ([] : List (S38)), false)) else (r09_Small.l1 k (wrap64 (x5 + 1)) aZ aW aO))))) else (none)) else (some (aZ, aW, aO, true))
end
def r09_Small.f (k : Nat) (a4 : ByteArray) (aN : List (S64)) (ae : List (S38)) : Option (ByteArray × (List (S64)) × (List (S38)) × Bool) := if (aN.length : Int) > 26 then (r09_Small.j0 k true a4 aN ae) else (if (ae.length : Int) > 26 then (r09_Small.j0 k true a4 aN ae) else (r09_Small.j0 k (decide ((a4.size : Int) > 20)) a4 aN ae))
theorem r09_Small.calls (k : Nat) (a4 : ByteArray) (P0_1_ : Nat → Prop) (bo : Option Addr) (bq : Nat) (aN : List (S64)) (P0_2_ : Nat → Prop) (bp : Option Addr) (br : Nat) (ae : List (S38)) (r1 : ByteArray) (r2 : List (S64)) (r3 : List (S38)) (r4 : Bool) (w : World) (ca : Kd.V k64 64 w w.heap.size (fun k_ => P0_1_ k_) (.slice bo aN.length bq) aN) (cb : Kd.V k38 38 w w.heap.size (fun k_ => P0_2_ k_) (.slice bp ae.length br) ae) (h : r09_Small.f k a4 aN ae = some (r1, r2, r3, r4)) :
  Calls Try.prog 10 #[.agg #[.string a4, .slice bo aN.length bq, .slice bp ae.length br]] w fun e w' => ∃ v1_ v2_ : Value, e = .returned (.tuple #[.agg #[.string r1, v1_, v2_], .bool r4]) ∧ Kd.V k64 64 w' w.heap.size (fun k_ => ((P0_1_ k_ ∨ P0_2_ k_) ∨ w.heap.size ≤ k_)) v1_ r2 ∧ Kd.V k38 38 w' w.heap.size (fun k_ => ((P0_1_ k_ ∨ P0_2_ k_) ∨ w.heap.size ≤ k_)) v2_ r3 ∧ Below w.heap.size w w' := by
 have dz := Try.underlying25
 have dB := Try.underlying38
 have bl := am (show Kd.V k64 64 w w.heap.size (fun k_ => ((P0_1_ k_ ∨ P0_2_ k_) ∨ w.heap.size ≤ k_)) (.slice bo aN.length bq) aN from Kd.V_mono ca (fun k_ hk => .inl (.inl hk)))
 have bm := am (show Kd.V k38 38 w w.heap.size (fun k_ => ((P0_1_ k_ ∨ P0_2_ k_) ∨ w.heap.size ≤ k_)) (.slice bp ae.length br) ae from Kd.V_mono cb (fun k_ hk => .inl (.inr hk)))
 have HB := am (Below.refl w.heap.size w)
 have H := h
 unfold r09_Small.f at H
 clear h
 have ci := am H
 clear H
 go_enter Try.func10, Try.ntmps10
 go_upto_region 1 with (first | ((with_reducible refine qBN (N := 1) rfl ?_); (try (refine qBP (by rfl) ?_; dsimp only)); refine box_ev ?_; intro a7 hg w3 hbox hb; have ab := am hbox; have bX := gwl hg; have cv := bX; replace bl := vbb bl hg hb; replace bm := vbb bm hg hb; replace HB := bsl hb; clear hb hbox hg) | ((with_reducible refine qBN (N := 2) rfl ?_); (try (refine qBP (by rfl) ?_; dsimp only)); refine box_ev (N := 2) (cs := #[.string (⟨#[]⟩ : ByteArray), .slice none 0 0, .slice none 0 0]) (t := 25) ?_; intro aP hg w4 hbox hb; have af := am hbox; have bY := gwb hg; have cw := bY; have aw := nlt hg ab; have ax := ngt hg ab; replace bl := vbb bl hg hb; replace bm := vbb bm hg hb; replace ab := bbh ab hb; replace HB := bst hb; clear hb hbox hg))
 (try simp only [Act.put, List.setIfInBounds_toArray, List.set_cons_zero, List.set_cons_succ])
 go_cut [22] (fun dC wc => ∃ (kq : Nat) (bI : Bool), dC = .bool bI ∧ Aside0 (r09_Small.j0 kq bI a4 aN ae = some (r1, r2, r3, r4)) ∧ Aside0 (kq ≤ k) ∧ Aside0 (Kd.V k64 64 wc w.heap.size (fun k_ => ((P0_1_ k_ ∨ P0_2_ k_) ∨ w.heap.size ≤ k_) ∧ k_ ≠ a7 ∧ k_ ≠ aP) (.slice bo aN.length bq) aN) ∧ Aside0 (Kd.V k38 38 wc w.heap.size (fun k_ => ((P0_1_ k_ ∨ P0_2_ k_) ∨ w.heap.size ≤ k_) ∧ k_ ≠ a7 ∧ k_ ≠ aP) (.slice bp ae.length br) ae) ∧ Aside0 (wc.heap[a7]? = some (.cells #[.string a4, (.slice bo aN.length bq), (.slice bp ae.length br)] 25 (0, 0))) ∧ Aside0 (wc.heap[aP]? = some (.cells #[.string (⟨#[]⟩ : ByteArray), (.slice none 0 0), (.slice none 0 0)] 25 (0, 0))) ∧ Aside0 (Below w.heap.size w wc))
 case first =>
  have H := ci.1
  clear ci
  by_cases c5 : (aN.length : Int) > 26
  ·rw [if_pos c5] at H
   have bB : decide (26 < (aN.length : Int)) = true := decide_eq_true c5
   have bJ : decide (26 < aN.length) = true := decide_eq_true (by omega)
   clear c5
   (first | rw [bB] | (simp only [i64_w, i32_w]; rw [bB]) | skip)
   have H' := am H
   clear H
   have dv := aw.1
   have dx := ax.1
   have cu := cf3 ab.1
   go_wp2
   go_meet
   case rel => exact ⟨_, (true), prs, H', ⟨by first | omega | exact Nat.le_refl _⟩, ⟨vmo bl.1 (fun _ hk => ⟨hk.1.1, ⟨hk.1.2, hk.2⟩⟩)⟩, ⟨vmo bm.1 (fun _ hk => ⟨hk.1.1, ⟨hk.1.2, hk.2⟩⟩)⟩, ⟨pbk ab.1⟩, ⟨pbk af.1⟩, ⟨pbg⟩⟩
  rw [if_neg c5] at H
  have bB : decide (26 < (aN.length : Int)) = false := decide_eq_false c5
  have bJ : decide (26 < aN.length) = false := decide_eq_false (by omega)
  clear c5
  (first | rw [bB] | (simp only [i64_w, i32_w]; rw [bB]) | skip)
  by_cases c8 : (ae.length : Int) > 26
  ·rw [if_pos c8] at H
   have bK : decide (26 < (ae.length : Int)) = true := decide_eq_true c8
   have bL : decide (26 < ae.length) = true := decide_eq_true (by omega)
   clear c8
   have H' := am H
   clear H
   have dw := aw.1
   have dy := ax.1
   have bR := cf3 ab.1
   go_wp2
   go_meet
   case rel => exact ⟨_, (true), prs, H', ⟨by first | omega | exact Nat.le_refl _⟩, ⟨vmo bl.1 (fun _ hk => ⟨hk.1.1, ⟨hk.1.2, hk.2⟩⟩)⟩, ⟨vmo bm.1 (fun _ hk => ⟨hk.1.1, ⟨hk.1.2, hk.2⟩⟩)⟩, ⟨pbk ab.1⟩, ⟨pbk af.1⟩, ⟨pbg⟩⟩
  rw [if_neg c8] at H
  have bK : decide (26 < (ae.length : Int)) = false := decide_eq_false c8
  have bL : decide (26 < ae.length) = false := decide_eq_false (by omega)
  clear c8
  have H' := am H
  clear H
  have cA := aw.1
  have cV := ax.1
  have bS := cf3 ab.1
  go_wp2
  go_meet
  case rel => exact ⟨_, (decide ((a4.size : Int) > 20)), prs, H', ⟨by first | omega | exact Nat.le_refl _⟩, ⟨vmo bl.1 (fun _ hk => ⟨hk.1.1, ⟨hk.1.2, hk.2⟩⟩)⟩, ⟨vmo bm.1 (fun _ hk => ⟨hk.1.1, ⟨hk.1.2, hk.2⟩⟩)⟩, ⟨pbk ab.1⟩, ⟨pbk af.1⟩, ⟨pbg⟩⟩
 clear ci
 try clear c5 bB bJ c8 bK bL bR bS cu
 obtain ⟨kq, bI, rfl, HA, cg, ac, aa, ab, af, HB⟩ := hcut
 obtain _ | du := kq
 ·exact absurd HA.1 (by simp [r09_Small.j0])
 have H := HA.1
 clear HA
 simp only [r09_Small.j0] at H
 cases bI
 rotate_left
 ·rw [if_pos rfl] at H
  simp only [Option.some.injEq, Prod.mk.injEq] at H
  obtain ⟨rfl, rfl, rfl, rfl⟩ := H
  have cB := ax.1
  have cW := aw.1
  have cf := cf3 af.1
  go_wp2
  refine bodyPost_ret (results_ct rfl _ _ aP 25 #[.string (⟨#[]⟩ : ByteArray), .slice none 0 0, .slice none 0 0] (0, 0) _ rfl (by (with_reducible repeat (first | refine qBK ?_ _ | refine qBM ?_ | refine qBL ?_ _)); exact bp3 (pbk af.1)) Try.underlying25 rfl (by kernel_rfl)) rfl ?_
  exact ⟨_, _, per, (Kd.V_nil _ _ _ _ _), (Kd.V_nil _ _ _ _ _), pbg⟩
 rw [if_neg Bool.false_ne_true] at H
 have H' := am H
 clear H
 go_wp2
 go_loopg [4] du (fun kq v4 w' => ∃ (bn : Int) (a3 : ByteArray), v4 = .int .i64 bn ∧ Aside0 (r09_Small.l0 kq bn a4 aN ae = some (r1, r2, r3, r4)) ∧ Aside0 (kq ≤ du) ∧ Aside0 (Kd.V k64 64 w' w.heap.size (fun k_ => ((P0_1_ k_ ∨ P0_2_ k_) ∨ w.heap.size ≤ k_) ∧ k_ ≠ a7 ∧ k_ ≠ aP) (.slice bo aN.length bq) aN) ∧ Aside0 (Kd.V k38 38 w' w.heap.size (fun k_ => ((P0_1_ k_ ∨ P0_2_ k_) ∨ w.heap.size ≤ k_) ∧ k_ ≠ a7 ∧ k_ ≠ aP) (.slice bp ae.length br) ae) ∧ Aside0 (w'.heap[a7]? = some (.cells #[.string a4, (.slice bo aN.length bq), (.slice bp ae.length br)] 25 (0, 0))) ∧ Aside0 (w'.heap[aP]? = some (.cells #[.string a3, (.slice none 0 0), (.slice none 0 0)] 25 (0, 0))) ∧ Aside0 (Below w.heap.size w w'))
 case atStart => exact ⟨(0), ((⟨#[]⟩ : ByteArray)), prs, H', ⟨Nat.le_refl _⟩, ⟨pkv ac.1⟩, ⟨pkv aa.1⟩, ⟨pbk ab.1⟩, ⟨pbk af.1⟩, ⟨pbg⟩⟩
 clear H'
 try clear c5 bB bJ c8 bK bL bR bS cf cu
 obtain ⟨bn, a3, rfl, HA, ch, ac, aa, ab, af, HB⟩ := hrel
 obtain _ | k2 := gk
 ·exact absurd HA.1 (by simp [r09_Small.l0])
 have H := HA.1
 clear HA
 simp only [r09_Small.l0] at H
 replace H := ifl H
 rcases H with ⟨bM, H⟩ | ⟨bM, H⟩
 ·replace H := ifp H
  obtain ⟨cj, H⟩ := H
  have b0 := decide_eq_true cj
  clear cj
  by_cases bP : (((rd_T64 aN bn).f0).size : Int) > 20
  rotate_left
  ·rw [if_neg bP] at H
   have bN : decide (20 < (((rd_T64 aN bn).f0).size : Int)) = false := decide_eq_false bP
   have bO : decide (20 < ((rd_T64 aN bn).f0).size) = false := decide_eq_false (by omega)
   clear bP
   have H' := am H
   clear H
   have cD := aw.1
   have cY := ax.1
   have cq := cf3 ab.1
   obtain ⟨cd, ce, bZ, bQ, bF, bG, bH⟩ := dT64 (Kd.qBT ac.1).2.2 bn
   cases bQ
   go_wp2
   go_roundg k2
   case measure => have := cg.1; have := ch.1; omega
   case rel => exact ⟨(wrap64 (bn + 1)), (a3), prs, H', ⟨by have := cg.1; have := ch.1; omega⟩, ⟨pkv ac.1⟩, ⟨pkv aa.1⟩, ⟨pbk ab.1⟩, ⟨pbk af.1⟩, ⟨pbg⟩⟩
  rw [if_pos bP] at H
  have bN : decide (20 < (((rd_T64 aN bn).f0).size : Int)) = true := decide_eq_true bP
  have bO : decide (20 < ((rd_T64 aN bn).f0).size) = true := decide_eq_true (by omega)
  clear bP
  simp only [Option.some.injEq, Prod.mk.injEq] at H
  obtain ⟨rfl, rfl, rfl, rfl⟩ := H
  have cC := aw.1
  have cX := ax.1
  have co := cf3 ab.1
  obtain ⟨cd, ce, bZ, bQ, bF, bG, bH⟩ := dT64 (Kd.qBT ac.1).2.2 bn
  cases bQ
  have cp := cf3 af.1
  go_wp2
  refine bodyPost_ret (results_ct rfl _ _ aP 25 #[.string (⟨#[]⟩ : ByteArray), .slice none 0 0, .slice none 0 0] (0, 0) _ rfl (by (with_reducible repeat (first | refine qBK ?_ _ | refine qBM ?_ | refine qBL ?_ _)); exact bp3 (pbk af.1)) Try.underlying25 rfl (by kernel_rfl)) rfl ?_
  exact ⟨_, _, per, (Kd.V_nil _ _ _ _ _), (Kd.V_nil _ _ _ _ _), pbg⟩
 have H' := am H
 clear H
 have cE := aw.1
 have cZ := ax.1
 have cr := cf3 ab.1
 go_wp2
 go_loopg [5] k2 (fun kq v5 w' => ∃ (aj : Int) (aQ : ByteArray), v5 = .int .i64 aj ∧ Aside0 (r09_Small.l1 kq aj a4 aN ae = some (r1, r2, r3, r4)) ∧ Aside0 (kq ≤ k2) ∧ Aside0 (Kd.V k64 64 w' w.heap.size (fun k_ => ((P0_1_ k_ ∨ P0_2_ k_) ∨ w.heap.size ≤ k_) ∧ k_ ≠ a7 ∧ k_ ≠ aP) (.slice bo aN.length bq) aN) ∧ Aside0 (Kd.V k38 38 w' w.heap.size (fun k_ => ((P0_1_ k_ ∨ P0_2_ k_) ∨ w.heap.size ≤ k_) ∧ k_ ≠ a7 ∧ k_ ≠ aP) (.slice bp ae.length br) ae) ∧ Aside0 (w'.heap[a7]? = some (.cells #[.string a4, (.slice bo aN.length bq), (.slice bp ae.length br)] 25 (0, 0))) ∧ Aside0 (w'.heap[aP]? = some (.cells #[.string aQ, (.slice none 0 0), (.slice none 0 0)] 25 (0, 0))) ∧ Aside0 (Below w.heap.size w w'))
 case atStart => exact ⟨(0), (a3), prs, H', ⟨Nat.le_refl _⟩, ⟨pkv ac.1⟩, ⟨pkv aa.1⟩, ⟨pbk ab.1⟩, ⟨pbk af.1⟩, ⟨pbg⟩⟩
 clear H'
 try clear c5 bB bJ c8 bK bL dV bM cj b0 bP bN bO bR bS cf co cp cq cr cu bF bG bH cd ce
 obtain ⟨aj, aQ, rfl, HA, cx, ac, aa, ab, af, HB⟩ := hrel
 obtain _ | k3 := gk
 ·exact absurd HA.1 (by simp [r09_Small.l1])
 have H := HA.1
 clear HA
 simp only [r09_Small.l1] at H
 replace H := ifl H
 rcases H with ⟨b1, H⟩ | ⟨b1, H⟩
 rotate_left
 ·simp only [Option.some.injEq, Prod.mk.injEq] at H
  obtain ⟨rfl, rfl, rfl, rfl⟩ := H
  have cU := aw.1
  have dt := ax.1
  have dS := cf3 ab.1
  have dU := cf3 af.1
  go_wp2
  refine bodyPost_ret (results_ct rfl _ _ aP 25 #[.string a4, .slice bo aN.length bq, .slice bp ae.length br] (0, 0) _ rfl (by (with_reducible repeat (first | refine qBK ?_ _ | refine qBM ?_ | refine qBL ?_ _)); exact bp3 (pbk af.1)) Try.underlying25 rfl (by kernel_rfl)) rfl ?_
  exact ⟨_, _, per, by (with_reducible repeat (first | apply Kd.V_alloc | apply Kd.V_drewN | apply Kd.V_drew)); exact Kd.V_mono (fV3 aP (Kd.V_mono ac.1 (fun k_ hk => (⟨hk, hk.2.2⟩ : _ ∧ k_ ≠ aP))) (fun _ hk => hk.2)) (fun _ hk => hk.1.1), by (with_reducible repeat (first | apply Kd.V_alloc | apply Kd.V_drewN | apply Kd.V_drew)); exact Kd.V_mono (fV3 aP (Kd.V_mono aa.1 (fun k_ hk => (⟨hk, hk.2.2⟩ : _ ∧ k_ ≠ aP))) (fun _ hk => hk.2)) (fun _ hk => hk.1.1), pbg⟩
 replace H := ifd H
 obtain ⟨cz, H⟩ := H
 by_cases bT : (((rd_T38 ae aj).f0).size : Int) > 20
 ·rw [if_pos bT] at H
  have b2 : decide (20 < (((rd_T38 ae aj).f0).size : Int)) = true := decide_eq_true bT
  have b3 : decide (20 < ((rd_T38 ae aj).f0).size) = true := decide_eq_true (by omega)
  clear bT
  simp only [Option.some.injEq, Prod.mk.injEq] at H
  obtain ⟨rfl, rfl, rfl, rfl⟩ := H
  have cF := aw.1
  have da := ax.1
  have dE := cf3 ab.1
  have aU : 0 ≤ (aj : Int) := dq
  have aV : aj < (ae.length : Int) := dq
  obtain ⟨bD, bs, bw, bu, bx, bv, bz, bA, bc, aR, aS, aT, bd, aI, aF, aJ, aG, aK, aH⟩ := at_T38 (Kd.qBT aa.1).2.2 aj aU aV
  cases bA
  obtain ⟨bE, aY, aX, aq⟩ := Kd.V_get aa.1 z38 aj aU (by first | exact aV | exact dq | (have e_ := (Kd.qBT aa.1).1; omega))
  obtain ⟨bf, bi, bg, bj, bh, bk, rfl, ar, al, au, ao, av, ap⟩ := k38_openF aX
  have ag := aq 1 _ rfl
  rw [add_field _ _ 1 (by omega)] at ag
  replace ag := Option.some.inj (ag.symm.trans aR)
  injection ag with hva_ hvn_ hvc_
  rw [hva_] at al
  rw [hvc_] at ar
  have az := am (show Kd.V k68 68 _ w.heap.size _ _ ((rd_T38 ae aj).f1) from Kd.V_mk ar al)
  clear hva_ hvn_ hvc_ al ar
  have ah := aq 2 _ rfl
  rw [add_field _ _ 2 (by omega)] at ah
  replace ah := Option.some.inj (ah.symm.trans aS)
  injection ah with hva_ hvn_ hvc_
  rw [hva_] at ao
  rw [hvc_] at au
  have aA := am (show Kd.V k68 68 _ w.heap.size _ _ ((rd_T38 ae aj).f2) from Kd.V_mk au ao)
  clear hva_ hvn_ hvc_ ao au
  have ai := aq 3 _ rfl
  rw [add_field _ _ 3 (by omega)] at ai
  replace ai := Option.some.inj (ai.symm.trans aT)
  injection ai with hva_ hvn_ hvc_
  rw [hva_] at ap
  rw [hvc_] at av
  have aB := am (show Kd.V k68 68 _ w.heap.size _ _ ((rd_T38 ae aj).f3) from Kd.V_mk av ap)
  clear hva_ hvn_ hvc_ ap av aq aY
  have aC := am aF
  have a9 := am aI
  clear aF aI
  have aD := am aG
  have ba := am aJ
  clear aG aJ
  have aE := am aH
  have bb := am aK
  clear aH aK
  replace aU := eq_true aU
  replace aV := eq_true aV
  go_wp2_with (first | ((with_reducible refine qBN (N := 6) rfl ?_); (try (refine qBP (by rfl) ?_; dsimp only)); refine box_ev (N := 6) (cs := #[.string (⟨#[]⟩ : ByteArray), .slice none 0 0, .slice none 0 0, .slice none 0 0, .int .i64 0]) (t := 38) ?_; intro a8 hg dW hbox hb; have a5 := am hbox; have a6 := gwb hg; have bC := a6; have ay := nlt hg ab; have aL := ngt hg ab; have ak := nlt hg af; have aM := ngt hg af; replace ac := vbb ac hg hb; replace aa := vbb aa hg hb; replace az := vbb az hg hb; replace aA := vbb aA hg hb; replace aB := vbb aB hg hb; replace ab := bbh ab hb; replace af := bbh af hb; replace aC := cbb aC hb; replace aD := cbb aD hb; replace aE := cbb aE hb; replace HB := bst hb; clear hb hbox hg; have cG := aL.1; have db := ay.1; have cH := aM.1; have dc := ak.1; have dF := cf5 a5.1; have dG := cf3 af.1))
  refine bodyPost_ret (results_ct rfl _ _ aP 25 #[.string (⟨#[]⟩ : ByteArray), .slice none 0 0, .slice none 0 0] (0, 0) _ rfl (by (with_reducible repeat (first | refine qBK ?_ _ | refine qBM ?_ | refine qBL ?_ _)); refine blk_put (cs := #[.string (⟨#[]⟩ : ByteArray), .slice none 0 0, .slice none 0 0]) ?_ 2 _ rfl; (with_reducible repeat (first | refine qBK ?_ _ | refine qBM ?_ | refine qBL ?_ _)); refine blk_put (cs := #[.string (⟨#[]⟩ : ByteArray), .slice none 0 0, .slice none 0 0]) ?_ 1 _ rfl; (with_reducible repeat (first | refine qBK ?_ _ | refine qBM ?_ | refine qBL ?_ _)); refine blk_put (cs := #[.string aQ, .slice none 0 0, .slice none 0 0]) ?_ 0 _ rfl; (with_reducible repeat (first | refine qBK ?_ _ | refine qBM ?_ | refine qBL ?_ _)); refine bf5 ?_ ak.1; exact pbk af.1) Try.underlying25 rfl (by kernel_rfl)) rfl ?_
  exact ⟨_, _, per, (Kd.V_nil _ _ _ _ _), (Kd.V_nil _ _ _ _ _), pbg⟩
 rw [if_neg bT] at H
 have b2 : decide (20 < (((rd_T38 ae aj).f0).size : Int)) = false := decide_eq_false bT
 have b3 : decide (20 < ((rd_T38 ae aj).f0).size) = false := decide_eq_false (by omega)
 clear bT
 by_cases bU : (((rd_T38 ae aj).f1).length : Int) > 26
 ·rw [if_pos bU] at H
  have b4 : decide (26 < (((rd_T38 ae aj).f1).length : Int)) = true := decide_eq_true bU
  have b5 : decide (26 < ((rd_T38 ae aj).f1).length) = true := decide_eq_true (by omega)
  clear bU
  simp only [Option.some.injEq, Prod.mk.injEq] at H
  obtain ⟨rfl, rfl, rfl, rfl⟩ := H
  have cI := aw.1
  have de := ax.1
  have dH := cf3 ab.1
  have aU : 0 ≤ (aj : Int) := dq
  have aV : aj < (ae.length : Int) := dq
  obtain ⟨bD, bs, bw, bu, bx, bv, bz, bA, bc, aR, aS, aT, bd, aI, aF, aJ, aG, aK, aH⟩ := at_T38 (Kd.qBT aa.1).2.2 aj aU aV
  cases bA
  obtain ⟨bE, aY, aX, aq⟩ := Kd.V_get aa.1 z38 aj aU (by first | exact aV | exact dq | (have e_ := (Kd.qBT aa.1).1; omega))
  obtain ⟨bf, bi, bg, bj, bh, bk, rfl, ar, al, au, ao, av, ap⟩ := k38_openF aX
  have ag := aq 1 _ rfl
  rw [add_field _ _ 1 (by omega)] at ag
  replace ag := Option.some.inj (ag.symm.trans aR)
  injection ag with hva_ hvn_ hvc_
  rw [hva_] at al
  rw [hvc_] at ar
  have az := am (show Kd.V k68 68 _ w.heap.size _ _ ((rd_T38 ae aj).f1) from Kd.V_mk ar al)
  clear hva_ hvn_ hvc_ al ar
  have ah := aq 2 _ rfl
  rw [add_field _ _ 2 (by omega)] at ah
  replace ah := Option.some.inj (ah.symm.trans aS)
  injection ah with hva_ hvn_ hvc_
  rw [hva_] at ao
  rw [hvc_] at au
  have aA := am (show Kd.V k68 68 _ w.heap.size _ _ ((rd_T38 ae aj).f2) from Kd.V_mk au ao)
  clear hva_ hvn_ hvc_ ao au
  have ai := aq 3 _ rfl
  rw [add_field _ _ 3 (by omega)] at ai
  replace ai := Option.some.inj (ai.symm.trans aT)
  injection ai with hva_ hvn_ hvc_
  rw [hva_] at ap
  rw [hvc_] at av
  have aB := am (show Kd.V k68 68 _ w.heap.size _ _ ((rd_T38 ae aj).f3) from Kd.V_mk av ap)
  clear hva_ hvn_ hvc_ ap av aq aY
  have aC := am aF
  have a9 := am aI
  clear aF aI
  have aD := am aG
  have ba := am aJ
  clear aG aJ
  have aE := am aH
  have bb := am aK
  clear aH aK
  replace aU := eq_true aU
  replace aV := eq_true aV
  go_wp2_with (first | ((with_reducible refine qBN (N := 6) rfl ?_); (try (refine qBP (by rfl) ?_; dsimp only)); refine box_ev (N := 6) (cs := #[.string (⟨#[]⟩ : ByteArray), .slice none 0 0, .slice none 0 0, .slice none 0 0, .int .i64 0]) (t := 38) ?_; intro a8 hg dX hbox hb; have a5 := am hbox; have a6 := gwb hg; have bC := a6; have ay := nlt hg ab; have aL := ngt hg ab; have ak := nlt hg af; have aM := ngt hg af; replace ac := vbb ac hg hb; replace aa := vbb aa hg hb; replace az := vbb az hg hb; replace aA := vbb aA hg hb; replace aB := vbb aB hg hb; replace ab := bbh ab hb; replace af := bbh af hb; replace aC := cbb aC hb; replace aD := cbb aD hb; replace aE := cbb aE hb; replace HB := bst hb; clear hb hbox hg; have cJ := aL.1; have df := ay.1; have cK := aM.1; have dg := ak.1; have dI := cf5 a5.1; have dJ := cf3 af.1))
  refine bodyPost_ret (results_ct rfl _ _ aP 25 #[.string (⟨#[]⟩ : ByteArray), .slice none 0 0, .slice none 0 0] (0, 0) _ rfl (by (with_reducible repeat (first | refine qBK ?_ _ | refine qBM ?_ | refine qBL ?_ _)); refine blk_put (cs := #[.string (⟨#[]⟩ : ByteArray), .slice none 0 0, .slice none 0 0]) ?_ 2 _ rfl; (with_reducible repeat (first | refine qBK ?_ _ | refine qBM ?_ | refine qBL ?_ _)); refine blk_put (cs := #[.string (⟨#[]⟩ : ByteArray), .slice none 0 0, .slice none 0 0]) ?_ 1 _ rfl; (with_reducible repeat (first | refine qBK ?_ _ | refine qBM ?_ | refine qBL ?_ _)); refine blk_put (cs := #[.string aQ, .slice none 0 0, .slice none 0 0]) ?_ 0 _ rfl; (with_reducible repeat (first | refine qBK ?_ _ | refine qBM ?_ | refine qBL ?_ _)); refine bf5 ?_ ak.1; exact pbk af.1) Try.underlying25 rfl (by kernel_rfl)) rfl ?_
  exact ⟨_, _, per, (Kd.V_nil _ _ _ _ _), (Kd.V_nil _ _ _ _ _), pbg⟩
 rw [if_neg bU] at H
 have b4 : decide (26 < (((rd_T38 ae aj).f1).length : Int)) = false := decide_eq_false bU
 have b5 : decide (26 < ((rd_T38 ae aj).f1).length) = false := decide_eq_false (by omega)
 clear bU
 by_cases bV : (((rd_T38 ae aj).f2).length : Int) > 26
 ·rw [if_pos bV] at H
  have b6 : decide (26 < (((rd_T38 ae aj).f2).length : Int)) = true := decide_eq_true bV
  have b7 : decide (26 < ((rd_T38 ae aj).f2).length) = true := decide_eq_true (by omega)
  clear bV
  simp only [Option.some.injEq, Prod.mk.injEq] at H
  obtain ⟨rfl, rfl, rfl, rfl⟩ := H
  have cL := aw.1
  have dh := ax.1
  have dK := cf3 ab.1
  have aU : 0 ≤ (aj : Int) := dq
  have aV : aj < (ae.length : Int) := dq
  obtain ⟨bD, bs, bw, bu, bx, bv, bz, bA, bc, aR, aS, aT, bd, aI, aF, aJ, aG, aK, aH⟩ := at_T38 (Kd.qBT aa.1).2.2 aj aU aV
  cases bA
  obtain ⟨bE, aY, aX, aq⟩ := Kd.V_get aa.1 z38 aj aU (by first | exact aV | exact dq | (have e_ := (Kd.qBT aa.1).1; omega))
  obtain ⟨bf, bi, bg, bj, bh, bk, rfl, ar, al, au, ao, av, ap⟩ := k38_openF aX
  have ag := aq 1 _ rfl
  rw [add_field _ _ 1 (by omega)] at ag
  replace ag := Option.some.inj (ag.symm.trans aR)
  injection ag with hva_ hvn_ hvc_
  rw [hva_] at al
  rw [hvc_] at ar
  have az := am (show Kd.V k68 68 _ w.heap.size _ _ ((rd_T38 ae aj).f1) from Kd.V_mk ar al)
  clear hva_ hvn_ hvc_ al ar
  have ah := aq 2 _ rfl
  rw [add_field _ _ 2 (by omega)] at ah
  replace ah := Option.some.inj (ah.symm.trans aS)
  injection ah with hva_ hvn_ hvc_
  rw [hva_] at ao
  rw [hvc_] at au
  have aA := am (show Kd.V k68 68 _ w.heap.size _ _ ((rd_T38 ae aj).f2) from Kd.V_mk au ao)
  clear hva_ hvn_ hvc_ ao au
  have ai := aq 3 _ rfl
  rw [add_field _ _ 3 (by omega)] at ai
  replace ai := Option.some.inj (ai.symm.trans aT)
  injection ai with hva_ hvn_ hvc_
  rw [hva_] at ap
  rw [hvc_] at av
  have aB := am (show Kd.V k68 68 _ w.heap.size _ _ ((rd_T38 ae aj).f3) from Kd.V_mk av ap)
  clear hva_ hvn_ hvc_ ap av aq aY
  have aC := am aF
  have a9 := am aI
  clear aF aI
  have aD := am aG
  have ba := am aJ
  clear aG aJ
  have aE := am aH
  have bb := am aK
  clear aH aK
  replace aU := eq_true aU
  replace aV := eq_true aV
  go_wp2_with (first | ((with_reducible refine qBN (N := 6) rfl ?_); (try (refine qBP (by rfl) ?_; dsimp only)); refine box_ev (N := 6) (cs := #[.string (⟨#[]⟩ : ByteArray), .slice none 0 0, .slice none 0 0, .slice none 0 0, .int .i64 0]) (t := 38) ?_; intro a8 hg dY hbox hb; have a5 := am hbox; have a6 := gwb hg; have bC := a6; have ay := nlt hg ab; have aL := ngt hg ab; have ak := nlt hg af; have aM := ngt hg af; replace ac := vbb ac hg hb; replace aa := vbb aa hg hb; replace az := vbb az hg hb; replace aA := vbb aA hg hb; replace aB := vbb aB hg hb; replace ab := bbh ab hb; replace af := bbh af hb; replace aC := cbb aC hb; replace aD := cbb aD hb; replace aE := cbb aE hb; replace HB := bst hb; clear hb hbox hg; have cM := aL.1; have di := ay.1; have cN := aM.1; have dj := ak.1; have dL := cf5 a5.1; have dM := cf3 af.1))
  refine bodyPost_ret (results_ct rfl _ _ aP 25 #[.string (⟨#[]⟩ : ByteArray), .slice none 0 0, .slice none 0 0] (0, 0) _ rfl (by (with_reducible repeat (first | refine qBK ?_ _ | refine qBM ?_ | refine qBL ?_ _)); refine blk_put (cs := #[.string (⟨#[]⟩ : ByteArray), .slice none 0 0, .slice none 0 0]) ?_ 2 _ rfl; (with_reducible repeat (first | refine qBK ?_ _ | refine qBM ?_ | refine qBL ?_ _)); refine blk_put (cs := #[.string (⟨#[]⟩ : ByteArray), .slice none 0 0, .slice none 0 0]) ?_ 1 _ rfl; (with_reducible repeat (first | refine qBK ?_ _ | refine qBM ?_ | refine qBL ?_ _)); refine blk_put (cs := #[.string aQ, .slice none 0 0, .slice none 0 0]) ?_ 0 _ rfl; (with_reducible repeat (first | refine qBK ?_ _ | refine qBM ?_ | refine qBL ?_ _)); refine bf5 ?_ ak.1; exact pbk af.1) Try.underlying25 rfl (by kernel_rfl)) rfl ?_
  exact ⟨_, _, per, (Kd.V_nil _ _ _ _ _), (Kd.V_nil _ _ _ _ _), pbg⟩
 rw [if_neg bV] at H
 have b6 : decide (26 < (((rd_T38 ae aj).f2).length : Int)) = false := decide_eq_false bV
 have b7 : decide (26 < ((rd_T38 ae aj).f2).length) = false := decide_eq_false (by omega)
 clear bV
 by_cases bW : (((rd_T38 ae aj).f3).length : Int) > 26
 ·rw [if_pos bW] at H
  have b8 : decide (26 < (((rd_T38 ae aj).f3).length : Int)) = true := decide_eq_true bW
  have b9 : decide (26 < ((rd_T38 ae aj).f3).length) = true := decide_eq_true (by omega)
  clear bW
  simp only [Option.some.injEq, Prod.mk.injEq] at H
  obtain ⟨rfl, rfl, rfl, rfl⟩ := H
  have cO := aw.1
  have dk := ax.1
  have dN := cf3 ab.1
  have aU : 0 ≤ (aj : Int) := dq
  have aV : aj < (ae.length : Int) := dq
  obtain ⟨bD, bs, bw, bu, bx, bv, bz, bA, bc, aR, aS, aT, bd, aI, aF, aJ, aG, aK, aH⟩ := at_T38 (Kd.qBT aa.1).2.2 aj aU aV
  cases bA
  obtain ⟨bE, aY, aX, aq⟩ := Kd.V_get aa.1 z38 aj aU (by first | exact aV | exact dq | (have e_ := (Kd.qBT aa.1).1; omega))
  obtain ⟨bf, bi, bg, bj, bh, bk, rfl, ar, al, au, ao, av, ap⟩ := k38_openF aX
  have ag := aq 1 _ rfl
  rw [add_field _ _ 1 (by omega)] at ag
  replace ag := Option.some.inj (ag.symm.trans aR)
  injection ag with hva_ hvn_ hvc_
  rw [hva_] at al
  rw [hvc_] at ar
  have az := am (show Kd.V k68 68 _ w.heap.size _ _ ((rd_T38 ae aj).f1) from Kd.V_mk ar al)
  clear hva_ hvn_ hvc_ al ar
  have ah := aq 2 _ rfl
  rw [add_field _ _ 2 (by omega)] at ah
  replace ah := Option.some.inj (ah.symm.trans aS)
  injection ah with hva_ hvn_ hvc_
  rw [hva_] at ao
  rw [hvc_] at au
  have aA := am (show Kd.V k68 68 _ w.heap.size _ _ ((rd_T38 ae aj).f2) from Kd.V_mk au ao)
  clear hva_ hvn_ hvc_ ao au
  have ai := aq 3 _ rfl
  rw [add_field _ _ 3 (by omega)] at ai
  replace ai := Option.some.inj (ai.symm.trans aT)
  injection ai with hva_ hvn_ hvc_
  rw [hva_] at ap
  rw [hvc_] at av
  have aB := am (show Kd.V k68 68 _ w.heap.size _ _ ((rd_T38 ae aj).f3) from Kd.V_mk av ap)
  clear hva_ hvn_ hvc_ ap av aq aY
  have aC := am aF
  have a9 := am aI
  clear aF aI
  have aD := am aG
  have ba := am aJ
  clear aG aJ
  have aE := am aH
  have bb := am aK
  clear aH aK
  replace aU := eq_true aU
  replace aV := eq_true aV
  go_wp2_with (first | ((with_reducible refine qBN (N := 6) rfl ?_); (try (refine qBP (by rfl) ?_; dsimp only)); refine box_ev (N := 6) (cs := #[.string (⟨#[]⟩ : ByteArray), .slice none 0 0, .slice none 0 0, .slice none 0 0, .int .i64 0]) (t := 38) ?_; intro a8 hg dZ hbox hb; have a5 := am hbox; have a6 := gwb hg; have bC := a6; have ay := nlt hg ab; have aL := ngt hg ab; have ak := nlt hg af; have aM := ngt hg af; replace ac := vbb ac hg hb; replace aa := vbb aa hg hb; replace az := vbb az hg hb; replace aA := vbb aA hg hb; replace aB := vbb aB hg hb; replace ab := bbh ab hb; replace af := bbh af hb; replace aC := cbb aC hb; replace aD := cbb aD hb; replace aE := cbb aE hb; replace HB := bst hb; clear hb hbox hg; have cP := aL.1; have dl := ay.1; have cQ := aM.1; have dm := ak.1; have dO := cf5 a5.1; have dP := cf3 af.1))
  refine bodyPost_ret (results_ct rfl _ _ aP 25 #[.string (⟨#[]⟩ : ByteArray), .slice none 0 0, .slice none 0 0] (0, 0) _ rfl (by (with_reducible repeat (first | refine qBK ?_ _ | refine qBM ?_ | refine qBL ?_ _)); refine blk_put (cs := #[.string (⟨#[]⟩ : ByteArray), .slice none 0 0, .slice none 0 0]) ?_ 2 _ rfl; (with_reducible repeat (first | refine qBK ?_ _ | refine qBM ?_ | refine qBL ?_ _)); refine blk_put (cs := #[.string (⟨#[]⟩ : ByteArray), .slice none 0 0, .slice none 0 0]) ?_ 1 _ rfl; (with_reducible repeat (first | refine qBK ?_ _ | refine qBM ?_ | refine qBL ?_ _)); refine blk_put (cs := #[.string aQ, .slice none 0 0, .slice none 0 0]) ?_ 0 _ rfl; (with_reducible repeat (first | refine qBK ?_ _ | refine qBM ?_ | refine qBL ?_ _)); refine bf5 ?_ ak.1; exact pbk af.1) Try.underlying25 rfl (by kernel_rfl)) rfl ?_
  exact ⟨_, _, per, (Kd.V_nil _ _ _ _ _), (Kd.V_nil _ _ _ _ _), pbg⟩
 rw [if_neg bW] at H
 have b8 : decide (26 < (((rd_T38 ae aj).f3).length : Int)) = false := decide_eq_false bW
 have b9 : decide (26 < ((rd_T38 ae aj).f3).length) = false := decide_eq_false (by omega)
 clear bW
 have H' := am H
 clear H
 have cR := aw.1
 have dn := ax.1
 have dQ := cf3 ab.1
 have aU : 0 ≤ (aj : Int) := dq
 have aV : aj < (ae.length : Int) := dq
 obtain ⟨bD, bs, bw, bu, bx, bv, bz, bA, bc, aR, aS, aT, bd, aI, aF, aJ, aG, aK, aH⟩ := at_T38 (Kd.qBT aa.1).2.2 aj aU aV
 cases bA
 obtain ⟨bE, aY, aX, aq⟩ := Kd.V_get aa.1 z38 aj aU (by first | exact aV | exact dq | (have e_ := (Kd.qBT aa.1).1; omega))
 obtain ⟨bf, bi, bg, bj, bh, bk, rfl, ar, al, au, ao, av, ap⟩ := k38_openF aX
 have ag := aq 1 _ rfl
 rw [add_field _ _ 1 (by omega)] at ag
 replace ag := Option.some.inj (ag.symm.trans aR)
 injection ag with hva_ hvn_ hvc_
 rw [hva_] at al
 rw [hvc_] at ar
 have az := am (show Kd.V k68 68 _ w.heap.size _ _ ((rd_T38 ae aj).f1) from Kd.V_mk ar al)
 clear hva_ hvn_ hvc_ al ar
 have ah := aq 2 _ rfl
 rw [add_field _ _ 2 (by omega)] at ah
 replace ah := Option.some.inj (ah.symm.trans aS)
 injection ah with hva_ hvn_ hvc_
 rw [hva_] at ao
 rw [hvc_] at au
 have aA := am (show Kd.V k68 68 _ w.heap.size _ _ ((rd_T38 ae aj).f2) from Kd.V_mk au ao)
 clear hva_ hvn_ hvc_ ao au
 have ai := aq 3 _ rfl
 rw [add_field _ _ 3 (by omega)] at ai
 replace ai := Option.some.inj (ai.symm.trans aT)
 injection ai with hva_ hvn_ hvc_
 rw [hva_] at ap
 rw [hvc_] at av
 have aB := am (show Kd.V k68 68 _ w.heap.size _ _ ((rd_T38 ae aj).f3) from Kd.V_mk av ap)
 clear hva_ hvn_ hvc_ ap av aq aY
 have aC := am aF
 have a9 := am aI
 clear aF aI
 have aD := am aG
 have ba := am aJ
 clear aG aJ
 have aE := am aH
 have bb := am aK
 clear aH aK
 replace aU := eq_true aU
 replace aV := eq_true aV
 go_wp2_with (first | ((with_reducible refine qBN (N := 6) rfl ?_); (try (refine qBP (by rfl) ?_; dsimp only)); refine box_ev (N := 6) (cs := #[.string (⟨#[]⟩ : ByteArray), .slice none 0 0, .slice none 0 0, .slice none 0 0, .int .i64 0]) (t := 38) ?_; intro a8 hg d0 hbox hb; have a5 := am hbox; have a6 := gwb hg; have bC := a6; have ay := nlt hg ab; have aL := ngt hg ab; have ak := nlt hg af; have aM := ngt hg af; replace ac := vbb ac hg hb; replace aa := vbb aa hg hb; replace az := vbb az hg hb; replace aA := vbb aA hg hb; replace aB := vbb aB hg hb; replace ab := bbh ab hb; replace af := bbh af hb; replace aC := cbb aC hb; replace aD := cbb aD hb; replace aE := cbb aE hb; replace HB := bst hb; clear hb hbox hg; have cS := aL.1; have dp := ay.1; have cT := aM.1; have dr := ak.1; have dR := cf5 a5.1))
 go_roundg k3
 case measure => have := cg.1; have := ch.1; have := cx.1; omega
 case rel => exact ⟨(wrap64 (aj + 1)), (aQ), prs, H', ⟨by have := cg.1; have := ch.1; have := cx.1; omega⟩, ⟨by (with_reducible repeat (first | apply Kd.V_alloc | apply Kd.V_drewN | apply Kd.V_drew)); exact Kd.V_mono (fV5 a8 (Kd.V_mono ac.1 (fun k_ hk => (⟨hk, hk.2⟩ : _ ∧ k_ ≠ a8))) (fun _ hk => hk.2)) (fun _ hk => ⟨hk.1.1.1, ⟨hk.1.1.2.1, hk.1.1.2.2⟩⟩)⟩, ⟨by (with_reducible repeat (first | apply Kd.V_alloc | apply Kd.V_drewN | apply Kd.V_drew)); exact Kd.V_mono (fV5 a8 (Kd.V_mono aa.1 (fun k_ hk => (⟨hk, hk.2⟩ : _ ∧ k_ ≠ a8))) (fun _ hk => hk.2)) (fun _ hk => ⟨hk.1.1.1, ⟨hk.1.1.2.1, hk.1.1.2.2⟩⟩)⟩, ⟨by (with_reducible repeat (first | refine qBK ?_ _ | refine qBM ?_ | refine qBL ?_ _)); refine bf5 ?_ ay.1; exact pbk ab.1⟩, ⟨by (with_reducible repeat (first | refine qBK ?_ _ | refine qBM ?_ | refine qBL ?_ _)); refine bf5 ?_ ak.1; exact pbk af.1⟩, ⟨pbg⟩⟩

end Go.Proofs.Ytaoogghpadifiaa.P
