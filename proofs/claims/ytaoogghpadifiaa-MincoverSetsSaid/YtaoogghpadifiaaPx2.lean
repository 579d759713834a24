-- LAID BY OUR PROGRAM OVER THE PRINT (xprint.py, part.py): Lean checks it.
import Derived.Test.YtaoogghpadifiaaPx0
import Derived.Test.YtaoogghpadifiaaPx1
namespace Go.Proofs.Ytaoogghpadifiaa.P
open Go.RowKit Go.Proofs.YtaoogghpadifiaaW.PrintWords Go.Proofs.YtaoogghpadifiaaW.PrintLast Go.Proofs.YtaoogghpadifiaaW.PrintMore
attribute [local go_sem] max2_int min2_int max_two min_two max_three min_three max_four min_four   -- for this text's walks alone
set_option linter.unusedVariables false
set_option linter.unusedSimpArgs false

/-! ### r09_Small: function 10 -/
mutual
def r09_Small.j0 : Nat → Bool → ByteArray → List (S64) → List (S38) → Option (ByteArray × (List (S64)) × (List (S38)) × Bool)
 | 0, _, _, _, _ => none
 | k + 1, dD, aZ, aW, aO => if dD = true then (some ((⟨#[]⟩ : ByteArray), ([] : List (S64)), ([] : List (S38)), false)) else (r09_Small.l0 k 0 aZ aW aO)
def r09_Small.l0 : Nat → Int → ByteArray → List (S64) → List (S38) → Option (ByteArray × (List (S64)) × (List (S38)) × Bool)
 | 0, _, _, _, _ => none
 | k + 1, x4, aZ, aW, aO => if x4 < (aW.length : Int) then (if 0 ≤ x4 then (if (((rd_T64 aW x4).f0).size : Int) > 20 then (some ((⟨#[]⟩ : ByteArray), ([] : List (S64)), ([] : List (S38)), false)) else (r09_Small.l0 k (wrap64 (x4 + 1)) aZ aW aO)) else (none)) else (r09_Small.l1 k 0 aZ aW aO)
def r09_Small.l1 : Nat → Int → ByteArray → List (S64) → List (S38) → Option (ByteArray × (List (S64)) × (List (S38)) × Bool)
 | 0, _, _, _, _ => none
 | k + 1, x5, aZ, aW, aO => if x5 < (aO.length : Int) then (if 0 ≤ x5 then (if (((rd_T38 aO x5).f0).size : Int) > 20 then (some ((⟨#[]⟩ : ByteArray), ([] : List (S64)), ([] : List (S38)), false)) else (if (((rd_T38 aO x5).f1).length : Int) > 26 then (some ((⟨#[]⟩ : ByteArray), ([] : List (S64)), ([] : List (S38)), false)) else (if (((rd_T38 aO x5).f2).length : Int) > 26 then (some ((⟨#[]⟩ : ByteArray), ([] : List (S64)), ([] : List (S38)), false)) else (if (((rd_T38 aO x5).f3).length : Int) > 26 then (some ((⟨#[]⟩ : ByteArray), ([] : List (S64)), ([] : List (S38)), false)) else (r09_Small.l1 k (wrap64 (x5 + 1)) aZ aW aO))))) else (none)) else (some (aZ, aW, aO, true))
end
def r09_Small.f (k : Nat) (a4 : ByteArray) (aN : List (S64)) (ae : List (S38)) : Option (ByteArray × (List (S64)) × (List (S38)) × Bool) := if (aN.length : Int) > 26 then (r09_Small.j0 k true a4 aN ae) else (if (ae.length : Int) > 26 then (r09_Small.j0 k true a4 aN ae) else (r09_Small.j0 k (decide ((a4.size : Int) > 20)) a4 aN ae))
theorem r09_Small.mono_l : ∀ k, M4 r09_Small.j0 k ∧ M4 r09_Small.l0 k ∧ M4 r09_Small.l1 k
 | 0 => ⟨fun _ _ _ _ r h => by simp [r09_Small.j0] at h, fun _ _ _ _ r h => by simp [r09_Small.l0] at h, fun _ _ _ _ r h => by simp [r09_Small.l1] at h⟩
 | k + 1 => by
  obtain ⟨ck, cm, cn⟩ := r09_Small.mono_l k
  refine ⟨?_, ?_, ?_⟩ <;> dsimp only [M4] <;> intros <;> (first | unfold r09_Small.j0 | unfold r09_Small.l0 | unfold r09_Small.l1) <;> repeat' first | (with_reducible first | apply ck | apply cm | apply cn | apply lr | apply ln | apply li | refine lb ?_ fun _ => ?_)
theorem r09_Small.mono : ∀ a0 a1 a2 k, LeO (r09_Small.f k a0 a1 a2) (r09_Small.f (k + 1) a0 a1 a2) := by
 intro a0 a1 a2 k
 obtain ⟨ck, cm, cn⟩ := r09_Small.mono_l k
 unfold r09_Small.f
 repeat' first | (with_reducible first | apply ck | apply cm | apply cn | apply lr | apply ln | apply li | refine lb ?_ fun _ => ?_)
set_option maxHeartbeats 8000000 in
set_option maxRecDepth 100000 in
theorem r09_Small.calls (k : Nat) (a4 : ByteArray) (P0_1_ : Nat → Prop) (bo : Option Addr) (bq : Nat) (aN : List (S64)) (P0_2_ : Nat → Prop) (bp : Option Addr) (br : Nat) (ae : List (S38)) (r1 : ByteArray) (r2 : List (S64)) (r3 : List (S38)) (r4 : Bool) (w : World) (ca : Kd.V k64 64 w w.heap.size (fun k_ => P0_1_ k_) (.slice bo aN.length bq) aN) (cb : Kd.V k38 38 w w.heap.size (fun k_ => P0_2_ k_) (.slice bp ae.length br) ae) (h : r09_Small.f k a4 aN ae = some (r1, r2, r3, r4)) :
  Calls Try.prog 10 #[.agg #[.string a4, .slice bo aN.length bq, .slice bp ae.length br]] w fun e w' => ∃ v1_ v2_ : Value, e = .returned (.tuple #[.agg #[.string r1, v1_, v2_], .bool r4]) ∧ Kd.V k64 64 w' w.heap.size (fun k_ => ((P0_1_ k_ ∨ P0_2_ k_) ∨ w.heap.size ≤ k_)) v1_ r2 ∧ Kd.V k38 38 w' w.heap.size (fun k_ => ((P0_1_ k_ ∨ P0_2_ k_) ∨ w.heap.size ≤ k_)) v2_ r3 ∧ Below w.heap.size w w' := by
 have dz := Try.underlying25
 have dB := Try.underlying38
 have bl := am (show Kd.V k64 64 w w.heap.size (fun k_ => ((P0_1_ k_ ∨ P0_2_ k_) ∨ w.heap.size ≤ k_)) (.slice bo aN.length bq) aN from Kd.V_mono ca (fun k_ hk => .inl (.inl hk)))
 have bm := am (show Kd.V k38 38 w w.heap.size (fun k_ => ((P0_1_ k_ ∨ P0_2_ k_) ∨ w.heap.size ≤ k_)) (.slice bp ae.length br) ae from Kd.V_mono cb (fun k_ hk => .inl (.inr hk)))
 have HB := am (Below.refl w.heap.size w)
 have H := h
 unfold r09_Small.f at H
 clear h
 have ci := am H
 clear H
 go_enter Try.func10, Try.ntmps10
 go_upto_region 1 with (first | ((with_reducible refine gate_dst (N := 1) rfl ?_); (try (refine gate_guard (by rfl) ?_; dsimp only)); refine box_ev ?_; intro a7 hg w3 hbox hb; have ab := am hbox; have bX := gwl hg; have cv := bX; replace bl := vbb bl hg hb; replace bm := vbb bm hg hb; replace HB := bsl hb; clear hb hbox hg) | ((with_reducible refine gate_dst (N := 2) rfl ?_); (try (refine gate_guard (by rfl) ?_; dsimp only)); refine box_ev (N := 2) (cs := #[.string (⟨#[]⟩ : ByteArray), .slice none 0 0, .slice none 0 0]) (t := 25) ?_; intro aP hg w4 hbox hb; have af := am hbox; have bY := gwb hg; have cw := bY; have aw := nlt hg ab; have ax := ngt hg ab; replace bl := vbb bl hg hb; replace bm := vbb bm hg hb; replace ab := bbh ab hb; replace HB := bst hb; clear hb hbox hg))
 (try simp only [Act.put, List.setIfInBounds_toArray, List.set_cons_zero, List.set_cons_succ])
 go_cut [22] (fun dC wc => ∃ (kq : Nat) (bI : Bool), dC = .bool bI ∧ Aside0 (r09_Small.j0 kq bI a4 aN ae = some (r1, r2, r3, r4)) ∧ Aside0 (kq ≤ k) ∧ Aside0 (Kd.V k64 64 wc w.heap.size (fun k_ => ((P0_1_ k_ ∨ P0_2_ k_) ∨ w.heap.size ≤ k_) ∧ k_ ≠ a7 ∧ k_ ≠ aP) (.slice bo aN.length bq) aN) ∧ Aside0 (Kd.V k38 38 wc w.heap.size (fun k_ => ((P0_1_ k_ ∨ P0_2_ k_) ∨ w.heap.size ≤ k_) ∧ k_ ≠ a7 ∧ k_ ≠ aP) (.slice bp ae.length br) ae) ∧ Aside0 (wc.heap[a7]? = some (.cells #[.string a4, (.slice bo aN.length bq), (.slice bp ae.length br)] 25 (0, 0))) ∧ Aside0 (wc.heap[aP]? = some (.cells #[.string (⟨#[]⟩ : ByteArray), (.slice none 0 0), (.slice none 0 0)] 25 (0, 0))) ∧ Aside0 (Below w.heap.size w wc))
 case first =>
  have H := ci.1
  clear ci
  by_cases c5 : (aN.length : Int) > 26
  ·rw [if_pos c5] at H
   have bB : decide (26 < (aN.length : Int)) = true := decide_eq_true c5
   have bJ : decide (26 < aN.length) = true := decide_eq_true (by omega)
   clear c5
   (first | rw [bB] | (simp only [i64_w, i32_w]; rw [bB]) | skip)
   have H' := am H
   clear H
   have dv := aw.1
   have dx := ax.1
   have cu := cf3 ab.1
   go_wp2
   go_meet
   case rel => exact ⟨_, (true), prs, H', ⟨by first | omega | exact Nat.le_refl _⟩, ⟨by (with_reducible repeat (first | apply Kd.V_alloc | apply Kd.V_drewN | apply Kd.V_drew)); exact Kd.V_mono bl.1 (fun _ hk => ⟨hk.1.1, ⟨hk.1.2, hk.2⟩⟩)⟩, ⟨by (with_reducible repeat (first | apply Kd.V_alloc | apply Kd.V_drewN | apply Kd.V_drew)); exact Kd.V_mono bm.1 (fun _ hk => ⟨hk.1.1, ⟨hk.1.2, hk.2⟩⟩)⟩, ⟨pbk ab.1⟩, ⟨pbk af.1⟩, ⟨pbg⟩⟩
  rw [if_neg c5] at H
  have bB : decide (26 < (aN.length : Int)) = false := decide_eq_false c5
  have bJ : decide (26 < aN.length) = false := decide_eq_false (by omega)
  clear c5
  (first | rw [bB] | (simp only [i64_w, i32_w]; rw [bB]) | skip)
  by_cases c8 : (ae.length : Int) > 26
  ·rw [if_pos c8] at H
   have bK : decide (26 < (ae.length : Int)) = true := decide_eq_true c8
   have bL : decide (26 < ae.length) = true := decide_eq_true (by omega)
   clear c8
   have H' := am H
   clear H
   have dw := aw.1
   have dy := ax.1
   have bR := cf3 ab.1
   go_wp2
   go_meet
   case rel => exact ⟨_, (true), prs, H', ⟨by first | omega | exact Nat.le_refl _⟩, ⟨by (with_reducible repeat (first | apply Kd.V_alloc | apply Kd.V_drewN | apply Kd.V_drew)); exact Kd.V_mono bl.1 (fun _ hk => ⟨hk.1.1, ⟨hk.1.2, hk.2⟩⟩)⟩, ⟨by (with_reducible repeat (first | apply Kd.V_alloc | apply Kd.V_drewN | apply Kd.V_drew)); exact Kd.V_mono bm.1 (fun _ hk => ⟨hk.1.1, ⟨hk.1.2, hk.2⟩⟩)⟩, ⟨pbk ab.1⟩, ⟨pbk af.1⟩, ⟨pbg⟩⟩
  rw [if_neg c8] at H
  have bK : decide (26 < (ae.length : Int)) = false := decide_eq_false c8
  have bL : decide (26 < ae.length) = false := decide_eq_false (by omega)
  clear c8
  have H' := am H
  clear H
  have cA := aw.1
  have cV := ax.1
  have bS := cf3 ab.1
  go_wp2
  go_meet
  case rel => exact ⟨_, (decide ((a4.size : Int) > 20)), prs, H', ⟨by first | omega | exact Nat.le_refl _⟩, ⟨by (with_reducible repeat (first | apply Kd.V_alloc | apply Kd.V_drewN | apply Kd.V_drew)); exact Kd.V_mono bl.1 (fun _ hk => ⟨hk.1.1, ⟨hk.1.2, hk.2⟩⟩)⟩, ⟨by (with_reducible repeat (first | apply Kd.V_alloc | apply Kd.V_drewN | apply Kd.V_drew)); exact Kd.V_mono bm.1 (fun _ hk => ⟨hk.1.1, ⟨hk.1.2, hk.2⟩⟩)⟩, ⟨pbk ab.1⟩, ⟨pbk af.1⟩, ⟨pbg⟩⟩
 clear ci
 try clear c5 bB bJ c8 bK bL bR bS cu
 obtain ⟨kq, bI, rfl, HA, cg, ac, aa, ab, af, HB⟩ := hcut
 obtain _ | du := kq
 ·exact absurd HA.1 (by simp [r09_Small.j0])
 have H := HA.1
 clear HA
 simp only [r09_Small.j0] at H
 cases bI
 rotate_left
 ·rw [if_pos rfl] at H
  simp only [Option.some.injEq, Prod.mk.injEq] at H
  obtain ⟨rfl, rfl, rfl, rfl⟩ := H
  have cB := ax.1
  have cW := aw.1
  have cf := cf3 af.1
  go_wp2
  refine bodyPost_ret (results_ct rfl _ _ aP 25 #[.string (⟨#[]⟩ : ByteArray), .slice none 0 0, .slice none 0 0] (0, 0) _ rfl (by (with_reducible repeat (first | refine blk_drewN ?_ _ | refine blk_drew ?_ | refine blk_alloc ?_ _)); exact bp3 (pbk af.1)) Try.underlying25 rfl (by kernel_rfl)) rfl ?_
  exact ⟨_, _, per, (Kd.V_nil _ _ _ _ _), (Kd.V_nil _ _ _ _ _), pbg⟩
 rw [if_neg Bool.false_ne_true] at H
 have H' := am H
 clear H
 go_wp2
 go_loopg [4] du (fun kq v4 w' => ∃ (bn : Int) (a3 : ByteArray), v4 = .int .i64 bn ∧ Aside0 (r09_Small.l0 kq bn a4 aN ae = some (r1, r2, r3, r4)) ∧ Aside0 (kq ≤ du) ∧ Aside0 (Kd.V k64 64 w' w.heap.size (fun k_ => ((P0_1_ k_ ∨ P0_2_ k_) ∨ w.heap.size ≤ k_) ∧ k_ ≠ a7 ∧ k_ ≠ aP) (.slice bo aN.length bq) aN) ∧ Aside0 (Kd.V k38 38 w' w.heap.size (fun k_ => ((P0_1_ k_ ∨ P0_2_ k_) ∨ w.heap.size ≤ k_) ∧ k_ ≠ a7 ∧ k_ ≠ aP) (.slice bp ae.length br) ae) ∧ Aside0 (w'.heap[a7]? = some (.cells #[.string a4, (.slice bo aN.length bq), (.slice bp ae.length br)] 25 (0, 0))) ∧ Aside0 (w'.heap[aP]? = some (.cells #[.string a3, (.slice none 0 0), (.slice none 0 0)] 25 (0, 0))) ∧ Aside0 (Below w.heap.size w w'))
 case atStart => exact ⟨(0), ((⟨#[]⟩ : ByteArray)), prs, H', ⟨Nat.le_refl _⟩, ⟨pkv ac.1⟩, ⟨pkv aa.1⟩, ⟨pbk ab.1⟩, ⟨pbk af.1⟩, ⟨pbg⟩⟩
 clear H'
 try clear c5 bB bJ c8 bK bL bR bS cf cu
 obtain ⟨bn, a3, rfl, HA, ch, ac, aa, ab, af, HB⟩ := hrel
 obtain _ | k2 := gk
 ·exact absurd HA.1 (by simp [r09_Small.l0])
 have H := HA.1
 clear HA
 simp only [r09_Small.l0] at H
 replace H := ifl H
 rcases H with ⟨bM, H⟩ | ⟨bM, H⟩
 ·replace H := ifp H
  obtain ⟨cj, H⟩ := H
  have b0 := decide_eq_true cj
  clear cj
  by_cases bP : (((rd_T64 aN bn).f0).size : Int) > 20
  rotate_left
  ·rw [if_neg bP] at H
   have bN : decide (20 < (((rd_T64 aN bn).f0).size : Int)) = false := decide_eq_false bP
   have bO : decide (20 < ((rd_T64 aN bn).f0).size) = false := decide_eq_false (by omega)
   clear bP
   have H' := am H
   clear H
   have cD := aw.1
   have cY := ax.1
   have cq := cf3 ab.1
   obtain ⟨cd, ce, bZ, bQ, bF, bG, bH⟩ := dT64 (Kd.V_reads' ac.1).2.2 bn
   cases bQ
   go_wp2
   go_roundg k2
   case measure => have := cg.1; have := ch.1; omega
   case rel => exact ⟨(wrap64 (bn + 1)), (a3), prs, H', ⟨by have := cg.1; have := ch.1; omega⟩, ⟨pkv ac.1⟩, ⟨pkv aa.1⟩, ⟨pbk ab.1⟩, ⟨pbk af.1⟩, ⟨pbg⟩⟩
  rw [if_pos bP] at H
  have bN : decide (20 < (((rd_T64 aN bn).f0).size : Int)) = true := decide_eq_true bP
  have bO : decide (20 < ((rd_T64 aN bn).f0).size) = true := decide_eq_true (by omega)
  clear bP
  simp only [Option.some.injEq, Prod.mk.injEq] at H
  obtain ⟨rfl, rfl, rfl, rfl⟩ := H
  have cC := aw.1
  have cX := ax.1
  have co := cf3 ab.1
  obtain ⟨cd, ce, bZ, bQ, bF, bG, bH⟩ := dT64 (Kd.V_reads' ac.1).2.2 bn
  cases bQ
  have cp := cf3 af.1
  go_wp2
  refine bodyPost_ret (results_ct rfl _ _ aP 25 #[.string (⟨#[]⟩ : ByteArray), .slice none 0 0, .slice none 0 0] (0, 0) _ rfl (by (with_reducible repeat (first | refine blk_drewN ?_ _ | refine blk_drew ?_ | refine blk_alloc ?_ _)); exact bp3 (pbk af.1)) Try.underlying25 rfl (by kernel_rfl)) rfl ?_
  exact ⟨_, _, per, (Kd.V_nil _ _ _ _ _), (Kd.V_nil _ _ _ _ _), pbg⟩
 have H' := am H
 clear H
 have cE := aw.1
 have cZ := ax.1
 have cr := cf3 ab.1
 go_wp2
 go_loopg [5] k2 (fun kq v5 w' => ∃ (aj : Int) (aQ : ByteArray), v5 = .int .i64 aj ∧ Aside0 (r09_Small.l1 kq aj a4 aN ae = some (r1, r2, r3, r4)) ∧ Aside0 (kq ≤ k2) ∧ Aside0 (Kd.V k64 64 w' w.heap.size (fun k_ => ((P0_1_ k_ ∨ P0_2_ k_) ∨ w.heap.size ≤ k_) ∧ k_ ≠ a7 ∧ k_ ≠ aP) (.slice bo aN.length bq) aN) ∧ Aside0 (Kd.V k38 38 w' w.heap.size (fun k_ => ((P0_1_ k_ ∨ P0_2_ k_) ∨ w.heap.size ≤ k_) ∧ k_ ≠ a7 ∧ k_ ≠ aP) (.slice bp ae.length br) ae) ∧ Aside0 (w'.heap[a7]? = some (.cells #[.string a4, (.slice bo aN.length bq), (.slice bp ae.length br)] 25 (0, 0))) ∧ Aside0 (w'.heap[aP]? = some (.cells #[.string aQ, (.slice none 0 0), (.slice none 0 0)] 25 (0, 0))) ∧ Aside0 (Below w.heap.size w w'))
 case atStart => exact ⟨(0), (a3), prs, H', ⟨Nat.le_refl _⟩, ⟨pkv ac.1⟩, ⟨pkv aa.1⟩, ⟨pbk ab.1⟩, ⟨pbk af.1⟩, ⟨pbg⟩⟩
 clear H'
 try clear c5 bB bJ c8 bK bL dV bM cj b0 bP bN bO bR bS cf co cp cq cr cu bF bG bH cd ce
 obtain ⟨aj, aQ, rfl, HA, cx, ac, aa, ab, af, HB⟩ := hrel
 obtain _ | k3 := gk
 ·exact absurd HA.1 (by simp [r09_Small.l1])
 have H := HA.1
 clear HA
 simp only [r09_Small.l1] at H
 replace H := ifl H
 rcases H with ⟨b1, H⟩ | ⟨b1, H⟩
 rotate_left
 ·simp only [Option.some.injEq, Prod.mk.injEq] at H
  obtain ⟨rfl, rfl, rfl, rfl⟩ := H
  have cU := aw.1
  have dt := ax.1
  have dS := cf3 ab.1
  have dU := cf3 af.1
  go_wp2
  refine bodyPost_ret (results_ct rfl _ _ aP 25 #[.string a4, .slice bo aN.length bq, .slice bp ae.length br] (0, 0) _ rfl (by (with_reducible repeat (first | refine blk_drewN ?_ _ | refine blk_drew ?_ | refine blk_alloc ?_ _)); exact bp3 (pbk af.1)) Try.underlying25 rfl (by kernel_rfl)) rfl ?_
  exact ⟨_, _, per, by (with_reducible repeat (first | apply Kd.V_alloc | apply Kd.V_drewN | apply Kd.V_drew)); exact Kd.V_mono (fV3 aP (Kd.V_mono ac.1 (fun k_ hk => (⟨hk, hk.2.2⟩ : _ ∧ k_ ≠ aP))) (fun _ hk => hk.2)) (fun _ hk => hk.1.1), by (with_reducible repeat (first | apply Kd.V_alloc | apply Kd.V_drewN | apply Kd.V_drew)); exact Kd.V_mono (fV3 aP (Kd.V_mono aa.1 (fun k_ hk => (⟨hk, hk.2.2⟩ : _ ∧ k_ ≠ aP))) (fun _ hk => hk.2)) (fun _ hk => hk.1.1), pbg⟩
 replace H := ifp H
 obtain ⟨cy, H⟩ := H
 have cz := decide_eq_true cy
 clear cy
 by_cases bT : (((rd_T38 ae aj).f0).size : Int) > 20
 ·rw [if_pos bT] at H
  have b2 : decide (20 < (((rd_T38 ae aj).f0).size : Int)) = true := decide_eq_true bT
  have b3 : decide (20 < ((rd_T38 ae aj).f0).size) = true := decide_eq_true (by omega)
  clear bT
  simp only [Option.some.injEq, Prod.mk.injEq] at H
  obtain ⟨rfl, rfl, rfl, rfl⟩ := H
  have cF := aw.1
  have da := ax.1
  have dE := cf3 ab.1
  have aU : 0 ≤ (aj : Int) := dq
  have aV : aj < (ae.length : Int) := dq
  obtain ⟨bD, bs, bw, bu, bx, bv, bz, bA, bc, aR, aS, aT, bd, aI, aF, aJ, aG, aK, aH⟩ := at_T38 (Kd.V_reads' aa.1).2.2 aj aU aV
  cases bA
  obtain ⟨bE, aY, aX, aq⟩ := Kd.V_get aa.1 z38 aj aU (by first | exact aV | exact dq | (have e_ := (Kd.V_reads' aa.1).1; omega))
  obtain ⟨bf, bi, bg, bj, bh, bk, rfl, ar, al, au, ao, av, ap⟩ := k38_openF aX
  have ag := aq 1 _ rfl
  rw [add_field _ _ 1 (by omega)] at ag
  replace ag := Option.some.inj (ag.symm.trans aR)
  injection ag with hva_ hvn_ hvc_
  rw [hva_] at al
  rw [hvc_] at ar
  have az := am (show Kd.V k68 68 _ w.heap.size _ _ ((rd_T38 ae aj).f1) from Kd.V_mk ar al)
  clear hva_ hvn_ hvc_ al ar
  have ah := aq 2 _ rfl
  rw [add_field _ _ 2 (by omega)] at ah
  replace ah := Option.some.inj (ah.symm.trans aS)
  injection ah with hva_ hvn_ hvc_
  rw [hva_] at ao
  rw [hvc_] at au
  have aA := am (show Kd.V k68 68 _ w.heap.size _ _ ((rd_T38 ae aj).f2) from Kd.V_mk au ao)
  clear hva_ hvn_ hvc_ ao au
  have ai := aq 3 _ rfl
  rw [add_field _ _ 3 (by omega)] at ai
  replace ai := Option.some.inj (ai.symm.trans aT)
  injection ai with hva_ hvn_ hvc_
  rw [hva_] at ap
  rw [hvc_] at av
  have aB := am (show Kd.V k68 68 _ w.heap.size _ _ ((rd_T38 ae aj).f3) from Kd.V_mk av ap)
  clear hva_ hvn_ hvc_ ap av aq aY
  have aC := am aF
  have a9 := am aI
  clear aF aI
  have aD := am aG
  have ba := am aJ
  clear aG aJ
  have aE := am aH
  have bb := am aK
  clear aH aK
  replace aU := eq_true aU
  replace aV := eq_true aV
  go_wp2_with (first | ((with_reducible refine gate_dst (N := 6) rfl ?_); (try (refine gate_guard (by rfl) ?_; dsimp only)); refine box_ev (N := 6) (cs := #[.string (⟨#[]⟩ : ByteArray), .slice none 0 0, .slice none 0 0, .slice none 0 0, .int .i64 0]) (t := 38) ?_; intro a8 hg dW hbox hb; have a5 := am hbox; have a6 := gwb hg; have bC := a6; have ay := nlt hg ab; have aL := ngt hg ab; have ak := nlt hg af; have aM := ngt hg af; replace ac := vbb ac hg hb; replace aa := vbb aa hg hb; replace az := vbb az hg hb; replace aA := vbb aA hg hb; replace aB := vbb aB hg hb; replace ab := bbh ab hb; replace af := bbh af hb; replace aC := cbb aC hb; replace aD := cbb aD hb; replace aE := cbb aE hb; replace HB := bst hb; clear hb hbox hg; have cG := aL.1; have db := ay.1; have cH := aM.1; have dc := ak.1; have dF := cf5 a5.1; have dG := cf3 af.1))
  refine bodyPost_ret (results_ct rfl _ _ aP 25 #[.string (⟨#[]⟩ : ByteArray), .slice none 0 0, .slice none 0 0] (0, 0) _ rfl (by (with_reducible repeat (first | refine blk_drewN ?_ _ | refine blk_drew ?_ | refine blk_alloc ?_ _)); refine blk_put (cs := #[.string (⟨#[]⟩ : ByteArray), .slice none 0 0, .slice none 0 0]) ?_ 2 _ rfl; (with_reducible repeat (first | refine blk_drewN ?_ _ | refine blk_drew ?_ | refine blk_alloc ?_ _)); refine blk_put (cs := #[.string (⟨#[]⟩ : ByteArray), .slice none 0 0, .slice none 0 0]) ?_ 1 _ rfl; (with_reducible repeat (first | refine blk_drewN ?_ _ | refine blk_drew ?_ | refine blk_alloc ?_ _)); refine blk_put (cs := #[.string aQ, .slice none 0 0, .slice none 0 0]) ?_ 0 _ rfl; (with_reducible repeat (first | refine blk_drewN ?_ _ | refine blk_drew ?_ | refine blk_alloc ?_ _)); refine bf5 ?_ ak.1; exact pbk af.1) Try.underlying25 rfl (by kernel_rfl)) rfl ?_
  exact ⟨_, _, per, (Kd.V_nil _ _ _ _ _), (Kd.V_nil _ _ _ _ _), pbg⟩
 rw [if_neg bT] at H
 have b2 : decide (20 < (((rd_T38 ae aj).f0).size : Int)) = false := decide_eq_false bT
 have b3 : decide (20 < ((rd_T38 ae aj).f0).size) = false := decide_eq_false (by omega)
 clear bT
 by_cases bU : (((rd_T38 ae aj).f1).length : Int) > 26
 ·rw [if_pos bU] at H
  have b4 : decide (26 < (((rd_T38 ae aj).f1).length : Int)) = true := decide_eq_true bU
  have b5 : decide (26 < ((rd_T38 ae aj).f1).length) = true := decide_eq_true (by omega)
  clear bU
  simp only [Option.some.injEq, Prod.mk.injEq] at H
  obtain ⟨rfl, rfl, rfl, rfl⟩ := H
  have cI := aw.1
  have de := ax.1
  have dH := cf3 ab.1
  have aU : 0 ≤ (aj : Int) := dq
  have aV : aj < (ae.length : Int) := dq
  obtain ⟨bD, bs, bw, bu, bx, bv, bz, bA, bc, aR, aS, aT, bd, aI, aF, aJ, aG, aK, aH⟩ := at_T38 (Kd.V_reads' aa.1).2.2 aj aU aV
  cases bA
  obtain ⟨bE, aY, aX, aq⟩ := Kd.V_get aa.1 z38 aj aU (by first | exact aV | exact dq | (have e_ := (Kd.V_reads' aa.1).1; omega))
  obtain ⟨bf, bi, bg, bj, bh, bk, rfl, ar, al, au, ao, av, ap⟩ := k38_openF aX
  have ag := aq 1 _ rfl
  rw [add_field _ _ 1 (by omega)] at ag
  replace ag := Option.some.inj (ag.symm.trans aR)
  injection ag with hva_ hvn_ hvc_
  rw [hva_] at al
  rw [hvc_] at ar
  have az := am (show Kd.V k68 68 _ w.heap.size _ _ ((rd_T38 ae aj).f1) from Kd.V_mk ar al)
  clear hva_ hvn_ hvc_ al ar
  have ah := aq 2 _ rfl
  rw [add_field _ _ 2 (by omega)] at ah
  replace ah := Option.some.inj (ah.symm.trans aS)
  injection ah with hva_ hvn_ hvc_
  rw [hva_] at ao
  rw [hvc_] at au
  have aA := am (show Kd.V k68 68 _ w.heap.size _ _ ((rd_T38 ae aj).f2) from Kd.V_mk au ao)
  clear hva_ hvn_ hvc_ ao au
  have ai := aq 3 _ rfl
  rw [add_field _ _ 3 (by omega)] at ai
  replace ai := Option.some.inj (ai.symm.trans aT)
  injection ai with hva_ hvn_ hvc_
  rw [hva_] at ap
  rw [hvc_] at av
  have aB := am (show Kd.V k68 68 _ w.heap.size _ _ ((rd_T38 ae aj).f3) from Kd.V_mk av ap)
  clear hva_ hvn_ hvc_ ap av aq aY
  have aC := am aF
  have a9 := am aI
  clear aF aI
  have aD := am aG
  have ba := am aJ
  clear aG aJ
  have aE := am aH
  have bb := am aK
  clear aH aK
  replace aU := eq_true aU
  replace aV := eq_true aV
  go_wp2_with (first | ((with_reducible refine gate_dst (N := 6) rfl ?_); (try (refine gate_guard (by rfl) ?_; dsimp only)); refine box_ev (N := 6) (cs := #[.string (⟨#[]⟩ : ByteArray), .slice none 0 0, .slice none 0 0, .slice none 0 0, .int .i64 0]) (t := 38) ?_; intro a8 hg dX hbox hb; have a5 := am hbox; have a6 := gwb hg; have bC := a6; have ay := nlt hg ab; have aL := ngt hg ab; have ak := nlt hg af; have aM := ngt hg af; replace ac := vbb ac hg hb; replace aa := vbb aa hg hb; replace az := vbb az hg hb; replace aA := vbb aA hg hb; replace aB := vbb aB hg hb; replace ab := bbh ab hb; replace af := bbh af hb; replace aC := cbb aC hb; replace aD := cbb aD hb; replace aE := cbb aE hb; replace HB := bst hb; clear hb hbox hg; have cJ := aL.1; have df := ay.1; have cK := aM.1; have dg := ak.1; have dI := cf5 a5.1; have dJ := cf3 af.1))
  refine bodyPost_ret (results_ct rfl _ _ aP 25 #[.string (⟨#[]⟩ : ByteArray), .slice none 0 0, .slice none 0 0] (0, 0) _ rfl (by (with_reducible repeat (first | refine blk_drewN ?_ _ | refine blk_drew ?_ | refine blk_alloc ?_ _)); refine blk_put (cs := #[.string (⟨#[]⟩ : ByteArray), .slice none 0 0, .slice none 0 0]) ?_ 2 _ rfl; (with_reducible repeat (first | refine blk_drewN ?_ _ | refine blk_drew ?_ | refine blk_alloc ?_ _)); refine blk_put (cs := #[.string (⟨#[]⟩ : ByteArray), .slice none 0 0, .slice none 0 0]) ?_ 1 _ rfl; (with_reducible repeat (first | refine blk_drewN ?_ _ | refine blk_drew ?_ | refine blk_alloc ?_ _)); refine blk_put (cs := #[.string aQ, .slice none 0 0, .slice none 0 0]) ?_ 0 _ rfl; (with_reducible repeat (first | refine blk_drewN ?_ _ | refine blk_drew ?_ | refine blk_alloc ?_ _)); refine bf5 ?_ ak.1; exact pbk af.1) Try.underlying25 rfl (by kernel_rfl)) rfl ?_
  exact ⟨_, _, per, (Kd.V_nil _ _ _ _ _), (Kd.V_nil _ _ _ _ _), pbg⟩
 rw [if_neg bU] at H
 have b4 : decide (26 < (((rd_T38 ae aj).f1).length : Int)) = false := decide_eq_false bU
 have b5 : decide (26 < ((rd_T38 ae aj).f1).length) = false := decide_eq_false (by omega)
 clear bU
 by_cases bV : (((rd_T38 ae aj).f2).length : Int) > 26
 ·rw [if_pos bV] at H
  have b6 : decide (26 < (((rd_T38 ae aj).f2).length : Int)) = true := decide_eq_true bV
  have b7 : decide (26 < ((rd_T38 ae aj).f2).length) = true := decide_eq_true (by omega)
  clear bV
  simp only [Option.some.injEq, Prod.mk.injEq] at H
  obtain ⟨rfl, rfl, rfl, rfl⟩ := H
  have cL := aw.1
  have dh := ax.1
  have dK := cf3 ab.1
  have aU : 0 ≤ (aj : Int) := dq
  have aV : aj < (ae.length : Int) := dq
  obtain ⟨bD, bs, bw, bu, bx, bv, bz, bA, bc, aR, aS, aT, bd, aI, aF, aJ, aG, aK, aH⟩ := at_T38 (Kd.V_reads' aa.1).2.2 aj aU aV
  cases bA
  obtain ⟨bE, aY, aX, aq⟩ := Kd.V_get aa.1 z38 aj aU (by first | exact aV | exact dq | (have e_ := (Kd.V_reads' aa.1).1; omega))
  obtain ⟨bf, bi, bg, bj, bh, bk, rfl, ar, al, au, ao, av, ap⟩ := k38_openF aX
  have ag := aq 1 _ rfl
  rw [add_field _ _ 1 (by omega)] at ag
  replace ag := Option.some.inj (ag.symm.trans aR)
  injection ag with hva_ hvn_ hvc_
  rw [hva_] at al
  rw [hvc_] at ar
  have az := am (show Kd.V k68 68 _ w.heap.size _ _ ((rd_T38 ae aj).f1) from Kd.V_mk ar al)
  clear hva_ hvn_ hvc_ al ar
  have ah := aq 2 _ rfl
  rw [add_field _ _ 2 (by omega)] at ah
  replace ah := Option.some.inj (ah.symm.trans aS)
  injection ah with hva_ hvn_ hvc_
  rw [hva_] at ao
  rw [hvc_] at au
  have aA := am (show Kd.V k68 68 _ w.heap.size _ _ ((rd_T38 ae aj).f2) from Kd.V_mk au ao)
  clear hva_ hvn_ hvc_ ao au
  have ai := aq 3 _ rfl
  rw [add_field _ _ 3 (by omega)] at ai
  replace ai := Option.some.inj (ai.symm.trans aT)
  injection ai with hva_ hvn_ hvc_
  rw [hva_] at ap
  rw [hvc_] at av
  have aB := am (show Kd.V k68 68 _ w.heap.size _ _ ((rd_T38 ae aj).f3) from Kd.V_mk av ap)
  clear hva_ hvn_ hvc_ ap av aq aY
  have aC := am aF
  have a9 := am aI
  clear aF aI
  have aD := am aG
  have ba := am aJ
  clear aG aJ
  have aE := am aH
  have bb := am aK
  clear aH aK
  replace aU := eq_true aU
  replace aV := eq_true aV
  go_wp2_with (first | ((with_reducible refine gate_dst (N := 6) rfl ?_); (try (refine gate_guard (by rfl) ?_; dsimp only)); refine box_ev (N := 6) (cs := #[.string (⟨#[]⟩ : ByteArray), .slice none 0 0, .slice none 0 0, .slice none 0 0, .int .i64 0]) (t := 38) ?_; intro a8 hg dY hbox hb; have a5 := am hbox; have a6 := gwb hg; have bC := a6; have ay := nlt hg ab; have aL := ngt hg ab; have ak := nlt hg af; have aM := ngt hg af; replace ac := vbb ac hg hb; replace aa := vbb aa hg hb; replace az := vbb az hg hb; replace aA := vbb aA hg hb; replace aB := vbb aB hg hb; replace ab := bbh ab hb; replace af := bbh af hb; replace aC := cbb aC hb; replace aD := cbb aD hb; replace aE := cbb aE hb; replace HB := bst hb; clear hb hbox hg; have cM := aL.1; have di := ay.1; have cN := aM.1; have dj := ak.1; have dL := cf5 a5.1; have dM := cf3 af.1))
  refine bodyPost_ret (results_ct rfl _ _ aP 25 #[.string (⟨#[]⟩ : ByteArray), .slice none 0 0, .slice none 0 0] (0, 0) _ rfl (by (with_reducible repeat (first | refine blk_drewN ?_ _ | refine blk_drew ?_ | refine blk_alloc ?_ _)); refine blk_put (cs := #[.string (⟨#[]⟩ : ByteArray), .slice none 0 0, .slice none 0 0]) ?_ 2 _ rfl; (with_reducible repeat (first | refine blk_drewN ?_ _ | refine blk_drew ?_ | refine blk_alloc ?_ _)); refine blk_put (cs := #[.string (⟨#[]⟩ : ByteArray), .slice none 0 0, .slice none 0 0]) ?_ 1 _ rfl; (with_reducible repeat (first | refine blk_drewN ?_ _ | refine blk_drew ?_ | refine blk_alloc ?_ _)); refine blk_put (cs := #[.string aQ, .slice none 0 0, .slice none 0 0]) ?_ 0 _ rfl; (with_reducible repeat (first | refine blk_drewN ?_ _ | refine blk_drew ?_ | refine blk_alloc ?_ _)); refine bf5 ?_ ak.1; exact pbk af.1) Try.underlying25 rfl (by kernel_rfl)) rfl ?_
  exact ⟨_, _, per, (Kd.V_nil _ _ _ _ _), (Kd.V_nil _ _ _ _ _), pbg⟩
 rw [if_neg bV] at H
 have b6 : decide (26 < (((rd_T38 ae aj).f2).length : Int)) = false := decide_eq_false bV
 have b7 : decide (26 < ((rd_T38 ae aj).f2).length) = false := decide_eq_false (by omega)
 clear bV
 by_cases bW : (((rd_T38 ae aj).f3).length : Int) > 26
 ·rw [if_pos bW] at H
  have b8 : decide (26 < (((rd_T38 ae aj).f3).length : Int)) = true := decide_eq_true bW
  have b9 : decide (26 < ((rd_T38 ae aj).f3).length) = true := decide_eq_true (by omega)
  clear bW
  simp only [Option.some.injEq, Prod.mk.injEq] at H
  obtain ⟨rfl, rfl, rfl, rfl⟩ := H
  have cO := aw.1
  have dk := ax.1
  have dN := cf3 ab.1
  have aU : 0 ≤ (aj : Int) := dq
  have aV : aj < (ae.length : Int) := dq
  obtain ⟨bD, bs, bw, bu, bx, bv, bz, bA, bc, aR, aS, aT, bd, aI, aF, aJ, aG, aK, aH⟩ := at_T38 (Kd.V_reads' aa.1).2.2 aj aU aV
  cases bA
  obtain ⟨bE, aY, aX, aq⟩ := Kd.V_get aa.1 z38 aj aU (by first | exact aV | exact dq | (have e_ := (Kd.V_reads' aa.1).1; omega))
  obtain ⟨bf, bi, bg, bj, bh, bk, rfl, ar, al, au, ao, av, ap⟩ := k38_openF aX
  have ag := aq 1 _ rfl
  rw [add_field _ _ 1 (by omega)] at ag
  replace ag := Option.some.inj (ag.symm.trans aR)
  injection ag with hva_ hvn_ hvc_
  rw [hva_] at al
  rw [hvc_] at ar
  have az := am (show Kd.V k68 68 _ w.heap.size _ _ ((rd_T38 ae aj).f1) from Kd.V_mk ar al)
  clear hva_ hvn_ hvc_ al ar
  have ah := aq 2 _ rfl
  rw [add_field _ _ 2 (by omega)] at ah
  replace ah := Option.some.inj (ah.symm.trans aS)
  injection ah with hva_ hvn_ hvc_
  rw [hva_] at ao
  rw [hvc_] at au
  have aA := am (show Kd.V k68 68 _ w.heap.size _ _ ((rd_T38 ae aj).f2) from Kd.V_mk au ao)
  clear hva_ hvn_ hvc_ ao au
  have ai := aq 3 _ rfl
  rw [add_field _ _ 3 (by omega)] at ai
  replace ai := Option.some.inj (ai.symm.trans aT)
  injection ai with hva_ hvn_ hvc_
  rw [hva_] at ap
  rw [hvc_] at av
  have aB := am (show Kd.V k68 68 _ w.heap.size _ _ ((rd_T38 ae aj).f3) from Kd.V_mk av ap)
  clear hva_ hvn_ hvc_ ap av aq aY
  have aC := am aF
  have a9 := am aI
  clear aF aI
  have aD := am aG
  have ba := am aJ
  clear aG aJ
  have aE := am aH
  have bb := am aK
  clear aH aK
  replace aU := eq_true aU
  replace aV := eq_true aV
  go_wp2_with (first | ((with_reducible refine gate_dst (N := 6) rfl ?_); (try (refine gate_guard (by rfl) ?_; dsimp only)); refine box_ev (N := 6) (cs := #[.string (⟨#[]⟩ : ByteArray), .slice none 0 0, .slice none 0 0, .slice none 0 0, .int .i64 0]) (t := 38) ?_; intro a8 hg dZ hbox hb; have a5 := am hbox; have a6 := gwb hg; have bC := a6; have ay := nlt hg ab; have aL := ngt hg ab; have ak := nlt hg af; have aM := ngt hg af; replace ac := vbb ac hg hb; replace aa := vbb aa hg hb; replace az := vbb az hg hb; replace aA := vbb aA hg hb; replace aB := vbb aB hg hb; replace ab := bbh ab hb; replace af := bbh af hb; replace aC := cbb aC hb; replace aD := cbb aD hb; replace aE := cbb aE hb; replace HB := bst hb; clear hb hbox hg; have cP := aL.1; have dl := ay.1; have cQ := aM.1; have dm := ak.1; have dO := cf5 a5.1; have dP := cf3 af.1))
  refine bodyPost_ret (results_ct rfl _ _ aP 25 #[.string (⟨#[]⟩ : ByteArray), .slice none 0 0, .slice none 0 0] (0, 0) _ rfl (by (with_reducible repeat (first | refine blk_drewN ?_ _ | refine blk_drew ?_ | refine blk_alloc ?_ _)); refine blk_put (cs := #[.string (⟨#[]⟩ : ByteArray), .slice none 0 0, .slice none 0 0]) ?_ 2 _ rfl; (with_reducible repeat (first | refine blk_drewN ?_ _ | refine blk_drew ?_ | refine blk_alloc ?_ _)); refine blk_put (cs := #[.string (⟨#[]⟩ : ByteArray), .slice none 0 0, .slice none 0 0]) ?_ 1 _ rfl; (with_reducible repeat (first | refine blk_drewN ?_ _ | refine blk_drew ?_ | refine blk_alloc ?_ _)); refine blk_put (cs := #[.string aQ, .slice none 0 0, .slice none 0 0]) ?_ 0 _ rfl; (with_reducible repeat (first | refine blk_drewN ?_ _ | refine blk_drew ?_ | refine blk_alloc ?_ _)); refine bf5 ?_ ak.1; exact pbk af.1) Try.underlying25 rfl (by kernel_rfl)) rfl ?_
  exact ⟨_, _, per, (Kd.V_nil _ _ _ _ _), (Kd.V_nil _ _ _ _ _), pbg⟩
 rw [if_neg bW] at H
 have b8 : decide (26 < (((rd_T38 ae aj).f3).length : Int)) = false := decide_eq_false bW
 have b9 : decide (26 < ((rd_T38 ae aj).f3).length) = false := decide_eq_false (by omega)
 clear bW
 have H' := am H
 clear H
 have cR := aw.1
 have dn := ax.1
 have dQ := cf3 ab.1
 have aU : 0 ≤ (aj : Int) := dq
 have aV : aj < (ae.length : Int) := dq
 obtain ⟨bD, bs, bw, bu, bx, bv, bz, bA, bc, aR, aS, aT, bd, aI, aF, aJ, aG, aK, aH⟩ := at_T38 (Kd.V_reads' aa.1).2.2 aj aU aV
 cases bA
 obtain ⟨bE, aY, aX, aq⟩ := Kd.V_get aa.1 z38 aj aU (by first | exact aV | exact dq | (have e_ := (Kd.V_reads' aa.1).1; omega))
 obtain ⟨bf, bi, bg, bj, bh, bk, rfl, ar, al, au, ao, av, ap⟩ := k38_openF aX
 have ag := aq 1 _ rfl
 rw [add_field _ _ 1 (by omega)] at ag
 replace ag := Option.some.inj (ag.symm.trans aR)
 injection ag with hva_ hvn_ hvc_
 rw [hva_] at al
 rw [hvc_] at ar
 have az := am (show Kd.V k68 68 _ w.heap.size _ _ ((rd_T38 ae aj).f1) from Kd.V_mk ar al)
 clear hva_ hvn_ hvc_ al ar
 have ah := aq 2 _ rfl
 rw [add_field _ _ 2 (by omega)] at ah
 replace ah := Option.some.inj (ah.symm.trans aS)
 injection ah with hva_ hvn_ hvc_
 rw [hva_] at ao
 rw [hvc_] at au
 have aA := am (show Kd.V k68 68 _ w.heap.size _ _ ((rd_T38 ae aj).f2) from Kd.V_mk au ao)
 clear hva_ hvn_ hvc_ ao au
 have ai := aq 3 _ rfl
 rw [add_field _ _ 3 (by omega)] at ai
 replace ai := Option.some.inj (ai.symm.trans aT)
 injection ai with hva_ hvn_ hvc_
 rw [hva_] at ap
 rw [hvc_] at av
 have aB := am (show Kd.V k68 68 _ w.heap.size _ _ ((rd_T38 ae aj).f3) from Kd.V_mk av ap)
 clear hva_ hvn_ hvc_ ap av aq aY
 have aC := am aF
 have a9 := am aI
 clear aF aI
 have aD := am aG
 have ba := am aJ
 clear aG aJ
 have aE := am aH
 have bb := am aK
 clear aH aK
 replace aU := eq_true aU
 replace aV := eq_true aV
 go_wp2_with (first | ((with_reducible refine gate_dst (N := 6) rfl ?_); (try (refine gate_guard (by rfl) ?_; dsimp only)); refine box_ev (N := 6) (cs := #[.string (⟨#[]⟩ : ByteArray), .slice none 0 0, .slice none 0 0, .slice none 0 0, .int .i64 0]) (t := 38) ?_; intro a8 hg d0 hbox hb; have a5 := am hbox; have a6 := gwb hg; have bC := a6; have ay := nlt hg ab; have aL := ngt hg ab; have ak := nlt hg af; have aM := ngt hg af; replace ac := vbb ac hg hb; replace aa := vbb aa hg hb; replace az := vbb az hg hb; replace aA := vbb aA hg hb; replace aB := vbb aB hg hb; replace ab := bbh ab hb; replace af := bbh af hb; replace aC := cbb aC hb; replace aD := cbb aD hb; replace aE := cbb aE hb; replace HB := bst hb; clear hb hbox hg; have cS := aL.1; have dp := ay.1; have cT := aM.1; have dr := ak.1; have dR := cf5 a5.1))
 go_roundg k3
 case measure => have := cg.1; have := ch.1; have := cx.1; omega
 case rel => exact ⟨(wrap64 (aj + 1)), (aQ), prs, H', ⟨by have := cg.1; have := ch.1; have := cx.1; omega⟩, ⟨by (with_reducible repeat (first | apply Kd.V_alloc | apply Kd.V_drewN | apply Kd.V_drew)); exact Kd.V_mono (fV5 a8 (Kd.V_mono ac.1 (fun k_ hk => (⟨hk, hk.2⟩ : _ ∧ k_ ≠ a8))) (fun _ hk => hk.2)) (fun _ hk => ⟨hk.1.1.1, ⟨hk.1.1.2.1, hk.1.1.2.2⟩⟩)⟩, ⟨by (with_reducible repeat (first | apply Kd.V_alloc | apply Kd.V_drewN | apply Kd.V_drew)); exact Kd.V_mono (fV5 a8 (Kd.V_mono aa.1 (fun k_ hk => (⟨hk, hk.2⟩ : _ ∧ k_ ≠ a8))) (fun _ hk => hk.2)) (fun _ hk => ⟨hk.1.1.1, ⟨hk.1.1.2.1, hk.1.1.2.2⟩⟩)⟩, ⟨by (with_reducible repeat (first | refine blk_drewN ?_ _ | refine blk_drew ?_ | refine blk_alloc ?_ _)); refine bf5 ?_ ay.1; exact pbk ab.1⟩, ⟨by (with_reducible repeat (first | refine blk_drewN ?_ _ | refine blk_drew ?_ | refine blk_alloc ?_ _)); refine bf5 ?_ ak.1; exact pbk af.1⟩, ⟨pbg⟩⟩

/-! ### r09_light: function 33 -/
def r09_light.l0 : Nat → List (S68) → Int → Option (Bool)
 | 0, _, _ => none
 | k + 1, x0, x3 => if x3 < (x0.length : Int) then (if 0 ≤ x3 then (if ((rd_T68 x0 x3).f1) > 3 then (some false) else (r09_light.l0 k x0 (wrap64 (x3 + 1)))) else (none)) else (some true)
def r09_light.f (k : Nat) (l0 : List (S68)) : Option (Bool) := if (l0.length : Int) > 6 then (some false) else (r09_light.l0 k l0 0)
theorem r09_light.mono_l : ∀ k, M2 r09_light.l0 k
 | 0 => fun _ _ r h => by simp [r09_light.l0] at h
 | k + 1 => by
  have ak := r09_light.mono_l k
  ·intro y0 y1
   unfold r09_light.l0
   repeat' first | (with_reducible first | apply ak | apply lr | apply ln | apply li | refine lb ?_ fun _ => ?_)
theorem r09_light.mono : ∀ a0 k, LeO (r09_light.f k a0) (r09_light.f (k + 1) a0) := by
 intro a0 k
 have ak := r09_light.mono_l k
 unfold r09_light.f
 repeat' first | (with_reducible first | apply ak | apply lr | apply ln | apply li | refine lb ?_ fun _ => ?_)
set_option maxHeartbeats 8000000 in
set_option maxRecDepth 100000 in
theorem r09_light.calls (k : Nat) (A0 : Option Addr) (c0 : Nat) (l0 : List (S68)) (r : Bool) (w : World) (ar : Kd.C k68 w A0 l0.length l0) (hc0 : l0.length ≤ c0) (h : r09_light.f k l0 = some r) :
  Calls Try.prog 33 #[.slice A0 l0.length c0] w fun e w' => e = .returned (.bool r) ∧ Drawn0 w w' := by
 have aq := am ar
 have av := am hc0
 clear ar hc0
 have H := h
 unfold r09_light.f at H
 clear h
 by_cases c2 : (l0.length : Int) > 6
 ·rw [if_pos c2] at H
  have ag : decide (6 < (l0.length : Int)) = true := decide_eq_true c2
  have ah : decide (6 < l0.length) = true := decide_eq_true (by omega)
  clear c2
  obtain rfl := Option.some.inj H
  go_enter Try.func33, Try.ntmps33
  go_wp2
  go_ret
  exact ⟨prs, pdr⟩
 rw [if_neg c2] at H
 have ag : decide (6 < (l0.length : Int)) = false := decide_eq_false c2
 have ah : decide (6 < l0.length) = false := decide_eq_false (by omega)
 clear c2
 have H' := am H
 clear H
 go_enter Try.func33, Try.ntmps33
 go_wp2
 go_loopg [3] k (fun kq v3 w' => ∃ (aa : Int), v3 = .int .i64 aa ∧ Aside0 (r09_light.l0 kq l0 aa = some r) ∧ Aside0 (kq ≤ k) ∧ Drawn0 w w')
 case atStart => exact ⟨(0), prs, H', ⟨Nat.le_refl _⟩, pdr⟩
 clear H'
 try clear c2 ag ah
 obtain ⟨aa, rfl, HA, ap, ⟨m1, rfl⟩⟩ := hrel
 obtain _ | k1 := gk
 ·exact absurd HA.1 (by simp [r09_light.l0])
 have H := HA.1
 clear HA
 simp only [r09_light.l0] at H
 replace H := ifl H
 rcases H with ⟨ai, H⟩ | ⟨ai, H⟩
 rotate_left
 ·obtain rfl := Option.some.inj H
  go_wp2
  go_ret
  exact ⟨prs, pdr⟩
 replace H := ifp H
 obtain ⟨c4, H⟩ := H
 have au := decide_eq_true c4
 clear c4
 replace H := ifg H
 rcases H with ⟨aj, H⟩ | ⟨aj, H⟩
 ·obtain rfl := Option.some.inj H
  obtain ⟨al, ao, af, ae, ab, ac⟩ := dT68 aq.1 aa
  cases ae
  go_wp2
  go_ret
  exact ⟨prs, pdr⟩
 have H' := am H
 clear H
 obtain ⟨al, ao, af, ae, ab, ac⟩ := dT68 aq.1 aa
 cases ae
 go_wp2
 go_roundg k1
 case measure => have := ap.1; omega
 case rel => exact ⟨(wrap64 (aa + 1)), prs, H', ⟨by have := ap.1; omega⟩, pdr⟩

/-! ### r09_Light: function 11 -/
mutual
def r09_Light.j0 : Nat → Bool → ByteArray → List (S64) → List (S38) → Option (Bool)
 | 0, _, _, _, _ => none
 | k + 1, cX, aA, ar, ap => if cX = true then (some false) else (r09_Light.l0 k 0 aA ar ap)
def r09_Light.l0 : Nat → Int → ByteArray → List (S64) → List (S38) → Option (Bool)
 | 0, _, _, _, _ => none
 | k + 1, x5, aA, ar, ap => if x5 < (ar.length : Int) then (if 0 ≤ x5 then (if ((rd_T64 ar x5).f1) > 3 then (some false) else (r09_Light.l0 k (wrap64 (x5 + 1)) aA ar ap)) else (none)) else (r09_Light.l1 k 0 aA ar ap)
def r09_Light.l1 : Nat → Int → ByteArray → List (S64) → List (S38) → Option (Bool)
 | 0, _, _, _, _ => none
 | k + 1, x6, aA, ar, ap => if x6 < (ap.length : Int) then (if 0 ≤ x6 then ((r09_light.f k ((rd_T38 ap x6).f1)).bind fun bx => (if bx = true then ((r09_light.f k ((rd_T38 ap x6).f2)).bind fun bz => (if bz = true then ((r09_light.f k ((rd_T38 ap x6).f3)).bind fun bA => (if bA = true then (r09_Light.l1 k (wrap64 (x6 + 1)) aA ar ap) else (some false))) else (some false))) else (some false))) else (none)) else (some true)
end
def r09_Light.f (k : Nat) (aB : ByteArray) (aq : List (S64)) (ak : List (S38)) : Option (Bool) := (r09_Small.f k aB aq ak).bind fun bH => (if bH.2.2.2 = true then (if (aq.length : Int) > 6 then (r09_Light.j0 k true aB aq ak) else (r09_Light.j0 k (decide ((ak.length : Int) > 6)) aB aq ak)) else (r09_Light.j0 k true aB aq ak))
theorem r09_Light.mono_l : ∀ k, M4 r09_Light.j0 k ∧ M4 r09_Light.l0 k ∧ M4 r09_Light.l1 k
 | 0 => ⟨fun _ _ _ _ r h => by simp [r09_Light.j0] at h, fun _ _ _ _ r h => by simp [r09_Light.l0] at h, fun _ _ _ _ r h => by simp [r09_Light.l1] at h⟩
 | k + 1 => by
  obtain ⟨bV, bW, bX⟩ := r09_Light.mono_l k
  refine ⟨?_, ?_, ?_⟩ <;> dsimp only [M4] <;> intros <;> (first | unfold r09_Light.j0 | unfold r09_Light.l0 | unfold r09_Light.l1) <;> repeat' first | (with_reducible first | apply bV | apply bW | apply bX | apply r09_Small.mono | apply r09_light.mono | apply lr | apply ln | apply li | refine lb ?_ fun _ => ?_)
theorem r09_Light.mono : ∀ a0 a1 a2 k, LeO (r09_Light.f k a0 a1 a2) (r09_Light.f (k + 1) a0 a1 a2) := by
 intro a0 a1 a2 k
 obtain ⟨bV, bW, bX⟩ := r09_Light.mono_l k
 unfold r09_Light.f
 repeat' first | (with_reducible first | apply bV | apply bW | apply bX | apply r09_Small.mono | apply r09_light.mono | apply lr | apply ln | apply li | refine lb ?_ fun _ => ?_)
set_option maxHeartbeats 8000000 in
set_option maxRecDepth 100000 in
theorem r09_Light.calls (k : Nat) (aB : ByteArray) (aT : Option Addr) (aY : Nat) (aq : List (S64)) (aU : Option Addr) (aZ : Nat) (ak : List (S38)) (r : Bool) (w : World) (br : Kd.C k64 w aT aq.length aq) (bp : aq.length ≤ aY) (bs : Kd.C k38 w aU ak.length ak) (bq : ak.length ≤ aZ) (h : r09_Light.f k aB aq ak = some r) :
  Calls Try.prog 11 #[.agg #[.string aB, .slice aT aq.length aY, .slice aU ak.length aZ]] w fun e w' => e = .returned (.bool r) ∧ Below w.heap.size w w' := by
 have cS := Try.underlying25
 have cT := Try.underlying38
 have bj := am br
 have bE := am bp
 clear br bp
 have aS := am bs
 have bF := am bq
 clear bs bq
 have HB := am (Below.refl w.heap.size w)
 have H := h
 unfold r09_Light.f at H
 clear h
 replace H := bnd H
 obtain ⟨⟨bm, aI, aJ, bM⟩, A2, H⟩ := H
 (try dsimp only at H)
 have bR := am H
 clear H
 go_enter Try.func11, Try.ntmps11
 go_upto_region 2 with (first | ((with_reducible refine gate_dst (N := 1) rfl ?_); (try (refine gate_guard (by rfl) ?_; dsimp only)); refine box_ev ?_; intro au hg w4 hbox hb; have aa := am hbox; have aR := gwl hg; have b4 := aR; replace HB := bsl hb; clear hb hbox hg; have b1 := cf3 aa.1) | ((with_reducible refine gate_callee (f := 10) rfl ?_); refine gC 10 Try.func10 _ (r09_Small.calls k aB (fun k_ => k_ < w.heap.size) _ _ aq (fun k_ => k_ < w.heap.size) _ _ ak bm aI aJ bM _ (Kd.V_mk bE.1 (Kd.F_below (Kd.C_F k64_heap bj.1) pbg)) (Kd.V_mk bF.1 (Kd.F_below (Kd.C_F k38_heap aS.1) pbg)) A2.1) ?_; rintro e w6 ⟨cU, cV, rfl, cO, ho1, hb⟩; refine ⟨_, rfl, ?_⟩; have aK := am (Kd.V_lower (Kd.V_mono (ok' := fun k_ => k_ ≠ au) cO (fun k_ hk_ => Or.elim hk_ (fun hs_ => Or.elim hs_ (fun hs_ => fun e_ => Nat.not_le.2 hs_ (by rw [e_]; exact aR.1)) (fun hs_ => fun e_ => Nat.not_le.2 hs_ (by rw [e_]; exact aR.1))) (fun hn_ => (Kd.freshB (g := au) (o := .cells #[.string aB, .slice aT aq.length aY, .slice aU ak.length aZ] 25 (0, 0)) (by exact pbk aa.1) k_ hn_)))) (below_size pbg)); have aL := am (Kd.V_lower (Kd.V_mono (ok' := fun k_ => k_ ≠ au) ho1 (fun k_ hk_ => Or.elim hk_ (fun hs_ => Or.elim hs_ (fun hs_ => fun e_ => Nat.not_le.2 hs_ (by rw [e_]; exact aR.1)) (fun hs_ => fun e_ => Nat.not_le.2 hs_ (by rw [e_]; exact aR.1))) (fun hn_ => (Kd.freshB (g := au) (o := .cells #[.string aB, .slice aT aq.length aY, .slice aU ak.length aZ] 25 (0, 0)) (by exact pbk aa.1) k_ hn_)))) (below_size pbg)); replace aa := bbh aa hb; replace HB := bst hb; (try clear hb); (try clear cO); (try clear ho1)) | ((with_reducible refine gate_dst (N := 3) rfl ?_); (try (refine gate_guard (by rfl) ?_; dsimp only)); refine box_ev (N := 3) (cs := #[.string (⟨#[]⟩ : ByteArray), .slice none 0 0, .slice none 0 0]) (t := 25) ?_; intro ah hg w7 hbox hb; have af := am hbox; have bD := gwb hg; have b5 := bD; have ae := nlt hg aa; have ag := ngt hg aa; replace aK := vbb aK hg hb; replace aL := vbb aL hg hb; replace aa := bbh aa hb; replace HB := bst hb; clear hb hbox hg; have cQ := ag.1; have cR := ae.1; have b2 := cf3 af.1; obtain ⟨bc, bf, bT⟩ := Kd.V_slice aK.1; subst bT; obtain ⟨bd, bg, bU⟩ := Kd.V_slice aL.1; subst bU))
 (try simp only [Act.put, List.setIfInBounds_toArray, List.set_cons_zero, List.set_cons_succ])
 go_cut [26] (fun cW wc => ∃ (kq : Nat) (bb : Bool), cW = .bool bb ∧ Aside0 (r09_Light.j0 kq bb aB aq ak = some r) ∧ Aside0 (kq ≤ k) ∧ Aside0 (Kd.V k64 64 wc w.heap.size (fun k_ => k_ ≠ au ∧ k_ ≠ ah) (.slice bc aI.length bf) aI) ∧ Aside0 (Kd.V k38 38 wc w.heap.size (fun k_ => k_ ≠ au ∧ k_ ≠ ah) (.slice bd aJ.length bg) aJ) ∧ Aside0 (wc.heap[au]? = some (.cells #[.string aB, (.slice aT aq.length aY), (.slice aU ak.length aZ)] 25 (0, 0))) ∧ Aside0 (wc.heap[ah]? = some (.cells #[.string bm, (.slice bc aI.length bf), (.slice bd aJ.length bg)] 25 (0, 0))) ∧ Aside0 (Below w.heap.size w wc))
 case first =>
  have H := bR.1
  clear bR
  cases bM
  ·rw [if_neg Bool.false_ne_true] at H
   have H' := am H
   clear H
   go_wp2
   go_meet
   case rel => exact ⟨_, (true), prs, H', ⟨by first | omega | exact Nat.le_refl _⟩, ⟨by (with_reducible repeat (first | apply Kd.V_alloc | apply Kd.V_drewN | apply Kd.V_drew)); exact Kd.V_mono (fV3 ah (Kd.V_mono aK.1 (fun k_ hk => (⟨hk, hk.2⟩ : _ ∧ k_ ≠ ah))) (fun _ hk => hk.2)) (fun _ hk => ⟨hk.1.1, hk.1.2⟩)⟩, ⟨by (with_reducible repeat (first | apply Kd.V_alloc | apply Kd.V_drewN | apply Kd.V_drew)); exact Kd.V_mono (fV3 ah (Kd.V_mono aL.1 (fun k_ hk => (⟨hk, hk.2⟩ : _ ∧ k_ ≠ ah))) (fun _ hk => hk.2)) (fun _ hk => ⟨hk.1.1, hk.1.2⟩)⟩, ⟨by (with_reducible repeat (first | refine blk_drewN ?_ _ | refine blk_drew ?_ | refine blk_alloc ?_ _)); refine bf3 ?_ ae.1; exact pbk aa.1⟩, ⟨by (with_reducible repeat (first | refine blk_drewN ?_ _ | refine blk_drew ?_ | refine blk_alloc ?_ _)); exact bp3 (pbk af.1)⟩, ⟨pbg⟩⟩
  rw [if_pos rfl] at H
  by_cases bl : (aq.length : Int) > 6
  ·rw [if_pos bl] at H
   have aE : decide (6 < (aq.length : Int)) = true := decide_eq_true bl
   have a7 : decide (6 < aq.length) = true := decide_eq_true (by omega)
   clear bl
   (first | rw [aE] | (simp only [i64_w, i32_w]; rw [aE]) | skip)
   have H' := am H
   clear H
   have ca := ae.1
   have cw := ag.1
   have bB := cf3 aa.1
   go_wp2
   go_meet
   case rel => exact ⟨_, (true), prs, H', ⟨by first | omega | exact Nat.le_refl _⟩, ⟨by (with_reducible repeat (first | apply Kd.V_alloc | apply Kd.V_drewN | apply Kd.V_drew)); exact Kd.V_mono (fV3 ah (Kd.V_mono aK.1 (fun k_ hk => (⟨hk, hk.2⟩ : _ ∧ k_ ≠ ah))) (fun _ hk => hk.2)) (fun _ hk => ⟨hk.1.1, hk.1.2⟩)⟩, ⟨by (with_reducible repeat (first | apply Kd.V_alloc | apply Kd.V_drewN | apply Kd.V_drew)); exact Kd.V_mono (fV3 ah (Kd.V_mono aL.1 (fun k_ hk => (⟨hk, hk.2⟩ : _ ∧ k_ ≠ ah))) (fun _ hk => hk.2)) (fun _ hk => ⟨hk.1.1, hk.1.2⟩)⟩, ⟨by (with_reducible repeat (first | refine blk_drewN ?_ _ | refine blk_drew ?_ | refine blk_alloc ?_ _)); refine bf3 ?_ ae.1; exact pbk aa.1⟩, ⟨by (with_reducible repeat (first | refine blk_drewN ?_ _ | refine blk_drew ?_ | refine blk_alloc ?_ _)); exact bp3 (pbk af.1)⟩, ⟨pbg⟩⟩
  rw [if_neg bl] at H
  have aE : decide (6 < (aq.length : Int)) = false := decide_eq_false bl
  have a7 : decide (6 < aq.length) = false := decide_eq_false (by omega)
  clear bl
  (first | rw [aE] | (simp only [i64_w, i32_w]; rw [aE]) | skip)
  have H' := am H
  clear H
  have cb := ae.1
  have cx := ag.1
  have bC := cf3 aa.1
  go_wp2
  go_meet
  case rel => exact ⟨_, (decide ((ak.length : Int) > 6)), prs, H', ⟨by first | omega | exact Nat.le_refl _⟩, ⟨by (with_reducible repeat (first | apply Kd.V_alloc | apply Kd.V_drewN | apply Kd.V_drew)); exact Kd.V_mono (fV3 ah (Kd.V_mono aK.1 (fun k_ hk => (⟨hk, hk.2⟩ : _ ∧ k_ ≠ ah))) (fun _ hk => hk.2)) (fun _ hk => ⟨hk.1.1, hk.1.2⟩)⟩, ⟨by (with_reducible repeat (first | apply Kd.V_alloc | apply Kd.V_drewN | apply Kd.V_drew)); exact Kd.V_mono (fV3 ah (Kd.V_mono aL.1 (fun k_ hk => (⟨hk, hk.2⟩ : _ ∧ k_ ≠ ah))) (fun _ hk => hk.2)) (fun _ hk => ⟨hk.1.1, hk.1.2⟩)⟩, ⟨by (with_reducible repeat (first | refine blk_drewN ?_ _ | refine blk_drew ?_ | refine blk_alloc ?_ _)); refine bf3 ?_ ae.1; exact pbk aa.1⟩, ⟨by (with_reducible repeat (first | refine blk_drewN ?_ _ | refine blk_drew ?_ | refine blk_alloc ?_ _)); exact bp3 (pbk af.1)⟩, ⟨pbg⟩⟩
 clear bR
 try clear b7 bl aE a7 bB bC b1 b2
 obtain ⟨kq, bb, rfl, HA, bO, ab, ac, aa, af, HB⟩ := hcut
 obtain _ | cP := kq
 ·exact absurd HA.1 (by simp [r09_Light.j0])
 have H := HA.1
 clear HA
 simp only [r09_Light.j0] at H
 cases bb
 rotate_left
 ·rw [if_pos rfl] at H
  obtain rfl := Option.some.inj H
  go_wp2
  go_ret
  exact ⟨per, pbg⟩
 rw [if_neg Bool.false_ne_true] at H
 have H' := am H
 clear H
 go_wp2
 go_loopg [5] cP (fun kq v5 w' => ∃ (bh : Int), v5 = .int .i64 bh ∧ Aside0 (r09_Light.l0 kq bh aB aq ak = some r) ∧ Aside0 (kq ≤ cP) ∧ Aside0 (Kd.V k64 64 w' w.heap.size (fun k_ => k_ ≠ au ∧ k_ ≠ ah) (.slice bc aI.length bf) aI) ∧ Aside0 (Kd.V k38 38 w' w.heap.size (fun k_ => k_ ≠ au ∧ k_ ≠ ah) (.slice bd aJ.length bg) aJ) ∧ Aside0 (w'.heap[au]? = some (.cells #[.string aB, (.slice aT aq.length aY), (.slice aU ak.length aZ)] 25 (0, 0))) ∧ Aside0 (w'.heap[ah]? = some (.cells #[.string bm, (.slice bc aI.length bf), (.slice bd aJ.length bg)] 25 (0, 0))) ∧ Aside0 (Below w.heap.size w w'))
 case atStart => exact ⟨(0), prs, H', ⟨Nat.le_refl _⟩, ⟨pkv ab.1⟩, ⟨pkv ac.1⟩, ⟨pbk aa.1⟩, ⟨pbk af.1⟩, ⟨pbg⟩⟩
 clear H'
 try clear b7 bl aE a7 bB bC b1 b2
 obtain ⟨bh, rfl, HA, bP, ab, ac, aa, af, HB⟩ := hrel
 obtain _ | k2 := gk
 ·exact absurd HA.1 (by simp [r09_Light.l0])
 have H := HA.1
 clear HA
 simp only [r09_Light.l0] at H
 replace H := ifl H
 rcases H with ⟨bn, H⟩ | ⟨bn, H⟩
 ·replace H := ifp H
  obtain ⟨bS, H⟩ := H
  have bI := decide_eq_true bS
  clear bS
  replace H := ifg H
  rcases H with ⟨bo, H⟩ | ⟨bo, H⟩
  ·obtain rfl := Option.some.inj H
   have cd := ae.1
   have cy := ag.1
   have bY := cf3 aa.1
   obtain ⟨bK, bL, bG, bu, a8, a9, ba⟩ := bT64 bj.1 HB.1 bh
   cases bu
   go_wp2
   go_ret
   exact ⟨per, pbg⟩
  have H' := am H
  clear H
  have ce := ae.1
  have cz := ag.1
  have bZ := cf3 aa.1
  obtain ⟨bK, bL, bG, bu, a8, a9, ba⟩ := bT64 bj.1 HB.1 bh
  cases bu
  go_wp2
  go_roundg k2
  case measure => have := bO.1; have := bP.1; omega
  case rel => exact ⟨(wrap64 (bh + 1)), prs, H', ⟨by have := bO.1; have := bP.1; omega⟩, ⟨pkv ab.1⟩, ⟨pkv ac.1⟩, ⟨pbk aa.1⟩, ⟨pbk af.1⟩, ⟨pbg⟩⟩
 have H' := am H
 clear H
 have cf := ae.1
 have cA := ag.1
 have b0 := cf3 aa.1
 go_wp2
 go_loopg [6] k2 (fun kq v6 w' => ∃ (ax : Int), v6 = .int .i64 ax ∧ Aside0 (r09_Light.l1 kq ax aB aq ak = some r) ∧ Aside0 (kq ≤ k2) ∧ Aside0 (Kd.V k64 64 w' w.heap.size (fun k_ => k_ ≠ au ∧ k_ ≠ ah) (.slice bc aI.length bf) aI) ∧ Aside0 (Kd.V k38 38 w' w.heap.size (fun k_ => k_ ≠ au ∧ k_ ≠ ah) (.slice bd aJ.length bg) aJ) ∧ Aside0 (w'.heap[au]? = some (.cells #[.string aB, (.slice aT aq.length aY), (.slice aU ak.length aZ)] 25 (0, 0))) ∧ Aside0 (w'.heap[ah]? = some (.cells #[.string bm, (.slice bc aI.length bf), (.slice bd aJ.length bg)] 25 (0, 0))) ∧ Aside0 (Below w.heap.size w w'))
 case atStart => exact ⟨(0), prs, H', ⟨Nat.le_refl _⟩, ⟨pkv ab.1⟩, ⟨pkv ac.1⟩, ⟨pbk aa.1⟩, ⟨pbk af.1⟩, ⟨pbg⟩⟩
 clear H'
 try clear b7 bl aE a7 di bn bS bI dj bo bB bC bY bZ b0 b1 b2 a8 a9 ba bK bL
 obtain ⟨ax, rfl, HA, b6, ab, ac, aa, af, HB⟩ := hrel
 obtain _ | k3 := gk
 ·exact absurd HA.1 (by simp [r09_Light.l1])
 have H := HA.1
 clear HA
 simp only [r09_Light.l1] at H
 replace H := ifl H
 rcases H with ⟨bJ, H⟩ | ⟨bJ, H⟩
 rotate_left
 ·obtain rfl := Option.some.inj H
  have cv := ae.1
  have cN := ag.1
  have dh := cf3 aa.1
  go_wp2
  go_ret
  exact ⟨per, pbg⟩
 replace H := ifp H
 obtain ⟨b8, H⟩ := H
 have b9 := decide_eq_true b8
 clear b8
 replace H := bnd H
 obtain ⟨bx, bN, H⟩ := H
 (try dsimp only at H)
 cases bx
 ·rw [if_neg Bool.false_ne_true] at H
  obtain rfl := Option.some.inj H
  have cq := ae.1
  have cK := ag.1
  have df := cf3 aa.1
  obtain ⟨bv, bw, bk, aV, a3, aW, a4, aX, a5, a6, aM, aN, aO, aP, aQ, av, aw, ay, az, aC, aD⟩ := bT38 aS.1 HB.1 ax
  cases a6
  go_wp2_with (first | ((with_reducible refine gate_dst (N := 7) rfl ?_); (try (refine gate_guard (by rfl) ?_; dsimp only)); refine box_ev (N := 7) (cs := #[.string (⟨#[]⟩ : ByteArray), .slice none 0 0, .slice none 0 0, .slice none 0 0, .int .i64 0]) (t := 38) ?_; intro aH hg dn hbox hb; have aF := am hbox; have aG := gwb hg; have bi := aG; have ai := nlt hg aa; have al := ngt hg aa; have aj := nlt hg af; have ao := ngt hg af; replace ab := vbb ab hg hb; replace ac := vbb ac hg hb; replace aa := bbh aa hb; replace af := bbh af hb; replace HB := bst hb; clear hb hbox hg; have cr := al.1; have cL := ai.1; have cu := ao.1; have cM := aj.1; have dg := cf5 aF.1) | ((with_reducible refine gate_callee (f := 33) rfl ?_); refine gC 55 Try.func33 _ (r09_light.calls k3 _ _ ((rd_T38 ak ax).f1) false _ (Kd.C_below aw.1 pbg) av.1 bN.1) ?_; rintro e w' ⟨rfl, ⟨nd, rfl⟩⟩; refine ⟨_, rfl, ?_⟩))
  go_ret
  exact ⟨per, pbg⟩
 rw [if_pos rfl] at H
 replace H := bnd H
 obtain ⟨bz, bQ, H⟩ := H
 (try dsimp only at H)
 cases bz
 ·rw [if_neg Bool.false_ne_true] at H
  obtain rfl := Option.some.inj H
  have cn := ae.1
  have cH := ag.1
  have dc := cf3 aa.1
  obtain ⟨bv, bw, bk, aV, a3, aW, a4, aX, a5, a6, aM, aN, aO, aP, aQ, av, aw, ay, az, aC, aD⟩ := bT38 aS.1 HB.1 ax
  cases a6
  go_wp2_with (first | ((with_reducible refine gate_dst (N := 7) rfl ?_); (try (refine gate_guard (by rfl) ?_; dsimp only)); refine box_ev (N := 7) (cs := #[.string (⟨#[]⟩ : ByteArray), .slice none 0 0, .slice none 0 0, .slice none 0 0, .int .i64 0]) (t := 38) ?_; intro aH hg dm hbox hb; have aF := am hbox; have aG := gwb hg; have bi := aG; have ai := nlt hg aa; have al := ngt hg aa; have aj := nlt hg af; have ao := ngt hg af; replace ab := vbb ab hg hb; replace ac := vbb ac hg hb; replace aa := bbh aa hb; replace af := bbh af hb; replace HB := bst hb; clear hb hbox hg; have co := al.1; have cI := ai.1; have cp := ao.1; have cJ := aj.1; have de := cf5 aF.1) | ((with_reducible refine gate_callee (f := 33) rfl ?_); refine gC 55 Try.func33 _ (r09_light.calls k3 _ _ ((rd_T38 ak ax).f1) true _ (Kd.C_below aw.1 pbg) av.1 bN.1) ?_; rintro e w' ⟨rfl, ⟨nd, rfl⟩⟩; refine ⟨_, rfl, ?_⟩) | (go_at_call 33; (with_reducible refine (r09_light.calls k3 _ _ ((rd_T38 ak ax).f2) false _ ?side1 ?side2 bQ.1).mono ?_); (case side1 => exact Kd.C_below az.1 pbg); (case side2 => exact ay.1); rintro e w' ⟨rfl, ⟨nd, rfl⟩⟩))
  go_ret
  exact ⟨per, pbg⟩
 rw [if_pos rfl] at H
 replace H := bnd H
 obtain ⟨bA, b3, H⟩ := H
 (try dsimp only at H)
 cases bA
 ·rw [if_neg Bool.false_ne_true] at H
  obtain rfl := Option.some.inj H
  have cj := ae.1
  have cE := ag.1
  have da := cf3 aa.1
  obtain ⟨bv, bw, bk, aV, a3, aW, a4, aX, a5, a6, aM, aN, aO, aP, aQ, av, aw, ay, az, aC, aD⟩ := bT38 aS.1 HB.1 ax
  cases a6
  go_wp2_with (first | ((with_reducible refine gate_dst (N := 7) rfl ?_); (try (refine gate_guard (by rfl) ?_; dsimp only)); refine box_ev (N := 7) (cs := #[.string (⟨#[]⟩ : ByteArray), .slice none 0 0, .slice none 0 0, .slice none 0 0, .int .i64 0]) (t := 38) ?_; intro aH hg dl hbox hb; have aF := am hbox; have aG := gwb hg; have bi := aG; have ai := nlt hg aa; have al := ngt hg aa; have aj := nlt hg af; have ao := ngt hg af; replace ab := vbb ab hg hb; replace ac := vbb ac hg hb; replace aa := bbh aa hb; replace af := bbh af hb; replace HB := bst hb; clear hb hbox hg; have ck := al.1; have cF := ai.1; have cm := ao.1; have cG := aj.1; have db := cf5 aF.1) | ((with_reducible refine gate_callee (f := 33) rfl ?_); refine gC 55 Try.func33 _ (r09_light.calls k3 _ _ ((rd_T38 ak ax).f1) true _ (Kd.C_below aw.1 pbg) av.1 bN.1) ?_; rintro e w' ⟨rfl, ⟨nd, rfl⟩⟩; refine ⟨_, rfl, ?_⟩) | (go_at_call 33; (with_reducible refine (r09_light.calls k3 _ _ ((rd_T38 ak ax).f2) true _ ?side1 ?side2 bQ.1).mono ?_); (case side1 => exact Kd.C_below az.1 pbg); (case side2 => exact ay.1); rintro e w' ⟨rfl, ⟨nd, rfl⟩⟩) | (go_at_call 33; (with_reducible refine (r09_light.calls k3 _ _ ((rd_T38 ak ax).f3) false _ ?side1 ?side2 b3.1).mono ?_); (case side1 => exact Kd.C_below aD.1 pbg); (case side2 => exact aC.1); rintro e w' ⟨rfl, ⟨nd, rfl⟩⟩))
  go_ret
  exact ⟨per, pbg⟩
 rw [if_pos rfl] at H
 have H' := am H
 clear H
 have cg := ae.1
 have cB := ag.1
 have cY := cf3 aa.1
 obtain ⟨bv, bw, bk, aV, a3, aW, a4, aX, a5, a6, aM, aN, aO, aP, aQ, av, aw, ay, az, aC, aD⟩ := bT38 aS.1 HB.1 ax
 cases a6
 go_wp2_with (first | ((with_reducible refine gate_dst (N := 7) rfl ?_); (try (refine gate_guard (by rfl) ?_; dsimp only)); refine box_ev (N := 7) (cs := #[.string (⟨#[]⟩ : ByteArray), .slice none 0 0, .slice none 0 0, .slice none 0 0, .int .i64 0]) (t := 38) ?_; intro aH hg dk hbox hb; have aF := am hbox; have aG := gwb hg; have bi := aG; have ai := nlt hg aa; have al := ngt hg aa; have aj := nlt hg af; have ao := ngt hg af; replace ab := vbb ab hg hb; replace ac := vbb ac hg hb; replace aa := bbh aa hb; replace af := bbh af hb; replace HB := bst hb; clear hb hbox hg; have ch := al.1; have cC := ai.1; have ci := ao.1; have cD := aj.1; have cZ := cf5 aF.1) | ((with_reducible refine gate_callee (f := 33) rfl ?_); refine gC 55 Try.func33 _ (r09_light.calls k3 _ _ ((rd_T38 ak ax).f1) true _ (Kd.C_below aw.1 pbg) av.1 bN.1) ?_; rintro e w' ⟨rfl, ⟨nd, rfl⟩⟩; refine ⟨_, rfl, ?_⟩) | (go_at_call 33; (with_reducible refine (r09_light.calls k3 _ _ ((rd_T38 ak ax).f2) true _ ?side1 ?side2 bQ.1).mono ?_); (case side1 => exact Kd.C_below az.1 pbg); (case side2 => exact ay.1); rintro e w' ⟨rfl, ⟨nd, rfl⟩⟩) | (go_at_call 33; (with_reducible refine (r09_light.calls k3 _ _ ((rd_T38 ak ax).f3) true _ ?side1 ?side2 b3.1).mono ?_); (case side1 => exact Kd.C_below aD.1 pbg); (case side2 => exact aC.1); rintro e w' ⟨rfl, ⟨nd, rfl⟩⟩))
 go_roundg k3
 case measure => have := bO.1; have := bP.1; have := b6.1; omega
 case rel => exact ⟨(wrap64 (ax + 1)), prs, H', ⟨by have := bO.1; have := bP.1; have := b6.1; omega⟩, ⟨by (with_reducible repeat (first | apply Kd.V_alloc | apply Kd.V_drewN | apply Kd.V_drew)); exact Kd.V_mono (fV5 aH (Kd.V_mono ab.1 (fun k_ hk => (⟨hk, hk.2⟩ : _ ∧ k_ ≠ aH))) (fun _ hk => hk.2)) (fun _ hk => ⟨hk.1.1.1, hk.1.1.2⟩)⟩, ⟨by (with_reducible repeat (first | apply Kd.V_alloc | apply Kd.V_drewN | apply Kd.V_drew)); exact Kd.V_mono (fV5 aH (Kd.V_mono ac.1 (fun k_ hk => (⟨hk, hk.2⟩ : _ ∧ k_ ≠ aH))) (fun _ hk => hk.2)) (fun _ hk => ⟨hk.1.1.1, hk.1.1.2⟩)⟩, ⟨by (with_reducible repeat (first | refine blk_drewN ?_ _ | refine blk_drew ?_ | refine blk_alloc ?_ _)); refine bf5 ?_ ai.1; exact pbk aa.1⟩, ⟨by (with_reducible repeat (first | refine blk_drewN ?_ _ | refine blk_drew ?_ | refine blk_alloc ?_ _)); refine bf5 ?_ aj.1; exact pbk af.1⟩, ⟨pbg⟩⟩

/-! ### r04_Lists: function 16 -/
def r04_Lists.l0 : Nat → List (List Int) → List (List Int) → Int → Option (Bool)
 | 0, _, _, _ => none
 | k + 1, x0, x1, x5 => if x5 < (x0.length : Int) then (if 0 ≤ x5 then (if x5 < (x1.length : Int) then ((r04_Same.f k (rd_L11 x0 x5) (rd_L11 x1 x5)).bind fun aq => (if aq = true then (r04_Lists.l0 k x0 x1 (wrap64 (x5 + 1))) else (some false))) else (none)) else (none)) else (some true)
def r04_Lists.f (k : Nat) (l0 : List (List Int)) (l1 : List (List Int)) : Option (Bool) := if (l0.length : Int) = (l1.length : Int) then (r04_Lists.l0 k l0 l1 0) else (some false)
theorem r04_Lists.mono_l : ∀ k, M3 r04_Lists.l0 k
 | 0 => fun _ _ _ r h => by simp [r04_Lists.l0] at h
 | k + 1 => by
  have az := r04_Lists.mono_l k
  ·intro y0 y1 y2
   unfold r04_Lists.l0
   repeat' first | (with_reducible first | apply az | apply r04_Same.mono | apply lr | apply ln | apply li | refine lb ?_ fun _ => ?_)
theorem r04_Lists.mono : ∀ a0 a1 k, LeO (r04_Lists.f k a0 a1) (r04_Lists.f (k + 1) a0 a1) := by
 intro a0 a1 k
 have az := r04_Lists.mono_l k
 unfold r04_Lists.f
 repeat' first | (with_reducible first | apply az | apply r04_Same.mono | apply lr | apply ln | apply li | refine lb ?_ fun _ => ?_)
set_option maxHeartbeats 8000000 in
set_option maxRecDepth 100000 in
theorem r04_Lists.calls (k : Nat) (A0 : Option Addr) (c0 : Nat) (l0 : List (List Int)) (A1 : Option Addr) (c1 : Nat) (l1 : List (List Int)) (r : Bool) (w : World) (aI : Kd.C (Kd.slice 3 (Kd.int .i64)) w A0 l0.length l0) (hc0 : l0.length ≤ c0) (hr1 : Kd.C (Kd.slice 3 (Kd.int .i64)) w A1 l1.length l1) (aH : l1.length ≤ c1) (h : r04_Lists.f k l0 l1 = some r) :
  Calls Try.prog 16 #[.slice A0 l0.length c0, .slice A1 l1.length c1] w fun e w' => e = .returned (.bool r) ∧ Drawn0 w w' := by
 have aF := am aI
 have aL := am hc0
 clear aI hc0
 have aG := am hr1
 have aM := am aH
 clear hr1 aH
 have H := h
 unfold r04_Lists.f at H
 clear h
 by_cases c3 : (l0.length : Int) = (l1.length : Int)
 rotate_left
 ·rw [if_neg c3] at H
  have av : ((l0.length : Int) == (l1.length : Int)) = false := beq_eq_false_iff_ne.mpr c3
  have aw : ((l0.length : Int) != (l1.length : Int)) = true := bne_iff_ne.mpr c3
  have ax : (l0.length == l1.length) = false := by first | simpa using c3 | (simp at c3 ⊢; omega)
  obtain rfl := Option.some.inj H
  go_enter Try.func16, Try.ntmps16
  go_wp2
  repeat (go_quiet (fail); try go_wp2)
  go_ret
  exact ⟨prs, pdr⟩
 rw [if_pos c3] at H
 have av : ((l0.length : Int) == (l1.length : Int)) = true := beq_iff_eq.mpr c3
 have aw : ((l0.length : Int) != (l1.length : Int)) = false := bne_eq_false_iff_eq.mpr c3
 have ax : (l0.length == l1.length) = true := by first | simpa using c3 | (simp at c3 ⊢; omega)
 clear c3
 have H' := am H
 clear H
 go_enter Try.func16, Try.ntmps16
 go_wp2
 repeat (go_quiet (fail); try go_wp2)
 go_loopg [5] k (fun kq v5 w' => ∃ (aa : Int), v5 = .int .i64 aa ∧ Aside0 (r04_Lists.l0 kq l0 l1 aa = some r) ∧ Aside0 (kq ≤ k) ∧ Drawn0 w w')
 case atStart => exact ⟨(0), prs, H', ⟨Nat.le_refl _⟩, pdr⟩
 clear H'
 try clear c1 c3 av aw ax
 obtain ⟨aa, rfl, HA, aE, ⟨m1, rfl⟩⟩ := hrel
 obtain _ | k1 := gk
 ·exact absurd HA.1 (by simp [r04_Lists.l0])
 have H := HA.1
 clear HA
 simp only [r04_Lists.l0] at H
 replace H := ifl H
 rcases H with ⟨ay, H⟩ | ⟨ay, H⟩
 rotate_left
 ·obtain rfl := Option.some.inj H
  go_wp2
  repeat (go_quiet (fail); try go_wp2)
  go_ret
  exact ⟨prs, pdr⟩
 replace H := ifp H
 obtain ⟨c5, H⟩ := H
 have aJ := decide_eq_true c5
 clear c5
 replace H := ifp H
 obtain ⟨c6, H⟩ := H
 have aK := decide_eq_true c6
 clear c6
 replace H := bnd H
 obtain ⟨aq, A7, H⟩ := H
 (try dsimp only at H)
 cases aq
 ·rw [if_neg Bool.false_ne_true] at H
  obtain rfl := Option.some.inj H
  obtain ⟨aA, aC, ar, ai, ak, ao, ag, ab, ae⟩ := dL11 aF.1 aa
  cases ao
  obtain ⟨aB, aD, au, aj, al, ap, ah, ac, af⟩ := dL11 aG.1 aa
  cases ap
  iterate 4 (try go_wp2_with (first | (go_at_call 19; (with_reducible refine (r04_Same.calls k1 _ _ (rd_L11 l0 aa) _ _ (rd_L11 l1 aa) false _ ?side1 ?side2 ?side3 ?side4 A7.1).mono ?_); (case side1 => exact csd ae.1); (case side2 => exact ab.1); (case side3 => exact csd af.1); (case side4 => exact ac.1); rintro e w' ⟨rfl, ⟨nd, rfl⟩⟩; (try first | exact dw1 | exact dw2))); try go_quiet (first | (go_at_call 19; (with_reducible refine (r04_Same.calls k1 _ _ (rd_L11 l0 aa) _ _ (rd_L11 l1 aa) false _ ?side1 ?side2 ?side3 ?side4 A7.1).mono ?_); (case side1 => exact csd ae.1); (case side2 => exact ab.1); (case side3 => exact csd af.1); (case side4 => exact ac.1); rintro e w' ⟨rfl, ⟨nd, rfl⟩⟩; (try first | exact dw1 | exact dw2))))
  go_ret
  exact ⟨prs, pdr⟩
 rw [if_pos rfl] at H
 have H' := am H
 clear H
 obtain ⟨aA, aC, ar, ai, ak, ao, ag, ab, ae⟩ := dL11 aF.1 aa
 cases ao
 obtain ⟨aB, aD, au, aj, al, ap, ah, ac, af⟩ := dL11 aG.1 aa
 cases ap
 iterate 4 (try go_wp2_with (first | (go_at_call 19; (with_reducible refine (r04_Same.calls k1 _ _ (rd_L11 l0 aa) _ _ (rd_L11 l1 aa) true _ ?side1 ?side2 ?side3 ?side4 A7.1).mono ?_); (case side1 => exact csd ae.1); (case side2 => exact ab.1); (case side3 => exact csd af.1); (case side4 => exact ac.1); rintro e w' ⟨rfl, ⟨nd, rfl⟩⟩; (try first | exact dw1 | exact dw2))); try go_quiet (first | (go_at_call 19; (with_reducible refine (r04_Same.calls k1 _ _ (rd_L11 l0 aa) _ _ (rd_L11 l1 aa) true _ ?side1 ?side2 ?side3 ?side4 A7.1).mono ?_); (case side1 => exact csd ae.1); (case side2 => exact ab.1); (case side3 => exact csd af.1); (case side4 => exact ac.1); rintro e w' ⟨rfl, ⟨nd, rfl⟩⟩; (try first | exact dw1 | exact dw2))))
 go_roundg k1
 case measure => have := aE.1; omega
 case rel => exact ⟨(wrap64 (aa + 1)), prs, H', ⟨by have := aE.1; omega⟩, pdr⟩

end Go.Proofs.Ytaoogghpadifiaa.P
