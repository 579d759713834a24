-- LAID BY OUR PROGRAM OVER THE PRINT (xprint.py, part.py): Lean checks it.
import Derived.Test.YteknagfpiadaiaaPx0
namespace Go.Proofs.Yteknagfpiadaiaa.P
open Go.RowKit Go.Proofs.YteknagfpiadaiaaW.PrintWords Go.Proofs.YteknagfpiadaiaaW.PrintLast Go.Proofs.YteknagfpiadaiaaW.PrintMore
attribute [local go_sem] max2_int min2_int max_two min_two max_three min_three max_four min_four   -- for this text's walks alone
set_option linter.unusedVariables false
set_option linter.unusedSimpArgs false

/-! ### r09_Small: function 10 -/
mutual
def r09_Small.j0 : Nat → Bool → ByteArray → List (S57) → List (S60) → Option (ByteArray × (List (S57)) × (List (S60)) × Bool)
 | 0, _, _, _, _ => none
 | k + 1, dx, aZ, aW, aO => if dx = true then (some ((⟨#[]⟩ : ByteArray), ([] : List (S57)), ([] : List (S60)), false)) else (r09_Small.l0 k 0 aZ aW aO)
def r09_Small.l0 : Nat → Int → ByteArray → List (S57) → List (S60) → Option (ByteArray × (List (S57)) × (List (S60)) × Bool)
 | 0, _, _, _, _ => none
 | k + 1, x4, aZ, aW, aO => if x4 < (aW.length : Int) then (if 0 ≤ x4 then (if (((rd_T57 aW x4).f0).size : Int) > 20 then (some ((⟨#[]⟩ : ByteArray), ([] : List (S57)), ([] : List (S60)), false)) else (r09_Small.l0 k (wrap64 (x4 + 1)) aZ aW aO)) else (none)) else (r09_Small.l1 k 0 aZ aW aO)
def r09_Small.l1 : Nat → Int → ByteArray → List (S57) → List (S60) → Option (ByteArray × (List (S57)) × (List (S60)) × Bool)
 | 0, _, _, _, _ => none
 | k + 1, x5, aZ, aW, aO => if x5 < (aO.length : Int) then (if 0 ≤ x5 then (if (((rd_T60 aO x5).f0).size : Int) > 20 then (some ((⟨#[]⟩ : ByteArray), ([] : List (S57)), ([] : List (S60)), false)) else (if (((rd_T60 aO x5).f1).length : Int) > 26 then (some ((⟨#[]⟩ : ByteArray), ([] : List (S57)), ([] : List (S60)), false)) else (if (((rd_T60 aO x5).f2).length : Int) > 26 then (some ((⟨#[]⟩ : ByteArray), ([] : List (S57)), ([] : List (S60)), false)) else (if (((rd_T60 aO x5).f3).length : Int) > 26 then (some ((⟨#[]⟩ : ByteArray), ([] : List (S57)), ([] : List (S60)), false)) else (r09_Small.l1 k (wrap64 (x5 + 1)) aZ aW aO))))) else (none)) else (some (aZ, aW, aO, true))
end
def r09_Small.f (k : Nat) (a4 : ByteArray) (aN : List (S57)) (ae : List (S60)) : Option (ByteArray × (List (S57)) × (List (S60)) × Bool) := if (aN.length : Int) > 26 then (r09_Small.j0 k true a4 aN ae) else (if (ae.length : Int) > 26 then (r09_Small.j0 k true a4 aN ae) else (r09_Small.j0 k (decide ((a4.size : Int) > 20)) a4 aN ae))
theorem r09_Small.mono_l : ∀ k, M4 r09_Small.j0 k ∧ M4 r09_Small.l0 k ∧ M4 r09_Small.l1 k
 | 0 => ⟨fun _ _ _ _ r h => by simp [r09_Small.j0] at h, fun _ _ _ _ r h => by simp [r09_Small.l0] at h, fun _ _ _ _ r h => by simp [r09_Small.l1] at h⟩
 | k + 1 => by
  obtain ⟨ch, ci, cj⟩ := r09_Small.mono_l k
  refine ⟨?_, ?_, ?_⟩ <;> dsimp only [M4] <;> intros <;> (first | unfold r09_Small.j0 | unfold r09_Small.l0 | unfold r09_Small.l1) <;> repeat' first | (with_reducible first | apply ch | apply ci | apply cj | apply lr | apply ln | apply li | refine lb ?_ fun _ => ?_)
theorem r09_Small.mono : ∀ a0 a1 a2 k, LeO (r09_Small.f k a0 a1 a2) (r09_Small.f (k + 1) a0 a1 a2) := by
 intro a0 a1 a2 k
 obtain ⟨ch, ci, cj⟩ := r09_Small.mono_l k
 unfold r09_Small.f
 repeat' first | (with_reducible first | apply ch | apply ci | apply cj | apply lr | apply ln | apply li | refine lb ?_ fun _ => ?_)
set_option maxHeartbeats 8000000 in
set_option maxRecDepth 100000 in
theorem r09_Small.calls (k : Nat) (a4 : ByteArray) (P0_1_ : Nat → Prop) (bo : Option Addr) (bq : Nat) (aN : List (S57)) (P0_2_ : Nat → Prop) (bp : Option Addr) (br : Nat) (ae : List (S60)) (r1 : ByteArray) (r2 : List (S57)) (r3 : List (S60)) (r4 : Bool) (w : World) (b8 : Kd.V k57 57 w w.heap.size (fun k_ => P0_1_ k_) (.slice bo aN.length bq) aN) (b9 : Kd.V k60 60 w w.heap.size (fun k_ => P0_2_ k_) (.slice bp ae.length br) ae) (h : r09_Small.f k a4 aN ae = some (r1, r2, r3, r4)) :
  Calls Try.prog 10 #[.agg #[.string a4, .slice bo aN.length bq, .slice bp ae.length br]] w fun e w' => ∃ v1_ v2_ : Value, e = .returned (.tuple #[.agg #[.string r1, v1_, v2_], .bool r4]) ∧ Kd.V k57 57 w' w.heap.size (fun k_ => ((P0_1_ k_ ∨ P0_2_ k_) ∨ w.heap.size ≤ k_)) v1_ r2 ∧ Kd.V k60 60 w' w.heap.size (fun k_ => ((P0_1_ k_ ∨ P0_2_ k_) ∨ w.heap.size ≤ k_)) v2_ r3 ∧ Below w.heap.size w w' := by
 have du := Try.underlying25
 have dv := Try.underlying60
 have bl := am (show Kd.V k57 57 w w.heap.size (fun k_ => ((P0_1_ k_ ∨ P0_2_ k_) ∨ w.heap.size ≤ k_)) (.slice bo aN.length bq) aN from Kd.V_mono b8 (fun k_ hk => .inl (.inl hk)))
 have bm := am (show Kd.V k60 60 w w.heap.size (fun k_ => ((P0_1_ k_ ∨ P0_2_ k_) ∨ w.heap.size ≤ k_)) (.slice bp ae.length br) ae from Kd.V_mono b9 (fun k_ hk => .inl (.inr hk)))
 have HB := am (Below.refl w.heap.size w)
 have H := h
 unfold r09_Small.f at H
 clear h
 have cf := am H
 clear H
 go_enter Try.func10, Try.ntmps10
 go_upto_region 1 with (first | ((with_reducible refine gate_dst (N := 1) rfl ?_); (try (refine gate_guard (by rfl) ?_; dsimp only)); refine box_ev ?_; intro a7 hg w3 hbox hb; have ab := am hbox; have bV := gwl hg; have cn := bV; replace bl := vbb bl hg hb; replace bm := vbb bm hg hb; replace HB := bsl hb; clear hb hbox hg) | ((with_reducible refine gate_dst (N := 2) rfl ?_); (try (refine gate_guard (by rfl) ?_; dsimp only)); refine box_ev (N := 2) (cs := #[.string (⟨#[]⟩ : ByteArray), .slice none 0 0, .slice none 0 0]) (t := 25) ?_; intro aP hg w4 hbox hb; have af := am hbox; have bW := gwb hg; have co := bW; have aw := nlt hg ab; have ax := ngt hg ab; replace bl := vbb bl hg hb; replace bm := vbb bm hg hb; replace ab := bbh ab hb; replace HB := bst hb; clear hb hbox hg))
 (try simp only [Act.put, List.setIfInBounds_toArray, List.set_cons_zero, List.set_cons_succ])
 go_cut [22] (fun dw wc => ∃ (kq : Nat) (bI : Bool), dw = .bool bI ∧ Aside0 (r09_Small.j0 kq bI a4 aN ae = some (r1, r2, r3, r4)) ∧ Aside0 (kq ≤ k) ∧ Aside0 (Kd.V k57 57 wc w.heap.size (fun k_ => ((P0_1_ k_ ∨ P0_2_ k_) ∨ w.heap.size ≤ k_) ∧ k_ ≠ a7 ∧ k_ ≠ aP) (.slice bo aN.length bq) aN) ∧ Aside0 (Kd.V k60 60 wc w.heap.size (fun k_ => ((P0_1_ k_ ∨ P0_2_ k_) ∨ w.heap.size ≤ k_) ∧ k_ ≠ a7 ∧ k_ ≠ aP) (.slice bp ae.length br) ae) ∧ Aside0 (wc.heap[a7]? = some (.cells #[.string a4, (.slice bo aN.length bq), (.slice bp ae.length br)] 25 (0, 0))) ∧ Aside0 (wc.heap[aP]? = some (.cells #[.string (⟨#[]⟩ : ByteArray), (.slice none 0 0), (.slice none 0 0)] 25 (0, 0))) ∧ Aside0 (Below w.heap.size w wc))
 case first =>
  have H := cf.1
  clear cf
  by_cases c5 : (aN.length : Int) > 26
  ·rw [if_pos c5] at H
   have bB : decide (26 < (aN.length : Int)) = true := decide_eq_true c5
   have bJ : decide (26 < aN.length) = true := decide_eq_true (by omega)
   clear c5
   (first | rw [bB] | (simp only [i64_w, i32_w]; rw [bB]) | skip)
   have H' := am H
   clear H
   have dn := aw.1
   have dr := ax.1
   have z7 := cf3 ab.1
   go_wp2
   go_meet
   case rel => exact ⟨_, (true), prs, H', ⟨by first | omega | exact Nat.le_refl _⟩, ⟨by (with_reducible repeat (first | apply Kd.V_alloc | apply Kd.V_drewN | apply Kd.V_drew)); exact Kd.V_mono bl.1 (fun _ hk => ⟨hk.1.1, ⟨hk.1.2, hk.2⟩⟩)⟩, ⟨by (with_reducible repeat (first | apply Kd.V_alloc | apply Kd.V_drewN | apply Kd.V_drew)); exact Kd.V_mono bm.1 (fun _ hk => ⟨hk.1.1, ⟨hk.1.2, hk.2⟩⟩)⟩, ⟨pbk ab.1⟩, ⟨pbk af.1⟩, ⟨pbg⟩⟩
  rw [if_neg c5] at H
  have bB : decide (26 < (aN.length : Int)) = false := decide_eq_false c5
  have bJ : decide (26 < aN.length) = false := decide_eq_false (by omega)
  clear c5
  (first | rw [bB] | (simp only [i64_w, i32_w]; rw [bB]) | skip)
  by_cases c8 : (ae.length : Int) > 26
  ·rw [if_pos c8] at H
   have bK : decide (26 < (ae.length : Int)) = true := decide_eq_true c8
   have bL : decide (26 < ae.length) = true := decide_eq_true (by omega)
   clear c8
   have H' := am H
   clear H
   have dp := aw.1
   have dt := ax.1
   have ck := cf3 ab.1
   go_wp2
   go_meet
   case rel => exact ⟨_, (true), prs, H', ⟨by first | omega | exact Nat.le_refl _⟩, ⟨by (with_reducible repeat (first | apply Kd.V_alloc | apply Kd.V_drewN | apply Kd.V_drew)); exact Kd.V_mono bl.1 (fun _ hk => ⟨hk.1.1, ⟨hk.1.2, hk.2⟩⟩)⟩, ⟨by (with_reducible repeat (first | apply Kd.V_alloc | apply Kd.V_drewN | apply Kd.V_drew)); exact Kd.V_mono bm.1 (fun _ hk => ⟨hk.1.1, ⟨hk.1.2, hk.2⟩⟩)⟩, ⟨pbk ab.1⟩, ⟨pbk af.1⟩, ⟨pbg⟩⟩
  rw [if_neg c8] at H
  have bK : decide (26 < (ae.length : Int)) = false := decide_eq_false c8
  have bL : decide (26 < ae.length) = false := decide_eq_false (by omega)
  clear c8
  have H' := am H
  clear H
  have cu := aw.1
  have cP := ax.1
  have cm := cf3 ab.1
  go_wp2
  go_meet
  case rel => exact ⟨_, (decide ((a4.size : Int) > 20)), prs, H', ⟨by first | omega | exact Nat.le_refl _⟩, ⟨by (with_reducible repeat (first | apply Kd.V_alloc | apply Kd.V_drewN | apply Kd.V_drew)); exact Kd.V_mono bl.1 (fun _ hk => ⟨hk.1.1, ⟨hk.1.2, hk.2⟩⟩)⟩, ⟨by (with_reducible repeat (first | apply Kd.V_alloc | apply Kd.V_drewN | apply Kd.V_drew)); exact Kd.V_mono bm.1 (fun _ hk => ⟨hk.1.1, ⟨hk.1.2, hk.2⟩⟩)⟩, ⟨pbk ab.1⟩, ⟨pbk af.1⟩, ⟨pbg⟩⟩
 clear cf
 try clear c5 bB bJ c8 bK bL ck cm z7
 obtain ⟨kq, bI, rfl, HA, cd, ac, aa, ab, af, HB⟩ := hcut
 obtain _ | dl := kq
 ·exact absurd HA.1 (by simp [r09_Small.j0])
 have H := HA.1
 clear HA
 simp only [r09_Small.j0] at H
 cases bI
 rotate_left
 ·rw [if_pos rfl] at H
  simp only [Option.some.injEq, Prod.mk.injEq] at H
  obtain ⟨rfl, rfl, rfl, rfl⟩ := H
  have cv := ax.1
  have cQ := aw.1
  have dm := cf3 af.1
  go_wp2
  refine bodyPost_ret (results_ct rfl _ _ aP 25 #[.string (⟨#[]⟩ : ByteArray), .slice none 0 0, .slice none 0 0] (0, 0) _ rfl (by (with_reducible repeat (first | refine blk_drewN ?_ _ | refine blk_drew ?_ | refine blk_alloc ?_ _)); exact bp3 (pbk af.1)) Try.underlying25 rfl (by kernel_rfl)) rfl ?_
  exact ⟨_, _, per, (Kd.V_nil _ _ _ _ _), (Kd.V_nil _ _ _ _ _), pbg⟩
 rw [if_neg Bool.false_ne_true] at H
 have H' := am H
 clear H
 go_wp2
 go_loopg [4] dl (fun kq v4 w' => ∃ (bn : Int) (a3 : ByteArray), v4 = .int .i64 bn ∧ Aside0 (r09_Small.l0 kq bn a4 aN ae = some (r1, r2, r3, r4)) ∧ Aside0 (kq ≤ dl) ∧ Aside0 (Kd.V k57 57 w' w.heap.size (fun k_ => ((P0_1_ k_ ∨ P0_2_ k_) ∨ w.heap.size ≤ k_) ∧ k_ ≠ a7 ∧ k_ ≠ aP) (.slice bo aN.length bq) aN) ∧ Aside0 (Kd.V k60 60 w' w.heap.size (fun k_ => ((P0_1_ k_ ∨ P0_2_ k_) ∨ w.heap.size ≤ k_) ∧ k_ ≠ a7 ∧ k_ ≠ aP) (.slice bp ae.length br) ae) ∧ Aside0 (w'.heap[a7]? = some (.cells #[.string a4, (.slice bo aN.length bq), (.slice bp ae.length br)] 25 (0, 0))) ∧ Aside0 (w'.heap[aP]? = some (.cells #[.string a3, (.slice none 0 0), (.slice none 0 0)] 25 (0, 0))) ∧ Aside0 (Below w.heap.size w w'))
 case atStart => exact ⟨(0), ((⟨#[]⟩ : ByteArray)), prs, H', ⟨Nat.le_refl _⟩, ⟨pkv ac.1⟩, ⟨pkv aa.1⟩, ⟨pbk ab.1⟩, ⟨pbk af.1⟩, ⟨pbg⟩⟩
 clear H'
 try clear c5 bB bJ c8 bK bL ck cm dm z7
 obtain ⟨bn, a3, rfl, HA, ce, ac, aa, ab, af, HB⟩ := hrel
 obtain _ | k2 := gk
 ·exact absurd HA.1 (by simp [r09_Small.l0])
 have H := HA.1
 clear HA
 simp only [r09_Small.l0] at H
 replace H := ifl H
 rcases H with ⟨bM, H⟩ | ⟨bM, H⟩
 ·replace H := ifp H
  obtain ⟨cg, H⟩ := H
  have bY := decide_eq_true cg
  clear cg
  by_cases bP : (((rd_T57 aN bn).f0).size : Int) > 20
  rotate_left
  ·rw [if_neg bP] at H
   have bN : decide (20 < (((rd_T57 aN bn).f0).size : Int)) = false := decide_eq_false bP
   have bO : decide (20 < ((rd_T57 aN bn).f0).size) = false := decide_eq_false (by omega)
   clear bP
   have H' := am H
   clear H
   have cx := aw.1
   have cS := ax.1
   have dA := cf3 ab.1
   obtain ⟨ca, cb, bX, bQ, bF, bG, bH⟩ := dT57 (Kd.V_reads' ac.1).2.2 bn
   cases bQ
   go_wp2
   go_roundg k2
   case measure => have := cd.1; have := ce.1; omega
   case rel => exact ⟨(wrap64 (bn + 1)), (a3), prs, H', ⟨by have := cd.1; have := ce.1; omega⟩, ⟨pkv ac.1⟩, ⟨pkv aa.1⟩, ⟨pbk ab.1⟩, ⟨pbk af.1⟩, ⟨pbg⟩⟩
  rw [if_pos bP] at H
  have bN : decide (20 < (((rd_T57 aN bn).f0).size : Int)) = true := decide_eq_true bP
  have bO : decide (20 < ((rd_T57 aN bn).f0).size) = true := decide_eq_true (by omega)
  clear bP
  simp only [Option.some.injEq, Prod.mk.injEq] at H
  obtain ⟨rfl, rfl, rfl, rfl⟩ := H
  have cw := aw.1
  have cR := ax.1
  have dy := cf3 ab.1
  obtain ⟨ca, cb, bX, bQ, bF, bG, bH⟩ := dT57 (Kd.V_reads' ac.1).2.2 bn
  cases bQ
  have dz := cf3 af.1
  go_wp2
  refine bodyPost_ret (results_ct rfl _ _ aP 25 #[.string (⟨#[]⟩ : ByteArray), .slice none 0 0, .slice none 0 0] (0, 0) _ rfl (by (with_reducible repeat (first | refine blk_drewN ?_ _ | refine blk_drew ?_ | refine blk_alloc ?_ _)); exact bp3 (pbk af.1)) Try.underlying25 rfl (by kernel_rfl)) rfl ?_
  exact ⟨_, _, per, (Kd.V_nil _ _ _ _ _), (Kd.V_nil _ _ _ _ _), pbg⟩
 have H' := am H
 clear H
 have cy := aw.1
 have cT := ax.1
 have z25 := cf3 ab.1
 go_wp2
 go_loopg [5] k2 (fun kq v5 w' => ∃ (aj : Int) (aQ : ByteArray), v5 = .int .i64 aj ∧ Aside0 (r09_Small.l1 kq aj a4 aN ae = some (r1, r2, r3, r4)) ∧ Aside0 (kq ≤ k2) ∧ Aside0 (Kd.V k57 57 w' w.heap.size (fun k_ => ((P0_1_ k_ ∨ P0_2_ k_) ∨ w.heap.size ≤ k_) ∧ k_ ≠ a7 ∧ k_ ≠ aP) (.slice bo aN.length bq) aN) ∧ Aside0 (Kd.V k60 60 w' w.heap.size (fun k_ => ((P0_1_ k_ ∨ P0_2_ k_) ∨ w.heap.size ≤ k_) ∧ k_ ≠ a7 ∧ k_ ≠ aP) (.slice bp ae.length br) ae) ∧ Aside0 (w'.heap[a7]? = some (.cells #[.string a4, (.slice bo aN.length bq), (.slice bp ae.length br)] 25 (0, 0))) ∧ Aside0 (w'.heap[aP]? = some (.cells #[.string aQ, (.slice none 0 0), (.slice none 0 0)] 25 (0, 0))) ∧ Aside0 (Below w.heap.size w w'))
 case atStart => exact ⟨(0), (a3), prs, H', ⟨Nat.le_refl _⟩, ⟨pkv ac.1⟩, ⟨pkv aa.1⟩, ⟨pbk ab.1⟩, ⟨pbk af.1⟩, ⟨pbg⟩⟩
 clear H'
 try clear c5 bB bJ c8 bK bL dB bM cg bY bP bN bO ck cm dm dy dz dA z25 z7 bF bG bH ca cb
 obtain ⟨aj, aQ, rfl, HA, cp, ac, aa, ab, af, HB⟩ := hrel
 obtain _ | k3 := gk
 ·exact absurd HA.1 (by simp [r09_Small.l1])
 have H := HA.1
 clear HA
 simp only [r09_Small.l1] at H
 replace H := ifl H
 rcases H with ⟨bZ, H⟩ | ⟨bZ, H⟩
 rotate_left
 ·simp only [Option.some.injEq, Prod.mk.injEq] at H
  obtain ⟨rfl, rfl, rfl, rfl⟩ := H
  have cO := aw.1
  have dk := ax.1
  have dW := cf3 ab.1
  have dX := cf3 af.1
  go_wp2
  refine bodyPost_ret (results_ct rfl _ _ aP 25 #[.string a4, .slice bo aN.length bq, .slice bp ae.length br] (0, 0) _ rfl (by (with_reducible repeat (first | refine blk_drewN ?_ _ | refine blk_drew ?_ | refine blk_alloc ?_ _)); exact bp3 (pbk af.1)) Try.underlying25 rfl (by kernel_rfl)) rfl ?_
  exact ⟨_, _, per, by (with_reducible repeat (first | apply Kd.V_alloc | apply Kd.V_drewN | apply Kd.V_drew)); exact Kd.V_mono (fV3 aP (Kd.V_mono ac.1 (fun k_ hk => (⟨hk, hk.2.2⟩ : _ ∧ k_ ≠ aP))) (fun _ hk => hk.2)) (fun _ hk => hk.1.1), by (with_reducible repeat (first | apply Kd.V_alloc | apply Kd.V_drewN | apply Kd.V_drew)); exact Kd.V_mono (fV3 aP (Kd.V_mono aa.1 (fun k_ hk => (⟨hk, hk.2.2⟩ : _ ∧ k_ ≠ aP))) (fun _ hk => hk.2)) (fun _ hk => hk.1.1), pbg⟩
 replace H := ifp H
 obtain ⟨cq, H⟩ := H
 have cr := decide_eq_true cq
 clear cq
 by_cases bR : (((rd_T60 ae aj).f0).size : Int) > 20
 ·rw [if_pos bR] at H
  have b0 : decide (20 < (((rd_T60 ae aj).f0).size : Int)) = true := decide_eq_true bR
  have b1 : decide (20 < ((rd_T60 ae aj).f0).size) = true := decide_eq_true (by omega)
  clear bR
  simp only [Option.some.injEq, Prod.mk.injEq] at H
  obtain ⟨rfl, rfl, rfl, rfl⟩ := H
  have cz := aw.1
  have cU := ax.1
  have dH := cf3 ab.1
  have aU : 0 ≤ (aj : Int) := dq
  have aV : aj < (ae.length : Int) := dq
  obtain ⟨bD, bs, bw, bu, bx, bv, bz, bA, bc, aR, aS, aT, bd, aI, aF, aJ, aG, aK, aH⟩ := at_T60 (Kd.V_reads' aa.1).2.2 aj aU aV
  cases bA
  obtain ⟨bE, aY, aX, aq⟩ := Kd.V_get aa.1 z60 aj aU (by first | exact aV | exact dq | (have e_ := (Kd.V_reads' aa.1).1; omega))
  obtain ⟨bf, bi, bg, bj, bh, bk, rfl, ar, al, au, ao, av, ap⟩ := k60_openF aX
  have ag := aq 1 _ rfl
  rw [add_field _ _ 1 (by omega)] at ag
  replace ag := Option.some.inj (ag.symm.trans aR)
  injection ag with hva_ hvn_ hvc_
  rw [hva_] at al
  rw [hvc_] at ar
  have az := am (show Kd.V k78 78 _ w.heap.size _ _ ((rd_T60 ae aj).f1) from Kd.V_mk ar al)
  clear hva_ hvn_ hvc_ al ar
  have ah := aq 2 _ rfl
  rw [add_field _ _ 2 (by omega)] at ah
  replace ah := Option.some.inj (ah.symm.trans aS)
  injection ah with hva_ hvn_ hvc_
  rw [hva_] at ao
  rw [hvc_] at au
  have aA := am (show Kd.V k78 78 _ w.heap.size _ _ ((rd_T60 ae aj).f2) from Kd.V_mk au ao)
  clear hva_ hvn_ hvc_ ao au
  have ai := aq 3 _ rfl
  rw [add_field _ _ 3 (by omega)] at ai
  replace ai := Option.some.inj (ai.symm.trans aT)
  injection ai with hva_ hvn_ hvc_
  rw [hva_] at ap
  rw [hvc_] at av
  have aB := am (show Kd.V k78 78 _ w.heap.size _ _ ((rd_T60 ae aj).f3) from Kd.V_mk av ap)
  clear hva_ hvn_ hvc_ ap av aq aY
  have aC := am aF
  have a9 := am aI
  clear aF aI
  have aD := am aG
  have ba := am aJ
  clear aG aJ
  have aE := am aH
  have bb := am aK
  clear aH aK
  replace aU := eq_true aU
  replace aV := eq_true aV
  go_wp2_with (first | ((with_reducible refine gate_dst (N := 6) rfl ?_); (try (refine gate_guard (by rfl) ?_; dsimp only)); refine box_ev (N := 6) (cs := #[.string (⟨#[]⟩ : ByteArray), .slice none 0 0, .slice none 0 0, .slice none 0 0, .int .i64 0]) (t := 60) ?_; intro a8 hg dC hbox hb; have a5 := am hbox; have a6 := gwb hg; have bC := a6; have ay := nlt hg ab; have aL := ngt hg ab; have ak := nlt hg af; have aM := ngt hg af; replace ac := vbb ac hg hb; replace aa := vbb aa hg hb; replace az := vbb az hg hb; replace aA := vbb aA hg hb; replace aB := vbb aB hg hb; replace ab := bbh ab hb; replace af := bbh af hb; replace aC := cbb aC hb; replace aD := cbb aD hb; replace aE := cbb aE hb; replace HB := bst hb; clear hb hbox hg; have cA := aL.1; have cV := ay.1; have cB := aM.1; have cW := ak.1; have dI := cf5 a5.1; have dJ := cf3 af.1))
  refine bodyPost_ret (results_ct rfl _ _ aP 25 #[.string (⟨#[]⟩ : ByteArray), .slice none 0 0, .slice none 0 0] (0, 0) _ rfl (by (with_reducible repeat (first | refine blk_drewN ?_ _ | refine blk_drew ?_ | refine blk_alloc ?_ _)); refine blk_put (cs := #[.string (⟨#[]⟩ : ByteArray), .slice none 0 0, .slice none 0 0]) ?_ 2 _ rfl; (with_reducible repeat (first | refine blk_drewN ?_ _ | refine blk_drew ?_ | refine blk_alloc ?_ _)); refine blk_put (cs := #[.string (⟨#[]⟩ : ByteArray), .slice none 0 0, .slice none 0 0]) ?_ 1 _ rfl; (with_reducible repeat (first | refine blk_drewN ?_ _ | refine blk_drew ?_ | refine blk_alloc ?_ _)); refine blk_put (cs := #[.string aQ, .slice none 0 0, .slice none 0 0]) ?_ 0 _ rfl; (with_reducible repeat (first | refine blk_drewN ?_ _ | refine blk_drew ?_ | refine blk_alloc ?_ _)); refine bf5 ?_ ak.1; exact pbk af.1) Try.underlying25 rfl (by kernel_rfl)) rfl ?_
  exact ⟨_, _, per, (Kd.V_nil _ _ _ _ _), (Kd.V_nil _ _ _ _ _), pbg⟩
 rw [if_neg bR] at H
 have b0 : decide (20 < (((rd_T60 ae aj).f0).size : Int)) = false := decide_eq_false bR
 have b1 : decide (20 < ((rd_T60 ae aj).f0).size) = false := decide_eq_false (by omega)
 clear bR
 by_cases bS : (((rd_T60 ae aj).f1).length : Int) > 26
 ·rw [if_pos bS] at H
  have b2 : decide (26 < (((rd_T60 ae aj).f1).length : Int)) = true := decide_eq_true bS
  have b3 : decide (26 < ((rd_T60 ae aj).f1).length) = true := decide_eq_true (by omega)
  clear bS
  simp only [Option.some.injEq, Prod.mk.injEq] at H
  obtain ⟨rfl, rfl, rfl, rfl⟩ := H
  have cC := aw.1
  have cX := ax.1
  have dK := cf3 ab.1
  have aU : 0 ≤ (aj : Int) := dq
  have aV : aj < (ae.length : Int) := dq
  obtain ⟨bD, bs, bw, bu, bx, bv, bz, bA, bc, aR, aS, aT, bd, aI, aF, aJ, aG, aK, aH⟩ := at_T60 (Kd.V_reads' aa.1).2.2 aj aU aV
  cases bA
  obtain ⟨bE, aY, aX, aq⟩ := Kd.V_get aa.1 z60 aj aU (by first | exact aV | exact dq | (have e_ := (Kd.V_reads' aa.1).1; omega))
  obtain ⟨bf, bi, bg, bj, bh, bk, rfl, ar, al, au, ao, av, ap⟩ := k60_openF aX
  have ag := aq 1 _ rfl
  rw [add_field _ _ 1 (by omega)] at ag
  replace ag := Option.some.inj (ag.symm.trans aR)
  injection ag with hva_ hvn_ hvc_
  rw [hva_] at al
  rw [hvc_] at ar
  have az := am (show Kd.V k78 78 _ w.heap.size _ _ ((rd_T60 ae aj).f1) from Kd.V_mk ar al)
  clear hva_ hvn_ hvc_ al ar
  have ah := aq 2 _ rfl
  rw [add_field _ _ 2 (by omega)] at ah
  replace ah := Option.some.inj (ah.symm.trans aS)
  injection ah with hva_ hvn_ hvc_
  rw [hva_] at ao
  rw [hvc_] at au
  have aA := am (show Kd.V k78 78 _ w.heap.size _ _ ((rd_T60 ae aj).f2) from Kd.V_mk au ao)
  clear hva_ hvn_ hvc_ ao au
  have ai := aq 3 _ rfl
  rw [add_field _ _ 3 (by omega)] at ai
  replace ai := Option.some.inj (ai.symm.trans aT)
  injection ai with hva_ hvn_ hvc_
  rw [hva_] at ap
  rw [hvc_] at av
  have aB := am (show Kd.V k78 78 _ w.heap.size _ _ ((rd_T60 ae aj).f3) from Kd.V_mk av ap)
  clear hva_ hvn_ hvc_ ap av aq aY
  have aC := am aF
  have a9 := am aI
  clear aF aI
  have aD := am aG
  have ba := am aJ
  clear aG aJ
  have aE := am aH
  have bb := am aK
  clear aH aK
  replace aU := eq_true aU
  replace aV := eq_true aV
  go_wp2_with (first | ((with_reducible refine gate_dst (N := 6) rfl ?_); (try (refine gate_guard (by rfl) ?_; dsimp only)); refine box_ev (N := 6) (cs := #[.string (⟨#[]⟩ : ByteArray), .slice none 0 0, .slice none 0 0, .slice none 0 0, .int .i64 0]) (t := 60) ?_; intro a8 hg dD hbox hb; have a5 := am hbox; have a6 := gwb hg; have bC := a6; have ay := nlt hg ab; have aL := ngt hg ab; have ak := nlt hg af; have aM := ngt hg af; replace ac := vbb ac hg hb; replace aa := vbb aa hg hb; replace az := vbb az hg hb; replace aA := vbb aA hg hb; replace aB := vbb aB hg hb; replace ab := bbh ab hb; replace af := bbh af hb; replace aC := cbb aC hb; replace aD := cbb aD hb; replace aE := cbb aE hb; replace HB := bst hb; clear hb hbox hg; have cD := aL.1; have cY := ay.1; have cE := aM.1; have cZ := ak.1; have dL := cf5 a5.1; have dM := cf3 af.1))
  refine bodyPost_ret (results_ct rfl _ _ aP 25 #[.string (⟨#[]⟩ : ByteArray), .slice none 0 0, .slice none 0 0] (0, 0) _ rfl (by (with_reducible repeat (first | refine blk_drewN ?_ _ | refine blk_drew ?_ | refine blk_alloc ?_ _)); refine blk_put (cs := #[.string (⟨#[]⟩ : ByteArray), .slice none 0 0, .slice none 0 0]) ?_ 2 _ rfl; (with_reducible repeat (first | refine blk_drewN ?_ _ | refine blk_drew ?_ | refine blk_alloc ?_ _)); refine blk_put (cs := #[.string (⟨#[]⟩ : ByteArray), .slice none 0 0, .slice none 0 0]) ?_ 1 _ rfl; (with_reducible repeat (first | refine blk_drewN ?_ _ | refine blk_drew ?_ | refine blk_alloc ?_ _)); refine blk_put (cs := #[.string aQ, .slice none 0 0, .slice none 0 0]) ?_ 0 _ rfl; (with_reducible repeat (first | refine blk_drewN ?_ _ | refine blk_drew ?_ | refine blk_alloc ?_ _)); refine bf5 ?_ ak.1; exact pbk af.1) Try.underlying25 rfl (by kernel_rfl)) rfl ?_
  exact ⟨_, _, per, (Kd.V_nil _ _ _ _ _), (Kd.V_nil _ _ _ _ _), pbg⟩
 rw [if_neg bS] at H
 have b2 : decide (26 < (((rd_T60 ae aj).f1).length : Int)) = false := decide_eq_false bS
 have b3 : decide (26 < ((rd_T60 ae aj).f1).length) = false := decide_eq_false (by omega)
 clear bS
 by_cases bT : (((rd_T60 ae aj).f2).length : Int) > 26
 ·rw [if_pos bT] at H
  have b4 : decide (26 < (((rd_T60 ae aj).f2).length : Int)) = true := decide_eq_true bT
  have b5 : decide (26 < ((rd_T60 ae aj).f2).length) = true := decide_eq_true (by omega)
  clear bT
  simp only [Option.some.injEq, Prod.mk.injEq] at H
  obtain ⟨rfl, rfl, rfl, rfl⟩ := H
  have cF := aw.1
  have da := ax.1
  have dN := cf3 ab.1
  have aU : 0 ≤ (aj : Int) := dq
  have aV : aj < (ae.length : Int) := dq
  obtain ⟨bD, bs, bw, bu, bx, bv, bz, bA, bc, aR, aS, aT, bd, aI, aF, aJ, aG, aK, aH⟩ := at_T60 (Kd.V_reads' aa.1).2.2 aj aU aV
  cases bA
  obtain ⟨bE, aY, aX, aq⟩ := Kd.V_get aa.1 z60 aj aU (by first | exact aV | exact dq | (have e_ := (Kd.V_reads' aa.1).1; omega))
  obtain ⟨bf, bi, bg, bj, bh, bk, rfl, ar, al, au, ao, av, ap⟩ := k60_openF aX
  have ag := aq 1 _ rfl
  rw [add_field _ _ 1 (by omega)] at ag
  replace ag := Option.some.inj (ag.symm.trans aR)
  injection ag with hva_ hvn_ hvc_
  rw [hva_] at al
  rw [hvc_] at ar
  have az := am (show Kd.V k78 78 _ w.heap.size _ _ ((rd_T60 ae aj).f1) from Kd.V_mk ar al)
  clear hva_ hvn_ hvc_ al ar
  have ah := aq 2 _ rfl
  rw [add_field _ _ 2 (by omega)] at ah
  replace ah := Option.some.inj (ah.symm.trans aS)
  injection ah with hva_ hvn_ hvc_
  rw [hva_] at ao
  rw [hvc_] at au
  have aA := am (show Kd.V k78 78 _ w.heap.size _ _ ((rd_T60 ae aj).f2) from Kd.V_mk au ao)
  clear hva_ hvn_ hvc_ ao au
  have ai := aq 3 _ rfl
  rw [add_field _ _ 3 (by omega)] at ai
  replace ai := Option.some.inj (ai.symm.trans aT)
  injection ai with hva_ hvn_ hvc_
  rw [hva_] at ap
  rw [hvc_] at av
  have aB := am (show Kd.V k78 78 _ w.heap.size _ _ ((rd_T60 ae aj).f3) from Kd.V_mk av ap)
  clear hva_ hvn_ hvc_ ap av aq aY
  have aC := am aF
  have a9 := am aI
  clear aF aI
  have aD := am aG
  have ba := am aJ
  clear aG aJ
  have aE := am aH
  have bb := am aK
  clear aH aK
  replace aU := eq_true aU
  replace aV := eq_true aV
  go_wp2_with (first | ((with_reducible refine gate_dst (N := 6) rfl ?_); (try (refine gate_guard (by rfl) ?_; dsimp only)); refine box_ev (N := 6) (cs := #[.string (⟨#[]⟩ : ByteArray), .slice none 0 0, .slice none 0 0, .slice none 0 0, .int .i64 0]) (t := 60) ?_; intro a8 hg dE hbox hb; have a5 := am hbox; have a6 := gwb hg; have bC := a6; have ay := nlt hg ab; have aL := ngt hg ab; have ak := nlt hg af; have aM := ngt hg af; replace ac := vbb ac hg hb; replace aa := vbb aa hg hb; replace az := vbb az hg hb; replace aA := vbb aA hg hb; replace aB := vbb aB hg hb; replace ab := bbh ab hb; replace af := bbh af hb; replace aC := cbb aC hb; replace aD := cbb aD hb; replace aE := cbb aE hb; replace HB := bst hb; clear hb hbox hg; have cG := aL.1; have db := ay.1; have cH := aM.1; have dc := ak.1; have dO := cf5 a5.1; have dP := cf3 af.1))
  refine bodyPost_ret (results_ct rfl _ _ aP 25 #[.string (⟨#[]⟩ : ByteArray), .slice none 0 0, .slice none 0 0] (0, 0) _ rfl (by (with_reducible repeat (first | refine blk_drewN ?_ _ | refine blk_drew ?_ | refine blk_alloc ?_ _)); refine blk_put (cs := #[.string (⟨#[]⟩ : ByteArray), .slice none 0 0, .slice none 0 0]) ?_ 2 _ rfl; (with_reducible repeat (first | refine blk_drewN ?_ _ | refine blk_drew ?_ | refine blk_alloc ?_ _)); refine blk_put (cs := #[.string (⟨#[]⟩ : ByteArray), .slice none 0 0, .slice none 0 0]) ?_ 1 _ rfl; (with_reducible repeat (first | refine blk_drewN ?_ _ | refine blk_drew ?_ | refine blk_alloc ?_ _)); refine blk_put (cs := #[.string aQ, .slice none 0 0, .slice none 0 0]) ?_ 0 _ rfl; (with_reducible repeat (first | refine blk_drewN ?_ _ | refine blk_drew ?_ | refine blk_alloc ?_ _)); refine bf5 ?_ ak.1; exact pbk af.1) Try.underlying25 rfl (by kernel_rfl)) rfl ?_
  exact ⟨_, _, per, (Kd.V_nil _ _ _ _ _), (Kd.V_nil _ _ _ _ _), pbg⟩
 rw [if_neg bT] at H
 have b4 : decide (26 < (((rd_T60 ae aj).f2).length : Int)) = false := decide_eq_false bT
 have b5 : decide (26 < ((rd_T60 ae aj).f2).length) = false := decide_eq_false (by omega)
 clear bT
 by_cases bU : (((rd_T60 ae aj).f3).length : Int) > 26
 ·rw [if_pos bU] at H
  have b6 : decide (26 < (((rd_T60 ae aj).f3).length : Int)) = true := decide_eq_true bU
  have b7 : decide (26 < ((rd_T60 ae aj).f3).length) = true := decide_eq_true (by omega)
  clear bU
  simp only [Option.some.injEq, Prod.mk.injEq] at H
  obtain ⟨rfl, rfl, rfl, rfl⟩ := H
  have cI := aw.1
  have de := ax.1
  have dQ := cf3 ab.1
  have aU : 0 ≤ (aj : Int) := dq
  have aV : aj < (ae.length : Int) := dq
  obtain ⟨bD, bs, bw, bu, bx, bv, bz, bA, bc, aR, aS, aT, bd, aI, aF, aJ, aG, aK, aH⟩ := at_T60 (Kd.V_reads' aa.1).2.2 aj aU aV
  cases bA
  obtain ⟨bE, aY, aX, aq⟩ := Kd.V_get aa.1 z60 aj aU (by first | exact aV | exact dq | (have e_ := (Kd.V_reads' aa.1).1; omega))
  obtain ⟨bf, bi, bg, bj, bh, bk, rfl, ar, al, au, ao, av, ap⟩ := k60_openF aX
  have ag := aq 1 _ rfl
  rw [add_field _ _ 1 (by omega)] at ag
  replace ag := Option.some.inj (ag.symm.trans aR)
  injection ag with hva_ hvn_ hvc_
  rw [hva_] at al
  rw [hvc_] at ar
  have az := am (show Kd.V k78 78 _ w.heap.size _ _ ((rd_T60 ae aj).f1) from Kd.V_mk ar al)
  clear hva_ hvn_ hvc_ al ar
  have ah := aq 2 _ rfl
  rw [add_field _ _ 2 (by omega)] at ah
  replace ah := Option.some.inj (ah.symm.trans aS)
  injection ah with hva_ hvn_ hvc_
  rw [hva_] at ao
  rw [hvc_] at au
  have aA := am (show Kd.V k78 78 _ w.heap.size _ _ ((rd_T60 ae aj).f2) from Kd.V_mk au ao)
  clear hva_ hvn_ hvc_ ao au
  have ai := aq 3 _ rfl
  rw [add_field _ _ 3 (by omega)] at ai
  replace ai := Option.some.inj (ai.symm.trans aT)
  injection ai with hva_ hvn_ hvc_
  rw [hva_] at ap
  rw [hvc_] at av
  have aB := am (show Kd.V k78 78 _ w.heap.size _ _ ((rd_T60 ae aj).f3) from Kd.V_mk av ap)
  clear hva_ hvn_ hvc_ ap av aq aY
  have aC := am aF
  have a9 := am aI
  clear aF aI
  have aD := am aG
  have ba := am aJ
  clear aG aJ
  have aE := am aH
  have bb := am aK
  clear aH aK
  replace aU := eq_true aU
  replace aV := eq_true aV
  go_wp2_with (first | ((with_reducible refine gate_dst (N := 6) rfl ?_); (try (refine gate_guard (by rfl) ?_; dsimp only)); refine box_ev (N := 6) (cs := #[.string (⟨#[]⟩ : ByteArray), .slice none 0 0, .slice none 0 0, .slice none 0 0, .int .i64 0]) (t := 60) ?_; intro a8 hg dF hbox hb; have a5 := am hbox; have a6 := gwb hg; have bC := a6; have ay := nlt hg ab; have aL := ngt hg ab; have ak := nlt hg af; have aM := ngt hg af; replace ac := vbb ac hg hb; replace aa := vbb aa hg hb; replace az := vbb az hg hb; replace aA := vbb aA hg hb; replace aB := vbb aB hg hb; replace ab := bbh ab hb; replace af := bbh af hb; replace aC := cbb aC hb; replace aD := cbb aD hb; replace aE := cbb aE hb; replace HB := bst hb; clear hb hbox hg; have cJ := aL.1; have df := ay.1; have cK := aM.1; have dg := ak.1; have dR := cf5 a5.1; have dS := cf3 af.1))
  refine bodyPost_ret (results_ct rfl _ _ aP 25 #[.string (⟨#[]⟩ : ByteArray), .slice none 0 0, .slice none 0 0] (0, 0) _ rfl (by (with_reducible repeat (first | refine blk_drewN ?_ _ | refine blk_drew ?_ | refine blk_alloc ?_ _)); refine blk_put (cs := #[.string (⟨#[]⟩ : ByteArray), .slice none 0 0, .slice none 0 0]) ?_ 2 _ rfl; (with_reducible repeat (first | refine blk_drewN ?_ _ | refine blk_drew ?_ | refine blk_alloc ?_ _)); refine blk_put (cs := #[.string (⟨#[]⟩ : ByteArray), .slice none 0 0, .slice none 0 0]) ?_ 1 _ rfl; (with_reducible repeat (first | refine blk_drewN ?_ _ | refine blk_drew ?_ | refine blk_alloc ?_ _)); refine blk_put (cs := #[.string aQ, .slice none 0 0, .slice none 0 0]) ?_ 0 _ rfl; (with_reducible repeat (first | refine blk_drewN ?_ _ | refine blk_drew ?_ | refine blk_alloc ?_ _)); refine bf5 ?_ ak.1; exact pbk af.1) Try.underlying25 rfl (by kernel_rfl)) rfl ?_
  exact ⟨_, _, per, (Kd.V_nil _ _ _ _ _), (Kd.V_nil _ _ _ _ _), pbg⟩
 rw [if_neg bU] at H
 have b6 : decide (26 < (((rd_T60 ae aj).f3).length : Int)) = false := decide_eq_false bU
 have b7 : decide (26 < ((rd_T60 ae aj).f3).length) = false := decide_eq_false (by omega)
 clear bU
 have H' := am H
 clear H
 have cL := aw.1
 have dh := ax.1
 have dU := cf3 ab.1
 have aU : 0 ≤ (aj : Int) := dq
 have aV : aj < (ae.length : Int) := dq
 obtain ⟨bD, bs, bw, bu, bx, bv, bz, bA, bc, aR, aS, aT, bd, aI, aF, aJ, aG, aK, aH⟩ := at_T60 (Kd.V_reads' aa.1).2.2 aj aU aV
 cases bA
 obtain ⟨bE, aY, aX, aq⟩ := Kd.V_get aa.1 z60 aj aU (by first | exact aV | exact dq | (have e_ := (Kd.V_reads' aa.1).1; omega))
 obtain ⟨bf, bi, bg, bj, bh, bk, rfl, ar, al, au, ao, av, ap⟩ := k60_openF aX
 have ag := aq 1 _ rfl
 rw [add_field _ _ 1 (by omega)] at ag
 replace ag := Option.some.inj (ag.symm.trans aR)
 injection ag with hva_ hvn_ hvc_
 rw [hva_] at al
 rw [hvc_] at ar
 have az := am (show Kd.V k78 78 _ w.heap.size _ _ ((rd_T60 ae aj).f1) from Kd.V_mk ar al)
 clear hva_ hvn_ hvc_ al ar
 have ah := aq 2 _ rfl
 rw [add_field _ _ 2 (by omega)] at ah
 replace ah := Option.some.inj (ah.symm.trans aS)
 injection ah with hva_ hvn_ hvc_
 rw [hva_] at ao
 rw [hvc_] at au
 have aA := am (show Kd.V k78 78 _ w.heap.size _ _ ((rd_T60 ae aj).f2) from Kd.V_mk au ao)
 clear hva_ hvn_ hvc_ ao au
 have ai := aq 3 _ rfl
 rw [add_field _ _ 3 (by omega)] at ai
 replace ai := Option.some.inj (ai.symm.trans aT)
 injection ai with hva_ hvn_ hvc_
 rw [hva_] at ap
 rw [hvc_] at av
 have aB := am (show Kd.V k78 78 _ w.heap.size _ _ ((rd_T60 ae aj).f3) from Kd.V_mk av ap)
 clear hva_ hvn_ hvc_ ap av aq aY
 have aC := am aF
 have a9 := am aI
 clear aF aI
 have aD := am aG
 have ba := am aJ
 clear aG aJ
 have aE := am aH
 have bb := am aK
 clear aH aK
 replace aU := eq_true aU
 replace aV := eq_true aV
 go_wp2_with (first | ((with_reducible refine gate_dst (N := 6) rfl ?_); (try (refine gate_guard (by rfl) ?_; dsimp only)); refine box_ev (N := 6) (cs := #[.string (⟨#[]⟩ : ByteArray), .slice none 0 0, .slice none 0 0, .slice none 0 0, .int .i64 0]) (t := 60) ?_; intro a8 hg dG hbox hb; have a5 := am hbox; have a6 := gwb hg; have bC := a6; have ay := nlt hg ab; have aL := ngt hg ab; have ak := nlt hg af; have aM := ngt hg af; replace ac := vbb ac hg hb; replace aa := vbb aa hg hb; replace az := vbb az hg hb; replace aA := vbb aA hg hb; replace aB := vbb aB hg hb; replace ab := bbh ab hb; replace af := bbh af hb; replace aC := cbb aC hb; replace aD := cbb aD hb; replace aE := cbb aE hb; replace HB := bst hb; clear hb hbox hg; have cM := aL.1; have di := ay.1; have cN := aM.1; have dj := ak.1; have dV := cf5 a5.1))
 go_roundg k3
 case measure => have := cd.1; have := ce.1; have := cp.1; omega
 case rel => exact ⟨(wrap64 (aj + 1)), (aQ), prs, H', ⟨by have := cd.1; have := ce.1; have := cp.1; omega⟩, ⟨by (with_reducible repeat (first | apply Kd.V_alloc | apply Kd.V_drewN | apply Kd.V_drew)); exact Kd.V_mono (fV5 a8 (Kd.V_mono ac.1 (fun k_ hk => (⟨hk, hk.2⟩ : _ ∧ k_ ≠ a8))) (fun _ hk => hk.2)) (fun _ hk => ⟨hk.1.1.1, ⟨hk.1.1.2.1, hk.1.1.2.2⟩⟩)⟩, ⟨by (with_reducible repeat (first | apply Kd.V_alloc | apply Kd.V_drewN | apply Kd.V_drew)); exact Kd.V_mono (fV5 a8 (Kd.V_mono aa.1 (fun k_ hk => (⟨hk, hk.2⟩ : _ ∧ k_ ≠ a8))) (fun _ hk => hk.2)) (fun _ hk => ⟨hk.1.1.1, ⟨hk.1.1.2.1, hk.1.1.2.2⟩⟩)⟩, ⟨by (with_reducible repeat (first | refine blk_drewN ?_ _ | refine blk_drew ?_ | refine blk_alloc ?_ _)); refine bf5 ?_ ay.1; exact pbk ab.1⟩, ⟨by (with_reducible repeat (first | refine blk_drewN ?_ _ | refine blk_drew ?_ | refine blk_alloc ?_ _)); refine bf5 ?_ ak.1; exact pbk af.1⟩, ⟨pbg⟩⟩

/-! ### r09_Name: function 70 -/
mutual
def r09_Name.j0 : Nat → ByteArray → Bool → Option (Bool)
 | 0, _, _ => none
 | k + 1, x0, x14 => if x14 = true then (some false) else (r09_Name.l0 k x0 0)
def r09_Name.l0 : Nat → ByteArray → Int → Option (Bool)
 | 0, _, _ => none
 | k + 1, x0, x3 => if x3 < (x0.size : Int) then (if 0 ≤ x3 then (if (bt x0 x3) ≥ 97 then (if (bt x0 x3) ≤ 122 then (if (bt x0 x3) ≥ 48 then (if (bt x0 x3) ≤ 57 then (r09_Name.l0 k x0 (wrap64 (x3 + 1))) else (r09_Name.l0 k x0 (wrap64 (x3 + 1)))) else (r09_Name.l0 k x0 (wrap64 (x3 + 1)))) else (if (bt x0 x3) ≥ 48 then (if (bt x0 x3) ≤ 57 then (if ((bt x0 x3) = 95) then (r09_Name.l0 k x0 (wrap64 (x3 + 1))) else (if x3 = 0 then (some false) else (r09_Name.l0 k x0 (wrap64 (x3 + 1))))) else (if ((bt x0 x3) = 95) then (r09_Name.l0 k x0 (wrap64 (x3 + 1))) else (if ((bt x0 x3) = 46) then (if x3 = 0 then (some false) else (r09_Name.l0 k x0 (wrap64 (x3 + 1)))) else (some false)))) else (if ((bt x0 x3) = 95) then (r09_Name.l0 k x0 (wrap64 (x3 + 1))) else (if ((bt x0 x3) = 46) then (if x3 = 0 then (some false) else (r09_Name.l0 k x0 (wrap64 (x3 + 1)))) else (some false))))) else (if (bt x0 x3) ≥ 48 then (if (bt x0 x3) ≤ 57 then (if ((bt x0 x3) = 95) then (r09_Name.l0 k x0 (wrap64 (x3 + 1))) else (if x3 = 0 then (some false) else (r09_Name.l0 k x0 (wrap64 (x3 + 1))))) else (if ((bt x0 x3) = 95) then (r09_Name.l0 k x0 (wrap64 (x3 + 1))) else (if ((bt x0 x3) = 46) then (if x3 = 0 then (some false) else (r09_Name.l0 k x0 (wrap64 (x3 + 1)))) else (some false)))) else (if ((bt x0 x3) = 95) then (r09_Name.l0 k x0 (wrap64 (x3 + 1))) else (if ((bt x0 x3) = 46) then (if x3 = 0 then (some false) else (r09_Name.l0 k x0 (wrap64 (x3 + 1)))) else (some false))))) else (none)) else (some true)
end
def r09_Name.f (k : Nat) (a0 : ByteArray) : Option (Bool) := if (a0.size : Int) < 1 then (r09_Name.j0 k a0 true) else (r09_Name.j0 k a0 (decide ((a0.size : Int) > 16)))
theorem r09_Name.mono_l : ∀ k, M2 r09_Name.j0 k ∧ M2 r09_Name.l0 k
 | 0 => ⟨fun _ _ r h => by simp [r09_Name.j0] at h, fun _ _ r h => by simp [r09_Name.l0] at h⟩
 | k + 1 => by
  obtain ⟨a3, a4⟩ := r09_Name.mono_l k
  refine ⟨?_, ?_⟩ <;> dsimp only [M2] <;> intros <;> (first | unfold r09_Name.j0 | unfold r09_Name.l0) <;> repeat' first | (with_reducible first | apply a3 | apply a4 | apply lr | apply ln | apply li | refine lb ?_ fun _ => ?_)
theorem r09_Name.mono : ∀ a0 k, LeO (r09_Name.f k a0) (r09_Name.f (k + 1) a0) := by
 intro a0 k
 obtain ⟨a3, a4⟩ := r09_Name.mono_l k
 unfold r09_Name.f
 repeat' first | (with_reducible first | apply a3 | apply a4 | apply lr | apply ln | apply li | refine lb ?_ fun _ => ?_)
set_option maxHeartbeats 8000000 in
set_option maxRecDepth 100000 in
theorem r09_Name.calls (k : Nat) (a0 : ByteArray) (r : Bool) (w : World) (h : r09_Name.f k a0 = some r) :
  Calls Try.prog 70 #[.string a0] w fun e w' => e = .returned (.bool r) ∧ Drawn0 w w' := by
 have H := h
 unfold r09_Name.f at H
 clear h
 have aY := am H
 clear H
 go_enter Try.func70, Try.ntmps70
 go_upto_region 1 with (fail)
 go_cut [14] (fun a7 wc => ∃ (kq : Nat) (ag : Bool), a7 = .bool ag ∧ Aside0 (r09_Name.j0 kq a0 ag = some r) ∧ Aside0 (kq ≤ k) ∧ Drawn0 w wc)
 case first =>
  have H := aY.1
  clear aY
  by_cases c3 : (a0.size : Int) < 1
  ·rw [if_pos c3] at H
   have af : decide ((a0.size : Int) < 1) = true := decide_eq_true c3
   have ah : decide (a0.size < 1) = true := decide_eq_true (by omega)
   clear c3
   (first | rw [af] | (simp only [i64_w, i32_w]; rw [af]) | skip)
   have H' := am H
   clear H
   go_wp2
   go_meet
   case rel => exact ⟨_, (true), prs, H', ⟨by first | omega | exact Nat.le_refl _⟩, pdr⟩
  rw [if_neg c3] at H
  have af : decide ((a0.size : Int) < 1) = false := decide_eq_false c3
  have ah : decide (a0.size < 1) = false := decide_eq_false (by omega)
  clear c3
  (first | rw [af] | (simp only [i64_w, i32_w]; rw [af]) | skip)
  have H' := am H
  clear H
  go_wp2
  go_meet
  case rel => exact ⟨_, (decide ((a0.size : Int) > 16)), prs, H', ⟨by first | omega | exact Nat.le_refl _⟩, pdr⟩
 clear aY
 try clear c3 af ah
 obtain ⟨kq, ag, rfl, HA, ab, ⟨a8, rfl⟩⟩ := hcut
 obtain _ | a5 := kq
 ·exact absurd HA.1 (by simp [r09_Name.j0])
 have H := HA.1
 clear HA
 simp only [r09_Name.j0] at H
 cases ag
 rotate_left
 ·rw [if_pos rfl] at H
  obtain rfl := Option.some.inj H
  go_wp2
  go_ret
  exact ⟨prs, pdr⟩
 rw [if_neg Bool.false_ne_true] at H
 have H' := am H
 clear H
 go_wp2
 go_loopg [3] a5 (fun kq v3 w' => ∃ (aa : Int), v3 = .int .i64 aa ∧ Aside0 (r09_Name.l0 kq a0 aa = some r) ∧ Aside0 (kq ≤ a5) ∧ Drawn0 w w')
 case atStart => exact ⟨(0), prs, H', ⟨Nat.le_refl _⟩, pdr⟩
 clear H'
 try clear c3 af ah
 obtain ⟨aa, rfl, HA, ac, ⟨m2, rfl⟩⟩ := hrel
 obtain _ | k2 := gk
 ·exact absurd HA.1 (by simp [r09_Name.l0])
 have H := HA.1
 clear HA
 simp only [r09_Name.l0] at H
 replace H := ifl H
 rcases H with ⟨aZ, H⟩ | ⟨aZ, H⟩
 rotate_left
 ·obtain rfl := Option.some.inj H
  go_wp2
  go_ret
  exact ⟨prs, pdr⟩
 replace H := ifp H
 obtain ⟨c6, H⟩ := H
 have a6 := decide_eq_true c6
 clear c6
 replace H := ifh H
 rcases H with ⟨a1, H⟩ | ⟨a1, H⟩
 rotate_left
 ·replace H := ifh H
  rcases H with ⟨aG, H⟩ | ⟨aG, H⟩
  rotate_left
  ·replace H := ife H
   rcases H with ⟨aS, aT, H⟩ | ⟨aS, aT, H⟩
   ·have H' := am H
    clear H
    obtain ⟨p7, q7, ae⟩ := dbt a0 aa
    go_wp2
    go_roundg k2
    case measure => have := ab.1; have := ac.1; omega
    case rel => exact ⟨(wrap64 (aa + 1)), prs, H', ⟨by have := ab.1; have := ac.1; omega⟩, pdr⟩
   replace H := ife H
   rcases H with ⟨aU, aV, H⟩ | ⟨aU, aV, H⟩
   rotate_left
   ·obtain rfl := Option.some.inj H
    obtain ⟨p7, q7, ae⟩ := dbt a0 aa
    go_wp2
    go_ret
    exact ⟨prs, pdr⟩
   replace H := ife H
   rcases H with ⟨aW, aX, H⟩ | ⟨aW, aX, H⟩
   ·obtain rfl := Option.some.inj H
    obtain ⟨p7, q7, ae⟩ := dbt a0 aa
    go_wp2
    go_ret
    exact ⟨prs, pdr⟩
   have H' := am H
   clear H
   obtain ⟨p7, q7, ae⟩ := dbt a0 aa
   go_wp2
   go_roundg k2
   case measure => have := ab.1; have := ac.1; omega
   case rel => exact ⟨(wrap64 (aa + 1)), prs, H', ⟨by have := ab.1; have := ac.1; omega⟩, pdr⟩
  replace H := ifl H
  rcases H with ⟨aH, H⟩ | ⟨aH, H⟩
  ·replace H := ife H
   rcases H with ⟨aI, aJ, H⟩ | ⟨aI, aJ, H⟩
   ·have H' := am H
    clear H
    obtain ⟨p7, q7, ae⟩ := dbt a0 aa
    go_wp2
    go_roundg k2
    case measure => have := ab.1; have := ac.1; omega
    case rel => exact ⟨(wrap64 (aa + 1)), prs, H', ⟨by have := ab.1; have := ac.1; omega⟩, pdr⟩
   replace H := ife H
   rcases H with ⟨aK, aL, H⟩ | ⟨aK, aL, H⟩
   ·obtain rfl := Option.some.inj H
    obtain ⟨p7, q7, ae⟩ := dbt a0 aa
    go_wp2
    go_ret
    exact ⟨prs, pdr⟩
   have H' := am H
   clear H
   obtain ⟨p7, q7, ae⟩ := dbt a0 aa
   go_wp2
   go_roundg k2
   case measure => have := ab.1; have := ac.1; omega
   case rel => exact ⟨(wrap64 (aa + 1)), prs, H', ⟨by have := ab.1; have := ac.1; omega⟩, pdr⟩
  replace H := ife H
  rcases H with ⟨aM, aN, H⟩ | ⟨aM, aN, H⟩
  ·have H' := am H
   clear H
   obtain ⟨p7, q7, ae⟩ := dbt a0 aa
   go_wp2
   go_roundg k2
   case measure => have := ab.1; have := ac.1; omega
   case rel => exact ⟨(wrap64 (aa + 1)), prs, H', ⟨by have := ab.1; have := ac.1; omega⟩, pdr⟩
  replace H := ife H
  rcases H with ⟨aO, aP, H⟩ | ⟨aO, aP, H⟩
  rotate_left
  ·obtain rfl := Option.some.inj H
   obtain ⟨p7, q7, ae⟩ := dbt a0 aa
   go_wp2
   go_ret
   exact ⟨prs, pdr⟩
  replace H := ife H
  rcases H with ⟨aQ, aR, H⟩ | ⟨aQ, aR, H⟩
  ·obtain rfl := Option.some.inj H
   obtain ⟨p7, q7, ae⟩ := dbt a0 aa
   go_wp2
   go_ret
   exact ⟨prs, pdr⟩
  have H' := am H
  clear H
  obtain ⟨p7, q7, ae⟩ := dbt a0 aa
  go_wp2
  go_roundg k2
  case measure => have := ab.1; have := ac.1; omega
  case rel => exact ⟨(wrap64 (aa + 1)), prs, H', ⟨by have := ab.1; have := ac.1; omega⟩, pdr⟩
 replace H := ifl H
 rcases H with ⟨a2, H⟩ | ⟨a2, H⟩
 ·replace H := ifh H
  rcases H with ⟨ai, H⟩ | ⟨ai, H⟩
  rotate_left
  ·have H' := am H
   clear H
   obtain ⟨p7, q7, ae⟩ := dbt a0 aa
   go_wp2
   go_roundg k2
   case measure => have := ab.1; have := ac.1; omega
   case rel => exact ⟨(wrap64 (aa + 1)), prs, H', ⟨by have := ab.1; have := ac.1; omega⟩, pdr⟩
  replace H := ifl H
  rcases H with ⟨aj, H⟩ | ⟨aj, H⟩
  ·have H' := am H
   clear H
   obtain ⟨p7, q7, ae⟩ := dbt a0 aa
   go_wp2
   go_roundg k2
   case measure => have := ab.1; have := ac.1; omega
   case rel => exact ⟨(wrap64 (aa + 1)), prs, H', ⟨by have := ab.1; have := ac.1; omega⟩, pdr⟩
  have H' := am H
  clear H
  obtain ⟨p7, q7, ae⟩ := dbt a0 aa
  go_wp2
  go_roundg k2
  case measure => have := ab.1; have := ac.1; omega
  case rel => exact ⟨(wrap64 (aa + 1)), prs, H', ⟨by have := ab.1; have := ac.1; omega⟩, pdr⟩
 replace H := ifh H
 rcases H with ⟨ak, H⟩ | ⟨ak, H⟩
 rotate_left
 ·replace H := ife H
  rcases H with ⟨aA, aB, H⟩ | ⟨aA, aB, H⟩
  ·have H' := am H
   clear H
   obtain ⟨p7, q7, ae⟩ := dbt a0 aa
   go_wp2
   go_roundg k2
   case measure => have := ab.1; have := ac.1; omega
   case rel => exact ⟨(wrap64 (aa + 1)), prs, H', ⟨by have := ab.1; have := ac.1; omega⟩, pdr⟩
  replace H := ife H
  rcases H with ⟨aC, aD, H⟩ | ⟨aC, aD, H⟩
  rotate_left
  ·obtain rfl := Option.some.inj H
   obtain ⟨p7, q7, ae⟩ := dbt a0 aa
   go_wp2
   go_ret
   exact ⟨prs, pdr⟩
  replace H := ife H
  rcases H with ⟨aE, aF, H⟩ | ⟨aE, aF, H⟩
  ·obtain rfl := Option.some.inj H
   obtain ⟨p7, q7, ae⟩ := dbt a0 aa
   go_wp2
   go_ret
   exact ⟨prs, pdr⟩
  have H' := am H
  clear H
  obtain ⟨p7, q7, ae⟩ := dbt a0 aa
  go_wp2
  go_roundg k2
  case measure => have := ab.1; have := ac.1; omega
  case rel => exact ⟨(wrap64 (aa + 1)), prs, H', ⟨by have := ab.1; have := ac.1; omega⟩, pdr⟩
 replace H := ifl H
 rcases H with ⟨al, H⟩ | ⟨al, H⟩
 ·replace H := ife H
  rcases H with ⟨ao, ap, H⟩ | ⟨ao, ap, H⟩
  ·have H' := am H
   clear H
   obtain ⟨p7, q7, ae⟩ := dbt a0 aa
   go_wp2
   go_roundg k2
   case measure => have := ab.1; have := ac.1; omega
   case rel => exact ⟨(wrap64 (aa + 1)), prs, H', ⟨by have := ab.1; have := ac.1; omega⟩, pdr⟩
  replace H := ife H
  rcases H with ⟨aq, ar, H⟩ | ⟨aq, ar, H⟩
  ·obtain rfl := Option.some.inj H
   obtain ⟨p7, q7, ae⟩ := dbt a0 aa
   go_wp2
   go_ret
   exact ⟨prs, pdr⟩
  have H' := am H
  clear H
  obtain ⟨p7, q7, ae⟩ := dbt a0 aa
  go_wp2
  go_roundg k2
  case measure => have := ab.1; have := ac.1; omega
  case rel => exact ⟨(wrap64 (aa + 1)), prs, H', ⟨by have := ab.1; have := ac.1; omega⟩, pdr⟩
 replace H := ife H
 rcases H with ⟨au, av, H⟩ | ⟨au, av, H⟩
 ·have H' := am H
  clear H
  obtain ⟨p7, q7, ae⟩ := dbt a0 aa
  go_wp2
  go_roundg k2
  case measure => have := ab.1; have := ac.1; omega
  case rel => exact ⟨(wrap64 (aa + 1)), prs, H', ⟨by have := ab.1; have := ac.1; omega⟩, pdr⟩
 replace H := ife H
 rcases H with ⟨aw, ax, H⟩ | ⟨aw, ax, H⟩
 rotate_left
 ·obtain rfl := Option.some.inj H
  obtain ⟨p7, q7, ae⟩ := dbt a0 aa
  go_wp2
  go_ret
  exact ⟨prs, pdr⟩
 replace H := ife H
 rcases H with ⟨ay, az, H⟩ | ⟨ay, az, H⟩
 ·obtain rfl := Option.some.inj H
  obtain ⟨p7, q7, ae⟩ := dbt a0 aa
  go_wp2
  go_ret
  exact ⟨prs, pdr⟩
 have H' := am H
 clear H
 obtain ⟨p7, q7, ae⟩ := dbt a0 aa
 go_wp2
 go_roundg k2
 case measure => have := ab.1; have := ac.1; omega
 case rel => exact ⟨(wrap64 (aa + 1)), prs, H', ⟨by have := ab.1; have := ac.1; omega⟩, pdr⟩

/-! ### r09_place: function 71 -/
mutual
def r09_place.l0 : Nat → Int → Int → ByteArray → List (S57) → List (S60) → ByteArray → Int → Int → Option (Int)
 | 0, _, _, _, _, _, _, _, _ => none
 | k + 1, x1, x6, aL, av, aM, al, ak, ag => if x6 < x1 then (if 0 ≤ x6 then (if x6 < (av.length : Int) then (if ((rd_T57 av x6).f0).toList = al.toList then (some 6) else (r09_place.l0 k x1 (wrap64 (x6 + 1)) aL av aM al ak ag)) else (none)) else (none)) else (if ag < 0 then (r09_place.j1 k true al ak ag) else (r09_place.j1 k (decide (ag > 1048576)) al ak ag))
def r09_place.j1 : Nat → Bool → ByteArray → Int → Int → Option (Int)
 | 0, _, _, _, _ => none
 | k + 1, bU, al, ak, ag => if bU = true then (some 1) else (if ak < 0 then (some 10) else (if ak > 1048576 then (some 10) else (if ag = 0 then (some 0) else (if ak > ag then (some 10) else (some 0)))))
end
def r09_place.f (k : Nat) (ay : ByteArray) (ac : List (S57)) (ap : List (S60)) (a1 : Int) : Option (Int) := if 0 ≤ a1 then (if a1 < (ac.length : Int) then ((r09_Name.f k ((rd_T57 ac a1).f0)).bind fun aY => (if aY = true then (r09_place.l0 k a1 0 ay ac ap ((rd_T57 ac a1).f0) ((rd_T57 ac a1).f1) ((rd_T57 ac a1).f2)) else (some 5))) else (none)) else (none)
theorem r09_place.mono_l : ∀ k, M8 r09_place.l0 k ∧ M4 r09_place.j1 k
 | 0 => ⟨fun _ _ _ _ _ _ _ _ r h => by simp [r09_place.l0] at h, fun _ _ _ _ r h => by simp [r09_place.j1] at h⟩
 | k + 1 => by
  obtain ⟨bl, bm⟩ := r09_place.mono_l k
  refine ⟨?_, ?_⟩ <;> dsimp only [M4, M8] <;> intros <;> (first | unfold r09_place.l0 | unfold r09_place.j1) <;> repeat' first | (with_reducible first | apply bl | apply bm | apply r09_Name.mono | apply lr | apply ln | apply li | refine lb ?_ fun _ => ?_)
theorem r09_place.mono : ∀ a0 a1 a2 a3 k, LeO (r09_place.f k a0 a1 a2 a3) (r09_place.f (k + 1) a0 a1 a2 a3) := by
 intro a0 a1 a2 a3 k
 obtain ⟨bl, bm⟩ := r09_place.mono_l k
 unfold r09_place.f
 repeat' first | (with_reducible first | apply bl | apply bm | apply r09_Name.mono | apply lr | apply ln | apply li | refine lb ?_ fun _ => ?_)
set_option maxHeartbeats 8000000 in
set_option maxRecDepth 100000 in
theorem r09_place.calls (k : Nat) (ay : ByteArray) (aZ : Option Addr) (aJ : Nat) (ac : List (S57)) (aI : Option Addr) (aK : Nat) (ap : List (S60)) (a1 : Int) (r : Int) (w : World) (aT : Kd.C k57 w aZ ac.length ac) (aR : ac.length ≤ aJ) (aU : Kd.C k60 w aI ap.length ap) (aS : ap.length ≤ aK) (h : r09_place.f k ay ac ap a1 = some r) :
  Calls Try.prog 71 #[.agg #[.string ay, .slice aZ ac.length aJ, .slice aI ap.length aK], .int .i64 a1] w fun e w' => e = .returned (.int .i64 r) ∧ Below w.heap.size w w' := by
 have bQ := Try.underlying25
 have bR := Try.underlying57
 have az := am aT
 have bn := am aR
 clear aT aR
 have bp := am aU
 have bo := am aS
 clear aU aS
 have HB := am (Below.refl w.heap.size w)
 have H := h
 unfold r09_place.f at H
 clear h
 replace H := ifp H
 obtain ⟨c3, H⟩ := H
 have bd := decide_eq_true c3
 clear c3
 replace H := ifp H
 obtain ⟨c4, H⟩ := H
 have bf := decide_eq_true c4
 clear c4
 replace H := bnd H
 obtain ⟨aY, A5, H⟩ := H
 (try dsimp only at H)
 cases aY
 ·rw [if_neg Bool.false_ne_true] at H
  obtain rfl := Option.some.inj H
  go_enter Try.func71, Try.ntmps71
  iterate 4 (try go_wp2_with (first | ((with_reducible refine gate_dst (N := 2) rfl ?_); refine box_ev ?_; intro aG hg b1 hbox hb; have ae := am hbox; have aD := gwl hg; have a4 := aD; replace HB := bsl hb; clear hb hbox hg; have b8 := cf3 ae.1; have ar : 0 ≤ (a1 : Int) := dq; have au : a1 < (ac.length : Int) := dq; obtain ⟨ax, aW, ah, ai, aj⟩ := at_T57 az.1 a1 ar au; cases aW; replace ah := cbl HB.1 ah; replace ai := cbl HB.1 ai; replace aj := cbl HB.1 aj; replace ar := eq_true ar; replace au := eq_true au) | ((with_reducible refine gate_dst (N := 5) rfl ?_); refine box_ev (N := 5) (cs := #[.string (⟨#[]⟩ : ByteArray), .int .i64 0, .int .i64 0]) (t := 57) ?_; intro aH hg b2 hbox hb; have af := am hbox; have aE := gwb hg; have a5 := aE; have aa := nlt hg ae; have ab := ngt hg ae; replace ae := bbh ae hb; replace HB := bst hb; clear hb hbox hg; have bC := ab.1; have bN := aa.1; have b9 := cf3 af.1) | (go_at_call 70; (with_reducible refine (r09_Name.calls k ((rd_T57 ac a1).f0) false _ A5.1).mono ?_); rintro e w' ⟨rfl, ⟨nd, rfl⟩⟩; (try first | exact ⟨rfl, _, World.drewN_drewN _ _ _⟩ | exact ⟨rfl, _, Eq.trans (World.drewN_drewN _ _ _) (congrArg (World.drewN _) (Nat.add_assoc _ _ _))⟩))); try go_quiet (first | (go_at_call 70; (with_reducible refine (r09_Name.calls k ((rd_T57 ac a1).f0) false _ A5.1).mono ?_); rintro e w' ⟨rfl, ⟨nd, rfl⟩⟩; (try first | exact ⟨rfl, _, World.drewN_drewN _ _ _⟩ | exact ⟨rfl, _, Eq.trans (World.drewN_drewN _ _ _) (congrArg (World.drewN _) (Nat.add_assoc _ _ _))⟩))))
  go_ret
  exact ⟨per, pbg⟩
 rw [if_pos rfl] at H
 have H' := am H
 clear H
 go_enter Try.func71, Try.ntmps71
 iterate 4 (try go_wp2_with (first | ((with_reducible refine gate_dst (N := 2) rfl ?_); refine box_ev ?_; intro aG hg w7 hbox hb; have ae := am hbox; have aD := gwl hg; have a4 := aD; replace HB := bsl hb; clear hb hbox hg; have z8 := cf3 ae.1; have ar : 0 ≤ (a1 : Int) := dq; have au : a1 < (ac.length : Int) := dq; obtain ⟨ax, aW, ah, ai, aj⟩ := at_T57 az.1 a1 ar au; cases aW; replace ah := cbl HB.1 ah; replace ai := cbl HB.1 ai; replace aj := cbl HB.1 aj; replace ar := eq_true ar; replace au := eq_true au) | ((with_reducible refine gate_dst (N := 5) rfl ?_); refine box_ev (N := 5) (cs := #[.string (⟨#[]⟩ : ByteArray), .int .i64 0, .int .i64 0]) (t := 57) ?_; intro aH hg w9 hbox hb; have af := am hbox; have aE := gwb hg; have a5 := aE; have aa := nlt hg ae; have ab := ngt hg ae; replace ae := bbh ae hb; replace HB := bst hb; clear hb hbox hg; have bq := ab.1; have bD := aa.1; have bO := cf3 af.1) | (go_at_call 70; (with_reducible refine (r09_Name.calls k ((rd_T57 ac a1).f0) true _ A5.1).mono ?_); rintro e w' ⟨rfl, ⟨nd, rfl⟩⟩; (try first | exact ⟨rfl, _, World.drewN_drewN _ _ _⟩ | exact ⟨rfl, _, Eq.trans (World.drewN_drewN _ _ _) (congrArg (World.drewN _) (Nat.add_assoc _ _ _))⟩))); try go_quiet (first | (go_at_call 70; (with_reducible refine (r09_Name.calls k ((rd_T57 ac a1).f0) true _ A5.1).mono ?_); rintro e w' ⟨rfl, ⟨nd, rfl⟩⟩; (try first | exact ⟨rfl, _, World.drewN_drewN _ _ _⟩ | exact ⟨rfl, _, Eq.trans (World.drewN_drewN _ _ _) (congrArg (World.drewN _) (Nat.add_assoc _ _ _))⟩))))
 go_loopg [6] k (fun kq v6 w' => ∃ (ao : Int), v6 = .int .i64 ao ∧ Aside0 (r09_place.l0 kq a1 ao ay ac ap ((rd_T57 ac a1).f0) ((rd_T57 ac a1).f1) ((rd_T57 ac a1).f2) = some r) ∧ Aside0 (kq ≤ k) ∧ Aside0 (w'.heap[aG]? = some (.cells #[.string ay, (.slice (some ax) ac.length aJ), (.slice aI ap.length aK)] 25 (0, 0))) ∧ Aside0 (w'.heap[aH]? = some (.cells #[.string ((rd_T57 ac a1).f0), .int .i64 ((rd_T57 ac a1).f1), .int .i64 ((rd_T57 ac a1).f2)] 57 (0, 0))) ∧ Aside0 (Below w.heap.size w w'))
 case atStart => exact ⟨(0), prs, H', ⟨Nat.le_refl _⟩, ⟨by (with_reducible repeat (first | refine blk_drewN ?_ _ | refine blk_drew ?_ | refine blk_alloc ?_ _)); refine bf3 ?_ aa.1; exact pbk ae.1⟩, ⟨by (with_reducible repeat (first | refine blk_drewN ?_ _ | refine blk_drew ?_ | refine blk_alloc ?_ _)); exact bp3 (pbk af.1)⟩, ⟨pbg⟩⟩
 clear H'
 try clear c3 bd c4 bf bO z8 ah ai aj ar au
 obtain ⟨ao, rfl, HA, bi, ae, af, HB⟩ := hrel
 obtain _ | k1 := gk
 ·exact absurd HA.1 (by simp [r09_place.l0])
 have H := HA.1
 clear HA
 simp only [r09_place.l0] at H
 replace H := ifl H
 rcases H with ⟨aN, H⟩ | ⟨aN, H⟩
 ·replace H := ifp H
  obtain ⟨bj, H⟩ := H
  have a6 := decide_eq_true bj
  clear bj
  replace H := ifp H
  obtain ⟨bk, H⟩ := H
  have a7 := decide_eq_true bk
  clear bk
  by_cases aO : ((rd_T57 ac ao).f0).toList = ((rd_T57 ac a1).f0).toList
  ·rw [if_pos aO] at H
   have aP : (((rd_T57 ac ao).f0).toList == ((rd_T57 ac a1).f0).toList) = true := beq_iff_eq.mpr aO
   have aQ : (((rd_T57 ac ao).f0).toList != ((rd_T57 ac a1).f0).toList) = false := bne_eq_false_iff_eq.mpr aO
   clear aO
   obtain rfl := Option.some.inj H
   have br := aa.1
   have bE := ab.1
   have bV := cf3 ae.1
   obtain ⟨bg, bh, aF, aX, aA, aB, aC⟩ := bT57 az.1 HB.1 ao
   obtain rfl : ax = aF := (by injection aX)
   have bW := cf3 af.1
   go_wp2
   repeat (go_quiet (fail); try go_wp2)
   go_ret
   exact ⟨per, pbg⟩
  rw [if_neg aO] at H
  have aP : (((rd_T57 ac ao).f0).toList == ((rd_T57 ac a1).f0).toList) = false := beq_eq_false_iff_ne.mpr aO
  have aQ : (((rd_T57 ac ao).f0).toList != ((rd_T57 ac a1).f0).toList) = true := bne_iff_ne.mpr aO
  have H' := am H
  clear H
  have bs := aa.1
  have bF := ab.1
  have bX := cf3 ae.1
  obtain ⟨bg, bh, aF, aX, aA, aB, aC⟩ := bT57 az.1 HB.1 ao
  obtain rfl : ax = aF := (by injection aX)
  have bY := cf3 af.1
  go_wp2
  repeat (go_quiet (fail); try go_wp2)
  go_roundg k1
  case measure => have := bi.1; omega
  case rel => exact ⟨(wrap64 (ao + 1)), prs, H', ⟨by have := bi.1; omega⟩, ⟨pbk ae.1⟩, ⟨pbk af.1⟩, ⟨pbg⟩⟩
 have aV := am H
 clear H
 go_upto_region 9 with (fail)
 repeat (go_quiet (fail); go_upto_region 9 with (fail))
 go_cut [37] (fun bT wc => ∃ (kq : Nat) (aw : Bool), bT = .bool aw ∧ Aside0 (r09_place.j1 kq aw ((rd_T57 ac a1).f0) ((rd_T57 ac a1).f1) ((rd_T57 ac a1).f2) = some r) ∧ Aside0 (kq ≤ k1) ∧ Aside0 (wc.heap[aG]? = some (.cells #[.string ay, (.slice (some ax) ac.length aJ), (.slice aI ap.length aK)] 25 (0, 0))) ∧ Aside0 (wc.heap[aH]? = some (.cells #[.string ((rd_T57 ac a1).f0), .int .i64 ((rd_T57 ac a1).f1), .int .i64 ((rd_T57 ac a1).f2)] 57 (0, 0))) ∧ Aside0 (Below w.heap.size w wc))
 case first =>
  have H := aV.1
  clear aV
  replace H := ifl H
  rcases H with ⟨aq, H⟩ | ⟨aq, H⟩
  ·(first | rw [aq] | (simp only [i64_w, i32_w]; rw [aq]) | skip)
   have H' := am H
   clear H
   have bu := ab.1
   have bG := aa.1
   have z25 := cf3 af.1
   go_wp2
   repeat (go_quiet (fail); try go_wp2)
   go_meet
   case rel => exact ⟨_, (true), prs, H', ⟨by have := bi.1; first | omega | exact Nat.le_refl _⟩, ⟨pbk ae.1⟩, ⟨pbk af.1⟩, ⟨pbg⟩⟩
  (first | rw [aq] | (simp only [i64_w, i32_w]; rw [aq]) | skip)
  have H' := am H
  clear H
  have bv := ab.1
  have bH := aa.1
  have bZ := cf3 af.1
  go_wp2
  repeat (go_quiet (fail); try go_wp2)
  go_meet
  case rel => exact ⟨_, (decide (((rd_T57 ac a1).f2) > 1048576)), prs, H', ⟨by have := bi.1; first | omega | exact Nat.le_refl _⟩, ⟨pbk ae.1⟩, ⟨pbk af.1⟩, ⟨pbg⟩⟩
 clear aV
 try clear c3 bd c4 bf c6 aN bj a6 bk a7 aO aP aQ b0 aq bO bV bW bX bY z25 bZ z8 ah ai aj aA aB aC ar bg au bh
 obtain ⟨kq, aw, rfl, HA, bP, ae, af, HB⟩ := hcut
 obtain _ | bS := kq
 ·exact absurd HA.1 (by simp [r09_place.j1])
 have H := HA.1
 clear HA
 simp only [r09_place.j1] at H
 cases aw
 rotate_left
 ·rw [if_pos rfl] at H
  obtain rfl := Option.some.inj H
  go_wp2
  repeat (go_quiet (fail); try go_wp2)
  go_ret
  exact ⟨per, pbg⟩
 rw [if_neg Bool.false_ne_true] at H
 replace H := ifl H
 rcases H with ⟨a8, H⟩ | ⟨a8, H⟩
 ·obtain rfl := Option.some.inj H
  have bw := ab.1
  have bI := aa.1
  have b3 := cf3 af.1
  go_wp2
  repeat (go_quiet (fail); try go_wp2)
  go_ret
  exact ⟨per, pbg⟩
 replace H := ifg H
 rcases H with ⟨a9, H⟩ | ⟨a9, H⟩
 ·obtain rfl := Option.some.inj H
  have bx := ab.1
  have bJ := aa.1
  have b4 := cf3 af.1
  go_wp2
  repeat (go_quiet (fail); try go_wp2)
  go_ret
  exact ⟨per, pbg⟩
 replace H := ife H
 rcases H with ⟨ba, bb, H⟩ | ⟨ba, bb, H⟩
 ·obtain rfl := Option.some.inj H
  have bz := ab.1
  have bK := aa.1
  have b5 := cf3 af.1
  go_wp2
  repeat (go_quiet (fail); try go_wp2)
  go_ret
  exact ⟨per, pbg⟩
 replace H := ifg H
 rcases H with ⟨bc, H⟩ | ⟨bc, H⟩
 ·obtain rfl := Option.some.inj H
  have bA := ab.1
  have bL := aa.1
  have b6 := cf3 af.1
  go_wp2
  repeat (go_quiet (fail); try go_wp2)
  go_ret
  exact ⟨per, pbg⟩
 obtain rfl := Option.some.inj H
 have bB := ab.1
 have bM := aa.1
 have b7 := cf3 af.1
 go_wp2
 repeat (go_quiet (fail); try go_wp2)
 go_ret
 exact ⟨per, pbg⟩

/-! ### r09_arcs: function 80 -/
mutual
def r09_arcs.l0 : Nat → List (S78) → Int → ByteArray → List (S57) → List (S60) → Option (Int)
 | 0, _, _, _, _, _ => none
 | k + 1, x1, x5, ac, aa, ae => if x5 < (x1.length : Int) then (if 0 ≤ x5 then (if ((rd_T78 x1 x5).f0) < 0 then (r09_arcs.j1 k x1 x5 true ac aa ae) else (r09_arcs.j1 k x1 x5 (decide (((rd_T78 x1 x5).f0) ≥ (aa.length : Int))) ac aa ae)) else (none)) else (some 0)
def r09_arcs.j1 : Nat → List (S78) → Int → Bool → ByteArray → List (S57) → List (S60) → Option (Int)
 | 0, _, _, _, _, _, _ => none
 | k + 1, x1, x5, bV, ac, aa, ae => if bV = true then (some 7) else (if x5 > 0 then (if 0 ≤ x5 then (if x5 < (x1.length : Int) then (if 0 ≤ (wrap64 (x5 - 1)) then (if (wrap64 (x5 - 1)) < (x1.length : Int) then (r09_arcs.j2 k x1 x5 (decide (((rd_T78 x1 x5).f0) ≤ ((rd_T78 x1 (wrap64 (x5 - 1))).f0))) ac aa ae) else (none)) else (none)) else (none)) else (none)) else (r09_arcs.j2 k x1 x5 false ac aa ae))
def r09_arcs.j2 : Nat → List (S78) → Int → Bool → ByteArray → List (S57) → List (S60) → Option (Int)
 | 0, _, _, _, _, _, _ => none
 | k + 1, x1, x5, bW, ac, aa, ae => if bW = true then (some 8) else (if 0 ≤ x5 then (if x5 < (x1.length : Int) then (if ((rd_T78 x1 x5).f1) < 1 then (some 9) else (if ((rd_T78 x1 x5).f1) > 99 then (some 9) else (r09_arcs.l0 k x1 (wrap64 (x5 + 1)) ac aa ae))) else (none)) else (none))
end
def r09_arcs.f (k : Nat) (ai : ByteArray) (af : List (S57)) (ah : List (S60)) (l1 : List (S78)) : Option (Int) := r09_arcs.l0 k l1 0 ai af ah
theorem r09_arcs.mono_l : ∀ k, M5 r09_arcs.l0 k ∧ M6 r09_arcs.j1 k ∧ M6 r09_arcs.j2 k
 | 0 => ⟨fun _ _ _ _ _ r h => by simp [r09_arcs.l0] at h, fun _ _ _ _ _ _ r h => by simp [r09_arcs.j1] at h, fun _ _ _ _ _ _ r h => by simp [r09_arcs.j2] at h⟩
 | k + 1 => by
  obtain ⟨bu, bv, bw⟩ := r09_arcs.mono_l k
  refine ⟨?_, ?_, ?_⟩ <;> dsimp only [M5, M6] <;> intros <;> (first | unfold r09_arcs.l0 | unfold r09_arcs.j1 | unfold r09_arcs.j2) <;> repeat' first | (with_reducible first | apply bu | apply bv | apply bw | apply lr | apply ln | apply li | refine lb ?_ fun _ => ?_)
theorem r09_arcs.mono : ∀ a0 a1 a2 a3 k, LeO (r09_arcs.f k a0 a1 a2 a3) (r09_arcs.f (k + 1) a0 a1 a2 a3) := by
 intro a0 a1 a2 a3 k
 obtain ⟨bu, bv, bw⟩ := r09_arcs.mono_l k
 unfold r09_arcs.f
 repeat' first | (with_reducible first | apply bu | apply bv | apply bw | apply lr | apply ln | apply li | refine lb ?_ fun _ => ?_)
set_option maxHeartbeats 8000000 in
set_option maxRecDepth 100000 in
theorem r09_arcs.calls (k : Nat) (ai : ByteArray) (az : Option Addr) (aC : Nat) (af : List (S57)) (aA : Option Addr) (aD : Nat) (ah : List (S60)) (A1 : Option Addr) (c1 : Nat) (l1 : List (S78)) (r : Int) (w : World) (aR : Kd.C k57 w az af.length af) (aP : af.length ≤ aC) (aS : Kd.C k60 w aA ah.length ah) (aQ : ah.length ≤ aD) (bP : Kd.C k78 w A1 l1.length l1) (bO : l1.length ≤ c1) (h : r09_arcs.f k ai af ah l1 = some r) :
  Calls Try.prog 80 #[.agg #[.string ai, .slice az af.length aC, .slice aA ah.length aD], .slice A1 l1.length c1] w fun e w' => e = .returned (.int .i64 r) ∧ Below w.heap.size w w' := by
 have bR := Try.underlying25
 have bI := am aR
 have bF := am aP
 clear aR aP
 have bJ := am aS
 have bG := am aQ
 clear aS aQ
 have aG := am bP
 have bX := am bO
 clear bP bO
 have HB := am (Below.refl w.heap.size w)
 have H : (r09_arcs.l0 k l1 0 ai af ah) = some r := h
 clear h
 have H' := am H
 clear H
 go_enter Try.func80, Try.ntmps80
 iterate 4 (try go_wp2_with (first | ((with_reducible refine gate_dst (N := 2) rfl ?_); (try (refine gate_guard (by rfl) ?_; dsimp only)); refine box_ev ?_; intro aF hg w3 hbox hb; have ag := am hbox; have a5 := gwl hg; have bE := a5; replace HB := bsl hb; clear hb hbox hg)); try go_quiet (fail))
 go_loopg [5] k (fun kq v5 w' => ∃ (ab : Int), v5 = .int .i64 ab ∧ Aside0 (r09_arcs.l0 kq l1 ab ai af ah = some r) ∧ Aside0 (kq ≤ k) ∧ Aside0 (w'.heap[aF]? = some (.cells #[.string ai, (.slice az af.length aC), (.slice aA ah.length aD)] 25 (0, 0))) ∧ Aside0 (Below w.heap.size w w'))
 case atStart => exact ⟨(0), prs, H', ⟨Nat.le_refl _⟩, ⟨pbk ag.1⟩, ⟨pbg⟩⟩
 clear H'
 try clear c1
 obtain ⟨ab, rfl, HA, a4, ag, HB⟩ := hrel
 obtain _ | k1 := gk
 ·exact absurd HA.1 (by simp [r09_arcs.l0])
 have H := HA.1
 clear HA
 simp only [r09_arcs.l0] at H
 replace H := ifl H
 rcases H with ⟨aU, H⟩ | ⟨aU, H⟩
 rotate_left
 ·obtain rfl := Option.some.inj H
  go_wp2
  repeat (go_quiet (fail); try go_wp2)
  go_ret
  exact ⟨per, pbg⟩
 have bl := am H
 clear H
 go_upto_region 4 with (fail)
 repeat (go_quiet (fail); go_upto_region 4 with (fail))
 go_cut [28] (fun bT wc => ∃ (kq : Nat) (aw : Bool), bT = .bool aw ∧ Aside0 (r09_arcs.j1 kq l1 ab aw ai af ah = some r) ∧ Aside0 (kq ≤ k1) ∧ Aside0 (wc.heap[aF]? = some (.cells #[.string ai, (.slice az af.length aC), (.slice aA ah.length aD)] 25 (0, 0))) ∧ Aside0 (Below w.heap.size w wc))
 case first =>
  have H := bl.1
  clear bl
  replace H := ifp H
  obtain ⟨c6, H⟩ := H
  have aH := decide_eq_true c6
  clear c6
  (first | rw [aH] | (simp only [i64_w, i32_w]; rw [aH]) | skip)
  replace H := ifl H
  rcases H with ⟨aV, H⟩ | ⟨aV, H⟩
  ·have H' := am H
   clear H
   obtain ⟨aY, aZ, aO, aW, ak, al⟩ := bT78 aG.1 HB.1 ab
   cases aW
   go_wp2
   repeat (go_quiet (fail); try go_wp2)
   go_meet
   case rel => exact ⟨_, (true), prs, H', ⟨by have := a4.1; first | omega | exact Nat.le_refl _⟩, ⟨pbk ag.1⟩, ⟨pbg⟩⟩
  have H' := am H
  clear H
  obtain ⟨aY, aZ, aO, aW, ak, al⟩ := bT78 aG.1 HB.1 ab
  cases aW
  obtain ⟨bg, bi, a6, bq, aq, ar⟩ := bT78 aG.1 HB.1 ab
  obtain rfl : aO = a6 := (by injection bq)
  have z8 := cf3 ag.1
  go_wp2
  repeat (go_quiet (fail); try go_wp2)
  go_meet
  case rel => exact ⟨_, (decide (((rd_T78 l1 ab).f0) ≥ (af.length : Int))), prs, H', ⟨by have := a4.1; first | omega | exact Nat.le_refl _⟩, ⟨pbk ag.1⟩, ⟨pbg⟩⟩
 clear bl
 try clear c1 aU c6 aH c7 aV z8 ak al aq ar aY bg aZ bi
 obtain ⟨kq, aw, rfl, HA, bk, ag, HB⟩ := hcut
 obtain _ | bQ := kq
 ·exact absurd HA.1 (by simp [r09_arcs.j1])
 have H := HA.1
 clear HA
 simp only [r09_arcs.j1] at H
 cases aw
 rotate_left
 ·rw [if_pos rfl] at H
  obtain rfl := Option.some.inj H
  go_wp2
  repeat (go_quiet (fail); try go_wp2)
  go_ret
  exact ⟨per, pbg⟩
 rw [if_neg Bool.false_ne_true] at H
 have aT := am H
 clear H
 go_upto_region 6 with (fail)
 repeat (go_quiet (fail); go_upto_region 6 with (fail))
 go_cut [44] (fun bU wc => ∃ (kq : Nat) (ax : Bool), bU = .bool ax ∧ Aside0 (r09_arcs.j2 kq l1 ab ax ai af ah = some r) ∧ Aside0 (kq ≤ bQ) ∧ Aside0 (wc.heap[aF]? = some (.cells #[.string ai, (.slice az af.length aC), (.slice aA ah.length aD)] 25 (0, 0))) ∧ Aside0 (Below w.heap.size w wc))
 case first =>
  have H := aT.1
  clear aT
  replace H := ifg H
  rcases H with ⟨aj, H⟩ | ⟨aj, H⟩
  rotate_left
  ·(first | rw [aj] | (simp only [i64_w, i32_w]; rw [aj]) | skip)
   have H' := am H
   clear H
   go_wp2
   repeat (go_quiet (fail); try go_wp2)
   go_meet
   case rel => exact ⟨_, (false), prs, H', ⟨by have := a4.1; have := bk.1; first | omega | exact Nat.le_refl _⟩, ⟨pbk ag.1⟩, ⟨pbg⟩⟩
  (first | rw [aj] | (simp only [i64_w, i32_w]; rw [aj]) | skip)
  replace H := ifp H
  obtain ⟨bm, H⟩ := H
  have a9 := decide_eq_true bm
  clear bm
  replace H := ifp H
  obtain ⟨bn, H⟩ := H
  have ba := decide_eq_true bn
  clear bn
  obtain ⟨ay, ap⟩ : ∃ j_ : Int, (wrap64 (ab - 1)) = j_ := ⟨_, rfl⟩
  replace H : (if 0 ≤ (ay) then (if (ay) < (l1.length : Int) then (r09_arcs.j2 bQ l1 ab (decide (((rd_T78 l1 ab).f0) ≤ ((rd_T78 l1 (ay)).f0))) ai af ah) else (none)) else (none)) = some r := by first | (rw [ap] at H; exact H) | (simp only [ap] at H ⊢; exact H)
  have hji14w : (IntKind.i64.wrap (ab - 1)) = ay := (i64_w _).trans ap
  replace H := ifp H
  obtain ⟨bo, H⟩ := H
  have bb := decide_eq_true bo
  clear bo
  replace H := ifp H
  obtain ⟨bp, H⟩ := H
  have bc := decide_eq_true bp
  clear bp
  have H' := am H
  clear H
  obtain ⟨bx, bB, a7, br, aI, aJ⟩ := bT78 aG.1 HB.1 ab
  cases br
  obtain ⟨bz, bC, a8, bs, aK, aL⟩ := bT78 aG.1 HB.1 (ay)
  obtain rfl : a7 = a8 := (by injection bs)
  go_wp2
  repeat (go_quiet (fail); try go_wp2)
  go_meet
  case rel => exact ⟨_, (decide (((rd_T78 l1 ab).f0) ≤ ((rd_T78 l1 (ay)).f0))), (by first | rfl | (simp; done) | (simp only [← ap] <;> (first | rfl | simp)) | (simp [*]; done)), H', ⟨by have := a4.1; have := bk.1; first | omega | exact Nat.le_refl _⟩, ⟨pbk ag.1⟩, ⟨pbg⟩⟩
 clear aT
 try clear c1 c4 aU c6 aH c7 aV bY aj bm a9 bn ba bo bb bp bc z8 ak al aq ar aI aJ aK aL aY bg bx bz aZ bi bB bC
 obtain ⟨kq, ax, rfl, HA, bH, ag, HB⟩ := hcut
 obtain _ | bS := kq
 ·exact absurd HA.1 (by simp [r09_arcs.j2])
 have H := HA.1
 clear HA
 simp only [r09_arcs.j2] at H
 cases ax
 rotate_left
 ·rw [if_pos rfl] at H
  obtain rfl := Option.some.inj H
  go_wp2
  repeat (go_quiet (fail); try go_wp2)
  go_ret
  exact ⟨per, pbg⟩
 rw [if_neg Bool.false_ne_true] at H
 replace H := ifp H
 obtain ⟨bK, H⟩ := H
 have bL := decide_eq_true bK
 clear bK
 replace H := ifp H
 obtain ⟨bM, H⟩ := H
 have bN := decide_eq_true bM
 clear bM
 replace H := ifl H
 rcases H with ⟨bd, H⟩ | ⟨bd, H⟩
 ·obtain rfl := Option.some.inj H
  obtain ⟨bh, bj, ao, aE, au, av⟩ := bT78 aG.1 HB.1 ab
  cases aE
  go_wp2
  repeat (go_quiet (fail); try go_wp2)
  go_ret
  exact ⟨per, pbg⟩
 replace H := ifg H
 rcases H with ⟨bf, H⟩ | ⟨bf, H⟩
 ·obtain rfl := Option.some.inj H
  obtain ⟨bh, bj, ao, aE, au, av⟩ := bT78 aG.1 HB.1 ab
  cases aE
  obtain ⟨bA, bD, aB, aX, aM, aN⟩ := bT78 aG.1 HB.1 ab
  obtain rfl : ao = aB := (by injection aX)
  go_wp2
  repeat (go_quiet (fail); try go_wp2)
  go_ret
  exact ⟨per, pbg⟩
 have H' := am H
 clear H
 obtain ⟨bh, bj, ao, aE, au, av⟩ := bT78 aG.1 HB.1 ab
 cases aE
 obtain ⟨bA, bD, aB, aX, aM, aN⟩ := bT78 aG.1 HB.1 ab
 obtain rfl : ao = aB := (by injection aX)
 go_wp2
 repeat (go_quiet (fail); try go_wp2)
 go_roundg bS
 case measure => have := a4.1; have := bk.1; have := bH.1; omega
 case rel => exact ⟨(wrap64 (ab + 1)), prs, H', ⟨by have := a4.1; have := bk.1; have := bH.1; omega⟩, ⟨pbk ag.1⟩, ⟨pbg⟩⟩

/-! ### r09_trans: function 72 -/
mutual
def r09_trans.l0 : Nat → Int → Int → ByteArray → List (S57) → List (S60) → ByteArray → List (S78) → List (S78) → List (S78) → Int → Option (Int)
 | 0, _, _, _, _, _, _, _, _, _, _ => none
 | k + 1, x1, x6, aj, ag, ah, al, ay, az, aA, ao => if x6 < (ag.length : Int) then (if 0 ≤ x6 then (if ((rd_T57 ag x6).f0).toList = al.toList then (some 6) else (r09_trans.l0 k x1 (wrap64 (x6 + 1)) aj ag ah al ay az aA ao)) else (none)) else (r09_trans.l1 k x1 0 aj ag ah al ay az aA ao)
def r09_trans.l1 : Nat → Int → Int → ByteArray → List (S57) → List (S60) → ByteArray → List (S78) → List (S78) → List (S78) → Int → Option (Int)
 | 0, _, _, _, _, _, _, _, _, _, _ => none
 | k + 1, x1, x7, aj, ag, ah, al, ay, az, aA, ao => if x7 < x1 then (if 0 ≤ x7 then (if x7 < (ah.length : Int) then (if ((rd_T60 ah x7).f0).toList = al.toList then (some 6) else (r09_trans.l1 k x1 (wrap64 (x7 + 1)) aj ag ah al ay az aA ao)) else (none)) else (none)) else (if ao < 0 then (r09_trans.j2 k true aj ag ah al ay az aA ao) else (r09_trans.j2 k (decide (ao > 9)) aj ag ah al ay az aA ao))
def r09_trans.j2 : Nat → Bool → ByteArray → List (S57) → List (S60) → ByteArray → List (S78) → List (S78) → List (S78) → Int → Option (Int)
 | 0, _, _, _, _, _, _, _, _, _ => none
 | k + 1, dh, aj, ag, ah, al, ay, az, aA, ao => if dh = true then (some 1) else ((r09_arcs.f k aj ag ah ay).bind fun a9 => (if a9 = 0 then ((r09_arcs.f k aj ag ah az).bind fun bb => (if bb = 0 then ((r09_arcs.f k aj ag ah aA).bind fun bC => (some bC)) else (some bb))) else (some a9)))
end
def r09_trans.f (k : Nat) (ap : ByteArray) (ai : List (S57)) (aa : List (S60)) (a1 : Int) : Option (Int) := if 0 ≤ a1 then (if a1 < (aa.length : Int) then ((r09_Name.f k ((rd_T60 aa a1).f0)).bind fun b0 => (if b0 = true then (r09_trans.l0 k a1 0 ap ai aa ((rd_T60 aa a1).f0) ((rd_T60 aa a1).f1) ((rd_T60 aa a1).f2) ((rd_T60 aa a1).f3) ((rd_T60 aa a1).f4)) else (some 5))) else (none)) else (none)
theorem r09_trans.mono_l : ∀ k, M10 r09_trans.l0 k ∧ M10 r09_trans.l1 k ∧ M9 r09_trans.j2 k
 | 0 => ⟨fun _ _ _ _ _ _ _ _ _ _ r h => by simp [r09_trans.l0] at h, fun _ _ _ _ _ _ _ _ _ _ r h => by simp [r09_trans.l1] at h, fun _ _ _ _ _ _ _ _ _ r h => by simp [r09_trans.j2] at h⟩
 | k + 1 => by
  obtain ⟨cm, cn, co⟩ := r09_trans.mono_l k
  refine ⟨?_, ?_, ?_⟩ <;> dsimp only [M9, M10] <;> intros <;> (first | unfold r09_trans.l0 | unfold r09_trans.l1 | unfold r09_trans.j2) <;> repeat' first | (with_reducible first | apply cm | apply cn | apply co | apply r09_Name.mono | apply r09_arcs.mono | apply lr | apply ln | apply li | refine lb ?_ fun _ => ?_)
theorem r09_trans.mono : ∀ a0 a1 a2 a3 k, LeO (r09_trans.f k a0 a1 a2 a3) (r09_trans.f (k + 1) a0 a1 a2 a3) := by
 intro a0 a1 a2 a3 k
 obtain ⟨cm, cn, co⟩ := r09_trans.mono_l k
 unfold r09_trans.f
 repeat' first | (with_reducible first | apply cm | apply cn | apply co | apply r09_Name.mono | apply r09_arcs.mono | apply lr | apply ln | apply li | refine lb ?_ fun _ => ?_)
set_option maxHeartbeats 8000000 in
set_option maxRecDepth 100000 in
theorem r09_trans.calls (k : Nat) (ap : ByteArray) (bk : Option Addr) (bo : Nat) (ai : List (S57)) (b3 : Option Addr) (bp : Nat) (aa : List (S60)) (a1 : Int) (r : Int) (w : World) (bK : Kd.C k57 w bk ai.length ai) (bI : ai.length ≤ bo) (bL : Kd.C k60 w b3 aa.length aa) (bJ : aa.length ≤ bp) (h : r09_trans.f k ap ai aa a1 = some r) :
  Calls Try.prog 72 #[.agg #[.string ap, .slice bk ai.length bo, .slice b3 aa.length bp], .int .i64 a1] w fun e w' => e = .returned (.int .i64 r) ∧ Below w.heap.size w w' := by
 have cX := Try.underlying25
 have cY := Try.underlying60
 have aq := am bK
 have aD := am bI
 clear bK bI
 have ak := am bL
 have aE := am bJ
 clear bL bJ
 have HB := am (Below.refl w.heap.size w)
 have H := h
 unfold r09_trans.f at H
 clear h
 replace H := ifp H
 obtain ⟨c3, H⟩ := H
 have bT := decide_eq_true c3
 clear c3
 replace H := ifp H
 obtain ⟨c4, H⟩ := H
 have bU := decide_eq_true c4
 clear c4
 replace H := bnd H
 obtain ⟨b0, A5, H⟩ := H
 (try dsimp only at H)
 cases b0
 ·rw [if_neg Bool.false_ne_true] at H
  obtain rfl := Option.some.inj H
  go_enter Try.func72, Try.ntmps72
  iterate 4 (try go_wp2_with (first | ((with_reducible refine gate_dst (N := 2) rfl ?_); refine box_ev ?_; intro bc hg dy hbox hb; have ab := am hbox; have bl := gwl hg; have b4 := bl; replace HB := bsl hb; clear hb hbox hg; have dF := cf3 ab.1; have aQ : 0 ≤ (a1 : Int) := dq; have aR : a1 < (aa.length : Int) := dq; obtain ⟨aS, aU, aZ, aV, a4, aW, a5, bV, ar, au, av, aw, ax, aK, aH, aL, aI, aM, aJ⟩ := at_T60 ak.1 a1 aQ aR; cases bV; replace ar := cbl HB.1 ar; replace au := cbl HB.1 au; replace av := cbl HB.1 av; replace aw := cbl HB.1 aw; replace ax := cbl HB.1 ax; have aC := am aH; have aB := am aK; clear aH aK; have aG := am aI; have aF := am aL; clear aI aL; have aY := am aJ; have aX := am aM; clear aJ aM; replace aQ := eq_true aQ; replace aR := eq_true aR) | ((with_reducible refine gate_dst (N := 5) rfl ?_); refine box_ev (N := 5) (cs := #[.string (⟨#[]⟩ : ByteArray), .slice none 0 0, .slice none 0 0, .slice none 0 0, .int .i64 0]) (t := 60) ?_; intro bd hg dz hbox hb; have ac := am hbox; have bm := gwb hg; have b5 := bm; have ae := nlt hg ab; have af := ngt hg ab; replace ab := bbh ab hb; replace HB := bst hb; clear hb hbox hg; have cE := af.1; have cQ := ae.1; have dG := cf5 ac.1) | (go_at_call 70; (with_reducible refine (r09_Name.calls k ((rd_T60 aa a1).f0) false _ A5.1).mono ?_); rintro e w' ⟨rfl, ⟨nd, rfl⟩⟩; (try first | exact ⟨rfl, _, World.drewN_drewN _ _ _⟩ | exact ⟨rfl, _, Eq.trans (World.drewN_drewN _ _ _) (congrArg (World.drewN _) (Nat.add_assoc _ _ _))⟩))); try go_quiet (first | (go_at_call 70; (with_reducible refine (r09_Name.calls k ((rd_T60 aa a1).f0) false _ A5.1).mono ?_); rintro e w' ⟨rfl, ⟨nd, rfl⟩⟩; (try first | exact ⟨rfl, _, World.drewN_drewN _ _ _⟩ | exact ⟨rfl, _, Eq.trans (World.drewN_drewN _ _ _) (congrArg (World.drewN _) (Nat.add_assoc _ _ _))⟩))))
  go_ret
  exact ⟨per, pbg⟩
 rw [if_pos rfl] at H
 have H' := am H
 clear H
 go_enter Try.func72, Try.ntmps72
 iterate 4 (try go_wp2_with (first | ((with_reducible refine gate_dst (N := 2) rfl ?_); refine box_ev ?_; intro bc hg w7 hbox hb; have ab := am hbox; have bl := gwl hg; have b4 := bl; replace HB := bsl hb; clear hb hbox hg; have z8 := cf3 ab.1; have aQ : 0 ≤ (a1 : Int) := dq; have aR : a1 < (aa.length : Int) := dq; obtain ⟨aS, aU, aZ, aV, a4, aW, a5, bV, ar, au, av, aw, ax, aK, aH, aL, aI, aM, aJ⟩ := at_T60 ak.1 a1 aQ aR; cases bV; replace ar := cbl HB.1 ar; replace au := cbl HB.1 au; replace av := cbl HB.1 av; replace aw := cbl HB.1 aw; replace ax := cbl HB.1 ax; have aC := am aH; have aB := am aK; clear aH aK; have aG := am aI; have aF := am aL; clear aI aL; have aY := am aJ; have aX := am aM; clear aJ aM; replace aQ := eq_true aQ; replace aR := eq_true aR) | ((with_reducible refine gate_dst (N := 5) rfl ?_); refine box_ev (N := 5) (cs := #[.string (⟨#[]⟩ : ByteArray), .slice none 0 0, .slice none 0 0, .slice none 0 0, .int .i64 0]) (t := 60) ?_; intro bd hg w9 hbox hb; have ac := am hbox; have bm := gwb hg; have b5 := bm; have ae := nlt hg ab; have af := ngt hg ab; replace ab := bbh ab hb; replace HB := bst hb; clear hb hbox hg; have cr := af.1; have cF := ae.1; have cp := cf5 ac.1) | (go_at_call 70; (with_reducible refine (r09_Name.calls k ((rd_T60 aa a1).f0) true _ A5.1).mono ?_); rintro e w' ⟨rfl, ⟨nd, rfl⟩⟩; (try first | exact ⟨rfl, _, World.drewN_drewN _ _ _⟩ | exact ⟨rfl, _, Eq.trans (World.drewN_drewN _ _ _) (congrArg (World.drewN _) (Nat.add_assoc _ _ _))⟩))); try go_quiet (first | (go_at_call 70; (with_reducible refine (r09_Name.calls k ((rd_T60 aa a1).f0) true _ A5.1).mono ?_); rintro e w' ⟨rfl, ⟨nd, rfl⟩⟩; (try first | exact ⟨rfl, _, World.drewN_drewN _ _ _⟩ | exact ⟨rfl, _, Eq.trans (World.drewN_drewN _ _ _) (congrArg (World.drewN _) (Nat.add_assoc _ _ _))⟩))))
 go_loopg [6] k (fun kq v6 w' => ∃ (aO : Int), v6 = .int .i64 aO ∧ Aside0 (r09_trans.l0 kq a1 aO ap ai aa ((rd_T60 aa a1).f0) ((rd_T60 aa a1).f1) ((rd_T60 aa a1).f2) ((rd_T60 aa a1).f3) ((rd_T60 aa a1).f4) = some r) ∧ Aside0 (kq ≤ k) ∧ Aside0 (w'.heap[bc]? = some (.cells #[.string ap, (.slice bk ai.length bo), (.slice (some aS) aa.length bp)] 25 (0, 0))) ∧ Aside0 (w'.heap[bd]? = some (.cells #[.string ((rd_T60 aa a1).f0), (.slice aU ((rd_T60 aa a1).f1).length aZ), (.slice aV ((rd_T60 aa a1).f2).length a4), (.slice aW ((rd_T60 aa a1).f3).length a5), .int .i64 ((rd_T60 aa a1).f4)] 60 (0, 0))) ∧ Aside0 (Below w.heap.size w w'))
 case atStart => exact ⟨(0), prs, H', ⟨Nat.le_refl _⟩, ⟨by (with_reducible repeat (first | refine blk_drewN ?_ _ | refine blk_drew ?_ | refine blk_alloc ?_ _)); refine bf5 ?_ ae.1; exact pbk ab.1⟩, ⟨by (with_reducible repeat (first | refine blk_drewN ?_ _ | refine blk_drew ?_ | refine blk_alloc ?_ _)); exact bp5 (pbk ac.1)⟩, ⟨pbg⟩⟩
 clear H'
 try clear c3 bT c4 bU cp z8 ar au av aw ax aQ aR
 obtain ⟨aO, rfl, HA, b2, ab, ac, HB⟩ := hrel
 obtain _ | k1 := gk
 ·exact absurd HA.1 (by simp [r09_trans.l0])
 have H := HA.1
 clear HA
 simp only [r09_trans.l0] at H
 replace H := ifl H
 rcases H with ⟨bq, H⟩ | ⟨bq, H⟩
 ·replace H := ifp H
  obtain ⟨ci, H⟩ := H
  have bD := decide_eq_true ci
  clear ci
  by_cases bB : ((rd_T57 ai aO).f0).toList = ((rd_T60 aa a1).f0).toList
  ·rw [if_pos bB] at H
   have br : (((rd_T57 ai aO).f0).toList == ((rd_T60 aa a1).f0).toList) = true := beq_iff_eq.mpr bB
   have bs : (((rd_T57 ai aO).f0).toList != ((rd_T60 aa a1).f0).toList) = false := bne_eq_false_iff_eq.mpr bB
   clear bB
   obtain rfl := Option.some.inj H
   have cu := ae.1
   have cG := af.1
   have cR := cf3 ab.1
   obtain ⟨bY, bZ, b6, bW, a6, a7, a8⟩ := bT57 aq.1 HB.1 aO
   cases bW
   have cS := cf5 ac.1
   go_wp2
   repeat (go_quiet (fail); try go_wp2)
   go_ret
   exact ⟨per, pbg⟩
  rw [if_neg bB] at H
  have br : (((rd_T57 ai aO).f0).toList == ((rd_T60 aa a1).f0).toList) = false := beq_eq_false_iff_ne.mpr bB
  have bs : (((rd_T57 ai aO).f0).toList != ((rd_T60 aa a1).f0).toList) = true := bne_iff_ne.mpr bB
  have H' := am H
  clear H
  have cv := ae.1
  have cH := af.1
  have cT := cf3 ab.1
  obtain ⟨bY, bZ, b6, bW, a6, a7, a8⟩ := bT57 aq.1 HB.1 aO
  cases bW
  have cU := cf5 ac.1
  go_wp2
  repeat (go_quiet (fail); try go_wp2)
  go_roundg k1
  case measure => have := b2.1; omega
  case rel => exact ⟨(wrap64 (aO + 1)), prs, H', ⟨by have := b2.1; omega⟩, ⟨pbk ab.1⟩, ⟨pbk ac.1⟩, ⟨pbg⟩⟩
 have H' := am H
 clear H
 have cw := ae.1
 have cI := af.1
 have cV := cf3 ab.1
 go_wp2
 repeat (go_quiet (fail); try go_wp2)
 go_loopg [7] k1 (fun kq v7 w' => ∃ (aP : Int), v7 = .int .i64 aP ∧ Aside0 (r09_trans.l1 kq a1 aP ap ai aa ((rd_T60 aa a1).f0) ((rd_T60 aa a1).f1) ((rd_T60 aa a1).f2) ((rd_T60 aa a1).f3) ((rd_T60 aa a1).f4) = some r) ∧ Aside0 (kq ≤ k1) ∧ Aside0 (w'.heap[bc]? = some (.cells #[.string ap, (.slice bk ai.length bo), (.slice (some aS) aa.length bp)] 25 (0, 0))) ∧ Aside0 (w'.heap[bd]? = some (.cells #[.string ((rd_T60 aa a1).f0), (.slice aU ((rd_T60 aa a1).f1).length aZ), (.slice aV ((rd_T60 aa a1).f2).length a4), (.slice aW ((rd_T60 aa a1).f3).length a5), .int .i64 ((rd_T60 aa a1).f4)] 60 (0, 0))) ∧ Aside0 (Below w.heap.size w w'))
 case atStart => exact ⟨(0), prs, H', ⟨Nat.le_refl _⟩, ⟨pbk ab.1⟩, ⟨pbk ac.1⟩, ⟨pbg⟩⟩
 clear H'
 try clear c3 bT c4 bU c6 bq ci bD bB br bs cp cR cS cT cU cV z8 ar au av aw ax a6 a7 a8 aQ bY aR bZ
 obtain ⟨aP, rfl, HA, ch, ab, ac, HB⟩ := hrel
 obtain _ | k2 := gk
 ·exact absurd HA.1 (by simp [r09_trans.l1])
 have H := HA.1
 clear HA
 simp only [r09_trans.l1] at H
 replace H := ifl H
 rcases H with ⟨bE, H⟩ | ⟨bE, H⟩
 ·replace H := ifp H
  obtain ⟨cj, H⟩ := H
  have b7 := decide_eq_true cj
  clear cj
  replace H := ifp H
  obtain ⟨ck, H⟩ := H
  have b8 := decide_eq_true ck
  clear ck
  by_cases bF : ((rd_T60 aa aP).f0).toList = ((rd_T60 aa a1).f0).toList
  ·rw [if_pos bF] at H
   have bG : (((rd_T60 aa aP).f0).toList == ((rd_T60 aa a1).f0).toList) = true := beq_iff_eq.mpr bF
   have bH : (((rd_T60 aa aP).f0).toList != ((rd_T60 aa a1).f0).toList) = false := bne_eq_false_iff_eq.mpr bF
   clear bF
   obtain rfl := Option.some.inj H
   have cx := ae.1
   have cJ := af.1
   have di := cf3 ab.1
   obtain ⟨ce, cf, bn, bM, bQ, bN, bR, bO, bS, bX, bf, bg, bh, bi, bj, bu, bx, bv, bz, bw, bA⟩ := bT60 ak.1 HB.1 aP
   obtain rfl : aS = bn := (by injection bX)
   have dj := cf5 ac.1
   go_wp2
   repeat (go_quiet (fail); try go_wp2)
   go_ret
   exact ⟨per, pbg⟩
  rw [if_neg bF] at H
  have bG : (((rd_T60 aa aP).f0).toList == ((rd_T60 aa a1).f0).toList) = false := beq_eq_false_iff_ne.mpr bF
  have bH : (((rd_T60 aa aP).f0).toList != ((rd_T60 aa a1).f0).toList) = true := bne_iff_ne.mpr bF
  have H' := am H
  clear H
  have cy := ae.1
  have cK := af.1
  have dk := cf3 ab.1
  obtain ⟨ce, cf, bn, bM, bQ, bN, bR, bO, bS, bX, bf, bg, bh, bi, bj, bu, bx, bv, bz, bw, bA⟩ := bT60 ak.1 HB.1 aP
  obtain rfl : aS = bn := (by injection bX)
  have dl := cf5 ac.1
  go_wp2
  repeat (go_quiet (fail); try go_wp2)
  go_roundg k2
  case measure => have := b2.1; have := ch.1; omega
  case rel => exact ⟨(wrap64 (aP + 1)), prs, H', ⟨by have := b2.1; have := ch.1; omega⟩, ⟨pbk ab.1⟩, ⟨pbk ac.1⟩, ⟨pbg⟩⟩
 have bP := am H
 clear H
 go_upto_region 14 with (fail)
 repeat (go_quiet (fail); go_upto_region 14 with (fail))
 go_cut [56] (fun cZ wc => ∃ (kq : Nat) (ba : Bool), cZ = .bool ba ∧ Aside0 (r09_trans.j2 kq ba ap ai aa ((rd_T60 aa a1).f0) ((rd_T60 aa a1).f1) ((rd_T60 aa a1).f2) ((rd_T60 aa a1).f3) ((rd_T60 aa a1).f4) = some r) ∧ Aside0 (kq ≤ k2) ∧ Aside0 (wc.heap[bc]? = some (.cells #[.string ap, (.slice bk ai.length bo), (.slice (some aS) aa.length bp)] 25 (0, 0))) ∧ Aside0 (wc.heap[bd]? = some (.cells #[.string ((rd_T60 aa a1).f0), (.slice aU ((rd_T60 aa a1).f1).length aZ), (.slice aV ((rd_T60 aa a1).f2).length a4), (.slice aW ((rd_T60 aa a1).f3).length a5), .int .i64 ((rd_T60 aa a1).f4)] 60 (0, 0))) ∧ Aside0 (Below w.heap.size w wc))
 case first =>
  have H := bP.1
  clear bP
  replace H := ifl H
  rcases H with ⟨aT, H⟩ | ⟨aT, H⟩
  ·(first | rw [aT] | (simp only [i64_w, i32_w]; rw [aT]) | skip)
   have H' := am H
   clear H
   have cz := af.1
   have cL := ae.1
   have dm := cf5 ac.1
   go_wp2
   repeat (go_quiet (fail); try go_wp2)
   go_meet
   case rel => exact ⟨_, (true), prs, H', ⟨by have := b2.1; have := ch.1; first | omega | exact Nat.le_refl _⟩, ⟨pbk ab.1⟩, ⟨pbk ac.1⟩, ⟨pbg⟩⟩
  (first | rw [aT] | (simp only [i64_w, i32_w]; rw [aT]) | skip)
  have H' := am H
  clear H
  have cA := af.1
  have cM := ae.1
  have dn := cf5 ac.1
  go_wp2
  repeat (go_quiet (fail); try go_wp2)
  go_meet
  case rel => exact ⟨_, (decide (((rd_T60 aa a1).f4) > 9)), prs, H', ⟨by have := b2.1; have := ch.1; first | omega | exact Nat.le_refl _⟩, ⟨pbk ab.1⟩, ⟨pbk ac.1⟩, ⟨pbg⟩⟩
 clear bP
 try clear c3 bT c4 bU c6 dw bq ci bD bB br bs bE cj b7 ck b8 bF bG bH dx aT cp cR cS cT cU cV di dj dk dl dm dn z8 ar au av aw ax a6 a7 a8 bf bg bh bi bj aQ bY ce aR bZ cf
 obtain ⟨kq, ba, rfl, HA, cW, ab, ac, HB⟩ := hcut
 obtain _ | aN := kq
 ·exact absurd HA.1 (by simp [r09_trans.j2])
 have H := HA.1
 clear HA
 simp only [r09_trans.j2] at H
 cases ba
 rotate_left
 ·rw [if_pos rfl] at H
  obtain rfl := Option.some.inj H
  go_wp2
  repeat (go_quiet (fail); try go_wp2)
  go_ret
  exact ⟨per, pbg⟩
 rw [if_neg Bool.false_ne_true] at H
 replace H := bnd H
 obtain ⟨a9, b1, H⟩ := H
 (try dsimp only at H)
 replace H := ife H
 rcases H with ⟨b9, ca, H⟩ | ⟨b9, ca, H⟩
 rotate_left
 ·obtain rfl := Option.some.inj H
  have cD := ae.1
  have cP := af.1
  have dD := cf3 ab.1
  have dE := cf5 ac.1
  iterate 4 (try go_wp2_with (first | (go_at_call 80; (with_reducible refine (r09_arcs.calls aN ap _ _ ai _ _ aa _ _ ((rd_T60 aa a1).f1) a9 _ ?side1 ?side2 ?side3 ?side4 ?side5 ?side6 b1.1).mono ?_); (case side1 => exact csb aq HB); (case side2 => exact aD.1); (case side3 => exact csb ak HB); (case side4 => exact aE.1); (case side5 => exact csb aC HB); (case side6 => exact aB.1); rintro e dg ⟨rfl, hb⟩; replace ab := bbh ab hb; replace ac := bbh ac hb; replace HB := bst hb; (try clear hb))); try go_quiet (first | (go_at_call 80; (with_reducible refine (r09_arcs.calls aN ap _ _ ai _ _ aa _ _ ((rd_T60 aa a1).f1) a9 _ ?side1 ?side2 ?side3 ?side4 ?side5 ?side6 b1.1).mono ?_); (case side1 => exact csb aq HB); (case side2 => exact aD.1); (case side3 => exact csb ak HB); (case side4 => exact aE.1); (case side5 => exact csb aC HB); (case side6 => exact aB.1); rintro e dg ⟨rfl, hb⟩; replace ab := bbh ab hb; replace ac := bbh ac hb; replace HB := bst hb; (try clear hb))))
  go_ret
  exact ⟨per, pbg⟩
 replace H := bnd H
 obtain ⟨bb, cg, H⟩ := H
 (try dsimp only at H)
 replace H := ife H
 rcases H with ⟨cb, cd, H⟩ | ⟨cb, cd, H⟩
 rotate_left
 ·obtain rfl := Option.some.inj H
  have cC := ae.1
  have cO := af.1
  have dC := cf3 ab.1
  have z57 := cf5 ac.1
  iterate 4 (try go_wp2_with (first | (go_at_call 80; (with_reducible refine (r09_arcs.calls aN ap _ _ ai _ _ aa _ _ ((rd_T60 aa a1).f1) a9 _ ?side1 ?side2 ?side3 ?side4 ?side5 ?side6 b1.1).mono ?_); (case side1 => exact csb aq HB); (case side2 => exact aD.1); (case side3 => exact csb ak HB); (case side4 => exact aE.1); (case side5 => exact csb aC HB); (case side6 => exact aB.1); rintro e de ⟨rfl, hb⟩; replace ab := bbh ab hb; replace ac := bbh ac hb; replace HB := bst hb; (try clear hb); have dv := cf3 ab.1; have z60 := cf5 ac.1) | (go_at_call 80; (with_reducible refine (r09_arcs.calls aN ap _ _ ai _ _ aa _ _ ((rd_T60 aa a1).f2) bb _ ?side1 ?side2 ?side3 ?side4 ?side5 ?side6 cg.1).mono ?_); (case side1 => exact csb aq HB); (case side2 => exact aD.1); (case side3 => exact csb ak HB); (case side4 => exact aE.1); (case side5 => exact csb aG HB); (case side6 => exact aF.1); rintro e df ⟨rfl, hb⟩; replace ab := bbh ab hb; replace ac := bbh ac hb; replace HB := bst hb; (try clear hb))); try go_quiet (first | (go_at_call 80; (with_reducible refine (r09_arcs.calls aN ap _ _ ai _ _ aa _ _ ((rd_T60 aa a1).f1) a9 _ ?side1 ?side2 ?side3 ?side4 ?side5 ?side6 b1.1).mono ?_); (case side1 => exact csb aq HB); (case side2 => exact aD.1); (case side3 => exact csb ak HB); (case side4 => exact aE.1); (case side5 => exact csb aC HB); (case side6 => exact aB.1); rintro e de ⟨rfl, hb⟩; replace ab := bbh ab hb; replace ac := bbh ac hb; replace HB := bst hb; (try clear hb); have dv := cf3 ab.1; have z60 := cf5 ac.1) | (go_at_call 80; (with_reducible refine (r09_arcs.calls aN ap _ _ ai _ _ aa _ _ ((rd_T60 aa a1).f2) bb _ ?side1 ?side2 ?side3 ?side4 ?side5 ?side6 cg.1).mono ?_); (case side1 => exact csb aq HB); (case side2 => exact aD.1); (case side3 => exact csb ak HB); (case side4 => exact aE.1); (case side5 => exact csb aG HB); (case side6 => exact aF.1); rintro e df ⟨rfl, hb⟩; replace ab := bbh ab hb; replace ac := bbh ac hb; replace HB := bst hb; (try clear hb))))
  go_ret
  exact ⟨per, pbg⟩
 replace H := bnd H
 obtain ⟨bC, cq, H⟩ := H
 (try dsimp only at H)
 obtain rfl := Option.some.inj H
 have cB := ae.1
 have cN := af.1
 have dA := cf3 ab.1
 have dB := cf5 ac.1
 iterate 4 (try go_wp2_with (first | (go_at_call 80; (with_reducible refine (r09_arcs.calls aN ap _ _ ai _ _ aa _ _ ((rd_T60 aa a1).f1) a9 _ ?side1 ?side2 ?side3 ?side4 ?side5 ?side6 b1.1).mono ?_); (case side1 => exact csb aq HB); (case side2 => exact aD.1); (case side3 => exact csb ak HB); (case side4 => exact aE.1); (case side5 => exact csb aC HB); (case side6 => exact aB.1); rintro e da ⟨rfl, hb⟩; replace ab := bbh ab hb; replace ac := bbh ac hb; replace HB := bst hb; (try clear hb); have dp := cf3 ab.1; have dr := cf5 ac.1) | (go_at_call 80; (with_reducible refine (r09_arcs.calls aN ap _ _ ai _ _ aa _ _ ((rd_T60 aa a1).f2) bb _ ?side1 ?side2 ?side3 ?side4 ?side5 ?side6 cg.1).mono ?_); (case side1 => exact csb aq HB); (case side2 => exact aD.1); (case side3 => exact csb ak HB); (case side4 => exact aE.1); (case side5 => exact csb aG HB); (case side6 => exact aF.1); rintro e db ⟨rfl, hb⟩; replace ab := bbh ab hb; replace ac := bbh ac hb; replace HB := bst hb; (try clear hb); have dt := cf3 ab.1; have du := cf5 ac.1) | (go_at_call 80; (with_reducible refine (r09_arcs.calls aN ap _ _ ai _ _ aa _ _ ((rd_T60 aa a1).f3) bC _ ?side1 ?side2 ?side3 ?side4 ?side5 ?side6 cq.1).mono ?_); (case side1 => exact csb aq HB); (case side2 => exact aD.1); (case side3 => exact csb ak HB); (case side4 => exact aE.1); (case side5 => exact csb aY HB); (case side6 => exact aX.1); rintro e dc ⟨rfl, hb⟩; replace ab := bbh ab hb; replace ac := bbh ac hb; replace HB := bst hb; (try clear hb))); try go_quiet (first | (go_at_call 80; (with_reducible refine (r09_arcs.calls aN ap _ _ ai _ _ aa _ _ ((rd_T60 aa a1).f1) a9 _ ?side1 ?side2 ?side3 ?side4 ?side5 ?side6 b1.1).mono ?_); (case side1 => exact csb aq HB); (case side2 => exact aD.1); (case side3 => exact csb ak HB); (case side4 => exact aE.1); (case side5 => exact csb aC HB); (case side6 => exact aB.1); rintro e da ⟨rfl, hb⟩; replace ab := bbh ab hb; replace ac := bbh ac hb; replace HB := bst hb; (try clear hb); have dp := cf3 ab.1; have dr := cf5 ac.1) | (go_at_call 80; (with_reducible refine (r09_arcs.calls aN ap _ _ ai _ _ aa _ _ ((rd_T60 aa a1).f2) bb _ ?side1 ?side2 ?side3 ?side4 ?side5 ?side6 cg.1).mono ?_); (case side1 => exact csb aq HB); (case side2 => exact aD.1); (case side3 => exact csb ak HB); (case side4 => exact aE.1); (case side5 => exact csb aG HB); (case side6 => exact aF.1); rintro e db ⟨rfl, hb⟩; replace ab := bbh ab hb; replace ac := bbh ac hb; replace HB := bst hb; (try clear hb); have dt := cf3 ab.1; have du := cf5 ac.1) | (go_at_call 80; (with_reducible refine (r09_arcs.calls aN ap _ _ ai _ _ aa _ _ ((rd_T60 aa a1).f3) bC _ ?side1 ?side2 ?side3 ?side4 ?side5 ?side6 cq.1).mono ?_); (case side1 => exact csb aq HB); (case side2 => exact aD.1); (case side3 => exact csb ak HB); (case side4 => exact aE.1); (case side5 => exact csb aY HB); (case side6 => exact aX.1); rintro e dc ⟨rfl, hb⟩; replace ab := bbh ab hb; replace ac := bbh ac hb; replace HB := bst hb; (try clear hb))))
 go_ret
 exact ⟨per, pbg⟩

/-! ### r09_Check: function 48 -/
mutual
def r09_Check.j0 : Nat → Bool → ByteArray → List (S57) → List (S60) → Option (Int × Int)
 | 0, _, _, _, _ => none
 | k + 1, bO, aj, ag, ah => if bO = true then (some (2, 0)) else (r09_Check.l0 k 0 aj ag ah)
def r09_Check.l0 : Nat → Int → ByteArray → List (S57) → List (S60) → Option (Int × Int)
 | 0, _, _, _, _ => none
 | k + 1, x3, aj, ag, ah => if x3 < (ag.length : Int) then ((r09_place.f k aj ag ah x3).bind fun aJ => (if aJ = 0 then (r09_Check.l0 k (wrap64 (x3 + 1)) aj ag ah) else (some (aJ, x3)))) else (r09_Check.l1 k 0 aj ag ah)
def r09_Check.l1 : Nat → Int → ByteArray → List (S57) → List (S60) → Option (Int × Int)
 | 0, _, _, _, _ => none
 | k + 1, x5, aj, ag, ah => if x5 < (ah.length : Int) then ((r09_trans.f k aj ag ah x5).bind fun aK => (if aK = 0 then (r09_Check.l1 k (wrap64 (x5 + 1)) aj ag ah) else (some (aK, wrap64 ((ag.length : Int) + x5))))) else (some (0, 0))
end
def r09_Check.f (k : Nat) (ak : ByteArray) (af : List (S57)) (ai : List (S60)) : Option (Int × Int) := (r09_Name.f k ak).bind fun aW => (if aW = true then (if (af.length : Int) < 1 then (r09_Check.j0 k true ak af ai) else (if (af.length : Int) > 24 then (r09_Check.j0 k true ak af ai) else (r09_Check.j0 k (decide ((ai.length : Int) > 24)) ak af ai))) else (some (5, 0)))
theorem r09_Check.mono_l : ∀ k, M4 r09_Check.j0 k ∧ M4 r09_Check.l0 k ∧ M4 r09_Check.l1 k
 | 0 => ⟨fun _ _ _ _ r h => by simp [r09_Check.j0] at h, fun _ _ _ _ r h => by simp [r09_Check.l0] at h, fun _ _ _ _ r h => by simp [r09_Check.l1] at h⟩
 | k + 1 => by
  obtain ⟨a9, ba, bb⟩ := r09_Check.mono_l k
  refine ⟨?_, ?_, ?_⟩ <;> dsimp only [M4] <;> intros <;> (first | unfold r09_Check.j0 | unfold r09_Check.l0 | unfold r09_Check.l1) <;> repeat' first | (with_reducible first | apply a9 | apply ba | apply bb | apply r09_Name.mono | apply r09_place.mono | apply r09_trans.mono | apply lr | apply ln | apply li | refine lb ?_ fun _ => ?_)
theorem r09_Check.mono : ∀ a0 a1 a2 k, LeO (r09_Check.f k a0 a1 a2) (r09_Check.f (k + 1) a0 a1 a2) := by
 intro a0 a1 a2 k
 obtain ⟨a9, ba, bb⟩ := r09_Check.mono_l k
 unfold r09_Check.f
 repeat' first | (with_reducible first | apply a9 | apply ba | apply bb | apply r09_Name.mono | apply r09_place.mono | apply r09_trans.mono | apply lr | apply ln | apply li | refine lb ?_ fun _ => ?_)
set_option maxHeartbeats 8000000 in
set_option maxRecDepth 100000 in
theorem r09_Check.calls (k : Nat) (ak : ByteArray) (aF : Option Addr) (aH : Nat) (af : List (S57)) (aG : Option Addr) (aI : Nat) (ai : List (S60)) (r1 : Int) (r2 : Int) (w : World) (aU : Kd.C k57 w aF af.length af) (aS : af.length ≤ aH) (aV : Kd.C k60 w aG ai.length ai) (aT : ai.length ≤ aI) (h : r09_Check.f k ak af ai = some (r1, r2)) :
  Calls Try.prog 48 #[.agg #[.string ak, .slice aF af.length aH, .slice aG ai.length aI]] w fun e w' => e = .returned (.agg #[.int .i64 r1, .int .i64 r2]) ∧ Below w.heap.size w w' := by
 have bL := Try.underlying25
 have bM := Try.underlying66
 have aA := am aU
 have ay := am aS
 clear aU aS
 have aB := am aV
 have az := am aT
 clear aV aT
 have HB := am (Below.refl w.heap.size w)
 have H := h
 unfold r09_Check.f at H
 clear h
 replace H := bnd H
 obtain ⟨aW, A2, H⟩ := H
 (try dsimp only at H)
 cases aW
 ·rw [if_neg Bool.false_ne_true] at H
  simp only [Option.some.injEq, Prod.mk.injEq] at H
  obtain ⟨rfl, rfl⟩ := H
  go_enter Try.func48, Try.ntmps48
  go_wp2_with (first | ((with_reducible refine gate_dst (N := 1) rfl ?_); (try (refine gate_guard (by rfl) ?_; dsimp only)); refine box_ev ?_; intro av hg bZ hbox hb; have aa := am hbox; have aL := gwl hg; have aY := aL; replace HB := bsl hb; clear hb hbox hg) | ((with_reducible refine gate_dst (N := 2) rfl ?_); (try (refine gate_guard (by rfl) ?_; dsimp only)); refine box_ev ?_; intro ap hg aX hbox hb; have ae := am hbox; have aM := gwb hg; have aZ := aM; have ab := nlt hg aa; have ac := ngt hg aa; replace aa := bbh aa hb; replace HB := bst hb; clear hb hbox hg; have bu := ab.1; have bG := ac.1; have b6 := cf3 aa.1) | ((with_reducible refine gate_callee (f := 70) rfl ?_); refine gC 9 Try.func70 _ (r09_Name.calls k ak false _ A2.1) ?_; rintro e w' ⟨rfl, ⟨nd, rfl⟩⟩; refine ⟨_, rfl, ?_⟩; (try (rw [drewN_self aX]; generalize hq_ : World.drewN aX _ = aX; replace aa : Aside0 (aX.heap[av]? = some (.cells #[.string ak, .slice aF af.length aH, .slice aG ai.length aI] 25 (0, 0))) := ⟨by rw [← hq_]; exact (by exact pbk aa.1)⟩; replace ae : Aside0 (aX.heap[ap]? = some (.cells #[.int .i64 0, .int .i64 0] 66 (0, 0))) := ⟨by rw [← hq_]; exact (by exact pbk ae.1)⟩; replace HB : Aside0 (Below w.heap.size w aX) := ⟨by rw [← hq_]; exact pbg⟩; clear hq_)); have b7 := cf2 ae.1))
  refine bodyPost_ret (results_cell_row rfl _ _ ap 66 #[.int .i64 5, .int .i64 0] (0, 0) _ rfl (by (with_reducible repeat (first | refine blk_drewN ?_ _ | refine blk_drew ?_ | refine blk_alloc ?_ _)); exact bp2 (pbk ae.1)) Try.underlying66 rfl (by kernel_rfl)) rfl ?_
  exact ⟨per, pbg⟩
 rw [if_pos rfl] at H
 have a8 := am H
 clear H
 go_enter Try.func48, Try.ntmps48
 go_upto_region 3 with (first | ((with_reducible refine gate_dst (N := 1) rfl ?_); (try (refine gate_guard (by rfl) ?_; dsimp only)); refine box_ev ?_; intro av hg w5 hbox hb; have aa := am hbox; have aL := gwl hg; have aY := aL; replace HB := bsl hb; clear hb hbox hg) | ((with_reducible refine gate_dst (N := 2) rfl ?_); (try (refine gate_guard (by rfl) ?_; dsimp only)); refine box_ev ?_; intro ap hg w6 hbox hb; have ae := am hbox; have aM := gwb hg; have aZ := aM; have ab := nlt hg aa; have ac := ngt hg aa; replace aa := bbh aa hb; replace HB := bst hb; clear hb hbox hg; have bJ := ab.1; have bK := ac.1; have z8 := cf3 aa.1) | ((with_reducible refine gate_callee (f := 70) rfl ?_); refine gC 9 Try.func70 _ (r09_Name.calls k ak true _ A2.1) ?_; rintro e w' ⟨rfl, ⟨nd, rfl⟩⟩; refine ⟨_, rfl, ?_⟩))
 (try simp only [Act.put, List.setIfInBounds_toArray, List.set_cons_zero, List.set_cons_succ])
 go_cut [27] (fun bN wc => ∃ (kq : Nat) (aE : Bool), bN = .bool aE ∧ Aside0 (r09_Check.j0 kq aE ak af ai = some (r1, r2)) ∧ Aside0 (kq ≤ k) ∧ Aside0 (wc.heap[av]? = some (.cells #[.string ak, (.slice aF af.length aH), (.slice aG ai.length aI)] 25 (0, 0))) ∧ Aside0 (wc.heap[ap]? = some (.cells #[.int .i64 0, .int .i64 0] 66 (0, 0))) ∧ Aside0 (Below w.heap.size w wc))
 case first =>
  have H := a8.1
  clear a8
  by_cases c9 : (af.length : Int) < 1
  ·rw [if_pos c9] at H
   have au : decide ((af.length : Int) < 1) = true := decide_eq_true c9
   have aO : decide (af.length < 1) = true := decide_eq_true (by omega)
   clear c9
   (first | rw [au] | (simp only [i64_w, i32_w]; rw [au]) | skip)
   have H' := am H
   clear H
   have bj := ab.1
   have bv := ac.1
   have bc := cf3 aa.1
   go_wp2
   go_meet
   case rel => exact ⟨_, (true), prs, H', ⟨by first | omega | exact Nat.le_refl _⟩, ⟨pbk aa.1⟩, ⟨pbk ae.1⟩, ⟨pbg⟩⟩
  rw [if_neg c9] at H
  have au : decide ((af.length : Int) < 1) = false := decide_eq_false c9
  have aO : decide (af.length < 1) = false := decide_eq_false (by omega)
  clear c9
  (first | rw [au] | (simp only [i64_w, i32_w]; rw [au]) | skip)
  by_cases aN : (af.length : Int) > 24
  ·rw [if_pos aN] at H
   have aC : decide (24 < (af.length : Int)) = true := decide_eq_true aN
   have aD : decide (24 < af.length) = true := decide_eq_true (by omega)
   clear aN
   have H' := am H
   clear H
   have bk := ab.1
   have bw := ac.1
   have bd := cf3 aa.1
   go_wp2
   go_meet
   case rel => exact ⟨_, (true), prs, H', ⟨by first | omega | exact Nat.le_refl _⟩, ⟨pbk aa.1⟩, ⟨pbk ae.1⟩, ⟨pbg⟩⟩
  rw [if_neg aN] at H
  have aC : decide (24 < (af.length : Int)) = false := decide_eq_false aN
  have aD : decide (24 < af.length) = false := decide_eq_false (by omega)
  clear aN
  have H' := am H
  clear H
  have bl := ab.1
  have bx := ac.1
  have bf := cf3 aa.1
  go_wp2
  go_meet
  case rel => exact ⟨_, (decide ((ai.length : Int) > 24)), prs, H', ⟨by first | omega | exact Nat.le_refl _⟩, ⟨pbk aa.1⟩, ⟨pbk ae.1⟩, ⟨pbg⟩⟩
 clear a8
 try clear c9 au aO aN aC aD bc bd bf z8
 obtain ⟨kq, aE, rfl, HA, a6, aa, ae, HB⟩ := hcut
 obtain _ | bH := kq
 ·exact absurd HA.1 (by simp [r09_Check.j0])
 have H := HA.1
 clear HA
 simp only [r09_Check.j0] at H
 cases aE
 rotate_left
 ·rw [if_pos rfl] at H
  simp only [Option.some.injEq, Prod.mk.injEq] at H
  obtain ⟨rfl, rfl⟩ := H
  have bm := ac.1
  have bz := ab.1
  have bI := cf2 ae.1
  go_wp2
  refine bodyPost_ret (results_cell_row rfl _ _ ap 66 #[.int .i64 2, .int .i64 0] (0, 0) _ rfl (by (with_reducible repeat (first | refine blk_drewN ?_ _ | refine blk_drew ?_ | refine blk_alloc ?_ _)); exact bp2 (pbk ae.1)) Try.underlying66 rfl (by kernel_rfl)) rfl ?_
  exact ⟨per, pbg⟩
 rw [if_neg Bool.false_ne_true] at H
 have H' := am H
 clear H
 go_wp2
 go_loopg [3] bH (fun kq v3 w' => ∃ (aw : Int) (al : Int) (ao : Int), v3 = .int .i64 aw ∧ Aside0 (r09_Check.l0 kq aw ak af ai = some (r1, r2)) ∧ Aside0 (kq ≤ bH) ∧ Aside0 (w'.heap[av]? = some (.cells #[.string ak, (.slice aF af.length aH), (.slice aG ai.length aI)] 25 (0, 0))) ∧ Aside0 (w'.heap[ap]? = some (.cells #[.int .i64 al, .int .i64 ao] 66 (0, 0))) ∧ Aside0 (Below w.heap.size w w'))
 case atStart => exact ⟨(0), (0), (0), prs, H', ⟨Nat.le_refl _⟩, ⟨pbk aa.1⟩, ⟨pbk ae.1⟩, ⟨pbg⟩⟩
 clear H'
 try clear c3 c9 au aO aN aC aD bc bd bf bI z8
 obtain ⟨aw, al, ao, rfl, HA, a7, aa, ae, HB⟩ := hrel
 obtain _ | k2 := gk
 ·exact absurd HA.1 (by simp [r09_Check.l0])
 have H := HA.1
 clear HA
 simp only [r09_Check.l0] at H
 replace H := ifl H
 rcases H with ⟨aP, H⟩ | ⟨aP, H⟩
 ·replace H := bnd H
  obtain ⟨aJ, bg, H⟩ := H
  (try dsimp only at H)
  replace H := ife H
  rcases H with ⟨aQ, aR, H⟩ | ⟨aQ, aR, H⟩
  ·have H' := am H
   clear H
   have bn := ab.1
   have bA := ac.1
   have bP := cf3 aa.1
   go_wp2_with (first | ((with_reducible refine gate_callee (f := 71) rfl ?_); refine gC 38 Try.func71 _ (r09_place.calls k2 ak _ _ af _ _ ai aw aJ _ (csb aA HB) ay.1 (csb aB HB) az.1 bg.1) ?_; rintro e bV ⟨rfl, hb⟩; refine ⟨_, rfl, ?_⟩; replace aa := bbh aa hb; replace ae := bbh ae hb; replace HB := bst hb; (try clear hb)))
   go_roundg k2
   case measure => have := a6.1; have := a7.1; omega
   case rel => exact ⟨(wrap64 (aw + 1)), (al), (ao), prs, H', ⟨by have := a6.1; have := a7.1; omega⟩, ⟨pbk aa.1⟩, ⟨pbk ae.1⟩, ⟨pbg⟩⟩
  simp only [Option.some.injEq, Prod.mk.injEq] at H
  obtain ⟨rfl, rfl⟩ := H
  have bo := ab.1
  have bB := ac.1
  have bQ := cf3 aa.1
  go_wp2_with (first | ((with_reducible refine gate_callee (f := 71) rfl ?_); refine gC 38 Try.func71 _ (r09_place.calls k2 ak _ _ af _ _ ai aw aJ _ (csb aA HB) ay.1 (csb aB HB) az.1 bg.1) ?_; rintro e bW ⟨rfl, hb⟩; refine ⟨_, rfl, ?_⟩; replace aa := bbh aa hb; replace ae := bbh ae hb; replace HB := bst hb; (try clear hb); have bR := cf2 ae.1))
  refine bodyPost_ret (results_cell_row rfl _ _ ap 66 #[.int .i64 aJ, .int .i64 aw] (0, 0) _ rfl (by (with_reducible repeat (first | refine blk_drewN ?_ _ | refine blk_drew ?_ | refine blk_alloc ?_ _)); exact bp2 (pbk ae.1)) Try.underlying66 rfl (by kernel_rfl)) rfl ?_
  exact ⟨per, pbg⟩
 have H' := am H
 clear H
 have bp := ab.1
 have bC := ac.1
 have bS := cf3 aa.1
 go_wp2
 go_loopg [5] k2 (fun kq v5 w' => ∃ (ax : Int) (aq : Int) (ar : Int), v5 = .int .i64 ax ∧ Aside0 (r09_Check.l1 kq ax ak af ai = some (r1, r2)) ∧ Aside0 (kq ≤ k2) ∧ Aside0 (w'.heap[av]? = some (.cells #[.string ak, (.slice aF af.length aH), (.slice aG ai.length aI)] 25 (0, 0))) ∧ Aside0 (w'.heap[ap]? = some (.cells #[.int .i64 aq, .int .i64 ar] 66 (0, 0))) ∧ Aside0 (Below w.heap.size w w'))
 case atStart => exact ⟨(0), (al), (ao), prs, H', ⟨Nat.le_refl _⟩, ⟨pbk aa.1⟩, ⟨pbk ae.1⟩, ⟨pbg⟩⟩
 clear H'
 try clear c3 c9 au aO aN aC aD bT aP bU aQ aR bc bd bf bI bP bQ bR bS z8
 obtain ⟨ax, aq, ar, rfl, HA, bi, aa, ae, HB⟩ := hrel
 obtain _ | k3 := gk
 ·exact absurd HA.1 (by simp [r09_Check.l1])
 have H := HA.1
 clear HA
 simp only [r09_Check.l1] at H
 replace H := ifl H
 rcases H with ⟨a3, H⟩ | ⟨a3, H⟩
 rotate_left
 ·simp only [Option.some.injEq, Prod.mk.injEq] at H
  obtain ⟨rfl, rfl⟩ := H
  have bs := ab.1
  have bF := ac.1
  have b4 := cf3 aa.1
  have b5 := cf2 ae.1
  go_wp2
  refine bodyPost_ret (results_cell_row rfl _ _ ap 66 #[.int .i64 0, .int .i64 0] (0, 0) _ rfl (by (with_reducible repeat (first | refine blk_drewN ?_ _ | refine blk_drew ?_ | refine blk_alloc ?_ _)); exact bp2 (pbk ae.1)) Try.underlying66 rfl (by kernel_rfl)) rfl ?_
  exact ⟨per, pbg⟩
 replace H := bnd H
 obtain ⟨aK, bh, H⟩ := H
 (try dsimp only at H)
 replace H := ife H
 rcases H with ⟨a4, a5, H⟩ | ⟨a4, a5, H⟩
 ·have H' := am H
  clear H
  have bq := ab.1
  have bD := ac.1
  have b0 := cf3 aa.1
  go_wp2_with (first | ((with_reducible refine gate_callee (f := 72) rfl ?_); refine gC 53 Try.func72 _ (r09_trans.calls k3 ak _ _ af _ _ ai ax aK _ (csb aA HB) ay.1 (csb aB HB) az.1 bh.1) ?_; rintro e bX ⟨rfl, hb⟩; refine ⟨_, rfl, ?_⟩; replace aa := bbh aa hb; replace ae := bbh ae hb; replace HB := bst hb; (try clear hb)))
  go_roundg k3
  case measure => have := a6.1; have := a7.1; have := bi.1; omega
  case rel => exact ⟨(wrap64 (ax + 1)), (aq), (ar), prs, H', ⟨by have := a6.1; have := a7.1; have := bi.1; omega⟩, ⟨pbk aa.1⟩, ⟨pbk ae.1⟩, ⟨pbg⟩⟩
 simp only [Option.some.injEq, Prod.mk.injEq] at H
 obtain ⟨rfl, rfl⟩ := H
 have br := ab.1
 have bE := ac.1
 have b1 := cf3 aa.1
 go_wp2_with (first | ((with_reducible refine gate_callee (f := 72) rfl ?_); refine gC 53 Try.func72 _ (r09_trans.calls k3 ak _ _ af _ _ ai ax aK _ (csb aA HB) ay.1 (csb aB HB) az.1 bh.1) ?_; rintro e bY ⟨rfl, hb⟩; refine ⟨_, rfl, ?_⟩; replace aa := bbh aa hb; replace ae := bbh ae hb; replace HB := bst hb; (try clear hb); have b2 := cf3 aa.1; have b3 := cf2 ae.1))
 refine bodyPost_ret (results_cell_row rfl _ _ ap 66 #[.int .i64 aK, .int .i64 (wrap64 ((af.length : Int) + ax))] (0, 0) _ rfl (by (with_reducible repeat (first | refine blk_drewN ?_ _ | refine blk_drew ?_ | refine blk_alloc ?_ _)); exact bp2 (pbk ae.1)) Try.underlying66 rfl (by kernel_rfl)) rfl ?_
 exact ⟨per, pbg⟩

/-! ### r09_Valid: function 25 -/
def r09_Valid.f (k : Nat) (ae : ByteArray) (aa : List (S57)) (ab : List (S60)) : Option (Bool) := (r09_Check.f k ae aa ab).bind fun au => (some (au.1 == 0))
theorem r09_Valid.mono : ∀ a0 a1 a2 k, LeO (r09_Valid.f k a0 a1 a2) (r09_Valid.f (k + 1) a0 a1 a2) := by
 intro a0 a1 a2 k
 unfold r09_Valid.f
 repeat' first | (with_reducible first | apply r09_Check.mono | apply lr | apply ln | apply li | refine lb ?_ fun _ => ?_)
set_option maxHeartbeats 8000000 in
set_option maxRecDepth 100000 in
theorem r09_Valid.calls (k : Nat) (ae : ByteArray) (aj : Option Addr) (av : Nat) (aa : List (S57)) (ak : Option Addr) (aw : Nat) (ab : List (S60)) (r : Bool) (w : World) (ah : Kd.C k57 w aj aa.length aa) (af : aa.length ≤ av) (ai : Kd.C k60 w ak ab.length ab) (ag : ab.length ≤ aw) (h : r09_Valid.f k ae aa ab = some r) :
  Calls Try.prog 25 #[.agg #[.string ae, .slice aj aa.length av, .slice ak ab.length aw]] w fun e w' => e = .returned (.bool r) ∧ Below w.heap.size w w' := by
 have ax : ∀ (x0 x1 : Value) (W : World), (Instr.field 66 (.agg #[x0, x1]) 0).run Try.prog W = .ok x0 W := fun x0 x1 W => by kernel_rfl
 have aC := Try.underlying25
 have aq := am ah
 have ao := am af
 clear ah af
 have ar := am ai
 have ap := am ag
 clear ai ag
 have HB := am (Below.refl w.heap.size w)
 have H := h
 unfold r09_Valid.f at H
 clear h
 replace H := bnd H
 obtain ⟨⟨ay, az⟩, A2, H⟩ := H
 (try dsimp only at H)
 obtain rfl := Option.some.inj H
 go_enter Try.func25, Try.ntmps25
 go_wp2_with (first | ((with_reducible refine gate_dst (N := 1) rfl ?_); refine box_ev ?_; intro aB hg w3 hbox hb; have ac := am hbox; have al := gwl hg; have aA := al; replace HB := bsl hb; clear hb hbox hg; have z4 := cf3 ac.1) | ((with_reducible refine gate_callee (f := 48) rfl ?_); refine gC 4 Try.func48 _ (r09_Check.calls k ae _ _ aa _ _ ab ay az _ (csb aq HB) ao.1 (csb ar HB) ap.1 A2.1) ?_; rintro e w5 ⟨rfl, hb⟩; refine ⟨_, rfl, ?_⟩; replace ac := bbh ac hb; replace HB := bst hb; (try clear hb)))
 go_ret
 exact ⟨per, pbg⟩

end Go.Proofs.Yteknagfpiadaiaa.P
