-- LAID BY OUR PROGRAM OVER THE PRINT (xprint.py, part.py): Lean checks it.
import Derived.Test.YtnoebjmhimehcaaPx0
import Derived.Laws.RangeString
import Derived.BigRegion
import Derived.Laws.EntriesVeiled
import Derived.RegionTactic
namespace Go.Proofs.Ytnoebjmhimehcaa.P
open Go.RowKit Go.Proofs.YtnoebjmhimehcaaW.PrintWords Go.Proofs.YtnoebjmhimehcaaW.PrintLast Go.Proofs.YtnoebjmhimehcaaW.PrintMore
attribute [local go_sem] max2_int min2_int max_two min_two max_three min_three max_four min_four   -- for this text's walks alone
set_option linter.unusedVariables false
set_option linter.unusedSimpArgs false

/-! ### _YtnoebjmhimehcaaPx1: function 0 -/
theorem eqA50 (d : Nat) (w : World) (x0 y0 : Int) (x1 y1 : Int) :
  (Op.equalIn (d + 2) 50 (.agg #[.int .i64 x0, .int .i64 x1]) (.agg #[.int .i64 y0, .int .i64 y1])).run Try.prog w = .ok (x0 == y0 && (x1 == y1)) w := by
 refine eqA_of Try.underlying50 (by kernel_rfl) ?_
 refine eqf_cons (by rfl) (by go_simp; rfl) (by go_simp; rfl) (by go_simp) ?_
 exact eqf_last (by rfl) (by go_simp; rfl) (by go_simp; rfl) (by go_simp)

/-! ### r09_Small: function 10 -/
mutual
def r09_Small.j0 : Nat → Bool → ByteArray → List (S52) → List (S48) → Option (ByteArray × (List (S52)) × (List (S48)) × Bool)
 | 0, _, _, _, _ => none
 | k + 1, dx, aZ, aW, aO => if dx = true then (some ((⟨#[]⟩ : ByteArray), ([] : List (S52)), ([] : List (S48)), false)) else (r09_Small.l0 k 0 aZ aW aO)
def r09_Small.l0 : Nat → Int → ByteArray → List (S52) → List (S48) → Option (ByteArray × (List (S52)) × (List (S48)) × Bool)
 | 0, _, _, _, _ => none
 | k + 1, x4, aZ, aW, aO => if x4 < (aW.length : Int) then (if 0 ≤ x4 then (if (((rd_T52 aW x4).f0).size : Int) > 20 then (some ((⟨#[]⟩ : ByteArray), ([] : List (S52)), ([] : List (S48)), false)) else (r09_Small.l0 k (wrap64 (x4 + 1)) aZ aW aO)) else (none)) else (r09_Small.l1 k 0 aZ aW aO)
def r09_Small.l1 : Nat → Int → ByteArray → List (S52) → List (S48) → Option (ByteArray × (List (S52)) × (List (S48)) × Bool)
 | 0, _, _, _, _ => none
 | k + 1, x5, aZ, aW, aO => if x5 < (aO.length : Int) then (if 0 ≤ x5 then (if (((rd_T48 aO x5).f0).size : Int) > 20 then (some ((⟨#[]⟩ : ByteArray), ([] : List (S52)), ([] : List (S48)), false)) else (if (((rd_T48 aO x5).f1).length : Int) > 26 then (some ((⟨#[]⟩ : ByteArray), ([] : List (S52)), ([] : List (S48)), false)) else (if (((rd_T48 aO x5).f2).length : Int) > 26 then (some ((⟨#[]⟩ : ByteArray), ([] : List (S52)), ([] : List (S48)), false)) else (if (((rd_T48 aO x5).f3).length : Int) > 26 then (some ((⟨#[]⟩ : ByteArray), ([] : List (S52)), ([] : List (S48)), false)) else (r09_Small.l1 k (wrap64 (x5 + 1)) aZ aW aO))))) else (none)) else (some (aZ, aW, aO, true))
end
def r09_Small.f (k : Nat) (a4 : ByteArray) (aN : List (S52)) (ae : List (S48)) : Option (ByteArray × (List (S52)) × (List (S48)) × Bool) := if (aN.length : Int) > 26 then (r09_Small.j0 k true a4 aN ae) else (if (ae.length : Int) > 26 then (r09_Small.j0 k true a4 aN ae) else (r09_Small.j0 k (decide ((a4.size : Int) > 20)) a4 aN ae))
theorem r09_Small.mono_l : ∀ k, M4 r09_Small.j0 k ∧ M4 r09_Small.l0 k ∧ M4 r09_Small.l1 k
 | 0 => ⟨fun _ _ _ _ r h => by simp [r09_Small.j0] at h, fun _ _ _ _ r h => by simp [r09_Small.l0] at h, fun _ _ _ _ r h => by simp [r09_Small.l1] at h⟩
 | k + 1 => by
  obtain ⟨ch, ci, cj⟩ := r09_Small.mono_l k
  refine ⟨?_, ?_, ?_⟩ <;> dsimp only [M4] <;> intros <;> (first | unfold r09_Small.j0 | unfold r09_Small.l0 | unfold r09_Small.l1) <;> repeat' first | (with_reducible first | apply ch | apply ci | apply cj | apply lr | apply ln | apply li | refine lb ?_ fun _ => ?_)
theorem r09_Small.mono : ∀ a0 a1 a2 k, LeO (r09_Small.f k a0 a1 a2) (r09_Small.f (k + 1) a0 a1 a2) := by
 intro a0 a1 a2 k
 obtain ⟨ch, ci, cj⟩ := r09_Small.mono_l k
 unfold r09_Small.f
 repeat' first | (with_reducible first | apply ch | apply ci | apply cj | apply lr | apply ln | apply li | refine lb ?_ fun _ => ?_)
set_option maxHeartbeats 8000000 in
set_option maxRecDepth 100000 in
theorem r09_Small.calls (k : Nat) (a4 : ByteArray) (P0_1_ : Nat → Prop) (bo : Option Addr) (bq : Nat) (aN : List (S52)) (P0_2_ : Nat → Prop) (bp : Option Addr) (br : Nat) (ae : List (S48)) (r1 : ByteArray) (r2 : List (S52)) (r3 : List (S48)) (r4 : Bool) (w : World) (b8 : Kd.V k52 52 w w.heap.size (fun k_ => P0_1_ k_) (.slice bo aN.length bq) aN) (b9 : Kd.V k48 48 w w.heap.size (fun k_ => P0_2_ k_) (.slice bp ae.length br) ae) (h : r09_Small.f k a4 aN ae = some (r1, r2, r3, r4)) :
  Calls Try.prog 10 #[.agg #[.string a4, .slice bo aN.length bq, .slice bp ae.length br]] w fun e w' => ∃ v1_ v2_ : Value, e = .returned (.tuple #[.agg #[.string r1, v1_, v2_], .bool r4]) ∧ Kd.V k52 52 w' w.heap.size (fun k_ => ((P0_1_ k_ ∨ P0_2_ k_) ∨ w.heap.size ≤ k_)) v1_ r2 ∧ Kd.V k48 48 w' w.heap.size (fun k_ => ((P0_1_ k_ ∨ P0_2_ k_) ∨ w.heap.size ≤ k_)) v2_ r3 ∧ Below w.heap.size w w' := by
 have du := Try.underlying25
 have dv := Try.underlying48
 have bl := am (show Kd.V k52 52 w w.heap.size (fun k_ => ((P0_1_ k_ ∨ P0_2_ k_) ∨ w.heap.size ≤ k_)) (.slice bo aN.length bq) aN from Kd.V_mono b8 (fun k_ hk => .inl (.inl hk)))
 have bm := am (show Kd.V k48 48 w w.heap.size (fun k_ => ((P0_1_ k_ ∨ P0_2_ k_) ∨ w.heap.size ≤ k_)) (.slice bp ae.length br) ae from Kd.V_mono b9 (fun k_ hk => .inl (.inr hk)))
 have HB := am (Below.refl w.heap.size w)
 have H := h
 unfold r09_Small.f at H
 clear h
 have cf := am H
 clear H
 go_enter Try.func10, Try.ntmps10
 go_upto_region 1 with (first | ((with_reducible refine gate_dst (N := 1) rfl ?_); (try (refine gate_guard (by rfl) ?_; dsimp only)); refine box_ev ?_; intro a7 hg w3 hbox hb; have ab := am hbox; have bV := gwl hg; have cn := bV; replace bl := vbb bl hg hb; replace bm := vbb bm hg hb; replace HB := bsl hb; clear hb hbox hg) | ((with_reducible refine gate_dst (N := 2) rfl ?_); (try (refine gate_guard (by rfl) ?_; dsimp only)); refine box_ev (N := 2) (cs := #[.string (⟨#[]⟩ : ByteArray), .slice none 0 0, .slice none 0 0]) (t := 25) ?_; intro aP hg w4 hbox hb; have af := am hbox; have bW := gwb hg; have co := bW; have aw := nlt hg ab; have ax := ngt hg ab; replace bl := vbb bl hg hb; replace bm := vbb bm hg hb; replace ab := bbh ab hb; replace HB := bst hb; clear hb hbox hg))
 (try simp only [Act.put, List.setIfInBounds_toArray, List.set_cons_zero, List.set_cons_succ])
 go_cut [22] (fun dw wc => ∃ (kq : Nat) (bI : Bool), dw = .bool bI ∧ Aside0 (r09_Small.j0 kq bI a4 aN ae = some (r1, r2, r3, r4)) ∧ Aside0 (kq ≤ k) ∧ Aside0 (Kd.V k52 52 wc w.heap.size (fun k_ => ((P0_1_ k_ ∨ P0_2_ k_) ∨ w.heap.size ≤ k_) ∧ k_ ≠ a7 ∧ k_ ≠ aP) (.slice bo aN.length bq) aN) ∧ Aside0 (Kd.V k48 48 wc w.heap.size (fun k_ => ((P0_1_ k_ ∨ P0_2_ k_) ∨ w.heap.size ≤ k_) ∧ k_ ≠ a7 ∧ k_ ≠ aP) (.slice bp ae.length br) ae) ∧ Aside0 (wc.heap[a7]? = some (.cells #[.string a4, (.slice bo aN.length bq), (.slice bp ae.length br)] 25 (0, 0))) ∧ Aside0 (wc.heap[aP]? = some (.cells #[.string (⟨#[]⟩ : ByteArray), (.slice none 0 0), (.slice none 0 0)] 25 (0, 0))) ∧ Aside0 (Below w.heap.size w wc))
 case first =>
  have H := cf.1
  clear cf
  by_cases c5 : (aN.length : Int) > 26
  ·rw [if_pos c5] at H
   have bB : decide (26 < (aN.length : Int)) = true := decide_eq_true c5
   have bJ : decide (26 < aN.length) = true := decide_eq_true (by omega)
   clear c5
   (first | rw [bB] | (simp only [i64_w, i32_w]; rw [bB]) | skip)
   have H' := am H
   clear H
   have dn := aw.1
   have dr := ax.1
   have z7 := cf3 ab.1
   go_wp2
   go_meet
   case rel => exact ⟨_, (true), prs, H', ⟨by first | omega | exact Nat.le_refl _⟩, ⟨by (with_reducible repeat (first | apply Kd.V_alloc | apply Kd.V_drewN | apply Kd.V_drew)); exact Kd.V_mono bl.1 (fun _ hk => ⟨hk.1.1, ⟨hk.1.2, hk.2⟩⟩)⟩, ⟨by (with_reducible repeat (first | apply Kd.V_alloc | apply Kd.V_drewN | apply Kd.V_drew)); exact Kd.V_mono bm.1 (fun _ hk => ⟨hk.1.1, ⟨hk.1.2, hk.2⟩⟩)⟩, ⟨pbk ab.1⟩, ⟨pbk af.1⟩, ⟨pbg⟩⟩
  rw [if_neg c5] at H
  have bB : decide (26 < (aN.length : Int)) = false := decide_eq_false c5
  have bJ : decide (26 < aN.length) = false := decide_eq_false (by omega)
  clear c5
  (first | rw [bB] | (simp only [i64_w, i32_w]; rw [bB]) | skip)
  by_cases c8 : (ae.length : Int) > 26
  ·rw [if_pos c8] at H
   have bK : decide (26 < (ae.length : Int)) = true := decide_eq_true c8
   have bL : decide (26 < ae.length) = true := decide_eq_true (by omega)
   clear c8
   have H' := am H
   clear H
   have dp := aw.1
   have dt := ax.1
   have ck := cf3 ab.1
   go_wp2
   go_meet
   case rel => exact ⟨_, (true), prs, H', ⟨by first | omega | exact Nat.le_refl _⟩, ⟨by (with_reducible repeat (first | apply Kd.V_alloc | apply Kd.V_drewN | apply Kd.V_drew)); exact Kd.V_mono bl.1 (fun _ hk => ⟨hk.1.1, ⟨hk.1.2, hk.2⟩⟩)⟩, ⟨by (with_reducible repeat (first | apply Kd.V_alloc | apply Kd.V_drewN | apply Kd.V_drew)); exact Kd.V_mono bm.1 (fun _ hk => ⟨hk.1.1, ⟨hk.1.2, hk.2⟩⟩)⟩, ⟨pbk ab.1⟩, ⟨pbk af.1⟩, ⟨pbg⟩⟩
  rw [if_neg c8] at H
  have bK : decide (26 < (ae.length : Int)) = false := decide_eq_false c8
  have bL : decide (26 < ae.length) = false := decide_eq_false (by omega)
  clear c8
  have H' := am H
  clear H
  have cu := aw.1
  have cP := ax.1
  have cm := cf3 ab.1
  go_wp2
  go_meet
  case rel => exact ⟨_, (decide ((a4.size : Int) > 20)), prs, H', ⟨by first | omega | exact Nat.le_refl _⟩, ⟨by (with_reducible repeat (first | apply Kd.V_alloc | apply Kd.V_drewN | apply Kd.V_drew)); exact Kd.V_mono bl.1 (fun _ hk => ⟨hk.1.1, ⟨hk.1.2, hk.2⟩⟩)⟩, ⟨by (with_reducible repeat (first | apply Kd.V_alloc | apply Kd.V_drewN | apply Kd.V_drew)); exact Kd.V_mono bm.1 (fun _ hk => ⟨hk.1.1, ⟨hk.1.2, hk.2⟩⟩)⟩, ⟨pbk ab.1⟩, ⟨pbk af.1⟩, ⟨pbg⟩⟩
 clear cf
 try clear c5 bB bJ c8 bK bL ck cm z7
 obtain ⟨kq, bI, rfl, HA, cd, ac, aa, ab, af, HB⟩ := hcut
 obtain _ | dl := kq
 ·exact absurd HA.1 (by simp [r09_Small.j0])
 have H := HA.1
 clear HA
 simp only [r09_Small.j0] at H
 cases bI
 rotate_left
 ·rw [if_pos rfl] at H
  simp only [Option.some.injEq, Prod.mk.injEq] at H
  obtain ⟨rfl, rfl, rfl, rfl⟩ := H
  have cv := ax.1
  have cQ := aw.1
  have dm := cf3 af.1
  go_wp2
  refine bodyPost_ret (results_ct rfl _ _ aP 25 #[.string (⟨#[]⟩ : ByteArray), .slice none 0 0, .slice none 0 0] (0, 0) _ rfl (by (with_reducible repeat (first | refine blk_drewN ?_ _ | refine blk_drew ?_ | refine blk_alloc ?_ _)); exact bp3 (pbk af.1)) Try.underlying25 rfl (by kernel_rfl)) rfl ?_
  exact ⟨_, _, per, (Kd.V_nil _ _ _ _ _), (Kd.V_nil _ _ _ _ _), pbg⟩
 rw [if_neg Bool.false_ne_true] at H
 have H' := am H
 clear H
 go_wp2
 go_loopg [4] dl (fun kq v4 w' => ∃ (bn : Int) (a3 : ByteArray), v4 = .int .i64 bn ∧ Aside0 (r09_Small.l0 kq bn a4 aN ae = some (r1, r2, r3, r4)) ∧ Aside0 (kq ≤ dl) ∧ Aside0 (Kd.V k52 52 w' w.heap.size (fun k_ => ((P0_1_ k_ ∨ P0_2_ k_) ∨ w.heap.size ≤ k_) ∧ k_ ≠ a7 ∧ k_ ≠ aP) (.slice bo aN.length bq) aN) ∧ Aside0 (Kd.V k48 48 w' w.heap.size (fun k_ => ((P0_1_ k_ ∨ P0_2_ k_) ∨ w.heap.size ≤ k_) ∧ k_ ≠ a7 ∧ k_ ≠ aP) (.slice bp ae.length br) ae) ∧ Aside0 (w'.heap[a7]? = some (.cells #[.string a4, (.slice bo aN.length bq), (.slice bp ae.length br)] 25 (0, 0))) ∧ Aside0 (w'.heap[aP]? = some (.cells #[.string a3, (.slice none 0 0), (.slice none 0 0)] 25 (0, 0))) ∧ Aside0 (Below w.heap.size w w'))
 case atStart => exact ⟨(0), ((⟨#[]⟩ : ByteArray)), prs, H', ⟨Nat.le_refl _⟩, ⟨pkv ac.1⟩, ⟨pkv aa.1⟩, ⟨pbk ab.1⟩, ⟨pbk af.1⟩, ⟨pbg⟩⟩
 clear H'
 try clear c5 bB bJ c8 bK bL ck cm dm z7
 obtain ⟨bn, a3, rfl, HA, ce, ac, aa, ab, af, HB⟩ := hrel
 obtain _ | k2 := gk
 ·exact absurd HA.1 (by simp [r09_Small.l0])
 have H := HA.1
 clear HA
 simp only [r09_Small.l0] at H
 replace H := ifl H
 rcases H with ⟨bM, H⟩ | ⟨bM, H⟩
 ·replace H := ifp H
  obtain ⟨cg, H⟩ := H
  have bY := decide_eq_true cg
  clear cg
  by_cases bP : (((rd_T52 aN bn).f0).size : Int) > 20
  rotate_left
  ·rw [if_neg bP] at H
   have bN : decide (20 < (((rd_T52 aN bn).f0).size : Int)) = false := decide_eq_false bP
   have bO : decide (20 < ((rd_T52 aN bn).f0).size) = false := decide_eq_false (by omega)
   clear bP
   have H' := am H
   clear H
   have cx := aw.1
   have cS := ax.1
   have dA := cf3 ab.1
   obtain ⟨ca, cb, bX, bQ, bF, bG, bH⟩ := dT52 (Kd.V_reads' ac.1).2.2 bn
   cases bQ
   go_wp2
   go_roundg k2
   case measure => have := cd.1; have := ce.1; omega
   case rel => exact ⟨(wrap64 (bn + 1)), (a3), prs, H', ⟨by have := cd.1; have := ce.1; omega⟩, ⟨pkv ac.1⟩, ⟨pkv aa.1⟩, ⟨pbk ab.1⟩, ⟨pbk af.1⟩, ⟨pbg⟩⟩
  rw [if_pos bP] at H
  have bN : decide (20 < (((rd_T52 aN bn).f0).size : Int)) = true := decide_eq_true bP
  have bO : decide (20 < ((rd_T52 aN bn).f0).size) = true := decide_eq_true (by omega)
  clear bP
  simp only [Option.some.injEq, Prod.mk.injEq] at H
  obtain ⟨rfl, rfl, rfl, rfl⟩ := H
  have cw := aw.1
  have cR := ax.1
  have dy := cf3 ab.1
  obtain ⟨ca, cb, bX, bQ, bF, bG, bH⟩ := dT52 (Kd.V_reads' ac.1).2.2 bn
  cases bQ
  have dz := cf3 af.1
  go_wp2
  refine bodyPost_ret (results_ct rfl _ _ aP 25 #[.string (⟨#[]⟩ : ByteArray), .slice none 0 0, .slice none 0 0] (0, 0) _ rfl (by (with_reducible repeat (first | refine blk_drewN ?_ _ | refine blk_drew ?_ | refine blk_alloc ?_ _)); exact bp3 (pbk af.1)) Try.underlying25 rfl (by kernel_rfl)) rfl ?_
  exact ⟨_, _, per, (Kd.V_nil _ _ _ _ _), (Kd.V_nil _ _ _ _ _), pbg⟩
 have H' := am H
 clear H
 have cy := aw.1
 have cT := ax.1
 have z25 := cf3 ab.1
 go_wp2
 go_loopg [5] k2 (fun kq v5 w' => ∃ (aj : Int) (aQ : ByteArray), v5 = .int .i64 aj ∧ Aside0 (r09_Small.l1 kq aj a4 aN ae = some (r1, r2, r3, r4)) ∧ Aside0 (kq ≤ k2) ∧ Aside0 (Kd.V k52 52 w' w.heap.size (fun k_ => ((P0_1_ k_ ∨ P0_2_ k_) ∨ w.heap.size ≤ k_) ∧ k_ ≠ a7 ∧ k_ ≠ aP) (.slice bo aN.length bq) aN) ∧ Aside0 (Kd.V k48 48 w' w.heap.size (fun k_ => ((P0_1_ k_ ∨ P0_2_ k_) ∨ w.heap.size ≤ k_) ∧ k_ ≠ a7 ∧ k_ ≠ aP) (.slice bp ae.length br) ae) ∧ Aside0 (w'.heap[a7]? = some (.cells #[.string a4, (.slice bo aN.length bq), (.slice bp ae.length br)] 25 (0, 0))) ∧ Aside0 (w'.heap[aP]? = some (.cells #[.string aQ, (.slice none 0 0), (.slice none 0 0)] 25 (0, 0))) ∧ Aside0 (Below w.heap.size w w'))
 case atStart => exact ⟨(0), (a3), prs, H', ⟨Nat.le_refl _⟩, ⟨pkv ac.1⟩, ⟨pkv aa.1⟩, ⟨pbk ab.1⟩, ⟨pbk af.1⟩, ⟨pbg⟩⟩
 clear H'
 try clear c5 bB bJ c8 bK bL dB bM cg bY bP bN bO ck cm dm dy dz dA z25 z7 bF bG bH ca cb
 obtain ⟨aj, aQ, rfl, HA, cp, ac, aa, ab, af, HB⟩ := hrel
 obtain _ | k3 := gk
 ·exact absurd HA.1 (by simp [r09_Small.l1])
 have H := HA.1
 clear HA
 simp only [r09_Small.l1] at H
 replace H := ifl H
 rcases H with ⟨bZ, H⟩ | ⟨bZ, H⟩
 rotate_left
 ·simp only [Option.some.injEq, Prod.mk.injEq] at H
  obtain ⟨rfl, rfl, rfl, rfl⟩ := H
  have cO := aw.1
  have dk := ax.1
  have dV := cf3 ab.1
  have dW := cf3 af.1
  go_wp2
  refine bodyPost_ret (results_ct rfl _ _ aP 25 #[.string a4, .slice bo aN.length bq, .slice bp ae.length br] (0, 0) _ rfl (by (with_reducible repeat (first | refine blk_drewN ?_ _ | refine blk_drew ?_ | refine blk_alloc ?_ _)); exact bp3 (pbk af.1)) Try.underlying25 rfl (by kernel_rfl)) rfl ?_
  exact ⟨_, _, per, by (with_reducible repeat (first | apply Kd.V_alloc | apply Kd.V_drewN | apply Kd.V_drew)); exact Kd.V_mono (fV3 aP (Kd.V_mono ac.1 (fun k_ hk => (⟨hk, hk.2.2⟩ : _ ∧ k_ ≠ aP))) (fun _ hk => hk.2)) (fun _ hk => hk.1.1), by (with_reducible repeat (first | apply Kd.V_alloc | apply Kd.V_drewN | apply Kd.V_drew)); exact Kd.V_mono (fV3 aP (Kd.V_mono aa.1 (fun k_ hk => (⟨hk, hk.2.2⟩ : _ ∧ k_ ≠ aP))) (fun _ hk => hk.2)) (fun _ hk => hk.1.1), pbg⟩
 replace H := ifp H
 obtain ⟨cq, H⟩ := H
 have cr := decide_eq_true cq
 clear cq
 by_cases bR : (((rd_T48 ae aj).f0).size : Int) > 20
 ·rw [if_pos bR] at H
  have b0 : decide (20 < (((rd_T48 ae aj).f0).size : Int)) = true := decide_eq_true bR
  have b1 : decide (20 < ((rd_T48 ae aj).f0).size) = true := decide_eq_true (by omega)
  clear bR
  simp only [Option.some.injEq, Prod.mk.injEq] at H
  obtain ⟨rfl, rfl, rfl, rfl⟩ := H
  have cz := aw.1
  have cU := ax.1
  have dH := cf3 ab.1
  have aU : 0 ≤ (aj : Int) := dq
  have aV : aj < (ae.length : Int) := dq
  obtain ⟨bD, bs, bw, bu, bx, bv, bz, bA, bc, aR, aS, aT, bd, aI, aF, aJ, aG, aK, aH⟩ := at_T48 (Kd.V_reads' aa.1).2.2 aj aU aV
  cases bA
  obtain ⟨bE, aY, aX, aq⟩ := Kd.V_get aa.1 z48 aj aU (by first | exact aV | exact dq | (have e_ := (Kd.V_reads' aa.1).1; omega))
  obtain ⟨bf, bi, bg, bj, bh, bk, rfl, ar, al, au, ao, av, ap⟩ := k48_openF aX
  have ag := aq 1 _ rfl
  rw [add_field _ _ 1 (by omega)] at ag
  replace ag := Option.some.inj (ag.symm.trans aR)
  injection ag with hva_ hvn_ hvc_
  rw [hva_] at al
  rw [hvc_] at ar
  have az := am (show Kd.V k55 55 _ w.heap.size _ _ ((rd_T48 ae aj).f1) from Kd.V_mk ar al)
  clear hva_ hvn_ hvc_ al ar
  have ah := aq 2 _ rfl
  rw [add_field _ _ 2 (by omega)] at ah
  replace ah := Option.some.inj (ah.symm.trans aS)
  injection ah with hva_ hvn_ hvc_
  rw [hva_] at ao
  rw [hvc_] at au
  have aA := am (show Kd.V k55 55 _ w.heap.size _ _ ((rd_T48 ae aj).f2) from Kd.V_mk au ao)
  clear hva_ hvn_ hvc_ ao au
  have ai := aq 3 _ rfl
  rw [add_field _ _ 3 (by omega)] at ai
  replace ai := Option.some.inj (ai.symm.trans aT)
  injection ai with hva_ hvn_ hvc_
  rw [hva_] at ap
  rw [hvc_] at av
  have aB := am (show Kd.V k55 55 _ w.heap.size _ _ ((rd_T48 ae aj).f3) from Kd.V_mk av ap)
  clear hva_ hvn_ hvc_ ap av aq aY
  have aC := am aF
  have a9 := am aI
  clear aF aI
  have aD := am aG
  have ba := am aJ
  clear aG aJ
  have aE := am aH
  have bb := am aK
  clear aH aK
  replace aU := eq_true aU
  replace aV := eq_true aV
  go_wp2_with (first | ((with_reducible refine gate_dst (N := 6) rfl ?_); (try (refine gate_guard (by rfl) ?_; dsimp only)); refine box_ev (N := 6) (cs := #[.string (⟨#[]⟩ : ByteArray), .slice none 0 0, .slice none 0 0, .slice none 0 0, .int .i64 0]) (t := 48) ?_; intro a8 hg dC hbox hb; have a5 := am hbox; have a6 := gwb hg; have bC := a6; have ay := nlt hg ab; have aL := ngt hg ab; have ak := nlt hg af; have aM := ngt hg af; replace ac := vbb ac hg hb; replace aa := vbb aa hg hb; replace az := vbb az hg hb; replace aA := vbb aA hg hb; replace aB := vbb aB hg hb; replace ab := bbh ab hb; replace af := bbh af hb; replace aC := cbb aC hb; replace aD := cbb aD hb; replace aE := cbb aE hb; replace HB := bst hb; clear hb hbox hg; have cA := aL.1; have cV := ay.1; have cB := aM.1; have cW := ak.1; have dI := cf5 a5.1; have dJ := cf3 af.1))
  refine bodyPost_ret (results_ct rfl _ _ aP 25 #[.string (⟨#[]⟩ : ByteArray), .slice none 0 0, .slice none 0 0] (0, 0) _ rfl (by (with_reducible repeat (first | refine blk_drewN ?_ _ | refine blk_drew ?_ | refine blk_alloc ?_ _)); refine blk_put (cs := #[.string (⟨#[]⟩ : ByteArray), .slice none 0 0, .slice none 0 0]) ?_ 2 _ rfl; (with_reducible repeat (first | refine blk_drewN ?_ _ | refine blk_drew ?_ | refine blk_alloc ?_ _)); refine blk_put (cs := #[.string (⟨#[]⟩ : ByteArray), .slice none 0 0, .slice none 0 0]) ?_ 1 _ rfl; (with_reducible repeat (first | refine blk_drewN ?_ _ | refine blk_drew ?_ | refine blk_alloc ?_ _)); refine blk_put (cs := #[.string aQ, .slice none 0 0, .slice none 0 0]) ?_ 0 _ rfl; (with_reducible repeat (first | refine blk_drewN ?_ _ | refine blk_drew ?_ | refine blk_alloc ?_ _)); refine bf5 ?_ ak.1; exact pbk af.1) Try.underlying25 rfl (by kernel_rfl)) rfl ?_
  exact ⟨_, _, per, (Kd.V_nil _ _ _ _ _), (Kd.V_nil _ _ _ _ _), pbg⟩
 rw [if_neg bR] at H
 have b0 : decide (20 < (((rd_T48 ae aj).f0).size : Int)) = false := decide_eq_false bR
 have b1 : decide (20 < ((rd_T48 ae aj).f0).size) = false := decide_eq_false (by omega)
 clear bR
 by_cases bS : (((rd_T48 ae aj).f1).length : Int) > 26
 ·rw [if_pos bS] at H
  have b2 : decide (26 < (((rd_T48 ae aj).f1).length : Int)) = true := decide_eq_true bS
  have b3 : decide (26 < ((rd_T48 ae aj).f1).length) = true := decide_eq_true (by omega)
  clear bS
  simp only [Option.some.injEq, Prod.mk.injEq] at H
  obtain ⟨rfl, rfl, rfl, rfl⟩ := H
  have cC := aw.1
  have cX := ax.1
  have dK := cf3 ab.1
  have aU : 0 ≤ (aj : Int) := dq
  have aV : aj < (ae.length : Int) := dq
  obtain ⟨bD, bs, bw, bu, bx, bv, bz, bA, bc, aR, aS, aT, bd, aI, aF, aJ, aG, aK, aH⟩ := at_T48 (Kd.V_reads' aa.1).2.2 aj aU aV
  cases bA
  obtain ⟨bE, aY, aX, aq⟩ := Kd.V_get aa.1 z48 aj aU (by first | exact aV | exact dq | (have e_ := (Kd.V_reads' aa.1).1; omega))
  obtain ⟨bf, bi, bg, bj, bh, bk, rfl, ar, al, au, ao, av, ap⟩ := k48_openF aX
  have ag := aq 1 _ rfl
  rw [add_field _ _ 1 (by omega)] at ag
  replace ag := Option.some.inj (ag.symm.trans aR)
  injection ag with hva_ hvn_ hvc_
  rw [hva_] at al
  rw [hvc_] at ar
  have az := am (show Kd.V k55 55 _ w.heap.size _ _ ((rd_T48 ae aj).f1) from Kd.V_mk ar al)
  clear hva_ hvn_ hvc_ al ar
  have ah := aq 2 _ rfl
  rw [add_field _ _ 2 (by omega)] at ah
  replace ah := Option.some.inj (ah.symm.trans aS)
  injection ah with hva_ hvn_ hvc_
  rw [hva_] at ao
  rw [hvc_] at au
  have aA := am (show Kd.V k55 55 _ w.heap.size _ _ ((rd_T48 ae aj).f2) from Kd.V_mk au ao)
  clear hva_ hvn_ hvc_ ao au
  have ai := aq 3 _ rfl
  rw [add_field _ _ 3 (by omega)] at ai
  replace ai := Option.some.inj (ai.symm.trans aT)
  injection ai with hva_ hvn_ hvc_
  rw [hva_] at ap
  rw [hvc_] at av
  have aB := am (show Kd.V k55 55 _ w.heap.size _ _ ((rd_T48 ae aj).f3) from Kd.V_mk av ap)
  clear hva_ hvn_ hvc_ ap av aq aY
  have aC := am aF
  have a9 := am aI
  clear aF aI
  have aD := am aG
  have ba := am aJ
  clear aG aJ
  have aE := am aH
  have bb := am aK
  clear aH aK
  replace aU := eq_true aU
  replace aV := eq_true aV
  go_wp2_with (first | ((with_reducible refine gate_dst (N := 6) rfl ?_); (try (refine gate_guard (by rfl) ?_; dsimp only)); refine box_ev (N := 6) (cs := #[.string (⟨#[]⟩ : ByteArray), .slice none 0 0, .slice none 0 0, .slice none 0 0, .int .i64 0]) (t := 48) ?_; intro a8 hg dD hbox hb; have a5 := am hbox; have a6 := gwb hg; have bC := a6; have ay := nlt hg ab; have aL := ngt hg ab; have ak := nlt hg af; have aM := ngt hg af; replace ac := vbb ac hg hb; replace aa := vbb aa hg hb; replace az := vbb az hg hb; replace aA := vbb aA hg hb; replace aB := vbb aB hg hb; replace ab := bbh ab hb; replace af := bbh af hb; replace aC := cbb aC hb; replace aD := cbb aD hb; replace aE := cbb aE hb; replace HB := bst hb; clear hb hbox hg; have cD := aL.1; have cY := ay.1; have cE := aM.1; have cZ := ak.1; have dL := cf5 a5.1; have dM := cf3 af.1))
  refine bodyPost_ret (results_ct rfl _ _ aP 25 #[.string (⟨#[]⟩ : ByteArray), .slice none 0 0, .slice none 0 0] (0, 0) _ rfl (by (with_reducible repeat (first | refine blk_drewN ?_ _ | refine blk_drew ?_ | refine blk_alloc ?_ _)); refine blk_put (cs := #[.string (⟨#[]⟩ : ByteArray), .slice none 0 0, .slice none 0 0]) ?_ 2 _ rfl; (with_reducible repeat (first | refine blk_drewN ?_ _ | refine blk_drew ?_ | refine blk_alloc ?_ _)); refine blk_put (cs := #[.string (⟨#[]⟩ : ByteArray), .slice none 0 0, .slice none 0 0]) ?_ 1 _ rfl; (with_reducible repeat (first | refine blk_drewN ?_ _ | refine blk_drew ?_ | refine blk_alloc ?_ _)); refine blk_put (cs := #[.string aQ, .slice none 0 0, .slice none 0 0]) ?_ 0 _ rfl; (with_reducible repeat (first | refine blk_drewN ?_ _ | refine blk_drew ?_ | refine blk_alloc ?_ _)); refine bf5 ?_ ak.1; exact pbk af.1) Try.underlying25 rfl (by kernel_rfl)) rfl ?_
  exact ⟨_, _, per, (Kd.V_nil _ _ _ _ _), (Kd.V_nil _ _ _ _ _), pbg⟩
 rw [if_neg bS] at H
 have b2 : decide (26 < (((rd_T48 ae aj).f1).length : Int)) = false := decide_eq_false bS
 have b3 : decide (26 < ((rd_T48 ae aj).f1).length) = false := decide_eq_false (by omega)
 clear bS
 by_cases bT : (((rd_T48 ae aj).f2).length : Int) > 26
 ·rw [if_pos bT] at H
  have b4 : decide (26 < (((rd_T48 ae aj).f2).length : Int)) = true := decide_eq_true bT
  have b5 : decide (26 < ((rd_T48 ae aj).f2).length) = true := decide_eq_true (by omega)
  clear bT
  simp only [Option.some.injEq, Prod.mk.injEq] at H
  obtain ⟨rfl, rfl, rfl, rfl⟩ := H
  have cF := aw.1
  have da := ax.1
  have dN := cf3 ab.1
  have aU : 0 ≤ (aj : Int) := dq
  have aV : aj < (ae.length : Int) := dq
  obtain ⟨bD, bs, bw, bu, bx, bv, bz, bA, bc, aR, aS, aT, bd, aI, aF, aJ, aG, aK, aH⟩ := at_T48 (Kd.V_reads' aa.1).2.2 aj aU aV
  cases bA
  obtain ⟨bE, aY, aX, aq⟩ := Kd.V_get aa.1 z48 aj aU (by first | exact aV | exact dq | (have e_ := (Kd.V_reads' aa.1).1; omega))
  obtain ⟨bf, bi, bg, bj, bh, bk, rfl, ar, al, au, ao, av, ap⟩ := k48_openF aX
  have ag := aq 1 _ rfl
  rw [add_field _ _ 1 (by omega)] at ag
  replace ag := Option.some.inj (ag.symm.trans aR)
  injection ag with hva_ hvn_ hvc_
  rw [hva_] at al
  rw [hvc_] at ar
  have az := am (show Kd.V k55 55 _ w.heap.size _ _ ((rd_T48 ae aj).f1) from Kd.V_mk ar al)
  clear hva_ hvn_ hvc_ al ar
  have ah := aq 2 _ rfl
  rw [add_field _ _ 2 (by omega)] at ah
  replace ah := Option.some.inj (ah.symm.trans aS)
  injection ah with hva_ hvn_ hvc_
  rw [hva_] at ao
  rw [hvc_] at au
  have aA := am (show Kd.V k55 55 _ w.heap.size _ _ ((rd_T48 ae aj).f2) from Kd.V_mk au ao)
  clear hva_ hvn_ hvc_ ao au
  have ai := aq 3 _ rfl
  rw [add_field _ _ 3 (by omega)] at ai
  replace ai := Option.some.inj (ai.symm.trans aT)
  injection ai with hva_ hvn_ hvc_
  rw [hva_] at ap
  rw [hvc_] at av
  have aB := am (show Kd.V k55 55 _ w.heap.size _ _ ((rd_T48 ae aj).f3) from Kd.V_mk av ap)
  clear hva_ hvn_ hvc_ ap av aq aY
  have aC := am aF
  have a9 := am aI
  clear aF aI
  have aD := am aG
  have ba := am aJ
  clear aG aJ
  have aE := am aH
  have bb := am aK
  clear aH aK
  replace aU := eq_true aU
  replace aV := eq_true aV
  go_wp2_with (first | ((with_reducible refine gate_dst (N := 6) rfl ?_); (try (refine gate_guard (by rfl) ?_; dsimp only)); refine box_ev (N := 6) (cs := #[.string (⟨#[]⟩ : ByteArray), .slice none 0 0, .slice none 0 0, .slice none 0 0, .int .i64 0]) (t := 48) ?_; intro a8 hg dE hbox hb; have a5 := am hbox; have a6 := gwb hg; have bC := a6; have ay := nlt hg ab; have aL := ngt hg ab; have ak := nlt hg af; have aM := ngt hg af; replace ac := vbb ac hg hb; replace aa := vbb aa hg hb; replace az := vbb az hg hb; replace aA := vbb aA hg hb; replace aB := vbb aB hg hb; replace ab := bbh ab hb; replace af := bbh af hb; replace aC := cbb aC hb; replace aD := cbb aD hb; replace aE := cbb aE hb; replace HB := bst hb; clear hb hbox hg; have cG := aL.1; have db := ay.1; have cH := aM.1; have dc := ak.1; have z50 := cf5 a5.1; have dO := cf3 af.1))
  refine bodyPost_ret (results_ct rfl _ _ aP 25 #[.string (⟨#[]⟩ : ByteArray), .slice none 0 0, .slice none 0 0] (0, 0) _ rfl (by (with_reducible repeat (first | refine blk_drewN ?_ _ | refine blk_drew ?_ | refine blk_alloc ?_ _)); refine blk_put (cs := #[.string (⟨#[]⟩ : ByteArray), .slice none 0 0, .slice none 0 0]) ?_ 2 _ rfl; (with_reducible repeat (first | refine blk_drewN ?_ _ | refine blk_drew ?_ | refine blk_alloc ?_ _)); refine blk_put (cs := #[.string (⟨#[]⟩ : ByteArray), .slice none 0 0, .slice none 0 0]) ?_ 1 _ rfl; (with_reducible repeat (first | refine blk_drewN ?_ _ | refine blk_drew ?_ | refine blk_alloc ?_ _)); refine blk_put (cs := #[.string aQ, .slice none 0 0, .slice none 0 0]) ?_ 0 _ rfl; (with_reducible repeat (first | refine blk_drewN ?_ _ | refine blk_drew ?_ | refine blk_alloc ?_ _)); refine bf5 ?_ ak.1; exact pbk af.1) Try.underlying25 rfl (by kernel_rfl)) rfl ?_
  exact ⟨_, _, per, (Kd.V_nil _ _ _ _ _), (Kd.V_nil _ _ _ _ _), pbg⟩
 rw [if_neg bT] at H
 have b4 : decide (26 < (((rd_T48 ae aj).f2).length : Int)) = false := decide_eq_false bT
 have b5 : decide (26 < ((rd_T48 ae aj).f2).length) = false := decide_eq_false (by omega)
 clear bT
 by_cases bU : (((rd_T48 ae aj).f3).length : Int) > 26
 ·rw [if_pos bU] at H
  have b6 : decide (26 < (((rd_T48 ae aj).f3).length : Int)) = true := decide_eq_true bU
  have b7 : decide (26 < ((rd_T48 ae aj).f3).length) = true := decide_eq_true (by omega)
  clear bU
  simp only [Option.some.injEq, Prod.mk.injEq] at H
  obtain ⟨rfl, rfl, rfl, rfl⟩ := H
  have cI := aw.1
  have de := ax.1
  have dP := cf3 ab.1
  have aU : 0 ≤ (aj : Int) := dq
  have aV : aj < (ae.length : Int) := dq
  obtain ⟨bD, bs, bw, bu, bx, bv, bz, bA, bc, aR, aS, aT, bd, aI, aF, aJ, aG, aK, aH⟩ := at_T48 (Kd.V_reads' aa.1).2.2 aj aU aV
  cases bA
  obtain ⟨bE, aY, aX, aq⟩ := Kd.V_get aa.1 z48 aj aU (by first | exact aV | exact dq | (have e_ := (Kd.V_reads' aa.1).1; omega))
  obtain ⟨bf, bi, bg, bj, bh, bk, rfl, ar, al, au, ao, av, ap⟩ := k48_openF aX
  have ag := aq 1 _ rfl
  rw [add_field _ _ 1 (by omega)] at ag
  replace ag := Option.some.inj (ag.symm.trans aR)
  injection ag with hva_ hvn_ hvc_
  rw [hva_] at al
  rw [hvc_] at ar
  have az := am (show Kd.V k55 55 _ w.heap.size _ _ ((rd_T48 ae aj).f1) from Kd.V_mk ar al)
  clear hva_ hvn_ hvc_ al ar
  have ah := aq 2 _ rfl
  rw [add_field _ _ 2 (by omega)] at ah
  replace ah := Option.some.inj (ah.symm.trans aS)
  injection ah with hva_ hvn_ hvc_
  rw [hva_] at ao
  rw [hvc_] at au
  have aA := am (show Kd.V k55 55 _ w.heap.size _ _ ((rd_T48 ae aj).f2) from Kd.V_mk au ao)
  clear hva_ hvn_ hvc_ ao au
  have ai := aq 3 _ rfl
  rw [add_field _ _ 3 (by omega)] at ai
  replace ai := Option.some.inj (ai.symm.trans aT)
  injection ai with hva_ hvn_ hvc_
  rw [hva_] at ap
  rw [hvc_] at av
  have aB := am (show Kd.V k55 55 _ w.heap.size _ _ ((rd_T48 ae aj).f3) from Kd.V_mk av ap)
  clear hva_ hvn_ hvc_ ap av aq aY
  have aC := am aF
  have a9 := am aI
  clear aF aI
  have aD := am aG
  have ba := am aJ
  clear aG aJ
  have aE := am aH
  have bb := am aK
  clear aH aK
  replace aU := eq_true aU
  replace aV := eq_true aV
  go_wp2_with (first | ((with_reducible refine gate_dst (N := 6) rfl ?_); (try (refine gate_guard (by rfl) ?_; dsimp only)); refine box_ev (N := 6) (cs := #[.string (⟨#[]⟩ : ByteArray), .slice none 0 0, .slice none 0 0, .slice none 0 0, .int .i64 0]) (t := 48) ?_; intro a8 hg dF hbox hb; have a5 := am hbox; have a6 := gwb hg; have bC := a6; have ay := nlt hg ab; have aL := ngt hg ab; have ak := nlt hg af; have aM := ngt hg af; replace ac := vbb ac hg hb; replace aa := vbb aa hg hb; replace az := vbb az hg hb; replace aA := vbb aA hg hb; replace aB := vbb aB hg hb; replace ab := bbh ab hb; replace af := bbh af hb; replace aC := cbb aC hb; replace aD := cbb aD hb; replace aE := cbb aE hb; replace HB := bst hb; clear hb hbox hg; have cJ := aL.1; have df := ay.1; have cK := aM.1; have dg := ak.1; have dQ := cf5 a5.1; have dR := cf3 af.1))
  refine bodyPost_ret (results_ct rfl _ _ aP 25 #[.string (⟨#[]⟩ : ByteArray), .slice none 0 0, .slice none 0 0] (0, 0) _ rfl (by (with_reducible repeat (first | refine blk_drewN ?_ _ | refine blk_drew ?_ | refine blk_alloc ?_ _)); refine blk_put (cs := #[.string (⟨#[]⟩ : ByteArray), .slice none 0 0, .slice none 0 0]) ?_ 2 _ rfl; (with_reducible repeat (first | refine blk_drewN ?_ _ | refine blk_drew ?_ | refine blk_alloc ?_ _)); refine blk_put (cs := #[.string (⟨#[]⟩ : ByteArray), .slice none 0 0, .slice none 0 0]) ?_ 1 _ rfl; (with_reducible repeat (first | refine blk_drewN ?_ _ | refine blk_drew ?_ | refine blk_alloc ?_ _)); refine blk_put (cs := #[.string aQ, .slice none 0 0, .slice none 0 0]) ?_ 0 _ rfl; (with_reducible repeat (first | refine blk_drewN ?_ _ | refine blk_drew ?_ | refine blk_alloc ?_ _)); refine bf5 ?_ ak.1; exact pbk af.1) Try.underlying25 rfl (by kernel_rfl)) rfl ?_
  exact ⟨_, _, per, (Kd.V_nil _ _ _ _ _), (Kd.V_nil _ _ _ _ _), pbg⟩
 rw [if_neg bU] at H
 have b6 : decide (26 < (((rd_T48 ae aj).f3).length : Int)) = false := decide_eq_false bU
 have b7 : decide (26 < ((rd_T48 ae aj).f3).length) = false := decide_eq_false (by omega)
 clear bU
 have H' := am H
 clear H
 have cL := aw.1
 have dh := ax.1
 have dS := cf3 ab.1
 have aU : 0 ≤ (aj : Int) := dq
 have aV : aj < (ae.length : Int) := dq
 obtain ⟨bD, bs, bw, bu, bx, bv, bz, bA, bc, aR, aS, aT, bd, aI, aF, aJ, aG, aK, aH⟩ := at_T48 (Kd.V_reads' aa.1).2.2 aj aU aV
 cases bA
 obtain ⟨bE, aY, aX, aq⟩ := Kd.V_get aa.1 z48 aj aU (by first | exact aV | exact dq | (have e_ := (Kd.V_reads' aa.1).1; omega))
 obtain ⟨bf, bi, bg, bj, bh, bk, rfl, ar, al, au, ao, av, ap⟩ := k48_openF aX
 have ag := aq 1 _ rfl
 rw [add_field _ _ 1 (by omega)] at ag
 replace ag := Option.some.inj (ag.symm.trans aR)
 injection ag with hva_ hvn_ hvc_
 rw [hva_] at al
 rw [hvc_] at ar
 have az := am (show Kd.V k55 55 _ w.heap.size _ _ ((rd_T48 ae aj).f1) from Kd.V_mk ar al)
 clear hva_ hvn_ hvc_ al ar
 have ah := aq 2 _ rfl
 rw [add_field _ _ 2 (by omega)] at ah
 replace ah := Option.some.inj (ah.symm.trans aS)
 injection ah with hva_ hvn_ hvc_
 rw [hva_] at ao
 rw [hvc_] at au
 have aA := am (show Kd.V k55 55 _ w.heap.size _ _ ((rd_T48 ae aj).f2) from Kd.V_mk au ao)
 clear hva_ hvn_ hvc_ ao au
 have ai := aq 3 _ rfl
 rw [add_field _ _ 3 (by omega)] at ai
 replace ai := Option.some.inj (ai.symm.trans aT)
 injection ai with hva_ hvn_ hvc_
 rw [hva_] at ap
 rw [hvc_] at av
 have aB := am (show Kd.V k55 55 _ w.heap.size _ _ ((rd_T48 ae aj).f3) from Kd.V_mk av ap)
 clear hva_ hvn_ hvc_ ap av aq aY
 have aC := am aF
 have a9 := am aI
 clear aF aI
 have aD := am aG
 have ba := am aJ
 clear aG aJ
 have aE := am aH
 have bb := am aK
 clear aH aK
 replace aU := eq_true aU
 replace aV := eq_true aV
 go_wp2_with (first | ((with_reducible refine gate_dst (N := 6) rfl ?_); (try (refine gate_guard (by rfl) ?_; dsimp only)); refine box_ev (N := 6) (cs := #[.string (⟨#[]⟩ : ByteArray), .slice none 0 0, .slice none 0 0, .slice none 0 0, .int .i64 0]) (t := 48) ?_; intro a8 hg dG hbox hb; have a5 := am hbox; have a6 := gwb hg; have bC := a6; have ay := nlt hg ab; have aL := ngt hg ab; have ak := nlt hg af; have aM := ngt hg af; replace ac := vbb ac hg hb; replace aa := vbb aa hg hb; replace az := vbb az hg hb; replace aA := vbb aA hg hb; replace aB := vbb aB hg hb; replace ab := bbh ab hb; replace af := bbh af hb; replace aC := cbb aC hb; replace aD := cbb aD hb; replace aE := cbb aE hb; replace HB := bst hb; clear hb hbox hg; have cM := aL.1; have di := ay.1; have cN := aM.1; have dj := ak.1; have dU := cf5 a5.1))
 go_roundg k3
 case measure => have := cd.1; have := ce.1; have := cp.1; omega
 case rel => exact ⟨(wrap64 (aj + 1)), (aQ), prs, H', ⟨by have := cd.1; have := ce.1; have := cp.1; omega⟩, ⟨by (with_reducible repeat (first | apply Kd.V_alloc | apply Kd.V_drewN | apply Kd.V_drew)); exact Kd.V_mono (fV5 a8 (Kd.V_mono ac.1 (fun k_ hk => (⟨hk, hk.2⟩ : _ ∧ k_ ≠ a8))) (fun _ hk => hk.2)) (fun _ hk => ⟨hk.1.1.1, ⟨hk.1.1.2.1, hk.1.1.2.2⟩⟩)⟩, ⟨by (with_reducible repeat (first | apply Kd.V_alloc | apply Kd.V_drewN | apply Kd.V_drew)); exact Kd.V_mono (fV5 a8 (Kd.V_mono aa.1 (fun k_ hk => (⟨hk, hk.2⟩ : _ ∧ k_ ≠ a8))) (fun _ hk => hk.2)) (fun _ hk => ⟨hk.1.1.1, ⟨hk.1.1.2.1, hk.1.1.2.2⟩⟩)⟩, ⟨by (with_reducible repeat (first | refine blk_drewN ?_ _ | refine blk_drew ?_ | refine blk_alloc ?_ _)); refine bf5 ?_ ay.1; exact pbk ab.1⟩, ⟨by (with_reducible repeat (first | refine blk_drewN ?_ _ | refine blk_drew ?_ | refine blk_alloc ?_ _)); refine bf5 ?_ ak.1; exact pbk af.1⟩, ⟨pbg⟩⟩

/-! ### marking_Valid: function 75 -/
def marking_Valid.l0 : Nat → List Int → Int → Int → Option (Bool)
 | 0, _, _, _ => none
 | k + 1, x11, x12, x13 => if x13 < x12 then (if 0 ≤ x13 then (if x13 < (x11.length : Int) then (if (rd x11 x13) < 0 then (some false) else (if (rd x11 x13) > 1048576 then (some false) else (marking_Valid.l0 k x11 x12 (wrap64 (x13 + 1))))) else (none)) else (none)) else (some true)
def marking_Valid.f (k : Nat) (l0 : List Int) (a1 : Int) : Option (Bool) := if (l0.length : Int) = a1 then (marking_Valid.l0 k l0 (l0.length : Int) 0) else (some false)
theorem marking_Valid.mono_l : ∀ k, M3 marking_Valid.l0 k
 | 0 => fun _ _ _ r h => by simp [marking_Valid.l0] at h
 | k + 1 => by
  have ap := marking_Valid.mono_l k
  ·intro y0 y1 y2
   unfold marking_Valid.l0
   repeat' first | (with_reducible first | apply ap | apply lr | apply ln | apply li | refine lb ?_ fun _ => ?_)
theorem marking_Valid.mono : ∀ a0 a1 k, LeO (marking_Valid.f k a0 a1) (marking_Valid.f (k + 1) a0 a1) := by
 intro a0 a1 k
 have ap := marking_Valid.mono_l k
 unfold marking_Valid.f
 repeat' first | (with_reducible first | apply ap | apply lr | apply ln | apply li | refine lb ?_ fun _ => ?_)
set_option maxHeartbeats 8000000 in
set_option maxRecDepth 100000 in
theorem marking_Valid.calls (k : Nat) (A0 : Option Addr) (c0 : Nat) (l0 : List Int) (a1 : Int) (r : Bool) (w : World) (ar : Kd.C (Kd.int .i64) w A0 l0.length l0) (hc0 : l0.length ≤ c0) (h : marking_Valid.f k l0 a1 = some r) :
  Calls Try.prog 75 #[.slice A0 l0.length c0, .int .i64 a1] w fun e w' => e = .returned (.bool r) ∧ Drawn0 w w' := by
 have aj := am ar
 have ax := am hc0
 clear ar hc0
 have H := h
 unfold marking_Valid.f at H
 clear h
 replace H := ife H
 rcases H with ⟨af, ag, H⟩ | ⟨af, ag, H⟩
 rotate_left
 ·obtain rfl := Option.some.inj H
  go_enter Try.func75, Try.ntmps75
  go_wp2
  go_ret
  exact ⟨prs, pdr⟩
 have H' := am H
 clear H
 go_enter Try.func75, Try.ntmps75
 go_wp2
 go_loopg [13] k (fun kq aw w' => ∃ (aa : Int), aw = .int .i64 aa ∧ Aside0 (marking_Valid.l0 kq l0 (l0.length : Int) aa = some r) ∧ Aside0 (kq ≤ k) ∧ Drawn0 w w')
 case atStart => exact ⟨(0), prs, H', ⟨Nat.le_refl _⟩, pdr⟩
 clear H'
 try clear af ag
 obtain ⟨aa, rfl, HA, aq, ⟨m1, rfl⟩⟩ := hrel
 obtain _ | k1 := gk
 ·exact absurd HA.1 (by simp [marking_Valid.l0])
 have H := HA.1
 clear HA
 simp only [marking_Valid.l0] at H
 replace H := ifl H
 rcases H with ⟨ak, H⟩ | ⟨ak, H⟩
 rotate_left
 ·obtain rfl := Option.some.inj H
  go_wp2
  go_ret
  exact ⟨prs, pdr⟩
 replace H := ifp H
 obtain ⟨c5, H⟩ := H
 have au := decide_eq_true c5
 clear c5
 replace H := ifp H
 obtain ⟨c6, H⟩ := H
 have av := decide_eq_true c6
 clear c6
 replace H := ifl H
 rcases H with ⟨al, H⟩ | ⟨al, H⟩
 ·obtain rfl := Option.some.inj H
  obtain ⟨ah, ai, ae, ac, ab⟩ := dint aj.1 aa
  cases ac
  go_wp2
  go_ret
  exact ⟨prs, pdr⟩
 replace H := ifg H
 rcases H with ⟨ao, H⟩ | ⟨ao, H⟩
 ·obtain rfl := Option.some.inj H
  obtain ⟨ah, ai, ae, ac, ab⟩ := dint aj.1 aa
  cases ac
  go_wp2
  go_ret
  exact ⟨prs, pdr⟩
 have H' := am H
 clear H
 obtain ⟨ah, ai, ae, ac, ab⟩ := dint aj.1 aa
 cases ac
 go_wp2
 go_roundg k1
 case measure => have := aq.1; omega
 case rel => exact ⟨(wrap64 (aa + 1)), prs, H', ⟨by have := aq.1; omega⟩, pdr⟩

/-! ### net_checkPlace: function 61 -/
def placeE (x c : Int) : Int := if c < 0 ∨ c > 1048576 then 1 else if (x < 0 ∨ x > 1048576) ∨ (c ≠ 0 ∧ x > c) then 10 else 0
def net_checkPlace.f (ac : ByteArray) (aa : Int) (ab : Int) : Option Int := some (placeE aa ab)
theorem valid_one (x : Int) : marking_Valid.f 5 [x] 1 = some (decide (0 ≤ x) && decide (x ≤ 1048576)) := by
 have hr : rd [x] 0 = x := rfl
 have h1 : wrap64 (0 + 1) = 1 := by unfold wrap64; omega
 unfold marking_Valid.f
 rw [if_pos (by simp)]
 simp only [marking_Valid.l0, List.length_cons, List.length_nil, hr, h1]
 by_cases c1 : x < 0
 ·simp [c1]; omega
 ·by_cases c2 : x > 1048576
  ·simp [c1, c2]
  ·simp [c1, c2]; omega
theorem C_one {w : World} {b t : Nat} {x : Int} (h : w.heap[b]? = some (.cells #[.int .i64 x] t (0, 0))) : Kd.C (Kd.int .i64) w (some ⟨b, 0, none⟩) 1 [x] := by
 refine ⟨rfl, by decide, fun _ => ⟨_, rfl, fun j p hj => ⟨[.int .i64 x], rfl, ?_, fun i u hu => ?_⟩⟩⟩
 ·cases j with
  | zero => cases hj; exact rfl
  | succ j => cases hj
 ·cases j with
  | succ j => cases hj
  | zero =>
   cases i with
   | zero => cases hu; exact (blk_cell h 0).trans rfl
   | succ i => cases hu
set_option maxHeartbeats 2000000 in
set_option maxRecDepth 100000 in
theorem net_checkPlace.calls (ac : ByteArray) (aa : Int) (ab : Int) (r : Int) (w : World) (h : net_checkPlace.f ac aa ab = some r) :
  Calls Try.prog 61 #[.agg #[.string ac, .int .i64 aa, .int .i64 ab]] w fun e w' => e = .returned (.int .i64 r) ∧ Below w.heap.size w w' := by
 have hr : placeE aa ab = r := Option.some.inj h
 clear h
 have HR := Aside0.mk hr
 clear hr
 have hb0 : (w.alloc (.cells #[.string ac, .int .i64 aa, .int .i64 ab] 52)).heap[w.heap.size]? = some (.cells #[.string ac, .int .i64 aa, .int .i64 ab] 52 (0, 0)) := alloc_new _ _
 have ai := Aside0.mk hb0
 have c0 := blk_cell hb0 1
 have c1 := blk_cell hb0 2
 have c0' : (w.alloc (.cells #[.string ac, .int .i64 aa, .int .i64 ab] 52)).cell? ⟨w.heap.size, 1, none⟩ = some (.int .i64 aa) := c0.trans rfl
 have c1' : (w.alloc (.cells #[.string ac, .int .i64 aa, .int .i64 ab] 52)).cell? ⟨w.heap.size, 2, none⟩ = some (.int .i64 ab) := c1.trans rfl
 clear hb0 c0 c1
 have hu := Try.underlying52
 have aj : (w.alloc (.cells #[.string ac, .int .i64 aa, .int .i64 ab] 52)).heap.size = w.heap.size + 1 := by simp
 have ag := Aside0.mk (show Below w.heap.size w (w.alloc (.cells #[.string ac, .int .i64 aa, .int .i64 ab] 52)) from below_alloc (Below.refl _ _) _)
 have bad (b1 b2 : Bool) (d1b : decide (ab < 0) = b1) (d2b : decide (1048576 < ab) = b2) (hor : (b1 || b2) = true) :
   Calls Try.prog 61 #[.agg #[.string ac, .int .i64 aa, .int .i64 ab]] w fun e w' => e = .returned (.int .i64 r) ∧ Below w.heap.size w w' := by
  have ae := Aside0.mk (HR.out.symm.trans (show placeE aa ab = 1 by
   unfold placeE
   rw [if_pos]
   rcases Bool.or_eq_true _ _ ▸ hor with h | h
   ·rw [h] at d1b; exact .inl (of_decide_eq_true d1b)
   ·rw [h] at d2b; exact .inr (of_decide_eq_true d2b)))
  cases b1 with
  | true =>
   clear d2b hor
   go_enter Try.func61, Try.ntmps61
   go_wp2
   go_ret
   have e_ := ae.out
   subst e_
   exact ⟨rfl, ag.out⟩
  | false =>
   cases b2 with
   | false => cases hor
   | true =>
    clear hor
    go_enter Try.func61, Try.ntmps61
    go_wp2
    go_ret
    have e_ := ae.out
    subst e_
    exact ⟨rfl, ag.out⟩
 cases d1b : decide (ab < 0) with
 | true => exact bad _ _ d1b rfl rfl
 | false =>
 cases d2b : decide (1048576 < ab) with
 | true => exact bad _ _ d1b d2b rfl
 | false =>
  clear bad
  have ah := Aside0.mk (show Kd.C (Kd.int .i64) ((w.alloc (.cells #[.string ac, .int .i64 aa, .int .i64 ab] 52)).alloc (.cells #[.int .i64 aa] 3)) (some ⟨w.heap.size + 1, 0, none⟩) 1 [aa] by rw [← aj]; exact C_one (alloc_new _ _))
  clear aj
  have d1 := of_decide_eq_false d1b
  have d2 := of_decide_eq_false d2b
  have hpe : placeE aa ab = if (aa < 0 ∨ aa > 1048576) ∨ (ab ≠ 0 ∧ aa > ab) then 10 else 0 := by unfold placeE; rw [if_neg (fun h => h.elim d1 d2)]
  have ae := Aside0.mk (HR.out.symm.trans hpe)
  clear hpe d1 d2 HR
  cases d3b : (decide (0 ≤ aa) && decide (aa ≤ 1048576)) with
  | false =>
   have af := Aside0.mk (ae.out.trans (if_pos (.inl (by
    rw [Bool.and_eq_false_iff] at d3b
    exact d3b.imp (fun h => by have := of_decide_eq_false h; omega) (fun h => by have := of_decide_eq_false h; omega)))))
   have HV := Aside0.mk ((valid_one aa).trans (congrArg some d3b))
   clear d3b ae
   go_enter Try.func61, Try.ntmps61
   go_wp2_with (first | (go_at_call 75; refine (marking_Valid.calls 5 _ _ [aa] _ _ _ ah.out (Nat.le_refl 1) HV.out).mono ?_; rintro e w' ⟨rfl, ⟨n, rfl⟩⟩))
   go_ret
   have e_ := af.out
   subst e_
   exact ⟨rfl, pw_below_drewN (below_alloc ag.out _) _⟩
  | true =>
   have HV := Aside0.mk ((valid_one aa).trans (congrArg some d3b))
   have d3 : ¬ (aa < 0 ∨ aa > 1048576) := by
    rw [Bool.and_eq_true] at d3b
    have h1 := of_decide_eq_true d3b.1
    have h2 := of_decide_eq_true d3b.2
    omega
   have D3 := Aside0.mk d3
   clear d3b d3
   cases d4b : (ab == 0) with
   | true =>
    have d4c : (ab != 0) = false := by rw [bne, d4b]; rfl
    have af := Aside0.mk (ae.out.trans (if_neg (fun h => h.elim D3.out (fun h => h.1 (beq_iff_eq.1 d4b)))))
    clear ae
    go_enter Try.func61, Try.ntmps61
    go_wp2_with (first | (go_at_call 75; refine (marking_Valid.calls 5 _ _ [aa] _ _ _ ah.out (Nat.le_refl 1) HV.out).mono ?_; rintro e w' ⟨rfl, ⟨n, rfl⟩⟩))
    go_ret
    have e_ := af.out
    subst e_
    exact ⟨rfl, pw_below_drewN (below_alloc ag.out _) _⟩
   | false =>
    have d4c : (ab != 0) = true := by rw [bne, d4b]; rfl
    have c0d : ∀ n, (((w.alloc (.cells #[.string ac, .int .i64 aa, .int .i64 ab] 52)).alloc (.cells #[.int .i64 aa] 3)).drewN n).cell? ⟨w.heap.size, 1, none⟩ = some (.int .i64 aa) := fun n => (blk_cell (blk_below ai.out (pw_below_drewN (below_alloc (Below.refl _ _) _) n)) 1).trans rfl
    have c1d : ∀ n, (((w.alloc (.cells #[.string ac, .int .i64 aa, .int .i64 ab] 52)).alloc (.cells #[.int .i64 aa] 3)).drewN n).cell? ⟨w.heap.size, 2, none⟩ = some (.int .i64 ab) := fun n => (blk_cell (blk_below ai.out (pw_below_drewN (below_alloc (Below.refl _ _) _) n)) 2).trans rfl
    cases d5b : decide (ab < aa) with
    | true =>
     have af := Aside0.mk (ae.out.trans (if_pos (.inr ⟨beq_eq_false_iff_ne.1 d4b, of_decide_eq_true d5b⟩)))
     clear ae
     go_enter Try.func61, Try.ntmps61
     go_wp2_with (first | (go_at_call 75; refine (marking_Valid.calls 5 _ _ [aa] _ _ _ ah.out (Nat.le_refl 1) HV.out).mono ?_; rintro e w' ⟨rfl, ⟨n, rfl⟩⟩))
     go_ret
     have e_ := af.out
     subst e_
     exact ⟨rfl, pw_below_drewN (below_alloc ag.out _) _⟩
    | false =>
     have af := Aside0.mk (ae.out.trans (if_neg (fun h => h.elim D3.out (fun h => of_decide_eq_false d5b h.2))))
     clear ae
     go_enter Try.func61, Try.ntmps61
     go_wp2_with (first | (go_at_call 75; refine (marking_Valid.calls 5 _ _ [aa] _ _ _ ah.out (Nat.le_refl 1) HV.out).mono ?_; rintro e w' ⟨rfl, ⟨n, rfl⟩⟩))
     go_ret
     have e_ := af.out
     subst e_
     exact ⟨rfl, pw_below_drewN (below_alloc ag.out _) _⟩

/-! ### net_checkArcs: function 76 -/
mutual
def net_checkArcs.l0 : Nat → List (S55) → Int → List (S55) → Int → Int → Option (Int)
 | 0, _, _, _, _, _ => none
 | k + 1, x0, x1, x7, x8, x9 => if x9 < x8 then (if 0 ≤ x9 then (if x9 < (x7.length : Int) then (if ((rd_T55 x7 x9).f0) < 0 then (net_checkArcs.j1 k x0 x1 x9 x7 x8 x9 true ((rd_T55 x7 x9).f0) ((rd_T55 x7 x9).f1)) else (net_checkArcs.j1 k x0 x1 x9 x7 x8 x9 (decide (((rd_T55 x7 x9).f0) ≥ x1)) ((rd_T55 x7 x9).f0) ((rd_T55 x7 x9).f1))) else (none)) else (none)) else (some 0)
def net_checkArcs.j1 : Nat → List (S55) → Int → Int → List (S55) → Int → Int → Bool → Int → Int → Option (Int)
 | 0, _, _, _, _, _, _, _, _, _ => none
 | k + 1, x0, x1, x5, x7, x8, x9, x14, ae, ac => if x14 = true then (some 7) else (if x5 > 0 then (if 0 ≤ (wrap64 (x5 - 1)) then (if (wrap64 (x5 - 1)) < (x0.length : Int) then (net_checkArcs.j2 k x0 x1 x7 x8 x9 (decide (((rd_T55 x0 (wrap64 (x5 - 1))).f0) ≥ ae)) ae ac) else (none)) else (none)) else (net_checkArcs.j2 k x0 x1 x7 x8 x9 false ae ac))
def net_checkArcs.j2 : Nat → List (S55) → Int → List (S55) → Int → Int → Bool → Int → Int → Option (Int)
 | 0, _, _, _, _, _, _, _, _ => none
 | k + 1, x0, x1, x7, x8, x9, a6, ae, ac => if a6 = true then (some 8) else (if ac < 1 then (some 9) else (if ac > 99 then (some 9) else (net_checkArcs.l0 k x0 x1 x7 x8 (wrap64 (x9 + 1)))))
end
def net_checkArcs.f (k : Nat) (l0 : List (S55)) (a1 : Int) : Option (Int) := net_checkArcs.l0 k l0 a1 l0 (l0.length : Int) 0
theorem net_checkArcs.mono_l : ∀ k, M5 net_checkArcs.l0 k ∧ M9 net_checkArcs.j1 k ∧ M8 net_checkArcs.j2 k
 | 0 => ⟨fun _ _ _ _ _ r h => by simp [net_checkArcs.l0] at h, fun _ _ _ _ _ _ _ _ _ r h => by simp [net_checkArcs.j1] at h, fun _ _ _ _ _ _ _ _ r h => by simp [net_checkArcs.j2] at h⟩
 | k + 1 => by
  obtain ⟨aQ, aR, aS⟩ := net_checkArcs.mono_l k
  refine ⟨?_, ?_, ?_⟩ <;> dsimp only [M5, M8, M9] <;> intros <;> (first | unfold net_checkArcs.l0 | unfold net_checkArcs.j1 | unfold net_checkArcs.j2) <;> repeat' first | (with_reducible first | apply aQ | apply aR | apply aS | apply lr | apply ln | apply li | refine lb ?_ fun _ => ?_)
theorem net_checkArcs.mono : ∀ a0 a1 k, LeO (net_checkArcs.f k a0 a1) (net_checkArcs.f (k + 1) a0 a1) := by
 intro a0 a1 k
 obtain ⟨aQ, aR, aS⟩ := net_checkArcs.mono_l k
 unfold net_checkArcs.f
 repeat' first | (with_reducible first | apply aQ | apply aR | apply aS | apply lr | apply ln | apply li | refine lb ?_ fun _ => ?_)
set_option maxHeartbeats 8000000 in
set_option maxRecDepth 100000 in
theorem net_checkArcs.calls (k : Nat) (A0 : Option Addr) (c0 : Nat) (l0 : List (S55)) (a1 : Int) (r : Int) (w : World) (aX : Kd.C k55 w A0 l0.length l0) (hc0 : l0.length ≤ c0) (h : net_checkArcs.f k l0 a1 = some r) :
  Calls Try.prog 76 #[.slice A0 l0.length c0, .int .i64 a1] w fun e w' => e = .returned (.int .i64 r) ∧ Below w.heap.size w w' := by
 have a3 := Try.underlying55
 have aW := am aX
 have a8 := am hc0
 clear aX hc0
 have HB := am (Below.refl w.heap.size w)
 have H := h
 unfold net_checkArcs.f at H
 clear h
 have H' := am H
 clear H
 go_enter Try.func76, Try.ntmps76
 go_wp2
 repeat (go_quiet (fail); try go_wp2)
 go_loopg [9] k (fun kq v9 w' => ∃ (ab : Int), v9 = .int .i64 ab ∧ Aside0 (net_checkArcs.l0 kq l0 a1 l0 (l0.length : Int) ab = some r) ∧ Aside0 (kq ≤ k) ∧ Aside0 (Below w.heap.size w w'))
 case atStart => exact ⟨(0), prs, H', ⟨Nat.le_refl _⟩, ⟨pbg⟩⟩
 clear H'
 obtain ⟨ab, rfl, HA, ay, HB⟩ := hrel
 obtain _ | k1 := gk
 ·exact absurd HA.1 (by simp [net_checkArcs.l0])
 have H := HA.1
 clear HA
 simp only [net_checkArcs.l0] at H
 replace H := ifl H
 rcases H with ⟨ax, H⟩ | ⟨ax, H⟩
 rotate_left
 ·obtain rfl := Option.some.inj H
  go_wp2
  repeat (go_quiet (fail); try go_wp2)
  go_ret
  exact ⟨per, pbg⟩
 replace H := ifp H
 obtain ⟨c4, H⟩ := H
 have aG := decide_eq_true c4
 clear c4
 replace H := ifp H
 obtain ⟨c5, H⟩ := H
 have aH := decide_eq_true c5
 clear c5
 have aL := am H
 clear H
 obtain ⟨aI, aJ, aA, aO, al, ao⟩ := bT55 aW.1 HB.1 ab
 cases aO
 go_upto_region 4 with (first | ((with_reducible refine gate_dst (N := 6) rfl ?_); refine box_ev ?_; intro aj hg w7 hbox hb; have aa := am hbox; have ah := gwl hg; have av := ah; replace HB := bsl hb; clear hb hbox hg; have z8 := cf2 aa.1))
 repeat (go_quiet (first | ((with_reducible refine gate_dst (N := 6) rfl ?_); refine box_ev ?_; intro aj hg w7 hbox hb; have aa := am hbox; have ah := gwl hg; have av := ah; replace HB := bsl hb; clear hb hbox hg; have z8 := cf2 aa.1)); go_upto_region 4 with (first | ((with_reducible refine gate_dst (N := 6) rfl ?_); refine box_ev ?_; intro aj hg w7 hbox hb; have aa := am hbox; have ah := gwl hg; have av := ah; replace HB := bsl hb; clear hb hbox hg; have z8 := cf2 aa.1)))
 (try simp only [Act.put, List.setIfInBounds_toArray, List.set_cons_zero, List.set_cons_succ])
 go_cut [14] (fun a4 wc => ∃ (kq : Nat) (ap : Bool), a4 = .bool ap ∧ Aside0 (net_checkArcs.j1 kq l0 a1 ab l0 (l0.length : Int) ab ap ((rd_T55 l0 ab).f0) ((rd_T55 l0 ab).f1) = some r) ∧ Aside0 (kq ≤ k1) ∧ Aside0 (wc.heap[aj]? = some (.cells #[.int .i64 ((rd_T55 l0 ab).f0), .int .i64 ((rd_T55 l0 ab).f1)] 55 (0, 0))) ∧ Aside0 (Below w.heap.size w wc))
 case first =>
  have H := aL.1
  clear aL
  replace H := ifl H
  rcases H with ⟨ai, H⟩ | ⟨ai, H⟩
  ·(first | rw [ai] | (simp only [i64_w, i32_w]; rw [ai]) | skip)
   have H' := am H
   clear H
   have aZ := cf2 aa.1
   go_wp2
   repeat (go_quiet (fail); try go_wp2)
   go_meet
   case rel => exact ⟨_, (true), prs, H', ⟨by have := ay.1; first | omega | exact Nat.le_refl _⟩, ⟨by (with_reducible repeat (first | refine blk_drewN ?_ _ | refine blk_drew ?_ | refine blk_alloc ?_ _)); exact bp2 (pbk aa.1)⟩, ⟨pbg⟩⟩
  (first | rw [ai] | (simp only [i64_w, i32_w]; rw [ai]) | skip)
  have H' := am H
  clear H
  have a2 := cf2 aa.1
  go_wp2
  repeat (go_quiet (fail); try go_wp2)
  go_meet
  case rel => exact ⟨_, (decide (((rd_T55 l0 ab).f0) ≥ a1)), prs, H', ⟨by have := ay.1; first | omega | exact Nat.le_refl _⟩, ⟨by (with_reducible repeat (first | refine blk_drewN ?_ _ | refine blk_drew ?_ | refine blk_alloc ?_ _)); exact bp2 (pbk aa.1)⟩, ⟨pbg⟩⟩
 clear aL
 try clear ax c4 aG c5 aH c9 ai aZ a2 z8 al ao aI aJ
 obtain ⟨kq, ap, rfl, HA, aK, aa, HB⟩ := hcut
 obtain _ | aY := kq
 ·exact absurd HA.1 (by simp [net_checkArcs.j1])
 have H := HA.1
 clear HA
 simp only [net_checkArcs.j1] at H
 cases ap
 rotate_left
 ·rw [if_pos rfl] at H
  obtain rfl := Option.some.inj H
  go_wp2
  repeat (go_quiet (fail); try go_wp2)
  go_ret
  exact ⟨per, pbg⟩
 rw [if_neg Bool.false_ne_true] at H
 have aw := am H
 clear H
 go_upto_region 6 with (fail)
 repeat (go_quiet (fail); go_upto_region 6 with (fail))
 go_cut [24] (fun a5 wc => ∃ (kq : Nat) (ag : Bool), a5 = .bool ag ∧ Aside0 (net_checkArcs.j2 kq l0 a1 l0 (l0.length : Int) ab ag ((rd_T55 l0 ab).f0) ((rd_T55 l0 ab).f1) = some r) ∧ Aside0 (kq ≤ aY) ∧ Aside0 (wc.heap[aj]? = some (.cells #[.int .i64 ((rd_T55 l0 ab).f0), .int .i64 ((rd_T55 l0 ab).f1)] 55 (0, 0))) ∧ Aside0 (Below w.heap.size w wc))
 case first =>
  have H := aw.1
  clear aw
  replace H := ifg H
  rcases H with ⟨af, H⟩ | ⟨af, H⟩
  rotate_left
  ·(first | rw [af] | (simp only [i64_w, i32_w]; rw [af]) | skip)
   have H' := am H
   clear H
   go_wp2
   repeat (go_quiet (fail); try go_wp2)
   go_meet
   case rel => exact ⟨_, (false), prs, H', ⟨by have := ay.1; have := aK.1; first | omega | exact Nat.le_refl _⟩, ⟨pbk aa.1⟩, ⟨pbg⟩⟩
  (first | rw [af] | (simp only [i64_w, i32_w]; rw [af]) | skip)
  obtain ⟨aq, ak⟩ : ∃ j_ : Int, (wrap64 (ab - 1)) = j_ := ⟨_, rfl⟩
  replace H : (if 0 ≤ (aq) then (if (aq) < (l0.length : Int) then (net_checkArcs.j2 aY l0 a1 l0 (l0.length : Int) ab (decide (((rd_T55 l0 (aq)).f0) ≥ ((rd_T55 l0 ab).f0))) ((rd_T55 l0 ab).f0) ((rd_T55 l0 ab).f1)) else (none)) else (none)) = some r := by first | (rw [ak] at H; exact H) | (simp only [ak] at H ⊢; exact H)
  have hji15w : (IntKind.i64.wrap (ab - 1)) = aq := (i64_w _).trans ak
  replace H := ifp H
  obtain ⟨aM, H⟩ := H
  have aC := decide_eq_true aM
  clear aM
  replace H := ifp H
  obtain ⟨aN, H⟩ := H
  have aD := decide_eq_true aN
  clear aN
  have H' := am H
  clear H
  obtain ⟨aU, aV, aB, aP, ar, au⟩ := bT55 aW.1 HB.1 (aq)
  obtain rfl : aA = aB := (by injection aP)
  have a7 := cf2 aa.1
  go_wp2
  repeat (go_quiet (fail); try go_wp2)
  go_meet
  case rel => exact ⟨_, (decide (((rd_T55 l0 (aq)).f0) ≥ ((rd_T55 l0 ab).f0))), (by first | rfl | (simp; done) | (simp only [← ak] <;> (first | rfl | simp)) | (simp [*]; done)), H', ⟨by have := ay.1; have := aK.1; first | omega | exact Nat.le_refl _⟩, ⟨pbk aa.1⟩, ⟨pbg⟩⟩
 clear aw
 try clear c3 ax c4 aG c5 aH c9 ai a9 af aM aC aN aD aZ a2 a7 z8 al ao ar au aI aU aJ aV
 obtain ⟨kq, ag, rfl, HA, az, aa, HB⟩ := hcut
 obtain _ | aT := kq
 ·exact absurd HA.1 (by simp [net_checkArcs.j2])
 have H := HA.1
 clear HA
 simp only [net_checkArcs.j2] at H
 cases ag
 rotate_left
 ·rw [if_pos rfl] at H
  obtain rfl := Option.some.inj H
  go_wp2
  repeat (go_quiet (fail); try go_wp2)
  go_ret
  exact ⟨per, pbg⟩
 rw [if_neg Bool.false_ne_true] at H
 replace H := ifl H
 rcases H with ⟨aE, H⟩ | ⟨aE, H⟩
 ·obtain rfl := Option.some.inj H
  have ba := cf2 aa.1
  go_wp2
  repeat (go_quiet (fail); try go_wp2)
  go_ret
  exact ⟨per, pbg⟩
 replace H := ifg H
 rcases H with ⟨aF, H⟩ | ⟨aF, H⟩
 ·obtain rfl := Option.some.inj H
  have bb := cf2 aa.1
  go_wp2
  repeat (go_quiet (fail); try go_wp2)
  go_ret
  exact ⟨per, pbg⟩
 have H' := am H
 clear H
 have bc := cf2 aa.1
 go_wp2
 repeat (go_quiet (fail); try go_wp2)
 go_roundg aT
 case measure => have := ay.1; have := aK.1; have := az.1; omega
 case rel => exact ⟨(wrap64 (ab + 1)), prs, H', ⟨by have := ay.1; have := aK.1; have := az.1; omega⟩, ⟨pbg⟩⟩

/-! ### net_checkTrans: function 62 -/
mutual
def net_checkTrans.j0 : Nat → Int → Bool → ByteArray → List (S55) → List (S55) → List (S55) → Int → Option (Int)
 | 0, _, _, _, _, _, _, _ => none
 | k + 1, x1, x15, bn, aY, aZ, a6, bo => if x15 = true then (some 1) else ((some (([aY, aZ, a6] : List (List (S55))) : List (List (S55)))).bind fun aq => (net_checkTrans.l0 k x1 aq (aq.length : Int) 0))
def net_checkTrans.l0 : Nat → Int → List (List (S55)) → Int → Int → Option (Int)
 | 0, _, _, _, _ => none
 | k + 1, x1, bv, bF, bm => if bm < bF then (if 0 ≤ bm then (if bm < (bv.length : Int) then ((net_checkArcs.f k (rd_L4 bv bm) x1).bind fun aT => (if aT = 0 then (net_checkTrans.l0 k x1 bv bF (wrap64 (bm + 1))) else (some aT))) else (none)) else (none)) else (some 0)
end
def net_checkTrans.f (k : Nat) (aG : ByteArray) (aj : List (S55)) (ak : List (S55)) (al : List (S55)) (ax : Int) (a1 : Int) : Option (Int) := if ax < 0 then (net_checkTrans.j0 k a1 true aG aj ak al ax) else (net_checkTrans.j0 k a1 (decide (ax > 9)) aG aj ak al ax)
theorem net_checkTrans.mono_l : ∀ k, M7 net_checkTrans.j0 k ∧ M4 net_checkTrans.l0 k
 | 0 => ⟨fun _ _ _ _ _ _ _ r h => by simp [net_checkTrans.j0] at h, fun _ _ _ _ r h => by simp [net_checkTrans.l0] at h⟩
 | k + 1 => by
  obtain ⟨br, bs⟩ := net_checkTrans.mono_l k
  refine ⟨?_, ?_⟩ <;> dsimp only [M4, M7] <;> intros <;> (first | unfold net_checkTrans.j0 | unfold net_checkTrans.l0) <;> repeat' first | (with_reducible first | apply br | apply bs | apply net_checkArcs.mono | apply lr | apply ln | apply li | refine lb ?_ fun _ => ?_)
theorem net_checkTrans.mono : ∀ a0 a1 a2 a3 a4 a5 k, LeO (net_checkTrans.f k a0 a1 a2 a3 a4 a5) (net_checkTrans.f (k + 1) a0 a1 a2 a3 a4 a5) := by
 intro a0 a1 a2 a3 a4 a5 k
 obtain ⟨br, bs⟩ := net_checkTrans.mono_l k
 unfold net_checkTrans.f
 repeat' first | (with_reducible first | apply br | apply bs | apply net_checkArcs.mono | apply lr | apply ln | apply li | refine lb ?_ fun _ => ?_)
set_option maxHeartbeats 8000000 in
set_option maxRecDepth 100000 in
theorem net_checkTrans.calls (k : Nat) (aG : ByteArray) (P0_1_ : Nat → Prop) (az : Option Addr) (aC : Nat) (aj : List (S55)) (P0_2_ : Nat → Prop) (aA : Option Addr) (aD : Nat) (ak : List (S55)) (P0_3_ : Nat → Prop) (aB : Option Addr) (aE : Nat) (al : List (S55)) (ax : Int) (a1 : Int) (r : Int) (w : World) (bj : Kd.V k55 55 w w.heap.size (fun k_ => P0_1_ k_) (.slice az aj.length aC) aj) (bk : Kd.V k55 55 w w.heap.size (fun k_ => P0_2_ k_) (.slice aA ak.length aD) ak) (bl : Kd.V k55 55 w w.heap.size (fun k_ => P0_3_ k_) (.slice aB al.length aE) al) (h : net_checkTrans.f k aG aj ak al ax a1 = some r) :
  Calls Try.prog 62 #[.agg #[.string aG, .slice az aj.length aC, .slice aA ak.length aD, .slice aB al.length aE, .int .i64 ax], .int .i64 a1] w fun e w' => e = .returned (.int .i64 r) ∧ Below w.heap.size w w' := by
 have bG := Try.underlying48
 have aO := am (show Kd.V k55 55 w w.heap.size (fun k_ => ((P0_1_ k_ ∨ P0_2_ k_ ∨ P0_3_ k_) ∨ w.heap.size ≤ k_)) (.slice az aj.length aC) aj from Kd.V_mono bj (fun k_ hk => .inl (.inl hk)))
 have aP := am (show Kd.V k55 55 w w.heap.size (fun k_ => ((P0_1_ k_ ∨ P0_2_ k_ ∨ P0_3_ k_) ∨ w.heap.size ≤ k_)) (.slice aA ak.length aD) ak from Kd.V_mono bk (fun k_ hk => .inl (.inr (.inl hk))))
 have aQ := am (show Kd.V k55 55 w w.heap.size (fun k_ => ((P0_1_ k_ ∨ P0_2_ k_ ∨ P0_3_ k_) ∨ w.heap.size ≤ k_)) (.slice aB al.length aE) al from Kd.V_mono bl (fun k_ hk => .inl (.inr (.inr hk))))
 have HB := am (Below.refl w.heap.size w)
 have H := h
 unfold net_checkTrans.f at H
 clear h
 have bp := am H
 clear H
 go_enter Try.func62, Try.ntmps62
 go_upto_region 1 with (first | ((with_reducible refine gate_dst (N := 2) rfl ?_); refine box_ev ?_; intro ae hg w4 hbox hb; have af := am hbox; have bc := gwl hg; have bx := bc; replace aO := vbb aO hg hb; replace aP := vbb aP hg hb; replace aQ := vbb aQ hg hb; replace HB := bsl hb; clear hb hbox hg))
 (try simp only [Act.put, List.setIfInBounds_toArray, List.set_cons_zero, List.set_cons_succ])
 go_cut [15] (fun bI wc => ∃ (kq : Nat) (aR : Bool), bI = .bool aR ∧ Aside0 (net_checkTrans.j0 kq a1 aR aG aj ak al ax = some r) ∧ Aside0 (kq ≤ k) ∧ Aside0 (Kd.V k55 55 wc w.heap.size (fun k_ => ((P0_1_ k_ ∨ P0_2_ k_ ∨ P0_3_ k_) ∨ w.heap.size ≤ k_) ∧ k_ ≠ ae) (.slice az aj.length aC) aj) ∧ Aside0 (Kd.V k55 55 wc w.heap.size (fun k_ => ((P0_1_ k_ ∨ P0_2_ k_ ∨ P0_3_ k_) ∨ w.heap.size ≤ k_) ∧ k_ ≠ ae) (.slice aA ak.length aD) ak) ∧ Aside0 (Kd.V k55 55 wc w.heap.size (fun k_ => ((P0_1_ k_ ∨ P0_2_ k_ ∨ P0_3_ k_) ∨ w.heap.size ≤ k_) ∧ k_ ≠ ae) (.slice aB al.length aE) al) ∧ Aside0 (wc.heap[ae]? = some (.cells #[.string aG, (.slice az aj.length aC), (.slice aA ak.length aD), (.slice aB al.length aE), .int .i64 ax] 48 (0, 0))) ∧ Aside0 (Below w.heap.size w wc))
 case first =>
  have H := bp.1
  clear bp
  replace H := ifl H
  rcases H with ⟨aL, H⟩ | ⟨aL, H⟩
  ·(first | rw [aL] | (simp only [i64_w, i32_w]; rw [aL]) | skip)
   have H' := am H
   clear H
   have z6 := cf5 af.1
   go_wp2
   go_meet
   case rel => exact ⟨_, (true), prs, H', ⟨by first | omega | exact Nat.le_refl _⟩, ⟨pkv aO.1⟩, ⟨pkv aP.1⟩, ⟨pkv aQ.1⟩, ⟨pbk af.1⟩, ⟨pbg⟩⟩
  (first | rw [aL] | (simp only [i64_w, i32_w]; rw [aL]) | skip)
  have H' := am H
  clear H
  have z7 := cf5 af.1
  go_wp2
  go_meet
  case rel => exact ⟨_, (decide (ax > 9)), prs, H', ⟨by first | omega | exact Nat.le_refl _⟩, ⟨pkv aO.1⟩, ⟨pkv aP.1⟩, ⟨pkv aQ.1⟩, ⟨pbk af.1⟩, ⟨pbg⟩⟩
 clear bp
 try clear c5 aL z6 z7
 obtain ⟨kq, aR, rfl, HA, bz, aa, ab, ac, af, HB⟩ := hcut
 obtain _ | bu := kq
 ·exact absurd HA.1 (by simp [net_checkTrans.j0])
 have H := HA.1
 clear HA
 simp only [net_checkTrans.j0] at H
 cases aR
 rotate_left
 ·rw [if_pos rfl] at H
  obtain rfl := Option.some.inj H
  go_wp2
  go_ret
  exact ⟨per, pbg⟩
 rw [if_neg Bool.false_ne_true] at H
 obtain ⟨aq, aS⟩ : ∃ y_ : List (List (S55)), y_ = (([aj, ak, al] : List (List (S55)))) := ⟨_, rfl⟩
 replace H : (net_checkTrans.l0 bu a1 aq (aq.length : Int) 0) = some r := hrp aS H
 have a8 := am aS
 clear aS
 have H' := am H
 clear H
 have z9 := cf5 af.1
 go_wp2_with (first | ((with_reducible refine gate_dst (N := 22) rfl ?_); refine Kd.N_lit (Kd.slice 55 k55) _ 46 ?hg (N' := 22) ?hd (xs := ([aj, ak, al] : List (List (S55)))) (inner := [.slice az aj.length aC, .slice aA ak.length aD, .slice aB al.length aE]) (ok := (fun k_ => ((P0_1_ k_ ∨ P0_2_ k_ ∨ P0_3_ k_) ∨ w.heap.size ≤ k_) ∧ k_ ≠ ae)) (okp := (fun k_ => ((P0_1_ k_ ∨ P0_2_ k_ ∨ P0_3_ k_) ∨ w.heap.size ≤ k_) ∧ k_ ≠ ae)) ?hr ?hp (fun _ hk => hk) ((show ∀ k_, wc.heap.size ≤ k_ → (fun k_ => ((P0_1_ k_ ∨ P0_2_ k_ ∨ P0_3_ k_) ∨ w.heap.size ≤ k_) ∧ k_ ≠ ae) k_ from fun k_ hk => ⟨(.inr (Nat.le_trans (below_size pbg) hk)), Kd.freshB (g := ae) (o := .cells #[.string aG, .slice az aj.length aC, .slice aA ak.length aD, .slice aB al.length aE, .int .i64 ax] 48 (0, 0)) (by exact pbk af.1) k_ hk⟩) _ (Nat.le_refl _)) (Below.refl _ _) (Nat.le_refl _) (by simp) ?_; (case hd => rfl); (case hg => rfl); (case hr => first | (go_simp; done) | (go_simp; rfl)); (case hp => exact (Reps.one (show Kd.FK (Kd.slice 55 k55) _ _ aj [.slice az aj.length aC] from (Kd.FK_slice_mk (Kd.V_reads' (Kd.V_mono (ok' := (fun k_ => ((P0_1_ k_ ∨ P0_2_ k_ ∨ P0_3_ k_) ∨ w.heap.size ≤ k_) ∧ k_ ≠ ae)) (aa.1) (fun k_ hk => ⟨hk.1, hk.2⟩))).2.1 (Kd.V_F (Kd.V_mono (ok' := (fun k_ => ((P0_1_ k_ ∨ P0_2_ k_ ∨ P0_3_ k_) ∨ w.heap.size ≤ k_) ∧ k_ ≠ ae)) (aa.1) (fun k_ hk => ⟨hk.1, hk.2⟩))))) (Reps.one (show Kd.FK (Kd.slice 55 k55) _ _ ak [.slice aA ak.length aD] from (Kd.FK_slice_mk (Kd.V_reads' (Kd.V_mono (ok' := (fun k_ => ((P0_1_ k_ ∨ P0_2_ k_ ∨ P0_3_ k_) ∨ w.heap.size ≤ k_) ∧ k_ ≠ ae)) (ab.1) (fun k_ hk => ⟨hk.1, hk.2⟩))).2.1 (Kd.V_F (Kd.V_mono (ok' := (fun k_ => ((P0_1_ k_ ∨ P0_2_ k_ ∨ P0_3_ k_) ∨ w.heap.size ≤ k_) ∧ k_ ≠ ae)) (ab.1) (fun k_ hk => ⟨hk.1, hk.2⟩))))) (Reps.one (show Kd.FK (Kd.slice 55 k55) _ _ al [.slice aB al.length aE] from (Kd.FK_slice_mk (Kd.V_reads' (Kd.V_mono (ok' := (fun k_ => ((P0_1_ k_ ∨ P0_2_ k_ ∨ P0_3_ k_) ∨ w.heap.size ≤ k_) ∧ k_ ≠ ae)) (ac.1) (fun k_ hk => ⟨hk.1, hk.2⟩))).2.1 (Kd.V_F (Kd.V_mono (ok' := (fun k_ => ((P0_1_ k_ ∨ P0_2_ k_ ∨ P0_3_ k_) ∨ w.heap.size ≤ k_) ∧ k_ ≠ ae)) (ac.1) (fun k_ hk => ⟨hk.1, hk.2⟩))))) (Reps.none _ _))))); intro bH bK aK hb hg_ hnew_; clear hg_ hnew_; (first | rw [← a8.1] at aK | (simp only [Int.reduceToNat] at aK; rw [← a8.1] at aK)); have a7 := am (Kd.N_lower aK (below_size pbg)); replace aa := am (Kd.V_elder' (pkv aa.1) (Kd.N_base aK) hb); replace ab := am (Kd.V_elder' (pkv ab.1) (Kd.N_base aK) hb); replace ac := am (Kd.V_elder' (pkv ac.1) (Kd.N_base aK) hb); replace af := bbh af hb; replace HB := bst hb; clear hb aK; obtain ⟨aU, aV, bq⟩ := Kd.N_slice a7.1; subst bq))
 go_loopg [24] bu (fun kq bJ w' => ∃ (ag : Int), bJ = .int .i64 ag ∧ Aside0 (net_checkTrans.l0 kq a1 aq (aq.length : Int) ag = some r) ∧ Aside0 (kq ≤ bu) ∧ Aside0 (Kd.N (Kd.slice 55 k55) 46 w' w.heap.size (fun k_ => ((P0_1_ k_ ∨ P0_2_ k_ ∨ P0_3_ k_) ∨ w.heap.size ≤ k_) ∧ k_ ≠ ae) (.slice aU aq.length aV) aq) ∧ Aside0 (Kd.V k55 55 w' w.heap.size (fun k_ => ((P0_1_ k_ ∨ P0_2_ k_ ∨ P0_3_ k_) ∨ w.heap.size ≤ k_) ∧ some k_ ≠ ((.slice aU aq.length aV) : Value).ownBlock ∧ k_ ≠ ae) (.slice az aj.length aC) aj) ∧ Aside0 (Kd.V k55 55 w' w.heap.size (fun k_ => ((P0_1_ k_ ∨ P0_2_ k_ ∨ P0_3_ k_) ∨ w.heap.size ≤ k_) ∧ some k_ ≠ ((.slice aU aq.length aV) : Value).ownBlock ∧ k_ ≠ ae) (.slice aA ak.length aD) ak) ∧ Aside0 (Kd.V k55 55 w' w.heap.size (fun k_ => ((P0_1_ k_ ∨ P0_2_ k_ ∨ P0_3_ k_) ∨ w.heap.size ≤ k_) ∧ some k_ ≠ ((.slice aU aq.length aV) : Value).ownBlock ∧ k_ ≠ ae) (.slice aB al.length aE) al) ∧ Aside0 (w'.heap[ae]? = some (.cells #[.string aG, (.slice az aj.length aC), (.slice aA ak.length aD), (.slice aB al.length aE), .int .i64 ax] 48 (0, 0))) ∧ Aside0 (Below w.heap.size w w'))
 case atStart => exact ⟨(0), prs, H', ⟨Nat.le_refl _⟩, ⟨pkn a7.1⟩, ⟨by (with_reducible repeat (first | apply Kd.V_alloc | apply Kd.V_drewN | apply Kd.V_drew)); exact Kd.V_mono aa.1 (fun _ hk => ⟨hk.1.1, ⟨hk.2, hk.1.2⟩⟩)⟩, ⟨by (with_reducible repeat (first | apply Kd.V_alloc | apply Kd.V_drewN | apply Kd.V_drew)); exact Kd.V_mono ab.1 (fun _ hk => ⟨hk.1.1, ⟨hk.2, hk.1.2⟩⟩)⟩, ⟨by (with_reducible repeat (first | apply Kd.V_alloc | apply Kd.V_drewN | apply Kd.V_drew)); exact Kd.V_mono ac.1 (fun _ hk => ⟨hk.1.1, ⟨hk.2, hk.1.2⟩⟩)⟩, ⟨pbk af.1⟩, ⟨pbg⟩⟩
 clear H'
 try clear c5 aL z6 z7 z9
 obtain ⟨ag, rfl, HA, bA, ar, aa, ab, ac, af, HB⟩ := hrel
 obtain _ | k2 := gk
 ·exact absurd HA.1 (by simp [net_checkTrans.l0])
 have H := HA.1
 clear HA
 simp only [net_checkTrans.l0] at H
 replace H := ifl H
 rcases H with ⟨bf, H⟩ | ⟨bf, H⟩
 rotate_left
 ·obtain rfl := Option.some.inj H
  go_wp2
  go_ret
  exact ⟨per, pbg⟩
 replace H := ifp H
 obtain ⟨bB, H⟩ := H
 have bC := decide_eq_true bB
 clear bB
 replace H := ifp H
 obtain ⟨bD, H⟩ := H
 have bE := decide_eq_true bD
 clear bD
 replace H := bnd H
 obtain ⟨aT, bw, H⟩ := H
 (try dsimp only at H)
 replace H := ife H
 rcases H with ⟨bg, bh, H⟩ | ⟨bg, bh, H⟩
 rotate_left
 ·obtain rfl := Option.some.inj H
  have aI : 0 ≤ (ag : Int) := dq
  have aJ : ag < (aq.length : Int) := dq
  obtain ⟨bd, a9, ba, bb, aH, aw, av⟩ := at_L4 (Kd.N_reads' ar.1).2.2 ag aI aJ
  cases bb
  obtain ⟨bi, aN, aM, ay⟩ := Kd.N_get ar.1 [] ag aI (by first | exact aJ | exact dq | (have e_ := (Kd.N_reads' ar.1).1; omega))
  obtain ⟨aW, aX, rfl, ap, ao⟩ := Kd.FK_slice_open aM
  have ai := ay 0 _ rfl
  rw [Nat.add_zero, show ((Kd.slice 55 k55)).sz = 1 from rfl, Nat.mul_one] at ai
  replace ai := Option.some.inj (ai.symm.trans aH)
  injection ai with hva_ hvn_ hvc_
  rw [hva_] at ao
  rw [hvc_] at ap
  have au := am (show Kd.V k55 55 _ w.heap.size _ _ (rd_L4 aq ag) from Kd.V_mk ap ao)
  clear hva_ hvn_ hvc_ ao ap ay aN
  have ah := am av
  have aF := am aw
  clear av aw
  replace aI := eq_true aI
  replace aJ := eq_true aJ
  go_wp2_with (first | ((with_reducible refine gate_callee (f := 76) rfl ?_); refine gC 30 Try.func76 _ (net_checkArcs.calls k2 _ _ (rd_L4 aq ag) a1 aT _ ?side1 ?side2 bw.1) ?_; (case side1 => repeat (first | exact (by repeat (first | (with_reducible exact ah.1) | (with_reducible refine Kd.C_alloc ?_ _) | (with_reducible refine Kd.C_drewN ?_ _) | (with_reducible refine Kd.C_drew ?_) | exact ah.1)) | (with_reducible refine Kd.C_alloc ?_ _) | (with_reducible refine Kd.C_drewN ?_ _) | (with_reducible refine Kd.C_drew ?_))); (case side2 => exact aF.1); rintro e bM ⟨rfl, hb⟩; refine ⟨_, rfl, ?_⟩; replace ar := nbw ar hb; replace aa := vbw aa hb; replace ab := vbw ab hb; replace ac := vbw ac hb; replace au := vbw au hb; replace af := bbh af hb; replace ah := cbb ah hb; replace HB := bst hb; (try clear hb)))
  go_ret
  exact ⟨per, pbg⟩
 have H' := am H
 clear H
 have aI : 0 ≤ (ag : Int) := dq
 have aJ : ag < (aq.length : Int) := dq
 obtain ⟨bd, a9, ba, bb, aH, aw, av⟩ := at_L4 (Kd.N_reads' ar.1).2.2 ag aI aJ
 cases bb
 obtain ⟨bi, aN, aM, ay⟩ := Kd.N_get ar.1 [] ag aI (by first | exact aJ | exact dq | (have e_ := (Kd.N_reads' ar.1).1; omega))
 obtain ⟨aW, aX, rfl, ap, ao⟩ := Kd.FK_slice_open aM
 have ai := ay 0 _ rfl
 rw [Nat.add_zero, show ((Kd.slice 55 k55)).sz = 1 from rfl, Nat.mul_one] at ai
 replace ai := Option.some.inj (ai.symm.trans aH)
 injection ai with hva_ hvn_ hvc_
 rw [hva_] at ao
 rw [hvc_] at ap
 have au := am (show Kd.V k55 55 _ w.heap.size _ _ (rd_L4 aq ag) from Kd.V_mk ap ao)
 clear hva_ hvn_ hvc_ ao ap ay aN
 have ah := am av
 have aF := am aw
 clear av aw
 replace aI := eq_true aI
 replace aJ := eq_true aJ
 go_wp2_with (first | ((with_reducible refine gate_callee (f := 76) rfl ?_); refine gC 30 Try.func76 _ (net_checkArcs.calls k2 _ _ (rd_L4 aq ag) a1 aT _ ?side1 ?side2 bw.1) ?_; (case side1 => repeat (first | exact (by repeat (first | (with_reducible exact ah.1) | (with_reducible refine Kd.C_alloc ?_ _) | (with_reducible refine Kd.C_drewN ?_ _) | (with_reducible refine Kd.C_drew ?_) | exact ah.1)) | (with_reducible refine Kd.C_alloc ?_ _) | (with_reducible refine Kd.C_drewN ?_ _) | (with_reducible refine Kd.C_drew ?_))); (case side2 => exact aF.1); rintro e bL ⟨rfl, hb⟩; refine ⟨_, rfl, ?_⟩; replace ar := nbw ar hb; replace aa := vbw aa hb; replace ab := vbw ab hb; replace ac := vbw ac hb; replace au := vbw au hb; replace af := bbh af hb; replace ah := cbb ah hb; replace HB := bst hb; (try clear hb)))
 go_roundg k2
 case measure => have := bz.1; have := bA.1; omega
 case rel => exact ⟨(wrap64 (ag + 1)), prs, H', ⟨by have := bz.1; have := bA.1; omega⟩, ⟨pkn ar.1⟩, ⟨pkv aa.1⟩, ⟨pkv ab.1⟩, ⟨pkv ac.1⟩, ⟨pbk af.1⟩, ⟨pbg⟩⟩

/-! ### net_weight: function 71 -/
def net_weight.l0 : Nat → Int → List (S55) → Int → Int → Option (Int)
 | 0, _, _, _, _ => none
 | k + 1, x1, x7, x8, x9 => if x9 < x8 then (if 0 ≤ x9 then (if x9 < (x7.length : Int) then (if ((rd_T55 x7 x9).f0) = x1 then (some ((rd_T55 x7 x9).f1)) else (net_weight.l0 k x1 x7 x8 (wrap64 (x9 + 1)))) else (none)) else (none)) else (some 0)
def net_weight.f (k : Nat) (l0 : List (S55)) (a1 : Int) : Option (Int) := net_weight.l0 k a1 l0 (l0.length : Int) 0
theorem net_weight.mono_l : ∀ k, M4 net_weight.l0 k
 | 0 => fun _ _ _ _ r h => by simp [net_weight.l0] at h
 | k + 1 => by
  have ap := net_weight.mono_l k
  ·intro y0 y1 y2 y3
   unfold net_weight.l0
   repeat' first | (with_reducible first | apply ap | apply lr | apply ln | apply li | refine lb ?_ fun _ => ?_)
theorem net_weight.mono : ∀ a0 a1 k, LeO (net_weight.f k a0 a1) (net_weight.f (k + 1) a0 a1) := by
 intro a0 a1 k
 have ap := net_weight.mono_l k
 unfold net_weight.f
 repeat' first | (with_reducible first | apply ap | apply lr | apply ln | apply li | refine lb ?_ fun _ => ?_)
set_option maxHeartbeats 8000000 in
set_option maxRecDepth 100000 in
theorem net_weight.calls (k : Nat) (A0 : Option Addr) (c0 : Nat) (l0 : List (S55)) (a1 : Int) (r : Int) (w : World) (aw : Kd.C k55 w A0 l0.length l0) (hc0 : l0.length ≤ c0) (h : net_weight.f k l0 a1 = some r) :
  Calls Try.prog 71 #[.slice A0 l0.length c0, .int .i64 a1] w fun e w' => e = .returned (.int .i64 r) ∧ Below w.heap.size w w' := by
 have az := Try.underlying55
 have av := am aw
 have aA := am hc0
 clear aw hc0
 have HB := am (Below.refl w.heap.size w)
 have H := h
 unfold net_weight.f at H
 clear h
 have H' := am H
 clear H
 go_enter Try.func71, Try.ntmps71
 go_wp2
 go_loopg [9] k (fun kq v9 w' => ∃ (aa : Int), v9 = .int .i64 aa ∧ Aside0 (net_weight.l0 kq a1 l0 (l0.length : Int) aa = some r) ∧ Aside0 (kq ≤ k) ∧ Aside0 (Below w.heap.size w w'))
 case atStart => exact ⟨(0), prs, H', ⟨Nat.le_refl _⟩, ⟨pbg⟩⟩
 clear H'
 obtain ⟨aa, rfl, HA, au, HB⟩ := hrel
 obtain _ | k1 := gk
 ·exact absurd HA.1 (by simp [net_weight.l0])
 have H := HA.1
 clear HA
 simp only [net_weight.l0] at H
 replace H := ifl H
 rcases H with ⟨ak, H⟩ | ⟨ak, H⟩
 rotate_left
 ·obtain rfl := Option.some.inj H
  go_wp2
  go_ret
  exact ⟨per, pbg⟩
 replace H := ifp H
 obtain ⟨c4, H⟩ := H
 have ax := decide_eq_true c4
 clear c4
 replace H := ifp H
 obtain ⟨c5, H⟩ := H
 have ay := decide_eq_true c5
 clear c5
 replace H := ife H
 rcases H with ⟨al, ao, H⟩ | ⟨al, ao, H⟩
 ·obtain rfl := Option.some.inj H
  obtain ⟨aq, ar, ai, ag, ae, af⟩ := bT55 av.1 HB.1 aa
  cases ag
  go_wp2_with (first | ((with_reducible refine gate_dst (N := 6) rfl ?_); refine box_ev ?_; intro aj hg w7 hbox hb; have ab := am hbox; have ac := gwl hg; have ah := ac; replace HB := bsl hb; clear hb hbox hg; have z8 := cf2 ab.1))
  go_ret
  exact ⟨per, pbg⟩
 have H' := am H
 clear H
 obtain ⟨aq, ar, ai, ag, ae, af⟩ := bT55 av.1 HB.1 aa
 cases ag
 go_wp2_with (first | ((with_reducible refine gate_dst (N := 6) rfl ?_); refine box_ev ?_; intro aj hg w9 hbox hb; have ab := am hbox; have ac := gwl hg; have ah := ac; replace HB := bsl hb; clear hb hbox hg; have aB := cf2 ab.1))
 go_roundg k1
 case measure => have := au.1; omega
 case rel => exact ⟨(wrap64 (aa + 1)), prs, H', ⟨by have := au.1; omega⟩, ⟨pbg⟩⟩

/-! ### digraph_inside: function 73 -/
def digraph_inside.f (l0 : List (List Int)) (a1 : Int) : Option (Bool) := if a1 ≥ 0 then (some (decide (a1 < (l0.length : Int)))) else (some false)
set_option maxHeartbeats 8000000 in
set_option maxRecDepth 100000 in
theorem digraph_inside.calls (A0 : Option Addr) (c0 : Nat) (l0 : List (List Int)) (a1 : Int) (r : Bool) (w : World) (ab : Kd.C (Kd.slice 3 (Kd.int .i64)) w A0 l0.length l0) (hc0 : l0.length ≤ c0) (h : digraph_inside.f l0 a1 = some r) :
  Calls Try.prog 73 #[.slice A0 l0.length c0, .int .i64 a1] w fun e w' => e = .returned (.bool r) ∧ Drawn0 w w' := by
 have ae := am ab
 have ac := am hc0
 clear ab hc0
 have H := h
 unfold digraph_inside.f at H
 clear h
 replace H := ifh H
 rcases H with ⟨aa, H⟩ | ⟨aa, H⟩
 ·obtain rfl := Option.some.inj H
  go_enter Try.func73, Try.ntmps73
  go_wp2
  go_ret
  exact ⟨prs, pdr⟩
 obtain rfl := Option.some.inj H
 go_enter Try.func73, Try.ntmps73
 go_wp2
 go_ret
 exact ⟨prs, pdr⟩

/-! ### digraph_Reach: function 63 -/
structure VInv (w0 w : World) (Bg Bo Bt : Nat) (A0 : Option Addr) (c0 : Nat) (g : List (List Int)) (out : List Bool) (todo : List Int) : Prop where
 hg : w.heap[Bg]? = some (.cells #[.slice A0 g.length c0] 72 (0, 0))
 o : ∃ vo, w.heap[Bo]? = some (.cells #[vo] 63 (0, 0)) ∧ Kd.R Kd.bool 4 w w0.heap.size (fun _ => True) vo out
 t : ∃ vt, w.heap[Bt]? = some (.cells #[vt] 39 (0, 0)) ∧ Kd.R (Kd.int .i64) 3 w w0.heap.size (fun _ => True) vt todo
 B : Below w0.heap.size w0 w
 bo : w0.heap.size ≤ Bo
 bt : w0.heap.size ≤ Bt
 len : out.length = g.length

theorem VInv.below {w0 w w1 : World} {Bg Bo Bt : Nat} {A0 : Option Addr} {c0 : Nat} {g : List (List Int)} {out : List Bool} {todo : List Int} (h : VInv w0 w Bg Bo Bt A0 c0 g out todo) (hb : Below w.heap.size w w1) : VInv w0 w1 Bg Bo Bt A0 c0 g out todo := by
 obtain ⟨hg, ⟨vo, h1, h2⟩, ⟨vt, h3, h4⟩, B, bo, bt, len⟩ := h
 exact ⟨blk_below hg hb, ⟨vo, blk_below h1 hb, Kd.R_below h2 hb⟩, ⟨vt, blk_below h3 hb, Kd.R_below h4 hb⟩, B.trans (hb.mono B.size), bo, bt, len⟩
theorem VInv.put {w0 w : World} {Bg Bo Bt : Nat} {A0 : Option Addr} {c0 : Nat} {g : List (List Int)} {out : List Bool} {todo : List Int} (h : VInv w0 w Bg Bo Bt A0 c0 g out todo) {go co : Nat} {cells : Array Value} (hO : Kd.R Kd.bool 4 w w0.heap.size (fun _ => True) (.slice (some ⟨go, 0, none⟩) out.length co) out)
  (ho : w.heap[Bo]? = some (.cells #[.slice (some ⟨go, 0, none⟩) out.length co] 63 (0, 0))) (hgo : w.heap[go]? = some (.cells cells 4 (0, 0))) (hb : w0.heap.size ≤ go) (v : Int) (x : Bool) : VInv w0 (w.setCell ⟨go, v.toNat, none⟩ (.bool x)) Bg Bo Bt A0 c0 g (out.set v.toNat x) todo := by
 obtain ⟨hg, _, ⟨vt, h3, h4⟩, B, bo, bt, len⟩ := h
 refine ⟨blk_over hg (blk_apart hg hgo (by decide)) _, ⟨_, blk_over ho (blk_apart ho hgo (by decide)) _, (Kd.R_putg hO v x).1⟩, ⟨vt, blk_over h3 (blk_apart h3 hgo (by decide)) _, Kd.R_set h4 hgo (by decide) _ _⟩, below_set B hb, bo, bt, by rw [List.length_set]; exact len⟩
theorem VInv.push {w0 W w1 : World} {Bg Bo Bt : Nat} {A0 : Option Addr} {c0 : Nat} {g : List (List Int)} {out : List Bool} {todo todo' : List Int} (h : VInv w0 W Bg Bo Bt A0 c0 g out todo) {v v1 : Value} (hT : Kd.R (Kd.int .i64) 3 W w0.heap.size (fun _ => True) v todo)
  (h1 : Kd.R (Kd.int .i64) 3 w1 w0.heap.size (fun _ => True) v1 todo') (hb : Below w0.heap.size w0 w1) (hg : W.grownBy w1 v.ownBlock) : VInv w0 (w1.setCell ⟨Bt, 0, none⟩ v1) Bg Bo Bt A0 c0 g out todo' ∧ w1.cell? ⟨Bt, 0, none⟩ ≠ none ∧ w1.frozen? ⟨Bt, 0, none⟩ = false := by
 obtain ⟨hg', ⟨vo, h5, h6⟩, ⟨vt, h3, h4⟩, B, bo, bt, len⟩ := h
 have e1 := grown_blk hg' (Kd.R_typed hT) (by decide) hg
 have e2 := grown_blk h5 (Kd.R_typed hT) (by decide) hg
 have e3 := grown_blk h3 (Kd.R_typed hT) (by decide) hg
 have e4 := Kd.R_over' h6 (Kd.R_typed hT) (by decide) hg
 refine ⟨⟨blk_over e1 (blk_apart e1 e3 (by decide)) _, ⟨vo, blk_over e2 (blk_apart e2 e3 (by decide)) _, Kd.R_set e4 e3 (by decide) _ _⟩, ⟨v1, one_setCell e3, Kd.R_set h1 e3 (by decide) _ _⟩, below_set hb bt, bo, bt, len⟩, by rw [cell_of_one e3]; simp, free_of_one e3⟩
/-- The row in the variable made shorter. -/
theorem VInv.cut {w0 w : World} {Bg Bo Bt : Nat} {A0 : Option Addr} {c0 : Nat} {g : List (List Int)} {out : List Bool} {todo todo' : List Int} (h : VInv w0 w Bg Bo Bt A0 c0 g out todo) {v1 : Value} (h1 : Kd.R (Kd.int .i64) 3 w w0.heap.size (fun _ => True) v1 todo') : VInv w0 (w.setCell ⟨Bt, 0, none⟩ v1) Bg Bo Bt A0 c0 g out todo' := by
 obtain ⟨hg', ⟨vo, h5, h6⟩, ⟨vt, h3, h4⟩, B, bo, bt, len⟩ := h
 exact ⟨blk_over hg' (blk_apart hg' h3 (by decide)) _, ⟨vo, blk_over h5 (blk_apart h5 h3 (by decide)) _, Kd.R_set h6 h3 (by decide) _ _⟩, ⟨v1, one_setCell h3, Kd.R_set h1 h3 (by decide) _ _⟩, below_set B bt, bo, bt, len⟩
theorem VInv.start {w w1 : World} {A0 : Option Addr} {c0 : Nat} {g : List (List Int)} {vo : Value} (ho : Kd.R Kd.bool 4 w1 w.heap.size (fun _ => True) vo (List.replicate g.length false)) (hb : Below w.heap.size w w1) (hg : (w.alloc (.cells #[.slice A0 g.length c0] 72)).grownBy w1 none) :
  VInv w ((w1.alloc (.cells #[vo] 63)).alloc (.cells #[.slice none 0 0] 39)) w.heap.size w1.heap.size (w1.heap.size + 1) A0 c0 g (List.replicate g.length false) [] := by
 have e0 := hg.block w.heap.size (by simp) (by simp)
 rw [alloc_new] at e0
 have b1 : Below w1.heap.size w1 (w1.alloc (.cells #[vo] 63)) := below_alloc (Below.refl _ _) _
 have b2 : Below (w1.alloc (.cells #[vo] 63)).heap.size (w1.alloc (.cells #[vo] 63)) ((w1.alloc (.cells #[vo] 63)).alloc (.cells #[.slice none 0 0] 39)) := below_alloc (Below.refl _ _) _
 have hs : (w1.alloc (.cells #[vo] 63)).heap.size = w1.heap.size + 1 := by simp
 have hz := hb.size
 refine ⟨blk_below (blk_below e0 b1) b2, ⟨vo, blk_below (alloc_new _ _) b2, Kd.R_below (Kd.R_below ho b1) b2⟩, ⟨.slice none 0 0, by rw [← hs]; exact alloc_new _ _, Kd.R_nil _ _ _ _ _⟩, below_alloc (below_alloc hb _) _, hz, by omega, by simp⟩

set_option maxHeartbeats 400000 in
theorem visit_out (w0 w : World) (Bg Bo Bt : Nat) (A0 : Option Addr) (c0 : Nat) (g : List (List Int)) (out : List Bool) (todo : List Int) (v : Int)
  (ab : Kd.C (Kd.slice 3 (Kd.int .i64)) w0 A0 g.length g) (hc0 : g.length ≤ c0) (h : VInv w0 w Bg Bo Bt A0 c0 g out todo) (hv : digraph_inside.f g v = some false) :
  Calls Try.prog 77 #[.int .i64 v, .pointer (some ⟨Bg, 0, none⟩), .pointer (some ⟨Bo, 0, none⟩), .pointer (some ⟨Bt, 0, none⟩)] w fun e w' => e = .returned (.tuple #[]) ∧ VInv w0 w' Bg Bo Bt A0 c0 g out todo := by
 have cg := cell_of_one h.hg
 have HV := Aside0.mk h
 have af := Aside0.mk hv
 have HR := Aside0.mk (Kd.C_below ab h.B)
 clear ab h hv
 go_enter Try.func77, Try.ntmps77
 go_wp2_with (first | (go_at_call 73; refine (digraph_inside.calls _ _ _ _ _ _ HR.out hc0 af.out).mono ?_; rintro e w' ⟨rfl, ⟨n, rfl⟩⟩))
 go_end0
 exact ⟨rfl, HV.out.below (below_self _ _)⟩

set_option maxHeartbeats 400000 in
theorem visit_seen (w0 w : World) (Bg Bo Bt : Nat) (A0 : Option Addr) (c0 : Nat) (g : List (List Int)) (out : List Bool) (todo : List Int) (v : Int)
  (ab : Kd.C (Kd.slice 3 (Kd.int .i64)) w0 A0 g.length g) (hc0 : g.length ≤ c0) (h : VInv w0 w Bg Bo Bt A0 c0 g out todo) (al : 0 ≤ v) (ax : v < g.length) (ho : rdOf false out v = true) :
  Calls Try.prog 77 #[.int .i64 v, .pointer (some ⟨Bg, 0, none⟩), .pointer (some ⟨Bo, 0, none⟩), .pointer (some ⟨Bt, 0, none⟩)] w fun e w' => e = .returned (.tuple #[]) ∧ VInv w0 w' Bg Bo Bt A0 c0 g out todo := by
 have cg := cell_of_one h.hg
 obtain ⟨vo, ho1, ho2⟩ := h.o
 have hl := h.len
 obtain ⟨go, co, rfl, hb1, aQ, _⟩ := Kd.R_form ho2 (by omega)
 have aC := cell_of_one ho1
 obtain ⟨aw, _⟩ := Kd.R_celln false ho2 v al (by omega)
 rw [ho] at aw
 have hin : digraph_inside.f g v = some true := by unfold digraph_inside.f; rw [if_pos al, decide_eq_true ax]
 have HV := Aside0.mk h
 have af := Aside0.mk hin
 have HR := Aside0.mk (Kd.C_below ab h.B)
 have hvo : v < (out.length : Int) := by omega
 clear ab h hin ho1 ho2 hl ho
 go_enter Try.func77, Try.ntmps77
 go_wp2_with (first | (go_at_call 73; refine (digraph_inside.calls _ _ _ _ _ _ HR.out hc0 af.out).mono ?_; rintro e w' ⟨rfl, ⟨n, rfl⟩⟩))
 go_end0
 exact ⟨rfl, HV.out.below (below_self _ _)⟩

set_option maxHeartbeats 400000 in
theorem visit_new (w0 w : World) (Bg Bo Bt : Nat) (A0 : Option Addr) (c0 : Nat) (g : List (List Int)) (out : List Bool) (todo : List Int) (v : Int)
  (ab : Kd.C (Kd.slice 3 (Kd.int .i64)) w0 A0 g.length g) (hc0 : g.length ≤ c0) (h : VInv w0 w Bg Bo Bt A0 c0 g out todo) (al : 0 ≤ v) (ax : v < g.length) (ho : rdOf false out v = false) (hlim : todo.length < 17592186044416) :
  Calls Try.prog 77 #[.int .i64 v, .pointer (some ⟨Bg, 0, none⟩), .pointer (some ⟨Bo, 0, none⟩), .pointer (some ⟨Bt, 0, none⟩)] w fun e w' => e = .returned (.tuple #[]) ∧ VInv w0 w' Bg Bo Bt A0 c0 g (out.set v.toNat true) (todo ++ [v]) := by
 have cg := cell_of_one h.hg
 obtain ⟨vo, ho1, ho2⟩ := h.o
 have hl := h.len
 obtain ⟨go, co, rfl, hb1, aQ, a5, aD⟩ := Kd.R_form ho2 (by omega)
 have aC := cell_of_one ho1
 obtain ⟨aw, a4⟩ := Kd.R_celln false ho2 v al (by omega)
 rw [ho] at aw
 have hin : digraph_inside.f g v = some true := by unfold digraph_inside.f; rw [if_pos al, decide_eq_true ax]
 have HV := Aside0.mk h
 have af := Aside0.mk hin
 have HR := Aside0.mk (Kd.C_below ab h.B)
 have hvo : v < (out.length : Int) := by omega
 have HP := Aside0.mk (fun n => VInv.put (h.below (below_self w n)) (Kd.R_below ho2 (below_self w n)) (blk_below ho1 (below_self w n)) (blk_below aD (below_self w n)) hb1 v true)
 clear ab h hin ho1 ho2 hl ho aD
 go_enter Try.func77, Try.ntmps77
 go_wp2_with (first
  | (go_at_call 73; refine (digraph_inside.calls _ _ _ _ _ _ HR.out hc0 af.out).mono ?_; rintro e w' ⟨rfl, ⟨n, rfl⟩⟩)
  | ((with_reducible refine gate_store (t := 4) (p := 17) rfl ?_); refine store_event (t := 4) (p := 17) (v := .const (.bool true)) (w1 := ((w.drewN n).setCell ⟨go, v.toNat, none⟩ (.bool true))) rfl rfl rfl ?hr ?_; (case hr => first | (go_simp; done) | (go_simp; rfl)); intro w1 hw; have ag := Aside0.mk (HP.out n); rw [← hw] at ag; clear hw; obtain ⟨vt, ae, ac⟩ := ag.out.t; have aN := cell_of_one ae; have HT := Aside0.mk ac; clear ae ac)
  | ((with_reducible refine gate_builtin (b := .append) (xs := #[.tmp 18, .tmp 20]) rfl ?_); at_builtin; refine Kd.R_append (Kd.int .i64) (w0 := w0) w0.heap.size rfl (.tmp 18) (.tmp 20) 39 3 (.int .i64 0) 8 rfl Try.underlying39 info3 rfl (by decide) (by omega) vt todo v [.int .i64 v] (fun _ => True) (fun _ => False) rfl rfl ?aP (fun _ hk => hk.elim) ?aF ?aO ?aB ?aS ?aL ?_; (case aP => exact rfl); (case aF => exact (fun _ _ => trivial)); (case aO => exact HT.out); (case aB => exact ag.out.B); (case aS => exact ag.out.B.size); (case aL => omega); intro v2 w2 ho hb hg hat; obtain ⟨A2, k2, rfl⟩ := Kd.R_slice ho; have HX := Aside0.mk (VInv.push ag.out HT.out ho hb hg); obtain ⟨c2, a7⟩ := Option.ne_none_iff_exists'.mp HX.out.2.1; have hf2 := HX.out.2.2; clear ho hb hg hat))
 go_end0
 have e_ := HX.out.1
 rw [List.length_append] at e_
 exact ⟨rfl, e_⟩

/-- One vertex: marked, and kept for later. -/
def visitM (g : List (List Int)) (out : List Bool) (todo : List Int) (v : Int) : Option (List Bool × List Int) :=
 if 0 ≤ v then (if v < (g.length : Int) then (if rdOf false out v = true then some (out, todo) else (if todo.length < 17592186044416 then some (out.set v.toNat true, todo ++ [v]) else none)) else some (out, todo)) else some (out, todo)
theorem visit_any (w0 w : World) (Bg Bo Bt : Nat) (A0 : Option Addr) (c0 : Nat) (g : List (List Int)) (out : List Bool) (todo : List Int) (v : Int) (p : List Bool × List Int)
  (ab : Kd.C (Kd.slice 3 (Kd.int .i64)) w0 A0 g.length g) (hc0 : g.length ≤ c0) (h : VInv w0 w Bg Bo Bt A0 c0 g out todo) (hp : visitM g out todo v = some p) :
  Calls Try.prog 77 #[.int .i64 v, .pointer (some ⟨Bg, 0, none⟩), .pointer (some ⟨Bo, 0, none⟩), .pointer (some ⟨Bt, 0, none⟩)] w fun e w' => e = .returned (.tuple #[]) ∧ VInv w0 w' Bg Bo Bt A0 c0 g p.1 p.2 := by
 unfold visitM at hp
 by_cases h0 : 0 ≤ v
 ·rw [if_pos h0] at hp
  by_cases h1 : v < (g.length : Int)
  ·rw [if_pos h1] at hp
   by_cases h2 : rdOf false out v = true
   ·rw [if_pos h2] at hp
    cases hp
    exact visit_seen w0 w Bg Bo Bt A0 c0 g out todo v ab hc0 h h0 h1 h2
   ·rw [if_neg h2] at hp
    by_cases h3 : todo.length < 17592186044416
    ·rw [if_pos h3] at hp
     cases hp
     exact visit_new w0 w Bg Bo Bt A0 c0 g out todo v ab hc0 h h0 h1 (by simpa using h2) h3
    ·rw [if_neg h3] at hp
     cases hp
  ·rw [if_neg h1] at hp
   cases hp
   exact visit_out w0 w Bg Bo Bt A0 c0 g out todo v ab hc0 h (by unfold digraph_inside.f; rw [if_pos h0, decide_eq_false h1])
 ·rw [if_neg h0] at hp
  cases hp
  exact visit_out w0 w Bg Bo Bt A0 c0 g out todo v ab hc0 h (by unfold digraph_inside.f; rw [if_neg h0])

mutual
def digraph_Reach.l0 : Nat → List (List Int) → List Int → List Bool → List Int → Int → Option (List Bool)
 | 0, _, _, _, _, _ => none
 | k + 1, g, xs, out, todo, i => if i < (xs.length : Int) then (if 0 ≤ i then ((visitM g out todo (rd xs i)).bind fun p => digraph_Reach.l0 k g xs p.1 p.2 (wrap64 (i + 1))) else none) else digraph_Reach.l1 k g out todo
def digraph_Reach.l1 : Nat → List (List Int) → List Bool → List Int → Option (List Bool)
 | 0, _, _, _ => none
 | k + 1, g, out, todo => if 0 < (todo.length : Int) then (if 0 ≤ rd todo ((todo.length : Int) - 1) then (if rd todo ((todo.length : Int) - 1) < (g.length : Int) then (digraph_Reach.l2 k g out (todo.take (todo.length - 1)) (rd_L11 g (rd todo ((todo.length : Int) - 1))) 0) else none) else none) else some out
def digraph_Reach.l2 : Nat → List (List Int) → List Bool → List Int → List Int → Int → Option (List Bool)
 | 0, _, _, _, _, _ => none
 | k + 1, g, out, todo, xs, i => if i < (xs.length : Int) then (if 0 ≤ i then ((visitM g out todo (rd xs i)).bind fun p => digraph_Reach.l2 k g p.1 p.2 xs (wrap64 (i + 1))) else none) else digraph_Reach.l1 k g out todo
end
def digraph_Reach.f (k : Nat) (l0 : List (List Int)) (l1 : List Int) : Option (List Bool) := if l0.length ≤ 281474976710656 then digraph_Reach.l0 k l0 l1 (List.replicate l0.length false) [] 0 else none
theorem digraph_Reach.mono_l : ∀ k, (∀ y0 y1 y2 y3 y4, LeO (digraph_Reach.l0 k y0 y1 y2 y3 y4) (digraph_Reach.l0 (k + 1) y0 y1 y2 y3 y4)) ∧ (∀ y0 y1 y2, LeO (digraph_Reach.l1 k y0 y1 y2) (digraph_Reach.l1 (k + 1) y0 y1 y2)) ∧ (∀ y0 y1 y2 y3 y4, LeO (digraph_Reach.l2 k y0 y1 y2 y3 y4) (digraph_Reach.l2 (k + 1) y0 y1 y2 y3 y4))
 | 0 => ⟨fun _ _ _ _ _ r h => by simp [digraph_Reach.l0] at h, fun _ _ _ r h => by simp [digraph_Reach.l1] at h, fun _ _ _ _ _ r h => by simp [digraph_Reach.l2] at h⟩
 | k + 1 => by
  obtain ⟨aV, aG, aH⟩ := digraph_Reach.mono_l k
  refine ⟨?_, ?_, ?_⟩
  ·intro y0 y1 y2 y3 y4
   unfold digraph_Reach.l0
   repeat' first | exact aV _ _ _ _ _ | exact aG _ _ _ | exact LeO.refl _ | exact LeO.none _ | refine LeO.ite ?_ ?_ | refine LeO.bind (LeO.refl _) (fun _ => ?_)
  ·intro y0 y1 y2
   unfold digraph_Reach.l1
   repeat' first | exact aH _ _ _ _ _ | exact LeO.refl _ | exact LeO.none _ | refine LeO.ite ?_ ?_
  ·intro y0 y1 y2 y3 y4
   unfold digraph_Reach.l2
   repeat' first | exact aH _ _ _ _ _ | exact aG _ _ _ | exact LeO.refl _ | exact LeO.none _ | refine LeO.ite ?_ ?_ | refine LeO.bind (LeO.refl _) (fun _ => ?_)
theorem digraph_Reach.mono : ∀ a0 a1 k, LeO (digraph_Reach.f k a0 a1) (digraph_Reach.f (k + 1) a0 a1) := by
 intro a0 a1 k
 unfold digraph_Reach.f
 exact LeO.ite ((digraph_Reach.mono_l k).1 _ _ _ _ _) (LeO.none _)
set_option maxHeartbeats 1000000 in
set_option maxRecDepth 100000 in
theorem digraph_Reach.calls (k : Nat) (A0 : Option Addr) (c0 : Nat) (l0 : List (List Int)) (A1 : Option Addr) (c1 : Nat) (l1 : List Int) (r : List Bool) (w : World) (ab : Kd.C (Kd.slice 3 (Kd.int .i64)) w A0 l0.length l0) (hc0 : l0.length ≤ c0) (hr1 : Kd.C (Kd.int .i64) w A1 l1.length l1) (a6 : l1.length ≤ c1) (h : digraph_Reach.f k l0 l1 = some r) :
  Calls Try.prog 63 #[.slice A0 l0.length c0, .slice A1 l1.length c1] w fun e w' => ∃ v0_ : Value, e = .returned (v0_) ∧ Kd.R Kd.bool 4 w' w.heap.size (fun _ => True) v0_ r ∧ Below w.heap.size w w' := by
 have au := Aside0.mk ab
 have aA := Aside0.mk hc0
 have aK := Aside0.mk hr1
 clear ab hc0 hr1
 unfold digraph_Reach.f at h
 by_cases c2 : l0.length ≤ 281474976710656
 case neg => rw [if_neg c2] at h; cases h
 rw [if_pos c2] at h
 have H := Aside0.mk h
 clear h
 have aR : (0 : Int) ≤ (l0.length : Int) := by omega
 have hmf : ∀ (fn : Fn) (first cap : Array Value) (w : World), (Instr.makeFunc fn first cap).run Try.prog w = .ok (.func fn first cap) w := fun _ _ _ _ => rfl
 go_enter Try.func63, Try.ntmps63
 go_wp2_with (first
  | ((with_reducible refine gate_dst (N := 15) rfl ?_); refine Kd.R_make (w0 := w) Kd.bool w.heap.size 4 rfl (N := 15) rfl 63 _ _ rfl (l0.length : Int) rfl rfl Try.underlying63 (.bool false) 1 info4 rfl (by decide) (by omega) false (ok := fun _ => True) (okp := fun _ => True) rfl (fun _ hk => hk) trivial aR (by simpa using c2) (below_alloc (Below.refl _ _) _) (by simp) ?_; intro v1 w1 ho hb hg hnew; rw [Int.toNat_natCast] at ho; have HV := Aside0.mk (VInv.start ho hb hg); obtain ⟨A2, k2, e2⟩ := Kd.R_slice ho; subst e2; simp only [List.length_replicate] at HV; clear ho hb hg hnew))
 go_loopg [19] k (fun kq aY w' => ∃ (i : Int) (out : List Bool) (todo : List Int), aY = .int .i64 i ∧ Aside0 (digraph_Reach.l0 kq l0 l1 out todo i = some r) ∧ Aside0 (kq ≤ k) ∧ Aside0 (VInv w w' w.heap.size w1.heap.size (w1.heap.size + 1) A0 c0 l0 out todo))
 case atStart => exact ⟨0, _, _, rfl, H, ⟨Nat.le_refl _⟩, HV⟩
 case round =>
  clear H HV
  obtain ⟨i, out, todo, rfl, HA, ap, HV⟩ := hrel
  cases gk with
  | zero => exact absurd HA.out (by simp [digraph_Reach.l0])
  | succ k1 =>
   have H := HA.out
   clear HA
   simp only [digraph_Reach.l0] at H
   by_cases c3 : i < (l1.length : Int)
   ·rw [if_pos c3] at H
    have ai : decide (i < (l1.length : Int)) = true := decide_eq_true c3
    by_cases c4 : 0 ≤ i
    case neg => rw [if_neg c4] at H; cases H
    rw [if_pos c4] at H
    obtain ⟨p, hp, hq⟩ := Option.bind_eq_some_iff.mp H
    have HP := Aside0.mk hp
    have HQ := Aside0.mk hq
    obtain ⟨ad, e1, hx⟩ := Kd.at_int aK.out i c4 c3
    subst e1
    replace hx := (HV.out.B.cell (World.block_lt_of_cell? w _ hx)).trans hx
    clear H hp hq
    go_wp2_with (first | (go_at_call 77; refine (visit_any w _ _ _ _ _ _ _ _ _ _ _ au.out aA.out HV.out HP.out).mono ?_; rintro e w2 ⟨rfl, ah⟩; replace HV := Aside0.mk ah; clear ah))
    go_roundg k1
    case measure => have := ap.out; omega
    case rel => exact ⟨_, _, _, rfl, HQ, ⟨by have := ap.out; omega⟩, HV⟩
   ·rw [if_neg c3] at H
    have ai : decide (i < (l1.length : Int)) = false := decide_eq_false c3
    have H' := Aside0.mk H
    clear H
    go_wp2
    go_loopg [] k1 (fun kq w' => ∃ (out : List Bool) (todo : List Int), Aside0 (digraph_Reach.l1 kq l0 out todo = some r) ∧ Aside0 (kq ≤ k1) ∧ Aside0 (VInv w w' w.heap.size w1.heap.size (w1.heap.size + 1) A0 c0 l0 out todo))
    case atStart => exact ⟨_, _, H', ⟨Nat.le_refl _⟩, HV⟩
    case round =>
     clear H' HV ai c3
     obtain ⟨aW, aa, HA, ar, HV⟩ := hrel
     cases gk with
     | zero => exact absurd HA.out (by simp [digraph_Reach.l1])
     | succ k2 =>
      have H := HA.out
      clear HA
      simp only [digraph_Reach.l1] at H
      obtain ⟨vt, ae, ac⟩ := HV.out.t
      have aN := cell_of_one ae
      have cf1 := free_of_one ae
      have a3 := cell_of_one HV.out.hg
      by_cases c5 : 0 < (aa.length : Int)
      ·rw [if_pos c5] at H
       obtain ⟨gt, ct, rfl, hct, hlt, hx⟩ := R_last ac (by omega)
       have HT := Aside0.mk ac
       clear ac ae
       obtain ⟨v, hv⟩ : ∃ v, v = rd aa ((aa.length : Int) - 1) := ⟨_, rfl⟩
       rw [← hv] at H hx
       by_cases c6 : 0 ≤ v
       case neg => rw [if_neg c6] at H; cases H
       rw [if_pos c6] at H
       by_cases c7 : v < (l0.length : Int)
       case neg => rw [if_neg c7] at H; cases H
       rw [if_pos c7] at H
       have H' := Aside0.mk H
       clear H hv
       obtain ⟨ad, A3, c3, e3, ay, aT, aE⟩ := at_L11 au.out v c6 c7
       subst e3
       have aJ := Aside0.mk aE
       have aj : decide (0 < (aa.length : Int)) = true := decide_eq_true c5
       have ak : decide (0 < aa.length) = true := decide_eq_true (by omega)
       clear aE aT
       have ao := Aside0.mk (VInv.cut HV.out (Kd.R_take (m := aa.length - 1) HT.out (by omega)))
       have aU := (ao.out.B.cell (World.block_lt_of_cell? w _ ay)).trans ay
       have aM := cell_of_one ao.out.hg
       clear ay
       go_wp2
       go_loopg [46] k2 (fun kq aZ w' => ∃ (j : Int) (out : List Bool) (todo : List Int), aZ = .int .i64 j ∧ Aside0 (digraph_Reach.l2 kq l0 out todo (rd_L11 l0 v) j = some r) ∧ Aside0 (kq ≤ k2) ∧ Aside0 (VInv w w' w.heap.size w1.heap.size (w1.heap.size + 1) (some ad) c0 l0 out todo))
       case atStart => exact ⟨0, _, _, rfl, H', ⟨Nat.le_refl _⟩, ao⟩
       case round =>
        clear H' HV HT ao aU aM hx c5 aj ak hct hlt
        obtain ⟨j, aX, aI, rfl, HA, aq, HV⟩ := hrel
        cases gk with
        | zero => exact absurd HA.out (by simp [digraph_Reach.l2])
        | succ k3 =>
         have H := HA.out
         clear HA
         simp only [digraph_Reach.l2] at H
         by_cases c8 : j < ((rd_L11 l0 v).length : Int)
         ·rw [if_pos c8] at H
          have av : decide (j < ((rd_L11 l0 v).length : Int)) = true := decide_eq_true c8
          by_cases c9 : 0 ≤ j
          case neg => rw [if_neg c9] at H; cases H
          rw [if_pos c9] at H
          obtain ⟨p, hp, hq⟩ := Option.bind_eq_some_iff.mp H
          have HP := Aside0.mk hp
          have HQ := Aside0.mk hq
          obtain ⟨a2, e4, az⟩ := Kd.at_int aJ.out j c9 c8
          subst e4
          replace az := (HV.out.B.cell (World.block_lt_of_cell? w _ az)).trans az
          clear H hp hq
          go_wp2_with (first | (go_at_call 77; refine (visit_any w _ _ _ _ _ _ _ _ _ _ _ au.out aA.out HV.out HP.out).mono ?_; rintro e w2 ⟨rfl, ah⟩; replace HV := Aside0.mk ah; clear ah))
          go_roundg k3
          case measure => have := ap.out; have := ar.out; have := aq.out; omega
          case rel => exact ⟨_, _, _, rfl, HQ, ⟨by have := aq.out; omega⟩, HV⟩
         ·rw [if_neg c8] at H
          have av : decide (j < ((rd_L11 l0 v).length : Int)) = false := decide_eq_false c8
          have H' := Aside0.mk H
          clear H
          go_wp2
          go_roundg k3
          case measure => have := ap.out; have := ar.out; have := aq.out; omega
          case rel => exact ⟨_, _, H', ⟨by have := aq.out; have := ar.out; omega⟩, HV⟩
      ·rw [if_neg c5] at H
       obtain rfl := Option.some.inj H
       obtain ⟨A5, k5, rfl⟩ := Kd.R_slice ac
       obtain ⟨vo, ho1, ho2⟩ := HV.out.o
       obtain ⟨A6, k6, rfl⟩ := Kd.R_slice ho2
       have aC := cell_of_one ho1
       have HO := Aside0.mk ho2
       have aj : decide (0 < (aa.length : Int)) = false := decide_eq_false c5
       have ak : decide (0 < aa.length) = false := decide_eq_false (by omega)
       clear ae ac ho1 ho2 H c5
       go_wp2
       go_ret
       exact ⟨_, rfl, HO.out, HV.out.B⟩

/-! ### digraph_Reverse: function 64 -/
mutual
def digraph_Reverse.l0 : Nat → List (List Int) → List (List Int) → List (List Int) → Int → Int → Option ((List (List Int)))
 | 0, _, _, _, _, _ => none
 | k + 1, x0, x3, x12, x13, x14 => if x14 < x13 then (if 0 ≤ x14 then (if x14 < (x12.length : Int) then (digraph_Reverse.l1 k x0 x3 x14 x12 x13 x14 (rd_L11 x12 x14) ((rd_L11 x12 x14).length : Int) 0) else (none)) else (none)) else (some x3)
def digraph_Reverse.l1 : Nat → List (List Int) → List (List Int) → Int → List (List Int) → Int → Int → List Int → Int → Int → Option ((List (List Int)))
 | 0, _, _, _, _, _, _, _, _, _ => none
 | k + 1, x0, x3, x4, x12, x13, x14, aN, dk, aJ => if aJ < dk then (if 0 ≤ aJ then (if aJ < (aN.length : Int) then ((digraph_inside.f x0 (rd aN aJ)).bind fun cx => (if cx = true then (if 0 ≤ (rd aN aJ) then (if (rd aN aJ) < (x3.length : Int) then (if ((rd_L11 x3 (rd aN aJ)).length : Int) = 0 then (if (rd_L11 x3 (rd aN aJ)).length < 17592186044416 then (digraph_Reverse.l1 k x0 (x3.set ((rd aN aJ) : Int).toNat ((rd_L11 x3 (rd aN aJ)) ++ [x4])) x4 x12 x13 x14 aN dk (wrap64 (aJ + 1))) else (none)) else (if 0 ≤ (wrap64 (((rd_L11 x3 (rd aN aJ)).length : Int) - 1)) then (if (wrap64 (((rd_L11 x3 (rd aN aJ)).length : Int) - 1)) < ((rd_L11 x3 (rd aN aJ)).length : Int) then (if (rd (rd_L11 x3 (rd aN aJ)) (wrap64 (((rd_L11 x3 (rd aN aJ)).length : Int) - 1))) = x4 then (digraph_Reverse.l1 k x0 x3 x4 x12 x13 x14 aN dk (wrap64 (aJ + 1))) else (if (rd_L11 x3 (rd aN aJ)).length < 17592186044416 then (digraph_Reverse.l1 k x0 (x3.set ((rd aN aJ) : Int).toNat ((rd_L11 x3 (rd aN aJ)) ++ [x4])) x4 x12 x13 x14 aN dk (wrap64 (aJ + 1))) else (none))) else (none)) else (none))) else (none)) else (none)) else (digraph_Reverse.l1 k x0 x3 x4 x12 x13 x14 aN dk (wrap64 (aJ + 1))))) else (none)) else (none)) else (digraph_Reverse.l0 k x0 x3 x12 x13 (wrap64 (x14 + 1)))
end
def digraph_Reverse.f (k : Nat) (l0 : List (List Int)) : Option ((List (List Int))) := if 0 ≤ (l0.length : Int) then (if ((l0.length : Int) : Int).toNat ≤ 11728124029610 then (digraph_Reverse.l0 k l0 (List.replicate ((l0.length : Int) : Int).toNat []) l0 (l0.length : Int) 0) else (none)) else (none)
theorem digraph_Reverse.mono_l : ∀ k, M5 digraph_Reverse.l0 k ∧ M9 digraph_Reverse.l1 k
 | 0 => ⟨fun _ _ _ _ _ r h => by simp [digraph_Reverse.l0] at h, fun _ _ _ _ _ _ _ _ _ r h => by simp [digraph_Reverse.l1] at h⟩
 | k + 1 => by
  obtain ⟨dX, dY⟩ := digraph_Reverse.mono_l k
  refine ⟨?_, ?_⟩ <;> dsimp only [M5, M9] <;> intros <;> (first | unfold digraph_Reverse.l0 | unfold digraph_Reverse.l1) <;> repeat' first | (with_reducible first | apply dX | apply dY | apply lr | apply ln | apply li | refine lb ?_ fun _ => ?_)
theorem digraph_Reverse.mono : ∀ a0 k, LeO (digraph_Reverse.f k a0) (digraph_Reverse.f (k + 1) a0) := by
 intro a0 k
 obtain ⟨dX, dY⟩ := digraph_Reverse.mono_l k
 unfold digraph_Reverse.f
 repeat' first | (with_reducible first | apply dX | apply dY | apply lr | apply ln | apply li | refine lb ?_ fun _ => ?_)
set_option maxHeartbeats 8000000 in
set_option maxRecDepth 100000 in
theorem digraph_Reverse.calls (k : Nat) (A0 : Option Addr) (c0 : Nat) (l0 : List (List Int)) (r : List (List Int)) (w : World) (en : Kd.C (Kd.slice 3 (Kd.int .i64)) w A0 l0.length l0) (hc0 : l0.length ≤ c0) (h : digraph_Reverse.f k l0 = some r) :
  Calls Try.prog 64 #[.slice A0 l0.length c0] w fun e w' => ∃ v0_ : Value, e = .returned (v0_) ∧ Kd.S (Kd.slice 3 (Kd.int .i64)) 39 w' w.heap.size (fun _ => True) v0_ r ∧ Below w.heap.size w w' := by
 have cF := am en
 have dm := am hc0
 clear en hc0
 have HB := am (Below.refl w.heap.size w)
 have H := h
 unfold digraph_Reverse.f at H
 clear h
 replace H := ifp H
 obtain ⟨c2, H⟩ := H
 have cS := eq_true c2
 have cT : decide (0 ≤ (l0.length : Int)) = true := decide_eq_true c2
 clear c2
 replace H := ifp H
 obtain ⟨c3, H⟩ := H
 have cU := eq_true c3
 have cV : decide (((l0.length : Int) : Int).toNat ≤ 11728124029610) = true := decide_eq_true c3
 clear c3
 obtain ⟨dl, bx⟩ : ∃ y_ : List (List Int), y_ = (List.replicate ((l0.length : Int) : Int).toNat []) := ⟨_, rfl⟩
 replace H : (digraph_Reverse.l0 k l0 dl l0 (l0.length : Int) 0) = some r := hrp bx H
 have bY := am bx
 clear bx
 have H' := am H
 clear H
 go_enter Try.func64, Try.ntmps64
 go_wp2_with (first | ((with_reducible refine gate_dst (N := 11) rfl ?_); refine Kd.S_make (Kd.slice 3 (Kd.int .i64)) _ 39 rfl (N := 11) rfl 72 _ _ rfl (l0.length : Int) rfl rfl Try.underlying72 (.slice none 0 0) 24 info39 rfl (by decide) (by omega) [] (ok := fun _ => True) (okp := fun _ => True) ⟨_, rfl, Kd.R_nil _ _ _ _ _⟩ (fun _ hk => hk) trivial (dq) (Nat.le_trans (Nat.mul_le_mul_right _ (dq : (l0.length : Int).toNat ≤ 11728124029610)) (by omega)) (Below.refl _ _) (Nat.le_refl _) ?_; intro bV w4 dj hb hg_ hnew_; clear hg_ hnew_; (first | rw [← bY.1] at dj | (simp only [Int.reduceToNat] at dj; rw [← bY.1] at dj)); have cE := am (Kd.S_lower dj (below_size pbl)); replace HB := bsl hb; clear hb dj))
 go_loopg [14] k (fun kq eG w' => ∃ (bX : List (List Int)) (aa : Int), eG = .int .i64 aa ∧ Aside0 (digraph_Reverse.l0 kq l0 bX l0 (l0.length : Int) aa = some r) ∧ Aside0 (kq ≤ k) ∧ Aside0 (Kd.S (Kd.slice 3 (Kd.int .i64)) 39 w' w.heap.size (fun _ => True) bV bX) ∧ Aside0 (Below w.heap.size w w'))
 case atStart => exact ⟨(dl), (0), prs, H', ⟨Nat.le_refl _⟩, ⟨pks cE.1⟩, ⟨pbg⟩⟩
 clear H'
 try clear c2 cS cT c3 cU cV
 obtain ⟨bX, aa, rfl, HA, bF, ae, HB⟩ := hrel
 obtain _ | k1 := gk
 ·exact absurd HA.1 (by simp [digraph_Reverse.l0])
 have H := HA.1
 clear HA
 simp only [digraph_Reverse.l0] at H
 replace H := ifl H
 rcases H with ⟨cW, H⟩ | ⟨cW, H⟩
 rotate_left
 ·obtain rfl := Option.some.inj H
  go_wp2
  go_ret
  exact ⟨_, per, by (with_reducible repeat (first | apply Kd.S_alloc | apply Kd.S_drewN | apply Kd.S_drew)); exact ae.1, pbg⟩
 replace H := ifp H
 obtain ⟨c7, H⟩ := H
 have dF := decide_eq_true c7
 clear c7
 replace H := ifp H
 obtain ⟨c8, H⟩ := H
 have dG := decide_eq_true c8
 clear c8
 have H' := am H
 clear H
 obtain ⟨dZ, d0, d5, dx, dC, dK, bP, dn, aC⟩ := bL11 cF.1 HB.1 aa
 cases dK
 go_wp2
 go_loopg [21] k1 (fun kq eJ w' => ∃ (ac : List (List Int)) (ab : Int), eJ = .int .i64 ab ∧ Aside0 (digraph_Reverse.l1 kq l0 ac aa l0 (l0.length : Int) aa (rd_L11 l0 aa) ((rd_L11 l0 aa).length : Int) ab = some r) ∧ Aside0 (kq ≤ k1) ∧ Aside0 (Kd.S (Kd.slice 3 (Kd.int .i64)) 39 w' w.heap.size (fun _ => True) bV ac) ∧ Aside0 (Below w.heap.size w w'))
 case atStart => exact ⟨(bX), (0), prs, H', ⟨Nat.le_refl _⟩, ⟨pks ae.1⟩, ⟨pbg⟩⟩
 clear H'
 try clear c2 cS cT c3 cU cV cW c7 dF c8 dG bP dZ d0
 obtain ⟨ac, ab, rfl, HA, bG, ae, HB⟩ := hrel
 obtain _ | k2 := gk
 ·exact absurd HA.1 (by simp [digraph_Reverse.l1])
 have H := HA.1
 clear HA
 simp only [digraph_Reverse.l1] at H
 replace H := ifl H
 rcases H with ⟨dH, H⟩ | ⟨dH, H⟩
 rotate_left
 ·have H' := am H
  clear H
  go_wp2
  go_roundg k2
  case measure => have := bF.1; have := bG.1; omega
  case rel => exact ⟨(ac), (wrap64 (aa + 1)), prs, H', ⟨by have := bF.1; have := bG.1; omega⟩, ⟨pks ae.1⟩, ⟨pbg⟩⟩
 replace H := ifp H
 obtain ⟨c10, H⟩ := H
 have d6 := decide_eq_true c10
 clear c10
 replace H := ifp H
 obtain ⟨d7, H⟩ := H
 have d8 := decide_eq_true d7
 clear d7
 replace H := bnd H
 obtain ⟨cx, A12, H⟩ := H
 (try dsimp only at H)
 cases cx
 ·rw [if_neg Bool.false_ne_true] at H
  have H' := am H
  clear H
  obtain ⟨cv, cw, bi, aX, aU⟩ := bint aC.1 HB.1 ab
  cases aX
  go_wp2_with (first | ((with_reducible refine gate_callee (f := 73) rfl ?_); refine gC 27 Try.func73 _ (digraph_inside.calls _ _ l0 (rd (rd_L11 l0 aa) ab) false _ (csb cF HB) dm.1 A12.1) ?_; rintro e w' ⟨rfl, ⟨nd, rfl⟩⟩; refine ⟨_, rfl, ?_⟩))
  go_roundg k2
  case measure => have := bF.1; have := bG.1; omega
  case rel => exact ⟨(ac), (wrap64 (ab + 1)), prs, H', ⟨by have := bF.1; have := bG.1; omega⟩, ⟨pks ae.1⟩, ⟨pbg⟩⟩
 rw [if_pos rfl] at H
 replace H := ifp H
 obtain ⟨d9, H⟩ := H
 have ea := decide_eq_true d9
 clear d9
 replace H := ifp H
 obtain ⟨ec, H⟩ := H
 have ed := decide_eq_true ec
 clear ec
 by_cases bZ : ((rd_L11 ac (rd (rd_L11 l0 aa) ab)).length : Int) = 0
 ·rw [if_pos bZ] at H
  have cO : (((rd_L11 ac (rd (rd_L11 l0 aa) ab)).length : Int) == 0) = true := beq_iff_eq.mpr bZ
  have cP : (((rd_L11 ac (rd (rd_L11 l0 aa) ab)).length : Int) != 0) = false := bne_eq_false_iff_eq.mpr bZ
  clear bZ
  replace H := ifp H
  obtain ⟨ef, H⟩ := H
  have cG := am ef
  clear ef
  obtain ⟨bD, bz⟩ : ∃ y_ : List Int, y_ = ((rd_L11 ac (rd (rd_L11 l0 aa) ab)) ++ [aa]) := ⟨_, rfl⟩
  replace H : (digraph_Reverse.l1 k2 l0 (ac.set ((rd (rd_L11 l0 aa) ab) : Int).toNat bD) aa l0 (l0.length : Int) aa (rd_L11 l0 aa) ((rd_L11 l0 aa).length : Int) (wrap64 (ab + 1))) = some r := hrp bz H
  have cI := am bz
  clear bz
  obtain ⟨cy, bA⟩ : ∃ y_ : List (List Int), y_ = (ac.set ((rd (rd_L11 l0 aa) ab) : Int).toNat bD) := ⟨_, rfl⟩
  replace H : (digraph_Reverse.l1 k2 l0 cy aa l0 (l0.length : Int) aa (rd_L11 l0 aa) ((rd_L11 l0 aa).length : Int) (wrap64 (ab + 1))) = some r := hrp bA H
  have cJ := am bA
  clear bA
  have H' := am H
  clear H
  obtain ⟨cv, cw, bi, aX, aU⟩ := bint aC.1 HB.1 ab
  cases aX
  go_wp2_with (first | ((with_reducible refine gate_callee (f := 73) rfl ?_); refine gC 27 Try.func73 _ (digraph_inside.calls _ _ l0 (rd (rd_L11 l0 aa) ab) true _ (csb cF HB) dm.1 A12.1) ?_; rintro e w' ⟨rfl, ⟨nd, rfl⟩⟩; refine ⟨_, rfl, ?_⟩; (try (rw [drewN_self wr]; generalize hq_ : World.drewN wr _ = wr; replace ae : Aside0 (Kd.S (Kd.slice 3 (Kd.int .i64)) 39 wr w.heap.size (fun _ => True) bV ac) := ⟨by rw [← hq_]; exact (pks ae.1)⟩; replace HB : Aside0 (Below w.heap.size w wr) := ⟨by rw [← hq_]; exact pbl⟩; clear hq_)); obtain ⟨eu, dI, dN⟩ := Kd.S_slice ae.1; subst dN; have ax : 0 ≤ ((rd (rd_L11 l0 aa) ab) : Int) := dq; have ay : (rd (rd_L11 l0 aa) ab) < (ac.length : Int) := dq; obtain ⟨aM, aQ, az, bl, ag, ak, aj⟩ := at_L11 (Kd.S_reads' ae.1).2.2 (rd (rd_L11 l0 aa) ab) ax ay; cases bl; obtain ⟨b0, aI, aG, ap⟩ := Kd.S_get ae.1 [] (rd (rd_L11 l0 aa) ab) ax (by first | exact ay | exact dq | (have e_ := (Kd.S_reads' ae.1).1; omega)); obtain ⟨bc, rfl, ah⟩ := aG; have af := ap 0 _ rfl; rw [Nat.add_zero, show ((Kd.slice 3 (Kd.int .i64))).sz = 1 from rfl, Nat.mul_one] at af; replace af := Option.some.inj (af.symm.trans ag); rw [af] at ah; have aA := am (show Kd.R (Kd.int .i64) 3 _ _ _ _ (rd_L11 ac (rd (rd_L11 l0 aa) ab)) from ah); clear af ah; have a6 := am ag; clear ap aI; have a5 := am aj; have a3 := am ak; clear aj ak; replace ax := eq_true ax; replace ay := eq_true ay; have bR : 0 ≤ ((rd (rd_L11 l0 aa) ab) : Int) := dq; have bT : (rd (rd_L11 l0 aa) ab) < (ac.length : Int) := dq; obtain ⟨cM, dy, dD, dL, aD, ba, a7⟩ := at_L11 (Kd.S_reads' ae.1).2.2 (rd (rd_L11 l0 aa) ab) bR bT; obtain rfl : aM = cM := (by injection dL); obtain ⟨el, cp, ck, bo⟩ := Kd.S_get ae.1 [] (rd (rd_L11 l0 aa) ab) bR (by first | exact bT | exact dq | (have e_ := (Kd.S_reads' ae.1).1; omega)); obtain ⟨dv, rfl, aR⟩ := ck; have av := bo 0 _ rfl; rw [Nat.add_zero, show ((Kd.slice 3 (Kd.int .i64))).sz = 1 from rfl, Nat.mul_one] at av; replace av := Option.some.inj (av.symm.trans aD); rw [av] at aR; have bI := am (show Kd.R (Kd.int .i64) 3 _ _ _ _ (rd_L11 ac (rd (rd_L11 l0 aa) ab)) from aR); clear av aR; have bM := am aD; clear bo cp; have dt := am a7; have dp := am ba; clear a7 ba; replace bR := eq_true bR; replace bT := eq_true bT; have ea_ := Option.some.inj (ag.symm.trans aD); injection ea_ with ea_ en_ ec_; subst ea_; subst ec_; clear en_; obtain ⟨ci, eD, da, dc, dS, eB, cC⟩ := Kd.S_form ae.1 (by have h_ : ((rd (rd_L11 l0 aa) ab) : Int) < ((ac.length : Int) : Int) := dq; have h2_ : 0 ≤ ((rd (rd_L11 l0 aa) ab) : Int) := (dq); omega); (first | cases da | (injection da with ea_ en_ ec_; (first | subst ea_ | (injection ea_ with ea_; subst ea_)); subst ec_; clear en_)); have dA := am dc; have ex := am cC; clear dc dS cC; (first | simp only [add_plain] at ag | skip); (first | simp only [add_plain] at aD | skip); obtain ⟨b7, ez, dh, dV, b1, _, _, df⟩ := Kd.S_elem ae.1 [] ((rd (rd_L11 l0 aa) ab) : Int) (dq) (by have h_ : ((rd (rd_L11 l0 aa) ab) : Int) < ((ac.length : Int) : Int) := dq; first | exact h_ | (have e_ := (Kd.S_reads' ae.1).1; omega) | simpa using h_); obtain ⟨d1, rfl, bm⟩ := dV; have bs := b1 0 _ rfl; have cn := bM.1; (try simp only [add_plain] at cn); (try simp only [Nat.add_zero] at bs); (try rw [show ((Kd.slice 3 (Kd.int .i64))).sz = 1 from rfl, Nat.mul_one] at bs); replace bs := Option.some.inj (bs.symm.trans cn); subst bs; clear cn b1 dh; have cd := am (show Kd.R (Kd.int .i64) 3 _ w.heap.size b7 (.slice aQ (rd_L11 ac (rd (rd_L11 l0 aa) ab)).length az) (rd_L11 ac (rd (rd_L11 l0 aa) ab)) from bm); have bd := am df; have ca := am (Kd.S_reads' ae.1).1; clear df bm) | ((with_reducible refine gate_builtin (b := .append) (xs := #[.tmp 53, .tmp 55]) rfl ?_); at_builtin; refine Kd.R_append (Kd.int .i64) (w0 := w) w.heap.size rfl (.tmp 53) (.tmp 55) 39 3 (.int .i64 0) 8 rfl Try.underlying39 info3 rfl (by decide) (by omega) (.slice aQ (rd_L11 ac (rd (rd_L11 l0 aa) ab)).length az) (rd_L11 ac (rd (rd_L11 l0 aa) ab)) aa [.int .i64 aa] (fun k_ => b7 k_ ∨ ((fun _ => True)) k_ ∧ wr.heap.size ≤ k_) (fun _ => False) rfl rfl ?aP (fun _ hk => hk.elim) ?aF ?aO ?aB ?aS ?aL ?_; (case aP => exact rfl); (case aB => exact pbl); (case aF => exact (fun k_ hk => .inr ⟨trivial, hk⟩)); (case aO => exact (by (with_reducible repeat (first | apply Kd.R_alloc | apply Kd.R_drewN | apply Kd.R_drew)); exact Kd.R_mono cd.1 (fun _ hk => .inl hk))); (case aS => exact (below_size pbl)); (case aL => have := cG.1; omega); intro eH es ho hb hg hat; rw [← cI.1] at ho; have bg := am ho; replace HB := am hb; replace bd := am (Kd.H_grown (Kd.H_widen (by repeat (first | exact bd.1 | refine Kd.H_alloc ?_ _ | refine Kd.H_drewN ?_ _ | refine Kd.H_drew ?_))) hg (fun k_ e_ => .inl (cd.1.1 k_ e_))); (try clear ae cd aA bI); clear ho hb hg hat; have eo : 0 ≤ ((rd (rd_L11 l0 aa) ab) : Int) := dq; have eq : ((rd (rd_L11 l0 aa) ab) : Int) < ((ac.length : Int) : Int) := dq; replace eo := eq_true eo; replace eq := eq_true eq; obtain ⟨cA, cY, dO⟩ := Kd.R_slice bg.1; subst dO; obtain ⟨_, _, cr, _, _, b2, _⟩ := Kd.H_raw bd.1 (dq) (by have h_ : ((rd (rd_L11 l0 aa) ab) : Int) < ((ac.length : Int) : Int) := dq; first | exact h_ | (have e_ := (ca.1); omega) | simpa using h_); obtain ⟨_, b5⟩ := Kd.H_at bd.1 (dq) (by have h_ : ((rd (rd_L11 l0 aa) ab) : Int) < ((ac.length : Int) : Int) := dq; first | exact h_ | (have e_ := (ca.1); omega) | simpa using h_); have bv := b2 0 _ rfl; have bq := b5 0; (try simp only [Nat.add_zero] at bv bq); (try rw [show ((Kd.slice 3 (Kd.int .i64))).sz = 1 from rfl, Nat.mul_one] at bv); (try rw [show ((Kd.slice 3 (Kd.int .i64))).sz = 1 from rfl, Nat.mul_one] at bq); have bK := Kd.S_seg0 bd.1 (dq) (by have h_ : ((rd (rd_L11 l0 aa) ab) : Int) < ((ac.length : Int) : Int) := dq; first | exact h_ | (have e_ := (ca.1); omega) | simpa using h_) (seg := [.slice cA bD.length cY]) (j := 0) (show 1 ≤ 1 from by decide) (x' := bD) (Kd.M_row bg.1) (fun _ hk => hk); (try simp only [show ((Kd.slice 3 (Kd.int .i64))).sz = 1 from rfl, Nat.mul_one, Nat.add_zero] at bK); clear b2 b5) | ((with_reducible refine gate_store (t := 39) (p := 57) rfl ?_); refine store_event (t := 39) (p := 57) (v := ?vo_w23) (w1 := (es.setCell ⟨ci, ((rd (rd_L11 l0 aa) ab) : Int).toNat, none⟩ (.slice cA bD.length cY))) ?hg ?ho ?hn ?hr ?_; (case ho => rfl); (case hg => rfl); (case hn => rfl); (case hr => first | (go_simp; done) | (go_simp; rfl)); intro d3 hw; have hg : es.grownBy d3 (some ci) := (by rw [hw]; exact bK.2); have hp_ : Kd.S (Kd.slice 3 (Kd.int .i64)) 39 d3 w.heap.size (fun _ => True) (.slice (some ⟨ci, 0, none⟩) ac.length dI) cy := (by rw [hw, cJ.1]; exact bK.1); clear bK; have ae := am hp_; replace HB := am ((by rw [hw]; exact below_set HB.1 dA.1 : Below w.heap.size w d3)); (try clear bg bd); clear hg hw hp_ cr))
  go_roundg k2
  case measure => have := bF.1; have := bG.1; omega
  case rel => exact ⟨(cy), (wrap64 (ab + 1)), prs, H', ⟨by have := bF.1; have := bG.1; omega⟩, ⟨pks ae.1⟩, ⟨pbg⟩⟩
 rw [if_neg bZ] at H
 have cO : (((rd_L11 ac (rd (rd_L11 l0 aa) ab)).length : Int) == 0) = false := beq_eq_false_iff_ne.mpr bZ
 have cP : (((rd_L11 ac (rd (rd_L11 l0 aa) ab)).length : Int) != 0) = true := bne_iff_ne.mpr bZ
 have ee : ¬ ((rd_L11 ac (rd (rd_L11 l0 aa) ab)) = []) := fun h_ => bZ (by rw [h_]; rfl)
 obtain ⟨aK, a9⟩ : ∃ j_ : Int, (wrap64 (((rd_L11 ac (rd (rd_L11 l0 aa) ab)).length : Int) - 1)) = j_ := ⟨_, rfl⟩
 replace H : (if 0 ≤ (aK) then (if (aK) < ((rd_L11 ac (rd (rd_L11 l0 aa) ab)).length : Int) then (if (rd (rd_L11 ac (rd (rd_L11 l0 aa) ab)) (aK)) = aa then (digraph_Reverse.l1 k2 l0 ac aa l0 (l0.length : Int) aa (rd_L11 l0 aa) ((rd_L11 l0 aa).length : Int) (wrap64 (ab + 1))) else (if (rd_L11 ac (rd (rd_L11 l0 aa) ab)).length < 17592186044416 then (digraph_Reverse.l1 k2 l0 (ac.set ((rd (rd_L11 l0 aa) ab) : Int).toNat ((rd_L11 ac (rd (rd_L11 l0 aa) ab)) ++ [aa])) aa l0 (l0.length : Int) aa (rd_L11 l0 aa) ((rd_L11 l0 aa).length : Int) (wrap64 (ab + 1))) else (none))) else (none)) else (none)) = some r := by first | (rw [a9] at H; exact H) | (simp only [a9] at H ⊢; exact H)
 (try rw [a9] at A12)
 have hji25w : (IntKind.i64.wrap (((rd_L11 ac (rd (rd_L11 l0 aa) ab)).length : Int) - 1)) = aK := (i64_w _).trans a9
 replace H := ifp H
 obtain ⟨eg, H⟩ := H
 have eh := decide_eq_true eg
 clear eg
 replace H := ifp H
 obtain ⟨ei, H⟩ := H
 have ej := decide_eq_true ei
 clear ei
 replace H := ife H
 rcases H with ⟨cQ, cR, H⟩ | ⟨cQ, cR, H⟩
 ·have H' := am H
  clear H
  obtain ⟨cv, cw, bi, aX, aU⟩ := bint aC.1 HB.1 ab
  cases aX
  go_wp2_with (first | ((with_reducible refine gate_callee (f := 73) rfl ?_); refine gC 27 Try.func73 _ (digraph_inside.calls _ _ l0 (rd (rd_L11 l0 aa) ab) true _ (csb cF HB) dm.1 A12.1) ?_; rintro e w' ⟨rfl, ⟨nd, rfl⟩⟩; refine ⟨_, rfl, ?_⟩; obtain ⟨ev, eE, dP⟩ := Kd.S_slice ae.1; subst dP; have ax : 0 ≤ ((rd (rd_L11 l0 aa) ab) : Int) := dq; have ay : (rd (rd_L11 l0 aa) ab) < (ac.length : Int) := dq; obtain ⟨aM, aQ, az, bl, ag, ak, aj⟩ := at_L11 (Kd.S_reads' ae.1).2.2 (rd (rd_L11 l0 aa) ab) ax ay; cases bl; obtain ⟨b0, aI, aG, ap⟩ := Kd.S_get ae.1 [] (rd (rd_L11 l0 aa) ab) ax (by first | exact ay | exact dq | (have e_ := (Kd.S_reads' ae.1).1; omega)); obtain ⟨bc, rfl, ah⟩ := aG; have af := ap 0 _ rfl; rw [Nat.add_zero, show ((Kd.slice 3 (Kd.int .i64))).sz = 1 from rfl, Nat.mul_one] at af; replace af := Option.some.inj (af.symm.trans ag); rw [af] at ah; have aA := am (show Kd.R (Kd.int .i64) 3 _ _ _ _ (rd_L11 ac (rd (rd_L11 l0 aa) ab)) from ah); clear af ah; have a6 := am ag; clear ap aI; have a5 := am aj; have a3 := am ak; clear aj ak; replace ax := eq_true ax; replace ay := eq_true ay; have aV : 0 ≤ ((rd (rd_L11 l0 aa) ab) : Int) := dq; have aW : (rd (rd_L11 l0 aa) ab) < (ac.length : Int) := dq; obtain ⟨bj, b9, cf, cg, al, au, ar⟩ := at_L11 (Kd.S_reads' ae.1).2.2 (rd (rd_L11 l0 aa) ab) aV aW; obtain rfl : aM = bj := (by injection cg); obtain ⟨cX, aZ, aY, aH⟩ := Kd.S_get ae.1 [] (rd (rd_L11 l0 aa) ab) aV (by first | exact aW | exact dq | (have e_ := (Kd.S_reads' ae.1).1; omega)); obtain ⟨bW, rfl, ao⟩ := aY; have ai := aH 0 _ rfl; rw [Nat.add_zero, show ((Kd.slice 3 (Kd.int .i64))).sz = 1 from rfl, Nat.mul_one] at ai; replace ai := Option.some.inj (ai.symm.trans al); rw [ai] at ao; have a4 := am (show Kd.R (Kd.int .i64) 3 _ _ _ _ (rd_L11 ac (rd (rd_L11 l0 aa) ab)) from ao); clear ai ao; have bN := am al; clear aH aZ; have aq := am ar; have bH := am au; clear ar au; replace aV := eq_true aV; replace aW := eq_true aW; have ea_ := Option.some.inj (ag.symm.trans al); injection ea_ with ea_ en_ ec_; subst ea_; subst ec_; clear en_; have a1 : 0 ≤ ((aK) : Int) := dq; have a2 : (aK) < ((rd_L11 ac (rd (rd_L11 l0 aa) ab)).length : Int) := dq; obtain ⟨bk, ch, bQ⟩ := Kd.at_int (by repeat (first | (with_reducible exact aq.1) | (with_reducible refine Kd.C_alloc ?_ _) | (with_reducible refine Kd.C_drewN ?_ _) | (with_reducible refine Kd.C_drew ?_) | exact aq.1)) (aK) a1 a2; cases ch; replace a1 := eq_true a1; replace a2 := eq_true a2))
  go_roundg k2
  case measure => have := bF.1; have := bG.1; omega
  case rel => exact ⟨(ac), (wrap64 (ab + 1)), prs, H', ⟨by have := bF.1; have := bG.1; omega⟩, ⟨pks ae.1⟩, ⟨pbg⟩⟩
 replace H := ifp H
 obtain ⟨ek, H⟩ := H
 have cH := am ek
 clear ek
 obtain ⟨bE, bB⟩ : ∃ y_ : List Int, y_ = ((rd_L11 ac (rd (rd_L11 l0 aa) ab)) ++ [aa]) := ⟨_, rfl⟩
 replace H : (digraph_Reverse.l1 k2 l0 (ac.set ((rd (rd_L11 l0 aa) ab) : Int).toNat bE) aa l0 (l0.length : Int) aa (rd_L11 l0 aa) ((rd_L11 l0 aa).length : Int) (wrap64 (ab + 1))) = some r := hrp bB H
 have cK := am bB
 clear bB
 obtain ⟨cz, bC⟩ : ∃ y_ : List (List Int), y_ = (ac.set ((rd (rd_L11 l0 aa) ab) : Int).toNat bE) := ⟨_, rfl⟩
 replace H : (digraph_Reverse.l1 k2 l0 cz aa l0 (l0.length : Int) aa (rd_L11 l0 aa) ((rd_L11 l0 aa).length : Int) (wrap64 (ab + 1))) = some r := hrp bC H
 have cL := am bC
 clear bC
 have H' := am H
 clear H
 obtain ⟨cv, cw, bi, aX, aU⟩ := bint aC.1 HB.1 ab
 cases aX
 go_wp2_with (first | ((with_reducible refine gate_callee (f := 73) rfl ?_); refine gC 27 Try.func73 _ (digraph_inside.calls _ _ l0 (rd (rd_L11 l0 aa) ab) true _ (csb cF HB) dm.1 A12.1) ?_; rintro e w' ⟨rfl, ⟨nd, rfl⟩⟩; refine ⟨_, rfl, ?_⟩; (try (rw [drewN_self wr]; generalize hq_ : World.drewN wr _ = wr; replace ae : Aside0 (Kd.S (Kd.slice 3 (Kd.int .i64)) 39 wr w.heap.size (fun _ => True) bV ac) := ⟨by rw [← hq_]; exact (pks ae.1)⟩; replace HB : Aside0 (Below w.heap.size w wr) := ⟨by rw [← hq_]; exact pbl⟩; clear hq_)); obtain ⟨ew, dJ, dQ⟩ := Kd.S_slice ae.1; subst dQ; have ax : 0 ≤ ((rd (rd_L11 l0 aa) ab) : Int) := dq; have ay : (rd (rd_L11 l0 aa) ab) < (ac.length : Int) := dq; obtain ⟨aM, aQ, az, bl, ag, ak, aj⟩ := at_L11 (Kd.S_reads' ae.1).2.2 (rd (rd_L11 l0 aa) ab) ax ay; cases bl; obtain ⟨b0, aI, aG, ap⟩ := Kd.S_get ae.1 [] (rd (rd_L11 l0 aa) ab) ax (by first | exact ay | exact dq | (have e_ := (Kd.S_reads' ae.1).1; omega)); obtain ⟨bc, rfl, ah⟩ := aG; have af := ap 0 _ rfl; rw [Nat.add_zero, show ((Kd.slice 3 (Kd.int .i64))).sz = 1 from rfl, Nat.mul_one] at af; replace af := Option.some.inj (af.symm.trans ag); rw [af] at ah; have aA := am (show Kd.R (Kd.int .i64) 3 _ _ _ _ (rd_L11 ac (rd (rd_L11 l0 aa) ab)) from ah); clear af ah; have a6 := am ag; clear ap aI; have a5 := am aj; have a3 := am ak; clear aj ak; replace ax := eq_true ax; replace ay := eq_true ay; have aV : 0 ≤ ((rd (rd_L11 l0 aa) ab) : Int) := dq; have aW : (rd (rd_L11 l0 aa) ab) < (ac.length : Int) := dq; obtain ⟨bj, b9, cf, cg, al, au, ar⟩ := at_L11 (Kd.S_reads' ae.1).2.2 (rd (rd_L11 l0 aa) ab) aV aW; obtain rfl : aM = bj := (by injection cg); obtain ⟨cX, aZ, aY, aH⟩ := Kd.S_get ae.1 [] (rd (rd_L11 l0 aa) ab) aV (by first | exact aW | exact dq | (have e_ := (Kd.S_reads' ae.1).1; omega)); obtain ⟨bW, rfl, ao⟩ := aY; have ai := aH 0 _ rfl; rw [Nat.add_zero, show ((Kd.slice 3 (Kd.int .i64))).sz = 1 from rfl, Nat.mul_one] at ai; replace ai := Option.some.inj (ai.symm.trans al); rw [ai] at ao; have a4 := am (show Kd.R (Kd.int .i64) 3 _ _ _ _ (rd_L11 ac (rd (rd_L11 l0 aa) ab)) from ao); clear ai ao; have bN := am al; clear aH aZ; have aq := am ar; have bH := am au; clear ar au; replace aV := eq_true aV; replace aW := eq_true aW; have ea_ := Option.some.inj (ag.symm.trans al); injection ea_ with ea_ en_ ec_; subst ea_; subst ec_; clear en_; have a1 : 0 ≤ ((aK) : Int) := dq; have a2 : (aK) < ((rd_L11 ac (rd (rd_L11 l0 aa) ab)).length : Int) := dq; obtain ⟨bk, ch, bQ⟩ := Kd.at_int (by repeat (first | (with_reducible exact aq.1) | (with_reducible refine Kd.C_alloc ?_ _) | (with_reducible refine Kd.C_drewN ?_ _) | (with_reducible refine Kd.C_drew ?_) | exact aq.1)) (aK) a1 a2; cases ch; replace a1 := eq_true a1; replace a2 := eq_true a2; have bS : 0 ≤ ((rd (rd_L11 l0 aa) ab) : Int) := dq; have bU : (rd (rd_L11 l0 aa) ab) < (ac.length : Int) := dq; obtain ⟨cN, dz, dE, dM, aE, bb, a8⟩ := at_L11 (Kd.S_reads' ae.1).2.2 (rd (rd_L11 l0 aa) ab) bS bU; obtain rfl : aM = cN := (by injection dM); obtain ⟨em, cq, cm, bp⟩ := Kd.S_get ae.1 [] (rd (rd_L11 l0 aa) ab) bS (by first | exact bU | exact dq | (have e_ := (Kd.S_reads' ae.1).1; omega)); obtain ⟨dw, rfl, aT⟩ := cm; have aw := bp 0 _ rfl; rw [Nat.add_zero, show ((Kd.slice 3 (Kd.int .i64))).sz = 1 from rfl, Nat.mul_one] at aw; replace aw := Option.some.inj (aw.symm.trans aE); rw [aw] at aT; have bJ := am (show Kd.R (Kd.int .i64) 3 _ _ _ _ (rd_L11 ac (rd (rd_L11 l0 aa) ab)) from aT); clear aw aT; have bO := am aE; clear bp cq; have du := am a8; have dr := am bb; clear a8 bb; replace bS := eq_true bS; replace bU := eq_true bU; have ea_ := Option.some.inj (ag.symm.trans aE); injection ea_ with ea_ en_ ec_; subst ea_; subst ec_; clear en_; obtain ⟨cj, eF, db, de, dU, eC, cD⟩ := Kd.S_form ae.1 (by have h_ : ((rd (rd_L11 l0 aa) ab) : Int) < ((ac.length : Int) : Int) := dq; have h2_ : 0 ≤ ((rd (rd_L11 l0 aa) ab) : Int) := (dq); omega); (first | cases db | (injection db with ea_ en_ ec_; (first | subst ea_ | (injection ea_ with ea_; subst ea_)); subst ec_; clear en_)); have dB := am de; have ey := am cD; clear de dU cD; (first | simp only [add_plain] at ag | skip); (first | simp only [add_plain] at al | skip); (first | simp only [add_plain] at aE | skip); obtain ⟨b8, eA, di, dW, b3, _, _, dg⟩ := Kd.S_elem ae.1 [] ((rd (rd_L11 l0 aa) ab) : Int) (dq) (by have h_ : ((rd (rd_L11 l0 aa) ab) : Int) < ((ac.length : Int) : Int) := dq; first | exact h_ | (have e_ := (Kd.S_reads' ae.1).1; omega) | simpa using h_); obtain ⟨d2, rfl, bn⟩ := dW; have bu := b3 0 _ rfl; have co := bO.1; (try simp only [add_plain] at co); (try simp only [Nat.add_zero] at bu); (try rw [show ((Kd.slice 3 (Kd.int .i64))).sz = 1 from rfl, Nat.mul_one] at bu); replace bu := Option.some.inj (bu.symm.trans co); subst bu; clear co b3 di; have ce := am (show Kd.R (Kd.int .i64) 3 _ w.heap.size b8 (.slice (some bk) (rd_L11 ac (rd (rd_L11 l0 aa) ab)).length az) (rd_L11 ac (rd (rd_L11 l0 aa) ab)) from bn); have bf := am dg; have cb := am (Kd.S_reads' ae.1).1; clear dg bn) | ((with_reducible refine gate_builtin (b := .append) (xs := #[.tmp 53, .tmp 55]) rfl ?_); at_builtin; refine Kd.R_append (Kd.int .i64) (w0 := w) w.heap.size rfl (.tmp 53) (.tmp 55) 39 3 (.int .i64 0) 8 rfl Try.underlying39 info3 rfl (by decide) (by omega) (.slice (some bk) (rd_L11 ac (rd (rd_L11 l0 aa) ab)).length az) (rd_L11 ac (rd (rd_L11 l0 aa) ab)) aa [.int .i64 aa] (fun k_ => b8 k_ ∨ ((fun _ => True)) k_ ∧ wr.heap.size ≤ k_) (fun _ => False) rfl rfl ?aP (fun _ hk => hk.elim) ?aF ?aO ?aB ?aS ?aL ?_; (case aP => exact rfl); (case aB => exact pbl); (case aF => exact (fun k_ hk => .inr ⟨trivial, hk⟩)); (case aO => exact (by (with_reducible repeat (first | apply Kd.R_alloc | apply Kd.R_drewN | apply Kd.R_drew)); exact Kd.R_mono ce.1 (fun _ hk => .inl hk))); (case aS => exact (below_size pbl)); (case aL => have := cH.1; omega); intro eI et ho hb hg hat; rw [← cK.1] at ho; have bh := am ho; replace HB := am hb; replace bf := am (Kd.H_grown (Kd.H_widen (by repeat (first | exact bf.1 | refine Kd.H_alloc ?_ _ | refine Kd.H_drewN ?_ _ | refine Kd.H_drew ?_))) hg (fun k_ e_ => .inl (ce.1.1 k_ e_))); (try clear ae ce aA a4 bJ); clear ho hb hg hat; have ep : 0 ≤ ((rd (rd_L11 l0 aa) ab) : Int) := dq; have er : ((rd (rd_L11 l0 aa) ab) : Int) < ((ac.length : Int) : Int) := dq; replace ep := eq_true ep; replace er := eq_true er; obtain ⟨cB, cZ, dR⟩ := Kd.R_slice bh.1; subst dR; obtain ⟨_, _, cu, _, _, b4, _⟩ := Kd.H_raw bf.1 (dq) (by have h_ : ((rd (rd_L11 l0 aa) ab) : Int) < ((ac.length : Int) : Int) := dq; first | exact h_ | (have e_ := (cb.1); omega) | simpa using h_); obtain ⟨_, b6⟩ := Kd.H_at bf.1 (dq) (by have h_ : ((rd (rd_L11 l0 aa) ab) : Int) < ((ac.length : Int) : Int) := dq; first | exact h_ | (have e_ := (cb.1); omega) | simpa using h_); have bw := b4 0 _ rfl; have br := b6 0; (try simp only [Nat.add_zero] at bw br); (try rw [show ((Kd.slice 3 (Kd.int .i64))).sz = 1 from rfl, Nat.mul_one] at bw); (try rw [show ((Kd.slice 3 (Kd.int .i64))).sz = 1 from rfl, Nat.mul_one] at br); have bL := Kd.S_seg0 bf.1 (dq) (by have h_ : ((rd (rd_L11 l0 aa) ab) : Int) < ((ac.length : Int) : Int) := dq; first | exact h_ | (have e_ := (cb.1); omega) | simpa using h_) (seg := [.slice cB bE.length cZ]) (j := 0) (show 1 ≤ 1 from by decide) (x' := bE) (Kd.M_row bh.1) (fun _ hk => hk); (try simp only [show ((Kd.slice 3 (Kd.int .i64))).sz = 1 from rfl, Nat.mul_one, Nat.add_zero] at bL); clear b4 b6) | ((with_reducible refine gate_store (t := 39) (p := 57) rfl ?_); refine store_event (t := 39) (p := 57) (v := ?vo_w36) (w1 := (et.setCell ⟨cj, ((rd (rd_L11 l0 aa) ab) : Int).toNat, none⟩ (.slice cB bE.length cZ))) ?hg ?ho ?hn ?hr ?_; (case ho => rfl); (case hg => rfl); (case hn => rfl); (case hr => first | (go_simp; done) | (go_simp; rfl)); intro d4 hw; have hg : et.grownBy d4 (some cj) := (by rw [hw]; exact bL.2); have hp_ : Kd.S (Kd.slice 3 (Kd.int .i64)) 39 d4 w.heap.size (fun _ => True) (.slice (some ⟨cj, 0, none⟩) ac.length dJ) cz := (by rw [hw, cL.1]; exact bL.1); clear bL; have ae := am hp_; replace HB := am ((by rw [hw]; exact below_set HB.1 dB.1 : Below w.heap.size w d4)); (try clear bh bf); clear hg hw hp_ cu))
 go_roundg k2
 case measure => have := bF.1; have := bG.1; omega
 case rel => exact ⟨(cz), (wrap64 (ab + 1)), prs, H', ⟨by have := bF.1; have := bG.1; omega⟩, ⟨pks ae.1⟩, ⟨pbg⟩⟩

/-! ### petrinetlaw43_line: function 34 -/
def petrinetlaw43_line.f  : Option (ByteArray × (List (S52)) × (List (S48))) := some ((⟨#[110]⟩ : ByteArray), (([(⟨(⟨#[112]⟩ : ByteArray), 0, 0⟩ : S52), (⟨(⟨#[113]⟩ : ByteArray), 2, 0⟩ : S52)] : List (S52))), (([(⟨(⟨#[116]⟩ : ByteArray), (([(⟨0, 1⟩ : S55)] : List (S55))), (([(⟨1, 1⟩ : S55)] : List (S55))), ([] : List (S55)), 0⟩ : S48)] : List (S48))))
set_option maxHeartbeats 8000000 in
set_option maxRecDepth 100000 in
theorem petrinetlaw43_line.calls  (r1 : ByteArray) (r2 : List (S52)) (r3 : List (S48)) (w : World) (h : petrinetlaw43_line.f  = some (r1, r2, r3)) :
  Calls Try.prog 34 #[] w fun e w' => ∃ v1_ v2_ : Value, e = .returned (.agg #[.string r1, v1_, v2_]) ∧ Kd.R k52 52 w' w.heap.size (fun k_ => (w.heap.size ≤ k_)) v1_ r2 ∧ Kd.N k48 48 w' w.heap.size (fun k_ => (w.heap.size ≤ k_) ∧ some k_ ≠ (v1_ : Value).ownBlock) v2_ r3 ∧ Below w.heap.size w w' := by
 have aQ := Try.underlying25
 have aS := Try.underlying52
 have aT := Try.underlying55
 have aR := Try.underlying48
 have HB := am (Below.refl w.heap.size w)
 have H := h
 unfold petrinetlaw43_line.f at H
 clear h
 obtain ⟨aq, ak⟩ : ∃ y_ : List (S52), y_ = (([(⟨(⟨#[112]⟩ : ByteArray), 0, 0⟩ : S52), (⟨(⟨#[113]⟩ : ByteArray), 2, 0⟩ : S52)] : List (S52))) := ⟨_, rfl⟩
 replace H : (some ((⟨#[110]⟩ : ByteArray), aq, (([(⟨(⟨#[116]⟩ : ByteArray), (([(⟨0, 1⟩ : S55)] : List (S55))), (([(⟨1, 1⟩ : S55)] : List (S55))), ([] : List (S55)), 0⟩ : S48)] : List (S48))))) = some (r1, r2, r3) := hrp ak H
 have au := am ak
 clear ak
 obtain ⟨af, al⟩ : ∃ y_ : List (S55), y_ = (([(⟨0, 1⟩ : S55)] : List (S55))) := ⟨_, rfl⟩
 replace H : (some ((⟨#[110]⟩ : ByteArray), aq, (([(⟨(⟨#[116]⟩ : ByteArray), af, (([(⟨1, 1⟩ : S55)] : List (S55))), ([] : List (S55)), 0⟩ : S48)] : List (S48))))) = some (r1, r2, r3) := hrp al H
 have av := am al
 clear al
 obtain ⟨ah, ao⟩ : ∃ y_ : List (S55), y_ = (([(⟨1, 1⟩ : S55)] : List (S55))) := ⟨_, rfl⟩
 replace H : (some ((⟨#[110]⟩ : ByteArray), aq, (([(⟨(⟨#[116]⟩ : ByteArray), af, ah, ([] : List (S55)), 0⟩ : S48)] : List (S48))))) = some (r1, r2, r3) := hrp ao H
 have aw := am ao
 clear ao
 obtain ⟨aC, ap⟩ : ∃ y_ : List (S48), y_ = (([(⟨(⟨#[116]⟩ : ByteArray), af, ah, ([] : List (S55)), 0⟩ : S48)] : List (S48))) := ⟨_, rfl⟩
 replace H : (some ((⟨#[110]⟩ : ByteArray), aq, aC)) = some (r1, r2, r3) := hrp ap H
 have ax := am ap
 clear ap
 simp only [Option.some.injEq, Prod.mk.injEq] at H
 obtain ⟨rfl, rfl, rfl⟩ := H
 go_enter Try.func34, Try.ntmps34
 go_wp2_with (first | ((with_reducible refine gate_dst (N := 0) rfl ?_); refine box_ev (N := 0) (cs := #[.string (⟨#[]⟩ : ByteArray), .slice none 0 0, .slice none 0 0]) (t := 25) ?_; intro ac hg w1 hbox hb; have aa := am hbox; have az := gwl hg; have aL := az; replace HB := bsl hb; clear hb hbox hg) | ((with_reducible refine gate_dst (N := 3) rfl ?_); refine Kd.R_lit k52 _ 52 ?hg (N := 3) ?hd (xs := ([(⟨(⟨#[112]⟩ : ByteArray), 0, 0⟩ : S52), (⟨(⟨#[113]⟩ : ByteArray), 2, 0⟩ : S52)] : List (S52))) (inner := [.string (⟨#[112]⟩ : ByteArray), .int .i64 0, .int .i64 0, .string (⟨#[113]⟩ : ByteArray), .int .i64 2, .int .i64 0]) (ok := fun _ => True) (okp := fun _ => True) ?hr ?hp (fun _ hk => hk) trivial (Below.refl _ _) (Nat.le_refl _) (by simp) ?_; (case hd => rfl); (case hg => rfl); (case hr => first | (go_simp; done) | (go_simp; rfl)); (case hp => exact (Reps.c3 (show Kd.M k52 _ _ _ (⟨(⟨#[112]⟩ : ByteArray), 0, 0⟩ : S52) [.string (⟨#[112]⟩ : ByteArray), .int .i64 0, .int .i64 0] from (k52_mkM _ _ _ (⟨(⟨#[112]⟩ : ByteArray), 0, 0⟩ : S52) )) (Reps.c3 (show Kd.M k52 _ _ _ (⟨(⟨#[113]⟩ : ByteArray), 2, 0⟩ : S52) [.string (⟨#[113]⟩ : ByteArray), .int .i64 2, .int .i64 0] from (k52_mkM _ _ _ (⟨(⟨#[113]⟩ : ByteArray), 2, 0⟩ : S52) )) (Reps.none _ _)))); intro ag w2 aA hb hg_ hnew_; clear hg_ hnew_; (first | rw [← au.1] at aA | (simp only [Int.reduceToNat] at aA; rw [← au.1] at aA)); have ab := am (Kd.R_lower (Kd.R_newM (M := fun k_ => (w.heap.size ≤ k_)) aA (below_size pbg) (fun k_ h_ => h_)) (below_size pbg)); replace aa := bbh aa hb; replace HB := bst hb; clear hb aA) | ((with_reducible refine gate_dst (N := 5) rfl ?_); refine Kd.R_lit k55 _ 55 ?hg (N := 5) ?hd (xs := ([(⟨0, 1⟩ : S55)] : List (S55))) (inner := [.int .i64 0, .int .i64 1]) (ok := fun _ => True) (okp := fun _ => True) ?hr ?hp (fun _ hk => hk) trivial (Below.refl _ _) (Nat.le_refl _) (by simp) ?_; (case hd => rfl); (case hg => rfl); (case hr => first | (go_simp; done) | (go_simp; rfl)); (case hp => exact (Reps.c2 (show Kd.M k55 _ _ _ (⟨0, 1⟩ : S55) [.int .i64 0, .int .i64 1] from (k55_mkM _ _ _ (⟨0, 1⟩ : S55) )) (Reps.none _ _))); intro aU w4 aB hb hg_ hnew_; clear hg_ hnew_; (first | rw [← av.1] at aB | (simp only [Int.reduceToNat] at aB; rw [← av.1] at aB)); have ae := am (Kd.R_lower (Kd.R_newM (M := fun k_ => (w.heap.size ≤ k_)) aB (below_size pbg) (fun k_ h_ => h_)) (below_size pbg)); replace ab := rbw ab hb; replace aa := bbh aa hb; replace HB := bst hb; clear hb aB) | ((with_reducible refine gate_dst (N := 7) rfl ?_); refine Kd.R_lit k55 _ 55 ?hg (N := 7) ?hd (xs := ([(⟨1, 1⟩ : S55)] : List (S55))) (inner := [.int .i64 1, .int .i64 1]) (ok := fun _ => True) (okp := fun _ => True) ?hr ?hp (fun _ hk => hk) trivial (Below.refl _ _) (Nat.le_refl _) (by simp) ?_; (case hd => rfl); (case hg => rfl); (case hr => first | (go_simp; done) | (go_simp; rfl)); (case hp => exact (Reps.c2 (show Kd.M k55 _ _ _ (⟨1, 1⟩ : S55) [.int .i64 1, .int .i64 1] from (k55_mkM _ _ _ (⟨1, 1⟩ : S55) )) (Reps.none _ _))); intro aV w6 ay hb hg_ hnew_; clear hg_ hnew_; (first | rw [← aw.1] at ay | (simp only [Int.reduceToNat] at ay; rw [← aw.1] at ay)); have ai := am (Kd.R_lower (Kd.R_new' (Kd.R_newM (M := fun k_ => (w.heap.size ≤ k_)) ay (below_size pbg) (fun k_ h_ => h_)) (Kd.R_lt (pkr ae.1))) (below_size pbg)); replace ab := rbw ab hb; replace ae := am (Kd.R_elder' (pkr ae.1) (Kd.R_base ay) hb); replace aa := bbh aa hb; replace HB := bst hb; clear hb ay; obtain ⟨aJ, aM, aO⟩ := Kd.R_slice ai.1; subst aO; obtain ⟨aK, aN, aP⟩ := Kd.R_slice ae.1; subst aP) | ((with_reducible refine gate_dst (N := 9) rfl ?_); refine Kd.N_lit k48 _ 48 ?hg (N' := 9) ?hd (xs := ([(⟨(⟨#[116]⟩ : ByteArray), af, ah, ([] : List (S55)), 0⟩ : S48)] : List (S48))) (inner := [.string (⟨#[116]⟩ : ByteArray), .slice aK af.length aN, .slice aJ ah.length aM, .slice none 0 0, .int .i64 0]) (ok := (fun k_ => (w.heap.size ≤ k_) ∧ some k_ ≠ (ag : Value).ownBlock ∧ k_ ≠ ac)) (okp := (fun k_ => (w.heap.size ≤ k_) ∧ some k_ ≠ (ag : Value).ownBlock ∧ k_ ≠ ac)) ?hr ?hp (fun _ hk => hk) ((show ∀ k_, w6.heap.size ≤ k_ → (fun k_ => (w.heap.size ≤ k_) ∧ some k_ ≠ (ag : Value).ownBlock ∧ k_ ≠ ac) k_ from fun k_ hk => ⟨(Nat.le_trans (below_size pbg) hk), Kd.fresh' (Kd.R_lt (pkr ab.1)) k_ hk, Kd.freshB (g := ac) (o := .cells #[.string (⟨#[]⟩ : ByteArray), .slice none 0 0, .slice none 0 0] 25 (0, 0)) (by exact pbk aa.1) k_ hk⟩) _ (Nat.le_refl _)) (Below.refl _ _) (Nat.le_refl _) (by simp) ?_; (case hd => rfl); (case hg => rfl); (case hr => first | (go_simp; done) | (go_simp; rfl)); (case hp => exact (Reps.c5 (show Kd.FK k48 _ _ (⟨(⟨#[116]⟩ : ByteArray), af, ah, ([] : List (S55)), 0⟩ : S48) [.string (⟨#[116]⟩ : ByteArray), .slice aK af.length aN, .slice aJ ah.length aM, .slice none 0 0, .int .i64 0] from (k48_mkF _ _ (⟨(⟨#[116]⟩ : ByteArray), af, ah, ([] : List (S55)), 0⟩ : S48) (Kd.R_reads' (Kd.R_mono (ok' := (fun k_ => (w.heap.size ≤ k_) ∧ some k_ ≠ (ag : Value).ownBlock ∧ k_ ≠ ac)) (Kd.R_types (Kd.R_apart' (ae.1) (Kd.R_typed ab.1) (by decide)) aa.1 (by decide)) (fun k_ hk => ⟨hk.1.1.1.1, ⟨hk.1.2, hk.2⟩⟩))).2.1 (Kd.R_F (Kd.R_mono (ok' := (fun k_ => (w.heap.size ≤ k_) ∧ some k_ ≠ (ag : Value).ownBlock ∧ k_ ≠ ac)) (Kd.R_types (Kd.R_apart' (ae.1) (Kd.R_typed ab.1) (by decide)) aa.1 (by decide)) (fun k_ hk => ⟨hk.1.1.1.1, ⟨hk.1.2, hk.2⟩⟩))) (Kd.R_reads' (Kd.R_mono (ok' := (fun k_ => (w.heap.size ≤ k_) ∧ some k_ ≠ (ag : Value).ownBlock ∧ k_ ≠ ac)) (Kd.R_types (Kd.R_apart' (ai.1) (Kd.R_typed ab.1) (by decide)) aa.1 (by decide)) (fun k_ hk => ⟨hk.1.1.1.1, ⟨hk.1.2, hk.2⟩⟩))).2.1 (Kd.R_F (Kd.R_mono (ok' := (fun k_ => (w.heap.size ≤ k_) ∧ some k_ ≠ (ag : Value).ownBlock ∧ k_ ≠ ac)) (Kd.R_types (Kd.R_apart' (ai.1) (Kd.R_typed ab.1) (by decide)) aa.1 (by decide)) (fun k_ hk => ⟨hk.1.1.1.1, ⟨hk.1.2, hk.2⟩⟩))) (Nat.le_refl _) (Kd.F_nil _ _ _))) (Reps.none _ _))); intro aW aX aj hb hg_ hnew_; clear hg_ hnew_; (first | rw [← ax.1] at aj | (simp only [Int.reduceToNat] at aj; rw [← ax.1] at aj)); have ar := am (Kd.N_lower aj (below_size pbg)); replace ab := rbw ab hb; replace aa := bbh aa hb; replace HB := bst hb; (try clear ae ai); clear hb aj; obtain ⟨aD, aF, aH⟩ := Kd.N_slice ar.1; subst aH; obtain ⟨aE, aG, aI⟩ := Kd.R_slice ab.1; subst aI; have aY := cf3 aa.1))
 refine bodyPost_ret (results_cell_row rfl _ _ ac 25 #[.string (⟨#[110]⟩ : ByteArray), .slice aE aq.length aG, .slice aD aC.length aF] (0, 0) _ rfl (by (with_reducible repeat (first | refine blk_drewN ?_ _ | refine blk_drew ?_ | refine blk_alloc ?_ _)); exact bp3 (pbk aa.1)) Try.underlying25 rfl (by kernel_rfl)) rfl ?_
 exact ⟨_, _, per, by (with_reducible repeat (first | apply Kd.R_alloc | apply Kd.R_drewN | apply Kd.R_drew)); exact Kd.R_mono (fR3 ac (Kd.R_types ab.1 aa.1 (by decide)) (fun _ hk => hk.2)) (fun _ hk => hk.1.1), by (with_reducible repeat (first | apply Kd.N_alloc | apply Kd.N_drewN | apply Kd.N_drew)); exact Kd.N_mono (fN3 ac (Kd.N_mono ar.1 (fun k_ hk => (⟨hk, hk.2.2⟩ : _ ∧ k_ ≠ ac))) (fun _ hk => hk.2)) (fun _ hk => ⟨hk.1.1, hk.1.2.1⟩), pbg⟩

/-! ### net_Name: function 59 -/
-- IMPORTS Derived.Laws.RangeString
/-- A byte of a name, at its place. -/
def nameC (i c : Int) : Bool := (decide (97 ≤ c) && decide (c ≤ 122)) || c == 95 || (decide (0 < i) && ((decide (48 ≤ c) && decide (c ≤ 57)) || c == 46))
def nameB (s : ByteArray) : Bool := decide (1 ≤ s.size) && decide (s.size ≤ 16) && (List.range s.size).all fun i => nameC (i : Int) (bt s (i : Int))
def net_Name.f (a0 : ByteArray) : Option Bool := some (nameB a0)
/-- A sign that is no single byte is none of a name. -/
theorem decode_far (s : ByteArray) (pos : Nat) (h : pos < s.size) (ha : ¬ (s[pos]'h).toNat < 128) : ¬ (Utf8.decode s pos).1 < 128 := by
 have e : s.get! (pos + 0) = s[pos]'h := by
  show s.get! pos = _
  simp [ByteArray.get!, getElem!_pos, h]
  rfl
 unfold Utf8.decode
 simp only [e]
 rw [if_neg ha]
 repeat' first | split
 all_goals simp_all [Utf8.runeError]
 all_goals omega
theorem next_some {b pos : Nat} {s : ByteArray} {W : World} (P : Program) (ty : TypeId) (hb : W.heap[b]? = some (.stringIter s pos)) (h : pos < s.size) :
  (Instr.next (.pointer (some ⟨b, 0, none⟩)) true ty).run P W = .ok (.tuple #[.bool true, .int .i64 pos, .int .i32 (Utf8.decode s pos).1]) { W with heap := W.heap.setIfInBounds b (.stringIter s (pos + (Utf8.decode s pos).2)) } := by
 simp [Instr.next, getObj, setObj, Sem.run, hb, h, goInt]
theorem next_none {b pos : Nat} {s : ByteArray} {W : World} (P : Program) (ty : TypeId) (hb : W.heap[b]? = some (.stringIter s pos)) (h : ¬ pos < s.size) :
  (Instr.next (.pointer (some ⟨b, 0, none⟩)) true ty).run P W = .ok (.tuple #[.bool false]) W := by
 simp [Instr.next, getObj, Sem.run, hb, h]
theorem iter_step {w wr w2 : World} {b pos pos' : Nat} {s : ByteArray} (hb : wr.heap[b]? = some (.stringIter s pos)) (hB : Below w.heap.size w wr) (hn : w.heap.size ≤ b) (h : w2 = { wr with heap := wr.heap.setIfInBounds b (.stringIter s pos') }) :
  w2.heap[b]? = some (.stringIter s pos') ∧ Below w.heap.size w w2 := by
 subst h
 refine ⟨?_, hB.os, hB.tape, hB.output, by simpa using hB.size, fun k hk => ?_⟩
 ·obtain ⟨h1, h2⟩ := Array.getElem?_eq_some_iff.mp hb
  simp [Array.getElem?_setIfInBounds, h1]
 ·rw [← hB.block k hk]
  show (wr.heap.setIfInBounds b _)[k]? = _
  rw [Array.getElem?_setIfInBounds, if_neg (by omega)]
theorem nameB_no {s : ByteArray} {i : Nat} (hi : i < s.size) (h : nameC (i : Int) (bt s (i : Int)) = false) : nameB s = false := by
 unfold nameB
 rw [Bool.and_eq_false_iff]
 refine .inr (Bool.eq_false_iff.2 fun e => ?_)
 have := List.all_eq_true.1 e i (List.mem_range.2 hi)
 rw [h] at this
 cases this
theorem nameB_yes {s : ByteArray} (h1 : 1 ≤ s.size) (h2 : s.size ≤ 16) (h : ∀ i, i < s.size → nameC (i : Int) (bt s (i : Int)) = true) : nameB s = true := by
 unfold nameB
 rw [decide_eq_true h1, decide_eq_true h2, Bool.true_and, Bool.true_and]
 exact List.all_eq_true.2 fun i hi => h i (List.mem_range.1 hi)
/-- The sign at a place: its first byte if that is a sign, and none of a name otherwise. -/
theorem sign_at (s : ByteArray) (pos : Nat) (h : pos < s.size) (i : Int) : nameC i ((Utf8.decode s pos).1 : Int) = nameC i (bt s (pos : Int)) ∧ (nameC i ((Utf8.decode s pos).1 : Int) = true → (Utf8.decode s pos).2 = 1) := by
 have hb : bt s (pos : Int) = ((s[pos]'h).toNat : Int) := by unfold bt; rw [dif_pos (by simpa using h)]; simp
 by_cases ha : (s[pos]'h).toNat < 128
 ·rw [decode_ascii s pos h ha]
  exact ⟨by rw [hb], fun _ => rfl⟩
 ·have hf := decode_far s pos h ha
  have no : ∀ c : Int, ¬ c < 128 → nameC i c = false := fun c hc => by
   unfold nameC
   rw [decide_eq_false (show ¬ c ≤ 122 by omega), decide_eq_false (show ¬ c ≤ 57 by omega), beq_eq_false_iff_ne.2 (show c ≠ 95 by omega), beq_eq_false_iff_ne.2 (show c ≠ 46 by omega)]
   simp
  rw [no _ (by omega), no (bt s (pos : Int)) (by rw [hb]; omega)]
  exact ⟨rfl, fun h => by cases h⟩

set_option maxHeartbeats 4000000 in
set_option maxRecDepth 100000 in
theorem net_Name.calls (a0 : ByteArray) (r : Bool) (w : World) (h : net_Name.f a0 = some r) :
  Calls Try.prog 59 #[.string a0] w fun e w' => e = .returned (.bool r) ∧ Below w.heap.size w w' := by
 have hr : nameB a0 = r := Option.some.inj h
 have HR := Aside0.mk hr
 clear h hr
 by_cases c1 : (a0.size : Int) < 1
 ·have hf : nameB a0 = false := by unfold nameB; rw [decide_eq_false (by omega)]; rfl
  have c1b : decide ((a0.size : Int) < 1) = true := decide_eq_true c1
  have c1c : decide (a0.size < 1) = true := decide_eq_true (by omega)
  have aa := Aside0.mk (HR.out.symm.trans hf)
  clear hf HR c1
  go_enter Try.func59, Try.ntmps59
  go_wp2
  go_ret
  have e_ := aa.out
  subst e_
  exact ⟨rfl, Below.refl _ _⟩
 ·have c1b : decide ((a0.size : Int) < 1) = false := decide_eq_false c1
  have c1c : decide (a0.size < 1) = false := decide_eq_false (by omega)
  by_cases c2 : (16 : Int) < (a0.size : Int)
  ·have hf : nameB a0 = false := by unfold nameB; rw [decide_eq_false (show ¬ a0.size ≤ 16 by omega)]; simp
   have c2b : decide ((16 : Int) < (a0.size : Int)) = true := decide_eq_true c2
   have c2c : decide (16 < a0.size) = true := decide_eq_true (by omega)
   have aa := Aside0.mk (HR.out.symm.trans hf)
   clear hf HR c1 c2
   go_enter Try.func59, Try.ntmps59
   go_wp2
   go_ret
   have e_ := aa.out
   subst e_
   exact ⟨rfl, Below.refl _ _⟩
  ·have c2b : decide ((16 : Int) < (a0.size : Int)) = false := decide_eq_false c2
   have c2c : decide (16 < a0.size) = false := decide_eq_false (by omega)
   have S1 := Aside0.mk (show 1 ≤ a0.size by omega)
   have S2 := Aside0.mk (show a0.size ≤ 16 by omega)
   clear c1 c2
   go_enter Try.func59, Try.ntmps59
   go_wp2
   have HI := Aside0.mk (show (w.iter a0 0).heap[w.heap.size]? = some (.stringIter a0 0) from World.iter_heap w a0 0)
   have HB := Aside0.mk (show Below w.heap.size w (w.iter a0 0) from below_alloc (Below.refl _ _) _)
   go_loopg [3] a0.size (fun kq v3 w' => ∃ pos : Nat, Aside0 (kq = a0.size - pos) ∧ Aside0 (w'.heap[w.heap.size]? = some (.stringIter a0 pos)) ∧ Aside0 (∀ i, i < pos → nameC (i : Int) (bt a0 (i : Int)) = true) ∧ Aside0 (Below w.heap.size w w'))
   case atStart => exact ⟨0, ⟨rfl⟩, HI, ⟨fun i hi => absurd hi (Nat.not_lt_zero _)⟩, HB⟩
   case round =>
    clear HI HB
    obtain ⟨pos, HK, HI, HO, HB⟩ := hrel
    by_cases d1 : pos < a0.size
    case neg =>
     have hnx := fun ty => next_none Try.prog ty HI.out d1
     have aa := Aside0.mk (HR.out.symm.trans (nameB_yes S1.out S2.out (fun i hi => HO.out i (by omega))))
     clear d1
     go_wp2
     go_ret
     have e_ := aa.out
     subst e_
     exact ⟨rfl, HB.out⟩
    have ae := fun ty => next_some Try.prog ty HI.out d1
    obtain ⟨ag, ah⟩ := sign_at a0 pos d1 (pos : Int)
    obtain ⟨w2, af⟩ : ∃ w2 : World, w2 = { wr with heap := wr.heap.setIfInBounds w.heap.size (.stringIter a0 (pos + (Utf8.decode a0 pos).2)) } := ⟨_, rfl⟩
    have hit := iter_step HI.out HB.out (Nat.le_refl _) af
    obtain ⟨c, hc⟩ : ∃ c : Int, c = ((Utf8.decode a0 pos).1 : Int) := ⟨_, rfl⟩
    have hnx : ∀ ty, (Instr.next (.pointer (some ⟨w.heap.size, 0, none⟩)) true ty).run Try.prog wr = .ok (.tuple #[.bool true, .int .i64 pos, .int .i32 c]) w2 := fun ty => by rw [af, hc]; exact ae ty
    rw [← hc] at ag ah
    have ab := Aside0.mk ag
    have ac := Aside0.mk ah
    have HIT := Aside0.mk hit
    have D1 := Aside0.mk d1
    clear ag ah hit ae hc af d1
    cases e1 : decide (97 ≤ c) with
    | true =>
     cases e2 : decide (c ≤ 122) with
     | true =>
      have OK := Aside0.mk (show nameC (pos : Int) c = true by unfold nameC; rw [e1, e2]; rfl)
      go_wp2
      go_roundg (a0.size - (pos + 1))
      case measure => have := HK.out; have := D1.out; omega
      case rel =>
       have h1 := HIT.out.1
       rw [ac.out OK.out] at h1
       refine ⟨pos + 1, ⟨rfl⟩, ⟨h1⟩, ⟨fun i hi => ?_⟩, ⟨HIT.out.2⟩⟩
       by_cases e : i = pos
       ·subst e; exact ab.out.symm.trans OK.out
       ·exact HO.out i (by omega)
     | false =>
      cases e3 : (c == 95) with
      | true =>
       have OK := Aside0.mk (show nameC (pos : Int) c = true by unfold nameC; rw [e1, e2, e3]; rfl)
       go_wp2
       go_roundg (a0.size - (pos + 1))
       case measure => have := HK.out; have := D1.out; omega
       case rel =>
        have h1 := HIT.out.1
        rw [ac.out OK.out] at h1
        refine ⟨pos + 1, ⟨rfl⟩, ⟨h1⟩, ⟨fun i hi => ?_⟩, ⟨HIT.out.2⟩⟩
        by_cases e : i = pos
        ·subst e; exact ab.out.symm.trans OK.out
        ·exact HO.out i (by omega)
      | false =>
       cases e4 : decide (0 < (pos : Int)) with
       | true =>
        have e4n : decide (0 < pos) = true := (decide_eq_decide.2 (by omega)).trans e4
        cases e5 : decide (48 ≤ c) with
        | true =>
         cases e6 : decide (c ≤ 57) with
         | true =>
          have OK := Aside0.mk (show nameC (pos : Int) c = true by unfold nameC; rw [e1, e2, e3, e4, e5, e6]; rfl)
          go_wp2
          go_roundg (a0.size - (pos + 1))
          case measure => have := HK.out; have := D1.out; omega
          case rel =>
           have h1 := HIT.out.1
           rw [ac.out OK.out] at h1
           refine ⟨pos + 1, ⟨rfl⟩, ⟨h1⟩, ⟨fun i hi => ?_⟩, ⟨HIT.out.2⟩⟩
           by_cases e : i = pos
           ·subst e; exact ab.out.symm.trans OK.out
           ·exact HO.out i (by omega)
         | false =>
          cases e7 : (c == 46) with
          | true =>
           have OK := Aside0.mk (show nameC (pos : Int) c = true by unfold nameC; rw [e1, e2, e3, e4, e5, e6, e7]; rfl)
           go_wp2
           go_roundg (a0.size - (pos + 1))
           case measure => have := HK.out; have := D1.out; omega
           case rel =>
            have h1 := HIT.out.1
            rw [ac.out OK.out] at h1
            refine ⟨pos + 1, ⟨rfl⟩, ⟨h1⟩, ⟨fun i hi => ?_⟩, ⟨HIT.out.2⟩⟩
            by_cases e : i = pos
            ·subst e; exact ab.out.symm.trans OK.out
            ·exact HO.out i (by omega)
          | false =>
           have aa := Aside0.mk (HR.out.symm.trans (nameB_no D1.out (ab.out.symm.trans (show nameC (pos : Int) c = false by unfold nameC; rw [e1, e2, e3, e4, e5, e6, e7]; rfl))))
           go_wp2
           go_ret
           have e_ := aa.out
           subst e_
           exact ⟨rfl, HIT.out.2⟩
        | false =>
         cases e7 : (c == 46) with
         | true =>
          have OK := Aside0.mk (show nameC (pos : Int) c = true by unfold nameC; rw [e1, e2, e3, e4, e5, e7]; rfl)
          go_wp2
          go_roundg (a0.size - (pos + 1))
          case measure => have := HK.out; have := D1.out; omega
          case rel =>
           have h1 := HIT.out.1
           rw [ac.out OK.out] at h1
           refine ⟨pos + 1, ⟨rfl⟩, ⟨h1⟩, ⟨fun i hi => ?_⟩, ⟨HIT.out.2⟩⟩
           by_cases e : i = pos
           ·subst e; exact ab.out.symm.trans OK.out
           ·exact HO.out i (by omega)
         | false =>
          have aa := Aside0.mk (HR.out.symm.trans (nameB_no D1.out (ab.out.symm.trans (show nameC (pos : Int) c = false by unfold nameC; rw [e1, e2, e3, e4, e5, e7]; rfl))))
          go_wp2
          go_ret
          have e_ := aa.out
          subst e_
          exact ⟨rfl, HIT.out.2⟩
       | false =>
        have e4n : decide (0 < pos) = false := (decide_eq_decide.2 (by omega)).trans e4
        have aa := Aside0.mk (HR.out.symm.trans (nameB_no D1.out (ab.out.symm.trans (show nameC (pos : Int) c = false by unfold nameC; rw [e1, e2, e3, e4]; rfl))))
        go_wp2
        go_ret
        have e_ := aa.out
        subst e_
        exact ⟨rfl, HIT.out.2⟩
    | false =>
     cases e3 : (c == 95) with
     | true =>
      have OK := Aside0.mk (show nameC (pos : Int) c = true by unfold nameC; rw [e1, e3]; rfl)
      go_wp2
      go_roundg (a0.size - (pos + 1))
      case measure => have := HK.out; have := D1.out; omega
      case rel =>
       have h1 := HIT.out.1
       rw [ac.out OK.out] at h1
       refine ⟨pos + 1, ⟨rfl⟩, ⟨h1⟩, ⟨fun i hi => ?_⟩, ⟨HIT.out.2⟩⟩
       by_cases e : i = pos
       ·subst e; exact ab.out.symm.trans OK.out
       ·exact HO.out i (by omega)
     | false =>
      cases e4 : decide (0 < (pos : Int)) with
      | true =>
       have e4n : decide (0 < pos) = true := (decide_eq_decide.2 (by omega)).trans e4
       cases e5 : decide (48 ≤ c) with
       | true =>
        cases e6 : decide (c ≤ 57) with
        | true =>
         have OK := Aside0.mk (show nameC (pos : Int) c = true by unfold nameC; rw [e1, e3, e4, e5, e6]; rfl)
         go_wp2
         go_roundg (a0.size - (pos + 1))
         case measure => have := HK.out; have := D1.out; omega
         case rel =>
          have h1 := HIT.out.1
          rw [ac.out OK.out] at h1
          refine ⟨pos + 1, ⟨rfl⟩, ⟨h1⟩, ⟨fun i hi => ?_⟩, ⟨HIT.out.2⟩⟩
          by_cases e : i = pos
          ·subst e; exact ab.out.symm.trans OK.out
          ·exact HO.out i (by omega)
        | false =>
         cases e7 : (c == 46) with
         | true =>
          have OK := Aside0.mk (show nameC (pos : Int) c = true by unfold nameC; rw [e1, e3, e4, e5, e6, e7]; rfl)
          go_wp2
          go_roundg (a0.size - (pos + 1))
          case measure => have := HK.out; have := D1.out; omega
          case rel =>
           have h1 := HIT.out.1
           rw [ac.out OK.out] at h1
           refine ⟨pos + 1, ⟨rfl⟩, ⟨h1⟩, ⟨fun i hi => ?_⟩, ⟨HIT.out.2⟩⟩
           by_cases e : i = pos
           ·subst e; exact ab.out.symm.trans OK.out
           ·exact HO.out i (by omega)
         | false =>
          have aa := Aside0.mk (HR.out.symm.trans (nameB_no D1.out (ab.out.symm.trans (show nameC (pos : Int) c = false by unfold nameC; rw [e1, e3, e4, e5, e6, e7]; rfl))))
          go_wp2
          go_ret
          have e_ := aa.out
          subst e_
          exact ⟨rfl, HIT.out.2⟩
       | false =>
        cases e7 : (c == 46) with
        | true =>
         have OK := Aside0.mk (show nameC (pos : Int) c = true by unfold nameC; rw [e1, e3, e4, e5, e7]; rfl)
         go_wp2
         go_roundg (a0.size - (pos + 1))
         case measure => have := HK.out; have := D1.out; omega
         case rel =>
          have h1 := HIT.out.1
          rw [ac.out OK.out] at h1
          refine ⟨pos + 1, ⟨rfl⟩, ⟨h1⟩, ⟨fun i hi => ?_⟩, ⟨HIT.out.2⟩⟩
          by_cases e : i = pos
          ·subst e; exact ab.out.symm.trans OK.out
          ·exact HO.out i (by omega)
        | false =>
         have aa := Aside0.mk (HR.out.symm.trans (nameB_no D1.out (ab.out.symm.trans (show nameC (pos : Int) c = false by unfold nameC; rw [e1, e3, e4, e5, e7]; rfl))))
         go_wp2
         go_ret
         have e_ := aa.out
         subst e_
         exact ⟨rfl, HIT.out.2⟩
      | false =>
       have e4n : decide (0 < pos) = false := (decide_eq_decide.2 (by omega)).trans e4
       have aa := Aside0.mk (HR.out.symm.trans (nameB_no D1.out (ab.out.symm.trans (show nameC (pos : Int) c = false by unfold nameC; rw [e1, e3, e4]; rfl))))
       go_wp2
       go_ret
       have e_ := aa.out
       subst e_
       exact ⟨rfl, HIT.out.2⟩

/-! ### net_Check: function 37 -/
-- IMPORTS Derived.RegionTactic,Derived.BigRegion,Derived.Laws.EntriesVeiled
/-- The names so far, in a variable of the call's own; what else stood there stays. -/
structure NInv (w0 w : World) (Bn : Nat) (ns : List ByteArray) : Prop where
 t : ∃ v, w.heap[Bn]? = some (.cells #[v] 75 (0, 0)) ∧ Kd.R Kd.string 9 w w0.heap.size (fun _ => True) v ns
 B : Below w0.heap.size w0 w
 b : w0.heap.size ≤ Bn
def Others (w w1 : World) : Prop := w.heap.size ≤ w1.heap.size ∧ ∀ (a : Nat) (c : Array Value) (t : Nat), w.heap[a]? = some (.cells c t (0, 0)) → t ≠ 75 → t ≠ 9 → w1.heap[a]? = some (.cells c t (0, 0))
theorem Others.trans {a b c : World} (h : Others a b) (k : Others b c) : Others a c := ⟨Nat.le_trans h.1 k.1, fun x cs t h1 h2 h3 => k.2 x cs t (h.2 x cs t h1 h2 h3) h2 h3⟩
theorem Others.below {w w1 : World} (hb : Below w.heap.size w w1) : Others w w1 := ⟨hb.size, fun a c t h _ _ => blk_below h hb⟩
theorem NInv.below {w0 w w1 : World} {Bn : Nat} {ns : List ByteArray} (h : NInv w0 w Bn ns) (hb : Below w.heap.size w w1) : NInv w0 w1 Bn ns := by
 obtain ⟨⟨v, h1, h2⟩, B, b⟩ := h
 exact ⟨⟨v, blk_below h1 hb, Kd.R_below h2 hb⟩, B.trans (hb.mono B.size), b⟩
theorem NInv.push {w0 w w1 : World} {Bn : Nat} {ns ns' : List ByteArray} (h : NInv w0 w Bn ns) {v v1 : Value} (hT : Kd.R Kd.string 9 w w0.heap.size (fun _ => True) v ns)
  (h1 : Kd.R Kd.string 9 w1 w0.heap.size (fun _ => True) v1 ns') (hb : Below w0.heap.size w0 w1) (hg : w.grownBy w1 v.ownBlock) : NInv w0 (w1.setCell ⟨Bn, 0, none⟩ v1) Bn ns' ∧ Others w (w1.setCell ⟨Bn, 0, none⟩ v1) ∧ w1.cell? ⟨Bn, 0, none⟩ ≠ none ∧ w1.frozen? ⟨Bn, 0, none⟩ = false := by
 obtain ⟨⟨vt, h3, h4⟩, B, b⟩ := h
 have e3 := grown_blk h3 (Kd.R_typed hT) (by decide) hg
 refine ⟨⟨⟨v1, one_setCell e3, Kd.R_set h1 e3 (by decide) _ _⟩, below_set hb b, b⟩, ⟨by simpa using hg.size, fun a c t ha t1 t2 => ?_⟩, by rw [cell_of_one e3]; simp, free_of_one e3⟩
 have ea := grown_blk ha (Kd.R_typed hT) t2 hg
 exact blk_over ea (blk_apart ea e3 t1) _
/-- One more name: an error, or the names with it. -/
def addM (ns : List ByteArray) (s : ByteArray) : Option (Int × List ByteArray) :=
 if nameB s = true then (if (ns.any fun o => o.toList == s.toList) = true then some (6, ns) else (if ns.length < 1000000 then some (0, ns ++ [s]) else none)) else some (5, ns)
theorem any_step (ns : List ByteArray) (s : ByteArray) (i : Nat) (hi : i < ns.length) : ((ns.drop i).any fun o => o.toList == s.toList) = (((rdOf ByteArray.empty ns (i : Int)).toList == s.toList) || ((ns.drop (i + 1)).any fun o => o.toList == s.toList)) := by
 rw [List.drop_eq_getElem_cons hi, List.any_cons]
 unfold rdOf
 rw [Int.toNat_natCast, List.getD_eq_getElem?_getD, List.getElem?_eq_getElem hi]
 rfl

set_option maxHeartbeats 1000000 in
set_option maxRecDepth 100000 in
theorem add_calls (w0 w : World) (Bn : Nat) (ns : List ByteArray) (s : ByteArray) (p : Int × List ByteArray) (h : NInv w0 w Bn ns) (hp : addM ns s = some p) :
  Calls Try.prog 60 #[.string s, .pointer (some ⟨Bn, 0, none⟩)] w fun e w' => e = .returned (.int .i64 p.1) ∧ NInv w0 w' Bn p.2 ∧ Others w w' := by
 have HV := Aside0.mk h
 clear h
 unfold addM at hp
 by_cases c1 : nameB s = true
 case neg =>
  rw [if_neg c1] at hp
  cases hp
  have HN := Aside0.mk (show net_Name.f s = some false by unfold net_Name.f; rw [Bool.not_eq_true] at c1; rw [c1])
  clear c1
  go_enter Try.func60, Try.ntmps60
  go_wp2_with (first | (go_at_call 59; refine (net_Name.calls _ _ _ HN.out).mono ?_; rintro e w' ⟨rfl, hb⟩; have HB := Aside0.mk hb; clear hb))
  go_ret
  exact ⟨rfl, HV.out.below HB.out, Others.below HB.out⟩
 rw [if_pos c1] at hp
 have HN := Aside0.mk (show net_Name.f s = some true by unfold net_Name.f; rw [c1])
 have HP := Aside0.mk hp
 clear c1 hp
 go_enter Try.func60, Try.ntmps60
 go_wp2_with (first | (go_at_call 59; refine (net_Name.calls _ _ _ HN.out).mono ?_; rintro e w1 ⟨rfl, hb⟩; have aA := Aside0.mk (HV.out.below hb); have aJ := Aside0.mk (Others.below hb); obtain ⟨vt, aQ, aR⟩ := aA.out.t; obtain ⟨At, ct, rfl⟩ := Kd.R_slice aR; have a8 := cell_of_one aQ; have HC := Aside0.mk aQ; have HT := Aside0.mk aR; clear hb aQ aR))
 clear HV
 have HD := Aside0.mk (show (ns.any fun o => o.toList == s.toList) = ((ns.drop 0).any fun o => o.toList == s.toList) by rw [List.drop_zero])
 go_loopg [11] ns.length (fun kq bg w' => ∃ i : Nat, bg = .int .i64 i ∧ Aside0 (kq = ns.length - i) ∧ Aside0 (i ≤ ns.length) ∧ Aside0 ((ns.any fun o => o.toList == s.toList) = ((ns.drop i).any fun o => o.toList == s.toList)) ∧ Aside0 (w'.heap[Bn]? = some (.cells #[.slice At ns.length ct] 75 (0, 0))) ∧ Aside0 (Kd.R Kd.string 9 w' w0.heap.size (fun _ => True) (.slice At ns.length ct) ns) ∧ Aside0 (NInv w0 w' Bn ns) ∧ Aside0 (Others w w'))
 case atStart => exact ⟨0, rfl, ⟨rfl⟩, ⟨Nat.zero_le _⟩, HD, HC, HT, aA, aJ⟩
 case round =>
  clear HD HC HT aA aJ a8
  obtain ⟨i, rfl, HK, HI, HD, HC, HT, aA, aJ⟩ := hrel
  by_cases d1 : i < ns.length
  ·have d1b : decide ((i : Int) < (ns.length : Int)) = true := decide_eq_true (by omega)
   have d1c : decide (i < ns.length) = true := decide_eq_true d1
   obtain ⟨gt, gc, eg, _, _, _⟩ := Kd.R_form HT.out (by omega)
   injection eg with eg _ a9
   subst eg a9
   obtain ⟨y1, y2⟩ := Kd.R_celln ByteArray.empty HT.out (i : Int) (by omega) (by omega)
   have HS := Aside0.mk (any_step ns s i d1)
   have D1 := Aside0.mk d1
   rw [Int.toNat_natCast] at y1 y2
   have HM := Aside0.mk (Kd.R_reads' HT.out).2.2.2.1
   cases d2 : ((rdOf ByteArray.empty ns (i : Int)).toList == s.toList) with
   | true =>
    have aN := Aside0.mk (show p = (6, ns) by
     have hp := HP.out
     rw [HD.out, HS.out, d2] at hp
     simpa using hp.symm)
    clear HP
    go_wp2
    go_ret
    have e_ := aN.out
    subst e_
    exact ⟨rfl, aA.out, aJ.out⟩
   | false =>
    go_wp2
    go_roundg (ns.length - (i + 1))
    case measure => have := HK.out; have := D1.out; omega
    case rel => exact ⟨i + 1, by congr 1; have := HM.out; have := D1.out; (first | omega | (unfold wrap64; omega) | (show wrap64 _ = _; unfold wrap64; omega)), ⟨rfl⟩, ⟨D1.out⟩, ⟨by rw [HD.out, HS.out, d2, Bool.false_or]⟩, HC, HT, aA, aJ⟩
  ·have d1b : decide ((i : Int) < (ns.length : Int)) = false := decide_eq_false (by omega)
   have d1c : decide (i < ns.length) = false := decide_eq_false d1
   have hp := HP.out
   have hd : (ns.any fun o => o.toList == s.toList) = false := by rw [HD.out, List.drop_eq_nil_of_le (by omega)]; rfl
   rw [hd, if_neg Bool.false_ne_true] at hp
   by_cases d3 : ns.length < 1000000
   case neg => rw [if_neg d3] at hp; cases hp
   rw [if_pos d3] at hp
   have aN := Aside0.mk (Option.some.inj hp).symm
   have D3 := Aside0.mk d3
   have cb := cell_of_one HC.out
   clear hp hd HP d3
   go_wp2_with (first
    | ((with_reducible refine gate_builtin (b := .append) (xs := #[.tmp 19, .tmp 21]) rfl ?_); at_builtin; refine Kd.R_append Kd.string (w0 := w0) w0.heap.size rfl (.tmp 19) (.tmp 21) 75 9 (.string ⟨#[]⟩) 16 rfl Try.underlying75 info9 rfl (by decide) (by omega) (.slice At ns.length ct) ns s [.string s] (fun _ => True) (fun _ => False) rfl rfl ?aP (fun _ hk => hk.elim) ?aF ?aO ?aB ?aS ?aL ?_; (case aP => exact rfl); (case aF => exact (fun _ _ => trivial)); (case aO => exact HT.out); (case aB => exact aA.out.B); (case aS => exact aA.out.B.size); (case aL => have := D3.out; omega); intro v2 w2 ho hb hg hat; obtain ⟨A2, k2, rfl⟩ := Kd.R_slice ho; have HX := Aside0.mk (NInv.push aA.out HT.out ho hb hg); obtain ⟨c2, bl⟩ := Option.ne_none_iff_exists'.mp HX.out.2.2.1; have hf2 := HX.out.2.2.2; clear ho hb hg hat))
   go_ret
   have e_ := aN.out
   subst e_
   have x_ := HX.out
   rw [List.length_append] at x_
   exact ⟨rfl, x_.1, aJ.out.trans x_.2.1⟩

def net_Check.l1 : Nat → List S52 → List S48 → List ByteArray → Int → Option (Int × Int)
 | 0, _, _, _, _ => none
 | k + 1, l1, l2, ns, i => if i < (l2.length : Int) then (if 0 ≤ i then ((addM ns (rd_T48 l2 i).f0).bind fun p => if p.1 = 0 then ((net_checkTrans.f k (rd_T48 l2 i).f0 (rd_T48 l2 i).f1 (rd_T48 l2 i).f2 (rd_T48 l2 i).f3 (rd_T48 l2 i).f4 (l1.length : Int)).bind fun e => if e = 0 then net_Check.l1 k l1 l2 p.2 (wrap64 (i + 1)) else some (e, wrap64 ((l1.length : Int) + i))) else some (p.1, wrap64 ((l1.length : Int) + i))) else none) else some (0, 0)
def net_Check.l0 : Nat → List S52 → List S48 → List ByteArray → Int → Option (Int × Int)
 | 0, _, _, _, _ => none
 | k + 1, l1, l2, ns, i => if i < (l1.length : Int) then (if 0 ≤ i then ((addM ns (rd_T52 l1 i).f0).bind fun p => if p.1 = 0 then ((net_checkPlace.f (rd_T52 l1 i).f0 (rd_T52 l1 i).f1 (rd_T52 l1 i).f2).bind fun e => if e = 0 then net_Check.l0 k l1 l2 p.2 (wrap64 (i + 1)) else some (e, i)) else some (p.1, i)) else none) else net_Check.l1 k l1 l2 ns 0
def net_Check.f (k : Nat) (ac : ByteArray) (aa : List (S52)) (ab : List (S48)) : Option (Int × Int) := if nameB ac = true then (if (aa.length : Int) < 1 ∨ (24 : Int) < (aa.length : Int) ∨ (24 : Int) < (ab.length : Int) then some (2, 0) else net_Check.l0 k aa ab [] 0) else some (5, 0)
theorem net_Check.mono_l : ∀ k, (∀ y0 y1 y2 y3, LeO (net_Check.l0 k y0 y1 y2 y3) (net_Check.l0 (k + 1) y0 y1 y2 y3)) ∧ (∀ y0 y1 y2 y3, LeO (net_Check.l1 k y0 y1 y2 y3) (net_Check.l1 (k + 1) y0 y1 y2 y3))
 | 0 => ⟨fun _ _ _ _ r h => by simp [net_Check.l0] at h, fun _ _ _ _ r h => by simp [net_Check.l1] at h⟩
 | k + 1 => by
  obtain ⟨bd, a7⟩ := net_Check.mono_l k
  refine ⟨?_, ?_⟩
  ·intro y0 y1 y2 y3
   unfold net_Check.l0
   repeat' first | exact bd _ _ _ _ | exact a7 _ _ _ _ | exact LeO.refl _ | exact LeO.none _ | refine LeO.ite ?_ ?_ | refine LeO.bind (LeO.refl _) (fun _ => ?_)
  ·intro y0 y1 y2 y3
   unfold net_Check.l1
   repeat' first | exact a7 _ _ _ _ | exact net_checkTrans.mono _ _ _ _ _ _ _ | exact LeO.refl _ | exact LeO.none _ | refine LeO.ite ?_ ?_ | refine LeO.bind (LeO.refl _) (fun _ => ?_) | refine LeO.bind (net_checkTrans.mono _ _ _ _ _ _ _) (fun _ => ?_)
theorem net_Check.mono : ∀ a0 a1 a2 k, LeO (net_Check.f k a0 a1 a2) (net_Check.f (k + 1) a0 a1 a2) := by
 intro a0 a1 a2 k
 unfold net_Check.f
 exact LeO.ite (LeO.ite (LeO.refl _) ((net_Check.mono_l k).1 _ _ _ _)) (LeO.refl _)
/-- What stands while a net is checked: the net, the result, the names. -/
structure KInv (w0 w : World) (Bx Br Bn : Nat) (net : Array Value) (ns : List ByteArray) : Prop where
 nv : NInv w0 w Bn ns
 bx : w.heap[Bx]? = some (.cells net 25 (0, 0))
 br : w.heap[Br]? = some (.cells #[.int .i64 0, .int .i64 0] 60 (0, 0))
 rb : w0.heap.size ≤ Br
theorem KInv.move {w0 w w1 : World} {Bx Br Bn : Nat} {net : Array Value} {ns ns' : List ByteArray} (h : KInv w0 w Bx Br Bn net ns) (hn : NInv w0 w1 Bn ns') (o : Others w w1) : KInv w0 w1 Bx Br Bn net ns' := ⟨hn, o.2 _ _ _ h.bx (by decide) (by decide), o.2 _ _ _ h.br (by decide) (by decide), h.rb⟩
theorem KInv.below {w0 w w1 : World} {Bx Br Bn : Nat} {net : Array Value} {ns : List ByteArray} (h : KInv w0 w Bx Br Bn net ns) (hb : Below w.heap.size w w1) : KInv w0 w1 Bx Br Bn net ns := h.move (h.nv.below hb) (Others.below hb)
theorem heapArc : Kd.Heap k55 := Kd.heap_iso _ (Kd.heap_pair (Kd.heap_int _) (Kd.heap_int _))
/-- The result is written. -/
theorem res_put {W : World} {Br : Nat} {x y a b : Int} (h : W.heap[Br]? = some (.cells #[.int .i64 x, .int .i64 y] 60 (0, 0))) : ((W.setCell ⟨Br, 0, none⟩ (.int .i64 a)).setCell ⟨Br, 1, none⟩ (.int .i64 b)).heap[Br]? = some (.cells #[.int .i64 a, .int .i64 b] 60 (0, 0)) :=
 blk_put (cs := #[.int .i64 a, .int .i64 y]) (blk_put (cs := #[.int .i64 x, .int .i64 y]) h 0 _ rfl) 1 _ rfl
theorem res_facts {W : World} {Br : Nat} (h : W.heap[Br]? = some (.cells #[.int .i64 0, .int .i64 0] 60 (0, 0))) : W.cell? ⟨Br, 0, none⟩ = some (.int .i64 0) ∧ W.cell? ⟨Br, 1, none⟩ = some (.int .i64 0) ∧ W.frozen? ⟨Br, 0, none⟩ = false ∧ W.frozen? ⟨Br, 1, none⟩ = false := ⟨(blk_cell h 0).trans rfl, (blk_cell h 1).trans rfl, blk_frozen h 0, blk_frozen h 1⟩
theorem net_facts {W : World} {B : Nat} {x y z : Value} (h : W.heap[B]? = some (.cells #[x, y, z] 25 (0, 0))) : W.cell? ⟨B, 0, none⟩ = some x ∧ W.cell? ⟨B, 1, none⟩ = some y ∧ W.cell? ⟨B, 2, none⟩ = some z := ⟨(blk_cell h 0).trans rfl, (blk_cell h 1).trans rfl, (blk_cell h 2).trans rfl⟩
theorem place_facts {W : World} {B : Nat} {x y z : Value} (h : W.heap[B]? = some (.cells #[x, y, z] 52 (0, 0))) : W.cell? ⟨B, 0, none⟩ = some x ∧ W.cell? ⟨B, 1, none⟩ = some y ∧ W.cell? ⟨B, 2, none⟩ = some z := ⟨(blk_cell h 0).trans rfl, (blk_cell h 1).trans rfl, (blk_cell h 2).trans rfl⟩
theorem trans_facts {W : World} {B : Nat} {x y z u v : Value} (h : W.heap[B]? = some (.cells #[x, y, z, u, v] 48 (0, 0))) : W.cell? ⟨B, 0, none⟩ = some x ∧ W.cell? ⟨B, 1, none⟩ = some y ∧ W.cell? ⟨B, 2, none⟩ = some z ∧ W.cell? ⟨B, 3, none⟩ = some u ∧ W.cell? ⟨B, 4, none⟩ = some v := ⟨(blk_cell h 0).trans rfl, (blk_cell h 1).trans rfl, (blk_cell h 2).trans rfl, (blk_cell h 3).trans rfl, (blk_cell h 4).trans rfl⟩

set_option maxHeartbeats 4000000 in
set_option maxRecDepth 100000 in
theorem net_Check.calls (k : Nat) (ac : ByteArray) (af : Option Addr) (ah : Nat) (aa : List (S52)) (ag : Option Addr) (ai : Nat) (ab : List (S48)) (r1 : Int) (r2 : Int) (w : World) (aE : Kd.C k52 w af aa.length aa) (aC : aa.length ≤ ah) (aG : Kd.C k48 w ag ab.length ab) (aD : ab.length ≤ ai) (h : net_Check.f k ac aa ab = some (r1, r2)) :
  Calls Try.prog 37 #[.agg #[.string ac, .slice af aa.length ah, .slice ag ab.length ai]] w fun e w' => e = .returned (.agg #[.int .i64 r1, .int .i64 r2]) ∧ Below w.heap.size w w' := by
 have bm := Try.underlying25
 have hu2 := Try.underlying60
 have bn := Try.underlying52
 have bo := Try.underlying48
 have aU := Aside0.mk aE
 have bj := Aside0.mk aC
 have aV := Aside0.mk aG
 have bk := Aside0.mk aD
 clear aE aC aG aD
 have W1 : (w.alloc (.cells #[.string ac, .slice af aa.length ah, .slice ag ab.length ai] 25)).heap[w.heap.size]? = some (.cells #[.string ac, .slice af aa.length ah, .slice ag ab.length ai] 25 (0, 0)) := alloc_new _ _
 have a6 : (w.alloc (.cells #[.string ac, .slice af aa.length ah, .slice ag ab.length ai] 25)).heap.size = w.heap.size + 1 := by simp
 obtain ⟨w2, aM⟩ : ∃ w2 : World, w2 = (w.alloc (.cells #[.string ac, .slice af aa.length ah, .slice ag ab.length ai] 25)).alloc (.cells #[.int .i64 0, .int .i64 0] 60) := ⟨_, rfl⟩
 have aI := Aside0.mk (show w2.heap[w.heap.size]? = some (.cells #[.string ac, .slice af aa.length ah, .slice ag ab.length ai] 25 (0, 0)) by rw [aM]; exact blk_below W1 (below_alloc (Below.refl _ _) _))
 have aH := Aside0.mk (show w2.heap[w.heap.size + 1]? = some (.cells #[.int .i64 0, .int .i64 0] 60 (0, 0)) by rw [aM, ← a6]; exact alloc_new _ _)
 have ay := Aside0.mk (show Below w.heap.size w w2 by rw [aM]; exact below_alloc (below_alloc (Below.refl _ _) _) _)
 obtain ⟨aY, aZ, a3⟩ := net_facts aI.out
 obtain ⟨aW, aX, a4, a5⟩ := res_facts aH.out
 rw [aM] at aY aZ a3 aW aX a4 a5
 have aK := Aside0.mk aM
 clear W1 a6 aM
 unfold net_Check.f at h
 by_cases n1 : nameB ac = true
 case neg =>
  rw [if_neg n1] at h
  simp only [Option.some.injEq, Prod.mk.injEq] at h
  obtain ⟨rfl, rfl⟩ := h
  have HN := Aside0.mk (show net_Name.f ac = some false by unfold net_Name.f; rw [Bool.not_eq_true] at n1; rw [n1])
  clear n1
  go_enter Try.func37, Try.ntmps37
  go_wp2_with (first | (go_at_call 59; refine (net_Name.calls _ _ _ HN.out).mono ?_; rintro e w3 ⟨rfl, hb⟩; rw [← aK.out] at hb; have au := Aside0.mk (blk_below aI.out hb); have ap := Aside0.mk (blk_below aH.out hb); have az := Aside0.mk (ay.out.trans (hb.mono ay.out.size)); obtain ⟨av, aw, ax⟩ := net_facts au.out; obtain ⟨aj, ak, al, ao⟩ := res_facts ap.out; clear hb))
  refine bodyPost_ret (results_cell_row rfl _ _ (w.heap.size + 1) 60 #[.int .i64 5, .int .i64 0] (0, 0) _ rfl (res_put ap.out) Try.underlying60 rfl (by kernel_rfl)) rfl ?_
  exact ⟨rfl, below_set (below_set az.out (Nat.le_succ _)) (Nat.le_succ _)⟩
 rw [if_pos n1] at h
 have HN := Aside0.mk (show net_Name.f ac = some true by unfold net_Name.f; rw [n1])
 clear n1
 by_cases z : (aa.length : Int) < 1 ∨ (24 : Int) < (aa.length : Int) ∨ (24 : Int) < (ab.length : Int)
 case pos =>
  rw [if_pos z] at h
  simp only [Option.some.injEq, Prod.mk.injEq] at h
  obtain ⟨rfl, rfl⟩ := h
  by_cases z1 : (aa.length : Int) < 1
  case pos =>
   have z1b : decide ((aa.length : Int) < 1) = true := decide_eq_true (by omega)
   have z1c : decide (aa.length < 1) = true := decide_eq_true (by omega)
   clear z
   go_enter Try.func37, Try.ntmps37
   go_wp2_with (first | (go_at_call 59; refine (net_Name.calls _ _ _ HN.out).mono ?_; rintro e w3 ⟨rfl, hb⟩; rw [← aK.out] at hb; have au := Aside0.mk (blk_below aI.out hb); have ap := Aside0.mk (blk_below aH.out hb); have az := Aside0.mk (ay.out.trans (hb.mono ay.out.size)); obtain ⟨av, aw, ax⟩ := net_facts au.out; obtain ⟨aj, ak, al, ao⟩ := res_facts ap.out; clear hb))
   refine bodyPost_ret (results_cell_row rfl _ _ (w.heap.size + 1) 60 #[.int .i64 2, .int .i64 0] (0, 0) _ rfl (res_put ap.out) Try.underlying60 rfl (by kernel_rfl)) rfl ?_
   exact ⟨rfl, below_set (below_set az.out (Nat.le_succ _)) (Nat.le_succ _)⟩
  have z1b : decide ((aa.length : Int) < 1) = false := decide_eq_false (by omega)
  have z1c : decide (aa.length < 1) = false := decide_eq_false (by omega)
  by_cases z2 : 24 < (aa.length : Int)
  case pos =>
   have z2b : decide (24 < (aa.length : Int)) = true := decide_eq_true (by omega)
   have z2c : decide (24 < aa.length) = true := decide_eq_true (by omega)
   clear z
   go_enter Try.func37, Try.ntmps37
   go_wp2_with (first | (go_at_call 59; refine (net_Name.calls _ _ _ HN.out).mono ?_; rintro e w3 ⟨rfl, hb⟩; rw [← aK.out] at hb; have au := Aside0.mk (blk_below aI.out hb); have ap := Aside0.mk (blk_below aH.out hb); have az := Aside0.mk (ay.out.trans (hb.mono ay.out.size)); obtain ⟨av, aw, ax⟩ := net_facts au.out; obtain ⟨aj, ak, al, ao⟩ := res_facts ap.out; clear hb))
   refine bodyPost_ret (results_cell_row rfl _ _ (w.heap.size + 1) 60 #[.int .i64 2, .int .i64 0] (0, 0) _ rfl (res_put ap.out) Try.underlying60 rfl (by kernel_rfl)) rfl ?_
   exact ⟨rfl, below_set (below_set az.out (Nat.le_succ _)) (Nat.le_succ _)⟩
  have z2b : decide (24 < (aa.length : Int)) = false := decide_eq_false (by omega)
  have z2c : decide (24 < aa.length) = false := decide_eq_false (by omega)
  have z3 : 24 < (ab.length : Int) := (z.resolve_left z1).resolve_left z2
  have z3b : decide (24 < (ab.length : Int)) = true := decide_eq_true (by omega)
  have z3c : decide (24 < ab.length) = true := decide_eq_true (by omega)
  clear z
  go_enter Try.func37, Try.ntmps37
  go_wp2_with (first | (go_at_call 59; refine (net_Name.calls _ _ _ HN.out).mono ?_; rintro e w3 ⟨rfl, hb⟩; rw [← aK.out] at hb; have au := Aside0.mk (blk_below aI.out hb); have ap := Aside0.mk (blk_below aH.out hb); have az := Aside0.mk (ay.out.trans (hb.mono ay.out.size)); obtain ⟨av, aw, ax⟩ := net_facts au.out; obtain ⟨aj, ak, al, ao⟩ := res_facts ap.out; clear hb))
  refine bodyPost_ret (results_cell_row rfl _ _ (w.heap.size + 1) 60 #[.int .i64 2, .int .i64 0] (0, 0) _ rfl (res_put ap.out) Try.underlying60 rfl (by kernel_rfl)) rfl ?_
  exact ⟨rfl, below_set (below_set az.out (Nat.le_succ _)) (Nat.le_succ _)⟩
 rw [if_neg z] at h
 have z1b : decide ((aa.length : Int) < 1) = false := decide_eq_false (by omega)
 have z1c : decide (aa.length < 1) = false := decide_eq_false (by omega)
 have z2b : decide (24 < (aa.length : Int)) = false := decide_eq_false (by omega)
 have z2c : decide (24 < aa.length) = false := decide_eq_false (by omega)
 have z3b : decide (24 < (ab.length : Int)) = false := decide_eq_false (by omega)
 have z3c : decide (24 < ab.length) = false := decide_eq_false (by omega)
 have hmf : ∀ (fn : Fn) (first cap : Array Value) (w : World), (Instr.makeFunc fn first cap).run Try.prog w = .ok (.func fn first cap) w := fun _ _ _ _ => rfl
 have H := Aside0.mk h
 clear h
 go_enter Try.func37, Try.ntmps37
 go_wp2_with (first | (go_at_call 59; refine (net_Name.calls _ _ _ HN.out).mono ?_; rintro e w3 ⟨rfl, hb⟩; rw [← aK.out] at hb; have au := Aside0.mk (blk_below aI.out hb); have ap := Aside0.mk (blk_below aH.out hb); have az := Aside0.mk (ay.out.trans (hb.mono ay.out.size)); obtain ⟨av, aw, ax⟩ := net_facts au.out; obtain ⟨aj, ak, al, ao⟩ := res_facts ap.out; clear hb; obtain ⟨ba, bb, bc⟩ := net_facts (blk_below au.out (below_alloc (Below.refl _ _) (.cells #[.slice none 0 0] 75)))))
 have HK := Aside0.mk (show KInv w (w3.alloc (.cells #[.slice none 0 0] 75)) w.heap.size (w.heap.size + 1) w3.heap.size #[.string ac, .slice af aa.length ah, .slice ag ab.length ai] [] from ⟨⟨⟨.slice none 0 0, alloc_new _ _, Kd.R_nil _ _ _ _ _⟩, below_alloc az.out _, az.out.size⟩, blk_below au.out (below_alloc (Below.refl _ _) _), blk_below ap.out (below_alloc (Below.refl _ _) _), Nat.le_succ _⟩)
 obtain ⟨Bn, hBn⟩ : ∃ Bn, Bn = w3.heap.size := ⟨_, rfl⟩
 rw [← hBn] at HK ⊢
 clear ba bb bc av aw ax aj ak al ao au ap az hBn aY aZ a3 aW aX a4 a5 aI aH ay aK z1b z1c z2b z2c z3b z3c z HN
 go_loopg [37] k (fun kq bh w' => ∃ (i : Int) (ns : List ByteArray), bh = .int .i64 i ∧ Aside0 (net_Check.l0 kq aa ab ns i = some (r1, r2)) ∧ Aside0 (kq ≤ k) ∧ Aside0 (KInv w w' w.heap.size (w.heap.size + 1) Bn #[.string ac, .slice af aa.length ah, .slice ag ab.length ai] ns))
 case atStart => exact ⟨0, [], rfl, H, ⟨Nat.le_refl _⟩, HK⟩
 case round =>
  clear H HK
  obtain ⟨i, ns, rfl, HA, HJ, HK⟩ := hrel
  cases gk with
  | zero => exact absurd HA.out (by simp [net_Check.l0])
  | succ k1 =>
  have H := HA.out
  clear HA
  simp only [net_Check.l0] at H
  by_cases d1 : i < (aa.length : Int)
  case neg =>
   rw [if_neg d1] at H
   have d1b : decide (i < (aa.length : Int)) = false := decide_eq_false d1
   have H' := Aside0.mk H
   clear H d1
   obtain ⟨av, aw, ax⟩ := net_facts HK.out.bx
   go_wp2
   clear av aw ax d1b
   go_loopg [59] k1 (fun kq bi w' => ∃ (i : Int) (ns : List ByteArray), bi = .int .i64 i ∧ Aside0 (net_Check.l1 kq aa ab ns i = some (r1, r2)) ∧ Aside0 (kq ≤ k1) ∧ Aside0 (KInv w w' w.heap.size (w.heap.size + 1) Bn #[.string ac, .slice af aa.length ah, .slice ag ab.length ai] ns))
   case atStart => exact ⟨0, ns, rfl, H', ⟨Nat.le_refl _⟩, HK⟩
   case round =>
    clear H' HK
    obtain ⟨i, ns, rfl, HA, aT, HK⟩ := hrel
    cases gk with
    | zero => exact absurd HA.out (by simp [net_Check.l1])
    | succ k3 =>
    have H := HA.out
    clear HA
    simp only [net_Check.l1] at H
    by_cases d1 : i < (ab.length : Int)
    case neg =>
     rw [if_neg d1] at H
     have d1b : decide (i < (ab.length : Int)) = false := decide_eq_false d1
     simp only [Option.some.injEq, Prod.mk.injEq] at H
     obtain ⟨rfl, rfl⟩ := H
     obtain ⟨aj, ak, al, ao⟩ := res_facts HK.out.br
     clear d1
     go_wp2
     refine bodyPost_ret (results_cell_row rfl _ _ (w.heap.size + 1) 60 #[.int .i64 0, .int .i64 0] (0, 0) _ rfl (res_put HK.out.br) Try.underlying60 rfl (by kernel_rfl)) rfl ?_
     exact ⟨rfl, below_set (below_set HK.out.nv.B (Nat.le_succ _)) (Nat.le_succ _)⟩
    rw [if_pos d1] at H
    have d1b : decide (i < (ab.length : Int)) = true := decide_eq_true d1
    by_cases d2 : 0 ≤ i
    case neg => rw [if_neg d2] at H; cases H
    rw [if_pos d2] at H
    obtain ⟨⟨p1, bf⟩, hp, H⟩ := Option.bind_eq_some_iff.mp H
    have HP := Aside0.mk hp
    clear hp
    obtain ⟨ad, A1, c1, A2, c2, A3, c3, eA, y0, y1, y2, y3, y4, m1, g1, m2, g2, m3, g3⟩ := at_T48 aV.out i d2 d1
    subst eA
    have u0 := pw_cell_below HK.out.nv.B y0
    have u1 := pw_cell_below HK.out.nv.B y1
    have u2 := pw_cell_below HK.out.nv.B y2
    have u3 := pw_cell_below HK.out.nv.B y3
    have u4 := pw_cell_below HK.out.nv.B y4
    clear y0 y1 y2 y3 y4
    have M1 := Aside0.mk m1
    have M2 := Aside0.mk m2
    have M3 := Aside0.mk m3
    have G1 := Aside0.mk g1
    have G2 := Aside0.mk g2
    have G3 := Aside0.mk g3
    clear m1 m2 m3 g1 g2 g3
    have q1 : (0 ≤ i) = True := eq_true d2
    have q2 : (i < (ab.length : Int)) = True := eq_true d1
    have ar := Aside0.mk (HK.out.below (below_alloc (Below.refl _ _) (.cells #[.string (rd_T48 ab i).f0, .slice A1 (rd_T48 ab i).f1.length c1, .slice A2 (rd_T48 ab i).f2.length c2, .slice A3 (rd_T48 ab i).f3.length c3, .int .i64 (rd_T48 ab i).f4] 48)))
    have HPl := Aside0.mk (alloc_new wr (.cells #[.string (rd_T48 ab i).f0, .slice A1 (rd_T48 ab i).f1.length c1, .slice A2 (rd_T48 ab i).f2.length c2, .slice A3 (rd_T48 ab i).f3.length c3, .int .i64 (rd_T48 ab i).f4] 48))
    obtain ⟨v0, v1, v2, v3, v4⟩ := trans_facts HPl.out
    by_cases d3 : p1 = 0
    case neg =>
     have d3b : (p1 == 0) = false := beq_eq_false_iff_ne.mpr d3
     have d3c : (p1 != 0) = true := bne_iff_ne.mpr d3
     rw [if_neg d3] at H
     simp only [Option.some.injEq, Prod.mk.injEq] at H
     obtain ⟨rfl, rfl⟩ := H
     clear d3
     go_wp2_with (first | (go_at_call 60; refine (add_calls w _ Bn ns _ _ ar.out.nv HP.out).mono ?_; rintro e w4 ⟨rfl, hn, ho⟩; have ae := Aside0.mk (ar.out.move hn ho); have HPm := Aside0.mk (ho.2 _ _ _ HPl.out (by decide) (by decide)); obtain ⟨t0, t1, t2, t3, t4⟩ := trans_facts HPm.out; obtain ⟨aj, ak, al, ao⟩ := res_facts ae.out.br; obtain ⟨av, aw, ax⟩ := net_facts ae.out.bx; clear hn ho))
     refine bodyPost_ret (results_cell_row rfl _ _ (w.heap.size + 1) 60 #[.int .i64 p1, .int .i64 (wrap64 ((aa.length : Int) + i))] (0, 0) _ rfl (res_put ae.out.br) Try.underlying60 rfl (by kernel_rfl)) rfl ?_
     exact ⟨rfl, below_set (below_set ae.out.nv.B (Nat.le_succ _)) (Nat.le_succ _)⟩
    have d3b : (p1 == 0) = true := beq_iff_eq.mpr d3
    rw [if_pos d3] at H
    obtain ⟨e1, he, H⟩ := Option.bind_eq_some_iff.mp H
    have HE := Aside0.mk he
    clear he
    by_cases d4 : e1 = 0
    case neg =>
     have d4b : (e1 == 0) = false := beq_eq_false_iff_ne.mpr d4
     have d4c : (e1 != 0) = true := bne_iff_ne.mpr d4
     rw [if_neg d4] at H
     simp only [Option.some.injEq, Prod.mk.injEq] at H
     obtain ⟨rfl, rfl⟩ := H
     clear d4 d3
     go_wp2_with (first | (go_at_call 60; refine (add_calls w _ Bn ns _ _ ar.out.nv HP.out).mono ?_; rintro e w4 ⟨rfl, hn, ho⟩; have ae := Aside0.mk (ar.out.move hn ho); have HPm := Aside0.mk (ho.2 _ _ _ HPl.out (by decide) (by decide)); obtain ⟨t0, t1, t2, t3, t4⟩ := trans_facts HPm.out; obtain ⟨aj, ak, al, ao⟩ := res_facts ae.out.br; obtain ⟨av, aw, ax⟩ := net_facts ae.out.bx; clear hn ho) | (go_at_call 62; refine (net_checkTrans.calls k3 _ (fun k_ => k_ < w4.heap.size) A1 c1 _ (fun k_ => k_ < w4.heap.size) A2 c2 _ (fun k_ => k_ < w4.heap.size) A3 c3 _ _ _ _ _ (Kd.V_mk M1.out (Kd.C_F heapArc (Kd.C_below G1.out ae.out.nv.B))) (Kd.V_mk M2.out (Kd.C_F heapArc (Kd.C_below G2.out ae.out.nv.B))) (Kd.V_mk M3.out (Kd.C_F heapArc (Kd.C_below G3.out ae.out.nv.B))) HE.out).mono ?_; rintro e w5 ⟨rfl, hb⟩; have aq := Aside0.mk (ae.out.below hb); obtain ⟨aj, ak, al, ao⟩ := res_facts aq.out.br; obtain ⟨av, aw, ax⟩ := net_facts aq.out.bx; clear hb))
     refine bodyPost_ret (results_cell_row rfl _ _ (w.heap.size + 1) 60 #[.int .i64 e1, .int .i64 (wrap64 ((aa.length : Int) + i))] (0, 0) _ rfl (res_put aq.out.br) Try.underlying60 rfl (by kernel_rfl)) rfl ?_
     exact ⟨rfl, below_set (below_set aq.out.nv.B (Nat.le_succ _)) (Nat.le_succ _)⟩
    have d4b : (e1 == 0) = true := beq_iff_eq.mpr d4
    have d4c : (e1 != 0) = false := by rw [bne, d4b]; rfl
    rw [if_pos d4] at H
    have HM := Aside0.mk (show (ab.length : Int) ≤ 9223372036854775807 by have := aV.out.2.1; omega)
    rw [show wrap64 (i + 1) = i + 1 by have := HM.out; unfold wrap64; omega] at H
    have H' := Aside0.mk H
    clear H d4 d3
    go_wp2_with (first | (go_at_call 60; refine (add_calls w _ Bn ns _ _ ar.out.nv HP.out).mono ?_; rintro e w4 ⟨rfl, hn, ho⟩; have ae := Aside0.mk (ar.out.move hn ho); have HPm := Aside0.mk (ho.2 _ _ _ HPl.out (by decide) (by decide)); obtain ⟨t0, t1, t2, t3, t4⟩ := trans_facts HPm.out; obtain ⟨aj, ak, al, ao⟩ := res_facts ae.out.br; obtain ⟨av, aw, ax⟩ := net_facts ae.out.bx; clear hn ho) | (go_at_call 62; refine (net_checkTrans.calls k3 _ (fun k_ => k_ < w4.heap.size) A1 c1 _ (fun k_ => k_ < w4.heap.size) A2 c2 _ (fun k_ => k_ < w4.heap.size) A3 c3 _ _ _ _ _ (Kd.V_mk M1.out (Kd.C_F heapArc (Kd.C_below G1.out ae.out.nv.B))) (Kd.V_mk M2.out (Kd.C_F heapArc (Kd.C_below G2.out ae.out.nv.B))) (Kd.V_mk M3.out (Kd.C_F heapArc (Kd.C_below G3.out ae.out.nv.B))) HE.out).mono ?_; rintro e w5 ⟨rfl, hb⟩; have aq := Aside0.mk (ae.out.below hb); obtain ⟨aj, ak, al, ao⟩ := res_facts aq.out.br; obtain ⟨av, aw, ax⟩ := net_facts aq.out.bx; clear hb))
    go_roundg k3
    case measure => have := aT.out; omega
    case rel => exact ⟨_, _, (by congr 1; have := HM.out; (first | omega | (unfold wrap64; omega) | (show wrap64 _ = _; unfold wrap64; omega))), H', ⟨by have := aT.out; omega⟩, aq⟩
  rw [if_pos d1] at H
  have d1b : decide (i < (aa.length : Int)) = true := decide_eq_true d1
  by_cases d2 : 0 ≤ i
  case neg => rw [if_neg d2] at H; cases H
  rw [if_pos d2] at H
  obtain ⟨⟨p1, bf⟩, hp, H⟩ := Option.bind_eq_some_iff.mp H
  have HP := Aside0.mk hp
  clear hp
  obtain ⟨ad, eA, y0, y1, y2⟩ := at_T52 aU.out i d2 d1
  subst eA
  have u0 := pw_cell_below HK.out.nv.B y0
  have u1 := pw_cell_below HK.out.nv.B y1
  have u2 := pw_cell_below HK.out.nv.B y2
  clear y0 y1 y2
  have q1 : (0 ≤ i) = True := eq_true d2
  have q2 : (i < (aa.length : Int)) = True := eq_true d1
  have ar := Aside0.mk (HK.out.below (below_alloc (Below.refl _ _) (.cells #[.string (rd_T52 aa i).f0, .int .i64 (rd_T52 aa i).f1, .int .i64 (rd_T52 aa i).f2] 52)))
  have HPl := Aside0.mk (alloc_new wr (.cells #[.string (rd_T52 aa i).f0, .int .i64 (rd_T52 aa i).f1, .int .i64 (rd_T52 aa i).f2] 52))
  obtain ⟨v0, v1, v2⟩ := place_facts HPl.out
  by_cases d3 : p1 = 0
  case neg =>
   have d3b : (p1 == 0) = false := beq_eq_false_iff_ne.mpr d3
   have d3c : (p1 != 0) = true := bne_iff_ne.mpr d3
   rw [if_neg d3] at H
   simp only [Option.some.injEq, Prod.mk.injEq] at H
   obtain ⟨rfl, rfl⟩ := H
   clear d3
   go_wp2_with (first | (go_at_call 60; refine (add_calls w _ Bn ns _ _ ar.out.nv HP.out).mono ?_; rintro e w4 ⟨rfl, hn, ho⟩; have ae := Aside0.mk (ar.out.move hn ho); have HPm := Aside0.mk (ho.2 _ _ _ HPl.out (by decide) (by decide)); obtain ⟨t0, t1, t2⟩ := place_facts HPm.out; obtain ⟨aj, ak, al, ao⟩ := res_facts ae.out.br; clear hn ho))
   refine bodyPost_ret (results_cell_row rfl _ _ (w.heap.size + 1) 60 #[.int .i64 p1, .int .i64 i] (0, 0) _ rfl (res_put ae.out.br) Try.underlying60 rfl (by kernel_rfl)) rfl ?_
   exact ⟨rfl, below_set (below_set ae.out.nv.B (Nat.le_succ _)) (Nat.le_succ _)⟩
  have d3b : (p1 == 0) = true := beq_iff_eq.mpr d3
  rw [if_pos d3] at H
  obtain ⟨e1, he, H⟩ := Option.bind_eq_some_iff.mp H
  have HE := Aside0.mk he
  clear he
  by_cases d4 : e1 = 0
  case neg =>
   have d4b : (e1 == 0) = false := beq_eq_false_iff_ne.mpr d4
   have d4c : (e1 != 0) = true := bne_iff_ne.mpr d4
   rw [if_neg d4] at H
   simp only [Option.some.injEq, Prod.mk.injEq] at H
   obtain ⟨rfl, rfl⟩ := H
   clear d4 d3
   go_wp2_with (first | (go_at_call 60; refine (add_calls w _ Bn ns _ _ ar.out.nv HP.out).mono ?_; rintro e w4 ⟨rfl, hn, ho⟩; have ae := Aside0.mk (ar.out.move hn ho); have HPm := Aside0.mk (ho.2 _ _ _ HPl.out (by decide) (by decide)); obtain ⟨t0, t1, t2⟩ := place_facts HPm.out; obtain ⟨aj, ak, al, ao⟩ := res_facts ae.out.br; clear hn ho) | (go_at_call 61; refine (net_checkPlace.calls _ _ _ _ _ HE.out).mono ?_; rintro e w5 ⟨rfl, hb⟩; have aq := Aside0.mk (ae.out.below hb); obtain ⟨aj, ak, al, ao⟩ := res_facts aq.out.br; clear hb))
   refine bodyPost_ret (results_cell_row rfl _ _ (w.heap.size + 1) 60 #[.int .i64 e1, .int .i64 i] (0, 0) _ rfl (res_put aq.out.br) Try.underlying60 rfl (by kernel_rfl)) rfl ?_
   exact ⟨rfl, below_set (below_set aq.out.nv.B (Nat.le_succ _)) (Nat.le_succ _)⟩
  have d4b : (e1 == 0) = true := beq_iff_eq.mpr d4
  have d4c : (e1 != 0) = false := by rw [bne, d4b]; rfl
  rw [if_pos d4] at H
  have HM := Aside0.mk (show (aa.length : Int) ≤ 9223372036854775807 by have := aU.out.2.1; omega)
  rw [show wrap64 (i + 1) = i + 1 by have := HM.out; unfold wrap64; omega] at H
  have H' := Aside0.mk H
  clear H d4 d3
  go_wp2_with (first | (go_at_call 60; refine (add_calls w _ Bn ns _ _ ar.out.nv HP.out).mono ?_; rintro e w4 ⟨rfl, hn, ho⟩; have ae := Aside0.mk (ar.out.move hn ho); have HPm := Aside0.mk (ho.2 _ _ _ HPl.out (by decide) (by decide)); obtain ⟨t0, t1, t2⟩ := place_facts HPm.out; obtain ⟨aj, ak, al, ao⟩ := res_facts ae.out.br; clear hn ho) | (go_at_call 61; refine (net_checkPlace.calls _ _ _ _ _ HE.out).mono ?_; rintro e w5 ⟨rfl, hb⟩; have aq := Aside0.mk (ae.out.below hb); obtain ⟨aj, ak, al, ao⟩ := res_facts aq.out.br; clear hb))
  go_roundg k1
  case measure => have := HJ.out; omega
  case rel => exact ⟨_, _, (by congr 1; have := HM.out; (first | omega | (unfold wrap64; omega) | (show wrap64 _ = _; unfold wrap64; omega))), H', ⟨by have := HJ.out; omega⟩, aq⟩

/-! ### net_valid: function 52 -/
def net_valid.f (k : Nat) (ae : ByteArray) (aa : List (S52)) (ab : List (S48)) : Option (Bool) := (net_Check.f k ae aa ab).bind fun au => (some (au.1 == 0))
theorem net_valid.mono : ∀ a0 a1 a2 k, LeO (net_valid.f k a0 a1 a2) (net_valid.f (k + 1) a0 a1 a2) := by
 intro a0 a1 a2 k
 unfold net_valid.f
 repeat' first | (with_reducible first | apply net_Check.mono | apply lr | apply ln | apply li | refine lb ?_ fun _ => ?_)
set_option maxHeartbeats 8000000 in
set_option maxRecDepth 100000 in
theorem net_valid.calls (k : Nat) (ae : ByteArray) (aj : Option Addr) (av : Nat) (aa : List (S52)) (ak : Option Addr) (aw : Nat) (ab : List (S48)) (r : Bool) (w : World) (ah : Kd.C k52 w aj aa.length aa) (af : aa.length ≤ av) (ai : Kd.C k48 w ak ab.length ab) (ag : ab.length ≤ aw) (h : net_valid.f k ae aa ab = some r) :
  Calls Try.prog 52 #[.agg #[.string ae, .slice aj aa.length av, .slice ak ab.length aw]] w fun e w' => e = .returned (.bool r) ∧ Below w.heap.size w w' := by
 have ax : ∀ (x0 x1 : Value) (W : World), (Instr.field 60 (.agg #[x0, x1]) 0).run Try.prog W = .ok x0 W := fun x0 x1 W => by kernel_rfl
 have aC := Try.underlying25
 have aq := am ah
 have ao := am af
 clear ah af
 have ar := am ai
 have ap := am ag
 clear ai ag
 have HB := am (Below.refl w.heap.size w)
 have H := h
 unfold net_valid.f at H
 clear h
 replace H := bnd H
 obtain ⟨⟨ay, az⟩, A2, H⟩ := H
 (try dsimp only at H)
 obtain rfl := Option.some.inj H
 go_enter Try.func52, Try.ntmps52
 go_wp2_with (first | ((with_reducible refine gate_dst (N := 1) rfl ?_); refine box_ev ?_; intro aB hg w3 hbox hb; have ac := am hbox; have al := gwl hg; have aA := al; replace HB := bsl hb; clear hb hbox hg; have z4 := cf3 ac.1) | ((with_reducible refine gate_callee (f := 37) rfl ?_); refine gC 4 Try.func37 _ (net_Check.calls k ae _ _ aa _ _ ab ay az _ (csb aq HB) ao.1 (csb ar HB) ap.1 A2.1) ?_; rintro e w5 ⟨rfl, hb⟩; refine ⟨_, rfl, ?_⟩; replace ac := bbh ac hb; replace HB := bst hb; (try clear hb)))
 go_ret
 exact ⟨per, pbg⟩

/-! ### net_Plain: function 38 -/
mutual
def net_Plain.l0 : Nat → List (S48) → Int → Int → ByteArray → List (S52) → List (S48) → Option (Bool)
 | 0, _, _, _, _, _, _ => none
 | k + 1, x8, x9, x10, aj, af, ak => if x10 < x9 then (if 0 ≤ x10 then (if x10 < (x8.length : Int) then (if (((rd_T48 x8 x10).f3).length : Int) > 0 then (some false) else (if ((rd_T48 x8 x10).f4) = 0 then (net_Plain.l0 k x8 x9 (wrap64 (x10 + 1)) aj af ak) else (some false))) else (none)) else (none)) else (net_Plain.l1 k af (af.length : Int) 0 aj af ak)
def net_Plain.l1 : Nat → List (S52) → Int → Int → ByteArray → List (S52) → List (S48) → Option (Bool)
 | 0, _, _, _, _, _, _ => none
 | k + 1, bB, bQ, br, aj, af, ak => if br < bQ then (if 0 ≤ br then (if br < (bB.length : Int) then (if ((rd_T52 bB br).f2) = 0 then (net_Plain.l1 k bB bQ (wrap64 (br + 1)) aj af ak) else (some false)) else (none)) else (none)) else ((net_valid.f k aj af ak).bind fun bd => (some bd))
end
def net_Plain.f (k : Nat) (ap : ByteArray) (ai : List (S52)) (ac : List (S48)) : Option (Bool) := net_Plain.l0 k ac (ac.length : Int) 0 ap ai ac
theorem net_Plain.mono_l : ∀ k, M6 net_Plain.l0 k ∧ M6 net_Plain.l1 k
 | 0 => ⟨fun _ _ _ _ _ _ r h => by simp [net_Plain.l0] at h, fun _ _ _ _ _ _ r h => by simp [net_Plain.l1] at h⟩
 | k + 1 => by
  obtain ⟨bw, bx⟩ := net_Plain.mono_l k
  refine ⟨?_, ?_⟩ <;> dsimp only [M6] <;> intros <;> (first | unfold net_Plain.l0 | unfold net_Plain.l1) <;> repeat' first | (with_reducible first | apply bw | apply bx | apply net_valid.mono | apply lr | apply ln | apply li | refine lb ?_ fun _ => ?_)
theorem net_Plain.mono : ∀ a0 a1 a2 k, LeO (net_Plain.f k a0 a1 a2) (net_Plain.f (k + 1) a0 a1 a2) := by
 intro a0 a1 a2 k
 obtain ⟨bw, bx⟩ := net_Plain.mono_l k
 unfold net_Plain.f
 repeat' first | (with_reducible first | apply bw | apply bx | apply net_valid.mono | apply lr | apply ln | apply li | refine lb ?_ fun _ => ?_)
set_option maxHeartbeats 8000000 in
set_option maxRecDepth 100000 in
theorem net_Plain.calls (k : Nat) (ap : ByteArray) (aQ : Option Addr) (aS : Nat) (ai : List (S52)) (aR : Option Addr) (aT : Nat) (ac : List (S48)) (r : Bool) (w : World) (a8 : Kd.C k52 w aQ ai.length ai) (a6 : ai.length ≤ aS) (a9 : Kd.C k48 w aR ac.length ac) (a7 : ac.length ≤ aT) (h : net_Plain.f k ap ai ac = some r) :
  Calls Try.prog 38 #[.agg #[.string ap, .slice aQ ai.length aS, .slice aR ac.length aT]] w fun e w' => e = .returned (.bool r) ∧ Below w.heap.size w w' := by
 have bU := Try.underlying25
 have bV := Try.underlying48
 have bW := Try.underlying52
 have aL := am a8
 have bh := am a6
 clear a8 a6
 have aC := am a9
 have bi := am a7
 clear a9 a7
 have HB := am (Below.refl w.heap.size w)
 have H := h
 unfold net_Plain.f at H
 clear h
 have H' := am H
 clear H
 go_enter Try.func38, Try.ntmps38
 go_wp2_with (first | ((with_reducible refine gate_dst (N := 1) rfl ?_); refine box_ev ?_; intro a4 hg w2 hbox hb; have aa := am hbox; have bg := gwl hg; have bC := bg; replace HB := bsl hb; clear hb hbox hg; have z3 := cf3 aa.1))
 go_loopg [10] k (fun kq bX w' => ∃ (ag : Int), bX = .int .i64 ag ∧ Aside0 (net_Plain.l0 kq ac (ac.length : Int) ag ap ai ac = some r) ∧ Aside0 (kq ≤ k) ∧ Aside0 (w'.heap[a4]? = some (.cells #[.string ap, (.slice aQ ai.length aS), (.slice aR ac.length aT)] 25 (0, 0))) ∧ Aside0 (Below w.heap.size w w'))
 case atStart => exact ⟨(0), prs, H', ⟨Nat.le_refl _⟩, ⟨pbk aa.1⟩, ⟨pbg⟩⟩
 clear H'
 try clear z3
 obtain ⟨ag, rfl, HA, bs, aa, HB⟩ := hrel
 obtain _ | k1 := gk
 ·exact absurd HA.1 (by simp [net_Plain.l0])
 have H := HA.1
 clear HA
 simp only [net_Plain.l0] at H
 replace H := ifl H
 rcases H with ⟨bn, H⟩ | ⟨bn, H⟩
 rotate_left
 ·have H' := am H
  clear H
  have b2 := cf3 aa.1
  go_wp2
  go_loopg [27] k1 (fun kq bY w' => ∃ (ao : Int), bY = .int .i64 ao ∧ Aside0 (net_Plain.l1 kq ai (ai.length : Int) ao ap ai ac = some r) ∧ Aside0 (kq ≤ k1) ∧ Aside0 (w'.heap[a4]? = some (.cells #[.string ap, (.slice aQ ai.length aS), (.slice aR ac.length aT)] 25 (0, 0))) ∧ Aside0 (Below w.heap.size w w'))
  case atStart => exact ⟨(0), prs, H', ⟨Nat.le_refl _⟩, ⟨pbk aa.1⟩, ⟨pbg⟩⟩
  clear H'
  try clear bn c5 bu c6 bv c7 bo bp b3 aZ a3 bZ b0 b1 b2 z3 aq ar au av aw bb bc
  obtain ⟨ao, rfl, HA, bD, aa, HB⟩ := hrel
  obtain _ | k2 := gk
  ·exact absurd HA.1 (by simp [net_Plain.l1])
  have H := HA.1
  clear HA
  simp only [net_Plain.l1] at H
  replace H := ifl H
  rcases H with ⟨bk, H⟩ | ⟨bk, H⟩
  rotate_left
  ·replace H := bnd H
   obtain ⟨bd, bR, H⟩ := H
   (try dsimp only at H)
   obtain rfl := Option.some.inj H
   have ca := cf3 aa.1
   go_wp2_with (first | ((with_reducible refine gate_callee (f := 52) rfl ?_); refine gC 36 Try.func52 _ (net_valid.calls k2 ap _ _ ai _ _ ac bd _ (csb aL HB) bh.1 (csb aC HB) bi.1 bR.1) ?_; rintro e b8 ⟨rfl, hb⟩; refine ⟨_, rfl, ?_⟩; replace aa := bbh aa hb; replace HB := bst hb; (try clear hb)))
   go_ret
   exact ⟨per, pbg⟩
  replace H := ifp H
  obtain ⟨bE, H⟩ := H
  have bF := decide_eq_true bE
  clear bE
  replace H := ifp H
  obtain ⟨bG, H⟩ := H
  have bH := decide_eq_true bG
  clear bG
  replace H := ife H
  rcases H with ⟨bl, bm, H⟩ | ⟨bl, bm, H⟩
  rotate_left
  ·obtain rfl := Option.some.inj H
   obtain ⟨bz, bA, bj, ba, aU, aV, aW⟩ := bT52 aL.1 HB.1 ao
   cases ba
   go_wp2_with (first | ((with_reducible refine gate_dst (N := 6) rfl ?_); refine box_ev (N := 6) (cs := #[.string (⟨#[]⟩ : ByteArray), .int .i64 0, .int .i64 0]) (t := 52) ?_; intro bq hg b7 hbox hb; have aJ := am hbox; have aK := gwb hg; have bf := aK; have ah := nlt hg aa; have al := ngt hg aa; replace aa := bbh aa hb; replace HB := bst hb; clear hb hbox hg; have bL := al.1; have bP := ah.1; have b9 := cf3 aJ.1))
   go_ret
   exact ⟨per, pbg⟩
  have H' := am H
  clear H
  obtain ⟨bz, bA, bj, ba, aU, aV, aW⟩ := bT52 aL.1 HB.1 ao
  cases ba
  go_wp2_with (first | ((with_reducible refine gate_dst (N := 6) rfl ?_); refine box_ev (N := 6) (cs := #[.string (⟨#[]⟩ : ByteArray), .int .i64 0, .int .i64 0]) (t := 52) ?_; intro bq hg b6 hbox hb; have aJ := am hbox; have aK := gwb hg; have bf := aK; have ah := nlt hg aa; have al := ngt hg aa; replace aa := bbh aa hb; replace HB := bst hb; clear hb hbox hg; have bK := al.1; have bO := ah.1; have z25 := cf3 aJ.1))
  go_roundg k2
  case measure => have := bs.1; have := bD.1; omega
  case rel => exact ⟨(wrap64 (ao + 1)), prs, H', ⟨by have := bs.1; have := bD.1; omega⟩, ⟨by (with_reducible repeat (first | refine blk_drewN ?_ _ | refine blk_drew ?_ | refine blk_alloc ?_ _)); refine bf3 ?_ ah.1; exact pbk aa.1⟩, ⟨pbg⟩⟩
 replace H := ifp H
 obtain ⟨c5, H⟩ := H
 have bu := decide_eq_true c5
 clear c5
 replace H := ifp H
 obtain ⟨c6, H⟩ := H
 have bv := decide_eq_true c6
 clear c6
 by_cases c7 : (((rd_T48 ac ag).f3).length : Int) > 0
 ·rw [if_pos c7] at H
  have bo : decide (0 < (((rd_T48 ac ag).f3).length : Int)) = true := decide_eq_true c7
  have bp : decide (0 < ((rd_T48 ac ag).f3).length) = true := decide_eq_true (by omega)
  clear c7
  obtain rfl := Option.some.inj H
  obtain ⟨bb, bc, aY, aG, aM, aH, aN, aI, aO, aP, aq, ar, au, av, aw, az, aD, aA, aE, aB, aF⟩ := bT48 aC.1 HB.1 ag
  cases aP
  go_wp2_with (first | ((with_reducible refine gate_dst (N := 4) rfl ?_); refine box_ev (N := 4) (cs := #[.string (⟨#[]⟩ : ByteArray), .slice none 0 0, .slice none 0 0, .slice none 0 0, .int .i64 0]) (t := 48) ?_; intro a5 hg w8 hbox hb; have ax := am hbox; have ay := gwb hg; have aX := ay; have ab := nlt hg aa; have ae := ngt hg aa; replace aa := bbh aa hb; replace HB := bst hb; clear hb hbox hg; have bS := ae.1; have bT := ab.1; have bZ := cf5 ax.1))
  go_ret
  exact ⟨per, pbg⟩
 rw [if_neg c7] at H
 have bo : decide (0 < (((rd_T48 ac ag).f3).length : Int)) = false := decide_eq_false c7
 have bp : decide (0 < ((rd_T48 ac ag).f3).length) = false := decide_eq_false (by omega)
 clear c7
 replace H := ife H
 rcases H with ⟨aZ, a3, H⟩ | ⟨aZ, a3, H⟩
 rotate_left
 ·obtain rfl := Option.some.inj H
  obtain ⟨bb, bc, aY, aG, aM, aH, aN, aI, aO, aP, aq, ar, au, av, aw, az, aD, aA, aE, aB, aF⟩ := bT48 aC.1 HB.1 ag
  cases aP
  go_wp2_with (first | ((with_reducible refine gate_dst (N := 4) rfl ?_); refine box_ev (N := 4) (cs := #[.string (⟨#[]⟩ : ByteArray), .slice none 0 0, .slice none 0 0, .slice none 0 0, .int .i64 0]) (t := 48) ?_; intro a5 hg b5 hbox hb; have ax := am hbox; have ay := gwb hg; have aX := ay; have ab := nlt hg aa; have ae := ngt hg aa; replace aa := bbh aa hb; replace HB := bst hb; clear hb hbox hg; have bJ := ae.1; have bN := ab.1; have b1 := cf5 ax.1))
  go_ret
  exact ⟨per, pbg⟩
 have H' := am H
 clear H
 obtain ⟨bb, bc, aY, aG, aM, aH, aN, aI, aO, aP, aq, ar, au, av, aw, az, aD, aA, aE, aB, aF⟩ := bT48 aC.1 HB.1 ag
 cases aP
 go_wp2_with (first | ((with_reducible refine gate_dst (N := 4) rfl ?_); refine box_ev (N := 4) (cs := #[.string (⟨#[]⟩ : ByteArray), .slice none 0 0, .slice none 0 0, .slice none 0 0, .int .i64 0]) (t := 48) ?_; intro a5 hg b4 hbox hb; have ax := am hbox; have ay := gwb hg; have aX := ay; have ab := nlt hg aa; have ae := ngt hg aa; replace aa := bbh aa hb; replace HB := bst hb; clear hb hbox hg; have bI := ae.1; have bM := ab.1; have b0 := cf5 ax.1))
 go_roundg k1
 case measure => have := bs.1; omega
 case rel => exact ⟨(wrap64 (ag + 1)), prs, H', ⟨by have := bs.1; omega⟩, ⟨by (with_reducible repeat (first | refine blk_drewN ?_ _ | refine blk_drew ?_ | refine blk_alloc ?_ _)); refine bf5 ?_ ab.1; exact pbk aa.1⟩, ⟨pbg⟩⟩

end Go.Proofs.Ytnoebjmhimehcaa.P
