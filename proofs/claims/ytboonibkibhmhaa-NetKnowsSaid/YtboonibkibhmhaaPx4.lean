-- LAID BY OUR PROGRAM OVER THE PRINT (xprint.py): Lean checks it.
import Derived.Test.YtboonibkibhmhaaPx0
namespace Go.Proofs.Ytboonibkibhmhaa.P
open Go.RowKit Go.Proofs.YtboonibkibhmhaaW.PrintWords Go.Proofs.YtboonibkibhmhaaW.PrintLast Go.Proofs.YtboonibkibhmhaaW.PrintMore
attribute [local go_sem] max2_int min2_int max_two min_two max_three min_three max_four min_four   -- for this text's walks alone
set_option linter.unusedVariables false
set_option linter.unusedSimpArgs false

/-! ### petrinetref09_Small: function 11 -/
mutual
def petrinetref09_Small.j0 : Nat → Bool → ByteArray → List (S50) → List (S53) → Option (ByteArray × (List (S50)) × (List (S53)) × Bool)
  | 0, _, _, _, _ => none
  | k + 1, x22, x102000, x102001, x102002 => if x22 = true then (some ((⟨#[]⟩ : ByteArray), ([] : List (S50)), ([] : List (S53)), false)) else (petrinetref09_Small.l0 k 0 x102000 x102001 x102002)
def petrinetref09_Small.l0 : Nat → Int → ByteArray → List (S50) → List (S53) → Option (ByteArray × (List (S50)) × (List (S53)) × Bool)
  | 0, _, _, _, _ => none
  | k + 1, x4, x102000, x102001, x102002 => if x4 < (x102001.length : Int) then (if 0 ≤ x4 then (if (((rd_T50 x102001 x4).f0).size : Int) > 20 then (some ((⟨#[]⟩ : ByteArray), ([] : List (S50)), ([] : List (S53)), false)) else (petrinetref09_Small.l0 k (wrap64 (x4 + 1)) x102000 x102001 x102002)) else (none)) else (petrinetref09_Small.l1 k 0 x102000 x102001 x102002)
def petrinetref09_Small.l1 : Nat → Int → ByteArray → List (S50) → List (S53) → Option (ByteArray × (List (S50)) × (List (S53)) × Bool)
  | 0, _, _, _, _ => none
  | k + 1, x5, x102000, x102001, x102002 => if x5 < (x102002.length : Int) then (if 0 ≤ x5 then (if (((rd_T53 x102002 x5).f0).size : Int) > 20 then (some ((⟨#[]⟩ : ByteArray), ([] : List (S50)), ([] : List (S53)), false)) else (if (((rd_T53 x102002 x5).f1).length : Int) > 26 then (some ((⟨#[]⟩ : ByteArray), ([] : List (S50)), ([] : List (S53)), false)) else (if (((rd_T53 x102002 x5).f2).length : Int) > 26 then (some ((⟨#[]⟩ : ByteArray), ([] : List (S50)), ([] : List (S53)), false)) else (if (((rd_T53 x102002 x5).f3).length : Int) > 26 then (some ((⟨#[]⟩ : ByteArray), ([] : List (S50)), ([] : List (S53)), false)) else (petrinetref09_Small.l1 k (wrap64 (x5 + 1)) x102000 x102001 x102002))))) else (none)) else (some (x102000, x102001, x102002, true))
end
def petrinetref09_Small.f (k : Nat) (a0_0 : ByteArray) (l0_1 : List (S50)) (l0_2 : List (S53)) : Option (ByteArray × (List (S50)) × (List (S53)) × Bool) := if (l0_1.length : Int) > 26 then (petrinetref09_Small.j0 k true a0_0 l0_1 l0_2) else (if (l0_2.length : Int) > 26 then (petrinetref09_Small.j0 k true a0_0 l0_1 l0_2) else (petrinetref09_Small.j0 k (decide ((a0_0.size : Int) > 20)) a0_0 l0_1 l0_2))
theorem petrinetref09_Small.mono_l : ∀ k, (∀ y0 y1 y2 y3, LeO (petrinetref09_Small.j0 k y0 y1 y2 y3) (petrinetref09_Small.j0 (k + 1) y0 y1 y2 y3)) ∧ (∀ y0 y1 y2 y3, LeO (petrinetref09_Small.l0 k y0 y1 y2 y3) (petrinetref09_Small.l0 (k + 1) y0 y1 y2 y3)) ∧ (∀ y0 y1 y2 y3, LeO (petrinetref09_Small.l1 k y0 y1 y2 y3) (petrinetref09_Small.l1 (k + 1) y0 y1 y2 y3))
  | 0 => ⟨fun _ _ _ _ r h => by simp [petrinetref09_Small.j0] at h, fun _ _ _ _ r h => by simp [petrinetref09_Small.l0] at h, fun _ _ _ _ r h => by simp [petrinetref09_Small.l1] at h⟩
  | k + 1 => by
    obtain ⟨ih0, ih1, ih2⟩ := petrinetref09_Small.mono_l k
    refine ⟨?_, ?_, ?_⟩
    · intro y0 y1 y2 y3
      unfold petrinetref09_Small.j0
      repeat' first | (with_reducible first | exact ih0 _ _ _ _ | exact ih1 _ _ _ _ | exact ih2 _ _ _ _ | exact LeO.refl _ | exact LeO.none _ | refine LeO.ite ?_ ?_ | refine LeO.bind ?_ (fun _ => ?_)) | exact ih0 _ _ _ _ | exact ih1 _ _ _ _ | exact ih2 _ _ _ _ | exact LeO.none _ | refine LeO.ite ?_ ?_ | refine LeO.bind ?_ (fun _ => ?_)
    · intro y0 y1 y2 y3
      unfold petrinetref09_Small.l0
      repeat' first | (with_reducible first | exact ih0 _ _ _ _ | exact ih1 _ _ _ _ | exact ih2 _ _ _ _ | exact LeO.refl _ | exact LeO.none _ | refine LeO.ite ?_ ?_ | refine LeO.bind ?_ (fun _ => ?_)) | exact ih0 _ _ _ _ | exact ih1 _ _ _ _ | exact ih2 _ _ _ _ | exact LeO.none _ | refine LeO.ite ?_ ?_ | refine LeO.bind ?_ (fun _ => ?_)
    · intro y0 y1 y2 y3
      unfold petrinetref09_Small.l1
      repeat' first | (with_reducible first | exact ih0 _ _ _ _ | exact ih1 _ _ _ _ | exact ih2 _ _ _ _ | exact LeO.refl _ | exact LeO.none _ | refine LeO.ite ?_ ?_ | refine LeO.bind ?_ (fun _ => ?_)) | exact ih0 _ _ _ _ | exact ih1 _ _ _ _ | exact ih2 _ _ _ _ | exact LeO.none _ | refine LeO.ite ?_ ?_ | refine LeO.bind ?_ (fun _ => ?_)
theorem petrinetref09_Small.mono : ∀ a0 a1 a2 k, LeO (petrinetref09_Small.f k a0 a1 a2) (petrinetref09_Small.f (k + 1) a0 a1 a2) := by
  intro a0 a1 a2 k
  obtain ⟨ih0, ih1, ih2⟩ := petrinetref09_Small.mono_l k
  unfold petrinetref09_Small.f
  repeat' first | (with_reducible first | exact ih0 _ _ _ _ | exact ih1 _ _ _ _ | exact ih2 _ _ _ _ | exact LeO.refl _ | exact LeO.none _ | refine LeO.ite ?_ ?_ | refine LeO.bind ?_ (fun _ => ?_)) | exact ih0 _ _ _ _ | exact ih1 _ _ _ _ | exact ih2 _ _ _ _ | exact LeO.none _ | refine LeO.ite ?_ ?_ | refine LeO.bind ?_ (fun _ => ?_)
set_option maxHeartbeats 8000000 in
set_option maxRecDepth 100000 in
theorem petrinetref09_Small.calls (k : Nat) (a0_0 : ByteArray) (P0_1_ : Nat → Prop) (A0_1 : Option Addr) (c0_1 : Nat) (l0_1 : List (S50)) (P0_2_ : Nat → Prop) (A0_2 : Option Addr) (c0_2 : Nat) (l0_2 : List (S53)) (r1 : ByteArray) (r2 : List (S50)) (r3 : List (S53)) (r4 : Bool) (w : World) (hs0_1 : Kd.V k50 50 w w.heap.size (fun k_ => P0_1_ k_) (.slice A0_1 l0_1.length c0_1) l0_1) (hs0_2 : Kd.V k53 53 w w.heap.size (fun k_ => P0_2_ k_) (.slice A0_2 l0_2.length c0_2) l0_2) (h : petrinetref09_Small.f k a0_0 l0_1 l0_2 = some (r1, r2, r3, r4)) :
    Calls Try.prog 11 #[.agg #[.string a0_0, .slice A0_1 l0_1.length c0_1, .slice A0_2 l0_2.length c0_2]] w fun e w' => ∃ v1_ v2_ : Value, e = .returned (.tuple #[.agg #[.string r1, v1_, v2_], .bool r4]) ∧ Kd.V k50 50 w' w.heap.size (fun k_ => ((P0_1_ k_ ∨ P0_2_ k_) ∨ w.heap.size ≤ k_)) v1_ r2 ∧ Kd.V k53 53 w' w.heap.size (fun k_ => ((P0_1_ k_ ∨ P0_2_ k_) ∨ w.heap.size ≤ k_)) v2_ r3 ∧ Below w.heap.size w w' := by
  have hu25 := Try.underlying25
  have hu53 := Try.underlying53
  have HO0_1 := Aside0.mk (show Kd.V k50 50 w w.heap.size (fun k_ => ((P0_1_ k_ ∨ P0_2_ k_) ∨ w.heap.size ≤ k_)) (.slice A0_1 l0_1.length c0_1) l0_1 from Kd.V_mono hs0_1 (fun k_ hk => .inl (.inl hk)))
  have HO0_2 := Aside0.mk (show Kd.V k53 53 w w.heap.size (fun k_ => ((P0_1_ k_ ∨ P0_2_ k_) ∨ w.heap.size ≤ k_)) (.slice A0_2 l0_2.length c0_2) l0_2 from Kd.V_mono hs0_2 (fun k_ hk => .inl (.inr hk)))
  have HB := Aside0.mk (Below.refl w.heap.size w)
  have H : (if (l0_1.length : Int) > 26 then (petrinetref09_Small.j0 k true a0_0 l0_1 l0_2) else (if (l0_2.length : Int) > 26 then (petrinetref09_Small.j0 k true a0_0 l0_1 l0_2) else (petrinetref09_Small.j0 k (decide ((a0_0.size : Int) > 20)) a0_0 l0_1 l0_2))) = some (r1, r2, r3, r4) := h
  clear h
  have HC2 := Aside0.mk H
  clear H
  go_enter Try.func11, Try.ntmps11
  go_upto_region 1 with (first | ((with_reducible refine gate_dst (N := 1) rfl ?_); (try (refine gate_guard (by rfl) ?_; dsimp only)); refine box_event ?hg (N := 1) ?hd (cs := #[.string a0_0, .slice A0_1 l0_1.length c0_1, .slice A0_2 l0_2.length c0_2]) (t := 25) ?hr ?_; (case hd => rfl); (case hg => rfl); (case hr => first | (go_simp; done) | (go_simp; rfl)); intro gb101 hg w3 hbox hb; have n0_ := Aside0.mk (Kd.V_below (Kd.V_elderB (by (with_reducible repeat (first | apply Kd.V_alloc | apply Kd.V_drewN | apply Kd.V_drew)); exact HO0_1.out) gb101 (Nat.le_of_eq hg.symm)) hb); have n1_ := Aside0.mk (Kd.V_below (Kd.V_elderB (by (with_reducible repeat (first | apply Kd.V_alloc | apply Kd.V_drewN | apply Kd.V_drew)); exact HO0_2.out) gb101 (Nat.le_of_eq hg.symm)) hb); have n2_ := Aside0.mk (below_step pbl hb); have n3_ := Aside0.mk (hbox); have n4_ := Aside0.mk ((by rw [hg]; exact (below_size pbl) : w.heap.size ≤ gb101)); have n5_ := n4_; clear HO0_1; clear HO0_2; clear HB; have HO0_1 := n0_; have HO0_2 := n1_; have HB := n2_; have BK101 := n3_; have GW101 := n4_; have GE101 := n5_; clear n0_ n1_ n2_ n3_ n4_ n5_; clear hb hbox hg) | ((with_reducible refine gate_dst (N := 2) rfl ?_); (try (refine gate_guard (by rfl) ?_; dsimp only)); refine box_event ?hg (N := 2) ?hd (cs := #[.string (⟨#[]⟩ : ByteArray), .slice none 0 0, .slice none 0 0]) (t := 25) ?hr ?_; (case hd => rfl); (case hg => rfl); (case hr => first | (go_simp; done) | (go_simp; rfl)); intro gb102 hg w4 hbox hb; have n0_ := Aside0.mk (Kd.V_below (Kd.V_elderB (by (with_reducible repeat (first | apply Kd.V_alloc | apply Kd.V_drewN | apply Kd.V_drew)); exact HO0_1.out) gb102 (Nat.le_of_eq hg.symm)) hb); have n1_ := Aside0.mk (Kd.V_below (Kd.V_elderB (by (with_reducible repeat (first | apply Kd.V_alloc | apply Kd.V_drewN | apply Kd.V_drew)); exact HO0_2.out) gb102 (Nat.le_of_eq hg.symm)) hb); have n2_ := Aside0.mk (blk_below (by (with_reducible repeat (first | refine blk_drewN ?_ _ | refine blk_drew ?_ | refine blk_alloc ?_ _)); exact BK101.out) hb); have n3_ := Aside0.mk (below_step (by repeat (first | (with_reducible first | exact HB.out | apply below_alloc | apply pw_below_drewN | apply below_drew1 | refine below_set ?_ GE101.out) | exact HB.out)) hb); have n4_ := Aside0.mk (hbox); have n5_ := Aside0.mk ((by rw [hg]; exact (below_size (by repeat (first | (with_reducible first | exact HB.out | apply below_alloc | apply pw_below_drewN | apply below_drew1 | refine below_set ?_ GE101.out) | exact HB.out))) : w.heap.size ≤ gb102)); have n6_ := n5_; have n7_ := Aside0.mk ((by rw [hg]; exact Nat.ne_of_lt (blk_lt (by (with_reducible repeat (first | refine blk_drewN ?_ _ | refine blk_drew ?_ | refine blk_alloc ?_ _)); exact BK101.out)) : gb101 ≠ gb102)); have n8_ := Aside0.mk ((by rw [hg]; exact Nat.ne_of_gt (blk_lt (by (with_reducible repeat (first | refine blk_drewN ?_ _ | refine blk_drew ?_ | refine blk_alloc ?_ _)); exact BK101.out)) : gb102 ≠ gb101)); clear HO0_1; clear HO0_2; clear BK101; clear HB; have HO0_1 := n0_; have HO0_2 := n1_; have BK101 := n2_; have HB := n3_; have BK102 := n4_; have GW102 := n5_; have GE102 := n6_; have NB101_102 := n7_; have NB102_101 := n8_; clear n0_ n1_ n2_ n3_ n4_ n5_ n6_ n7_ n8_; clear hb hbox hg))
  (try simp only [Act.put, List.setIfInBounds_toArray, List.set_cons_zero, List.set_cons_succ])
  go_cut [22] (fun v22 wc => ∃ (kq : Nat) (x22_1 : Bool), v22 = .bool x22_1 ∧ Aside0 (petrinetref09_Small.j0 kq x22_1 a0_0 l0_1 l0_2 = some (r1, r2, r3, r4)) ∧ Aside0 (kq ≤ k) ∧ Aside0 (Kd.V k50 50 wc w.heap.size (fun k_ => ((P0_1_ k_ ∨ P0_2_ k_) ∨ w.heap.size ≤ k_) ∧ k_ ≠ gb101 ∧ k_ ≠ gb102) (.slice A0_1 l0_1.length c0_1) l0_1) ∧ Aside0 (Kd.V k53 53 wc w.heap.size (fun k_ => ((P0_1_ k_ ∨ P0_2_ k_) ∨ w.heap.size ≤ k_) ∧ k_ ≠ gb101 ∧ k_ ≠ gb102) (.slice A0_2 l0_2.length c0_2) l0_2) ∧ Aside0 (wc.heap[gb101]? = some (.cells #[.string a0_0, (.slice A0_1 l0_1.length c0_1), (.slice A0_2 l0_2.length c0_2)] 25 (0, 0))) ∧ Aside0 (wc.heap[gb102]? = some (.cells #[.string (⟨#[]⟩ : ByteArray), (.slice none 0 0), (.slice none 0 0)] 25 (0, 0))) ∧ Aside0 (Below w.heap.size w wc))
  case first =>
    have H := HC2.out
    clear HC2
    by_cases c5 : (l0_1.length : Int) > 26
    · rw [if_pos c5] at H
      have c5b0 : decide (26 < (l0_1.length : Int)) = true := decide_eq_true c5
      have c5b1 : decide (26 < l0_1.length) = true := decide_eq_true (by omega)
      clear c5
      (first | rw [c5b0] | (simp only [i64_w, i32_w]; rw [c5b0]) | skip)
      have H' := Aside0.mk H
      clear H
      have hnb6 := NB101_102.out
      have hnc6 := NB102_101.out
      obtain ⟨hcz7_0, hcz7_1, hcz7_2, hfz7_0, hfz7_1, hfz7_2⟩ := cf3 BK101.out
      go_wp2
      go_meet
      case rel => exact ⟨_, (true), prs, H', ⟨by first | omega | exact Nat.le_refl _⟩, ⟨by (with_reducible repeat (first | apply Kd.V_alloc | apply Kd.V_drewN | apply Kd.V_drew)); exact Kd.V_mono HO0_1.out (fun _ hk => ⟨hk.1.1, ⟨hk.1.2, hk.2⟩⟩)⟩, ⟨by (with_reducible repeat (first | apply Kd.V_alloc | apply Kd.V_drewN | apply Kd.V_drew)); exact Kd.V_mono HO0_2.out (fun _ hk => ⟨hk.1.1, ⟨hk.1.2, hk.2⟩⟩)⟩, ⟨by (with_reducible repeat (first | refine blk_drewN ?_ _ | refine blk_drew ?_ | refine blk_alloc ?_ _)); exact BK101.out⟩, ⟨by (with_reducible repeat (first | refine blk_drewN ?_ _ | refine blk_drew ?_ | refine blk_alloc ?_ _)); exact BK102.out⟩, ⟨by repeat (first | (with_reducible first | exact HB.out | apply below_alloc | apply pw_below_drewN | apply below_drew1 | refine below_set ?_ GE101.out | refine below_set ?_ GE102.out) | exact HB.out)⟩⟩
    rw [if_neg c5] at H
    have c5b0 : decide (26 < (l0_1.length : Int)) = false := decide_eq_false c5
    have c5b1 : decide (26 < l0_1.length) = false := decide_eq_false (by omega)
    clear c5
    (first | rw [c5b0] | (simp only [i64_w, i32_w]; rw [c5b0]) | skip)
    by_cases c8 : (l0_2.length : Int) > 26
    · rw [if_pos c8] at H
      have c8b0 : decide (26 < (l0_2.length : Int)) = true := decide_eq_true c8
      have c8b1 : decide (26 < l0_2.length) = true := decide_eq_true (by omega)
      clear c8
      have H' := Aside0.mk H
      clear H
      have hnb9 := NB101_102.out
      have hnc9 := NB102_101.out
      obtain ⟨hcz10_0, hcz10_1, hcz10_2, hfz10_0, hfz10_1, hfz10_2⟩ := cf3 BK101.out
      go_wp2
      go_meet
      case rel => exact ⟨_, (true), prs, H', ⟨by first | omega | exact Nat.le_refl _⟩, ⟨by (with_reducible repeat (first | apply Kd.V_alloc | apply Kd.V_drewN | apply Kd.V_drew)); exact Kd.V_mono HO0_1.out (fun _ hk => ⟨hk.1.1, ⟨hk.1.2, hk.2⟩⟩)⟩, ⟨by (with_reducible repeat (first | apply Kd.V_alloc | apply Kd.V_drewN | apply Kd.V_drew)); exact Kd.V_mono HO0_2.out (fun _ hk => ⟨hk.1.1, ⟨hk.1.2, hk.2⟩⟩)⟩, ⟨by (with_reducible repeat (first | refine blk_drewN ?_ _ | refine blk_drew ?_ | refine blk_alloc ?_ _)); exact BK101.out⟩, ⟨by (with_reducible repeat (first | refine blk_drewN ?_ _ | refine blk_drew ?_ | refine blk_alloc ?_ _)); exact BK102.out⟩, ⟨by repeat (first | (with_reducible first | exact HB.out | apply below_alloc | apply pw_below_drewN | apply below_drew1 | refine below_set ?_ GE101.out | refine below_set ?_ GE102.out) | exact HB.out)⟩⟩
    rw [if_neg c8] at H
    have c8b0 : decide (26 < (l0_2.length : Int)) = false := decide_eq_false c8
    have c8b1 : decide (26 < l0_2.length) = false := decide_eq_false (by omega)
    clear c8
    have H' := Aside0.mk H
    clear H
    have hnb11 := NB101_102.out
    have hnc11 := NB102_101.out
    obtain ⟨hcz12_0, hcz12_1, hcz12_2, hfz12_0, hfz12_1, hfz12_2⟩ := cf3 BK101.out
    go_wp2
    go_meet
    case rel => exact ⟨_, (decide ((a0_0.size : Int) > 20)), prs, H', ⟨by first | omega | exact Nat.le_refl _⟩, ⟨by (with_reducible repeat (first | apply Kd.V_alloc | apply Kd.V_drewN | apply Kd.V_drew)); exact Kd.V_mono HO0_1.out (fun _ hk => ⟨hk.1.1, ⟨hk.1.2, hk.2⟩⟩)⟩, ⟨by (with_reducible repeat (first | apply Kd.V_alloc | apply Kd.V_drewN | apply Kd.V_drew)); exact Kd.V_mono HO0_2.out (fun _ hk => ⟨hk.1.1, ⟨hk.1.2, hk.2⟩⟩)⟩, ⟨by (with_reducible repeat (first | refine blk_drewN ?_ _ | refine blk_drew ?_ | refine blk_alloc ?_ _)); exact BK101.out⟩, ⟨by (with_reducible repeat (first | refine blk_drewN ?_ _ | refine blk_drew ?_ | refine blk_alloc ?_ _)); exact BK102.out⟩, ⟨by repeat (first | (with_reducible first | exact HB.out | apply below_alloc | apply pw_below_drewN | apply below_drew1 | refine below_set ?_ GE101.out | refine below_set ?_ GE102.out) | exact HB.out)⟩⟩
  clear HC2
  try clear c5
  try clear c5b0
  try clear c5b1
  try clear c8
  try clear c8b0
  try clear c8b1
  try clear hcz10_0
  try clear hcz10_1
  try clear hcz10_2
  try clear hcz12_0
  try clear hcz12_1
  try clear hcz12_2
  try clear hcz7_0
  try clear hcz7_1
  try clear hcz7_2
  try clear hfz10_0
  try clear hfz10_1
  try clear hfz10_2
  try clear hfz12_0
  try clear hfz12_1
  try clear hfz12_2
  try clear hfz7_0
  try clear hfz7_1
  try clear hfz7_2
  obtain ⟨kq, x22_1, rfl, HA, HJ1, HO_102001, HO_102002, BK101, BK102, HB⟩ := hcut
  obtain _ | kj1 := kq
  · exact absurd HA.out (by simp [petrinetref09_Small.j0])
  have H := HA.out
  clear HA
  simp only [petrinetref09_Small.j0] at H
  by_cases c13 : x22_1 = true
  · subst c13
    have H1 : (some ((⟨#[]⟩ : ByteArray), ([] : List (S50)), ([] : List (S53)), false)) = some (r1, r2, r3, r4) := by rw [if_pos rfl] at H; exact H
    clear H
    have H := H1
    clear H1
    simp only [Option.some.injEq, Prod.mk.injEq] at H
    obtain ⟨rfl, rfl, rfl, rfl⟩ := H
    have hnb14 := NB102_101.out
    have hnc14 := NB101_102.out
    obtain ⟨hcz15_0, hcz15_1, hcz15_2, hfz15_0, hfz15_1, hfz15_2⟩ := cf3 BK102.out
    go_wp2
    refine bodyPost_ret (results_ct rfl _ _ gb102 25 #[.string (⟨#[]⟩ : ByteArray), .slice none 0 0, .slice none 0 0] (0, 0) _ rfl (by (with_reducible repeat (first | refine blk_drewN ?_ _ | refine blk_drew ?_ | refine blk_alloc ?_ _)); refine blk_put (cs := #[.string (⟨#[]⟩ : ByteArray), .slice none 0 0, .slice none 0 0]) ?_ 2 _ rfl; (with_reducible repeat (first | refine blk_drewN ?_ _ | refine blk_drew ?_ | refine blk_alloc ?_ _)); refine blk_put (cs := #[.string (⟨#[]⟩ : ByteArray), .slice none 0 0, .slice none 0 0]) ?_ 1 _ rfl; (with_reducible repeat (first | refine blk_drewN ?_ _ | refine blk_drew ?_ | refine blk_alloc ?_ _)); refine blk_put (cs := #[.string (⟨#[]⟩ : ByteArray), .slice none 0 0, .slice none 0 0]) ?_ 0 _ rfl; (with_reducible repeat (first | refine blk_drewN ?_ _ | refine blk_drew ?_ | refine blk_alloc ?_ _)); exact BK102.out) Try.underlying25 rfl (by kernel_rfl)) rfl ?_
    exact ⟨_, _, per, (Kd.V_nil _ _ _ _ _), (Kd.V_nil _ _ _ _ _), by repeat (first | (with_reducible first | exact HB.out | apply below_alloc | apply pw_below_drewN | apply below_drew1 | refine below_set ?_ GE101.out | refine below_set ?_ GE102.out) | exact HB.out)⟩
  replace c13 := Bool.eq_false_iff.mpr c13
  subst c13
  have H1 : (petrinetref09_Small.l0 kj1 0 a0_0 l0_1 l0_2) = some (r1, r2, r3, r4) := by rw [if_neg (show ¬ (false = true) by decide)] at H; exact H
  clear H
  have H := H1
  clear H1
  have H' := Aside0.mk H
  clear H
  go_wp2
  go_loopg [4] kj1 (fun kq v4 w' => ∃ (x4_2 : Int) (x103000_2 : ByteArray), v4 = .int .i64 x4_2 ∧ Aside0 (petrinetref09_Small.l0 kq x4_2 a0_0 l0_1 l0_2 = some (r1, r2, r3, r4)) ∧ Aside0 (kq ≤ kj1) ∧ Aside0 (Kd.V k50 50 w' w.heap.size (fun k_ => ((P0_1_ k_ ∨ P0_2_ k_) ∨ w.heap.size ≤ k_) ∧ k_ ≠ gb101 ∧ k_ ≠ gb102) (.slice A0_1 l0_1.length c0_1) l0_1) ∧ Aside0 (Kd.V k53 53 w' w.heap.size (fun k_ => ((P0_1_ k_ ∨ P0_2_ k_) ∨ w.heap.size ≤ k_) ∧ k_ ≠ gb101 ∧ k_ ≠ gb102) (.slice A0_2 l0_2.length c0_2) l0_2) ∧ Aside0 (w'.heap[gb101]? = some (.cells #[.string a0_0, (.slice A0_1 l0_1.length c0_1), (.slice A0_2 l0_2.length c0_2)] 25 (0, 0))) ∧ Aside0 (w'.heap[gb102]? = some (.cells #[.string x103000_2, (.slice none 0 0), (.slice none 0 0)] 25 (0, 0))) ∧ Aside0 (Below w.heap.size w w'))
  case atStart => exact ⟨(0), ((⟨#[]⟩ : ByteArray)), prs, H', ⟨Nat.le_refl _⟩, ⟨by (with_reducible repeat (first | apply Kd.V_alloc | apply Kd.V_drewN | apply Kd.V_drew)); exact HO_102001.out⟩, ⟨by (with_reducible repeat (first | apply Kd.V_alloc | apply Kd.V_drewN | apply Kd.V_drew)); exact HO_102002.out⟩, ⟨by (with_reducible repeat (first | refine blk_drewN ?_ _ | refine blk_drew ?_ | refine blk_alloc ?_ _)); exact BK101.out⟩, ⟨by (with_reducible repeat (first | refine blk_drewN ?_ _ | refine blk_drew ?_ | refine blk_alloc ?_ _)); exact BK102.out⟩, ⟨by repeat (first | (with_reducible first | exact HB.out | apply below_alloc | apply pw_below_drewN | apply below_drew1 | refine below_set ?_ GE101.out | refine below_set ?_ GE102.out) | exact HB.out)⟩⟩
  clear H'
  try clear c5
  try clear c5b0
  try clear c5b1
  try clear c8
  try clear c8b0
  try clear c8b1
  try clear c13
  try clear hcz10_0
  try clear hcz10_1
  try clear hcz10_2
  try clear hcz12_0
  try clear hcz12_1
  try clear hcz12_2
  try clear hcz15_0
  try clear hcz15_1
  try clear hcz15_2
  try clear hcz7_0
  try clear hcz7_1
  try clear hcz7_2
  try clear hfz10_0
  try clear hfz10_1
  try clear hfz10_2
  try clear hfz12_0
  try clear hfz12_1
  try clear hfz12_2
  try clear hfz15_0
  try clear hfz15_1
  try clear hfz15_2
  try clear hfz7_0
  try clear hfz7_1
  try clear hfz7_2
  obtain ⟨x4_2, x103000_2, rfl, HA, HK2, HO_102001, HO_102002, BK101, BK102, HB⟩ := hrel
  obtain _ | k2 := gk
  · exact absurd HA.out (by simp [petrinetref09_Small.l0])
  have H := HA.out
  clear HA
  simp only [petrinetref09_Small.l0] at H
  by_cases c16 : x4_2 < (l0_1.length : Int)
  · rw [if_pos c16] at H
    have c16b0 : decide (x4_2 < (l0_1.length : Int)) = true := decide_eq_true c16
    clear c16
    by_cases c17 : 0 ≤ x4_2
    rotate_left
    · rw [if_neg c17] at H
      exact absurd H (by simp)
    rw [if_pos c17] at H
    have c17b0 : decide (0 ≤ x4_2) = true := decide_eq_true c17
    clear c17
    by_cases c18 : (((rd_T50 l0_1 x4_2).f0).size : Int) > 20
    rotate_left
    · rw [if_neg c18] at H
      have c18b0 : decide (20 < (((rd_T50 l0_1 x4_2).f0).size : Int)) = false := decide_eq_false c18
      have c18b1 : decide (20 < ((rd_T50 l0_1 x4_2).f0).size) = false := decide_eq_false (by omega)
      clear c18
      have H' := Aside0.mk H
      clear H
      have hnb22 := NB101_102.out
      have hnc22 := NB102_101.out
      obtain ⟨hcz23_0, hcz23_1, hcz23_2, hfz23_0, hfz23_1, hfz23_2⟩ := cf3 BK101.out
      have p103 : 0 ≤ (x4_2 : Int) := dq
      have q103 : x4_2 < (l0_1.length : Int) := dq
      obtain ⟨ad103, e103, hx103_0, hx103_1, hx103_2⟩ := at_T50 (Kd.V_reads' HO_102001.out).2.2 x4_2 p103 q103
      cases e103
      replace p103 := eq_true p103
      replace q103 := eq_true q103
      go_wp2
      go_roundg k2
      case measure => have := HJ1.out; have := HK2.out; omega
      case rel => exact ⟨(wrap64 (x4_2 + 1)), (x103000_2), prs, H', ⟨by have := HJ1.out; have := HK2.out; omega⟩, ⟨by (with_reducible repeat (first | apply Kd.V_alloc | apply Kd.V_drewN | apply Kd.V_drew)); exact HO_102001.out⟩, ⟨by (with_reducible repeat (first | apply Kd.V_alloc | apply Kd.V_drewN | apply Kd.V_drew)); exact HO_102002.out⟩, ⟨by (with_reducible repeat (first | refine blk_drewN ?_ _ | refine blk_drew ?_ | refine blk_alloc ?_ _)); exact BK101.out⟩, ⟨by (with_reducible repeat (first | refine blk_drewN ?_ _ | refine blk_drew ?_ | refine blk_alloc ?_ _)); exact BK102.out⟩, ⟨by repeat (first | (with_reducible first | exact HB.out | apply below_alloc | apply pw_below_drewN | apply below_drew1 | refine below_set ?_ GE101.out | refine below_set ?_ GE102.out) | exact HB.out)⟩⟩
    rw [if_pos c18] at H
    have c18b0 : decide (20 < (((rd_T50 l0_1 x4_2).f0).size : Int)) = true := decide_eq_true c18
    have c18b1 : decide (20 < ((rd_T50 l0_1 x4_2).f0).size) = true := decide_eq_true (by omega)
    clear c18
    simp only [Option.some.injEq, Prod.mk.injEq] at H
    obtain ⟨rfl, rfl, rfl, rfl⟩ := H
    have hnb19 := NB101_102.out
    have hnc19 := NB102_101.out
    obtain ⟨hcz20_0, hcz20_1, hcz20_2, hfz20_0, hfz20_1, hfz20_2⟩ := cf3 BK101.out
    have p103 : 0 ≤ (x4_2 : Int) := dq
    have q103 : x4_2 < (l0_1.length : Int) := dq
    obtain ⟨ad103, e103, hx103_0, hx103_1, hx103_2⟩ := at_T50 (Kd.V_reads' HO_102001.out).2.2 x4_2 p103 q103
    cases e103
    replace p103 := eq_true p103
    replace q103 := eq_true q103
    obtain ⟨hcz21_0, hcz21_1, hcz21_2, hfz21_0, hfz21_1, hfz21_2⟩ := cf3 BK102.out
    go_wp2
    refine bodyPost_ret (results_ct rfl _ _ gb102 25 #[.string (⟨#[]⟩ : ByteArray), .slice none 0 0, .slice none 0 0] (0, 0) _ rfl (by (with_reducible repeat (first | refine blk_drewN ?_ _ | refine blk_drew ?_ | refine blk_alloc ?_ _)); refine blk_put (cs := #[.string (⟨#[]⟩ : ByteArray), .slice none 0 0, .slice none 0 0]) ?_ 2 _ rfl; (with_reducible repeat (first | refine blk_drewN ?_ _ | refine blk_drew ?_ | refine blk_alloc ?_ _)); refine blk_put (cs := #[.string (⟨#[]⟩ : ByteArray), .slice none 0 0, .slice none 0 0]) ?_ 1 _ rfl; (with_reducible repeat (first | refine blk_drewN ?_ _ | refine blk_drew ?_ | refine blk_alloc ?_ _)); refine blk_put (cs := #[.string x103000_2, .slice none 0 0, .slice none 0 0]) ?_ 0 _ rfl; (with_reducible repeat (first | refine blk_drewN ?_ _ | refine blk_drew ?_ | refine blk_alloc ?_ _)); exact BK102.out) Try.underlying25 rfl (by kernel_rfl)) rfl ?_
    exact ⟨_, _, per, (Kd.V_nil _ _ _ _ _), (Kd.V_nil _ _ _ _ _), by repeat (first | (with_reducible first | exact HB.out | apply below_alloc | apply pw_below_drewN | apply below_drew1 | refine below_set ?_ GE101.out | refine below_set ?_ GE102.out) | exact HB.out)⟩
  rw [if_neg c16] at H
  have c16b0 : decide (x4_2 < (l0_1.length : Int)) = false := decide_eq_false c16
  clear c16
  have H' := Aside0.mk H
  clear H
  have hnb24 := NB101_102.out
  have hnc24 := NB102_101.out
  obtain ⟨hcz25_0, hcz25_1, hcz25_2, hfz25_0, hfz25_1, hfz25_2⟩ := cf3 BK101.out
  go_wp2
  go_loopg [5] k2 (fun kq v5 w' => ∃ (x5_3 : Int) (x103000_3 : ByteArray), v5 = .int .i64 x5_3 ∧ Aside0 (petrinetref09_Small.l1 kq x5_3 a0_0 l0_1 l0_2 = some (r1, r2, r3, r4)) ∧ Aside0 (kq ≤ k2) ∧ Aside0 (Kd.V k50 50 w' w.heap.size (fun k_ => ((P0_1_ k_ ∨ P0_2_ k_) ∨ w.heap.size ≤ k_) ∧ k_ ≠ gb101 ∧ k_ ≠ gb102) (.slice A0_1 l0_1.length c0_1) l0_1) ∧ Aside0 (Kd.V k53 53 w' w.heap.size (fun k_ => ((P0_1_ k_ ∨ P0_2_ k_) ∨ w.heap.size ≤ k_) ∧ k_ ≠ gb101 ∧ k_ ≠ gb102) (.slice A0_2 l0_2.length c0_2) l0_2) ∧ Aside0 (w'.heap[gb101]? = some (.cells #[.string a0_0, (.slice A0_1 l0_1.length c0_1), (.slice A0_2 l0_2.length c0_2)] 25 (0, 0))) ∧ Aside0 (w'.heap[gb102]? = some (.cells #[.string x103000_3, (.slice none 0 0), (.slice none 0 0)] 25 (0, 0))) ∧ Aside0 (Below w.heap.size w w'))
  case atStart => exact ⟨(0), (x103000_2), prs, H', ⟨Nat.le_refl _⟩, ⟨by (with_reducible repeat (first | apply Kd.V_alloc | apply Kd.V_drewN | apply Kd.V_drew)); exact HO_102001.out⟩, ⟨by (with_reducible repeat (first | apply Kd.V_alloc | apply Kd.V_drewN | apply Kd.V_drew)); exact HO_102002.out⟩, ⟨by (with_reducible repeat (first | refine blk_drewN ?_ _ | refine blk_drew ?_ | refine blk_alloc ?_ _)); exact BK101.out⟩, ⟨by (with_reducible repeat (first | refine blk_drewN ?_ _ | refine blk_drew ?_ | refine blk_alloc ?_ _)); exact BK102.out⟩, ⟨by repeat (first | (with_reducible first | exact HB.out | apply below_alloc | apply pw_below_drewN | apply below_drew1 | refine below_set ?_ GE101.out | refine below_set ?_ GE102.out) | exact HB.out)⟩⟩
  clear H'
  try clear c5
  try clear c5b0
  try clear c5b1
  try clear c8
  try clear c8b0
  try clear c8b1
  try clear c13
  try clear c16
  try clear c16b0
  try clear c17
  try clear c17b0
  try clear c18
  try clear c18b0
  try clear c18b1
  try clear hcz10_0
  try clear hcz10_1
  try clear hcz10_2
  try clear hcz12_0
  try clear hcz12_1
  try clear hcz12_2
  try clear hcz15_0
  try clear hcz15_1
  try clear hcz15_2
  try clear hcz20_0
  try clear hcz20_1
  try clear hcz20_2
  try clear hcz21_0
  try clear hcz21_1
  try clear hcz21_2
  try clear hcz23_0
  try clear hcz23_1
  try clear hcz23_2
  try clear hcz25_0
  try clear hcz25_1
  try clear hcz25_2
  try clear hcz7_0
  try clear hcz7_1
  try clear hcz7_2
  try clear hfz10_0
  try clear hfz10_1
  try clear hfz10_2
  try clear hfz12_0
  try clear hfz12_1
  try clear hfz12_2
  try clear hfz15_0
  try clear hfz15_1
  try clear hfz15_2
  try clear hfz20_0
  try clear hfz20_1
  try clear hfz20_2
  try clear hfz21_0
  try clear hfz21_1
  try clear hfz21_2
  try clear hfz23_0
  try clear hfz23_1
  try clear hfz23_2
  try clear hfz25_0
  try clear hfz25_1
  try clear hfz25_2
  try clear hfz7_0
  try clear hfz7_1
  try clear hfz7_2
  try clear hx103_0
  try clear hx103_1
  try clear hx103_2
  try clear p103
  try clear q103
  obtain ⟨x5_3, x103000_3, rfl, HA, HK3, HO_102001, HO_102002, BK101, BK102, HB⟩ := hrel
  obtain _ | k3 := gk
  · exact absurd HA.out (by simp [petrinetref09_Small.l1])
  have H := HA.out
  clear HA
  simp only [petrinetref09_Small.l1] at H
  by_cases c26 : x5_3 < (l0_2.length : Int)
  rotate_left
  · rw [if_neg c26] at H
    have c26b0 : decide (x5_3 < (l0_2.length : Int)) = false := decide_eq_false c26
    clear c26
    simp only [Option.some.injEq, Prod.mk.injEq] at H
    obtain ⟨rfl, rfl, rfl, rfl⟩ := H
    have hnb66 := NB101_102.out
    have hnc66 := NB102_101.out
    obtain ⟨hcz67_0, hcz67_1, hcz67_2, hfz67_0, hfz67_1, hfz67_2⟩ := cf3 BK101.out
    obtain ⟨hcz68_0, hcz68_1, hcz68_2, hfz68_0, hfz68_1, hfz68_2⟩ := cf3 BK102.out
    go_wp2
    refine bodyPost_ret (results_ct rfl _ _ gb102 25 #[.string a0_0, .slice A0_1 l0_1.length c0_1, .slice A0_2 l0_2.length c0_2] (0, 0) _ rfl (by (with_reducible repeat (first | refine blk_drewN ?_ _ | refine blk_drew ?_ | refine blk_alloc ?_ _)); refine blk_put (cs := #[.string a0_0, .slice A0_1 l0_1.length c0_1, .slice none 0 0]) ?_ 2 _ rfl; (with_reducible repeat (first | refine blk_drewN ?_ _ | refine blk_drew ?_ | refine blk_alloc ?_ _)); refine blk_put (cs := #[.string a0_0, .slice none 0 0, .slice none 0 0]) ?_ 1 _ rfl; (with_reducible repeat (first | refine blk_drewN ?_ _ | refine blk_drew ?_ | refine blk_alloc ?_ _)); refine blk_put (cs := #[.string x103000_3, .slice none 0 0, .slice none 0 0]) ?_ 0 _ rfl; (with_reducible repeat (first | refine blk_drewN ?_ _ | refine blk_drew ?_ | refine blk_alloc ?_ _)); exact BK102.out) Try.underlying25 rfl (by kernel_rfl)) rfl ?_
    exact ⟨_, _, per, by (with_reducible repeat (first | apply Kd.V_alloc | apply Kd.V_drewN | apply Kd.V_drew)); exact Kd.V_mono (Kd.V_far (p := ⟨gb102, 2, none⟩) (Kd.V_far (p := ⟨gb102, 1, none⟩) (Kd.V_far (p := ⟨gb102, 0, none⟩) (Kd.V_mono HO_102001.out (fun k_ hk => (⟨hk, hk.2.2⟩ : _ ∧ k_ ≠ gb102))) (fun _ hk => hk.2) (.string a0_0)) (fun _ hk => hk.2) (.slice A0_1 l0_1.length c0_1)) (fun _ hk => hk.2) (.slice A0_2 l0_2.length c0_2)) (fun _ hk => hk.1.1), by (with_reducible repeat (first | apply Kd.V_alloc | apply Kd.V_drewN | apply Kd.V_drew)); exact Kd.V_mono (Kd.V_far (p := ⟨gb102, 2, none⟩) (Kd.V_far (p := ⟨gb102, 1, none⟩) (Kd.V_far (p := ⟨gb102, 0, none⟩) (Kd.V_mono HO_102002.out (fun k_ hk => (⟨hk, hk.2.2⟩ : _ ∧ k_ ≠ gb102))) (fun _ hk => hk.2) (.string a0_0)) (fun _ hk => hk.2) (.slice A0_1 l0_1.length c0_1)) (fun _ hk => hk.2) (.slice A0_2 l0_2.length c0_2)) (fun _ hk => hk.1.1), by repeat (first | (with_reducible first | exact HB.out | apply below_alloc | apply pw_below_drewN | apply below_drew1 | refine below_set ?_ GE101.out | refine below_set ?_ GE102.out) | exact HB.out)⟩
  rw [if_pos c26] at H
  have c26b0 : decide (x5_3 < (l0_2.length : Int)) = true := decide_eq_true c26
  clear c26
  by_cases c27 : 0 ≤ x5_3
  rotate_left
  · rw [if_neg c27] at H
    exact absurd H (by simp)
  rw [if_pos c27] at H
  have c27b0 : decide (0 ≤ x5_3) = true := decide_eq_true c27
  clear c27
  by_cases c28 : (((rd_T53 l0_2 x5_3).f0).size : Int) > 20
  · rw [if_pos c28] at H
    have c28b0 : decide (20 < (((rd_T53 l0_2 x5_3).f0).size : Int)) = true := decide_eq_true c28
    have c28b1 : decide (20 < ((rd_T53 l0_2 x5_3).f0).size) = true := decide_eq_true (by omega)
    clear c28
    simp only [Option.some.injEq, Prod.mk.injEq] at H
    obtain ⟨rfl, rfl, rfl, rfl⟩ := H
    have hnb29 := NB101_102.out
    have hnc29 := NB102_101.out
    obtain ⟨hcz30_0, hcz30_1, hcz30_2, hfz30_0, hfz30_1, hfz30_2⟩ := cf3 BK101.out
    have p104 : 0 ≤ (x5_3 : Int) := dq
    have q104 : x5_3 < (l0_2.length : Int) := dq
    obtain ⟨ad104, A104_1, c104_1, A104_2, c104_2, A104_3, c104_3, e104, hx104_0, hx104_1, hx104_2, hx104_3, hx104_4, hl104_1, hi104_1, hl104_2, hi104_2, hl104_3, hi104_3⟩ := at_T53 (Kd.V_reads' HO_102002.out).2.2 x5_3 p104 q104
    cases e104
    obtain ⟨ce104, hce104, hMe104, hcc104⟩ := Kd.V_get HO_102002.out z53 x5_3 p104 (by first | exact q104 | exact dq | (have e_ := (Kd.V_reads' HO_102002.out).1; omega))
    obtain ⟨ua104_1, uc104_1, ua104_2, uc104_2, ua104_3, uc104_3, rfl, ul104_1, ge104_1, ul104_2, ge104_2, ul104_3, ge104_3⟩ := k53_openF hMe104
    have hv104_1 := hcc104 1 _ rfl
    rw [add_field _ _ 1 (by omega)] at hv104_1
    replace hv104_1 := Option.some.inj (hv104_1.symm.trans hx104_1)
    injection hv104_1 with hva_ hvn_ hvc_
    rw [hva_] at ge104_1
    rw [hvc_] at ul104_1
    have HL104_1 := Aside0.mk (show Kd.V k64 64 _ w.heap.size _ _ ((rd_T53 l0_2 x5_3).f1) from Kd.V_mk ul104_1 ge104_1)
    clear hva_ hvn_ hvc_ ge104_1 ul104_1
    have hv104_2 := hcc104 2 _ rfl
    rw [add_field _ _ 2 (by omega)] at hv104_2
    replace hv104_2 := Option.some.inj (hv104_2.symm.trans hx104_2)
    injection hv104_2 with hva_ hvn_ hvc_
    rw [hva_] at ge104_2
    rw [hvc_] at ul104_2
    have HL104_2 := Aside0.mk (show Kd.V k64 64 _ w.heap.size _ _ ((rd_T53 l0_2 x5_3).f2) from Kd.V_mk ul104_2 ge104_2)
    clear hva_ hvn_ hvc_ ge104_2 ul104_2
    have hv104_3 := hcc104 3 _ rfl
    rw [add_field _ _ 3 (by omega)] at hv104_3
    replace hv104_3 := Option.some.inj (hv104_3.symm.trans hx104_3)
    injection hv104_3 with hva_ hvn_ hvc_
    rw [hva_] at ge104_3
    rw [hvc_] at ul104_3
    have HL104_3 := Aside0.mk (show Kd.V k64 64 _ w.heap.size _ _ ((rd_T53 l0_2 x5_3).f3) from Kd.V_mk ul104_3 ge104_3)
    clear hva_ hvn_ hvc_ ge104_3 ul104_3 hcc104 hce104
    have HR104_1 := Aside0.mk hi104_1
    have HC104_1 := Aside0.mk hl104_1
    clear hi104_1 hl104_1
    have HR104_2 := Aside0.mk hi104_2
    have HC104_2 := Aside0.mk hl104_2
    clear hi104_2 hl104_2
    have HR104_3 := Aside0.mk hi104_3
    have HC104_3 := Aside0.mk hl104_3
    clear hi104_3 hl104_3
    replace p104 := eq_true p104
    replace q104 := eq_true q104
    go_wp2_with (first | ((with_reducible refine gate_dst (N := 6) rfl ?_); (try (refine gate_guard (by rfl) ?_; dsimp only)); refine box_event ?hg (N := 6) ?hd (cs := #[.string (⟨#[]⟩ : ByteArray), .slice none 0 0, .slice none 0 0, .slice none 0 0, .int .i64 0]) (t := 53) ?hr ?_; (case hd => rfl); (case hg => rfl); (case hr => first | (go_simp; done) | (go_simp; rfl)); intro gb105 hg w31 hbox hb; have n0_ := Aside0.mk (Kd.V_below (Kd.V_elderB (by (with_reducible repeat (first | apply Kd.V_alloc | apply Kd.V_drewN | apply Kd.V_drew)); exact HO_102001.out) gb105 (Nat.le_of_eq hg.symm)) hb); have n1_ := Aside0.mk (Kd.V_below (Kd.V_elderB (by (with_reducible repeat (first | apply Kd.V_alloc | apply Kd.V_drewN | apply Kd.V_drew)); exact HO_102002.out) gb105 (Nat.le_of_eq hg.symm)) hb); have n2_ := Aside0.mk (Kd.V_below (Kd.V_elderB (by (with_reducible repeat (first | apply Kd.V_alloc | apply Kd.V_drewN | apply Kd.V_drew)); exact HL104_1.out) gb105 (Nat.le_of_eq hg.symm)) hb); have n3_ := Aside0.mk (Kd.V_below (Kd.V_elderB (by (with_reducible repeat (first | apply Kd.V_alloc | apply Kd.V_drewN | apply Kd.V_drew)); exact HL104_2.out) gb105 (Nat.le_of_eq hg.symm)) hb); have n4_ := Aside0.mk (Kd.V_below (Kd.V_elderB (by (with_reducible repeat (first | apply Kd.V_alloc | apply Kd.V_drewN | apply Kd.V_drew)); exact HL104_3.out) gb105 (Nat.le_of_eq hg.symm)) hb); have n5_ := Aside0.mk (blk_below (by (with_reducible repeat (first | refine blk_drewN ?_ _ | refine blk_drew ?_ | refine blk_alloc ?_ _)); exact BK101.out) hb); have n6_ := Aside0.mk (blk_below (by (with_reducible repeat (first | refine blk_drewN ?_ _ | refine blk_drew ?_ | refine blk_alloc ?_ _)); exact BK102.out) hb); have n7_ := Aside0.mk (Kd.C_below (by repeat (first | (with_reducible exact HR104_1.out) | (with_reducible refine Kd.C_alloc ?_ _) | (with_reducible refine Kd.C_drewN ?_ _) | (with_reducible refine Kd.C_drew ?_) | exact HR104_1.out)) hb); have n8_ := Aside0.mk (Kd.C_below (by repeat (first | (with_reducible exact HR104_2.out) | (with_reducible refine Kd.C_alloc ?_ _) | (with_reducible refine Kd.C_drewN ?_ _) | (with_reducible refine Kd.C_drew ?_) | exact HR104_2.out)) hb); have n9_ := Aside0.mk (Kd.C_below (by repeat (first | (with_reducible exact HR104_3.out) | (with_reducible refine Kd.C_alloc ?_ _) | (with_reducible refine Kd.C_drewN ?_ _) | (with_reducible refine Kd.C_drew ?_) | exact HR104_3.out)) hb); have n10_ := Aside0.mk (below_step (by repeat (first | (with_reducible first | exact HB.out | apply below_alloc | apply pw_below_drewN | apply below_drew1 | refine below_set ?_ GE101.out | refine below_set ?_ GE102.out) | exact HB.out)) hb); have n11_ := Aside0.mk (hbox); have n12_ := Aside0.mk ((by rw [hg]; exact (below_size (by repeat (first | (with_reducible first | exact HB.out | apply below_alloc | apply pw_below_drewN | apply below_drew1 | refine below_set ?_ GE101.out | refine below_set ?_ GE102.out) | exact HB.out))) : w.heap.size ≤ gb105)); have n13_ := n12_; have n14_ := Aside0.mk ((by rw [hg]; exact Nat.ne_of_lt (blk_lt (by (with_reducible repeat (first | refine blk_drewN ?_ _ | refine blk_drew ?_ | refine blk_alloc ?_ _)); exact BK101.out)) : gb101 ≠ gb105)); have n15_ := Aside0.mk ((by rw [hg]; exact Nat.ne_of_gt (blk_lt (by (with_reducible repeat (first | refine blk_drewN ?_ _ | refine blk_drew ?_ | refine blk_alloc ?_ _)); exact BK101.out)) : gb105 ≠ gb101)); have n16_ := Aside0.mk ((by rw [hg]; exact Nat.ne_of_lt (blk_lt (by (with_reducible repeat (first | refine blk_drewN ?_ _ | refine blk_drew ?_ | refine blk_alloc ?_ _)); exact BK102.out)) : gb102 ≠ gb105)); have n17_ := Aside0.mk ((by rw [hg]; exact Nat.ne_of_gt (blk_lt (by (with_reducible repeat (first | refine blk_drewN ?_ _ | refine blk_drew ?_ | refine blk_alloc ?_ _)); exact BK102.out)) : gb105 ≠ gb102)); clear HO_102001; clear HO_102002; clear HL104_1; clear HL104_2; clear HL104_3; clear BK101; clear BK102; clear HR104_1; clear HR104_2; clear HR104_3; clear HB; have HO_102001 := n0_; have HO_102002 := n1_; have HL104_1 := n2_; have HL104_2 := n3_; have HL104_3 := n4_; have BK101 := n5_; have BK102 := n6_; have HR104_1 := n7_; have HR104_2 := n8_; have HR104_3 := n9_; have HB := n10_; have BK105 := n11_; have GW105 := n12_; have GE105 := n13_; have NB101_105 := n14_; have NB105_101 := n15_; have NB102_105 := n16_; have NB105_102 := n17_; clear n0_ n1_ n2_ n3_ n4_ n5_ n6_ n7_ n8_ n9_ n10_ n11_ n12_ n13_ n14_ n15_ n16_ n17_; clear hb hbox hg; have hnb32 := NB105_101.out; have hnc32 := NB101_105.out; have hnb33 := NB105_102.out; have hnc33 := NB102_105.out; obtain ⟨hcz34_0, hcz34_1, hcz34_2, hcz34_3, hcz34_4, hfz34_0, hfz34_1, hfz34_2, hfz34_3, hfz34_4⟩ := cf5 BK105.out; obtain ⟨hcz35_0, hcz35_1, hcz35_2, hfz35_0, hfz35_1, hfz35_2⟩ := cf3 BK102.out))
    refine bodyPost_ret (results_ct rfl _ _ gb102 25 #[.string (⟨#[]⟩ : ByteArray), .slice none 0 0, .slice none 0 0] (0, 0) _ rfl (by (with_reducible repeat (first | refine blk_drewN ?_ _ | refine blk_drew ?_ | refine blk_alloc ?_ _)); refine blk_put (cs := #[.string (⟨#[]⟩ : ByteArray), .slice none 0 0, .slice none 0 0]) ?_ 2 _ rfl; (with_reducible repeat (first | refine blk_drewN ?_ _ | refine blk_drew ?_ | refine blk_alloc ?_ _)); refine blk_put (cs := #[.string (⟨#[]⟩ : ByteArray), .slice none 0 0, .slice none 0 0]) ?_ 1 _ rfl; (with_reducible repeat (first | refine blk_drewN ?_ _ | refine blk_drew ?_ | refine blk_alloc ?_ _)); refine blk_put (cs := #[.string x103000_3, .slice none 0 0, .slice none 0 0]) ?_ 0 _ rfl; (with_reducible repeat (first | refine blk_drewN ?_ _ | refine blk_drew ?_ | refine blk_alloc ?_ _)); refine blk_far ?_ NB102_105.out _; (with_reducible repeat (first | refine blk_drewN ?_ _ | refine blk_drew ?_ | refine blk_alloc ?_ _)); refine blk_far ?_ NB102_105.out _; (with_reducible repeat (first | refine blk_drewN ?_ _ | refine blk_drew ?_ | refine blk_alloc ?_ _)); refine blk_far ?_ NB102_105.out _; (with_reducible repeat (first | refine blk_drewN ?_ _ | refine blk_drew ?_ | refine blk_alloc ?_ _)); refine blk_far ?_ NB102_105.out _; (with_reducible repeat (first | refine blk_drewN ?_ _ | refine blk_drew ?_ | refine blk_alloc ?_ _)); refine blk_far ?_ NB102_105.out _; (with_reducible repeat (first | refine blk_drewN ?_ _ | refine blk_drew ?_ | refine blk_alloc ?_ _)); exact BK102.out) Try.underlying25 rfl (by kernel_rfl)) rfl ?_
    exact ⟨_, _, per, (Kd.V_nil _ _ _ _ _), (Kd.V_nil _ _ _ _ _), by repeat (first | (with_reducible first | exact HB.out | apply below_alloc | apply pw_below_drewN | apply below_drew1 | refine below_set ?_ GE101.out | refine below_set ?_ GE102.out | refine below_set ?_ GE105.out) | exact HB.out)⟩
  rw [if_neg c28] at H
  have c28b0 : decide (20 < (((rd_T53 l0_2 x5_3).f0).size : Int)) = false := decide_eq_false c28
  have c28b1 : decide (20 < ((rd_T53 l0_2 x5_3).f0).size) = false := decide_eq_false (by omega)
  clear c28
  by_cases c36 : (((rd_T53 l0_2 x5_3).f1).length : Int) > 26
  · rw [if_pos c36] at H
    have c36b0 : decide (26 < (((rd_T53 l0_2 x5_3).f1).length : Int)) = true := decide_eq_true c36
    have c36b1 : decide (26 < ((rd_T53 l0_2 x5_3).f1).length) = true := decide_eq_true (by omega)
    clear c36
    simp only [Option.some.injEq, Prod.mk.injEq] at H
    obtain ⟨rfl, rfl, rfl, rfl⟩ := H
    have hnb37 := NB101_102.out
    have hnc37 := NB102_101.out
    obtain ⟨hcz38_0, hcz38_1, hcz38_2, hfz38_0, hfz38_1, hfz38_2⟩ := cf3 BK101.out
    have p104 : 0 ≤ (x5_3 : Int) := dq
    have q104 : x5_3 < (l0_2.length : Int) := dq
    obtain ⟨ad104, A104_1, c104_1, A104_2, c104_2, A104_3, c104_3, e104, hx104_0, hx104_1, hx104_2, hx104_3, hx104_4, hl104_1, hi104_1, hl104_2, hi104_2, hl104_3, hi104_3⟩ := at_T53 (Kd.V_reads' HO_102002.out).2.2 x5_3 p104 q104
    cases e104
    obtain ⟨ce104, hce104, hMe104, hcc104⟩ := Kd.V_get HO_102002.out z53 x5_3 p104 (by first | exact q104 | exact dq | (have e_ := (Kd.V_reads' HO_102002.out).1; omega))
    obtain ⟨ua104_1, uc104_1, ua104_2, uc104_2, ua104_3, uc104_3, rfl, ul104_1, ge104_1, ul104_2, ge104_2, ul104_3, ge104_3⟩ := k53_openF hMe104
    have hv104_1 := hcc104 1 _ rfl
    rw [add_field _ _ 1 (by omega)] at hv104_1
    replace hv104_1 := Option.some.inj (hv104_1.symm.trans hx104_1)
    injection hv104_1 with hva_ hvn_ hvc_
    rw [hva_] at ge104_1
    rw [hvc_] at ul104_1
    have HL104_1 := Aside0.mk (show Kd.V k64 64 _ w.heap.size _ _ ((rd_T53 l0_2 x5_3).f1) from Kd.V_mk ul104_1 ge104_1)
    clear hva_ hvn_ hvc_ ge104_1 ul104_1
    have hv104_2 := hcc104 2 _ rfl
    rw [add_field _ _ 2 (by omega)] at hv104_2
    replace hv104_2 := Option.some.inj (hv104_2.symm.trans hx104_2)
    injection hv104_2 with hva_ hvn_ hvc_
    rw [hva_] at ge104_2
    rw [hvc_] at ul104_2
    have HL104_2 := Aside0.mk (show Kd.V k64 64 _ w.heap.size _ _ ((rd_T53 l0_2 x5_3).f2) from Kd.V_mk ul104_2 ge104_2)
    clear hva_ hvn_ hvc_ ge104_2 ul104_2
    have hv104_3 := hcc104 3 _ rfl
    rw [add_field _ _ 3 (by omega)] at hv104_3
    replace hv104_3 := Option.some.inj (hv104_3.symm.trans hx104_3)
    injection hv104_3 with hva_ hvn_ hvc_
    rw [hva_] at ge104_3
    rw [hvc_] at ul104_3
    have HL104_3 := Aside0.mk (show Kd.V k64 64 _ w.heap.size _ _ ((rd_T53 l0_2 x5_3).f3) from Kd.V_mk ul104_3 ge104_3)
    clear hva_ hvn_ hvc_ ge104_3 ul104_3 hcc104 hce104
    have HR104_1 := Aside0.mk hi104_1
    have HC104_1 := Aside0.mk hl104_1
    clear hi104_1 hl104_1
    have HR104_2 := Aside0.mk hi104_2
    have HC104_2 := Aside0.mk hl104_2
    clear hi104_2 hl104_2
    have HR104_3 := Aside0.mk hi104_3
    have HC104_3 := Aside0.mk hl104_3
    clear hi104_3 hl104_3
    replace p104 := eq_true p104
    replace q104 := eq_true q104
    go_wp2_with (first | ((with_reducible refine gate_dst (N := 6) rfl ?_); (try (refine gate_guard (by rfl) ?_; dsimp only)); refine box_event ?hg (N := 6) ?hd (cs := #[.string (⟨#[]⟩ : ByteArray), .slice none 0 0, .slice none 0 0, .slice none 0 0, .int .i64 0]) (t := 53) ?hr ?_; (case hd => rfl); (case hg => rfl); (case hr => first | (go_simp; done) | (go_simp; rfl)); intro gb105 hg w39 hbox hb; have n0_ := Aside0.mk (Kd.V_below (Kd.V_elderB (by (with_reducible repeat (first | apply Kd.V_alloc | apply Kd.V_drewN | apply Kd.V_drew)); exact HO_102001.out) gb105 (Nat.le_of_eq hg.symm)) hb); have n1_ := Aside0.mk (Kd.V_below (Kd.V_elderB (by (with_reducible repeat (first | apply Kd.V_alloc | apply Kd.V_drewN | apply Kd.V_drew)); exact HO_102002.out) gb105 (Nat.le_of_eq hg.symm)) hb); have n2_ := Aside0.mk (Kd.V_below (Kd.V_elderB (by (with_reducible repeat (first | apply Kd.V_alloc | apply Kd.V_drewN | apply Kd.V_drew)); exact HL104_1.out) gb105 (Nat.le_of_eq hg.symm)) hb); have n3_ := Aside0.mk (Kd.V_below (Kd.V_elderB (by (with_reducible repeat (first | apply Kd.V_alloc | apply Kd.V_drewN | apply Kd.V_drew)); exact HL104_2.out) gb105 (Nat.le_of_eq hg.symm)) hb); have n4_ := Aside0.mk (Kd.V_below (Kd.V_elderB (by (with_reducible repeat (first | apply Kd.V_alloc | apply Kd.V_drewN | apply Kd.V_drew)); exact HL104_3.out) gb105 (Nat.le_of_eq hg.symm)) hb); have n5_ := Aside0.mk (blk_below (by (with_reducible repeat (first | refine blk_drewN ?_ _ | refine blk_drew ?_ | refine blk_alloc ?_ _)); exact BK101.out) hb); have n6_ := Aside0.mk (blk_below (by (with_reducible repeat (first | refine blk_drewN ?_ _ | refine blk_drew ?_ | refine blk_alloc ?_ _)); exact BK102.out) hb); have n7_ := Aside0.mk (Kd.C_below (by repeat (first | (with_reducible exact HR104_1.out) | (with_reducible refine Kd.C_alloc ?_ _) | (with_reducible refine Kd.C_drewN ?_ _) | (with_reducible refine Kd.C_drew ?_) | exact HR104_1.out)) hb); have n8_ := Aside0.mk (Kd.C_below (by repeat (first | (with_reducible exact HR104_2.out) | (with_reducible refine Kd.C_alloc ?_ _) | (with_reducible refine Kd.C_drewN ?_ _) | (with_reducible refine Kd.C_drew ?_) | exact HR104_2.out)) hb); have n9_ := Aside0.mk (Kd.C_below (by repeat (first | (with_reducible exact HR104_3.out) | (with_reducible refine Kd.C_alloc ?_ _) | (with_reducible refine Kd.C_drewN ?_ _) | (with_reducible refine Kd.C_drew ?_) | exact HR104_3.out)) hb); have n10_ := Aside0.mk (below_step (by repeat (first | (with_reducible first | exact HB.out | apply below_alloc | apply pw_below_drewN | apply below_drew1 | refine below_set ?_ GE101.out | refine below_set ?_ GE102.out) | exact HB.out)) hb); have n11_ := Aside0.mk (hbox); have n12_ := Aside0.mk ((by rw [hg]; exact (below_size (by repeat (first | (with_reducible first | exact HB.out | apply below_alloc | apply pw_below_drewN | apply below_drew1 | refine below_set ?_ GE101.out | refine below_set ?_ GE102.out) | exact HB.out))) : w.heap.size ≤ gb105)); have n13_ := n12_; have n14_ := Aside0.mk ((by rw [hg]; exact Nat.ne_of_lt (blk_lt (by (with_reducible repeat (first | refine blk_drewN ?_ _ | refine blk_drew ?_ | refine blk_alloc ?_ _)); exact BK101.out)) : gb101 ≠ gb105)); have n15_ := Aside0.mk ((by rw [hg]; exact Nat.ne_of_gt (blk_lt (by (with_reducible repeat (first | refine blk_drewN ?_ _ | refine blk_drew ?_ | refine blk_alloc ?_ _)); exact BK101.out)) : gb105 ≠ gb101)); have n16_ := Aside0.mk ((by rw [hg]; exact Nat.ne_of_lt (blk_lt (by (with_reducible repeat (first | refine blk_drewN ?_ _ | refine blk_drew ?_ | refine blk_alloc ?_ _)); exact BK102.out)) : gb102 ≠ gb105)); have n17_ := Aside0.mk ((by rw [hg]; exact Nat.ne_of_gt (blk_lt (by (with_reducible repeat (first | refine blk_drewN ?_ _ | refine blk_drew ?_ | refine blk_alloc ?_ _)); exact BK102.out)) : gb105 ≠ gb102)); clear HO_102001; clear HO_102002; clear HL104_1; clear HL104_2; clear HL104_3; clear BK101; clear BK102; clear HR104_1; clear HR104_2; clear HR104_3; clear HB; have HO_102001 := n0_; have HO_102002 := n1_; have HL104_1 := n2_; have HL104_2 := n3_; have HL104_3 := n4_; have BK101 := n5_; have BK102 := n6_; have HR104_1 := n7_; have HR104_2 := n8_; have HR104_3 := n9_; have HB := n10_; have BK105 := n11_; have GW105 := n12_; have GE105 := n13_; have NB101_105 := n14_; have NB105_101 := n15_; have NB102_105 := n16_; have NB105_102 := n17_; clear n0_ n1_ n2_ n3_ n4_ n5_ n6_ n7_ n8_ n9_ n10_ n11_ n12_ n13_ n14_ n15_ n16_ n17_; clear hb hbox hg; have hnb40 := NB105_101.out; have hnc40 := NB101_105.out; have hnb41 := NB105_102.out; have hnc41 := NB102_105.out; obtain ⟨hcz42_0, hcz42_1, hcz42_2, hcz42_3, hcz42_4, hfz42_0, hfz42_1, hfz42_2, hfz42_3, hfz42_4⟩ := cf5 BK105.out; obtain ⟨hcz43_0, hcz43_1, hcz43_2, hfz43_0, hfz43_1, hfz43_2⟩ := cf3 BK102.out))
    refine bodyPost_ret (results_ct rfl _ _ gb102 25 #[.string (⟨#[]⟩ : ByteArray), .slice none 0 0, .slice none 0 0] (0, 0) _ rfl (by (with_reducible repeat (first | refine blk_drewN ?_ _ | refine blk_drew ?_ | refine blk_alloc ?_ _)); refine blk_put (cs := #[.string (⟨#[]⟩ : ByteArray), .slice none 0 0, .slice none 0 0]) ?_ 2 _ rfl; (with_reducible repeat (first | refine blk_drewN ?_ _ | refine blk_drew ?_ | refine blk_alloc ?_ _)); refine blk_put (cs := #[.string (⟨#[]⟩ : ByteArray), .slice none 0 0, .slice none 0 0]) ?_ 1 _ rfl; (with_reducible repeat (first | refine blk_drewN ?_ _ | refine blk_drew ?_ | refine blk_alloc ?_ _)); refine blk_put (cs := #[.string x103000_3, .slice none 0 0, .slice none 0 0]) ?_ 0 _ rfl; (with_reducible repeat (first | refine blk_drewN ?_ _ | refine blk_drew ?_ | refine blk_alloc ?_ _)); refine blk_far ?_ NB102_105.out _; (with_reducible repeat (first | refine blk_drewN ?_ _ | refine blk_drew ?_ | refine blk_alloc ?_ _)); refine blk_far ?_ NB102_105.out _; (with_reducible repeat (first | refine blk_drewN ?_ _ | refine blk_drew ?_ | refine blk_alloc ?_ _)); refine blk_far ?_ NB102_105.out _; (with_reducible repeat (first | refine blk_drewN ?_ _ | refine blk_drew ?_ | refine blk_alloc ?_ _)); refine blk_far ?_ NB102_105.out _; (with_reducible repeat (first | refine blk_drewN ?_ _ | refine blk_drew ?_ | refine blk_alloc ?_ _)); refine blk_far ?_ NB102_105.out _; (with_reducible repeat (first | refine blk_drewN ?_ _ | refine blk_drew ?_ | refine blk_alloc ?_ _)); exact BK102.out) Try.underlying25 rfl (by kernel_rfl)) rfl ?_
    exact ⟨_, _, per, (Kd.V_nil _ _ _ _ _), (Kd.V_nil _ _ _ _ _), by repeat (first | (with_reducible first | exact HB.out | apply below_alloc | apply pw_below_drewN | apply below_drew1 | refine below_set ?_ GE101.out | refine below_set ?_ GE102.out | refine below_set ?_ GE105.out) | exact HB.out)⟩
  rw [if_neg c36] at H
  have c36b0 : decide (26 < (((rd_T53 l0_2 x5_3).f1).length : Int)) = false := decide_eq_false c36
  have c36b1 : decide (26 < ((rd_T53 l0_2 x5_3).f1).length) = false := decide_eq_false (by omega)
  clear c36
  by_cases c44 : (((rd_T53 l0_2 x5_3).f2).length : Int) > 26
  · rw [if_pos c44] at H
    have c44b0 : decide (26 < (((rd_T53 l0_2 x5_3).f2).length : Int)) = true := decide_eq_true c44
    have c44b1 : decide (26 < ((rd_T53 l0_2 x5_3).f2).length) = true := decide_eq_true (by omega)
    clear c44
    simp only [Option.some.injEq, Prod.mk.injEq] at H
    obtain ⟨rfl, rfl, rfl, rfl⟩ := H
    have hnb45 := NB101_102.out
    have hnc45 := NB102_101.out
    obtain ⟨hcz46_0, hcz46_1, hcz46_2, hfz46_0, hfz46_1, hfz46_2⟩ := cf3 BK101.out
    have p104 : 0 ≤ (x5_3 : Int) := dq
    have q104 : x5_3 < (l0_2.length : Int) := dq
    obtain ⟨ad104, A104_1, c104_1, A104_2, c104_2, A104_3, c104_3, e104, hx104_0, hx104_1, hx104_2, hx104_3, hx104_4, hl104_1, hi104_1, hl104_2, hi104_2, hl104_3, hi104_3⟩ := at_T53 (Kd.V_reads' HO_102002.out).2.2 x5_3 p104 q104
    cases e104
    obtain ⟨ce104, hce104, hMe104, hcc104⟩ := Kd.V_get HO_102002.out z53 x5_3 p104 (by first | exact q104 | exact dq | (have e_ := (Kd.V_reads' HO_102002.out).1; omega))
    obtain ⟨ua104_1, uc104_1, ua104_2, uc104_2, ua104_3, uc104_3, rfl, ul104_1, ge104_1, ul104_2, ge104_2, ul104_3, ge104_3⟩ := k53_openF hMe104
    have hv104_1 := hcc104 1 _ rfl
    rw [add_field _ _ 1 (by omega)] at hv104_1
    replace hv104_1 := Option.some.inj (hv104_1.symm.trans hx104_1)
    injection hv104_1 with hva_ hvn_ hvc_
    rw [hva_] at ge104_1
    rw [hvc_] at ul104_1
    have HL104_1 := Aside0.mk (show Kd.V k64 64 _ w.heap.size _ _ ((rd_T53 l0_2 x5_3).f1) from Kd.V_mk ul104_1 ge104_1)
    clear hva_ hvn_ hvc_ ge104_1 ul104_1
    have hv104_2 := hcc104 2 _ rfl
    rw [add_field _ _ 2 (by omega)] at hv104_2
    replace hv104_2 := Option.some.inj (hv104_2.symm.trans hx104_2)
    injection hv104_2 with hva_ hvn_ hvc_
    rw [hva_] at ge104_2
    rw [hvc_] at ul104_2
    have HL104_2 := Aside0.mk (show Kd.V k64 64 _ w.heap.size _ _ ((rd_T53 l0_2 x5_3).f2) from Kd.V_mk ul104_2 ge104_2)
    clear hva_ hvn_ hvc_ ge104_2 ul104_2
    have hv104_3 := hcc104 3 _ rfl
    rw [add_field _ _ 3 (by omega)] at hv104_3
    replace hv104_3 := Option.some.inj (hv104_3.symm.trans hx104_3)
    injection hv104_3 with hva_ hvn_ hvc_
    rw [hva_] at ge104_3
    rw [hvc_] at ul104_3
    have HL104_3 := Aside0.mk (show Kd.V k64 64 _ w.heap.size _ _ ((rd_T53 l0_2 x5_3).f3) from Kd.V_mk ul104_3 ge104_3)
    clear hva_ hvn_ hvc_ ge104_3 ul104_3 hcc104 hce104
    have HR104_1 := Aside0.mk hi104_1
    have HC104_1 := Aside0.mk hl104_1
    clear hi104_1 hl104_1
    have HR104_2 := Aside0.mk hi104_2
    have HC104_2 := Aside0.mk hl104_2
    clear hi104_2 hl104_2
    have HR104_3 := Aside0.mk hi104_3
    have HC104_3 := Aside0.mk hl104_3
    clear hi104_3 hl104_3
    replace p104 := eq_true p104
    replace q104 := eq_true q104
    go_wp2_with (first | ((with_reducible refine gate_dst (N := 6) rfl ?_); (try (refine gate_guard (by rfl) ?_; dsimp only)); refine box_event ?hg (N := 6) ?hd (cs := #[.string (⟨#[]⟩ : ByteArray), .slice none 0 0, .slice none 0 0, .slice none 0 0, .int .i64 0]) (t := 53) ?hr ?_; (case hd => rfl); (case hg => rfl); (case hr => first | (go_simp; done) | (go_simp; rfl)); intro gb105 hg w47 hbox hb; have n0_ := Aside0.mk (Kd.V_below (Kd.V_elderB (by (with_reducible repeat (first | apply Kd.V_alloc | apply Kd.V_drewN | apply Kd.V_drew)); exact HO_102001.out) gb105 (Nat.le_of_eq hg.symm)) hb); have n1_ := Aside0.mk (Kd.V_below (Kd.V_elderB (by (with_reducible repeat (first | apply Kd.V_alloc | apply Kd.V_drewN | apply Kd.V_drew)); exact HO_102002.out) gb105 (Nat.le_of_eq hg.symm)) hb); have n2_ := Aside0.mk (Kd.V_below (Kd.V_elderB (by (with_reducible repeat (first | apply Kd.V_alloc | apply Kd.V_drewN | apply Kd.V_drew)); exact HL104_1.out) gb105 (Nat.le_of_eq hg.symm)) hb); have n3_ := Aside0.mk (Kd.V_below (Kd.V_elderB (by (with_reducible repeat (first | apply Kd.V_alloc | apply Kd.V_drewN | apply Kd.V_drew)); exact HL104_2.out) gb105 (Nat.le_of_eq hg.symm)) hb); have n4_ := Aside0.mk (Kd.V_below (Kd.V_elderB (by (with_reducible repeat (first | apply Kd.V_alloc | apply Kd.V_drewN | apply Kd.V_drew)); exact HL104_3.out) gb105 (Nat.le_of_eq hg.symm)) hb); have n5_ := Aside0.mk (blk_below (by (with_reducible repeat (first | refine blk_drewN ?_ _ | refine blk_drew ?_ | refine blk_alloc ?_ _)); exact BK101.out) hb); have n6_ := Aside0.mk (blk_below (by (with_reducible repeat (first | refine blk_drewN ?_ _ | refine blk_drew ?_ | refine blk_alloc ?_ _)); exact BK102.out) hb); have n7_ := Aside0.mk (Kd.C_below (by repeat (first | (with_reducible exact HR104_1.out) | (with_reducible refine Kd.C_alloc ?_ _) | (with_reducible refine Kd.C_drewN ?_ _) | (with_reducible refine Kd.C_drew ?_) | exact HR104_1.out)) hb); have n8_ := Aside0.mk (Kd.C_below (by repeat (first | (with_reducible exact HR104_2.out) | (with_reducible refine Kd.C_alloc ?_ _) | (with_reducible refine Kd.C_drewN ?_ _) | (with_reducible refine Kd.C_drew ?_) | exact HR104_2.out)) hb); have n9_ := Aside0.mk (Kd.C_below (by repeat (first | (with_reducible exact HR104_3.out) | (with_reducible refine Kd.C_alloc ?_ _) | (with_reducible refine Kd.C_drewN ?_ _) | (with_reducible refine Kd.C_drew ?_) | exact HR104_3.out)) hb); have n10_ := Aside0.mk (below_step (by repeat (first | (with_reducible first | exact HB.out | apply below_alloc | apply pw_below_drewN | apply below_drew1 | refine below_set ?_ GE101.out | refine below_set ?_ GE102.out) | exact HB.out)) hb); have n11_ := Aside0.mk (hbox); have n12_ := Aside0.mk ((by rw [hg]; exact (below_size (by repeat (first | (with_reducible first | exact HB.out | apply below_alloc | apply pw_below_drewN | apply below_drew1 | refine below_set ?_ GE101.out | refine below_set ?_ GE102.out) | exact HB.out))) : w.heap.size ≤ gb105)); have n13_ := n12_; have n14_ := Aside0.mk ((by rw [hg]; exact Nat.ne_of_lt (blk_lt (by (with_reducible repeat (first | refine blk_drewN ?_ _ | refine blk_drew ?_ | refine blk_alloc ?_ _)); exact BK101.out)) : gb101 ≠ gb105)); have n15_ := Aside0.mk ((by rw [hg]; exact Nat.ne_of_gt (blk_lt (by (with_reducible repeat (first | refine blk_drewN ?_ _ | refine blk_drew ?_ | refine blk_alloc ?_ _)); exact BK101.out)) : gb105 ≠ gb101)); have n16_ := Aside0.mk ((by rw [hg]; exact Nat.ne_of_lt (blk_lt (by (with_reducible repeat (first | refine blk_drewN ?_ _ | refine blk_drew ?_ | refine blk_alloc ?_ _)); exact BK102.out)) : gb102 ≠ gb105)); have n17_ := Aside0.mk ((by rw [hg]; exact Nat.ne_of_gt (blk_lt (by (with_reducible repeat (first | refine blk_drewN ?_ _ | refine blk_drew ?_ | refine blk_alloc ?_ _)); exact BK102.out)) : gb105 ≠ gb102)); clear HO_102001; clear HO_102002; clear HL104_1; clear HL104_2; clear HL104_3; clear BK101; clear BK102; clear HR104_1; clear HR104_2; clear HR104_3; clear HB; have HO_102001 := n0_; have HO_102002 := n1_; have HL104_1 := n2_; have HL104_2 := n3_; have HL104_3 := n4_; have BK101 := n5_; have BK102 := n6_; have HR104_1 := n7_; have HR104_2 := n8_; have HR104_3 := n9_; have HB := n10_; have BK105 := n11_; have GW105 := n12_; have GE105 := n13_; have NB101_105 := n14_; have NB105_101 := n15_; have NB102_105 := n16_; have NB105_102 := n17_; clear n0_ n1_ n2_ n3_ n4_ n5_ n6_ n7_ n8_ n9_ n10_ n11_ n12_ n13_ n14_ n15_ n16_ n17_; clear hb hbox hg; have hnb48 := NB105_101.out; have hnc48 := NB101_105.out; have hnb49 := NB105_102.out; have hnc49 := NB102_105.out; obtain ⟨hcz50_0, hcz50_1, hcz50_2, hcz50_3, hcz50_4, hfz50_0, hfz50_1, hfz50_2, hfz50_3, hfz50_4⟩ := cf5 BK105.out; obtain ⟨hcz51_0, hcz51_1, hcz51_2, hfz51_0, hfz51_1, hfz51_2⟩ := cf3 BK102.out))
    refine bodyPost_ret (results_ct rfl _ _ gb102 25 #[.string (⟨#[]⟩ : ByteArray), .slice none 0 0, .slice none 0 0] (0, 0) _ rfl (by (with_reducible repeat (first | refine blk_drewN ?_ _ | refine blk_drew ?_ | refine blk_alloc ?_ _)); refine blk_put (cs := #[.string (⟨#[]⟩ : ByteArray), .slice none 0 0, .slice none 0 0]) ?_ 2 _ rfl; (with_reducible repeat (first | refine blk_drewN ?_ _ | refine blk_drew ?_ | refine blk_alloc ?_ _)); refine blk_put (cs := #[.string (⟨#[]⟩ : ByteArray), .slice none 0 0, .slice none 0 0]) ?_ 1 _ rfl; (with_reducible repeat (first | refine blk_drewN ?_ _ | refine blk_drew ?_ | refine blk_alloc ?_ _)); refine blk_put (cs := #[.string x103000_3, .slice none 0 0, .slice none 0 0]) ?_ 0 _ rfl; (with_reducible repeat (first | refine blk_drewN ?_ _ | refine blk_drew ?_ | refine blk_alloc ?_ _)); refine blk_far ?_ NB102_105.out _; (with_reducible repeat (first | refine blk_drewN ?_ _ | refine blk_drew ?_ | refine blk_alloc ?_ _)); refine blk_far ?_ NB102_105.out _; (with_reducible repeat (first | refine blk_drewN ?_ _ | refine blk_drew ?_ | refine blk_alloc ?_ _)); refine blk_far ?_ NB102_105.out _; (with_reducible repeat (first | refine blk_drewN ?_ _ | refine blk_drew ?_ | refine blk_alloc ?_ _)); refine blk_far ?_ NB102_105.out _; (with_reducible repeat (first | refine blk_drewN ?_ _ | refine blk_drew ?_ | refine blk_alloc ?_ _)); refine blk_far ?_ NB102_105.out _; (with_reducible repeat (first | refine blk_drewN ?_ _ | refine blk_drew ?_ | refine blk_alloc ?_ _)); exact BK102.out) Try.underlying25 rfl (by kernel_rfl)) rfl ?_
    exact ⟨_, _, per, (Kd.V_nil _ _ _ _ _), (Kd.V_nil _ _ _ _ _), by repeat (first | (with_reducible first | exact HB.out | apply below_alloc | apply pw_below_drewN | apply below_drew1 | refine below_set ?_ GE101.out | refine below_set ?_ GE102.out | refine below_set ?_ GE105.out) | exact HB.out)⟩
  rw [if_neg c44] at H
  have c44b0 : decide (26 < (((rd_T53 l0_2 x5_3).f2).length : Int)) = false := decide_eq_false c44
  have c44b1 : decide (26 < ((rd_T53 l0_2 x5_3).f2).length) = false := decide_eq_false (by omega)
  clear c44
  by_cases c52 : (((rd_T53 l0_2 x5_3).f3).length : Int) > 26
  · rw [if_pos c52] at H
    have c52b0 : decide (26 < (((rd_T53 l0_2 x5_3).f3).length : Int)) = true := decide_eq_true c52
    have c52b1 : decide (26 < ((rd_T53 l0_2 x5_3).f3).length) = true := decide_eq_true (by omega)
    clear c52
    simp only [Option.some.injEq, Prod.mk.injEq] at H
    obtain ⟨rfl, rfl, rfl, rfl⟩ := H
    have hnb53 := NB101_102.out
    have hnc53 := NB102_101.out
    obtain ⟨hcz54_0, hcz54_1, hcz54_2, hfz54_0, hfz54_1, hfz54_2⟩ := cf3 BK101.out
    have p104 : 0 ≤ (x5_3 : Int) := dq
    have q104 : x5_3 < (l0_2.length : Int) := dq
    obtain ⟨ad104, A104_1, c104_1, A104_2, c104_2, A104_3, c104_3, e104, hx104_0, hx104_1, hx104_2, hx104_3, hx104_4, hl104_1, hi104_1, hl104_2, hi104_2, hl104_3, hi104_3⟩ := at_T53 (Kd.V_reads' HO_102002.out).2.2 x5_3 p104 q104
    cases e104
    obtain ⟨ce104, hce104, hMe104, hcc104⟩ := Kd.V_get HO_102002.out z53 x5_3 p104 (by first | exact q104 | exact dq | (have e_ := (Kd.V_reads' HO_102002.out).1; omega))
    obtain ⟨ua104_1, uc104_1, ua104_2, uc104_2, ua104_3, uc104_3, rfl, ul104_1, ge104_1, ul104_2, ge104_2, ul104_3, ge104_3⟩ := k53_openF hMe104
    have hv104_1 := hcc104 1 _ rfl
    rw [add_field _ _ 1 (by omega)] at hv104_1
    replace hv104_1 := Option.some.inj (hv104_1.symm.trans hx104_1)
    injection hv104_1 with hva_ hvn_ hvc_
    rw [hva_] at ge104_1
    rw [hvc_] at ul104_1
    have HL104_1 := Aside0.mk (show Kd.V k64 64 _ w.heap.size _ _ ((rd_T53 l0_2 x5_3).f1) from Kd.V_mk ul104_1 ge104_1)
    clear hva_ hvn_ hvc_ ge104_1 ul104_1
    have hv104_2 := hcc104 2 _ rfl
    rw [add_field _ _ 2 (by omega)] at hv104_2
    replace hv104_2 := Option.some.inj (hv104_2.symm.trans hx104_2)
    injection hv104_2 with hva_ hvn_ hvc_
    rw [hva_] at ge104_2
    rw [hvc_] at ul104_2
    have HL104_2 := Aside0.mk (show Kd.V k64 64 _ w.heap.size _ _ ((rd_T53 l0_2 x5_3).f2) from Kd.V_mk ul104_2 ge104_2)
    clear hva_ hvn_ hvc_ ge104_2 ul104_2
    have hv104_3 := hcc104 3 _ rfl
    rw [add_field _ _ 3 (by omega)] at hv104_3
    replace hv104_3 := Option.some.inj (hv104_3.symm.trans hx104_3)
    injection hv104_3 with hva_ hvn_ hvc_
    rw [hva_] at ge104_3
    rw [hvc_] at ul104_3
    have HL104_3 := Aside0.mk (show Kd.V k64 64 _ w.heap.size _ _ ((rd_T53 l0_2 x5_3).f3) from Kd.V_mk ul104_3 ge104_3)
    clear hva_ hvn_ hvc_ ge104_3 ul104_3 hcc104 hce104
    have HR104_1 := Aside0.mk hi104_1
    have HC104_1 := Aside0.mk hl104_1
    clear hi104_1 hl104_1
    have HR104_2 := Aside0.mk hi104_2
    have HC104_2 := Aside0.mk hl104_2
    clear hi104_2 hl104_2
    have HR104_3 := Aside0.mk hi104_3
    have HC104_3 := Aside0.mk hl104_3
    clear hi104_3 hl104_3
    replace p104 := eq_true p104
    replace q104 := eq_true q104
    go_wp2_with (first | ((with_reducible refine gate_dst (N := 6) rfl ?_); (try (refine gate_guard (by rfl) ?_; dsimp only)); refine box_event ?hg (N := 6) ?hd (cs := #[.string (⟨#[]⟩ : ByteArray), .slice none 0 0, .slice none 0 0, .slice none 0 0, .int .i64 0]) (t := 53) ?hr ?_; (case hd => rfl); (case hg => rfl); (case hr => first | (go_simp; done) | (go_simp; rfl)); intro gb105 hg w55 hbox hb; have n0_ := Aside0.mk (Kd.V_below (Kd.V_elderB (by (with_reducible repeat (first | apply Kd.V_alloc | apply Kd.V_drewN | apply Kd.V_drew)); exact HO_102001.out) gb105 (Nat.le_of_eq hg.symm)) hb); have n1_ := Aside0.mk (Kd.V_below (Kd.V_elderB (by (with_reducible repeat (first | apply Kd.V_alloc | apply Kd.V_drewN | apply Kd.V_drew)); exact HO_102002.out) gb105 (Nat.le_of_eq hg.symm)) hb); have n2_ := Aside0.mk (Kd.V_below (Kd.V_elderB (by (with_reducible repeat (first | apply Kd.V_alloc | apply Kd.V_drewN | apply Kd.V_drew)); exact HL104_1.out) gb105 (Nat.le_of_eq hg.symm)) hb); have n3_ := Aside0.mk (Kd.V_below (Kd.V_elderB (by (with_reducible repeat (first | apply Kd.V_alloc | apply Kd.V_drewN | apply Kd.V_drew)); exact HL104_2.out) gb105 (Nat.le_of_eq hg.symm)) hb); have n4_ := Aside0.mk (Kd.V_below (Kd.V_elderB (by (with_reducible repeat (first | apply Kd.V_alloc | apply Kd.V_drewN | apply Kd.V_drew)); exact HL104_3.out) gb105 (Nat.le_of_eq hg.symm)) hb); have n5_ := Aside0.mk (blk_below (by (with_reducible repeat (first | refine blk_drewN ?_ _ | refine blk_drew ?_ | refine blk_alloc ?_ _)); exact BK101.out) hb); have n6_ := Aside0.mk (blk_below (by (with_reducible repeat (first | refine blk_drewN ?_ _ | refine blk_drew ?_ | refine blk_alloc ?_ _)); exact BK102.out) hb); have n7_ := Aside0.mk (Kd.C_below (by repeat (first | (with_reducible exact HR104_1.out) | (with_reducible refine Kd.C_alloc ?_ _) | (with_reducible refine Kd.C_drewN ?_ _) | (with_reducible refine Kd.C_drew ?_) | exact HR104_1.out)) hb); have n8_ := Aside0.mk (Kd.C_below (by repeat (first | (with_reducible exact HR104_2.out) | (with_reducible refine Kd.C_alloc ?_ _) | (with_reducible refine Kd.C_drewN ?_ _) | (with_reducible refine Kd.C_drew ?_) | exact HR104_2.out)) hb); have n9_ := Aside0.mk (Kd.C_below (by repeat (first | (with_reducible exact HR104_3.out) | (with_reducible refine Kd.C_alloc ?_ _) | (with_reducible refine Kd.C_drewN ?_ _) | (with_reducible refine Kd.C_drew ?_) | exact HR104_3.out)) hb); have n10_ := Aside0.mk (below_step (by repeat (first | (with_reducible first | exact HB.out | apply below_alloc | apply pw_below_drewN | apply below_drew1 | refine below_set ?_ GE101.out | refine below_set ?_ GE102.out) | exact HB.out)) hb); have n11_ := Aside0.mk (hbox); have n12_ := Aside0.mk ((by rw [hg]; exact (below_size (by repeat (first | (with_reducible first | exact HB.out | apply below_alloc | apply pw_below_drewN | apply below_drew1 | refine below_set ?_ GE101.out | refine below_set ?_ GE102.out) | exact HB.out))) : w.heap.size ≤ gb105)); have n13_ := n12_; have n14_ := Aside0.mk ((by rw [hg]; exact Nat.ne_of_lt (blk_lt (by (with_reducible repeat (first | refine blk_drewN ?_ _ | refine blk_drew ?_ | refine blk_alloc ?_ _)); exact BK101.out)) : gb101 ≠ gb105)); have n15_ := Aside0.mk ((by rw [hg]; exact Nat.ne_of_gt (blk_lt (by (with_reducible repeat (first | refine blk_drewN ?_ _ | refine blk_drew ?_ | refine blk_alloc ?_ _)); exact BK101.out)) : gb105 ≠ gb101)); have n16_ := Aside0.mk ((by rw [hg]; exact Nat.ne_of_lt (blk_lt (by (with_reducible repeat (first | refine blk_drewN ?_ _ | refine blk_drew ?_ | refine blk_alloc ?_ _)); exact BK102.out)) : gb102 ≠ gb105)); have n17_ := Aside0.mk ((by rw [hg]; exact Nat.ne_of_gt (blk_lt (by (with_reducible repeat (first | refine blk_drewN ?_ _ | refine blk_drew ?_ | refine blk_alloc ?_ _)); exact BK102.out)) : gb105 ≠ gb102)); clear HO_102001; clear HO_102002; clear HL104_1; clear HL104_2; clear HL104_3; clear BK101; clear BK102; clear HR104_1; clear HR104_2; clear HR104_3; clear HB; have HO_102001 := n0_; have HO_102002 := n1_; have HL104_1 := n2_; have HL104_2 := n3_; have HL104_3 := n4_; have BK101 := n5_; have BK102 := n6_; have HR104_1 := n7_; have HR104_2 := n8_; have HR104_3 := n9_; have HB := n10_; have BK105 := n11_; have GW105 := n12_; have GE105 := n13_; have NB101_105 := n14_; have NB105_101 := n15_; have NB102_105 := n16_; have NB105_102 := n17_; clear n0_ n1_ n2_ n3_ n4_ n5_ n6_ n7_ n8_ n9_ n10_ n11_ n12_ n13_ n14_ n15_ n16_ n17_; clear hb hbox hg; have hnb56 := NB105_101.out; have hnc56 := NB101_105.out; have hnb57 := NB105_102.out; have hnc57 := NB102_105.out; obtain ⟨hcz58_0, hcz58_1, hcz58_2, hcz58_3, hcz58_4, hfz58_0, hfz58_1, hfz58_2, hfz58_3, hfz58_4⟩ := cf5 BK105.out; obtain ⟨hcz59_0, hcz59_1, hcz59_2, hfz59_0, hfz59_1, hfz59_2⟩ := cf3 BK102.out))
    refine bodyPost_ret (results_ct rfl _ _ gb102 25 #[.string (⟨#[]⟩ : ByteArray), .slice none 0 0, .slice none 0 0] (0, 0) _ rfl (by (with_reducible repeat (first | refine blk_drewN ?_ _ | refine blk_drew ?_ | refine blk_alloc ?_ _)); refine blk_put (cs := #[.string (⟨#[]⟩ : ByteArray), .slice none 0 0, .slice none 0 0]) ?_ 2 _ rfl; (with_reducible repeat (first | refine blk_drewN ?_ _ | refine blk_drew ?_ | refine blk_alloc ?_ _)); refine blk_put (cs := #[.string (⟨#[]⟩ : ByteArray), .slice none 0 0, .slice none 0 0]) ?_ 1 _ rfl; (with_reducible repeat (first | refine blk_drewN ?_ _ | refine blk_drew ?_ | refine blk_alloc ?_ _)); refine blk_put (cs := #[.string x103000_3, .slice none 0 0, .slice none 0 0]) ?_ 0 _ rfl; (with_reducible repeat (first | refine blk_drewN ?_ _ | refine blk_drew ?_ | refine blk_alloc ?_ _)); refine blk_far ?_ NB102_105.out _; (with_reducible repeat (first | refine blk_drewN ?_ _ | refine blk_drew ?_ | refine blk_alloc ?_ _)); refine blk_far ?_ NB102_105.out _; (with_reducible repeat (first | refine blk_drewN ?_ _ | refine blk_drew ?_ | refine blk_alloc ?_ _)); refine blk_far ?_ NB102_105.out _; (with_reducible repeat (first | refine blk_drewN ?_ _ | refine blk_drew ?_ | refine blk_alloc ?_ _)); refine blk_far ?_ NB102_105.out _; (with_reducible repeat (first | refine blk_drewN ?_ _ | refine blk_drew ?_ | refine blk_alloc ?_ _)); refine blk_far ?_ NB102_105.out _; (with_reducible repeat (first | refine blk_drewN ?_ _ | refine blk_drew ?_ | refine blk_alloc ?_ _)); exact BK102.out) Try.underlying25 rfl (by kernel_rfl)) rfl ?_
    exact ⟨_, _, per, (Kd.V_nil _ _ _ _ _), (Kd.V_nil _ _ _ _ _), by repeat (first | (with_reducible first | exact HB.out | apply below_alloc | apply pw_below_drewN | apply below_drew1 | refine below_set ?_ GE101.out | refine below_set ?_ GE102.out | refine below_set ?_ GE105.out) | exact HB.out)⟩
  rw [if_neg c52] at H
  have c52b0 : decide (26 < (((rd_T53 l0_2 x5_3).f3).length : Int)) = false := decide_eq_false c52
  have c52b1 : decide (26 < ((rd_T53 l0_2 x5_3).f3).length) = false := decide_eq_false (by omega)
  clear c52
  have H' := Aside0.mk H
  clear H
  have hnb60 := NB101_102.out
  have hnc60 := NB102_101.out
  obtain ⟨hcz61_0, hcz61_1, hcz61_2, hfz61_0, hfz61_1, hfz61_2⟩ := cf3 BK101.out
  have p104 : 0 ≤ (x5_3 : Int) := dq
  have q104 : x5_3 < (l0_2.length : Int) := dq
  obtain ⟨ad104, A104_1, c104_1, A104_2, c104_2, A104_3, c104_3, e104, hx104_0, hx104_1, hx104_2, hx104_3, hx104_4, hl104_1, hi104_1, hl104_2, hi104_2, hl104_3, hi104_3⟩ := at_T53 (Kd.V_reads' HO_102002.out).2.2 x5_3 p104 q104
  cases e104
  obtain ⟨ce104, hce104, hMe104, hcc104⟩ := Kd.V_get HO_102002.out z53 x5_3 p104 (by first | exact q104 | exact dq | (have e_ := (Kd.V_reads' HO_102002.out).1; omega))
  obtain ⟨ua104_1, uc104_1, ua104_2, uc104_2, ua104_3, uc104_3, rfl, ul104_1, ge104_1, ul104_2, ge104_2, ul104_3, ge104_3⟩ := k53_openF hMe104
  have hv104_1 := hcc104 1 _ rfl
  rw [add_field _ _ 1 (by omega)] at hv104_1
  replace hv104_1 := Option.some.inj (hv104_1.symm.trans hx104_1)
  injection hv104_1 with hva_ hvn_ hvc_
  rw [hva_] at ge104_1
  rw [hvc_] at ul104_1
  have HL104_1 := Aside0.mk (show Kd.V k64 64 _ w.heap.size _ _ ((rd_T53 l0_2 x5_3).f1) from Kd.V_mk ul104_1 ge104_1)
  clear hva_ hvn_ hvc_ ge104_1 ul104_1
  have hv104_2 := hcc104 2 _ rfl
  rw [add_field _ _ 2 (by omega)] at hv104_2
  replace hv104_2 := Option.some.inj (hv104_2.symm.trans hx104_2)
  injection hv104_2 with hva_ hvn_ hvc_
  rw [hva_] at ge104_2
  rw [hvc_] at ul104_2
  have HL104_2 := Aside0.mk (show Kd.V k64 64 _ w.heap.size _ _ ((rd_T53 l0_2 x5_3).f2) from Kd.V_mk ul104_2 ge104_2)
  clear hva_ hvn_ hvc_ ge104_2 ul104_2
  have hv104_3 := hcc104 3 _ rfl
  rw [add_field _ _ 3 (by omega)] at hv104_3
  replace hv104_3 := Option.some.inj (hv104_3.symm.trans hx104_3)
  injection hv104_3 with hva_ hvn_ hvc_
  rw [hva_] at ge104_3
  rw [hvc_] at ul104_3
  have HL104_3 := Aside0.mk (show Kd.V k64 64 _ w.heap.size _ _ ((rd_T53 l0_2 x5_3).f3) from Kd.V_mk ul104_3 ge104_3)
  clear hva_ hvn_ hvc_ ge104_3 ul104_3 hcc104 hce104
  have HR104_1 := Aside0.mk hi104_1
  have HC104_1 := Aside0.mk hl104_1
  clear hi104_1 hl104_1
  have HR104_2 := Aside0.mk hi104_2
  have HC104_2 := Aside0.mk hl104_2
  clear hi104_2 hl104_2
  have HR104_3 := Aside0.mk hi104_3
  have HC104_3 := Aside0.mk hl104_3
  clear hi104_3 hl104_3
  replace p104 := eq_true p104
  replace q104 := eq_true q104
  go_wp2_with (first | ((with_reducible refine gate_dst (N := 6) rfl ?_); (try (refine gate_guard (by rfl) ?_; dsimp only)); refine box_event ?hg (N := 6) ?hd (cs := #[.string (⟨#[]⟩ : ByteArray), .slice none 0 0, .slice none 0 0, .slice none 0 0, .int .i64 0]) (t := 53) ?hr ?_; (case hd => rfl); (case hg => rfl); (case hr => first | (go_simp; done) | (go_simp; rfl)); intro gb105 hg w62 hbox hb; have n0_ := Aside0.mk (Kd.V_below (Kd.V_elderB (by (with_reducible repeat (first | apply Kd.V_alloc | apply Kd.V_drewN | apply Kd.V_drew)); exact HO_102001.out) gb105 (Nat.le_of_eq hg.symm)) hb); have n1_ := Aside0.mk (Kd.V_below (Kd.V_elderB (by (with_reducible repeat (first | apply Kd.V_alloc | apply Kd.V_drewN | apply Kd.V_drew)); exact HO_102002.out) gb105 (Nat.le_of_eq hg.symm)) hb); have n2_ := Aside0.mk (Kd.V_below (Kd.V_elderB (by (with_reducible repeat (first | apply Kd.V_alloc | apply Kd.V_drewN | apply Kd.V_drew)); exact HL104_1.out) gb105 (Nat.le_of_eq hg.symm)) hb); have n3_ := Aside0.mk (Kd.V_below (Kd.V_elderB (by (with_reducible repeat (first | apply Kd.V_alloc | apply Kd.V_drewN | apply Kd.V_drew)); exact HL104_2.out) gb105 (Nat.le_of_eq hg.symm)) hb); have n4_ := Aside0.mk (Kd.V_below (Kd.V_elderB (by (with_reducible repeat (first | apply Kd.V_alloc | apply Kd.V_drewN | apply Kd.V_drew)); exact HL104_3.out) gb105 (Nat.le_of_eq hg.symm)) hb); have n5_ := Aside0.mk (blk_below (by (with_reducible repeat (first | refine blk_drewN ?_ _ | refine blk_drew ?_ | refine blk_alloc ?_ _)); exact BK101.out) hb); have n6_ := Aside0.mk (blk_below (by (with_reducible repeat (first | refine blk_drewN ?_ _ | refine blk_drew ?_ | refine blk_alloc ?_ _)); exact BK102.out) hb); have n7_ := Aside0.mk (Kd.C_below (by repeat (first | (with_reducible exact HR104_1.out) | (with_reducible refine Kd.C_alloc ?_ _) | (with_reducible refine Kd.C_drewN ?_ _) | (with_reducible refine Kd.C_drew ?_) | exact HR104_1.out)) hb); have n8_ := Aside0.mk (Kd.C_below (by repeat (first | (with_reducible exact HR104_2.out) | (with_reducible refine Kd.C_alloc ?_ _) | (with_reducible refine Kd.C_drewN ?_ _) | (with_reducible refine Kd.C_drew ?_) | exact HR104_2.out)) hb); have n9_ := Aside0.mk (Kd.C_below (by repeat (first | (with_reducible exact HR104_3.out) | (with_reducible refine Kd.C_alloc ?_ _) | (with_reducible refine Kd.C_drewN ?_ _) | (with_reducible refine Kd.C_drew ?_) | exact HR104_3.out)) hb); have n10_ := Aside0.mk (below_step (by repeat (first | (with_reducible first | exact HB.out | apply below_alloc | apply pw_below_drewN | apply below_drew1 | refine below_set ?_ GE101.out | refine below_set ?_ GE102.out) | exact HB.out)) hb); have n11_ := Aside0.mk (hbox); have n12_ := Aside0.mk ((by rw [hg]; exact (below_size (by repeat (first | (with_reducible first | exact HB.out | apply below_alloc | apply pw_below_drewN | apply below_drew1 | refine below_set ?_ GE101.out | refine below_set ?_ GE102.out) | exact HB.out))) : w.heap.size ≤ gb105)); have n13_ := n12_; have n14_ := Aside0.mk ((by rw [hg]; exact Nat.ne_of_lt (blk_lt (by (with_reducible repeat (first | refine blk_drewN ?_ _ | refine blk_drew ?_ | refine blk_alloc ?_ _)); exact BK101.out)) : gb101 ≠ gb105)); have n15_ := Aside0.mk ((by rw [hg]; exact Nat.ne_of_gt (blk_lt (by (with_reducible repeat (first | refine blk_drewN ?_ _ | refine blk_drew ?_ | refine blk_alloc ?_ _)); exact BK101.out)) : gb105 ≠ gb101)); have n16_ := Aside0.mk ((by rw [hg]; exact Nat.ne_of_lt (blk_lt (by (with_reducible repeat (first | refine blk_drewN ?_ _ | refine blk_drew ?_ | refine blk_alloc ?_ _)); exact BK102.out)) : gb102 ≠ gb105)); have n17_ := Aside0.mk ((by rw [hg]; exact Nat.ne_of_gt (blk_lt (by (with_reducible repeat (first | refine blk_drewN ?_ _ | refine blk_drew ?_ | refine blk_alloc ?_ _)); exact BK102.out)) : gb105 ≠ gb102)); clear HO_102001; clear HO_102002; clear HL104_1; clear HL104_2; clear HL104_3; clear BK101; clear BK102; clear HR104_1; clear HR104_2; clear HR104_3; clear HB; have HO_102001 := n0_; have HO_102002 := n1_; have HL104_1 := n2_; have HL104_2 := n3_; have HL104_3 := n4_; have BK101 := n5_; have BK102 := n6_; have HR104_1 := n7_; have HR104_2 := n8_; have HR104_3 := n9_; have HB := n10_; have BK105 := n11_; have GW105 := n12_; have GE105 := n13_; have NB101_105 := n14_; have NB105_101 := n15_; have NB102_105 := n16_; have NB105_102 := n17_; clear n0_ n1_ n2_ n3_ n4_ n5_ n6_ n7_ n8_ n9_ n10_ n11_ n12_ n13_ n14_ n15_ n16_ n17_; clear hb hbox hg; have hnb63 := NB105_101.out; have hnc63 := NB101_105.out; have hnb64 := NB105_102.out; have hnc64 := NB102_105.out; obtain ⟨hcz65_0, hcz65_1, hcz65_2, hcz65_3, hcz65_4, hfz65_0, hfz65_1, hfz65_2, hfz65_3, hfz65_4⟩ := cf5 BK105.out))
  go_roundg k3
  case measure => have := HJ1.out; have := HK2.out; have := HK3.out; omega
  case rel => exact ⟨(wrap64 (x5_3 + 1)), (x103000_3), prs, H', ⟨by have := HJ1.out; have := HK2.out; have := HK3.out; omega⟩, ⟨by (with_reducible repeat (first | apply Kd.V_alloc | apply Kd.V_drewN | apply Kd.V_drew)); exact Kd.V_mono (Kd.V_far (p := ⟨gb105, 4, none⟩) (Kd.V_far (p := ⟨gb105, 3, none⟩) (Kd.V_far (p := ⟨gb105, 2, none⟩) (Kd.V_far (p := ⟨gb105, 1, none⟩) (Kd.V_far (p := ⟨gb105, 0, none⟩) (Kd.V_mono HO_102001.out (fun k_ hk => (⟨hk, hk.2⟩ : _ ∧ k_ ≠ gb105))) (fun _ hk => hk.2) (.string ((rd_T53 l0_2 x5_3).f0))) (fun _ hk => hk.2) (.slice A104_1 ((rd_T53 l0_2 x5_3).f1).length c104_1)) (fun _ hk => hk.2) (.slice A104_2 ((rd_T53 l0_2 x5_3).f2).length c104_2)) (fun _ hk => hk.2) (.slice A104_3 ((rd_T53 l0_2 x5_3).f3).length c104_3)) (fun _ hk => hk.2) (.int .i64 ((rd_T53 l0_2 x5_3).f4))) (fun _ hk => ⟨hk.1.1.1, ⟨hk.1.1.2.1, hk.1.1.2.2⟩⟩)⟩, ⟨by (with_reducible repeat (first | apply Kd.V_alloc | apply Kd.V_drewN | apply Kd.V_drew)); exact Kd.V_mono (Kd.V_far (p := ⟨gb105, 4, none⟩) (Kd.V_far (p := ⟨gb105, 3, none⟩) (Kd.V_far (p := ⟨gb105, 2, none⟩) (Kd.V_far (p := ⟨gb105, 1, none⟩) (Kd.V_far (p := ⟨gb105, 0, none⟩) (Kd.V_mono HO_102002.out (fun k_ hk => (⟨hk, hk.2⟩ : _ ∧ k_ ≠ gb105))) (fun _ hk => hk.2) (.string ((rd_T53 l0_2 x5_3).f0))) (fun _ hk => hk.2) (.slice A104_1 ((rd_T53 l0_2 x5_3).f1).length c104_1)) (fun _ hk => hk.2) (.slice A104_2 ((rd_T53 l0_2 x5_3).f2).length c104_2)) (fun _ hk => hk.2) (.slice A104_3 ((rd_T53 l0_2 x5_3).f3).length c104_3)) (fun _ hk => hk.2) (.int .i64 ((rd_T53 l0_2 x5_3).f4))) (fun _ hk => ⟨hk.1.1.1, ⟨hk.1.1.2.1, hk.1.1.2.2⟩⟩)⟩, ⟨by (with_reducible repeat (first | refine blk_drewN ?_ _ | refine blk_drew ?_ | refine blk_alloc ?_ _)); refine blk_far ?_ NB101_105.out _; (with_reducible repeat (first | refine blk_drewN ?_ _ | refine blk_drew ?_ | refine blk_alloc ?_ _)); refine blk_far ?_ NB101_105.out _; (with_reducible repeat (first | refine blk_drewN ?_ _ | refine blk_drew ?_ | refine blk_alloc ?_ _)); refine blk_far ?_ NB101_105.out _; (with_reducible repeat (first | refine blk_drewN ?_ _ | refine blk_drew ?_ | refine blk_alloc ?_ _)); refine blk_far ?_ NB101_105.out _; (with_reducible repeat (first | refine blk_drewN ?_ _ | refine blk_drew ?_ | refine blk_alloc ?_ _)); refine blk_far ?_ NB101_105.out _; (with_reducible repeat (first | refine blk_drewN ?_ _ | refine blk_drew ?_ | refine blk_alloc ?_ _)); exact BK101.out⟩, ⟨by (with_reducible repeat (first | refine blk_drewN ?_ _ | refine blk_drew ?_ | refine blk_alloc ?_ _)); refine blk_far ?_ NB102_105.out _; (with_reducible repeat (first | refine blk_drewN ?_ _ | refine blk_drew ?_ | refine blk_alloc ?_ _)); refine blk_far ?_ NB102_105.out _; (with_reducible repeat (first | refine blk_drewN ?_ _ | refine blk_drew ?_ | refine blk_alloc ?_ _)); refine blk_far ?_ NB102_105.out _; (with_reducible repeat (first | refine blk_drewN ?_ _ | refine blk_drew ?_ | refine blk_alloc ?_ _)); refine blk_far ?_ NB102_105.out _; (with_reducible repeat (first | refine blk_drewN ?_ _ | refine blk_drew ?_ | refine blk_alloc ?_ _)); refine blk_far ?_ NB102_105.out _; (with_reducible repeat (first | refine blk_drewN ?_ _ | refine blk_drew ?_ | refine blk_alloc ?_ _)); exact BK102.out⟩, ⟨by repeat (first | (with_reducible first | exact HB.out | apply below_alloc | apply pw_below_drewN | apply below_drew1 | refine below_set ?_ GE101.out | refine below_set ?_ GE102.out | refine below_set ?_ GE105.out) | exact HB.out)⟩⟩

end Go.Proofs.Ytboonibkibhmhaa.P
