-- LAID BY OUR PROGRAM OVER THE PRINT (xprint.py, part.py): Lean checks it.
import Derived.Test.YtnoebjmhimehcaaPx0
import Derived.Laws.RangeString
namespace Go.Proofs.Ytnoebjmhimehcaa.P
open Go.RowKit Go.Proofs.YtnoebjmhimehcaaW.PrintWords Go.Proofs.YtnoebjmhimehcaaW.PrintLast Go.Proofs.YtnoebjmhimehcaaW.PrintMore
attribute [local go_sem] max2_int min2_int max_two min_two max_three min_three max_four min_four   -- for this text's walks alone
set_option linter.unusedVariables false
set_option linter.unusedSimpArgs false

/-! ### _YtnoebjmhimehcaaPx1: function 0 -/
theorem eqA50 (d : Nat) (w : World) (x0 y0 : Int) (x1 y1 : Int) :
  (Op.equalIn (d + 2) 50 (.agg #[.int .i64 x0, .int .i64 x1]) (.agg #[.int .i64 y0, .int .i64 y1])).run Try.prog w = .ok (x0 == y0 && (x1 == y1)) w := by
 refine eqA_of Try.underlying50 (by kernel_rfl) ?_
 refine eqf_cons (by rfl) (by go_simp; rfl) (by go_simp; rfl) (by go_simp) ?_
 exact eqf_last (by rfl) (by go_simp; rfl) (by go_simp; rfl) (by go_simp)

/-! ### r09_Small: function 10 -/
mutual
def r09_Small.j0 : Nat → Bool → ByteArray → List (S52) → List (S48) → Option (ByteArray × (List (S52)) × (List (S48)) × Bool)
 | 0, _, _, _, _ => none
 | k + 1, x22, x102000, x102001, x102002 => if x22 = true then (some ((⟨#[]⟩ : ByteArray), ([] : List (S52)), ([] : List (S48)), false)) else (r09_Small.l0 k 0 x102000 x102001 x102002)
def r09_Small.l0 : Nat → Int → ByteArray → List (S52) → List (S48) → Option (ByteArray × (List (S52)) × (List (S48)) × Bool)
 | 0, _, _, _, _ => none
 | k + 1, x4, x102000, x102001, x102002 => if x4 < (x102001.length : Int) then (if 0 ≤ x4 then (if (((rd_T52 x102001 x4).f0).size : Int) > 20 then (some ((⟨#[]⟩ : ByteArray), ([] : List (S52)), ([] : List (S48)), false)) else (r09_Small.l0 k (wrap64 (x4 + 1)) x102000 x102001 x102002)) else (none)) else (r09_Small.l1 k 0 x102000 x102001 x102002)
def r09_Small.l1 : Nat → Int → ByteArray → List (S52) → List (S48) → Option (ByteArray × (List (S52)) × (List (S48)) × Bool)
 | 0, _, _, _, _ => none
 | k + 1, x5, x102000, x102001, x102002 => if x5 < (x102002.length : Int) then (if 0 ≤ x5 then (if (((rd_T48 x102002 x5).f0).size : Int) > 20 then (some ((⟨#[]⟩ : ByteArray), ([] : List (S52)), ([] : List (S48)), false)) else (if (((rd_T48 x102002 x5).f1).length : Int) > 26 then (some ((⟨#[]⟩ : ByteArray), ([] : List (S52)), ([] : List (S48)), false)) else (if (((rd_T48 x102002 x5).f2).length : Int) > 26 then (some ((⟨#[]⟩ : ByteArray), ([] : List (S52)), ([] : List (S48)), false)) else (if (((rd_T48 x102002 x5).f3).length : Int) > 26 then (some ((⟨#[]⟩ : ByteArray), ([] : List (S52)), ([] : List (S48)), false)) else (r09_Small.l1 k (wrap64 (x5 + 1)) x102000 x102001 x102002))))) else (none)) else (some (x102000, x102001, x102002, true))
end
def r09_Small.f (k : Nat) (a0_0 : ByteArray) (l0_1 : List (S52)) (l0_2 : List (S48)) : Option (ByteArray × (List (S52)) × (List (S48)) × Bool) := if (l0_1.length : Int) > 26 then (r09_Small.j0 k true a0_0 l0_1 l0_2) else (if (l0_2.length : Int) > 26 then (r09_Small.j0 k true a0_0 l0_1 l0_2) else (r09_Small.j0 k (decide ((a0_0.size : Int) > 20)) a0_0 l0_1 l0_2))
theorem r09_Small.mono_l : ∀ k, M4 r09_Small.j0 k ∧ M4 r09_Small.l0 k ∧ M4 r09_Small.l1 k
 | 0 => ⟨fun _ _ _ _ r h => by simp [r09_Small.j0] at h, fun _ _ _ _ r h => by simp [r09_Small.l0] at h, fun _ _ _ _ r h => by simp [r09_Small.l1] at h⟩
 | k + 1 => by
  obtain ⟨ih0, ih1, ih2⟩ := r09_Small.mono_l k
  refine ⟨?_, ?_, ?_⟩ <;> dsimp only [M4] <;> intros <;> (first | unfold r09_Small.j0 | unfold r09_Small.l0 | unfold r09_Small.l1) <;> repeat' first | (with_reducible first | apply ih0 | apply ih1 | apply ih2 | apply lr | apply ln | apply li | refine lb ?_ fun _ => ?_)
theorem r09_Small.mono : ∀ a0 a1 a2 k, LeO (r09_Small.f k a0 a1 a2) (r09_Small.f (k + 1) a0 a1 a2) := by
 intro a0 a1 a2 k
 obtain ⟨ih0, ih1, ih2⟩ := r09_Small.mono_l k
 unfold r09_Small.f
 repeat' first | (with_reducible first | apply ih0 | apply ih1 | apply ih2 | apply lr | apply ln | apply li | refine lb ?_ fun _ => ?_)
set_option maxHeartbeats 8000000 in
set_option maxRecDepth 100000 in
theorem r09_Small.calls (k : Nat) (a0_0 : ByteArray) (P0_1_ : Nat → Prop) (A0_1 : Option Addr) (c0_1 : Nat) (l0_1 : List (S52)) (P0_2_ : Nat → Prop) (A0_2 : Option Addr) (c0_2 : Nat) (l0_2 : List (S48)) (r1 : ByteArray) (r2 : List (S52)) (r3 : List (S48)) (r4 : Bool) (w : World) (hs0_1 : Kd.V k52 52 w w.heap.size (fun k_ => P0_1_ k_) (.slice A0_1 l0_1.length c0_1) l0_1) (hs0_2 : Kd.V k48 48 w w.heap.size (fun k_ => P0_2_ k_) (.slice A0_2 l0_2.length c0_2) l0_2) (h : r09_Small.f k a0_0 l0_1 l0_2 = some (r1, r2, r3, r4)) :
  Calls Try.prog 10 #[.agg #[.string a0_0, .slice A0_1 l0_1.length c0_1, .slice A0_2 l0_2.length c0_2]] w fun e w' => ∃ v1_ v2_ : Value, e = .returned (.tuple #[.agg #[.string r1, v1_, v2_], .bool r4]) ∧ Kd.V k52 52 w' w.heap.size (fun k_ => ((P0_1_ k_ ∨ P0_2_ k_) ∨ w.heap.size ≤ k_)) v1_ r2 ∧ Kd.V k48 48 w' w.heap.size (fun k_ => ((P0_1_ k_ ∨ P0_2_ k_) ∨ w.heap.size ≤ k_)) v2_ r3 ∧ Below w.heap.size w w' := by
 have hu25 := Try.underlying25
 have hu48 := Try.underlying48
 have HO0_1 := am (show Kd.V k52 52 w w.heap.size (fun k_ => ((P0_1_ k_ ∨ P0_2_ k_) ∨ w.heap.size ≤ k_)) (.slice A0_1 l0_1.length c0_1) l0_1 from Kd.V_mono hs0_1 (fun k_ hk => .inl (.inl hk)))
 have HO0_2 := am (show Kd.V k48 48 w w.heap.size (fun k_ => ((P0_1_ k_ ∨ P0_2_ k_) ∨ w.heap.size ≤ k_)) (.slice A0_2 l0_2.length c0_2) l0_2 from Kd.V_mono hs0_2 (fun k_ hk => .inl (.inr hk)))
 have HB := am (Below.refl w.heap.size w)
 have H : (if (l0_1.length : Int) > 26 then (r09_Small.j0 k true a0_0 l0_1 l0_2) else (if (l0_2.length : Int) > 26 then (r09_Small.j0 k true a0_0 l0_1 l0_2) else (r09_Small.j0 k (decide ((a0_0.size : Int) > 20)) a0_0 l0_1 l0_2))) = some (r1, r2, r3, r4) := h
 clear h
 have HC2 := am H
 clear H
 go_enter Try.func10, Try.ntmps10
 go_upto_region 1 with (first | ((with_reducible refine gate_dst (N := 1) rfl ?_); (try (refine gate_guard (by rfl) ?_; dsimp only)); refine box_ev (N := 1) (cs := #[.string a0_0, .slice A0_1 l0_1.length c0_1, .slice A0_2 l0_2.length c0_2]) (t := 25) ?_; intro gb101 hg w3 hbox hb; have BK101 := am hbox; have GW101 := gwl hg; have GE101 := GW101; replace HO0_1 := vbb HO0_1 hg hb; replace HO0_2 := vbb HO0_2 hg hb; replace HB := bsl hb; clear hb hbox hg) | ((with_reducible refine gate_dst (N := 2) rfl ?_); (try (refine gate_guard (by rfl) ?_; dsimp only)); refine box_ev (N := 2) (cs := #[.string (⟨#[]⟩ : ByteArray), .slice none 0 0, .slice none 0 0]) (t := 25) ?_; intro gb102 hg w4 hbox hb; have BK102 := am hbox; have GW102 := gwb hg; have GE102 := GW102; have NB101_102 := nlt hg BK101; have NB102_101 := ngt hg BK101; replace HO0_1 := vbb HO0_1 hg hb; replace HO0_2 := vbb HO0_2 hg hb; replace BK101 := bbh BK101 hb; replace HB := bst hb; clear hb hbox hg))
 (try simp only [Act.put, List.setIfInBounds_toArray, List.set_cons_zero, List.set_cons_succ])
 go_cut [22] (fun v22 wc => ∃ (kq : Nat) (x22_1 : Bool), v22 = .bool x22_1 ∧ Aside0 (r09_Small.j0 kq x22_1 a0_0 l0_1 l0_2 = some (r1, r2, r3, r4)) ∧ Aside0 (kq ≤ k) ∧ Aside0 (Kd.V k52 52 wc w.heap.size (fun k_ => ((P0_1_ k_ ∨ P0_2_ k_) ∨ w.heap.size ≤ k_) ∧ k_ ≠ gb101 ∧ k_ ≠ gb102) (.slice A0_1 l0_1.length c0_1) l0_1) ∧ Aside0 (Kd.V k48 48 wc w.heap.size (fun k_ => ((P0_1_ k_ ∨ P0_2_ k_) ∨ w.heap.size ≤ k_) ∧ k_ ≠ gb101 ∧ k_ ≠ gb102) (.slice A0_2 l0_2.length c0_2) l0_2) ∧ Aside0 (wc.heap[gb101]? = some (.cells #[.string a0_0, (.slice A0_1 l0_1.length c0_1), (.slice A0_2 l0_2.length c0_2)] 25 (0, 0))) ∧ Aside0 (wc.heap[gb102]? = some (.cells #[.string (⟨#[]⟩ : ByteArray), (.slice none 0 0), (.slice none 0 0)] 25 (0, 0))) ∧ Aside0 (Below w.heap.size w wc))
 case first =>
  have H := HC2.1
  clear HC2
  by_cases c5 : (l0_1.length : Int) > 26
  ·rw [if_pos c5] at H
   have c5b0 : decide (26 < (l0_1.length : Int)) = true := decide_eq_true c5
   have c5b1 : decide (26 < l0_1.length) = true := decide_eq_true (by omega)
   clear c5
   (first | rw [c5b0] | (simp only [i64_w, i32_w]; rw [c5b0]) | skip)
   have H' := am H
   clear H
   have hnb6 := NB101_102.1
   have hnc6 := NB102_101.1
   obtain ⟨z7_0, z7_1, z7_2, y7_0, y7_1, y7_2⟩ := cf3 BK101.1
   go_wp2
   go_meet
   case rel => exact ⟨_, (true), prs, H', ⟨by first | omega | exact Nat.le_refl _⟩, ⟨by (with_reducible repeat (first | apply Kd.V_alloc | apply Kd.V_drewN | apply Kd.V_drew)); exact Kd.V_mono HO0_1.1 (fun _ hk => ⟨hk.1.1, ⟨hk.1.2, hk.2⟩⟩)⟩, ⟨by (with_reducible repeat (first | apply Kd.V_alloc | apply Kd.V_drewN | apply Kd.V_drew)); exact Kd.V_mono HO0_2.1 (fun _ hk => ⟨hk.1.1, ⟨hk.1.2, hk.2⟩⟩)⟩, ⟨pbk BK101.1⟩, ⟨pbk BK102.1⟩, ⟨pbg⟩⟩
  rw [if_neg c5] at H
  have c5b0 : decide (26 < (l0_1.length : Int)) = false := decide_eq_false c5
  have c5b1 : decide (26 < l0_1.length) = false := decide_eq_false (by omega)
  clear c5
  (first | rw [c5b0] | (simp only [i64_w, i32_w]; rw [c5b0]) | skip)
  by_cases c8 : (l0_2.length : Int) > 26
  ·rw [if_pos c8] at H
   have c8b0 : decide (26 < (l0_2.length : Int)) = true := decide_eq_true c8
   have c8b1 : decide (26 < l0_2.length) = true := decide_eq_true (by omega)
   clear c8
   have H' := am H
   clear H
   have hnb9 := NB101_102.1
   have hnc9 := NB102_101.1
   obtain ⟨z10_0, z10_1, z10_2, y10_0, y10_1, y10_2⟩ := cf3 BK101.1
   go_wp2
   go_meet
   case rel => exact ⟨_, (true), prs, H', ⟨by first | omega | exact Nat.le_refl _⟩, ⟨by (with_reducible repeat (first | apply Kd.V_alloc | apply Kd.V_drewN | apply Kd.V_drew)); exact Kd.V_mono HO0_1.1 (fun _ hk => ⟨hk.1.1, ⟨hk.1.2, hk.2⟩⟩)⟩, ⟨by (with_reducible repeat (first | apply Kd.V_alloc | apply Kd.V_drewN | apply Kd.V_drew)); exact Kd.V_mono HO0_2.1 (fun _ hk => ⟨hk.1.1, ⟨hk.1.2, hk.2⟩⟩)⟩, ⟨pbk BK101.1⟩, ⟨pbk BK102.1⟩, ⟨pbg⟩⟩
  rw [if_neg c8] at H
  have c8b0 : decide (26 < (l0_2.length : Int)) = false := decide_eq_false c8
  have c8b1 : decide (26 < l0_2.length) = false := decide_eq_false (by omega)
  clear c8
  have H' := am H
  clear H
  have hnb11 := NB101_102.1
  have hnc11 := NB102_101.1
  obtain ⟨z12_0, z12_1, z12_2, y12_0, y12_1, y12_2⟩ := cf3 BK101.1
  go_wp2
  go_meet
  case rel => exact ⟨_, (decide ((a0_0.size : Int) > 20)), prs, H', ⟨by first | omega | exact Nat.le_refl _⟩, ⟨by (with_reducible repeat (first | apply Kd.V_alloc | apply Kd.V_drewN | apply Kd.V_drew)); exact Kd.V_mono HO0_1.1 (fun _ hk => ⟨hk.1.1, ⟨hk.1.2, hk.2⟩⟩)⟩, ⟨by (with_reducible repeat (first | apply Kd.V_alloc | apply Kd.V_drewN | apply Kd.V_drew)); exact Kd.V_mono HO0_2.1 (fun _ hk => ⟨hk.1.1, ⟨hk.1.2, hk.2⟩⟩)⟩, ⟨pbk BK101.1⟩, ⟨pbk BK102.1⟩, ⟨pbg⟩⟩
 clear HC2
 try clear c5 c5b0 c5b1 c8 c8b0 c8b1 z10_0 z10_1 z10_2 z12_0 z12_1 z12_2 z7_0 z7_1 z7_2 y10_0 y10_1 y10_2 y12_0 y12_1 y12_2 y7_0 y7_1 y7_2
 obtain ⟨kq, x22_1, rfl, HA, HJ1, HO_102001, HO_102002, BK101, BK102, HB⟩ := hcut
 obtain _ | kj1 := kq
 ·exact absurd HA.1 (by simp [r09_Small.j0])
 have H := HA.1
 clear HA
 simp only [r09_Small.j0] at H
 by_cases c13 : x22_1 = true
 ·subst c13
  rw [if_pos rfl] at H
  simp only [Option.some.injEq, Prod.mk.injEq] at H
  obtain ⟨rfl, rfl, rfl, rfl⟩ := H
  have hnb14 := NB102_101.1
  have hnc14 := NB101_102.1
  obtain ⟨z15_0, z15_1, z15_2, y15_0, y15_1, y15_2⟩ := cf3 BK102.1
  go_wp2
  refine bodyPost_ret (results_ct rfl _ _ gb102 25 #[.string (⟨#[]⟩ : ByteArray), .slice none 0 0, .slice none 0 0] (0, 0) _ rfl (by (with_reducible repeat (first | refine blk_drewN ?_ _ | refine blk_drew ?_ | refine blk_alloc ?_ _)); exact bp3 (pbk BK102.1)) Try.underlying25 rfl (by kernel_rfl)) rfl ?_
  exact ⟨_, _, per, (Kd.V_nil _ _ _ _ _), (Kd.V_nil _ _ _ _ _), pbg⟩
 replace c13 := Bool.eq_false_iff.mpr c13
 subst c13
 rw [if_neg Bool.false_ne_true] at H
 have H' := am H
 clear H
 go_wp2
 go_loopg [4] kj1 (fun kq v4 w' => ∃ (x4_2 : Int) (x103000_2 : ByteArray), v4 = .int .i64 x4_2 ∧ Aside0 (r09_Small.l0 kq x4_2 a0_0 l0_1 l0_2 = some (r1, r2, r3, r4)) ∧ Aside0 (kq ≤ kj1) ∧ Aside0 (Kd.V k52 52 w' w.heap.size (fun k_ => ((P0_1_ k_ ∨ P0_2_ k_) ∨ w.heap.size ≤ k_) ∧ k_ ≠ gb101 ∧ k_ ≠ gb102) (.slice A0_1 l0_1.length c0_1) l0_1) ∧ Aside0 (Kd.V k48 48 w' w.heap.size (fun k_ => ((P0_1_ k_ ∨ P0_2_ k_) ∨ w.heap.size ≤ k_) ∧ k_ ≠ gb101 ∧ k_ ≠ gb102) (.slice A0_2 l0_2.length c0_2) l0_2) ∧ Aside0 (w'.heap[gb101]? = some (.cells #[.string a0_0, (.slice A0_1 l0_1.length c0_1), (.slice A0_2 l0_2.length c0_2)] 25 (0, 0))) ∧ Aside0 (w'.heap[gb102]? = some (.cells #[.string x103000_2, (.slice none 0 0), (.slice none 0 0)] 25 (0, 0))) ∧ Aside0 (Below w.heap.size w w'))
 case atStart => exact ⟨(0), ((⟨#[]⟩ : ByteArray)), prs, H', ⟨Nat.le_refl _⟩, ⟨pkv HO_102001.1⟩, ⟨pkv HO_102002.1⟩, ⟨pbk BK101.1⟩, ⟨pbk BK102.1⟩, ⟨pbg⟩⟩
 clear H'
 try clear c5 c5b0 c5b1 c8 c8b0 c8b1 c13 z10_0 z10_1 z10_2 z12_0 z12_1 z12_2 z15_0 z15_1 z15_2 z7_0 z7_1 z7_2 y10_0 y10_1 y10_2 y12_0 y12_1 y12_2 y15_0 y15_1 y15_2 y7_0 y7_1 y7_2
 obtain ⟨x4_2, x103000_2, rfl, HA, HK2, HO_102001, HO_102002, BK101, BK102, HB⟩ := hrel
 obtain _ | k2 := gk
 ·exact absurd HA.1 (by simp [r09_Small.l0])
 have H := HA.1
 clear HA
 simp only [r09_Small.l0] at H
 by_cases c16 : x4_2 < (l0_1.length : Int)
 ·rw [if_pos c16] at H
  have c16b0 : decide (x4_2 < (l0_1.length : Int)) = true := decide_eq_true c16
  clear c16
  replace H := ifp H
  obtain ⟨c17, H⟩ := H
  have c17b0 := decide_eq_true c17
  clear c17
  by_cases c18 : (((rd_T52 l0_1 x4_2).f0).size : Int) > 20
  rotate_left
  ·rw [if_neg c18] at H
   have c18b0 : decide (20 < (((rd_T52 l0_1 x4_2).f0).size : Int)) = false := decide_eq_false c18
   have c18b1 : decide (20 < ((rd_T52 l0_1 x4_2).f0).size) = false := decide_eq_false (by omega)
   clear c18
   have H' := am H
   clear H
   have hnb22 := NB101_102.1
   have hnc22 := NB102_101.1
   obtain ⟨z23_0, z23_1, z23_2, y23_0, y23_1, y23_2⟩ := cf3 BK101.1
   obtain ⟨p103, q103, ad103, e103, hx103_0, hx103_1, hx103_2⟩ := dT52 (Kd.V_reads' HO_102001.1).2.2 x4_2
   cases e103
   go_wp2
   go_roundg k2
   case measure => have := HJ1.1; have := HK2.1; omega
   case rel => exact ⟨(wrap64 (x4_2 + 1)), (x103000_2), prs, H', ⟨by have := HJ1.1; have := HK2.1; omega⟩, ⟨pkv HO_102001.1⟩, ⟨pkv HO_102002.1⟩, ⟨pbk BK101.1⟩, ⟨pbk BK102.1⟩, ⟨pbg⟩⟩
  rw [if_pos c18] at H
  have c18b0 : decide (20 < (((rd_T52 l0_1 x4_2).f0).size : Int)) = true := decide_eq_true c18
  have c18b1 : decide (20 < ((rd_T52 l0_1 x4_2).f0).size) = true := decide_eq_true (by omega)
  clear c18
  simp only [Option.some.injEq, Prod.mk.injEq] at H
  obtain ⟨rfl, rfl, rfl, rfl⟩ := H
  have hnb19 := NB101_102.1
  have hnc19 := NB102_101.1
  obtain ⟨z20_0, z20_1, z20_2, y20_0, y20_1, y20_2⟩ := cf3 BK101.1
  obtain ⟨p103, q103, ad103, e103, hx103_0, hx103_1, hx103_2⟩ := dT52 (Kd.V_reads' HO_102001.1).2.2 x4_2
  cases e103
  obtain ⟨z21_0, z21_1, z21_2, y21_0, y21_1, y21_2⟩ := cf3 BK102.1
  go_wp2
  refine bodyPost_ret (results_ct rfl _ _ gb102 25 #[.string (⟨#[]⟩ : ByteArray), .slice none 0 0, .slice none 0 0] (0, 0) _ rfl (by (with_reducible repeat (first | refine blk_drewN ?_ _ | refine blk_drew ?_ | refine blk_alloc ?_ _)); exact bp3 (pbk BK102.1)) Try.underlying25 rfl (by kernel_rfl)) rfl ?_
  exact ⟨_, _, per, (Kd.V_nil _ _ _ _ _), (Kd.V_nil _ _ _ _ _), pbg⟩
 rw [if_neg c16] at H
 have c16b0 : decide (x4_2 < (l0_1.length : Int)) = false := decide_eq_false c16
 clear c16
 have H' := am H
 clear H
 have hnb24 := NB101_102.1
 have hnc24 := NB102_101.1
 obtain ⟨z25_0, z25_1, z25_2, y25_0, y25_1, y25_2⟩ := cf3 BK101.1
 go_wp2
 go_loopg [5] k2 (fun kq v5 w' => ∃ (x5_3 : Int) (x103000_3 : ByteArray), v5 = .int .i64 x5_3 ∧ Aside0 (r09_Small.l1 kq x5_3 a0_0 l0_1 l0_2 = some (r1, r2, r3, r4)) ∧ Aside0 (kq ≤ k2) ∧ Aside0 (Kd.V k52 52 w' w.heap.size (fun k_ => ((P0_1_ k_ ∨ P0_2_ k_) ∨ w.heap.size ≤ k_) ∧ k_ ≠ gb101 ∧ k_ ≠ gb102) (.slice A0_1 l0_1.length c0_1) l0_1) ∧ Aside0 (Kd.V k48 48 w' w.heap.size (fun k_ => ((P0_1_ k_ ∨ P0_2_ k_) ∨ w.heap.size ≤ k_) ∧ k_ ≠ gb101 ∧ k_ ≠ gb102) (.slice A0_2 l0_2.length c0_2) l0_2) ∧ Aside0 (w'.heap[gb101]? = some (.cells #[.string a0_0, (.slice A0_1 l0_1.length c0_1), (.slice A0_2 l0_2.length c0_2)] 25 (0, 0))) ∧ Aside0 (w'.heap[gb102]? = some (.cells #[.string x103000_3, (.slice none 0 0), (.slice none 0 0)] 25 (0, 0))) ∧ Aside0 (Below w.heap.size w w'))
 case atStart => exact ⟨(0), (x103000_2), prs, H', ⟨Nat.le_refl _⟩, ⟨pkv HO_102001.1⟩, ⟨pkv HO_102002.1⟩, ⟨pbk BK101.1⟩, ⟨pbk BK102.1⟩, ⟨pbg⟩⟩
 clear H'
 try clear c5 c5b0 c5b1 c8 c8b0 c8b1 c13 c16 c16b0 c17 c17b0 c18 c18b0 c18b1 z10_0 z10_1 z10_2 z12_0 z12_1 z12_2 z15_0 z15_1 z15_2 z20_0 z20_1 z20_2 z21_0 z21_1 z21_2 z23_0 z23_1 z23_2 z25_0 z25_1 z25_2 z7_0 z7_1 z7_2 y10_0 y10_1 y10_2 y12_0 y12_1 y12_2 y15_0 y15_1 y15_2 y20_0 y20_1 y20_2 y21_0 y21_1 y21_2 y23_0 y23_1 y23_2 y25_0 y25_1 y25_2 y7_0 y7_1 y7_2 hx103_0 hx103_1 hx103_2 p103 q103
 obtain ⟨x5_3, x103000_3, rfl, HA, HK3, HO_102001, HO_102002, BK101, BK102, HB⟩ := hrel
 obtain _ | k3 := gk
 ·exact absurd HA.1 (by simp [r09_Small.l1])
 have H := HA.1
 clear HA
 simp only [r09_Small.l1] at H
 by_cases c26 : x5_3 < (l0_2.length : Int)
 rotate_left
 ·rw [if_neg c26] at H
  have c26b0 : decide (x5_3 < (l0_2.length : Int)) = false := decide_eq_false c26
  clear c26
  simp only [Option.some.injEq, Prod.mk.injEq] at H
  obtain ⟨rfl, rfl, rfl, rfl⟩ := H
  have hnb66 := NB101_102.1
  have hnc66 := NB102_101.1
  obtain ⟨z67_0, z67_1, z67_2, y67_0, y67_1, y67_2⟩ := cf3 BK101.1
  obtain ⟨z68_0, z68_1, z68_2, y68_0, y68_1, y68_2⟩ := cf3 BK102.1
  go_wp2
  refine bodyPost_ret (results_ct rfl _ _ gb102 25 #[.string a0_0, .slice A0_1 l0_1.length c0_1, .slice A0_2 l0_2.length c0_2] (0, 0) _ rfl (by (with_reducible repeat (first | refine blk_drewN ?_ _ | refine blk_drew ?_ | refine blk_alloc ?_ _)); exact bp3 (pbk BK102.1)) Try.underlying25 rfl (by kernel_rfl)) rfl ?_
  exact ⟨_, _, per, by (with_reducible repeat (first | apply Kd.V_alloc | apply Kd.V_drewN | apply Kd.V_drew)); exact Kd.V_mono (Kd.V_far (p := ⟨gb102, 2, none⟩) (Kd.V_far (p := ⟨gb102, 1, none⟩) (Kd.V_far (p := ⟨gb102, 0, none⟩) (Kd.V_mono HO_102001.1 (fun k_ hk => (⟨hk, hk.2.2⟩ : _ ∧ k_ ≠ gb102))) (fun _ hk => hk.2) _) (fun _ hk => hk.2) _) (fun _ hk => hk.2) _) (fun _ hk => hk.1.1), by (with_reducible repeat (first | apply Kd.V_alloc | apply Kd.V_drewN | apply Kd.V_drew)); exact Kd.V_mono (Kd.V_far (p := ⟨gb102, 2, none⟩) (Kd.V_far (p := ⟨gb102, 1, none⟩) (Kd.V_far (p := ⟨gb102, 0, none⟩) (Kd.V_mono HO_102002.1 (fun k_ hk => (⟨hk, hk.2.2⟩ : _ ∧ k_ ≠ gb102))) (fun _ hk => hk.2) _) (fun _ hk => hk.2) _) (fun _ hk => hk.2) _) (fun _ hk => hk.1.1), pbg⟩
 rw [if_pos c26] at H
 have c26b0 : decide (x5_3 < (l0_2.length : Int)) = true := decide_eq_true c26
 clear c26
 replace H := ifp H
 obtain ⟨c27, H⟩ := H
 have c27b0 := decide_eq_true c27
 clear c27
 by_cases c28 : (((rd_T48 l0_2 x5_3).f0).size : Int) > 20
 ·rw [if_pos c28] at H
  have c28b0 : decide (20 < (((rd_T48 l0_2 x5_3).f0).size : Int)) = true := decide_eq_true c28
  have c28b1 : decide (20 < ((rd_T48 l0_2 x5_3).f0).size) = true := decide_eq_true (by omega)
  clear c28
  simp only [Option.some.injEq, Prod.mk.injEq] at H
  obtain ⟨rfl, rfl, rfl, rfl⟩ := H
  have hnb29 := NB101_102.1
  have hnc29 := NB102_101.1
  obtain ⟨z30_0, z30_1, z30_2, y30_0, y30_1, y30_2⟩ := cf3 BK101.1
  have p104 : 0 ≤ (x5_3 : Int) := dq
  have q104 : x5_3 < (l0_2.length : Int) := dq
  obtain ⟨ad104, A104_1, c104_1, A104_2, c104_2, A104_3, c104_3, e104, hx104_0, hx104_1, hx104_2, hx104_3, hx104_4, hl104_1, hi104_1, hl104_2, hi104_2, hl104_3, hi104_3⟩ := at_T48 (Kd.V_reads' HO_102002.1).2.2 x5_3 p104 q104
  cases e104
  obtain ⟨ce104, hce104, hMe104, hcc104⟩ := Kd.V_get HO_102002.1 z48 x5_3 p104 (by first | exact q104 | exact dq | (have e_ := (Kd.V_reads' HO_102002.1).1; omega))
  obtain ⟨ua104_1, uc104_1, ua104_2, uc104_2, ua104_3, uc104_3, rfl, ul104_1, ge104_1, ul104_2, ge104_2, ul104_3, ge104_3⟩ := k48_openF hMe104
  have hv104_1 := hcc104 1 _ rfl
  rw [add_field _ _ 1 (by omega)] at hv104_1
  replace hv104_1 := Option.some.inj (hv104_1.symm.trans hx104_1)
  injection hv104_1 with hva_ hvn_ hvc_
  rw [hva_] at ge104_1
  rw [hvc_] at ul104_1
  have HL104_1 := am (show Kd.V k55 55 _ w.heap.size _ _ ((rd_T48 l0_2 x5_3).f1) from Kd.V_mk ul104_1 ge104_1)
  clear hva_ hvn_ hvc_ ge104_1 ul104_1
  have hv104_2 := hcc104 2 _ rfl
  rw [add_field _ _ 2 (by omega)] at hv104_2
  replace hv104_2 := Option.some.inj (hv104_2.symm.trans hx104_2)
  injection hv104_2 with hva_ hvn_ hvc_
  rw [hva_] at ge104_2
  rw [hvc_] at ul104_2
  have HL104_2 := am (show Kd.V k55 55 _ w.heap.size _ _ ((rd_T48 l0_2 x5_3).f2) from Kd.V_mk ul104_2 ge104_2)
  clear hva_ hvn_ hvc_ ge104_2 ul104_2
  have hv104_3 := hcc104 3 _ rfl
  rw [add_field _ _ 3 (by omega)] at hv104_3
  replace hv104_3 := Option.some.inj (hv104_3.symm.trans hx104_3)
  injection hv104_3 with hva_ hvn_ hvc_
  rw [hva_] at ge104_3
  rw [hvc_] at ul104_3
  have HL104_3 := am (show Kd.V k55 55 _ w.heap.size _ _ ((rd_T48 l0_2 x5_3).f3) from Kd.V_mk ul104_3 ge104_3)
  clear hva_ hvn_ hvc_ ge104_3 ul104_3 hcc104 hce104
  have HR104_1 := am hi104_1
  have HC104_1 := am hl104_1
  clear hi104_1 hl104_1
  have HR104_2 := am hi104_2
  have HC104_2 := am hl104_2
  clear hi104_2 hl104_2
  have HR104_3 := am hi104_3
  have HC104_3 := am hl104_3
  clear hi104_3 hl104_3
  replace p104 := eq_true p104
  replace q104 := eq_true q104
  go_wp2_with (first | ((with_reducible refine gate_dst (N := 6) rfl ?_); (try (refine gate_guard (by rfl) ?_; dsimp only)); refine box_ev (N := 6) (cs := #[.string (⟨#[]⟩ : ByteArray), .slice none 0 0, .slice none 0 0, .slice none 0 0, .int .i64 0]) (t := 48) ?_; intro gb105 hg w31 hbox hb; have BK105 := am hbox; have GW105 := gwb hg; have GE105 := GW105; have NB101_105 := nlt hg BK101; have NB105_101 := ngt hg BK101; have NB102_105 := nlt hg BK102; have NB105_102 := ngt hg BK102; replace HO_102001 := vbb HO_102001 hg hb; replace HO_102002 := vbb HO_102002 hg hb; replace HL104_1 := vbb HL104_1 hg hb; replace HL104_2 := vbb HL104_2 hg hb; replace HL104_3 := vbb HL104_3 hg hb; replace BK101 := bbh BK101 hb; replace BK102 := bbh BK102 hb; replace HR104_1 := cbb HR104_1 hb; replace HR104_2 := cbb HR104_2 hb; replace HR104_3 := cbb HR104_3 hb; replace HB := bst hb; clear hb hbox hg; have hnb32 := NB105_101.1; have hnc32 := NB101_105.1; have hnb33 := NB105_102.1; have hnc33 := NB102_105.1; obtain ⟨z34_0, z34_1, z34_2, z34_3, z34_4, y34_0, y34_1, y34_2, y34_3, y34_4⟩ := cf5 BK105.1; obtain ⟨z35_0, z35_1, z35_2, y35_0, y35_1, y35_2⟩ := cf3 BK102.1))
  refine bodyPost_ret (results_ct rfl _ _ gb102 25 #[.string (⟨#[]⟩ : ByteArray), .slice none 0 0, .slice none 0 0] (0, 0) _ rfl (by (with_reducible repeat (first | refine blk_drewN ?_ _ | refine blk_drew ?_ | refine blk_alloc ?_ _)); refine blk_put (cs := #[.string (⟨#[]⟩ : ByteArray), .slice none 0 0, .slice none 0 0]) ?_ 2 _ rfl; (with_reducible repeat (first | refine blk_drewN ?_ _ | refine blk_drew ?_ | refine blk_alloc ?_ _)); refine blk_put (cs := #[.string (⟨#[]⟩ : ByteArray), .slice none 0 0, .slice none 0 0]) ?_ 1 _ rfl; (with_reducible repeat (first | refine blk_drewN ?_ _ | refine blk_drew ?_ | refine blk_alloc ?_ _)); refine blk_put (cs := #[.string x103000_3, .slice none 0 0, .slice none 0 0]) ?_ 0 _ rfl; (with_reducible repeat (first | refine blk_drewN ?_ _ | refine blk_drew ?_ | refine blk_alloc ?_ _)); refine bf5 ?_ NB102_105.1; exact pbk BK102.1) Try.underlying25 rfl (by kernel_rfl)) rfl ?_
  exact ⟨_, _, per, (Kd.V_nil _ _ _ _ _), (Kd.V_nil _ _ _ _ _), pbg⟩
 rw [if_neg c28] at H
 have c28b0 : decide (20 < (((rd_T48 l0_2 x5_3).f0).size : Int)) = false := decide_eq_false c28
 have c28b1 : decide (20 < ((rd_T48 l0_2 x5_3).f0).size) = false := decide_eq_false (by omega)
 clear c28
 by_cases c36 : (((rd_T48 l0_2 x5_3).f1).length : Int) > 26
 ·rw [if_pos c36] at H
  have c36b0 : decide (26 < (((rd_T48 l0_2 x5_3).f1).length : Int)) = true := decide_eq_true c36
  have c36b1 : decide (26 < ((rd_T48 l0_2 x5_3).f1).length) = true := decide_eq_true (by omega)
  clear c36
  simp only [Option.some.injEq, Prod.mk.injEq] at H
  obtain ⟨rfl, rfl, rfl, rfl⟩ := H
  have hnb37 := NB101_102.1
  have hnc37 := NB102_101.1
  obtain ⟨z38_0, z38_1, z38_2, y38_0, y38_1, y38_2⟩ := cf3 BK101.1
  have p104 : 0 ≤ (x5_3 : Int) := dq
  have q104 : x5_3 < (l0_2.length : Int) := dq
  obtain ⟨ad104, A104_1, c104_1, A104_2, c104_2, A104_3, c104_3, e104, hx104_0, hx104_1, hx104_2, hx104_3, hx104_4, hl104_1, hi104_1, hl104_2, hi104_2, hl104_3, hi104_3⟩ := at_T48 (Kd.V_reads' HO_102002.1).2.2 x5_3 p104 q104
  cases e104
  obtain ⟨ce104, hce104, hMe104, hcc104⟩ := Kd.V_get HO_102002.1 z48 x5_3 p104 (by first | exact q104 | exact dq | (have e_ := (Kd.V_reads' HO_102002.1).1; omega))
  obtain ⟨ua104_1, uc104_1, ua104_2, uc104_2, ua104_3, uc104_3, rfl, ul104_1, ge104_1, ul104_2, ge104_2, ul104_3, ge104_3⟩ := k48_openF hMe104
  have hv104_1 := hcc104 1 _ rfl
  rw [add_field _ _ 1 (by omega)] at hv104_1
  replace hv104_1 := Option.some.inj (hv104_1.symm.trans hx104_1)
  injection hv104_1 with hva_ hvn_ hvc_
  rw [hva_] at ge104_1
  rw [hvc_] at ul104_1
  have HL104_1 := am (show Kd.V k55 55 _ w.heap.size _ _ ((rd_T48 l0_2 x5_3).f1) from Kd.V_mk ul104_1 ge104_1)
  clear hva_ hvn_ hvc_ ge104_1 ul104_1
  have hv104_2 := hcc104 2 _ rfl
  rw [add_field _ _ 2 (by omega)] at hv104_2
  replace hv104_2 := Option.some.inj (hv104_2.symm.trans hx104_2)
  injection hv104_2 with hva_ hvn_ hvc_
  rw [hva_] at ge104_2
  rw [hvc_] at ul104_2
  have HL104_2 := am (show Kd.V k55 55 _ w.heap.size _ _ ((rd_T48 l0_2 x5_3).f2) from Kd.V_mk ul104_2 ge104_2)
  clear hva_ hvn_ hvc_ ge104_2 ul104_2
  have hv104_3 := hcc104 3 _ rfl
  rw [add_field _ _ 3 (by omega)] at hv104_3
  replace hv104_3 := Option.some.inj (hv104_3.symm.trans hx104_3)
  injection hv104_3 with hva_ hvn_ hvc_
  rw [hva_] at ge104_3
  rw [hvc_] at ul104_3
  have HL104_3 := am (show Kd.V k55 55 _ w.heap.size _ _ ((rd_T48 l0_2 x5_3).f3) from Kd.V_mk ul104_3 ge104_3)
  clear hva_ hvn_ hvc_ ge104_3 ul104_3 hcc104 hce104
  have HR104_1 := am hi104_1
  have HC104_1 := am hl104_1
  clear hi104_1 hl104_1
  have HR104_2 := am hi104_2
  have HC104_2 := am hl104_2
  clear hi104_2 hl104_2
  have HR104_3 := am hi104_3
  have HC104_3 := am hl104_3
  clear hi104_3 hl104_3
  replace p104 := eq_true p104
  replace q104 := eq_true q104
  go_wp2_with (first | ((with_reducible refine gate_dst (N := 6) rfl ?_); (try (refine gate_guard (by rfl) ?_; dsimp only)); refine box_ev (N := 6) (cs := #[.string (⟨#[]⟩ : ByteArray), .slice none 0 0, .slice none 0 0, .slice none 0 0, .int .i64 0]) (t := 48) ?_; intro gb105 hg w39 hbox hb; have BK105 := am hbox; have GW105 := gwb hg; have GE105 := GW105; have NB101_105 := nlt hg BK101; have NB105_101 := ngt hg BK101; have NB102_105 := nlt hg BK102; have NB105_102 := ngt hg BK102; replace HO_102001 := vbb HO_102001 hg hb; replace HO_102002 := vbb HO_102002 hg hb; replace HL104_1 := vbb HL104_1 hg hb; replace HL104_2 := vbb HL104_2 hg hb; replace HL104_3 := vbb HL104_3 hg hb; replace BK101 := bbh BK101 hb; replace BK102 := bbh BK102 hb; replace HR104_1 := cbb HR104_1 hb; replace HR104_2 := cbb HR104_2 hb; replace HR104_3 := cbb HR104_3 hb; replace HB := bst hb; clear hb hbox hg; have hnb40 := NB105_101.1; have hnc40 := NB101_105.1; have hnb41 := NB105_102.1; have hnc41 := NB102_105.1; obtain ⟨z42_0, z42_1, z42_2, z42_3, z42_4, y42_0, y42_1, y42_2, y42_3, y42_4⟩ := cf5 BK105.1; obtain ⟨z43_0, z43_1, z43_2, y43_0, y43_1, y43_2⟩ := cf3 BK102.1))
  refine bodyPost_ret (results_ct rfl _ _ gb102 25 #[.string (⟨#[]⟩ : ByteArray), .slice none 0 0, .slice none 0 0] (0, 0) _ rfl (by (with_reducible repeat (first | refine blk_drewN ?_ _ | refine blk_drew ?_ | refine blk_alloc ?_ _)); refine blk_put (cs := #[.string (⟨#[]⟩ : ByteArray), .slice none 0 0, .slice none 0 0]) ?_ 2 _ rfl; (with_reducible repeat (first | refine blk_drewN ?_ _ | refine blk_drew ?_ | refine blk_alloc ?_ _)); refine blk_put (cs := #[.string (⟨#[]⟩ : ByteArray), .slice none 0 0, .slice none 0 0]) ?_ 1 _ rfl; (with_reducible repeat (first | refine blk_drewN ?_ _ | refine blk_drew ?_ | refine blk_alloc ?_ _)); refine blk_put (cs := #[.string x103000_3, .slice none 0 0, .slice none 0 0]) ?_ 0 _ rfl; (with_reducible repeat (first | refine blk_drewN ?_ _ | refine blk_drew ?_ | refine blk_alloc ?_ _)); refine bf5 ?_ NB102_105.1; exact pbk BK102.1) Try.underlying25 rfl (by kernel_rfl)) rfl ?_
  exact ⟨_, _, per, (Kd.V_nil _ _ _ _ _), (Kd.V_nil _ _ _ _ _), pbg⟩
 rw [if_neg c36] at H
 have c36b0 : decide (26 < (((rd_T48 l0_2 x5_3).f1).length : Int)) = false := decide_eq_false c36
 have c36b1 : decide (26 < ((rd_T48 l0_2 x5_3).f1).length) = false := decide_eq_false (by omega)
 clear c36
 by_cases c44 : (((rd_T48 l0_2 x5_3).f2).length : Int) > 26
 ·rw [if_pos c44] at H
  have c44b0 : decide (26 < (((rd_T48 l0_2 x5_3).f2).length : Int)) = true := decide_eq_true c44
  have c44b1 : decide (26 < ((rd_T48 l0_2 x5_3).f2).length) = true := decide_eq_true (by omega)
  clear c44
  simp only [Option.some.injEq, Prod.mk.injEq] at H
  obtain ⟨rfl, rfl, rfl, rfl⟩ := H
  have hnb45 := NB101_102.1
  have hnc45 := NB102_101.1
  obtain ⟨z46_0, z46_1, z46_2, y46_0, y46_1, y46_2⟩ := cf3 BK101.1
  have p104 : 0 ≤ (x5_3 : Int) := dq
  have q104 : x5_3 < (l0_2.length : Int) := dq
  obtain ⟨ad104, A104_1, c104_1, A104_2, c104_2, A104_3, c104_3, e104, hx104_0, hx104_1, hx104_2, hx104_3, hx104_4, hl104_1, hi104_1, hl104_2, hi104_2, hl104_3, hi104_3⟩ := at_T48 (Kd.V_reads' HO_102002.1).2.2 x5_3 p104 q104
  cases e104
  obtain ⟨ce104, hce104, hMe104, hcc104⟩ := Kd.V_get HO_102002.1 z48 x5_3 p104 (by first | exact q104 | exact dq | (have e_ := (Kd.V_reads' HO_102002.1).1; omega))
  obtain ⟨ua104_1, uc104_1, ua104_2, uc104_2, ua104_3, uc104_3, rfl, ul104_1, ge104_1, ul104_2, ge104_2, ul104_3, ge104_3⟩ := k48_openF hMe104
  have hv104_1 := hcc104 1 _ rfl
  rw [add_field _ _ 1 (by omega)] at hv104_1
  replace hv104_1 := Option.some.inj (hv104_1.symm.trans hx104_1)
  injection hv104_1 with hva_ hvn_ hvc_
  rw [hva_] at ge104_1
  rw [hvc_] at ul104_1
  have HL104_1 := am (show Kd.V k55 55 _ w.heap.size _ _ ((rd_T48 l0_2 x5_3).f1) from Kd.V_mk ul104_1 ge104_1)
  clear hva_ hvn_ hvc_ ge104_1 ul104_1
  have hv104_2 := hcc104 2 _ rfl
  rw [add_field _ _ 2 (by omega)] at hv104_2
  replace hv104_2 := Option.some.inj (hv104_2.symm.trans hx104_2)
  injection hv104_2 with hva_ hvn_ hvc_
  rw [hva_] at ge104_2
  rw [hvc_] at ul104_2
  have HL104_2 := am (show Kd.V k55 55 _ w.heap.size _ _ ((rd_T48 l0_2 x5_3).f2) from Kd.V_mk ul104_2 ge104_2)
  clear hva_ hvn_ hvc_ ge104_2 ul104_2
  have hv104_3 := hcc104 3 _ rfl
  rw [add_field _ _ 3 (by omega)] at hv104_3
  replace hv104_3 := Option.some.inj (hv104_3.symm.trans hx104_3)
  injection hv104_3 with hva_ hvn_ hvc_
  rw [hva_] at ge104_3
  rw [hvc_] at ul104_3
  have HL104_3 := am (show Kd.V k55 55 _ w.heap.size _ _ ((rd_T48 l0_2 x5_3).f3) from Kd.V_mk ul104_3 ge104_3)
  clear hva_ hvn_ hvc_ ge104_3 ul104_3 hcc104 hce104
  have HR104_1 := am hi104_1
  have HC104_1 := am hl104_1
  clear hi104_1 hl104_1
  have HR104_2 := am hi104_2
  have HC104_2 := am hl104_2
  clear hi104_2 hl104_2
  have HR104_3 := am hi104_3
  have HC104_3 := am hl104_3
  clear hi104_3 hl104_3
  replace p104 := eq_true p104
  replace q104 := eq_true q104
  go_wp2_with (first | ((with_reducible refine gate_dst (N := 6) rfl ?_); (try (refine gate_guard (by rfl) ?_; dsimp only)); refine box_ev (N := 6) (cs := #[.string (⟨#[]⟩ : ByteArray), .slice none 0 0, .slice none 0 0, .slice none 0 0, .int .i64 0]) (t := 48) ?_; intro gb105 hg w47 hbox hb; have BK105 := am hbox; have GW105 := gwb hg; have GE105 := GW105; have NB101_105 := nlt hg BK101; have NB105_101 := ngt hg BK101; have NB102_105 := nlt hg BK102; have NB105_102 := ngt hg BK102; replace HO_102001 := vbb HO_102001 hg hb; replace HO_102002 := vbb HO_102002 hg hb; replace HL104_1 := vbb HL104_1 hg hb; replace HL104_2 := vbb HL104_2 hg hb; replace HL104_3 := vbb HL104_3 hg hb; replace BK101 := bbh BK101 hb; replace BK102 := bbh BK102 hb; replace HR104_1 := cbb HR104_1 hb; replace HR104_2 := cbb HR104_2 hb; replace HR104_3 := cbb HR104_3 hb; replace HB := bst hb; clear hb hbox hg; have hnb48 := NB105_101.1; have hnc48 := NB101_105.1; have hnb49 := NB105_102.1; have hnc49 := NB102_105.1; obtain ⟨z50_0, z50_1, z50_2, z50_3, z50_4, y50_0, y50_1, y50_2, y50_3, y50_4⟩ := cf5 BK105.1; obtain ⟨z51_0, z51_1, z51_2, y51_0, y51_1, y51_2⟩ := cf3 BK102.1))
  refine bodyPost_ret (results_ct rfl _ _ gb102 25 #[.string (⟨#[]⟩ : ByteArray), .slice none 0 0, .slice none 0 0] (0, 0) _ rfl (by (with_reducible repeat (first | refine blk_drewN ?_ _ | refine blk_drew ?_ | refine blk_alloc ?_ _)); refine blk_put (cs := #[.string (⟨#[]⟩ : ByteArray), .slice none 0 0, .slice none 0 0]) ?_ 2 _ rfl; (with_reducible repeat (first | refine blk_drewN ?_ _ | refine blk_drew ?_ | refine blk_alloc ?_ _)); refine blk_put (cs := #[.string (⟨#[]⟩ : ByteArray), .slice none 0 0, .slice none 0 0]) ?_ 1 _ rfl; (with_reducible repeat (first | refine blk_drewN ?_ _ | refine blk_drew ?_ | refine blk_alloc ?_ _)); refine blk_put (cs := #[.string x103000_3, .slice none 0 0, .slice none 0 0]) ?_ 0 _ rfl; (with_reducible repeat (first | refine blk_drewN ?_ _ | refine blk_drew ?_ | refine blk_alloc ?_ _)); refine bf5 ?_ NB102_105.1; exact pbk BK102.1) Try.underlying25 rfl (by kernel_rfl)) rfl ?_
  exact ⟨_, _, per, (Kd.V_nil _ _ _ _ _), (Kd.V_nil _ _ _ _ _), pbg⟩
 rw [if_neg c44] at H
 have c44b0 : decide (26 < (((rd_T48 l0_2 x5_3).f2).length : Int)) = false := decide_eq_false c44
 have c44b1 : decide (26 < ((rd_T48 l0_2 x5_3).f2).length) = false := decide_eq_false (by omega)
 clear c44
 by_cases c52 : (((rd_T48 l0_2 x5_3).f3).length : Int) > 26
 ·rw [if_pos c52] at H
  have c52b0 : decide (26 < (((rd_T48 l0_2 x5_3).f3).length : Int)) = true := decide_eq_true c52
  have c52b1 : decide (26 < ((rd_T48 l0_2 x5_3).f3).length) = true := decide_eq_true (by omega)
  clear c52
  simp only [Option.some.injEq, Prod.mk.injEq] at H
  obtain ⟨rfl, rfl, rfl, rfl⟩ := H
  have hnb53 := NB101_102.1
  have hnc53 := NB102_101.1
  obtain ⟨z54_0, z54_1, z54_2, y54_0, y54_1, y54_2⟩ := cf3 BK101.1
  have p104 : 0 ≤ (x5_3 : Int) := dq
  have q104 : x5_3 < (l0_2.length : Int) := dq
  obtain ⟨ad104, A104_1, c104_1, A104_2, c104_2, A104_3, c104_3, e104, hx104_0, hx104_1, hx104_2, hx104_3, hx104_4, hl104_1, hi104_1, hl104_2, hi104_2, hl104_3, hi104_3⟩ := at_T48 (Kd.V_reads' HO_102002.1).2.2 x5_3 p104 q104
  cases e104
  obtain ⟨ce104, hce104, hMe104, hcc104⟩ := Kd.V_get HO_102002.1 z48 x5_3 p104 (by first | exact q104 | exact dq | (have e_ := (Kd.V_reads' HO_102002.1).1; omega))
  obtain ⟨ua104_1, uc104_1, ua104_2, uc104_2, ua104_3, uc104_3, rfl, ul104_1, ge104_1, ul104_2, ge104_2, ul104_3, ge104_3⟩ := k48_openF hMe104
  have hv104_1 := hcc104 1 _ rfl
  rw [add_field _ _ 1 (by omega)] at hv104_1
  replace hv104_1 := Option.some.inj (hv104_1.symm.trans hx104_1)
  injection hv104_1 with hva_ hvn_ hvc_
  rw [hva_] at ge104_1
  rw [hvc_] at ul104_1
  have HL104_1 := am (show Kd.V k55 55 _ w.heap.size _ _ ((rd_T48 l0_2 x5_3).f1) from Kd.V_mk ul104_1 ge104_1)
  clear hva_ hvn_ hvc_ ge104_1 ul104_1
  have hv104_2 := hcc104 2 _ rfl
  rw [add_field _ _ 2 (by omega)] at hv104_2
  replace hv104_2 := Option.some.inj (hv104_2.symm.trans hx104_2)
  injection hv104_2 with hva_ hvn_ hvc_
  rw [hva_] at ge104_2
  rw [hvc_] at ul104_2
  have HL104_2 := am (show Kd.V k55 55 _ w.heap.size _ _ ((rd_T48 l0_2 x5_3).f2) from Kd.V_mk ul104_2 ge104_2)
  clear hva_ hvn_ hvc_ ge104_2 ul104_2
  have hv104_3 := hcc104 3 _ rfl
  rw [add_field _ _ 3 (by omega)] at hv104_3
  replace hv104_3 := Option.some.inj (hv104_3.symm.trans hx104_3)
  injection hv104_3 with hva_ hvn_ hvc_
  rw [hva_] at ge104_3
  rw [hvc_] at ul104_3
  have HL104_3 := am (show Kd.V k55 55 _ w.heap.size _ _ ((rd_T48 l0_2 x5_3).f3) from Kd.V_mk ul104_3 ge104_3)
  clear hva_ hvn_ hvc_ ge104_3 ul104_3 hcc104 hce104
  have HR104_1 := am hi104_1
  have HC104_1 := am hl104_1
  clear hi104_1 hl104_1
  have HR104_2 := am hi104_2
  have HC104_2 := am hl104_2
  clear hi104_2 hl104_2
  have HR104_3 := am hi104_3
  have HC104_3 := am hl104_3
  clear hi104_3 hl104_3
  replace p104 := eq_true p104
  replace q104 := eq_true q104
  go_wp2_with (first | ((with_reducible refine gate_dst (N := 6) rfl ?_); (try (refine gate_guard (by rfl) ?_; dsimp only)); refine box_ev (N := 6) (cs := #[.string (⟨#[]⟩ : ByteArray), .slice none 0 0, .slice none 0 0, .slice none 0 0, .int .i64 0]) (t := 48) ?_; intro gb105 hg w55 hbox hb; have BK105 := am hbox; have GW105 := gwb hg; have GE105 := GW105; have NB101_105 := nlt hg BK101; have NB105_101 := ngt hg BK101; have NB102_105 := nlt hg BK102; have NB105_102 := ngt hg BK102; replace HO_102001 := vbb HO_102001 hg hb; replace HO_102002 := vbb HO_102002 hg hb; replace HL104_1 := vbb HL104_1 hg hb; replace HL104_2 := vbb HL104_2 hg hb; replace HL104_3 := vbb HL104_3 hg hb; replace BK101 := bbh BK101 hb; replace BK102 := bbh BK102 hb; replace HR104_1 := cbb HR104_1 hb; replace HR104_2 := cbb HR104_2 hb; replace HR104_3 := cbb HR104_3 hb; replace HB := bst hb; clear hb hbox hg; have hnb56 := NB105_101.1; have hnc56 := NB101_105.1; have hnb57 := NB105_102.1; have hnc57 := NB102_105.1; obtain ⟨z58_0, z58_1, z58_2, z58_3, z58_4, y58_0, y58_1, y58_2, y58_3, y58_4⟩ := cf5 BK105.1; obtain ⟨z59_0, z59_1, z59_2, y59_0, y59_1, y59_2⟩ := cf3 BK102.1))
  refine bodyPost_ret (results_ct rfl _ _ gb102 25 #[.string (⟨#[]⟩ : ByteArray), .slice none 0 0, .slice none 0 0] (0, 0) _ rfl (by (with_reducible repeat (first | refine blk_drewN ?_ _ | refine blk_drew ?_ | refine blk_alloc ?_ _)); refine blk_put (cs := #[.string (⟨#[]⟩ : ByteArray), .slice none 0 0, .slice none 0 0]) ?_ 2 _ rfl; (with_reducible repeat (first | refine blk_drewN ?_ _ | refine blk_drew ?_ | refine blk_alloc ?_ _)); refine blk_put (cs := #[.string (⟨#[]⟩ : ByteArray), .slice none 0 0, .slice none 0 0]) ?_ 1 _ rfl; (with_reducible repeat (first | refine blk_drewN ?_ _ | refine blk_drew ?_ | refine blk_alloc ?_ _)); refine blk_put (cs := #[.string x103000_3, .slice none 0 0, .slice none 0 0]) ?_ 0 _ rfl; (with_reducible repeat (first | refine blk_drewN ?_ _ | refine blk_drew ?_ | refine blk_alloc ?_ _)); refine bf5 ?_ NB102_105.1; exact pbk BK102.1) Try.underlying25 rfl (by kernel_rfl)) rfl ?_
  exact ⟨_, _, per, (Kd.V_nil _ _ _ _ _), (Kd.V_nil _ _ _ _ _), pbg⟩
 rw [if_neg c52] at H
 have c52b0 : decide (26 < (((rd_T48 l0_2 x5_3).f3).length : Int)) = false := decide_eq_false c52
 have c52b1 : decide (26 < ((rd_T48 l0_2 x5_3).f3).length) = false := decide_eq_false (by omega)
 clear c52
 have H' := am H
 clear H
 have hnb60 := NB101_102.1
 have hnc60 := NB102_101.1
 obtain ⟨z61_0, z61_1, z61_2, y61_0, y61_1, y61_2⟩ := cf3 BK101.1
 have p104 : 0 ≤ (x5_3 : Int) := dq
 have q104 : x5_3 < (l0_2.length : Int) := dq
 obtain ⟨ad104, A104_1, c104_1, A104_2, c104_2, A104_3, c104_3, e104, hx104_0, hx104_1, hx104_2, hx104_3, hx104_4, hl104_1, hi104_1, hl104_2, hi104_2, hl104_3, hi104_3⟩ := at_T48 (Kd.V_reads' HO_102002.1).2.2 x5_3 p104 q104
 cases e104
 obtain ⟨ce104, hce104, hMe104, hcc104⟩ := Kd.V_get HO_102002.1 z48 x5_3 p104 (by first | exact q104 | exact dq | (have e_ := (Kd.V_reads' HO_102002.1).1; omega))
 obtain ⟨ua104_1, uc104_1, ua104_2, uc104_2, ua104_3, uc104_3, rfl, ul104_1, ge104_1, ul104_2, ge104_2, ul104_3, ge104_3⟩ := k48_openF hMe104
 have hv104_1 := hcc104 1 _ rfl
 rw [add_field _ _ 1 (by omega)] at hv104_1
 replace hv104_1 := Option.some.inj (hv104_1.symm.trans hx104_1)
 injection hv104_1 with hva_ hvn_ hvc_
 rw [hva_] at ge104_1
 rw [hvc_] at ul104_1
 have HL104_1 := am (show Kd.V k55 55 _ w.heap.size _ _ ((rd_T48 l0_2 x5_3).f1) from Kd.V_mk ul104_1 ge104_1)
 clear hva_ hvn_ hvc_ ge104_1 ul104_1
 have hv104_2 := hcc104 2 _ rfl
 rw [add_field _ _ 2 (by omega)] at hv104_2
 replace hv104_2 := Option.some.inj (hv104_2.symm.trans hx104_2)
 injection hv104_2 with hva_ hvn_ hvc_
 rw [hva_] at ge104_2
 rw [hvc_] at ul104_2
 have HL104_2 := am (show Kd.V k55 55 _ w.heap.size _ _ ((rd_T48 l0_2 x5_3).f2) from Kd.V_mk ul104_2 ge104_2)
 clear hva_ hvn_ hvc_ ge104_2 ul104_2
 have hv104_3 := hcc104 3 _ rfl
 rw [add_field _ _ 3 (by omega)] at hv104_3
 replace hv104_3 := Option.some.inj (hv104_3.symm.trans hx104_3)
 injection hv104_3 with hva_ hvn_ hvc_
 rw [hva_] at ge104_3
 rw [hvc_] at ul104_3
 have HL104_3 := am (show Kd.V k55 55 _ w.heap.size _ _ ((rd_T48 l0_2 x5_3).f3) from Kd.V_mk ul104_3 ge104_3)
 clear hva_ hvn_ hvc_ ge104_3 ul104_3 hcc104 hce104
 have HR104_1 := am hi104_1
 have HC104_1 := am hl104_1
 clear hi104_1 hl104_1
 have HR104_2 := am hi104_2
 have HC104_2 := am hl104_2
 clear hi104_2 hl104_2
 have HR104_3 := am hi104_3
 have HC104_3 := am hl104_3
 clear hi104_3 hl104_3
 replace p104 := eq_true p104
 replace q104 := eq_true q104
 go_wp2_with (first | ((with_reducible refine gate_dst (N := 6) rfl ?_); (try (refine gate_guard (by rfl) ?_; dsimp only)); refine box_ev (N := 6) (cs := #[.string (⟨#[]⟩ : ByteArray), .slice none 0 0, .slice none 0 0, .slice none 0 0, .int .i64 0]) (t := 48) ?_; intro gb105 hg w62 hbox hb; have BK105 := am hbox; have GW105 := gwb hg; have GE105 := GW105; have NB101_105 := nlt hg BK101; have NB105_101 := ngt hg BK101; have NB102_105 := nlt hg BK102; have NB105_102 := ngt hg BK102; replace HO_102001 := vbb HO_102001 hg hb; replace HO_102002 := vbb HO_102002 hg hb; replace HL104_1 := vbb HL104_1 hg hb; replace HL104_2 := vbb HL104_2 hg hb; replace HL104_3 := vbb HL104_3 hg hb; replace BK101 := bbh BK101 hb; replace BK102 := bbh BK102 hb; replace HR104_1 := cbb HR104_1 hb; replace HR104_2 := cbb HR104_2 hb; replace HR104_3 := cbb HR104_3 hb; replace HB := bst hb; clear hb hbox hg; have hnb63 := NB105_101.1; have hnc63 := NB101_105.1; have hnb64 := NB105_102.1; have hnc64 := NB102_105.1; obtain ⟨z65_0, z65_1, z65_2, z65_3, z65_4, y65_0, y65_1, y65_2, y65_3, y65_4⟩ := cf5 BK105.1))
 go_roundg k3
 case measure => have := HJ1.1; have := HK2.1; have := HK3.1; omega
 case rel => exact ⟨(wrap64 (x5_3 + 1)), (x103000_3), prs, H', ⟨by have := HJ1.1; have := HK2.1; have := HK3.1; omega⟩, ⟨by (with_reducible repeat (first | apply Kd.V_alloc | apply Kd.V_drewN | apply Kd.V_drew)); exact Kd.V_mono (Kd.V_far (p := ⟨gb105, 4, none⟩) (Kd.V_far (p := ⟨gb105, 3, none⟩) (Kd.V_far (p := ⟨gb105, 2, none⟩) (Kd.V_far (p := ⟨gb105, 1, none⟩) (Kd.V_far (p := ⟨gb105, 0, none⟩) (Kd.V_mono HO_102001.1 (fun k_ hk => (⟨hk, hk.2⟩ : _ ∧ k_ ≠ gb105))) (fun _ hk => hk.2) _) (fun _ hk => hk.2) _) (fun _ hk => hk.2) _) (fun _ hk => hk.2) _) (fun _ hk => hk.2) _) (fun _ hk => ⟨hk.1.1.1, ⟨hk.1.1.2.1, hk.1.1.2.2⟩⟩)⟩, ⟨by (with_reducible repeat (first | apply Kd.V_alloc | apply Kd.V_drewN | apply Kd.V_drew)); exact Kd.V_mono (Kd.V_far (p := ⟨gb105, 4, none⟩) (Kd.V_far (p := ⟨gb105, 3, none⟩) (Kd.V_far (p := ⟨gb105, 2, none⟩) (Kd.V_far (p := ⟨gb105, 1, none⟩) (Kd.V_far (p := ⟨gb105, 0, none⟩) (Kd.V_mono HO_102002.1 (fun k_ hk => (⟨hk, hk.2⟩ : _ ∧ k_ ≠ gb105))) (fun _ hk => hk.2) _) (fun _ hk => hk.2) _) (fun _ hk => hk.2) _) (fun _ hk => hk.2) _) (fun _ hk => hk.2) _) (fun _ hk => ⟨hk.1.1.1, ⟨hk.1.1.2.1, hk.1.1.2.2⟩⟩)⟩, ⟨by (with_reducible repeat (first | refine blk_drewN ?_ _ | refine blk_drew ?_ | refine blk_alloc ?_ _)); refine bf5 ?_ NB101_105.1; exact pbk BK101.1⟩, ⟨by (with_reducible repeat (first | refine blk_drewN ?_ _ | refine blk_drew ?_ | refine blk_alloc ?_ _)); refine bf5 ?_ NB102_105.1; exact pbk BK102.1⟩, ⟨pbg⟩⟩

/-! ### marking_Valid: function 75 -/
def marking_Valid.l0 : Nat → List Int → Int → Int → Option (Bool)
 | 0, _, _, _ => none
 | k + 1, x11, x12, x13 => if x13 < x12 then (if 0 ≤ x13 then (if x13 < (x11.length : Int) then (if (rd x11 x13) < 0 then (some false) else (if (rd x11 x13) > 1048576 then (some false) else (marking_Valid.l0 k x11 x12 (wrap64 (x13 + 1))))) else (none)) else (none)) else (some true)
def marking_Valid.f (k : Nat) (l0 : List Int) (a1 : Int) : Option (Bool) := if (l0.length : Int) = a1 then (marking_Valid.l0 k l0 (l0.length : Int) 0) else (some false)
theorem marking_Valid.mono_l : ∀ k, M3 marking_Valid.l0 k
 | 0 => fun _ _ _ r h => by simp [marking_Valid.l0] at h
 | k + 1 => by
  have ih0 := marking_Valid.mono_l k
  ·intro y0 y1 y2
   unfold marking_Valid.l0
   repeat' first | (with_reducible first | apply ih0 | apply lr | apply ln | apply li | refine lb ?_ fun _ => ?_)
theorem marking_Valid.mono : ∀ a0 a1 k, LeO (marking_Valid.f k a0 a1) (marking_Valid.f (k + 1) a0 a1) := by
 intro a0 a1 k
 have ih0 := marking_Valid.mono_l k
 unfold marking_Valid.f
 repeat' first | (with_reducible first | apply ih0 | apply lr | apply ln | apply li | refine lb ?_ fun _ => ?_)
set_option maxHeartbeats 8000000 in
set_option maxRecDepth 100000 in
theorem marking_Valid.calls (k : Nat) (A0 : Option Addr) (c0 : Nat) (l0 : List Int) (a1 : Int) (r : Bool) (w : World) (hr0 : Kd.C (Kd.int .i64) w A0 l0.length l0) (hc0 : l0.length ≤ c0) (h : marking_Valid.f k l0 a1 = some r) :
  Calls Try.prog 75 #[.slice A0 l0.length c0, .int .i64 a1] w fun e w' => e = .returned (.bool r) ∧ Drawn0 w w' := by
 have HR0 := am hr0
 have HC0 := am hc0
 clear hr0 hc0
 have H : (if (l0.length : Int) = a1 then (marking_Valid.l0 k l0 (l0.length : Int) 0) else (some false)) = some r := h
 clear h
 by_cases c3 : (l0.length : Int) = a1
 rotate_left
 ·rw [if_neg c3] at H
  have c3b0 : ((l0.length : Int) == a1) = false := beq_eq_false_iff_ne.mpr c3
  have c3b1 : ((l0.length : Int) != a1) = true := bne_iff_ne.mpr c3
  obtain rfl := Option.some.inj H
  go_enter Try.func75, Try.ntmps75
  go_wp2
  go_ret
  exact ⟨prs, pdr⟩
 rw [if_pos c3] at H
 have c3b0 : ((l0.length : Int) == a1) = true := beq_iff_eq.mpr c3
 have c3b1 : ((l0.length : Int) != a1) = false := bne_eq_false_iff_eq.mpr c3
 clear c3
 have H' := am H
 clear H
 go_enter Try.func75, Try.ntmps75
 go_wp2
 go_loopg [13] k (fun kq v13 w' => ∃ (x13_1 : Int), v13 = .int .i64 x13_1 ∧ Aside0 (marking_Valid.l0 kq l0 (l0.length : Int) x13_1 = some r) ∧ Aside0 (kq ≤ k) ∧ Drawn0 w w')
 case atStart => exact ⟨(0), prs, H', ⟨Nat.le_refl _⟩, pdr⟩
 clear H'
 try clear c3 c3b0 c3b1
 obtain ⟨x13_1, rfl, HA, HK1, ⟨m1, rfl⟩⟩ := hrel
 obtain _ | k1 := gk
 ·exact absurd HA.1 (by simp [marking_Valid.l0])
 have H := HA.1
 clear HA
 simp only [marking_Valid.l0] at H
 by_cases c4 : x13_1 < (l0.length : Int)
 rotate_left
 ·rw [if_neg c4] at H
  have c4b0 : decide (x13_1 < (l0.length : Int)) = false := decide_eq_false c4
  clear c4
  obtain rfl := Option.some.inj H
  go_wp2
  go_ret
  exact ⟨prs, pdr⟩
 rw [if_pos c4] at H
 have c4b0 : decide (x13_1 < (l0.length : Int)) = true := decide_eq_true c4
 clear c4
 replace H := ifp H
 obtain ⟨c5, H⟩ := H
 have c5b0 := decide_eq_true c5
 clear c5
 replace H := ifp H
 obtain ⟨c6, H⟩ := H
 have c6b0 := decide_eq_true c6
 clear c6
 by_cases c7 : (rd l0 x13_1) < 0
 ·rw [if_pos c7] at H
  have c7b0 : decide ((rd l0 x13_1) < 0) = true := decide_eq_true c7
  clear c7
  obtain rfl := Option.some.inj H
  obtain ⟨p106, q106, ad106, e106, hx106_0⟩ := dint HR0.1 x13_1
  cases e106
  go_wp2
  go_ret
  exact ⟨prs, pdr⟩
 rw [if_neg c7] at H
 have c7b0 : decide ((rd l0 x13_1) < 0) = false := decide_eq_false c7
 clear c7
 by_cases c8 : (rd l0 x13_1) > 1048576
 ·rw [if_pos c8] at H
  have c8b0 : decide (1048576 < (rd l0 x13_1)) = true := decide_eq_true c8
  clear c8
  obtain rfl := Option.some.inj H
  obtain ⟨p106, q106, ad106, e106, hx106_0⟩ := dint HR0.1 x13_1
  cases e106
  go_wp2
  go_ret
  exact ⟨prs, pdr⟩
 rw [if_neg c8] at H
 have c8b0 : decide (1048576 < (rd l0 x13_1)) = false := decide_eq_false c8
 clear c8
 have H' := am H
 clear H
 obtain ⟨p106, q106, ad106, e106, hx106_0⟩ := dint HR0.1 x13_1
 cases e106
 go_wp2
 go_roundg k1
 case measure => have := HK1.1; omega
 case rel => exact ⟨(wrap64 (x13_1 + 1)), prs, H', ⟨by have := HK1.1; omega⟩, pdr⟩

/-! ### net_checkPlace: function 61 -/
def placeE (x c : Int) : Int := if c < 0 ∨ c > 1048576 then 1 else if (x < 0 ∨ x > 1048576) ∨ (c ≠ 0 ∧ x > c) then 10 else 0
def net_checkPlace.f (a0_0 : ByteArray) (a0_1 : Int) (a0_2 : Int) : Option Int := some (placeE a0_1 a0_2)
theorem valid_one (x : Int) : marking_Valid.f 5 [x] 1 = some (decide (0 ≤ x) && decide (x ≤ 1048576)) := by
 have hr : rd [x] 0 = x := rfl
 have h1 : wrap64 (0 + 1) = 1 := by unfold wrap64; omega
 unfold marking_Valid.f
 rw [if_pos (by simp)]
 simp only [marking_Valid.l0, List.length_cons, List.length_nil, hr, h1]
 by_cases c1 : x < 0
 ·simp [c1]; omega
 ·by_cases c2 : x > 1048576
  ·simp [c1, c2]
  ·simp [c1, c2]; omega
theorem C_one {w : World} {b t : Nat} {x : Int} (h : w.heap[b]? = some (.cells #[.int .i64 x] t (0, 0))) : Kd.C (Kd.int .i64) w (some ⟨b, 0, none⟩) 1 [x] := by
 refine ⟨rfl, by decide, fun _ => ⟨_, rfl, fun j p hj => ⟨[.int .i64 x], rfl, ?_, fun i u hu => ?_⟩⟩⟩
 ·cases j with
  | zero => cases hj; exact rfl
  | succ j => cases hj
 ·cases j with
  | succ j => cases hj
  | zero =>
   cases i with
   | zero => cases hu; exact (blk_cell h 0).trans rfl
   | succ i => cases hu
set_option maxHeartbeats 2000000 in
set_option maxRecDepth 100000 in
theorem net_checkPlace.calls (a0_0 : ByteArray) (a0_1 : Int) (a0_2 : Int) (r : Int) (w : World) (h : net_checkPlace.f a0_0 a0_1 a0_2 = some r) :
  Calls Try.prog 61 #[.agg #[.string a0_0, .int .i64 a0_1, .int .i64 a0_2]] w fun e w' => e = .returned (.int .i64 r) ∧ Below w.heap.size w w' := by
 have hr : placeE a0_1 a0_2 = r := Option.some.inj h
 clear h
 have HR := Aside0.mk hr
 clear hr
 have hb0 : (w.alloc (.cells #[.string a0_0, .int .i64 a0_1, .int .i64 a0_2] 52)).heap[w.heap.size]? = some (.cells #[.string a0_0, .int .i64 a0_1, .int .i64 a0_2] 52 (0, 0)) := alloc_new _ _
 have HB0 := Aside0.mk hb0
 have c0 := blk_cell hb0 1
 have c1 := blk_cell hb0 2
 have c0' : (w.alloc (.cells #[.string a0_0, .int .i64 a0_1, .int .i64 a0_2] 52)).cell? ⟨w.heap.size, 1, none⟩ = some (.int .i64 a0_1) := c0.trans rfl
 have c1' : (w.alloc (.cells #[.string a0_0, .int .i64 a0_1, .int .i64 a0_2] 52)).cell? ⟨w.heap.size, 2, none⟩ = some (.int .i64 a0_2) := c1.trans rfl
 clear hb0 c0 c1
 have hu := Try.underlying52
 have hs1 : (w.alloc (.cells #[.string a0_0, .int .i64 a0_1, .int .i64 a0_2] 52)).heap.size = w.heap.size + 1 := by simp
 have HB1 := Aside0.mk (show Below w.heap.size w (w.alloc (.cells #[.string a0_0, .int .i64 a0_1, .int .i64 a0_2] 52)) from below_alloc (Below.refl _ _) _)
 have bad (b1 b2 : Bool) (d1b : decide (a0_2 < 0) = b1) (d2b : decide (1048576 < a0_2) = b2) (hor : (b1 || b2) = true) :
   Calls Try.prog 61 #[.agg #[.string a0_0, .int .i64 a0_1, .int .i64 a0_2]] w fun e w' => e = .returned (.int .i64 r) ∧ Below w.heap.size w w' := by
  have HR2 := Aside0.mk (HR.out.symm.trans (show placeE a0_1 a0_2 = 1 by
   unfold placeE
   rw [if_pos]
   rcases Bool.or_eq_true _ _ ▸ hor with h | h
   ·rw [h] at d1b; exact .inl (of_decide_eq_true d1b)
   ·rw [h] at d2b; exact .inr (of_decide_eq_true d2b)))
  cases b1 with
  | true =>
   clear d2b hor
   go_enter Try.func61, Try.ntmps61
   go_wp2
   go_ret
   have e_ := HR2.out
   subst e_
   exact ⟨rfl, HB1.out⟩
  | false =>
   cases b2 with
   | false => cases hor
   | true =>
    clear hor
    go_enter Try.func61, Try.ntmps61
    go_wp2
    go_ret
    have e_ := HR2.out
    subst e_
    exact ⟨rfl, HB1.out⟩
 cases d1b : decide (a0_2 < 0) with
 | true => exact bad _ _ d1b rfl rfl
 | false =>
 cases d2b : decide (1048576 < a0_2) with
 | true => exact bad _ _ d1b d2b rfl
 | false =>
  clear bad
  have HC1 := Aside0.mk (show Kd.C (Kd.int .i64) ((w.alloc (.cells #[.string a0_0, .int .i64 a0_1, .int .i64 a0_2] 52)).alloc (.cells #[.int .i64 a0_1] 3)) (some ⟨w.heap.size + 1, 0, none⟩) 1 [a0_1] by rw [← hs1]; exact C_one (alloc_new _ _))
  clear hs1
  have d1 := of_decide_eq_false d1b
  have d2 := of_decide_eq_false d2b
  have hpe : placeE a0_1 a0_2 = if (a0_1 < 0 ∨ a0_1 > 1048576) ∨ (a0_2 ≠ 0 ∧ a0_1 > a0_2) then 10 else 0 := by unfold placeE; rw [if_neg (fun h => h.elim d1 d2)]
  have HR2 := Aside0.mk (HR.out.symm.trans hpe)
  clear hpe d1 d2 HR
  cases d3b : (decide (0 ≤ a0_1) && decide (a0_1 ≤ 1048576)) with
  | false =>
   have HR3 := Aside0.mk (HR2.out.trans (if_pos (.inl (by
    rw [Bool.and_eq_false_iff] at d3b
    exact d3b.imp (fun h => by have := of_decide_eq_false h; omega) (fun h => by have := of_decide_eq_false h; omega)))))
   have HV := Aside0.mk ((valid_one a0_1).trans (congrArg some d3b))
   clear d3b HR2
   go_enter Try.func61, Try.ntmps61
   go_wp2_with (first | (go_at_call 75; refine (marking_Valid.calls 5 _ _ [a0_1] _ _ _ HC1.out (Nat.le_refl 1) HV.out).mono ?_; rintro e w' ⟨rfl, ⟨n, rfl⟩⟩))
   go_ret
   have e_ := HR3.out
   subst e_
   exact ⟨rfl, pw_below_drewN (below_alloc HB1.out _) _⟩
  | true =>
   have HV := Aside0.mk ((valid_one a0_1).trans (congrArg some d3b))
   have d3 : ¬ (a0_1 < 0 ∨ a0_1 > 1048576) := by
    rw [Bool.and_eq_true] at d3b
    have h1 := of_decide_eq_true d3b.1
    have h2 := of_decide_eq_true d3b.2
    omega
   have D3 := Aside0.mk d3
   clear d3b d3
   cases d4b : (a0_2 == 0) with
   | true =>
    have d4c : (a0_2 != 0) = false := by rw [bne, d4b]; rfl
    have HR3 := Aside0.mk (HR2.out.trans (if_neg (fun h => h.elim D3.out (fun h => h.1 (beq_iff_eq.1 d4b)))))
    clear HR2
    go_enter Try.func61, Try.ntmps61
    go_wp2_with (first | (go_at_call 75; refine (marking_Valid.calls 5 _ _ [a0_1] _ _ _ HC1.out (Nat.le_refl 1) HV.out).mono ?_; rintro e w' ⟨rfl, ⟨n, rfl⟩⟩))
    go_ret
    have e_ := HR3.out
    subst e_
    exact ⟨rfl, pw_below_drewN (below_alloc HB1.out _) _⟩
   | false =>
    have d4c : (a0_2 != 0) = true := by rw [bne, d4b]; rfl
    have c0d : ∀ n, (((w.alloc (.cells #[.string a0_0, .int .i64 a0_1, .int .i64 a0_2] 52)).alloc (.cells #[.int .i64 a0_1] 3)).drewN n).cell? ⟨w.heap.size, 1, none⟩ = some (.int .i64 a0_1) := fun n => (blk_cell (blk_below HB0.out (pw_below_drewN (below_alloc (Below.refl _ _) _) n)) 1).trans rfl
    have c1d : ∀ n, (((w.alloc (.cells #[.string a0_0, .int .i64 a0_1, .int .i64 a0_2] 52)).alloc (.cells #[.int .i64 a0_1] 3)).drewN n).cell? ⟨w.heap.size, 2, none⟩ = some (.int .i64 a0_2) := fun n => (blk_cell (blk_below HB0.out (pw_below_drewN (below_alloc (Below.refl _ _) _) n)) 2).trans rfl
    cases d5b : decide (a0_2 < a0_1) with
    | true =>
     have HR3 := Aside0.mk (HR2.out.trans (if_pos (.inr ⟨beq_eq_false_iff_ne.1 d4b, of_decide_eq_true d5b⟩)))
     clear HR2
     go_enter Try.func61, Try.ntmps61
     go_wp2_with (first | (go_at_call 75; refine (marking_Valid.calls 5 _ _ [a0_1] _ _ _ HC1.out (Nat.le_refl 1) HV.out).mono ?_; rintro e w' ⟨rfl, ⟨n, rfl⟩⟩))
     go_ret
     have e_ := HR3.out
     subst e_
     exact ⟨rfl, pw_below_drewN (below_alloc HB1.out _) _⟩
    | false =>
     have HR3 := Aside0.mk (HR2.out.trans (if_neg (fun h => h.elim D3.out (fun h => of_decide_eq_false d5b h.2))))
     clear HR2
     go_enter Try.func61, Try.ntmps61
     go_wp2_with (first | (go_at_call 75; refine (marking_Valid.calls 5 _ _ [a0_1] _ _ _ HC1.out (Nat.le_refl 1) HV.out).mono ?_; rintro e w' ⟨rfl, ⟨n, rfl⟩⟩))
     go_ret
     have e_ := HR3.out
     subst e_
     exact ⟨rfl, pw_below_drewN (below_alloc HB1.out _) _⟩

/-! ### net_checkArcs: function 76 -/
mutual
def net_checkArcs.l0 : Nat → List (S55) → Int → List (S55) → Int → Int → Option (Int)
 | 0, _, _, _, _, _ => none
 | k + 1, x0, x1, x7, x8, x9 => if x9 < x8 then (if 0 ≤ x9 then (if x9 < (x7.length : Int) then (if ((rd_T55 x7 x9).f0) < 0 then (net_checkArcs.j1 k x0 x1 x9 x7 x8 x9 true ((rd_T55 x7 x9).f0) ((rd_T55 x7 x9).f1)) else (net_checkArcs.j1 k x0 x1 x9 x7 x8 x9 (decide (((rd_T55 x7 x9).f0) ≥ x1)) ((rd_T55 x7 x9).f0) ((rd_T55 x7 x9).f1))) else (none)) else (none)) else (some 0)
def net_checkArcs.j1 : Nat → List (S55) → Int → Int → List (S55) → Int → Int → Bool → Int → Int → Option (Int)
 | 0, _, _, _, _, _, _, _, _, _ => none
 | k + 1, x0, x1, x5, x7, x8, x9, x14, x109000, x109001 => if x14 = true then (some 7) else (if x5 > 0 then (if 0 ≤ (wrap64 (x5 - 1)) then (if (wrap64 (x5 - 1)) < (x0.length : Int) then (net_checkArcs.j2 k x0 x1 x7 x8 x9 (decide (((rd_T55 x0 (wrap64 (x5 - 1))).f0) ≥ x109000)) x109000 x109001) else (none)) else (none)) else (net_checkArcs.j2 k x0 x1 x7 x8 x9 false x109000 x109001))
def net_checkArcs.j2 : Nat → List (S55) → Int → List (S55) → Int → Int → Bool → Int → Int → Option (Int)
 | 0, _, _, _, _, _, _, _, _ => none
 | k + 1, x0, x1, x7, x8, x9, x24, x109000, x109001 => if x24 = true then (some 8) else (if x109001 < 1 then (some 9) else (if x109001 > 99 then (some 9) else (net_checkArcs.l0 k x0 x1 x7 x8 (wrap64 (x9 + 1)))))
end
def net_checkArcs.f (k : Nat) (l0 : List (S55)) (a1 : Int) : Option (Int) := net_checkArcs.l0 k l0 a1 l0 (l0.length : Int) 0
theorem net_checkArcs.mono_l : ∀ k, M5 net_checkArcs.l0 k ∧ M9 net_checkArcs.j1 k ∧ M8 net_checkArcs.j2 k
 | 0 => ⟨fun _ _ _ _ _ r h => by simp [net_checkArcs.l0] at h, fun _ _ _ _ _ _ _ _ _ r h => by simp [net_checkArcs.j1] at h, fun _ _ _ _ _ _ _ _ r h => by simp [net_checkArcs.j2] at h⟩
 | k + 1 => by
  obtain ⟨ih0, ih1, ih2⟩ := net_checkArcs.mono_l k
  refine ⟨?_, ?_, ?_⟩ <;> dsimp only [M5, M8, M9] <;> intros <;> (first | unfold net_checkArcs.l0 | unfold net_checkArcs.j1 | unfold net_checkArcs.j2) <;> repeat' first | (with_reducible first | apply ih0 | apply ih1 | apply ih2 | apply lr | apply ln | apply li | refine lb ?_ fun _ => ?_)
theorem net_checkArcs.mono : ∀ a0 a1 k, LeO (net_checkArcs.f k a0 a1) (net_checkArcs.f (k + 1) a0 a1) := by
 intro a0 a1 k
 obtain ⟨ih0, ih1, ih2⟩ := net_checkArcs.mono_l k
 unfold net_checkArcs.f
 repeat' first | (with_reducible first | apply ih0 | apply ih1 | apply ih2 | apply lr | apply ln | apply li | refine lb ?_ fun _ => ?_)
set_option maxHeartbeats 8000000 in
set_option maxRecDepth 100000 in
theorem net_checkArcs.calls (k : Nat) (A0 : Option Addr) (c0 : Nat) (l0 : List (S55)) (a1 : Int) (r : Int) (w : World) (hr0 : Kd.C k55 w A0 l0.length l0) (hc0 : l0.length ≤ c0) (h : net_checkArcs.f k l0 a1 = some r) :
  Calls Try.prog 76 #[.slice A0 l0.length c0, .int .i64 a1] w fun e w' => e = .returned (.int .i64 r) ∧ Below w.heap.size w w' := by
 have hu55 := Try.underlying55
 have HR0 := am hr0
 have HC0 := am hc0
 clear hr0 hc0
 have HB := am (Below.refl w.heap.size w)
 have H : (net_checkArcs.l0 k l0 a1 l0 (l0.length : Int) 0) = some r := h
 clear h
 have H' := am H
 clear H
 go_enter Try.func76, Try.ntmps76
 go_wp2
 repeat (go_quiet (fail); try go_wp2)
 go_loopg [9] k (fun kq v9 w' => ∃ (x9_1 : Int), v9 = .int .i64 x9_1 ∧ Aside0 (net_checkArcs.l0 kq l0 a1 l0 (l0.length : Int) x9_1 = some r) ∧ Aside0 (kq ≤ k) ∧ Aside0 (Below w.heap.size w w'))
 case atStart => exact ⟨(0), prs, H', ⟨Nat.le_refl _⟩, ⟨pbg⟩⟩
 clear H'
 obtain ⟨x9_1, rfl, HA, HK1, HB⟩ := hrel
 obtain _ | k1 := gk
 ·exact absurd HA.1 (by simp [net_checkArcs.l0])
 have H := HA.1
 clear HA
 simp only [net_checkArcs.l0] at H
 by_cases c3 : x9_1 < (l0.length : Int)
 rotate_left
 ·rw [if_neg c3] at H
  have c3b0 : decide (x9_1 < (l0.length : Int)) = false := decide_eq_false c3
  clear c3
  obtain rfl := Option.some.inj H
  go_wp2
  repeat (go_quiet (fail); try go_wp2)
  go_ret
  exact ⟨per, pbg⟩
 rw [if_pos c3] at H
 have c3b0 : decide (x9_1 < (l0.length : Int)) = true := decide_eq_true c3
 clear c3
 replace H := ifp H
 obtain ⟨c4, H⟩ := H
 have c4b0 := decide_eq_true c4
 clear c4
 replace H := ifp H
 obtain ⟨c5, H⟩ := H
 have c5b0 := decide_eq_true c5
 clear c5
 have HC6 := am H
 clear H
 obtain ⟨p107, q107, ad107, e107, hx107_0, hx107_1⟩ := bT55 HR0.1 HB.1 x9_1
 cases e107
 go_upto_region 4 with (first | ((with_reducible refine gate_dst (N := 6) rfl ?_); refine box_ev (N := 6) (cs := #[.int .i64 0, .int .i64 0]) (t := 55) ?_; intro gb108 hg w7 hbox hb; have BK108 := am hbox; have GW108 := gwl hg; have GE108 := GW108; replace HB := bsl hb; clear hb hbox hg; obtain ⟨z8_0, z8_1, y8_0, y8_1⟩ := cf2 BK108.1))
 repeat (go_quiet (first | ((with_reducible refine gate_dst (N := 6) rfl ?_); refine box_ev (N := 6) (cs := #[.int .i64 0, .int .i64 0]) (t := 55) ?_; intro gb108 hg w7 hbox hb; have BK108 := am hbox; have GW108 := gwl hg; have GE108 := GW108; replace HB := bsl hb; clear hb hbox hg; obtain ⟨z8_0, z8_1, y8_0, y8_1⟩ := cf2 BK108.1)); go_upto_region 4 with (first | ((with_reducible refine gate_dst (N := 6) rfl ?_); refine box_ev (N := 6) (cs := #[.int .i64 0, .int .i64 0]) (t := 55) ?_; intro gb108 hg w7 hbox hb; have BK108 := am hbox; have GW108 := gwl hg; have GE108 := GW108; replace HB := bsl hb; clear hb hbox hg; obtain ⟨z8_0, z8_1, y8_0, y8_1⟩ := cf2 BK108.1)))
 (try simp only [Act.put, List.setIfInBounds_toArray, List.set_cons_zero, List.set_cons_succ])
 go_cut [14] (fun v14 wc => ∃ (kq : Nat) (x14_5 : Bool), v14 = .bool x14_5 ∧ Aside0 (net_checkArcs.j1 kq l0 a1 x9_1 l0 (l0.length : Int) x9_1 x14_5 ((rd_T55 l0 x9_1).f0) ((rd_T55 l0 x9_1).f1) = some r) ∧ Aside0 (kq ≤ k1) ∧ Aside0 (wc.heap[gb108]? = some (.cells #[.int .i64 ((rd_T55 l0 x9_1).f0), .int .i64 ((rd_T55 l0 x9_1).f1)] 55 (0, 0))) ∧ Aside0 (Below w.heap.size w wc))
 case first =>
  have H := HC6.1
  clear HC6
  by_cases c9 : ((rd_T55 l0 x9_1).f0) < 0
  ·rw [if_pos c9] at H
   have c9b0 : decide (((rd_T55 l0 x9_1).f0) < 0) = true := decide_eq_true c9
   clear c9
   (first | rw [c9b0] | (simp only [i64_w, i32_w]; rw [c9b0]) | skip)
   have H' := am H
   clear H
   obtain ⟨z10_0, z10_1, y10_0, y10_1⟩ := cf2 BK108.1
   go_wp2
   repeat (go_quiet (fail); try go_wp2)
   go_meet
   case rel => exact ⟨_, (true), prs, H', ⟨by have := HK1.1; first | omega | exact Nat.le_refl _⟩, ⟨by (with_reducible repeat (first | refine blk_drewN ?_ _ | refine blk_drew ?_ | refine blk_alloc ?_ _)); exact bp2 (pbk BK108.1)⟩, ⟨pbg⟩⟩
  rw [if_neg c9] at H
  have c9b0 : decide (((rd_T55 l0 x9_1).f0) < 0) = false := decide_eq_false c9
  clear c9
  (first | rw [c9b0] | (simp only [i64_w, i32_w]; rw [c9b0]) | skip)
  have H' := am H
  clear H
  obtain ⟨z11_0, z11_1, y11_0, y11_1⟩ := cf2 BK108.1
  go_wp2
  repeat (go_quiet (fail); try go_wp2)
  go_meet
  case rel => exact ⟨_, (decide (((rd_T55 l0 x9_1).f0) ≥ a1)), prs, H', ⟨by have := HK1.1; first | omega | exact Nat.le_refl _⟩, ⟨by (with_reducible repeat (first | refine blk_drewN ?_ _ | refine blk_drew ?_ | refine blk_alloc ?_ _)); exact bp2 (pbk BK108.1)⟩, ⟨pbg⟩⟩
 clear HC6
 try clear c3 c3b0 c4 c4b0 c5 c5b0 c9 c9b0 z10_0 z10_1 z11_0 z11_1 z8_0 z8_1 y10_0 y10_1 y11_0 y11_1 y8_0 y8_1 hx107_0 hx107_1 p107 q107
 obtain ⟨kq, x14_5, rfl, HA, HJ5, BK108, HB⟩ := hcut
 obtain _ | kj5 := kq
 ·exact absurd HA.1 (by simp [net_checkArcs.j1])
 have H := HA.1
 clear HA
 simp only [net_checkArcs.j1] at H
 by_cases c12 : x14_5 = true
 ·subst c12
  rw [if_pos rfl] at H
  obtain rfl := Option.some.inj H
  go_wp2
  repeat (go_quiet (fail); try go_wp2)
  go_ret
  exact ⟨per, pbg⟩
 replace c12 := Bool.eq_false_iff.mpr c12
 subst c12
 rw [if_neg Bool.false_ne_true] at H
 have HC13 := am H
 clear H
 go_upto_region 6 with (fail)
 repeat (go_quiet (fail); go_upto_region 6 with (fail))
 go_cut [24] (fun v24 wc => ∃ (kq : Nat) (x24_12 : Bool), v24 = .bool x24_12 ∧ Aside0 (net_checkArcs.j2 kq l0 a1 l0 (l0.length : Int) x9_1 x24_12 ((rd_T55 l0 x9_1).f0) ((rd_T55 l0 x9_1).f1) = some r) ∧ Aside0 (kq ≤ kj5) ∧ Aside0 (wc.heap[gb108]? = some (.cells #[.int .i64 ((rd_T55 l0 x9_1).f0), .int .i64 ((rd_T55 l0 x9_1).f1)] 55 (0, 0))) ∧ Aside0 (Below w.heap.size w wc))
 case first =>
  have H := HC13.1
  clear HC13
  by_cases c14 : x9_1 > 0
  rotate_left
  ·rw [if_neg c14] at H
   have c14b0 : decide (0 < x9_1) = false := decide_eq_false c14
   clear c14
   (first | rw [c14b0] | (simp only [i64_w, i32_w]; rw [c14b0]) | skip)
   have H' := am H
   clear H
   go_wp2
   repeat (go_quiet (fail); try go_wp2)
   go_meet
   case rel => exact ⟨_, (false), prs, H', ⟨by have := HK1.1; have := HJ5.1; first | omega | exact Nat.le_refl _⟩, ⟨pbk BK108.1⟩, ⟨pbg⟩⟩
  rw [if_pos c14] at H
  have c14b0 : decide (0 < x9_1) = true := decide_eq_true c14
  clear c14
  (first | rw [c14b0] | (simp only [i64_w, i32_w]; rw [c14b0]) | skip)
  obtain ⟨ji15, hji15⟩ : ∃ j_ : Int, (wrap64 (x9_1 - 1)) = j_ := ⟨_, rfl⟩
  replace H : (if 0 ≤ (ji15) then (if (ji15) < (l0.length : Int) then (net_checkArcs.j2 kj5 l0 a1 l0 (l0.length : Int) x9_1 (decide (((rd_T55 l0 (ji15)).f0) ≥ ((rd_T55 l0 x9_1).f0))) ((rd_T55 l0 x9_1).f0) ((rd_T55 l0 x9_1).f1)) else (none)) else (none)) = some r := by first | (rw [hji15] at H; exact H) | (simp only [hji15] at H ⊢; exact H)
  have hji15w : (IntKind.i64.wrap (x9_1 - 1)) = ji15 := (i64_w _).trans hji15
  replace H := ifp H
  obtain ⟨c16, H⟩ := H
  have c16b0 := decide_eq_true c16
  clear c16
  replace H := ifp H
  obtain ⟨c17, H⟩ := H
  have c17b0 := decide_eq_true c17
  clear c17
  have H' := am H
  clear H
  obtain ⟨p109, q109, ad109, e109, hx109_0, hx109_1⟩ := bT55 HR0.1 HB.1 (ji15)
  obtain rfl : ad107 = ad109 := (by injection e109)
  obtain ⟨z18_0, z18_1, y18_0, y18_1⟩ := cf2 BK108.1
  go_wp2
  repeat (go_quiet (fail); try go_wp2)
  go_meet
  case rel => exact ⟨_, (decide (((rd_T55 l0 (ji15)).f0) ≥ ((rd_T55 l0 x9_1).f0))), (by first | rfl | (simp; done) | (simp only [← hji15] <;> (first | rfl | simp)) | (simp [*]; done)), H', ⟨by have := HK1.1; have := HJ5.1; first | omega | exact Nat.le_refl _⟩, ⟨pbk BK108.1⟩, ⟨pbg⟩⟩
 clear HC13
 try clear c3 c3b0 c4 c4b0 c5 c5b0 c9 c9b0 c12 c14 c14b0 c16 c16b0 c17 c17b0 z10_0 z10_1 z11_0 z11_1 z18_0 z18_1 z8_0 z8_1 y10_0 y10_1 y11_0 y11_1 y18_0 y18_1 y8_0 y8_1 hx107_0 hx107_1 hx109_0 hx109_1 p107 p109 q107 q109
 obtain ⟨kq, x24_12, rfl, HA, HJ12, BK108, HB⟩ := hcut
 obtain _ | kj12 := kq
 ·exact absurd HA.1 (by simp [net_checkArcs.j2])
 have H := HA.1
 clear HA
 simp only [net_checkArcs.j2] at H
 by_cases c19 : x24_12 = true
 ·subst c19
  rw [if_pos rfl] at H
  obtain rfl := Option.some.inj H
  go_wp2
  repeat (go_quiet (fail); try go_wp2)
  go_ret
  exact ⟨per, pbg⟩
 replace c19 := Bool.eq_false_iff.mpr c19
 subst c19
 rw [if_neg Bool.false_ne_true] at H
 by_cases c20 : ((rd_T55 l0 x9_1).f1) < 1
 ·rw [if_pos c20] at H
  have c20b0 : decide (((rd_T55 l0 x9_1).f1) < 1) = true := decide_eq_true c20
  clear c20
  obtain rfl := Option.some.inj H
  obtain ⟨z21_0, z21_1, y21_0, y21_1⟩ := cf2 BK108.1
  go_wp2
  repeat (go_quiet (fail); try go_wp2)
  go_ret
  exact ⟨per, pbg⟩
 rw [if_neg c20] at H
 have c20b0 : decide (((rd_T55 l0 x9_1).f1) < 1) = false := decide_eq_false c20
 clear c20
 by_cases c22 : ((rd_T55 l0 x9_1).f1) > 99
 ·rw [if_pos c22] at H
  have c22b0 : decide (99 < ((rd_T55 l0 x9_1).f1)) = true := decide_eq_true c22
  clear c22
  obtain rfl := Option.some.inj H
  obtain ⟨z23_0, z23_1, y23_0, y23_1⟩ := cf2 BK108.1
  go_wp2
  repeat (go_quiet (fail); try go_wp2)
  go_ret
  exact ⟨per, pbg⟩
 rw [if_neg c22] at H
 have c22b0 : decide (99 < ((rd_T55 l0 x9_1).f1)) = false := decide_eq_false c22
 clear c22
 have H' := am H
 clear H
 obtain ⟨z24_0, z24_1, y24_0, y24_1⟩ := cf2 BK108.1
 go_wp2
 repeat (go_quiet (fail); try go_wp2)
 go_roundg kj12
 case measure => have := HK1.1; have := HJ5.1; have := HJ12.1; omega
 case rel => exact ⟨(wrap64 (x9_1 + 1)), prs, H', ⟨by have := HK1.1; have := HJ5.1; have := HJ12.1; omega⟩, ⟨pbg⟩⟩

/-! ### net_checkTrans: function 62 -/
mutual
def net_checkTrans.j0 : Nat → Int → Bool → ByteArray → List (S55) → List (S55) → List (S55) → Int → Option (Int)
 | 0, _, _, _, _, _, _, _ => none
 | k + 1, x1, x15, x111000, x111001, x111002, x111003, x111004 => if x15 = true then (some 1) else ((some (([x111001, x111002, x111003] : List (List (S55))) : List (List (S55)))).bind fun y111 => (net_checkTrans.l0 k x1 y111 (y111.length : Int) 0))
def net_checkTrans.l0 : Nat → Int → List (List (S55)) → Int → Int → Option (Int)
 | 0, _, _, _, _ => none
 | k + 1, x1, x22, x23, x24 => if x24 < x23 then (if 0 ≤ x24 then (if x24 < (x22.length : Int) then ((net_checkArcs.f k (rd_L4 x22 x24) x1).bind fun t115 => (if t115 = 0 then (net_checkTrans.l0 k x1 x22 x23 (wrap64 (x24 + 1))) else (some t115))) else (none)) else (none)) else (some 0)
end
def net_checkTrans.f (k : Nat) (a0_0 : ByteArray) (l0_1 : List (S55)) (l0_2 : List (S55)) (l0_3 : List (S55)) (a0_4 : Int) (a1 : Int) : Option (Int) := if a0_4 < 0 then (net_checkTrans.j0 k a1 true a0_0 l0_1 l0_2 l0_3 a0_4) else (net_checkTrans.j0 k a1 (decide (a0_4 > 9)) a0_0 l0_1 l0_2 l0_3 a0_4)
theorem net_checkTrans.mono_l : ∀ k, M7 net_checkTrans.j0 k ∧ M4 net_checkTrans.l0 k
 | 0 => ⟨fun _ _ _ _ _ _ _ r h => by simp [net_checkTrans.j0] at h, fun _ _ _ _ r h => by simp [net_checkTrans.l0] at h⟩
 | k + 1 => by
  obtain ⟨ih0, ih1⟩ := net_checkTrans.mono_l k
  refine ⟨?_, ?_⟩ <;> dsimp only [M4, M7] <;> intros <;> (first | unfold net_checkTrans.j0 | unfold net_checkTrans.l0) <;> repeat' first | (with_reducible first | apply ih0 | apply ih1 | apply net_checkArcs.mono | apply lr | apply ln | apply li | refine lb ?_ fun _ => ?_)
theorem net_checkTrans.mono : ∀ a0 a1 a2 a3 a4 a5 k, LeO (net_checkTrans.f k a0 a1 a2 a3 a4 a5) (net_checkTrans.f (k + 1) a0 a1 a2 a3 a4 a5) := by
 intro a0 a1 a2 a3 a4 a5 k
 obtain ⟨ih0, ih1⟩ := net_checkTrans.mono_l k
 unfold net_checkTrans.f
 repeat' first | (with_reducible first | apply ih0 | apply ih1 | apply net_checkArcs.mono | apply lr | apply ln | apply li | refine lb ?_ fun _ => ?_)
set_option maxHeartbeats 8000000 in
set_option maxRecDepth 100000 in
theorem net_checkTrans.calls (k : Nat) (a0_0 : ByteArray) (P0_1_ : Nat → Prop) (A0_1 : Option Addr) (c0_1 : Nat) (l0_1 : List (S55)) (P0_2_ : Nat → Prop) (A0_2 : Option Addr) (c0_2 : Nat) (l0_2 : List (S55)) (P0_3_ : Nat → Prop) (A0_3 : Option Addr) (c0_3 : Nat) (l0_3 : List (S55)) (a0_4 : Int) (a1 : Int) (r : Int) (w : World) (hs0_1 : Kd.V k55 55 w w.heap.size (fun k_ => P0_1_ k_) (.slice A0_1 l0_1.length c0_1) l0_1) (hs0_2 : Kd.V k55 55 w w.heap.size (fun k_ => P0_2_ k_) (.slice A0_2 l0_2.length c0_2) l0_2) (hs0_3 : Kd.V k55 55 w w.heap.size (fun k_ => P0_3_ k_) (.slice A0_3 l0_3.length c0_3) l0_3) (h : net_checkTrans.f k a0_0 l0_1 l0_2 l0_3 a0_4 a1 = some r) :
  Calls Try.prog 62 #[.agg #[.string a0_0, .slice A0_1 l0_1.length c0_1, .slice A0_2 l0_2.length c0_2, .slice A0_3 l0_3.length c0_3, .int .i64 a0_4], .int .i64 a1] w fun e w' => e = .returned (.int .i64 r) ∧ Below w.heap.size w w' := by
 have hu48 := Try.underlying48
 have HO0_1 := am (show Kd.V k55 55 w w.heap.size (fun k_ => ((P0_1_ k_ ∨ P0_2_ k_ ∨ P0_3_ k_) ∨ w.heap.size ≤ k_)) (.slice A0_1 l0_1.length c0_1) l0_1 from Kd.V_mono hs0_1 (fun k_ hk => .inl (.inl hk)))
 have HO0_2 := am (show Kd.V k55 55 w w.heap.size (fun k_ => ((P0_1_ k_ ∨ P0_2_ k_ ∨ P0_3_ k_) ∨ w.heap.size ≤ k_)) (.slice A0_2 l0_2.length c0_2) l0_2 from Kd.V_mono hs0_2 (fun k_ hk => .inl (.inr (.inl hk))))
 have HO0_3 := am (show Kd.V k55 55 w w.heap.size (fun k_ => ((P0_1_ k_ ∨ P0_2_ k_ ∨ P0_3_ k_) ∨ w.heap.size ≤ k_)) (.slice A0_3 l0_3.length c0_3) l0_3 from Kd.V_mono hs0_3 (fun k_ hk => .inl (.inr (.inr hk))))
 have HB := am (Below.refl w.heap.size w)
 have H : (if a0_4 < 0 then (net_checkTrans.j0 k a1 true a0_0 l0_1 l0_2 l0_3 a0_4) else (net_checkTrans.j0 k a1 (decide (a0_4 > 9)) a0_0 l0_1 l0_2 l0_3 a0_4)) = some r := h
 clear h
 have HC3 := am H
 clear H
 go_enter Try.func62, Try.ntmps62
 go_upto_region 1 with (first | ((with_reducible refine gate_dst (N := 2) rfl ?_); refine box_ev (N := 2) (cs := #[.string a0_0, .slice A0_1 l0_1.length c0_1, .slice A0_2 l0_2.length c0_2, .slice A0_3 l0_3.length c0_3, .int .i64 a0_4]) (t := 48) ?_; intro gb110 hg w4 hbox hb; have BK110 := am hbox; have GW110 := gwl hg; have GE110 := GW110; replace HO0_1 := vbb HO0_1 hg hb; replace HO0_2 := vbb HO0_2 hg hb; replace HO0_3 := vbb HO0_3 hg hb; replace HB := bsl hb; clear hb hbox hg))
 (try simp only [Act.put, List.setIfInBounds_toArray, List.set_cons_zero, List.set_cons_succ])
 go_cut [15] (fun v15 wc => ∃ (kq : Nat) (x15_2 : Bool), v15 = .bool x15_2 ∧ Aside0 (net_checkTrans.j0 kq a1 x15_2 a0_0 l0_1 l0_2 l0_3 a0_4 = some r) ∧ Aside0 (kq ≤ k) ∧ Aside0 (Kd.V k55 55 wc w.heap.size (fun k_ => ((P0_1_ k_ ∨ P0_2_ k_ ∨ P0_3_ k_) ∨ w.heap.size ≤ k_) ∧ k_ ≠ gb110) (.slice A0_1 l0_1.length c0_1) l0_1) ∧ Aside0 (Kd.V k55 55 wc w.heap.size (fun k_ => ((P0_1_ k_ ∨ P0_2_ k_ ∨ P0_3_ k_) ∨ w.heap.size ≤ k_) ∧ k_ ≠ gb110) (.slice A0_2 l0_2.length c0_2) l0_2) ∧ Aside0 (Kd.V k55 55 wc w.heap.size (fun k_ => ((P0_1_ k_ ∨ P0_2_ k_ ∨ P0_3_ k_) ∨ w.heap.size ≤ k_) ∧ k_ ≠ gb110) (.slice A0_3 l0_3.length c0_3) l0_3) ∧ Aside0 (wc.heap[gb110]? = some (.cells #[.string a0_0, (.slice A0_1 l0_1.length c0_1), (.slice A0_2 l0_2.length c0_2), (.slice A0_3 l0_3.length c0_3), .int .i64 a0_4] 48 (0, 0))) ∧ Aside0 (Below w.heap.size w wc))
 case first =>
  have H := HC3.1
  clear HC3
  by_cases c5 : a0_4 < 0
  ·rw [if_pos c5] at H
   have c5b0 : decide (a0_4 < 0) = true := decide_eq_true c5
   clear c5
   (first | rw [c5b0] | (simp only [i64_w, i32_w]; rw [c5b0]) | skip)
   have H' := am H
   clear H
   obtain ⟨z6_0, z6_1, z6_2, z6_3, z6_4, y6_0, y6_1, y6_2, y6_3, y6_4⟩ := cf5 BK110.1
   go_wp2
   go_meet
   case rel => exact ⟨_, (true), prs, H', ⟨by first | omega | exact Nat.le_refl _⟩, ⟨pkv HO0_1.1⟩, ⟨pkv HO0_2.1⟩, ⟨pkv HO0_3.1⟩, ⟨pbk BK110.1⟩, ⟨pbg⟩⟩
  rw [if_neg c5] at H
  have c5b0 : decide (a0_4 < 0) = false := decide_eq_false c5
  clear c5
  (first | rw [c5b0] | (simp only [i64_w, i32_w]; rw [c5b0]) | skip)
  have H' := am H
  clear H
  obtain ⟨z7_0, z7_1, z7_2, z7_3, z7_4, y7_0, y7_1, y7_2, y7_3, y7_4⟩ := cf5 BK110.1
  go_wp2
  go_meet
  case rel => exact ⟨_, (decide (a0_4 > 9)), prs, H', ⟨by first | omega | exact Nat.le_refl _⟩, ⟨pkv HO0_1.1⟩, ⟨pkv HO0_2.1⟩, ⟨pkv HO0_3.1⟩, ⟨pbk BK110.1⟩, ⟨pbg⟩⟩
 clear HC3
 try clear c5 c5b0 z6_0 z6_1 z6_2 z6_3 z6_4 z7_0 z7_1 z7_2 z7_3 z7_4 y6_0 y6_1 y6_2 y6_3 y6_4 y7_0 y7_1 y7_2 y7_3 y7_4
 obtain ⟨kq, x15_2, rfl, HA, HJ2, HO_111001, HO_111002, HO_111003, BK110, HB⟩ := hcut
 obtain _ | kj2 := kq
 ·exact absurd HA.1 (by simp [net_checkTrans.j0])
 have H := HA.1
 clear HA
 simp only [net_checkTrans.j0] at H
 by_cases c8 : x15_2 = true
 ·subst c8
  rw [if_pos rfl] at H
  obtain rfl := Option.some.inj H
  go_wp2
  go_ret
  exact ⟨per, pbg⟩
 replace c8 := Bool.eq_false_iff.mpr c8
 subst c8
 rw [if_neg Bool.false_ne_true] at H
 obtain ⟨y111, hy111⟩ : ∃ y_ : List (List (S55)), y_ = (([l0_1, l0_2, l0_3] : List (List (S55)))) := ⟨_, rfl⟩
 replace H : (net_checkTrans.l0 kj2 a1 y111 (y111.length : Int) 0) = some r := hrp hy111 H
 have Ny111 := am hy111
 clear hy111
 have H' := am H
 clear H
 obtain ⟨z9_0, z9_1, z9_2, z9_3, z9_4, y9_0, y9_1, y9_2, y9_3, y9_4⟩ := cf5 BK110.1
 go_wp2_with (first | ((with_reducible refine gate_dst (N := 22) rfl ?_); refine Kd.N_lit (Kd.slice 55 k55) _ 46 ?hg (N' := 22) ?hd (xs := ([l0_1, l0_2, l0_3] : List (List (S55)))) (inner := [.slice A0_1 l0_1.length c0_1, .slice A0_2 l0_2.length c0_2, .slice A0_3 l0_3.length c0_3]) (ok := (fun k_ => ((P0_1_ k_ ∨ P0_2_ k_ ∨ P0_3_ k_) ∨ w.heap.size ≤ k_) ∧ k_ ≠ gb110)) (okp := (fun k_ => ((P0_1_ k_ ∨ P0_2_ k_ ∨ P0_3_ k_) ∨ w.heap.size ≤ k_) ∧ k_ ≠ gb110)) ?hr ?hp (fun _ hk => hk) ((show ∀ k_, wc.heap.size ≤ k_ → (fun k_ => ((P0_1_ k_ ∨ P0_2_ k_ ∨ P0_3_ k_) ∨ w.heap.size ≤ k_) ∧ k_ ≠ gb110) k_ from fun k_ hk => ⟨(.inr (Nat.le_trans (below_size pbg) hk)), Kd.freshB (g := gb110) (o := .cells #[.string a0_0, .slice A0_1 l0_1.length c0_1, .slice A0_2 l0_2.length c0_2, .slice A0_3 l0_3.length c0_3, .int .i64 a0_4] 48 (0, 0)) (by exact pbk BK110.1) k_ hk⟩) _ (Nat.le_refl _)) (Below.refl _ _) (Nat.le_refl _) (by simp) ?_; (case hd => rfl); (case hg => rfl); (case hr => first | (go_simp; done) | (go_simp; rfl)); (case hp => exact (Reps.one (show Kd.FK (Kd.slice 55 k55) _ _ l0_1 [.slice A0_1 l0_1.length c0_1] from (Kd.FK_slice_mk (Kd.V_reads' (Kd.V_mono (ok' := (fun k_ => ((P0_1_ k_ ∨ P0_2_ k_ ∨ P0_3_ k_) ∨ w.heap.size ≤ k_) ∧ k_ ≠ gb110)) (HO_111001.1) (fun k_ hk => ⟨hk.1, hk.2⟩))).2.1 (Kd.V_F (Kd.V_mono (ok' := (fun k_ => ((P0_1_ k_ ∨ P0_2_ k_ ∨ P0_3_ k_) ∨ w.heap.size ≤ k_) ∧ k_ ≠ gb110)) (HO_111001.1) (fun k_ hk => ⟨hk.1, hk.2⟩))))) (Reps.one (show Kd.FK (Kd.slice 55 k55) _ _ l0_2 [.slice A0_2 l0_2.length c0_2] from (Kd.FK_slice_mk (Kd.V_reads' (Kd.V_mono (ok' := (fun k_ => ((P0_1_ k_ ∨ P0_2_ k_ ∨ P0_3_ k_) ∨ w.heap.size ≤ k_) ∧ k_ ≠ gb110)) (HO_111002.1) (fun k_ hk => ⟨hk.1, hk.2⟩))).2.1 (Kd.V_F (Kd.V_mono (ok' := (fun k_ => ((P0_1_ k_ ∨ P0_2_ k_ ∨ P0_3_ k_) ∨ w.heap.size ≤ k_) ∧ k_ ≠ gb110)) (HO_111002.1) (fun k_ hk => ⟨hk.1, hk.2⟩))))) (Reps.one (show Kd.FK (Kd.slice 55 k55) _ _ l0_3 [.slice A0_3 l0_3.length c0_3] from (Kd.FK_slice_mk (Kd.V_reads' (Kd.V_mono (ok' := (fun k_ => ((P0_1_ k_ ∨ P0_2_ k_ ∨ P0_3_ k_) ∨ w.heap.size ≤ k_) ∧ k_ ≠ gb110)) (HO_111003.1) (fun k_ hk => ⟨hk.1, hk.2⟩))).2.1 (Kd.V_F (Kd.V_mono (ok' := (fun k_ => ((P0_1_ k_ ∨ P0_2_ k_ ∨ P0_3_ k_) ∨ w.heap.size ≤ k_) ∧ k_ ≠ gb110)) (HO_111003.1) (fun k_ hk => ⟨hk.1, hk.2⟩))))) (Reps.none _ _))))); intro v112 w10 ho11 hb hg_ hnew_; clear hg_ hnew_; (first | rw [← Ny111.1] at ho11 | (simp only [Int.reduceToNat] at ho11; rw [← Ny111.1] at ho11)); have HO113 := am (Kd.N_lower ho11 (below_size pbg)); replace HO_111001 := am (Kd.V_elder' (pkv HO_111001.1) (Kd.N_base ho11) hb); replace HO_111002 := am (Kd.V_elder' (pkv HO_111002.1) (Kd.N_base ho11) hb); replace HO_111003 := am (Kd.V_elder' (pkv HO_111003.1) (Kd.N_base ho11) hb); replace BK110 := bbh BK110 hb; replace HB := bst hb; clear hb ho11; obtain ⟨Ao12, co12, eo12⟩ := Kd.N_slice HO113.1; subst eo12))
 go_loopg [24] kj2 (fun kq v24 w' => ∃ (x24_2 : Int), v24 = .int .i64 x24_2 ∧ Aside0 (net_checkTrans.l0 kq a1 y111 (y111.length : Int) x24_2 = some r) ∧ Aside0 (kq ≤ kj2) ∧ Aside0 (Kd.N (Kd.slice 55 k55) 46 w' w.heap.size (fun k_ => ((P0_1_ k_ ∨ P0_2_ k_ ∨ P0_3_ k_) ∨ w.heap.size ≤ k_) ∧ k_ ≠ gb110) (.slice Ao12 y111.length co12) y111) ∧ Aside0 (Kd.V k55 55 w' w.heap.size (fun k_ => ((P0_1_ k_ ∨ P0_2_ k_ ∨ P0_3_ k_) ∨ w.heap.size ≤ k_) ∧ some k_ ≠ ((.slice Ao12 y111.length co12) : Value).ownBlock ∧ k_ ≠ gb110) (.slice A0_1 l0_1.length c0_1) l0_1) ∧ Aside0 (Kd.V k55 55 w' w.heap.size (fun k_ => ((P0_1_ k_ ∨ P0_2_ k_ ∨ P0_3_ k_) ∨ w.heap.size ≤ k_) ∧ some k_ ≠ ((.slice Ao12 y111.length co12) : Value).ownBlock ∧ k_ ≠ gb110) (.slice A0_2 l0_2.length c0_2) l0_2) ∧ Aside0 (Kd.V k55 55 w' w.heap.size (fun k_ => ((P0_1_ k_ ∨ P0_2_ k_ ∨ P0_3_ k_) ∨ w.heap.size ≤ k_) ∧ some k_ ≠ ((.slice Ao12 y111.length co12) : Value).ownBlock ∧ k_ ≠ gb110) (.slice A0_3 l0_3.length c0_3) l0_3) ∧ Aside0 (w'.heap[gb110]? = some (.cells #[.string a0_0, (.slice A0_1 l0_1.length c0_1), (.slice A0_2 l0_2.length c0_2), (.slice A0_3 l0_3.length c0_3), .int .i64 a0_4] 48 (0, 0))) ∧ Aside0 (Below w.heap.size w w'))
 case atStart => exact ⟨(0), prs, H', ⟨Nat.le_refl _⟩, ⟨pkn HO113.1⟩, ⟨by (with_reducible repeat (first | apply Kd.V_alloc | apply Kd.V_drewN | apply Kd.V_drew)); exact Kd.V_mono HO_111001.1 (fun _ hk => ⟨hk.1.1, ⟨hk.2, hk.1.2⟩⟩)⟩, ⟨by (with_reducible repeat (first | apply Kd.V_alloc | apply Kd.V_drewN | apply Kd.V_drew)); exact Kd.V_mono HO_111002.1 (fun _ hk => ⟨hk.1.1, ⟨hk.2, hk.1.2⟩⟩)⟩, ⟨by (with_reducible repeat (first | apply Kd.V_alloc | apply Kd.V_drewN | apply Kd.V_drew)); exact Kd.V_mono HO_111003.1 (fun _ hk => ⟨hk.1.1, ⟨hk.2, hk.1.2⟩⟩)⟩, ⟨pbk BK110.1⟩, ⟨pbg⟩⟩
 clear H'
 try clear c5 c5b0 c8 z6_0 z6_1 z6_2 z6_3 z6_4 z7_0 z7_1 z7_2 z7_3 z7_4 z9_0 z9_1 z9_2 z9_3 z9_4 y6_0 y6_1 y6_2 y6_3 y6_4 y7_0 y7_1 y7_2 y7_3 y7_4 y9_0 y9_1 y9_2 y9_3 y9_4
 obtain ⟨x24_2, rfl, HA, HK2, HO_22, HO_111001, HO_111002, HO_111003, BK110, HB⟩ := hrel
 obtain _ | k2 := gk
 ·exact absurd HA.1 (by simp [net_checkTrans.l0])
 have H := HA.1
 clear HA
 simp only [net_checkTrans.l0] at H
 by_cases c13 : x24_2 < (y111.length : Int)
 rotate_left
 ·rw [if_neg c13] at H
  have c13b0 : decide (x24_2 < (y111.length : Int)) = false := decide_eq_false c13
  clear c13
  obtain rfl := Option.some.inj H
  go_wp2
  go_ret
  exact ⟨per, pbg⟩
 rw [if_pos c13] at H
 have c13b0 : decide (x24_2 < (y111.length : Int)) = true := decide_eq_true c13
 clear c13
 replace H := ifp H
 obtain ⟨c14, H⟩ := H
 have c14b0 := decide_eq_true c14
 clear c14
 replace H := ifp H
 obtain ⟨c15, H⟩ := H
 have c15b0 := decide_eq_true c15
 clear c15
 replace H := bnd H
 obtain ⟨t115, A16, H⟩ := H
 (try dsimp only at H)
 by_cases c17 : t115 = 0
 rotate_left
 ·rw [if_neg c17] at H
  have c17b0 : (t115 == 0) = false := beq_eq_false_iff_ne.mpr c17
  have c17b1 : (t115 != 0) = true := bne_iff_ne.mpr c17
  obtain rfl := Option.some.inj H
  have p114 : 0 ≤ (x24_2 : Int) := dq
  have q114 : x24_2 < (y111.length : Int) := dq
  obtain ⟨ad114, A114_0, c114_0, e114, hx114_0, hl114_0, hi114_0⟩ := at_L4 (Kd.N_reads' HO_22.1).2.2 x24_2 p114 q114
  cases e114
  obtain ⟨ce114, hce114, hMe114, hcc114⟩ := Kd.N_get HO_22.1 [] x24_2 p114 (by first | exact q114 | exact dq | (have e_ := (Kd.N_reads' HO_22.1).1; omega))
  obtain ⟨ua114_0, uc114_0, rfl, ul114_0, ge114_0⟩ := Kd.FK_slice_open hMe114
  have hv114_0 := hcc114 0 _ rfl
  rw [Nat.add_zero, show ((Kd.slice 55 k55)).sz = 1 from rfl, Nat.mul_one] at hv114_0
  replace hv114_0 := Option.some.inj (hv114_0.symm.trans hx114_0)
  injection hv114_0 with hva_ hvn_ hvc_
  rw [hva_] at ge114_0
  rw [hvc_] at ul114_0
  have HL114_0 := am (show Kd.V k55 55 _ w.heap.size _ _ (rd_L4 y111 x24_2) from Kd.V_mk ul114_0 ge114_0)
  clear hva_ hvn_ hvc_ ge114_0 ul114_0 hcc114 hce114
  have HR114_0 := am hi114_0
  have HC114_0 := am hl114_0
  clear hi114_0 hl114_0
  replace p114 := eq_true p114
  replace q114 := eq_true q114
  go_wp2_with (first | ((with_reducible refine gate_callee (f := 76) rfl ?_); refine gC 30 Try.func76 _ (net_checkArcs.calls k2 _ _ (rd_L4 y111 x24_2) a1 t115 _ ?side1 ?side2 A16.1) ?_; (case side1 => repeat (first | exact (by repeat (first | (with_reducible exact HR114_0.1) | (with_reducible refine Kd.C_alloc ?_ _) | (with_reducible refine Kd.C_drewN ?_ _) | (with_reducible refine Kd.C_drew ?_) | exact HR114_0.1)) | (with_reducible refine Kd.C_alloc ?_ _) | (with_reducible refine Kd.C_drewN ?_ _) | (with_reducible refine Kd.C_drew ?_))); (case side2 => exact HC114_0.1); rintro e w19 ⟨rfl, hb⟩; refine ⟨_, rfl, ?_⟩; replace HO_22 := nbw HO_22 hb; replace HO_111001 := vbw HO_111001 hb; replace HO_111002 := vbw HO_111002 hb; replace HO_111003 := vbw HO_111003 hb; replace HL114_0 := vbw HL114_0 hb; replace BK110 := bbh BK110 hb; replace HR114_0 := cbb HR114_0 hb; replace HB := bst hb; (try clear hb)))
  go_ret
  exact ⟨per, pbg⟩
 rw [if_pos c17] at H
 have c17b0 : (t115 == 0) = true := beq_iff_eq.mpr c17
 have c17b1 : (t115 != 0) = false := bne_eq_false_iff_eq.mpr c17
 clear c17
 have H' := am H
 clear H
 have p114 : 0 ≤ (x24_2 : Int) := dq
 have q114 : x24_2 < (y111.length : Int) := dq
 obtain ⟨ad114, A114_0, c114_0, e114, hx114_0, hl114_0, hi114_0⟩ := at_L4 (Kd.N_reads' HO_22.1).2.2 x24_2 p114 q114
 cases e114
 obtain ⟨ce114, hce114, hMe114, hcc114⟩ := Kd.N_get HO_22.1 [] x24_2 p114 (by first | exact q114 | exact dq | (have e_ := (Kd.N_reads' HO_22.1).1; omega))
 obtain ⟨ua114_0, uc114_0, rfl, ul114_0, ge114_0⟩ := Kd.FK_slice_open hMe114
 have hv114_0 := hcc114 0 _ rfl
 rw [Nat.add_zero, show ((Kd.slice 55 k55)).sz = 1 from rfl, Nat.mul_one] at hv114_0
 replace hv114_0 := Option.some.inj (hv114_0.symm.trans hx114_0)
 injection hv114_0 with hva_ hvn_ hvc_
 rw [hva_] at ge114_0
 rw [hvc_] at ul114_0
 have HL114_0 := am (show Kd.V k55 55 _ w.heap.size _ _ (rd_L4 y111 x24_2) from Kd.V_mk ul114_0 ge114_0)
 clear hva_ hvn_ hvc_ ge114_0 ul114_0 hcc114 hce114
 have HR114_0 := am hi114_0
 have HC114_0 := am hl114_0
 clear hi114_0 hl114_0
 replace p114 := eq_true p114
 replace q114 := eq_true q114
 go_wp2_with (first | ((with_reducible refine gate_callee (f := 76) rfl ?_); refine gC 30 Try.func76 _ (net_checkArcs.calls k2 _ _ (rd_L4 y111 x24_2) a1 t115 _ ?side1 ?side2 A16.1) ?_; (case side1 => repeat (first | exact (by repeat (first | (with_reducible exact HR114_0.1) | (with_reducible refine Kd.C_alloc ?_ _) | (with_reducible refine Kd.C_drewN ?_ _) | (with_reducible refine Kd.C_drew ?_) | exact HR114_0.1)) | (with_reducible refine Kd.C_alloc ?_ _) | (with_reducible refine Kd.C_drewN ?_ _) | (with_reducible refine Kd.C_drew ?_))); (case side2 => exact HC114_0.1); rintro e w18 ⟨rfl, hb⟩; refine ⟨_, rfl, ?_⟩; replace HO_22 := nbw HO_22 hb; replace HO_111001 := vbw HO_111001 hb; replace HO_111002 := vbw HO_111002 hb; replace HO_111003 := vbw HO_111003 hb; replace HL114_0 := vbw HL114_0 hb; replace BK110 := bbh BK110 hb; replace HR114_0 := cbb HR114_0 hb; replace HB := bst hb; (try clear hb)))
 go_roundg k2
 case measure => have := HJ2.1; have := HK2.1; omega
 case rel => exact ⟨(wrap64 (x24_2 + 1)), prs, H', ⟨by have := HJ2.1; have := HK2.1; omega⟩, ⟨pkn HO_22.1⟩, ⟨pkv HO_111001.1⟩, ⟨pkv HO_111002.1⟩, ⟨pkv HO_111003.1⟩, ⟨pbk BK110.1⟩, ⟨pbg⟩⟩

/-! ### net_weight: function 71 -/
def net_weight.l0 : Nat → Int → List (S55) → Int → Int → Option (Int)
 | 0, _, _, _, _ => none
 | k + 1, x1, x7, x8, x9 => if x9 < x8 then (if 0 ≤ x9 then (if x9 < (x7.length : Int) then (if ((rd_T55 x7 x9).f0) = x1 then (some ((rd_T55 x7 x9).f1)) else (net_weight.l0 k x1 x7 x8 (wrap64 (x9 + 1)))) else (none)) else (none)) else (some 0)
def net_weight.f (k : Nat) (l0 : List (S55)) (a1 : Int) : Option (Int) := net_weight.l0 k a1 l0 (l0.length : Int) 0
theorem net_weight.mono_l : ∀ k, M4 net_weight.l0 k
 | 0 => fun _ _ _ _ r h => by simp [net_weight.l0] at h
 | k + 1 => by
  have ih0 := net_weight.mono_l k
  ·intro y0 y1 y2 y3
   unfold net_weight.l0
   repeat' first | (with_reducible first | apply ih0 | apply lr | apply ln | apply li | refine lb ?_ fun _ => ?_)
theorem net_weight.mono : ∀ a0 a1 k, LeO (net_weight.f k a0 a1) (net_weight.f (k + 1) a0 a1) := by
 intro a0 a1 k
 have ih0 := net_weight.mono_l k
 unfold net_weight.f
 repeat' first | (with_reducible first | apply ih0 | apply lr | apply ln | apply li | refine lb ?_ fun _ => ?_)
set_option maxHeartbeats 8000000 in
set_option maxRecDepth 100000 in
theorem net_weight.calls (k : Nat) (A0 : Option Addr) (c0 : Nat) (l0 : List (S55)) (a1 : Int) (r : Int) (w : World) (hr0 : Kd.C k55 w A0 l0.length l0) (hc0 : l0.length ≤ c0) (h : net_weight.f k l0 a1 = some r) :
  Calls Try.prog 71 #[.slice A0 l0.length c0, .int .i64 a1] w fun e w' => e = .returned (.int .i64 r) ∧ Below w.heap.size w w' := by
 have hu55 := Try.underlying55
 have HR0 := am hr0
 have HC0 := am hc0
 clear hr0 hc0
 have HB := am (Below.refl w.heap.size w)
 have H : (net_weight.l0 k a1 l0 (l0.length : Int) 0) = some r := h
 clear h
 have H' := am H
 clear H
 go_enter Try.func71, Try.ntmps71
 go_wp2
 go_loopg [9] k (fun kq v9 w' => ∃ (x9_1 : Int), v9 = .int .i64 x9_1 ∧ Aside0 (net_weight.l0 kq a1 l0 (l0.length : Int) x9_1 = some r) ∧ Aside0 (kq ≤ k) ∧ Aside0 (Below w.heap.size w w'))
 case atStart => exact ⟨(0), prs, H', ⟨Nat.le_refl _⟩, ⟨pbg⟩⟩
 clear H'
 obtain ⟨x9_1, rfl, HA, HK1, HB⟩ := hrel
 obtain _ | k1 := gk
 ·exact absurd HA.1 (by simp [net_weight.l0])
 have H := HA.1
 clear HA
 simp only [net_weight.l0] at H
 by_cases c3 : x9_1 < (l0.length : Int)
 rotate_left
 ·rw [if_neg c3] at H
  have c3b0 : decide (x9_1 < (l0.length : Int)) = false := decide_eq_false c3
  clear c3
  obtain rfl := Option.some.inj H
  go_wp2
  go_ret
  exact ⟨per, pbg⟩
 rw [if_pos c3] at H
 have c3b0 : decide (x9_1 < (l0.length : Int)) = true := decide_eq_true c3
 clear c3
 replace H := ifp H
 obtain ⟨c4, H⟩ := H
 have c4b0 := decide_eq_true c4
 clear c4
 replace H := ifp H
 obtain ⟨c5, H⟩ := H
 have c5b0 := decide_eq_true c5
 clear c5
 by_cases c6 : ((rd_T55 l0 x9_1).f0) = a1
 ·rw [if_pos c6] at H
  have c6b0 : (((rd_T55 l0 x9_1).f0) == a1) = true := beq_iff_eq.mpr c6
  have c6b1 : (((rd_T55 l0 x9_1).f0) != a1) = false := bne_eq_false_iff_eq.mpr c6
  clear c6
  obtain rfl := Option.some.inj H
  obtain ⟨p119, q119, ad119, e119, hx119_0, hx119_1⟩ := bT55 HR0.1 HB.1 x9_1
  cases e119
  go_wp2_with (first | ((with_reducible refine gate_dst (N := 6) rfl ?_); refine box_ev (N := 6) (cs := #[.int .i64 0, .int .i64 0]) (t := 55) ?_; intro gb120 hg w7 hbox hb; have BK120 := am hbox; have GW120 := gwl hg; have GE120 := GW120; replace HB := bsl hb; clear hb hbox hg; obtain ⟨z8_0, z8_1, y8_0, y8_1⟩ := cf2 BK120.1))
  go_ret
  exact ⟨per, pbg⟩
 rw [if_neg c6] at H
 have c6b0 : (((rd_T55 l0 x9_1).f0) == a1) = false := beq_eq_false_iff_ne.mpr c6
 have c6b1 : (((rd_T55 l0 x9_1).f0) != a1) = true := bne_iff_ne.mpr c6
 have H' := am H
 clear H
 obtain ⟨p119, q119, ad119, e119, hx119_0, hx119_1⟩ := bT55 HR0.1 HB.1 x9_1
 cases e119
 go_wp2_with (first | ((with_reducible refine gate_dst (N := 6) rfl ?_); refine box_ev (N := 6) (cs := #[.int .i64 0, .int .i64 0]) (t := 55) ?_; intro gb120 hg w9 hbox hb; have BK120 := am hbox; have GW120 := gwl hg; have GE120 := GW120; replace HB := bsl hb; clear hb hbox hg; obtain ⟨z10_0, z10_1, y10_0, y10_1⟩ := cf2 BK120.1))
 go_roundg k1
 case measure => have := HK1.1; omega
 case rel => exact ⟨(wrap64 (x9_1 + 1)), prs, H', ⟨by have := HK1.1; omega⟩, ⟨pbg⟩⟩

/-! ### digraph_inside: function 73 -/
def digraph_inside.f (l0 : List (List Int)) (a1 : Int) : Option (Bool) := if a1 ≥ 0 then (some (decide (a1 < (l0.length : Int)))) else (some false)
set_option maxHeartbeats 8000000 in
set_option maxRecDepth 100000 in
theorem digraph_inside.calls (A0 : Option Addr) (c0 : Nat) (l0 : List (List Int)) (a1 : Int) (r : Bool) (w : World) (hr0 : Kd.C (Kd.slice 3 (Kd.int .i64)) w A0 l0.length l0) (hc0 : l0.length ≤ c0) (h : digraph_inside.f l0 a1 = some r) :
  Calls Try.prog 73 #[.slice A0 l0.length c0, .int .i64 a1] w fun e w' => e = .returned (.bool r) ∧ Drawn0 w w' := by
 have HR0 := am hr0
 have HC0 := am hc0
 clear hr0 hc0
 have H : (if a1 ≥ 0 then (some (decide (a1 < (l0.length : Int)))) else (some false)) = some r := h
 clear h
 by_cases c3 : a1 ≥ 0
 ·rw [if_pos c3] at H
  have c3b0 : decide (0 ≤ a1) = true := decide_eq_true c3
  clear c3
  obtain rfl := Option.some.inj H
  go_enter Try.func73, Try.ntmps73
  go_wp2
  go_ret
  exact ⟨prs, pdr⟩
 rw [if_neg c3] at H
 have c3b0 : decide (0 ≤ a1) = false := decide_eq_false c3
 clear c3
 obtain rfl := Option.some.inj H
 go_enter Try.func73, Try.ntmps73
 go_wp2
 go_ret
 exact ⟨prs, pdr⟩

/-! ### digraph_Reach: function 63 -/
structure VInv (w0 w : World) (Bg Bo Bt : Nat) (A0 : Option Addr) (c0 : Nat) (g : List (List Int)) (out : List Bool) (todo : List Int) : Prop where
 hg : w.heap[Bg]? = some (.cells #[.slice A0 g.length c0] 72 (0, 0))
 o : ∃ vo, w.heap[Bo]? = some (.cells #[vo] 63 (0, 0)) ∧ Kd.R Kd.bool 4 w w0.heap.size (fun _ => True) vo out
 t : ∃ vt, w.heap[Bt]? = some (.cells #[vt] 39 (0, 0)) ∧ Kd.R (Kd.int .i64) 3 w w0.heap.size (fun _ => True) vt todo
 B : Below w0.heap.size w0 w
 bo : w0.heap.size ≤ Bo
 bt : w0.heap.size ≤ Bt
 len : out.length = g.length

theorem VInv.below {w0 w w1 : World} {Bg Bo Bt : Nat} {A0 : Option Addr} {c0 : Nat} {g : List (List Int)} {out : List Bool} {todo : List Int} (h : VInv w0 w Bg Bo Bt A0 c0 g out todo) (hb : Below w.heap.size w w1) : VInv w0 w1 Bg Bo Bt A0 c0 g out todo := by
 obtain ⟨hg, ⟨vo, h1, h2⟩, ⟨vt, h3, h4⟩, B, bo, bt, len⟩ := h
 exact ⟨blk_below hg hb, ⟨vo, blk_below h1 hb, Kd.R_below h2 hb⟩, ⟨vt, blk_below h3 hb, Kd.R_below h4 hb⟩, B.trans (hb.mono B.size), bo, bt, len⟩
theorem VInv.put {w0 w : World} {Bg Bo Bt : Nat} {A0 : Option Addr} {c0 : Nat} {g : List (List Int)} {out : List Bool} {todo : List Int} (h : VInv w0 w Bg Bo Bt A0 c0 g out todo) {go co : Nat} {cells : Array Value} (hO : Kd.R Kd.bool 4 w w0.heap.size (fun _ => True) (.slice (some ⟨go, 0, none⟩) out.length co) out)
  (ho : w.heap[Bo]? = some (.cells #[.slice (some ⟨go, 0, none⟩) out.length co] 63 (0, 0))) (hgo : w.heap[go]? = some (.cells cells 4 (0, 0))) (hb : w0.heap.size ≤ go) (v : Int) (x : Bool) : VInv w0 (w.setCell ⟨go, v.toNat, none⟩ (.bool x)) Bg Bo Bt A0 c0 g (out.set v.toNat x) todo := by
 obtain ⟨hg, _, ⟨vt, h3, h4⟩, B, bo, bt, len⟩ := h
 refine ⟨blk_over hg (blk_apart hg hgo (by decide)) _, ⟨_, blk_over ho (blk_apart ho hgo (by decide)) _, (Kd.R_putg hO v x).1⟩, ⟨vt, blk_over h3 (blk_apart h3 hgo (by decide)) _, Kd.R_set h4 hgo (by decide) _ _⟩, below_set B hb, bo, bt, by rw [List.length_set]; exact len⟩
theorem VInv.push {w0 W w1 : World} {Bg Bo Bt : Nat} {A0 : Option Addr} {c0 : Nat} {g : List (List Int)} {out : List Bool} {todo todo' : List Int} (h : VInv w0 W Bg Bo Bt A0 c0 g out todo) {v v1 : Value} (hT : Kd.R (Kd.int .i64) 3 W w0.heap.size (fun _ => True) v todo)
  (h1 : Kd.R (Kd.int .i64) 3 w1 w0.heap.size (fun _ => True) v1 todo') (hb : Below w0.heap.size w0 w1) (hg : W.grownBy w1 v.ownBlock) : VInv w0 (w1.setCell ⟨Bt, 0, none⟩ v1) Bg Bo Bt A0 c0 g out todo' ∧ w1.cell? ⟨Bt, 0, none⟩ ≠ none ∧ w1.frozen? ⟨Bt, 0, none⟩ = false := by
 obtain ⟨hg', ⟨vo, h5, h6⟩, ⟨vt, h3, h4⟩, B, bo, bt, len⟩ := h
 have e1 := grown_blk hg' (Kd.R_typed hT) (by decide) hg
 have e2 := grown_blk h5 (Kd.R_typed hT) (by decide) hg
 have e3 := grown_blk h3 (Kd.R_typed hT) (by decide) hg
 have e4 := Kd.R_over' h6 (Kd.R_typed hT) (by decide) hg
 refine ⟨⟨blk_over e1 (blk_apart e1 e3 (by decide)) _, ⟨vo, blk_over e2 (blk_apart e2 e3 (by decide)) _, Kd.R_set e4 e3 (by decide) _ _⟩, ⟨v1, one_setCell e3, Kd.R_set h1 e3 (by decide) _ _⟩, below_set hb bt, bo, bt, len⟩, by rw [cell_of_one e3]; simp, free_of_one e3⟩
/-- The row in the variable made shorter. -/
theorem VInv.cut {w0 w : World} {Bg Bo Bt : Nat} {A0 : Option Addr} {c0 : Nat} {g : List (List Int)} {out : List Bool} {todo todo' : List Int} (h : VInv w0 w Bg Bo Bt A0 c0 g out todo) {v1 : Value} (h1 : Kd.R (Kd.int .i64) 3 w w0.heap.size (fun _ => True) v1 todo') : VInv w0 (w.setCell ⟨Bt, 0, none⟩ v1) Bg Bo Bt A0 c0 g out todo' := by
 obtain ⟨hg', ⟨vo, h5, h6⟩, ⟨vt, h3, h4⟩, B, bo, bt, len⟩ := h
 exact ⟨blk_over hg' (blk_apart hg' h3 (by decide)) _, ⟨vo, blk_over h5 (blk_apart h5 h3 (by decide)) _, Kd.R_set h6 h3 (by decide) _ _⟩, ⟨v1, one_setCell h3, Kd.R_set h1 h3 (by decide) _ _⟩, below_set B bt, bo, bt, len⟩
theorem VInv.start {w w1 : World} {A0 : Option Addr} {c0 : Nat} {g : List (List Int)} {vo : Value} (ho : Kd.R Kd.bool 4 w1 w.heap.size (fun _ => True) vo (List.replicate g.length false)) (hb : Below w.heap.size w w1) (hg : (w.alloc (.cells #[.slice A0 g.length c0] 72)).grownBy w1 none) :
  VInv w ((w1.alloc (.cells #[vo] 63)).alloc (.cells #[.slice none 0 0] 39)) w.heap.size w1.heap.size (w1.heap.size + 1) A0 c0 g (List.replicate g.length false) [] := by
 have e0 := hg.block w.heap.size (by simp) (by simp)
 rw [alloc_new] at e0
 have b1 : Below w1.heap.size w1 (w1.alloc (.cells #[vo] 63)) := below_alloc (Below.refl _ _) _
 have b2 : Below (w1.alloc (.cells #[vo] 63)).heap.size (w1.alloc (.cells #[vo] 63)) ((w1.alloc (.cells #[vo] 63)).alloc (.cells #[.slice none 0 0] 39)) := below_alloc (Below.refl _ _) _
 have hs : (w1.alloc (.cells #[vo] 63)).heap.size = w1.heap.size + 1 := by simp
 have hz := hb.size
 refine ⟨blk_below (blk_below e0 b1) b2, ⟨vo, blk_below (alloc_new _ _) b2, Kd.R_below (Kd.R_below ho b1) b2⟩, ⟨.slice none 0 0, by rw [← hs]; exact alloc_new _ _, Kd.R_nil _ _ _ _ _⟩, below_alloc (below_alloc hb _) _, hz, by omega, by simp⟩

set_option maxHeartbeats 400000 in
theorem visit_out (w0 w : World) (Bg Bo Bt : Nat) (A0 : Option Addr) (c0 : Nat) (g : List (List Int)) (out : List Bool) (todo : List Int) (v : Int)
  (hr0 : Kd.C (Kd.slice 3 (Kd.int .i64)) w0 A0 g.length g) (hc0 : g.length ≤ c0) (h : VInv w0 w Bg Bo Bt A0 c0 g out todo) (hv : digraph_inside.f g v = some false) :
  Calls Try.prog 77 #[.int .i64 v, .pointer (some ⟨Bg, 0, none⟩), .pointer (some ⟨Bo, 0, none⟩), .pointer (some ⟨Bt, 0, none⟩)] w fun e w' => e = .returned (.tuple #[]) ∧ VInv w0 w' Bg Bo Bt A0 c0 g out todo := by
 have cg := cell_of_one h.hg
 have HV := Aside0.mk h
 have HV0 := Aside0.mk hv
 have HR := Aside0.mk (Kd.C_below hr0 h.B)
 clear hr0 h hv
 go_enter Try.func77, Try.ntmps77
 go_wp2_with (first | (go_at_call 73; refine (digraph_inside.calls _ _ _ _ _ _ HR.out hc0 HV0.out).mono ?_; rintro e w' ⟨rfl, ⟨n, rfl⟩⟩))
 go_end0
 exact ⟨rfl, HV.out.below (below_self _ _)⟩

set_option maxHeartbeats 400000 in
theorem visit_seen (w0 w : World) (Bg Bo Bt : Nat) (A0 : Option Addr) (c0 : Nat) (g : List (List Int)) (out : List Bool) (todo : List Int) (v : Int)
  (hr0 : Kd.C (Kd.slice 3 (Kd.int .i64)) w0 A0 g.length g) (hc0 : g.length ≤ c0) (h : VInv w0 w Bg Bo Bt A0 c0 g out todo) (hv0 : 0 ≤ v) (hv1 : v < g.length) (ho : rdOf false out v = true) :
  Calls Try.prog 77 #[.int .i64 v, .pointer (some ⟨Bg, 0, none⟩), .pointer (some ⟨Bo, 0, none⟩), .pointer (some ⟨Bt, 0, none⟩)] w fun e w' => e = .returned (.tuple #[]) ∧ VInv w0 w' Bg Bo Bt A0 c0 g out todo := by
 have cg := cell_of_one h.hg
 obtain ⟨vo, ho1, ho2⟩ := h.o
 have hl := h.len
 obtain ⟨go, co, rfl, hb1, hb2, _⟩ := Kd.R_form ho2 (by omega)
 have co1 := cell_of_one ho1
 obtain ⟨co2, _⟩ := Kd.R_celln false ho2 v hv0 (by omega)
 rw [ho] at co2
 have hin : digraph_inside.f g v = some true := by unfold digraph_inside.f; rw [if_pos hv0, decide_eq_true hv1]
 have HV := Aside0.mk h
 have HV0 := Aside0.mk hin
 have HR := Aside0.mk (Kd.C_below hr0 h.B)
 have hvo : v < (out.length : Int) := by omega
 clear hr0 h hin ho1 ho2 hl ho
 go_enter Try.func77, Try.ntmps77
 go_wp2_with (first | (go_at_call 73; refine (digraph_inside.calls _ _ _ _ _ _ HR.out hc0 HV0.out).mono ?_; rintro e w' ⟨rfl, ⟨n, rfl⟩⟩))
 go_end0
 exact ⟨rfl, HV.out.below (below_self _ _)⟩

set_option maxHeartbeats 400000 in
theorem visit_new (w0 w : World) (Bg Bo Bt : Nat) (A0 : Option Addr) (c0 : Nat) (g : List (List Int)) (out : List Bool) (todo : List Int) (v : Int)
  (hr0 : Kd.C (Kd.slice 3 (Kd.int .i64)) w0 A0 g.length g) (hc0 : g.length ≤ c0) (h : VInv w0 w Bg Bo Bt A0 c0 g out todo) (hv0 : 0 ≤ v) (hv1 : v < g.length) (ho : rdOf false out v = false) (hlim : todo.length < 17592186044416) :
  Calls Try.prog 77 #[.int .i64 v, .pointer (some ⟨Bg, 0, none⟩), .pointer (some ⟨Bo, 0, none⟩), .pointer (some ⟨Bt, 0, none⟩)] w fun e w' => e = .returned (.tuple #[]) ∧ VInv w0 w' Bg Bo Bt A0 c0 g (out.set v.toNat true) (todo ++ [v]) := by
 have cg := cell_of_one h.hg
 obtain ⟨vo, ho1, ho2⟩ := h.o
 have hl := h.len
 obtain ⟨go, co, rfl, hb1, hb2, hb3, hb4⟩ := Kd.R_form ho2 (by omega)
 have co1 := cell_of_one ho1
 obtain ⟨co2, fo2⟩ := Kd.R_celln false ho2 v hv0 (by omega)
 rw [ho] at co2
 have hin : digraph_inside.f g v = some true := by unfold digraph_inside.f; rw [if_pos hv0, decide_eq_true hv1]
 have HV := Aside0.mk h
 have HV0 := Aside0.mk hin
 have HR := Aside0.mk (Kd.C_below hr0 h.B)
 have hvo : v < (out.length : Int) := by omega
 have HP := Aside0.mk (fun n => VInv.put (h.below (below_self w n)) (Kd.R_below ho2 (below_self w n)) (blk_below ho1 (below_self w n)) (blk_below hb4 (below_self w n)) hb1 v true)
 clear hr0 h hin ho1 ho2 hl ho hb4
 go_enter Try.func77, Try.ntmps77
 go_wp2_with (first
  | (go_at_call 73; refine (digraph_inside.calls _ _ _ _ _ _ HR.out hc0 HV0.out).mono ?_; rintro e w' ⟨rfl, ⟨n, rfl⟩⟩)
  | ((with_reducible refine gate_store (t := 4) (p := 17) rfl ?_); refine store_event (t := 4) (p := 17) (v := .const (.bool true)) (w1 := ((w.drewN n).setCell ⟨go, v.toNat, none⟩ (.bool true))) rfl rfl rfl ?hr ?_; (case hr => first | (go_simp; done) | (go_simp; rfl)); intro w1 hw; have HV1 := Aside0.mk (HP.out n); rw [← hw] at HV1; clear hw; obtain ⟨vt, ht1, ht2⟩ := HV1.out.t; have ct1 := cell_of_one ht1; have HT := Aside0.mk ht2; clear ht1 ht2)
  | ((with_reducible refine gate_builtin (b := .append) (xs := #[.tmp 18, .tmp 20]) rfl ?_); at_builtin; refine Kd.R_append (Kd.int .i64) (w0 := w0) w0.heap.size rfl (.tmp 18) (.tmp 20) 39 3 (.int .i64 0) 8 rfl Try.underlying39 info3 rfl (by decide) (by omega) vt todo v [.int .i64 v] (fun _ => True) (fun _ => False) rfl rfl ?aP (fun _ hk => hk.elim) ?aF ?aO ?aB ?aS ?aL ?_; (case aP => exact rfl); (case aF => exact (fun _ _ => trivial)); (case aO => exact HT.out); (case aB => exact HV1.out.B); (case aS => exact HV1.out.B.size); (case aL => omega); intro v2 w2 ho hb hg hat; obtain ⟨A2, k2, rfl⟩ := Kd.R_slice ho; have HX := Aside0.mk (VInv.push HV1.out HT.out ho hb hg); obtain ⟨c2, hc2⟩ := Option.ne_none_iff_exists'.mp HX.out.2.1; have hf2 := HX.out.2.2; clear ho hb hg hat))
 go_end0
 have e_ := HX.out.1
 rw [List.length_append] at e_
 exact ⟨rfl, e_⟩

/-- One vertex: marked, and kept for later. -/
def visitM (g : List (List Int)) (out : List Bool) (todo : List Int) (v : Int) : Option (List Bool × List Int) :=
 if 0 ≤ v then (if v < (g.length : Int) then (if rdOf false out v = true then some (out, todo) else (if todo.length < 17592186044416 then some (out.set v.toNat true, todo ++ [v]) else none)) else some (out, todo)) else some (out, todo)
theorem visit_any (w0 w : World) (Bg Bo Bt : Nat) (A0 : Option Addr) (c0 : Nat) (g : List (List Int)) (out : List Bool) (todo : List Int) (v : Int) (p : List Bool × List Int)
  (hr0 : Kd.C (Kd.slice 3 (Kd.int .i64)) w0 A0 g.length g) (hc0 : g.length ≤ c0) (h : VInv w0 w Bg Bo Bt A0 c0 g out todo) (hp : visitM g out todo v = some p) :
  Calls Try.prog 77 #[.int .i64 v, .pointer (some ⟨Bg, 0, none⟩), .pointer (some ⟨Bo, 0, none⟩), .pointer (some ⟨Bt, 0, none⟩)] w fun e w' => e = .returned (.tuple #[]) ∧ VInv w0 w' Bg Bo Bt A0 c0 g p.1 p.2 := by
 unfold visitM at hp
 by_cases h0 : 0 ≤ v
 ·rw [if_pos h0] at hp
  by_cases h1 : v < (g.length : Int)
  ·rw [if_pos h1] at hp
   by_cases h2 : rdOf false out v = true
   ·rw [if_pos h2] at hp
    cases hp
    exact visit_seen w0 w Bg Bo Bt A0 c0 g out todo v hr0 hc0 h h0 h1 h2
   ·rw [if_neg h2] at hp
    by_cases h3 : todo.length < 17592186044416
    ·rw [if_pos h3] at hp
     cases hp
     exact visit_new w0 w Bg Bo Bt A0 c0 g out todo v hr0 hc0 h h0 h1 (by simpa using h2) h3
    ·rw [if_neg h3] at hp
     cases hp
  ·rw [if_neg h1] at hp
   cases hp
   exact visit_out w0 w Bg Bo Bt A0 c0 g out todo v hr0 hc0 h (by unfold digraph_inside.f; rw [if_pos h0, decide_eq_false h1])
 ·rw [if_neg h0] at hp
  cases hp
  exact visit_out w0 w Bg Bo Bt A0 c0 g out todo v hr0 hc0 h (by unfold digraph_inside.f; rw [if_neg h0])

mutual
def digraph_Reach.l0 : Nat → List (List Int) → List Int → List Bool → List Int → Int → Option (List Bool)
 | 0, _, _, _, _, _ => none
 | k + 1, g, xs, out, todo, i => if i < (xs.length : Int) then (if 0 ≤ i then ((visitM g out todo (rd xs i)).bind fun p => digraph_Reach.l0 k g xs p.1 p.2 (wrap64 (i + 1))) else none) else digraph_Reach.l1 k g out todo
def digraph_Reach.l1 : Nat → List (List Int) → List Bool → List Int → Option (List Bool)
 | 0, _, _, _ => none
 | k + 1, g, out, todo => if 0 < (todo.length : Int) then (if 0 ≤ rd todo ((todo.length : Int) - 1) then (if rd todo ((todo.length : Int) - 1) < (g.length : Int) then (digraph_Reach.l2 k g out (todo.take (todo.length - 1)) (rd_L11 g (rd todo ((todo.length : Int) - 1))) 0) else none) else none) else some out
def digraph_Reach.l2 : Nat → List (List Int) → List Bool → List Int → List Int → Int → Option (List Bool)
 | 0, _, _, _, _, _ => none
 | k + 1, g, out, todo, xs, i => if i < (xs.length : Int) then (if 0 ≤ i then ((visitM g out todo (rd xs i)).bind fun p => digraph_Reach.l2 k g p.1 p.2 xs (wrap64 (i + 1))) else none) else digraph_Reach.l1 k g out todo
end
def digraph_Reach.f (k : Nat) (l0 : List (List Int)) (l1 : List Int) : Option (List Bool) := if l0.length ≤ 281474976710656 then digraph_Reach.l0 k l0 l1 (List.replicate l0.length false) [] 0 else none
theorem digraph_Reach.mono_l : ∀ k, (∀ y0 y1 y2 y3 y4, LeO (digraph_Reach.l0 k y0 y1 y2 y3 y4) (digraph_Reach.l0 (k + 1) y0 y1 y2 y3 y4)) ∧ (∀ y0 y1 y2, LeO (digraph_Reach.l1 k y0 y1 y2) (digraph_Reach.l1 (k + 1) y0 y1 y2)) ∧ (∀ y0 y1 y2 y3 y4, LeO (digraph_Reach.l2 k y0 y1 y2 y3 y4) (digraph_Reach.l2 (k + 1) y0 y1 y2 y3 y4))
 | 0 => ⟨fun _ _ _ _ _ r h => by simp [digraph_Reach.l0] at h, fun _ _ _ r h => by simp [digraph_Reach.l1] at h, fun _ _ _ _ _ r h => by simp [digraph_Reach.l2] at h⟩
 | k + 1 => by
  obtain ⟨ih0, ih1, ih2⟩ := digraph_Reach.mono_l k
  refine ⟨?_, ?_, ?_⟩
  ·intro y0 y1 y2 y3 y4
   unfold digraph_Reach.l0
   repeat' first | exact ih0 _ _ _ _ _ | exact ih1 _ _ _ | exact LeO.refl _ | exact LeO.none _ | refine LeO.ite ?_ ?_ | refine LeO.bind (LeO.refl _) (fun _ => ?_)
  ·intro y0 y1 y2
   unfold digraph_Reach.l1
   repeat' first | exact ih2 _ _ _ _ _ | exact LeO.refl _ | exact LeO.none _ | refine LeO.ite ?_ ?_
  ·intro y0 y1 y2 y3 y4
   unfold digraph_Reach.l2
   repeat' first | exact ih2 _ _ _ _ _ | exact ih1 _ _ _ | exact LeO.refl _ | exact LeO.none _ | refine LeO.ite ?_ ?_ | refine LeO.bind (LeO.refl _) (fun _ => ?_)
theorem digraph_Reach.mono : ∀ a0 a1 k, LeO (digraph_Reach.f k a0 a1) (digraph_Reach.f (k + 1) a0 a1) := by
 intro a0 a1 k
 unfold digraph_Reach.f
 exact LeO.ite ((digraph_Reach.mono_l k).1 _ _ _ _ _) (LeO.none _)
set_option maxHeartbeats 1000000 in
set_option maxRecDepth 100000 in
theorem digraph_Reach.calls (k : Nat) (A0 : Option Addr) (c0 : Nat) (l0 : List (List Int)) (A1 : Option Addr) (c1 : Nat) (l1 : List Int) (r : List Bool) (w : World) (hr0 : Kd.C (Kd.slice 3 (Kd.int .i64)) w A0 l0.length l0) (hc0 : l0.length ≤ c0) (hr1 : Kd.C (Kd.int .i64) w A1 l1.length l1) (hc1 : l1.length ≤ c1) (h : digraph_Reach.f k l0 l1 = some r) :
  Calls Try.prog 63 #[.slice A0 l0.length c0, .slice A1 l1.length c1] w fun e w' => ∃ v0_ : Value, e = .returned (v0_) ∧ Kd.R Kd.bool 4 w' w.heap.size (fun _ => True) v0_ r ∧ Below w.heap.size w w' := by
 have HR0 := Aside0.mk hr0
 have HC0 := Aside0.mk hc0
 have HR1 := Aside0.mk hr1
 clear hr0 hc0 hr1
 unfold digraph_Reach.f at h
 by_cases c2 : l0.length ≤ 281474976710656
 case neg => rw [if_neg c2] at h; cases h
 rw [if_pos c2] at h
 have H := Aside0.mk h
 clear h
 have hl0 : (0 : Int) ≤ (l0.length : Int) := by omega
 have hmf : ∀ (fn : Fn) (first cap : Array Value) (w : World), (Instr.makeFunc fn first cap).run Try.prog w = .ok (.func fn first cap) w := fun _ _ _ _ => rfl
 go_enter Try.func63, Try.ntmps63
 go_wp2_with (first
  | ((with_reducible refine gate_dst (N := 15) rfl ?_); refine Kd.R_make (w0 := w) Kd.bool w.heap.size 4 rfl (N := 15) rfl 63 _ _ rfl (l0.length : Int) rfl rfl Try.underlying63 (.bool false) 1 info4 rfl (by decide) (by omega) false (ok := fun _ => True) (okp := fun _ => True) rfl (fun _ hk => hk) trivial hl0 (by simpa using c2) (below_alloc (Below.refl _ _) _) (by simp) ?_; intro v1 w1 ho hb hg hnew; rw [Int.toNat_natCast] at ho; have HV := Aside0.mk (VInv.start ho hb hg); obtain ⟨A2, k2, e2⟩ := Kd.R_slice ho; subst e2; simp only [List.length_replicate] at HV; clear ho hb hg hnew))
 go_loopg [19] k (fun kq v19 w' => ∃ (i : Int) (out : List Bool) (todo : List Int), v19 = .int .i64 i ∧ Aside0 (digraph_Reach.l0 kq l0 l1 out todo i = some r) ∧ Aside0 (kq ≤ k) ∧ Aside0 (VInv w w' w.heap.size w1.heap.size (w1.heap.size + 1) A0 c0 l0 out todo))
 case atStart => exact ⟨0, _, _, rfl, H, ⟨Nat.le_refl _⟩, HV⟩
 case round =>
  clear H HV
  obtain ⟨i, out, todo, rfl, HA, HK1, HV⟩ := hrel
  cases gk with
  | zero => exact absurd HA.out (by simp [digraph_Reach.l0])
  | succ k1 =>
   have H := HA.out
   clear HA
   simp only [digraph_Reach.l0] at H
   by_cases c3 : i < (l1.length : Int)
   ·rw [if_pos c3] at H
    have c3b0 : decide (i < (l1.length : Int)) = true := decide_eq_true c3
    by_cases c4 : 0 ≤ i
    case neg => rw [if_neg c4] at H; cases H
    rw [if_pos c4] at H
    obtain ⟨p, hp, hq⟩ := Option.bind_eq_some_iff.mp H
    have HP := Aside0.mk hp
    have HQ := Aside0.mk hq
    obtain ⟨ad, e1, hx⟩ := Kd.at_int HR1.out i c4 c3
    subst e1
    replace hx := (HV.out.B.cell (World.block_lt_of_cell? w _ hx)).trans hx
    clear H hp hq
    go_wp2_with (first | (go_at_call 77; refine (visit_any w _ _ _ _ _ _ _ _ _ _ _ HR0.out HC0.out HV.out HP.out).mono ?_; rintro e w2 ⟨rfl, HV2⟩; replace HV := Aside0.mk HV2; clear HV2))
    go_roundg k1
    case measure => have := HK1.out; omega
    case rel => exact ⟨_, _, _, rfl, HQ, ⟨by have := HK1.out; omega⟩, HV⟩
   ·rw [if_neg c3] at H
    have c3b0 : decide (i < (l1.length : Int)) = false := decide_eq_false c3
    have H' := Aside0.mk H
    clear H
    go_wp2
    go_loopg [] k1 (fun kq w' => ∃ (out : List Bool) (todo : List Int), Aside0 (digraph_Reach.l1 kq l0 out todo = some r) ∧ Aside0 (kq ≤ k1) ∧ Aside0 (VInv w w' w.heap.size w1.heap.size (w1.heap.size + 1) A0 c0 l0 out todo))
    case atStart => exact ⟨_, _, H', ⟨Nat.le_refl _⟩, HV⟩
    case round =>
     clear H' HV c3b0 c3
     obtain ⟨out2, todo2, HA, HK2, HV⟩ := hrel
     cases gk with
     | zero => exact absurd HA.out (by simp [digraph_Reach.l1])
     | succ k2 =>
      have H := HA.out
      clear HA
      simp only [digraph_Reach.l1] at H
      obtain ⟨vt, ht1, ht2⟩ := HV.out.t
      have ct1 := cell_of_one ht1
      have cf1 := free_of_one ht1
      have cg1 := cell_of_one HV.out.hg
      by_cases c5 : 0 < (todo2.length : Int)
      ·rw [if_pos c5] at H
       obtain ⟨gt, ct, rfl, hct, hlt, hx⟩ := R_last ht2 (by omega)
       have HT := Aside0.mk ht2
       clear ht2 ht1
       obtain ⟨v, hv⟩ : ∃ v, v = rd todo2 ((todo2.length : Int) - 1) := ⟨_, rfl⟩
       rw [← hv] at H hx
       by_cases c6 : 0 ≤ v
       case neg => rw [if_neg c6] at H; cases H
       rw [if_pos c6] at H
       by_cases c7 : v < (l0.length : Int)
       case neg => rw [if_neg c7] at H; cases H
       rw [if_pos c7] at H
       have H' := Aside0.mk H
       clear H hv
       obtain ⟨ad, A3, c3, e3, hx3, hl3, hi3⟩ := at_L11 HR0.out v c6 c7
       subst e3
       have HI3 := Aside0.mk hi3
       have c5b0 : decide (0 < (todo2.length : Int)) = true := decide_eq_true c5
       have c5b1 : decide (0 < todo2.length) = true := decide_eq_true (by omega)
       clear hi3 hl3
       have HC1 := Aside0.mk (VInv.cut HV.out (Kd.R_take (m := todo2.length - 1) HT.out (by omega)))
       have hx4 := (HC1.out.B.cell (World.block_lt_of_cell? w _ hx3)).trans hx3
       have cg2 := cell_of_one HC1.out.hg
       clear hx3
       go_wp2
       go_loopg [46] k2 (fun kq v46 w' => ∃ (j : Int) (out : List Bool) (todo : List Int), v46 = .int .i64 j ∧ Aside0 (digraph_Reach.l2 kq l0 out todo (rd_L11 l0 v) j = some r) ∧ Aside0 (kq ≤ k2) ∧ Aside0 (VInv w w' w.heap.size w1.heap.size (w1.heap.size + 1) (some ad) c0 l0 out todo))
       case atStart => exact ⟨0, _, _, rfl, H', ⟨Nat.le_refl _⟩, HC1⟩
       case round =>
        clear H' HV HT HC1 hx4 cg2 hx c5 c5b0 c5b1 hct hlt
        obtain ⟨j, out3, todo3, rfl, HA, HK3, HV⟩ := hrel
        cases gk with
        | zero => exact absurd HA.out (by simp [digraph_Reach.l2])
        | succ k3 =>
         have H := HA.out
         clear HA
         simp only [digraph_Reach.l2] at H
         by_cases c8 : j < ((rd_L11 l0 v).length : Int)
         ·rw [if_pos c8] at H
          have c8b0 : decide (j < ((rd_L11 l0 v).length : Int)) = true := decide_eq_true c8
          by_cases c9 : 0 ≤ j
          case neg => rw [if_neg c9] at H; cases H
          rw [if_pos c9] at H
          obtain ⟨p, hp, hq⟩ := Option.bind_eq_some_iff.mp H
          have HP := Aside0.mk hp
          have HQ := Aside0.mk hq
          obtain ⟨ad2, e4, hx5⟩ := Kd.at_int HI3.out j c9 c8
          subst e4
          replace hx5 := (HV.out.B.cell (World.block_lt_of_cell? w _ hx5)).trans hx5
          clear H hp hq
          go_wp2_with (first | (go_at_call 77; refine (visit_any w _ _ _ _ _ _ _ _ _ _ _ HR0.out HC0.out HV.out HP.out).mono ?_; rintro e w2 ⟨rfl, HV2⟩; replace HV := Aside0.mk HV2; clear HV2))
          go_roundg k3
          case measure => have := HK1.out; have := HK2.out; have := HK3.out; omega
          case rel => exact ⟨_, _, _, rfl, HQ, ⟨by have := HK3.out; omega⟩, HV⟩
         ·rw [if_neg c8] at H
          have c8b0 : decide (j < ((rd_L11 l0 v).length : Int)) = false := decide_eq_false c8
          have H' := Aside0.mk H
          clear H
          go_wp2
          go_roundg k3
          case measure => have := HK1.out; have := HK2.out; have := HK3.out; omega
          case rel => exact ⟨_, _, H', ⟨by have := HK3.out; have := HK2.out; omega⟩, HV⟩
      ·rw [if_neg c5] at H
       obtain rfl := Option.some.inj H
       obtain ⟨A5, k5, rfl⟩ := Kd.R_slice ht2
       obtain ⟨vo, ho1, ho2⟩ := HV.out.o
       obtain ⟨A6, k6, rfl⟩ := Kd.R_slice ho2
       have co1 := cell_of_one ho1
       have HO := Aside0.mk ho2
       have c5b0 : decide (0 < (todo2.length : Int)) = false := decide_eq_false c5
       have c5b1 : decide (0 < todo2.length) = false := decide_eq_false (by omega)
       clear ht1 ht2 ho1 ho2 H c5
       go_wp2
       go_ret
       exact ⟨_, rfl, HO.out, HV.out.B⟩

/-! ### digraph_Reverse: function 64 -/
mutual
def digraph_Reverse.l0 : Nat → List (List Int) → List (List Int) → List (List Int) → Int → Int → Option ((List (List Int)))
 | 0, _, _, _, _, _ => none
 | k + 1, x0, x3, x12, x13, x14 => if x14 < x13 then (if 0 ≤ x14 then (if x14 < (x12.length : Int) then (digraph_Reverse.l1 k x0 x3 x14 x12 x13 x14 (rd_L11 x12 x14) ((rd_L11 x12 x14).length : Int) 0) else (none)) else (none)) else (some x3)
def digraph_Reverse.l1 : Nat → List (List Int) → List (List Int) → Int → List (List Int) → Int → Int → List Int → Int → Int → Option ((List (List Int)))
 | 0, _, _, _, _, _, _, _, _, _ => none
 | k + 1, x0, x3, x4, x12, x13, x14, x19, x20, x21 => if x21 < x20 then (if 0 ≤ x21 then (if x21 < (x19.length : Int) then ((digraph_inside.f x0 (rd x19 x21)).bind fun t174 => (if t174 = true then (if 0 ≤ (rd x19 x21) then (if (rd x19 x21) < (x3.length : Int) then (if ((rd_L11 x3 (rd x19 x21)).length : Int) = 0 then (if (rd_L11 x3 (rd x19 x21)).length < 17592186044416 then (digraph_Reverse.l1 k x0 (x3.set ((rd x19 x21) : Int).toNat ((rd_L11 x3 (rd x19 x21)) ++ [x4])) x4 x12 x13 x14 x19 x20 (wrap64 (x21 + 1))) else (none)) else (if 0 ≤ (wrap64 (((rd_L11 x3 (rd x19 x21)).length : Int) - 1)) then (if (wrap64 (((rd_L11 x3 (rd x19 x21)).length : Int) - 1)) < ((rd_L11 x3 (rd x19 x21)).length : Int) then (if (rd (rd_L11 x3 (rd x19 x21)) (wrap64 (((rd_L11 x3 (rd x19 x21)).length : Int) - 1))) = x4 then (digraph_Reverse.l1 k x0 x3 x4 x12 x13 x14 x19 x20 (wrap64 (x21 + 1))) else (if (rd_L11 x3 (rd x19 x21)).length < 17592186044416 then (digraph_Reverse.l1 k x0 (x3.set ((rd x19 x21) : Int).toNat ((rd_L11 x3 (rd x19 x21)) ++ [x4])) x4 x12 x13 x14 x19 x20 (wrap64 (x21 + 1))) else (none))) else (none)) else (none))) else (none)) else (none)) else (digraph_Reverse.l1 k x0 x3 x4 x12 x13 x14 x19 x20 (wrap64 (x21 + 1))))) else (none)) else (none)) else (digraph_Reverse.l0 k x0 x3 x12 x13 (wrap64 (x14 + 1)))
end
def digraph_Reverse.f (k : Nat) (l0 : List (List Int)) : Option ((List (List Int))) := if 0 ≤ (l0.length : Int) then (if ((l0.length : Int) : Int).toNat ≤ 11728124029610 then (digraph_Reverse.l0 k l0 (List.replicate ((l0.length : Int) : Int).toNat []) l0 (l0.length : Int) 0) else (none)) else (none)
theorem digraph_Reverse.mono_l : ∀ k, M5 digraph_Reverse.l0 k ∧ M9 digraph_Reverse.l1 k
 | 0 => ⟨fun _ _ _ _ _ r h => by simp [digraph_Reverse.l0] at h, fun _ _ _ _ _ _ _ _ _ r h => by simp [digraph_Reverse.l1] at h⟩
 | k + 1 => by
  obtain ⟨ih0, ih1⟩ := digraph_Reverse.mono_l k
  refine ⟨?_, ?_⟩ <;> dsimp only [M5, M9] <;> intros <;> (first | unfold digraph_Reverse.l0 | unfold digraph_Reverse.l1) <;> repeat' first | (with_reducible first | apply ih0 | apply ih1 | apply lr | apply ln | apply li | refine lb ?_ fun _ => ?_)
theorem digraph_Reverse.mono : ∀ a0 k, LeO (digraph_Reverse.f k a0) (digraph_Reverse.f (k + 1) a0) := by
 intro a0 k
 obtain ⟨ih0, ih1⟩ := digraph_Reverse.mono_l k
 unfold digraph_Reverse.f
 repeat' first | (with_reducible first | apply ih0 | apply ih1 | apply lr | apply ln | apply li | refine lb ?_ fun _ => ?_)
set_option maxHeartbeats 8000000 in
set_option maxRecDepth 100000 in
theorem digraph_Reverse.calls (k : Nat) (A0 : Option Addr) (c0 : Nat) (l0 : List (List Int)) (r : List (List Int)) (w : World) (hr0 : Kd.C (Kd.slice 3 (Kd.int .i64)) w A0 l0.length l0) (hc0 : l0.length ≤ c0) (h : digraph_Reverse.f k l0 = some r) :
  Calls Try.prog 64 #[.slice A0 l0.length c0] w fun e w' => ∃ v0_ : Value, e = .returned (v0_) ∧ Kd.S (Kd.slice 3 (Kd.int .i64)) 39 w' w.heap.size (fun _ => True) v0_ r ∧ Below w.heap.size w w' := by
 have HR0 := am hr0
 have HC0 := am hc0
 clear hr0 hc0
 have HB := am (Below.refl w.heap.size w)
 have H : (if 0 ≤ (l0.length : Int) then (if ((l0.length : Int) : Int).toNat ≤ 11728124029610 then (digraph_Reverse.l0 k l0 (List.replicate ((l0.length : Int) : Int).toNat []) l0 (l0.length : Int) 0) else (none)) else (none)) = some r := h
 clear h
 replace H := ifp H
 obtain ⟨c2, H⟩ := H
 have c2b0 := eq_true c2
 have c2b1 : decide (0 ≤ (l0.length : Int)) = true := decide_eq_true c2
 clear c2
 replace H := ifp H
 obtain ⟨c3, H⟩ := H
 have c3b0 := eq_true c3
 have c3b1 : decide (((l0.length : Int) : Int).toNat ≤ 11728124029610) = true := decide_eq_true c3
 clear c3
 obtain ⟨y169, hy169⟩ : ∃ y_ : List (List Int), y_ = (List.replicate ((l0.length : Int) : Int).toNat []) := ⟨_, rfl⟩
 replace H : (digraph_Reverse.l0 k l0 y169 l0 (l0.length : Int) 0) = some r := hrp hy169 H
 have Ny169 := am hy169
 clear hy169
 have H' := am H
 clear H
 go_enter Try.func64, Try.ntmps64
 go_wp2_with (first | ((with_reducible refine gate_dst (N := 11) rfl ?_); refine Kd.S_make (Kd.slice 3 (Kd.int .i64)) _ 39 rfl (N := 11) rfl 72 _ _ rfl (l0.length : Int) rfl rfl Try.underlying72 (.slice none 0 0) 24 info39 rfl (by decide) (by omega) [] (ok := fun _ => True) (okp := fun _ => True) ⟨_, rfl, Kd.R_nil _ _ _ _ _⟩ (fun _ hk => hk) trivial (dq) (Nat.le_trans (Nat.mul_le_mul_right _ (dq : (l0.length : Int).toNat ≤ 11728124029610)) (by omega)) (Below.refl _ _) (Nat.le_refl _) ?_; intro v170 w4 ho5 hb hg_ hnew_; clear hg_ hnew_; (first | rw [← Ny169.1] at ho5 | (simp only [Int.reduceToNat] at ho5; rw [← Ny169.1] at ho5)); have HO171 := am (Kd.S_lower ho5 (below_size pbl)); replace HB := bsl hb; clear hb ho5))
 go_loopg [14] k (fun kq v14 w' => ∃ (x3_1 : List (List Int)) (x14_1 : Int), v14 = .int .i64 x14_1 ∧ Aside0 (digraph_Reverse.l0 kq l0 x3_1 l0 (l0.length : Int) x14_1 = some r) ∧ Aside0 (kq ≤ k) ∧ Aside0 (Kd.S (Kd.slice 3 (Kd.int .i64)) 39 w' w.heap.size (fun _ => True) v170 x3_1) ∧ Aside0 (Below w.heap.size w w'))
 case atStart => exact ⟨(y169), (0), prs, H', ⟨Nat.le_refl _⟩, ⟨pks HO171.1⟩, ⟨pbg⟩⟩
 clear H'
 try clear c2 c2b0 c2b1 c3 c3b0 c3b1
 obtain ⟨x3_1, x14_1, rfl, HA, HK1, HO_3, HB⟩ := hrel
 obtain _ | k1 := gk
 ·exact absurd HA.1 (by simp [digraph_Reverse.l0])
 have H := HA.1
 clear HA
 simp only [digraph_Reverse.l0] at H
 by_cases c6 : x14_1 < (l0.length : Int)
 rotate_left
 ·rw [if_neg c6] at H
  have c6b0 : decide (x14_1 < (l0.length : Int)) = false := decide_eq_false c6
  clear c6
  obtain rfl := Option.some.inj H
  go_wp2
  go_ret
  exact ⟨_, per, by (with_reducible repeat (first | apply Kd.S_alloc | apply Kd.S_drewN | apply Kd.S_drew)); exact HO_3.1, pbg⟩
 rw [if_pos c6] at H
 have c6b0 : decide (x14_1 < (l0.length : Int)) = true := decide_eq_true c6
 clear c6
 replace H := ifp H
 obtain ⟨c7, H⟩ := H
 have c7b0 := decide_eq_true c7
 clear c7
 replace H := ifp H
 obtain ⟨c8, H⟩ := H
 have c8b0 := decide_eq_true c8
 clear c8
 have H' := am H
 clear H
 obtain ⟨p172, q172, ad172, A172_0, c172_0, e172, hx172_0, HC172_0, HR172_0⟩ := bL11 HR0.1 HB.1 x14_1
 cases e172
 go_wp2
 go_loopg [21] k1 (fun kq v21 w' => ∃ (x3_2 : List (List Int)) (x21_2 : Int), v21 = .int .i64 x21_2 ∧ Aside0 (digraph_Reverse.l1 kq l0 x3_2 x14_1 l0 (l0.length : Int) x14_1 (rd_L11 l0 x14_1) ((rd_L11 l0 x14_1).length : Int) x21_2 = some r) ∧ Aside0 (kq ≤ k1) ∧ Aside0 (Kd.S (Kd.slice 3 (Kd.int .i64)) 39 w' w.heap.size (fun _ => True) v170 x3_2) ∧ Aside0 (Below w.heap.size w w'))
 case atStart => exact ⟨(x3_1), (0), prs, H', ⟨Nat.le_refl _⟩, ⟨pks HO_3.1⟩, ⟨pbg⟩⟩
 clear H'
 try clear c2 c2b0 c2b1 c3 c3b0 c3b1 c6 c6b0 c7 c7b0 c8 c8b0 hx172_0 p172 q172
 obtain ⟨x3_2, x21_2, rfl, HA, HK2, HO_3, HB⟩ := hrel
 obtain _ | k2 := gk
 ·exact absurd HA.1 (by simp [digraph_Reverse.l1])
 have H := HA.1
 clear HA
 simp only [digraph_Reverse.l1] at H
 by_cases c9 : x21_2 < ((rd_L11 l0 x14_1).length : Int)
 rotate_left
 ·rw [if_neg c9] at H
  have c9b0 : decide (x21_2 < ((rd_L11 l0 x14_1).length : Int)) = false := decide_eq_false c9
  clear c9
  have H' := am H
  clear H
  go_wp2
  go_roundg k2
  case measure => have := HK1.1; have := HK2.1; omega
  case rel => exact ⟨(x3_2), (wrap64 (x14_1 + 1)), prs, H', ⟨by have := HK1.1; have := HK2.1; omega⟩, ⟨pks HO_3.1⟩, ⟨pbg⟩⟩
 rw [if_pos c9] at H
 have c9b0 : decide (x21_2 < ((rd_L11 l0 x14_1).length : Int)) = true := decide_eq_true c9
 clear c9
 replace H := ifp H
 obtain ⟨c10, H⟩ := H
 have c10b0 := decide_eq_true c10
 clear c10
 replace H := ifp H
 obtain ⟨c11, H⟩ := H
 have c11b0 := decide_eq_true c11
 clear c11
 replace H := bnd H
 obtain ⟨t174, A12, H⟩ := H
 (try dsimp only at H)
 by_cases c13 : t174 = true
 rotate_left
 ·replace c13 := Bool.eq_false_iff.mpr c13
  subst c13
  rw [if_neg Bool.false_ne_true] at H
  have H' := am H
  clear H
  obtain ⟨p173, q173, ad173, e173, hx173_0⟩ := bint HR172_0.1 HB.1 x21_2
  cases e173
  go_wp2_with (first | ((with_reducible refine gate_callee (f := 73) rfl ?_); refine gC 27 Try.func73 _ (digraph_inside.calls _ _ l0 (rd (rd_L11 l0 x14_1) x21_2) false _ (csb HR0 HB) HC0.1 A12.1) ?_; rintro e w' ⟨rfl, ⟨nd, rfl⟩⟩; refine ⟨_, rfl, ?_⟩))
  go_roundg k2
  case measure => have := HK1.1; have := HK2.1; omega
  case rel => exact ⟨(x3_2), (wrap64 (x21_2 + 1)), prs, H', ⟨by have := HK1.1; have := HK2.1; omega⟩, ⟨pks HO_3.1⟩, ⟨pbg⟩⟩
 subst c13
 rw [if_pos rfl] at H
 replace H := ifp H
 obtain ⟨c14, H⟩ := H
 have c14b0 := decide_eq_true c14
 clear c14
 replace H := ifp H
 obtain ⟨c15, H⟩ := H
 have c15b0 := decide_eq_true c15
 clear c15
 by_cases c16 : ((rd_L11 x3_2 (rd (rd_L11 l0 x14_1) x21_2)).length : Int) = 0
 ·rw [if_pos c16] at H
  have c16b0 : (((rd_L11 x3_2 (rd (rd_L11 l0 x14_1) x21_2)).length : Int) == 0) = true := beq_iff_eq.mpr c16
  have c16b1 : (((rd_L11 x3_2 (rd (rd_L11 l0 x14_1) x21_2)).length : Int) != 0) = false := bne_eq_false_iff_eq.mpr c16
  clear c16
  replace H := ifp H
  obtain ⟨c17, H⟩ := H
  have LMc17 := am c17
  clear c17
  obtain ⟨y177, hy177⟩ : ∃ y_ : List Int, y_ = ((rd_L11 x3_2 (rd (rd_L11 l0 x14_1) x21_2)) ++ [x14_1]) := ⟨_, rfl⟩
  replace H : (digraph_Reverse.l1 k2 l0 (x3_2.set ((rd (rd_L11 l0 x14_1) x21_2) : Int).toNat y177) x14_1 l0 (l0.length : Int) x14_1 (rd_L11 l0 x14_1) ((rd_L11 l0 x14_1).length : Int) (wrap64 (x21_2 + 1))) = some r := hrp hy177 H
  have Ny177 := am hy177
  clear hy177
  obtain ⟨y180, hy180⟩ : ∃ y_ : List (List Int), y_ = (x3_2.set ((rd (rd_L11 l0 x14_1) x21_2) : Int).toNat y177) := ⟨_, rfl⟩
  replace H : (digraph_Reverse.l1 k2 l0 y180 x14_1 l0 (l0.length : Int) x14_1 (rd_L11 l0 x14_1) ((rd_L11 l0 x14_1).length : Int) (wrap64 (x21_2 + 1))) = some r := hrp hy180 H
  have Ny180 := am hy180
  clear hy180
  have H' := am H
  clear H
  obtain ⟨p173, q173, ad173, e173, hx173_0⟩ := bint HR172_0.1 HB.1 x21_2
  cases e173
  go_wp2_with (first | ((with_reducible refine gate_callee (f := 73) rfl ?_); refine gC 27 Try.func73 _ (digraph_inside.calls _ _ l0 (rd (rd_L11 l0 x14_1) x21_2) true _ (csb HR0 HB) HC0.1 A12.1) ?_; rintro e w' ⟨rfl, ⟨nd, rfl⟩⟩; refine ⟨_, rfl, ?_⟩; (try (rw [drewN_self wr]; generalize hq_ : World.drewN wr _ = wr; replace HO_3 : Aside0 (Kd.S (Kd.slice 3 (Kd.int .i64)) 39 wr w.heap.size (fun _ => True) v170 x3_2) := ⟨by rw [← hq_]; exact (pks HO_3.1)⟩; replace HB : Aside0 (Below w.heap.size w wr) := ⟨by rw [← hq_]; exact pbl⟩; clear hq_)); obtain ⟨Ao19, co19, eo19⟩ := Kd.S_slice HO_3.1; subst eo19; have p175 : 0 ≤ ((rd (rd_L11 l0 x14_1) x21_2) : Int) := dq; have q175 : (rd (rd_L11 l0 x14_1) x21_2) < (x3_2.length : Int) := dq; obtain ⟨ad175, A175_0, c175_0, e175, hx175_0, hl175_0, hi175_0⟩ := at_L11 (Kd.S_reads' HO_3.1).2.2 (rd (rd_L11 l0 x14_1) x21_2) p175 q175; cases e175; obtain ⟨ce175, hce175, hMe175, hcc175⟩ := Kd.S_get HO_3.1 [] (rd (rd_L11 l0 x14_1) x21_2) p175 (by first | exact q175 | exact dq | (have e_ := (Kd.S_reads' HO_3.1).1; omega)); obtain ⟨ve175_0, rfl, ge175_0⟩ := hMe175; have hv175_0 := hcc175 0 _ rfl; rw [Nat.add_zero, show ((Kd.slice 3 (Kd.int .i64))).sz = 1 from rfl, Nat.mul_one] at hv175_0; replace hv175_0 := Option.some.inj (hv175_0.symm.trans hx175_0); rw [hv175_0] at ge175_0; have HL175_0 := am (show Kd.R (Kd.int .i64) 3 _ _ _ _ (rd_L11 x3_2 (rd (rd_L11 l0 x14_1) x21_2)) from ge175_0); clear hv175_0 ge175_0; have HX175_0 := am hx175_0; clear hcc175 hce175; have HR175_0 := am hi175_0; have HC175_0 := am hl175_0; clear hi175_0 hl175_0; replace p175 := eq_true p175; replace q175 := eq_true q175; have p176 : 0 ≤ ((rd (rd_L11 l0 x14_1) x21_2) : Int) := dq; have q176 : (rd (rd_L11 l0 x14_1) x21_2) < (x3_2.length : Int) := dq; obtain ⟨ad176, A176_0, c176_0, e176, hx176_0, hl176_0, hi176_0⟩ := at_L11 (Kd.S_reads' HO_3.1).2.2 (rd (rd_L11 l0 x14_1) x21_2) p176 q176; obtain rfl : ad175 = ad176 := (by injection e176); obtain ⟨ce176, hce176, hMe176, hcc176⟩ := Kd.S_get HO_3.1 [] (rd (rd_L11 l0 x14_1) x21_2) p176 (by first | exact q176 | exact dq | (have e_ := (Kd.S_reads' HO_3.1).1; omega)); obtain ⟨ve176_0, rfl, ge176_0⟩ := hMe176; have hv176_0 := hcc176 0 _ rfl; rw [Nat.add_zero, show ((Kd.slice 3 (Kd.int .i64))).sz = 1 from rfl, Nat.mul_one] at hv176_0; replace hv176_0 := Option.some.inj (hv176_0.symm.trans hx176_0); rw [hv176_0] at ge176_0; have HL176_0 := am (show Kd.R (Kd.int .i64) 3 _ _ _ _ (rd_L11 x3_2 (rd (rd_L11 l0 x14_1) x21_2)) from ge176_0); clear hv176_0 ge176_0; have HX176_0 := am hx176_0; clear hcc176 hce176; have HR176_0 := am hi176_0; have HC176_0 := am hl176_0; clear hi176_0 hl176_0; replace p176 := eq_true p176; replace q176 := eq_true q176; have ea_ := Option.some.inj (hx175_0.symm.trans hx176_0); injection ea_ with ea_ en_ ec_; subst ea_; subst ec_; clear en_; obtain ⟨go20, co20, eo20, gb20, gl20, cl20, HG20⟩ := Kd.S_form HO_3.1 (by have h_ : ((rd (rd_L11 l0 x14_1) x21_2) : Int) < ((x3_2.length : Int) : Int) := dq; have h2_ : 0 ≤ ((rd (rd_L11 l0 x14_1) x21_2) : Int) := (dq); omega); (first | cases eo20 | (injection eo20 with ea_ en_ ec_; (first | subst ea_ | (injection ea_ with ea_; subst ea_)); subst ec_; clear en_)); have GB20 := am gb20; have GG20 := am HG20; clear gb20 gl20 HG20; (first | simp only [add_plain] at hx175_0 | skip); (first | simp only [add_plain] at hx176_0 | skip); obtain ⟨oki20, ce20, hcl20, hM20, hcc20, _, _, hH20⟩ := Kd.S_elem HO_3.1 [] ((rd (rd_L11 l0 x14_1) x21_2) : Int) (dq) (by have h_ : ((rd (rd_L11 l0 x14_1) x21_2) : Int) < ((x3_2.length : Int) : Int) := dq; first | exact h_ | (have e_ := (Kd.S_reads' HO_3.1).1; omega) | simpa using h_); obtain ⟨ve20_0, rfl, ge20_0⟩ := hM20; have hv20 := hcc20 0 _ rfl; have hX20 := HX176_0.1; (try simp only [add_plain] at hX20); (try simp only [Nat.add_zero] at hv20); (try rw [show ((Kd.slice 3 (Kd.int .i64))).sz = 1 from rfl, Nat.mul_one] at hv20); replace hv20 := Option.some.inj (hv20.symm.trans hX20); subst hv20; clear hX20 hcc20 hcl20; have UU20 := am (show Kd.R (Kd.int .i64) 3 _ w.heap.size oki20 (.slice A175_0 (rd_L11 x3_2 (rd (rd_L11 l0 x14_1) x21_2)).length c175_0) (rd_L11 x3_2 (rd (rd_L11 l0 x14_1) x21_2)) from ge20_0); have HH20 := am hH20; have HN20 := am (Kd.S_reads' HO_3.1).1; clear hH20 ge20_0) | ((with_reducible refine gate_builtin (b := .append) (xs := #[.tmp 53, .tmp 55]) rfl ?_); at_builtin; refine Kd.R_append (Kd.int .i64) (w0 := w) w.heap.size rfl (.tmp 53) (.tmp 55) 39 3 (.int .i64 0) 8 rfl Try.underlying39 info3 rfl (by decide) (by omega) (.slice A175_0 (rd_L11 x3_2 (rd (rd_L11 l0 x14_1) x21_2)).length c175_0) (rd_L11 x3_2 (rd (rd_L11 l0 x14_1) x21_2)) x14_1 [.int .i64 x14_1] (fun k_ => oki20 k_ ∨ ((fun _ => True)) k_ ∧ wr.heap.size ≤ k_) (fun _ => False) rfl rfl ?aP (fun _ hk => hk.elim) ?aF ?aO ?aB ?aS ?aL ?_; (case aP => exact rfl); (case aB => exact pbl); (case aF => exact (fun k_ hk => .inr ⟨trivial, hk⟩)); (case aO => exact (by (with_reducible repeat (first | apply Kd.R_alloc | apply Kd.R_drewN | apply Kd.R_drew)); exact Kd.R_mono UU20.1 (fun _ hk => .inl hk))); (case aS => exact (below_size pbl)); (case aL => have := LMc17.1; omega); intro v178 w21 ho hb hg hat; rw [← Ny177.1] at ho; have HO179 := am ho; replace HB := am hb; replace HH20 := am (Kd.H_grown (Kd.H_widen (by repeat (first | exact HH20.1 | refine Kd.H_alloc ?_ _ | refine Kd.H_drewN ?_ _ | refine Kd.H_drew ?_))) hg (fun k_ e_ => .inl (UU20.1.1 k_ e_))); (try clear HO_3 UU20 HL175_0 HL176_0); clear ho hb hg hat; have p18 : 0 ≤ ((rd (rd_L11 l0 x14_1) x21_2) : Int) := dq; have q18 : ((rd (rd_L11 l0 x14_1) x21_2) : Int) < ((x3_2.length : Int) : Int) := dq; replace p18 := eq_true p18; replace q18 := eq_true q18; obtain ⟨Ao24, co24, eo24⟩ := Kd.R_slice HO179.1; subst eo24; obtain ⟨_, _, hraw22, _, _, hcc22, _⟩ := Kd.H_raw HH20.1 (dq) (by have h_ : ((rd (rd_L11 l0 x14_1) x21_2) : Int) < ((x3_2.length : Int) : Int) := dq; first | exact h_ | (have e_ := (HN20.1); omega) | simpa using h_); obtain ⟨_, hfr22⟩ := Kd.H_at HH20.1 (dq) (by have h_ : ((rd (rd_L11 l0 x14_1) x21_2) : Int) < ((x3_2.length : Int) : Int) := dq; first | exact h_ | (have e_ := (HN20.1); omega) | simpa using h_); have hx22_0 := hcc22 0 _ rfl; have hf22_0 := hfr22 0; (try simp only [Nat.add_zero] at hx22_0 hf22_0); (try rw [show ((Kd.slice 3 (Kd.int .i64))).sz = 1 from rfl, Nat.mul_one] at hx22_0); (try rw [show ((Kd.slice 3 (Kd.int .i64))).sz = 1 from rfl, Nat.mul_one] at hf22_0); have HP22 := Kd.S_seg0 HH20.1 (dq) (by have h_ : ((rd (rd_L11 l0 x14_1) x21_2) : Int) < ((x3_2.length : Int) : Int) := dq; first | exact h_ | (have e_ := (HN20.1); omega) | simpa using h_) (seg := [.slice Ao24 y177.length co24]) (j := 0) (show 1 ≤ 1 from by decide) (x' := y177) (Kd.M_row HO179.1) (fun _ hk => hk); (try simp only [show ((Kd.slice 3 (Kd.int .i64))).sz = 1 from rfl, Nat.mul_one, Nat.add_zero] at HP22); clear hcc22 hfr22) | ((with_reducible refine gate_store (t := 39) (p := 57) rfl ?_); refine store_event (t := 39) (p := 57) (v := ?vo_w23) (w1 := (w21.setCell ⟨go20, ((rd (rd_L11 l0 x14_1) x21_2) : Int).toNat, none⟩ (.slice Ao24 y177.length co24))) ?hg ?ho ?hn ?hr ?_; (case ho => rfl); (case hg => rfl); (case hn => rfl); (case hr => first | (go_simp; done) | (go_simp; rfl)); intro w23 hw; have hg : w21.grownBy w23 (some go20) := (by rw [hw]; exact HP22.2); have hp_ : Kd.S (Kd.slice 3 (Kd.int .i64)) 39 w23 w.heap.size (fun _ => True) (.slice (some ⟨go20, 0, none⟩) x3_2.length co19) y180 := (by rw [hw, Ny180.1]; exact HP22.1); clear HP22; have HO_3 := am hp_; replace HB := am ((by rw [hw]; exact below_set HB.1 GB20.1 : Below w.heap.size w w23)); (try clear HO179 HH20); clear hg hw hp_ hraw22))
  go_roundg k2
  case measure => have := HK1.1; have := HK2.1; omega
  case rel => exact ⟨(y180), (wrap64 (x21_2 + 1)), prs, H', ⟨by have := HK1.1; have := HK2.1; omega⟩, ⟨pks HO_3.1⟩, ⟨pbg⟩⟩
 rw [if_neg c16] at H
 have c16b0 : (((rd_L11 x3_2 (rd (rd_L11 l0 x14_1) x21_2)).length : Int) == 0) = false := beq_eq_false_iff_ne.mpr c16
 have c16b1 : (((rd_L11 x3_2 (rd (rd_L11 l0 x14_1) x21_2)).length : Int) != 0) = true := bne_iff_ne.mpr c16
 have c16b2 : ¬ ((rd_L11 x3_2 (rd (rd_L11 l0 x14_1) x21_2)) = []) := fun h_ => c16 (by rw [h_]; rfl)
 obtain ⟨ji25, hji25⟩ : ∃ j_ : Int, (wrap64 (((rd_L11 x3_2 (rd (rd_L11 l0 x14_1) x21_2)).length : Int) - 1)) = j_ := ⟨_, rfl⟩
 replace H : (if 0 ≤ (ji25) then (if (ji25) < ((rd_L11 x3_2 (rd (rd_L11 l0 x14_1) x21_2)).length : Int) then (if (rd (rd_L11 x3_2 (rd (rd_L11 l0 x14_1) x21_2)) (ji25)) = x14_1 then (digraph_Reverse.l1 k2 l0 x3_2 x14_1 l0 (l0.length : Int) x14_1 (rd_L11 l0 x14_1) ((rd_L11 l0 x14_1).length : Int) (wrap64 (x21_2 + 1))) else (if (rd_L11 x3_2 (rd (rd_L11 l0 x14_1) x21_2)).length < 17592186044416 then (digraph_Reverse.l1 k2 l0 (x3_2.set ((rd (rd_L11 l0 x14_1) x21_2) : Int).toNat ((rd_L11 x3_2 (rd (rd_L11 l0 x14_1) x21_2)) ++ [x14_1])) x14_1 l0 (l0.length : Int) x14_1 (rd_L11 l0 x14_1) ((rd_L11 l0 x14_1).length : Int) (wrap64 (x21_2 + 1))) else (none))) else (none)) else (none)) = some r := by first | (rw [hji25] at H; exact H) | (simp only [hji25] at H ⊢; exact H)
 (try rw [hji25] at A12)
 have hji25w : (IntKind.i64.wrap (((rd_L11 x3_2 (rd (rd_L11 l0 x14_1) x21_2)).length : Int) - 1)) = ji25 := (i64_w _).trans hji25
 replace H := ifp H
 obtain ⟨c26, H⟩ := H
 have c26b0 := decide_eq_true c26
 clear c26
 replace H := ifp H
 obtain ⟨c27, H⟩ := H
 have c27b0 := decide_eq_true c27
 clear c27
 by_cases c28 : (rd (rd_L11 x3_2 (rd (rd_L11 l0 x14_1) x21_2)) (ji25)) = x14_1
 ·rw [if_pos c28] at H
  have c28b0 : ((rd (rd_L11 x3_2 (rd (rd_L11 l0 x14_1) x21_2)) (ji25)) == x14_1) = true := beq_iff_eq.mpr c28
  have c28b1 : ((rd (rd_L11 x3_2 (rd (rd_L11 l0 x14_1) x21_2)) (ji25)) != x14_1) = false := bne_eq_false_iff_eq.mpr c28
  clear c28
  have H' := am H
  clear H
  obtain ⟨p173, q173, ad173, e173, hx173_0⟩ := bint HR172_0.1 HB.1 x21_2
  cases e173
  go_wp2_with (first | ((with_reducible refine gate_callee (f := 73) rfl ?_); refine gC 27 Try.func73 _ (digraph_inside.calls _ _ l0 (rd (rd_L11 l0 x14_1) x21_2) true _ (csb HR0 HB) HC0.1 A12.1) ?_; rintro e w' ⟨rfl, ⟨nd, rfl⟩⟩; refine ⟨_, rfl, ?_⟩; obtain ⟨Ao29, co29, eo29⟩ := Kd.S_slice HO_3.1; subst eo29; have p175 : 0 ≤ ((rd (rd_L11 l0 x14_1) x21_2) : Int) := dq; have q175 : (rd (rd_L11 l0 x14_1) x21_2) < (x3_2.length : Int) := dq; obtain ⟨ad175, A175_0, c175_0, e175, hx175_0, hl175_0, hi175_0⟩ := at_L11 (Kd.S_reads' HO_3.1).2.2 (rd (rd_L11 l0 x14_1) x21_2) p175 q175; cases e175; obtain ⟨ce175, hce175, hMe175, hcc175⟩ := Kd.S_get HO_3.1 [] (rd (rd_L11 l0 x14_1) x21_2) p175 (by first | exact q175 | exact dq | (have e_ := (Kd.S_reads' HO_3.1).1; omega)); obtain ⟨ve175_0, rfl, ge175_0⟩ := hMe175; have hv175_0 := hcc175 0 _ rfl; rw [Nat.add_zero, show ((Kd.slice 3 (Kd.int .i64))).sz = 1 from rfl, Nat.mul_one] at hv175_0; replace hv175_0 := Option.some.inj (hv175_0.symm.trans hx175_0); rw [hv175_0] at ge175_0; have HL175_0 := am (show Kd.R (Kd.int .i64) 3 _ _ _ _ (rd_L11 x3_2 (rd (rd_L11 l0 x14_1) x21_2)) from ge175_0); clear hv175_0 ge175_0; have HX175_0 := am hx175_0; clear hcc175 hce175; have HR175_0 := am hi175_0; have HC175_0 := am hl175_0; clear hi175_0 hl175_0; replace p175 := eq_true p175; replace q175 := eq_true q175; have p181 : 0 ≤ ((rd (rd_L11 l0 x14_1) x21_2) : Int) := dq; have q181 : (rd (rd_L11 l0 x14_1) x21_2) < (x3_2.length : Int) := dq; obtain ⟨ad181, A181_0, c181_0, e181, hx181_0, hl181_0, hi181_0⟩ := at_L11 (Kd.S_reads' HO_3.1).2.2 (rd (rd_L11 l0 x14_1) x21_2) p181 q181; obtain rfl : ad175 = ad181 := (by injection e181); obtain ⟨ce181, hce181, hMe181, hcc181⟩ := Kd.S_get HO_3.1 [] (rd (rd_L11 l0 x14_1) x21_2) p181 (by first | exact q181 | exact dq | (have e_ := (Kd.S_reads' HO_3.1).1; omega)); obtain ⟨ve181_0, rfl, ge181_0⟩ := hMe181; have hv181_0 := hcc181 0 _ rfl; rw [Nat.add_zero, show ((Kd.slice 3 (Kd.int .i64))).sz = 1 from rfl, Nat.mul_one] at hv181_0; replace hv181_0 := Option.some.inj (hv181_0.symm.trans hx181_0); rw [hv181_0] at ge181_0; have HL181_0 := am (show Kd.R (Kd.int .i64) 3 _ _ _ _ (rd_L11 x3_2 (rd (rd_L11 l0 x14_1) x21_2)) from ge181_0); clear hv181_0 ge181_0; have HX181_0 := am hx181_0; clear hcc181 hce181; have HR181_0 := am hi181_0; have HC181_0 := am hl181_0; clear hi181_0 hl181_0; replace p181 := eq_true p181; replace q181 := eq_true q181; have ea_ := Option.some.inj (hx175_0.symm.trans hx181_0); injection ea_ with ea_ en_ ec_; subst ea_; subst ec_; clear en_; have p182 : 0 ≤ ((ji25) : Int) := dq; have q182 : (ji25) < ((rd_L11 x3_2 (rd (rd_L11 l0 x14_1) x21_2)).length : Int) := dq; obtain ⟨ad182, e182, hx182_0⟩ := Kd.at_int (by repeat (first | (with_reducible exact HR181_0.1) | (with_reducible refine Kd.C_alloc ?_ _) | (with_reducible refine Kd.C_drewN ?_ _) | (with_reducible refine Kd.C_drew ?_) | exact HR181_0.1)) (ji25) p182 q182; cases e182; replace p182 := eq_true p182; replace q182 := eq_true q182))
  go_roundg k2
  case measure => have := HK1.1; have := HK2.1; omega
  case rel => exact ⟨(x3_2), (wrap64 (x21_2 + 1)), prs, H', ⟨by have := HK1.1; have := HK2.1; omega⟩, ⟨pks HO_3.1⟩, ⟨pbg⟩⟩
 rw [if_neg c28] at H
 have c28b0 : ((rd (rd_L11 x3_2 (rd (rd_L11 l0 x14_1) x21_2)) (ji25)) == x14_1) = false := beq_eq_false_iff_ne.mpr c28
 have c28b1 : ((rd (rd_L11 x3_2 (rd (rd_L11 l0 x14_1) x21_2)) (ji25)) != x14_1) = true := bne_iff_ne.mpr c28
 replace H := ifp H
 obtain ⟨c30, H⟩ := H
 have LMc30 := am c30
 clear c30
 obtain ⟨y184, hy184⟩ : ∃ y_ : List Int, y_ = ((rd_L11 x3_2 (rd (rd_L11 l0 x14_1) x21_2)) ++ [x14_1]) := ⟨_, rfl⟩
 replace H : (digraph_Reverse.l1 k2 l0 (x3_2.set ((rd (rd_L11 l0 x14_1) x21_2) : Int).toNat y184) x14_1 l0 (l0.length : Int) x14_1 (rd_L11 l0 x14_1) ((rd_L11 l0 x14_1).length : Int) (wrap64 (x21_2 + 1))) = some r := hrp hy184 H
 have Ny184 := am hy184
 clear hy184
 obtain ⟨y187, hy187⟩ : ∃ y_ : List (List Int), y_ = (x3_2.set ((rd (rd_L11 l0 x14_1) x21_2) : Int).toNat y184) := ⟨_, rfl⟩
 replace H : (digraph_Reverse.l1 k2 l0 y187 x14_1 l0 (l0.length : Int) x14_1 (rd_L11 l0 x14_1) ((rd_L11 l0 x14_1).length : Int) (wrap64 (x21_2 + 1))) = some r := hrp hy187 H
 have Ny187 := am hy187
 clear hy187
 have H' := am H
 clear H
 obtain ⟨p173, q173, ad173, e173, hx173_0⟩ := bint HR172_0.1 HB.1 x21_2
 cases e173
 go_wp2_with (first | ((with_reducible refine gate_callee (f := 73) rfl ?_); refine gC 27 Try.func73 _ (digraph_inside.calls _ _ l0 (rd (rd_L11 l0 x14_1) x21_2) true _ (csb HR0 HB) HC0.1 A12.1) ?_; rintro e w' ⟨rfl, ⟨nd, rfl⟩⟩; refine ⟨_, rfl, ?_⟩; (try (rw [drewN_self wr]; generalize hq_ : World.drewN wr _ = wr; replace HO_3 : Aside0 (Kd.S (Kd.slice 3 (Kd.int .i64)) 39 wr w.heap.size (fun _ => True) v170 x3_2) := ⟨by rw [← hq_]; exact (pks HO_3.1)⟩; replace HB : Aside0 (Below w.heap.size w wr) := ⟨by rw [← hq_]; exact pbl⟩; clear hq_)); obtain ⟨Ao32, co32, eo32⟩ := Kd.S_slice HO_3.1; subst eo32; have p175 : 0 ≤ ((rd (rd_L11 l0 x14_1) x21_2) : Int) := dq; have q175 : (rd (rd_L11 l0 x14_1) x21_2) < (x3_2.length : Int) := dq; obtain ⟨ad175, A175_0, c175_0, e175, hx175_0, hl175_0, hi175_0⟩ := at_L11 (Kd.S_reads' HO_3.1).2.2 (rd (rd_L11 l0 x14_1) x21_2) p175 q175; cases e175; obtain ⟨ce175, hce175, hMe175, hcc175⟩ := Kd.S_get HO_3.1 [] (rd (rd_L11 l0 x14_1) x21_2) p175 (by first | exact q175 | exact dq | (have e_ := (Kd.S_reads' HO_3.1).1; omega)); obtain ⟨ve175_0, rfl, ge175_0⟩ := hMe175; have hv175_0 := hcc175 0 _ rfl; rw [Nat.add_zero, show ((Kd.slice 3 (Kd.int .i64))).sz = 1 from rfl, Nat.mul_one] at hv175_0; replace hv175_0 := Option.some.inj (hv175_0.symm.trans hx175_0); rw [hv175_0] at ge175_0; have HL175_0 := am (show Kd.R (Kd.int .i64) 3 _ _ _ _ (rd_L11 x3_2 (rd (rd_L11 l0 x14_1) x21_2)) from ge175_0); clear hv175_0 ge175_0; have HX175_0 := am hx175_0; clear hcc175 hce175; have HR175_0 := am hi175_0; have HC175_0 := am hl175_0; clear hi175_0 hl175_0; replace p175 := eq_true p175; replace q175 := eq_true q175; have p181 : 0 ≤ ((rd (rd_L11 l0 x14_1) x21_2) : Int) := dq; have q181 : (rd (rd_L11 l0 x14_1) x21_2) < (x3_2.length : Int) := dq; obtain ⟨ad181, A181_0, c181_0, e181, hx181_0, hl181_0, hi181_0⟩ := at_L11 (Kd.S_reads' HO_3.1).2.2 (rd (rd_L11 l0 x14_1) x21_2) p181 q181; obtain rfl : ad175 = ad181 := (by injection e181); obtain ⟨ce181, hce181, hMe181, hcc181⟩ := Kd.S_get HO_3.1 [] (rd (rd_L11 l0 x14_1) x21_2) p181 (by first | exact q181 | exact dq | (have e_ := (Kd.S_reads' HO_3.1).1; omega)); obtain ⟨ve181_0, rfl, ge181_0⟩ := hMe181; have hv181_0 := hcc181 0 _ rfl; rw [Nat.add_zero, show ((Kd.slice 3 (Kd.int .i64))).sz = 1 from rfl, Nat.mul_one] at hv181_0; replace hv181_0 := Option.some.inj (hv181_0.symm.trans hx181_0); rw [hv181_0] at ge181_0; have HL181_0 := am (show Kd.R (Kd.int .i64) 3 _ _ _ _ (rd_L11 x3_2 (rd (rd_L11 l0 x14_1) x21_2)) from ge181_0); clear hv181_0 ge181_0; have HX181_0 := am hx181_0; clear hcc181 hce181; have HR181_0 := am hi181_0; have HC181_0 := am hl181_0; clear hi181_0 hl181_0; replace p181 := eq_true p181; replace q181 := eq_true q181; have ea_ := Option.some.inj (hx175_0.symm.trans hx181_0); injection ea_ with ea_ en_ ec_; subst ea_; subst ec_; clear en_; have p182 : 0 ≤ ((ji25) : Int) := dq; have q182 : (ji25) < ((rd_L11 x3_2 (rd (rd_L11 l0 x14_1) x21_2)).length : Int) := dq; obtain ⟨ad182, e182, hx182_0⟩ := Kd.at_int (by repeat (first | (with_reducible exact HR181_0.1) | (with_reducible refine Kd.C_alloc ?_ _) | (with_reducible refine Kd.C_drewN ?_ _) | (with_reducible refine Kd.C_drew ?_) | exact HR181_0.1)) (ji25) p182 q182; cases e182; replace p182 := eq_true p182; replace q182 := eq_true q182; have p183 : 0 ≤ ((rd (rd_L11 l0 x14_1) x21_2) : Int) := dq; have q183 : (rd (rd_L11 l0 x14_1) x21_2) < (x3_2.length : Int) := dq; obtain ⟨ad183, A183_0, c183_0, e183, hx183_0, hl183_0, hi183_0⟩ := at_L11 (Kd.S_reads' HO_3.1).2.2 (rd (rd_L11 l0 x14_1) x21_2) p183 q183; obtain rfl : ad175 = ad183 := (by injection e183); obtain ⟨ce183, hce183, hMe183, hcc183⟩ := Kd.S_get HO_3.1 [] (rd (rd_L11 l0 x14_1) x21_2) p183 (by first | exact q183 | exact dq | (have e_ := (Kd.S_reads' HO_3.1).1; omega)); obtain ⟨ve183_0, rfl, ge183_0⟩ := hMe183; have hv183_0 := hcc183 0 _ rfl; rw [Nat.add_zero, show ((Kd.slice 3 (Kd.int .i64))).sz = 1 from rfl, Nat.mul_one] at hv183_0; replace hv183_0 := Option.some.inj (hv183_0.symm.trans hx183_0); rw [hv183_0] at ge183_0; have HL183_0 := am (show Kd.R (Kd.int .i64) 3 _ _ _ _ (rd_L11 x3_2 (rd (rd_L11 l0 x14_1) x21_2)) from ge183_0); clear hv183_0 ge183_0; have HX183_0 := am hx183_0; clear hcc183 hce183; have HR183_0 := am hi183_0; have HC183_0 := am hl183_0; clear hi183_0 hl183_0; replace p183 := eq_true p183; replace q183 := eq_true q183; have ea_ := Option.some.inj (hx175_0.symm.trans hx183_0); injection ea_ with ea_ en_ ec_; subst ea_; subst ec_; clear en_; obtain ⟨go33, co33, eo33, gb33, gl33, cl33, HG33⟩ := Kd.S_form HO_3.1 (by have h_ : ((rd (rd_L11 l0 x14_1) x21_2) : Int) < ((x3_2.length : Int) : Int) := dq; have h2_ : 0 ≤ ((rd (rd_L11 l0 x14_1) x21_2) : Int) := (dq); omega); (first | cases eo33 | (injection eo33 with ea_ en_ ec_; (first | subst ea_ | (injection ea_ with ea_; subst ea_)); subst ec_; clear en_)); have GB33 := am gb33; have GG33 := am HG33; clear gb33 gl33 HG33; (first | simp only [add_plain] at hx175_0 | skip); (first | simp only [add_plain] at hx181_0 | skip); (first | simp only [add_plain] at hx183_0 | skip); obtain ⟨oki33, ce33, hcl33, hM33, hcc33, _, _, hH33⟩ := Kd.S_elem HO_3.1 [] ((rd (rd_L11 l0 x14_1) x21_2) : Int) (dq) (by have h_ : ((rd (rd_L11 l0 x14_1) x21_2) : Int) < ((x3_2.length : Int) : Int) := dq; first | exact h_ | (have e_ := (Kd.S_reads' HO_3.1).1; omega) | simpa using h_); obtain ⟨ve33_0, rfl, ge33_0⟩ := hM33; have hv33 := hcc33 0 _ rfl; have hX33 := HX183_0.1; (try simp only [add_plain] at hX33); (try simp only [Nat.add_zero] at hv33); (try rw [show ((Kd.slice 3 (Kd.int .i64))).sz = 1 from rfl, Nat.mul_one] at hv33); replace hv33 := Option.some.inj (hv33.symm.trans hX33); subst hv33; clear hX33 hcc33 hcl33; have UU33 := am (show Kd.R (Kd.int .i64) 3 _ w.heap.size oki33 (.slice (some ad182) (rd_L11 x3_2 (rd (rd_L11 l0 x14_1) x21_2)).length c175_0) (rd_L11 x3_2 (rd (rd_L11 l0 x14_1) x21_2)) from ge33_0); have HH33 := am hH33; have HN33 := am (Kd.S_reads' HO_3.1).1; clear hH33 ge33_0) | ((with_reducible refine gate_builtin (b := .append) (xs := #[.tmp 53, .tmp 55]) rfl ?_); at_builtin; refine Kd.R_append (Kd.int .i64) (w0 := w) w.heap.size rfl (.tmp 53) (.tmp 55) 39 3 (.int .i64 0) 8 rfl Try.underlying39 info3 rfl (by decide) (by omega) (.slice (some ad182) (rd_L11 x3_2 (rd (rd_L11 l0 x14_1) x21_2)).length c175_0) (rd_L11 x3_2 (rd (rd_L11 l0 x14_1) x21_2)) x14_1 [.int .i64 x14_1] (fun k_ => oki33 k_ ∨ ((fun _ => True)) k_ ∧ wr.heap.size ≤ k_) (fun _ => False) rfl rfl ?aP (fun _ hk => hk.elim) ?aF ?aO ?aB ?aS ?aL ?_; (case aP => exact rfl); (case aB => exact pbl); (case aF => exact (fun k_ hk => .inr ⟨trivial, hk⟩)); (case aO => exact (by (with_reducible repeat (first | apply Kd.R_alloc | apply Kd.R_drewN | apply Kd.R_drew)); exact Kd.R_mono UU33.1 (fun _ hk => .inl hk))); (case aS => exact (below_size pbl)); (case aL => have := LMc30.1; omega); intro v185 w34 ho hb hg hat; rw [← Ny184.1] at ho; have HO186 := am ho; replace HB := am hb; replace HH33 := am (Kd.H_grown (Kd.H_widen (by repeat (first | exact HH33.1 | refine Kd.H_alloc ?_ _ | refine Kd.H_drewN ?_ _ | refine Kd.H_drew ?_))) hg (fun k_ e_ => .inl (UU33.1.1 k_ e_))); (try clear HO_3 UU33 HL175_0 HL181_0 HL183_0); clear ho hb hg hat; have p31 : 0 ≤ ((rd (rd_L11 l0 x14_1) x21_2) : Int) := dq; have q31 : ((rd (rd_L11 l0 x14_1) x21_2) : Int) < ((x3_2.length : Int) : Int) := dq; replace p31 := eq_true p31; replace q31 := eq_true q31; obtain ⟨Ao37, co37, eo37⟩ := Kd.R_slice HO186.1; subst eo37; obtain ⟨_, _, hraw35, _, _, hcc35, _⟩ := Kd.H_raw HH33.1 (dq) (by have h_ : ((rd (rd_L11 l0 x14_1) x21_2) : Int) < ((x3_2.length : Int) : Int) := dq; first | exact h_ | (have e_ := (HN33.1); omega) | simpa using h_); obtain ⟨_, hfr35⟩ := Kd.H_at HH33.1 (dq) (by have h_ : ((rd (rd_L11 l0 x14_1) x21_2) : Int) < ((x3_2.length : Int) : Int) := dq; first | exact h_ | (have e_ := (HN33.1); omega) | simpa using h_); have hx35_0 := hcc35 0 _ rfl; have hf35_0 := hfr35 0; (try simp only [Nat.add_zero] at hx35_0 hf35_0); (try rw [show ((Kd.slice 3 (Kd.int .i64))).sz = 1 from rfl, Nat.mul_one] at hx35_0); (try rw [show ((Kd.slice 3 (Kd.int .i64))).sz = 1 from rfl, Nat.mul_one] at hf35_0); have HP35 := Kd.S_seg0 HH33.1 (dq) (by have h_ : ((rd (rd_L11 l0 x14_1) x21_2) : Int) < ((x3_2.length : Int) : Int) := dq; first | exact h_ | (have e_ := (HN33.1); omega) | simpa using h_) (seg := [.slice Ao37 y184.length co37]) (j := 0) (show 1 ≤ 1 from by decide) (x' := y184) (Kd.M_row HO186.1) (fun _ hk => hk); (try simp only [show ((Kd.slice 3 (Kd.int .i64))).sz = 1 from rfl, Nat.mul_one, Nat.add_zero] at HP35); clear hcc35 hfr35) | ((with_reducible refine gate_store (t := 39) (p := 57) rfl ?_); refine store_event (t := 39) (p := 57) (v := ?vo_w36) (w1 := (w34.setCell ⟨go33, ((rd (rd_L11 l0 x14_1) x21_2) : Int).toNat, none⟩ (.slice Ao37 y184.length co37))) ?hg ?ho ?hn ?hr ?_; (case ho => rfl); (case hg => rfl); (case hn => rfl); (case hr => first | (go_simp; done) | (go_simp; rfl)); intro w36 hw; have hg : w34.grownBy w36 (some go33) := (by rw [hw]; exact HP35.2); have hp_ : Kd.S (Kd.slice 3 (Kd.int .i64)) 39 w36 w.heap.size (fun _ => True) (.slice (some ⟨go33, 0, none⟩) x3_2.length co32) y187 := (by rw [hw, Ny187.1]; exact HP35.1); clear HP35; have HO_3 := am hp_; replace HB := am ((by rw [hw]; exact below_set HB.1 GB33.1 : Below w.heap.size w w36)); (try clear HO186 HH33); clear hg hw hp_ hraw35))
 go_roundg k2
 case measure => have := HK1.1; have := HK2.1; omega
 case rel => exact ⟨(y187), (wrap64 (x21_2 + 1)), prs, H', ⟨by have := HK1.1; have := HK2.1; omega⟩, ⟨pks HO_3.1⟩, ⟨pbg⟩⟩

/-! ### petrinetlaw43_line: function 34 -/
def petrinetlaw43_line.f  : Option (ByteArray × (List (S52)) × (List (S48))) := some ((⟨#[110]⟩ : ByteArray), (([(⟨(⟨#[112]⟩ : ByteArray), 0, 0⟩ : S52), (⟨(⟨#[113]⟩ : ByteArray), 2, 0⟩ : S52)] : List (S52))), (([(⟨(⟨#[116]⟩ : ByteArray), (([(⟨0, 1⟩ : S55)] : List (S55))), (([(⟨1, 1⟩ : S55)] : List (S55))), ([] : List (S55)), 0⟩ : S48)] : List (S48))))
set_option maxHeartbeats 8000000 in
set_option maxRecDepth 100000 in
theorem petrinetlaw43_line.calls  (r1 : ByteArray) (r2 : List (S52)) (r3 : List (S48)) (w : World) (h : petrinetlaw43_line.f  = some (r1, r2, r3)) :
  Calls Try.prog 34 #[] w fun e w' => ∃ v1_ v2_ : Value, e = .returned (.agg #[.string r1, v1_, v2_]) ∧ Kd.R k52 52 w' w.heap.size (fun k_ => (w.heap.size ≤ k_)) v1_ r2 ∧ Kd.N k48 48 w' w.heap.size (fun k_ => (w.heap.size ≤ k_) ∧ some k_ ≠ (v1_ : Value).ownBlock) v2_ r3 ∧ Below w.heap.size w w' := by
 have hu25 := Try.underlying25
 have hu52 := Try.underlying52
 have hu55 := Try.underlying55
 have hu48 := Try.underlying48
 have HB := am (Below.refl w.heap.size w)
 have H : (some ((⟨#[110]⟩ : ByteArray), (([(⟨(⟨#[112]⟩ : ByteArray), 0, 0⟩ : S52), (⟨(⟨#[113]⟩ : ByteArray), 2, 0⟩ : S52)] : List (S52))), (([(⟨(⟨#[116]⟩ : ByteArray), (([(⟨0, 1⟩ : S55)] : List (S55))), (([(⟨1, 1⟩ : S55)] : List (S55))), ([] : List (S55)), 0⟩ : S48)] : List (S48))))) = some (r1, r2, r3) := h
 clear h
 obtain ⟨y295, hy295⟩ : ∃ y_ : List (S52), y_ = (([(⟨(⟨#[112]⟩ : ByteArray), 0, 0⟩ : S52), (⟨(⟨#[113]⟩ : ByteArray), 2, 0⟩ : S52)] : List (S52))) := ⟨_, rfl⟩
 replace H : (some ((⟨#[110]⟩ : ByteArray), y295, (([(⟨(⟨#[116]⟩ : ByteArray), (([(⟨0, 1⟩ : S55)] : List (S55))), (([(⟨1, 1⟩ : S55)] : List (S55))), ([] : List (S55)), 0⟩ : S48)] : List (S48))))) = some (r1, r2, r3) := hrp hy295 H
 have Ny295 := am hy295
 clear hy295
 obtain ⟨y298, hy298⟩ : ∃ y_ : List (S55), y_ = (([(⟨0, 1⟩ : S55)] : List (S55))) := ⟨_, rfl⟩
 replace H : (some ((⟨#[110]⟩ : ByteArray), y295, (([(⟨(⟨#[116]⟩ : ByteArray), y298, (([(⟨1, 1⟩ : S55)] : List (S55))), ([] : List (S55)), 0⟩ : S48)] : List (S48))))) = some (r1, r2, r3) := hrp hy298 H
 have Ny298 := am hy298
 clear hy298
 obtain ⟨y301, hy301⟩ : ∃ y_ : List (S55), y_ = (([(⟨1, 1⟩ : S55)] : List (S55))) := ⟨_, rfl⟩
 replace H : (some ((⟨#[110]⟩ : ByteArray), y295, (([(⟨(⟨#[116]⟩ : ByteArray), y298, y301, ([] : List (S55)), 0⟩ : S48)] : List (S48))))) = some (r1, r2, r3) := hrp hy301 H
 have Ny301 := am hy301
 clear hy301
 obtain ⟨y304, hy304⟩ : ∃ y_ : List (S48), y_ = (([(⟨(⟨#[116]⟩ : ByteArray), y298, y301, ([] : List (S55)), 0⟩ : S48)] : List (S48))) := ⟨_, rfl⟩
 replace H : (some ((⟨#[110]⟩ : ByteArray), y295, y304)) = some (r1, r2, r3) := hrp hy304 H
 have Ny304 := am hy304
 clear hy304
 simp only [Option.some.injEq, Prod.mk.injEq] at H
 obtain ⟨rfl, rfl, rfl⟩ := H
 go_enter Try.func34, Try.ntmps34
 go_wp2_with (first | ((with_reducible refine gate_dst (N := 0) rfl ?_); refine box_ev (N := 0) (cs := #[.string (⟨#[]⟩ : ByteArray), .slice none 0 0, .slice none 0 0]) (t := 25) ?_; intro gb294 hg w1 hbox hb; have BK294 := am hbox; have GW294 := gwl hg; have GE294 := GW294; replace HB := bsl hb; clear hb hbox hg) | ((with_reducible refine gate_dst (N := 3) rfl ?_); refine Kd.R_lit k52 _ 52 ?hg (N := 3) ?hd (xs := ([(⟨(⟨#[112]⟩ : ByteArray), 0, 0⟩ : S52), (⟨(⟨#[113]⟩ : ByteArray), 2, 0⟩ : S52)] : List (S52))) (inner := [.string (⟨#[112]⟩ : ByteArray), .int .i64 0, .int .i64 0, .string (⟨#[113]⟩ : ByteArray), .int .i64 2, .int .i64 0]) (ok := fun _ => True) (okp := fun _ => True) ?hr ?hp (fun _ hk => hk) trivial (Below.refl _ _) (Nat.le_refl _) (by simp) ?_; (case hd => rfl); (case hg => rfl); (case hr => first | (go_simp; done) | (go_simp; rfl)); (case hp => exact (Reps.c3 (show Kd.M k52 _ _ _ (⟨(⟨#[112]⟩ : ByteArray), 0, 0⟩ : S52) [.string (⟨#[112]⟩ : ByteArray), .int .i64 0, .int .i64 0] from (k52_mkM _ _ _ (⟨(⟨#[112]⟩ : ByteArray), 0, 0⟩ : S52) )) (Reps.c3 (show Kd.M k52 _ _ _ (⟨(⟨#[113]⟩ : ByteArray), 2, 0⟩ : S52) [.string (⟨#[113]⟩ : ByteArray), .int .i64 2, .int .i64 0] from (k52_mkM _ _ _ (⟨(⟨#[113]⟩ : ByteArray), 2, 0⟩ : S52) )) (Reps.none _ _)))); intro v296 w2 ho3 hb hg_ hnew_; clear hg_ hnew_; (first | rw [← Ny295.1] at ho3 | (simp only [Int.reduceToNat] at ho3; rw [← Ny295.1] at ho3)); have HO297 := am (Kd.R_lower (Kd.R_newM (M := fun k_ => (w.heap.size ≤ k_)) ho3 (below_size pbg) (fun k_ h_ => h_)) (below_size pbg)); replace BK294 := bbh BK294 hb; replace HB := bst hb; clear hb ho3) | ((with_reducible refine gate_dst (N := 5) rfl ?_); refine Kd.R_lit k55 _ 55 ?hg (N := 5) ?hd (xs := ([(⟨0, 1⟩ : S55)] : List (S55))) (inner := [.int .i64 0, .int .i64 1]) (ok := fun _ => True) (okp := fun _ => True) ?hr ?hp (fun _ hk => hk) trivial (Below.refl _ _) (Nat.le_refl _) (by simp) ?_; (case hd => rfl); (case hg => rfl); (case hr => first | (go_simp; done) | (go_simp; rfl)); (case hp => exact (Reps.c2 (show Kd.M k55 _ _ _ (⟨0, 1⟩ : S55) [.int .i64 0, .int .i64 1] from (k55_mkM _ _ _ (⟨0, 1⟩ : S55) )) (Reps.none _ _))); intro v299 w4 ho5 hb hg_ hnew_; clear hg_ hnew_; (first | rw [← Ny298.1] at ho5 | (simp only [Int.reduceToNat] at ho5; rw [← Ny298.1] at ho5)); have HO300 := am (Kd.R_lower (Kd.R_newM (M := fun k_ => (w.heap.size ≤ k_)) ho5 (below_size pbg) (fun k_ h_ => h_)) (below_size pbg)); replace HO297 := rbw HO297 hb; replace BK294 := bbh BK294 hb; replace HB := bst hb; clear hb ho5) | ((with_reducible refine gate_dst (N := 7) rfl ?_); refine Kd.R_lit k55 _ 55 ?hg (N := 7) ?hd (xs := ([(⟨1, 1⟩ : S55)] : List (S55))) (inner := [.int .i64 1, .int .i64 1]) (ok := fun _ => True) (okp := fun _ => True) ?hr ?hp (fun _ hk => hk) trivial (Below.refl _ _) (Nat.le_refl _) (by simp) ?_; (case hd => rfl); (case hg => rfl); (case hr => first | (go_simp; done) | (go_simp; rfl)); (case hp => exact (Reps.c2 (show Kd.M k55 _ _ _ (⟨1, 1⟩ : S55) [.int .i64 1, .int .i64 1] from (k55_mkM _ _ _ (⟨1, 1⟩ : S55) )) (Reps.none _ _))); intro v302 w6 ho7 hb hg_ hnew_; clear hg_ hnew_; (first | rw [← Ny301.1] at ho7 | (simp only [Int.reduceToNat] at ho7; rw [← Ny301.1] at ho7)); have HO303 := am (Kd.R_lower (Kd.R_new' (Kd.R_newM (M := fun k_ => (w.heap.size ≤ k_)) ho7 (below_size pbg) (fun k_ h_ => h_)) (Kd.R_lt (pkr HO300.1))) (below_size pbg)); replace HO297 := rbw HO297 hb; replace HO300 := am (Kd.R_elder' (pkr HO300.1) (Kd.R_base ho7) hb); replace BK294 := bbh BK294 hb; replace HB := bst hb; clear hb ho7; obtain ⟨Ao8, co8, eo8⟩ := Kd.R_slice HO303.1; subst eo8; obtain ⟨Ao9, co9, eo9⟩ := Kd.R_slice HO300.1; subst eo9) | ((with_reducible refine gate_dst (N := 9) rfl ?_); refine Kd.N_lit k48 _ 48 ?hg (N' := 9) ?hd (xs := ([(⟨(⟨#[116]⟩ : ByteArray), y298, y301, ([] : List (S55)), 0⟩ : S48)] : List (S48))) (inner := [.string (⟨#[116]⟩ : ByteArray), .slice Ao9 y298.length co9, .slice Ao8 y301.length co8, .slice none 0 0, .int .i64 0]) (ok := (fun k_ => (w.heap.size ≤ k_) ∧ some k_ ≠ (v296 : Value).ownBlock ∧ k_ ≠ gb294)) (okp := (fun k_ => (w.heap.size ≤ k_) ∧ some k_ ≠ (v296 : Value).ownBlock ∧ k_ ≠ gb294)) ?hr ?hp (fun _ hk => hk) ((show ∀ k_, w6.heap.size ≤ k_ → (fun k_ => (w.heap.size ≤ k_) ∧ some k_ ≠ (v296 : Value).ownBlock ∧ k_ ≠ gb294) k_ from fun k_ hk => ⟨(Nat.le_trans (below_size pbg) hk), Kd.fresh' (Kd.R_lt (pkr HO297.1)) k_ hk, Kd.freshB (g := gb294) (o := .cells #[.string (⟨#[]⟩ : ByteArray), .slice none 0 0, .slice none 0 0] 25 (0, 0)) (by exact pbk BK294.1) k_ hk⟩) _ (Nat.le_refl _)) (Below.refl _ _) (Nat.le_refl _) (by simp) ?_; (case hd => rfl); (case hg => rfl); (case hr => first | (go_simp; done) | (go_simp; rfl)); (case hp => exact (Reps.c5 (show Kd.FK k48 _ _ (⟨(⟨#[116]⟩ : ByteArray), y298, y301, ([] : List (S55)), 0⟩ : S48) [.string (⟨#[116]⟩ : ByteArray), .slice Ao9 y298.length co9, .slice Ao8 y301.length co8, .slice none 0 0, .int .i64 0] from (k48_mkF _ _ (⟨(⟨#[116]⟩ : ByteArray), y298, y301, ([] : List (S55)), 0⟩ : S48) (Kd.R_reads' (Kd.R_mono (ok' := (fun k_ => (w.heap.size ≤ k_) ∧ some k_ ≠ (v296 : Value).ownBlock ∧ k_ ≠ gb294)) (Kd.R_types (Kd.R_apart' (HO300.1) (Kd.R_typed HO297.1) (by decide)) BK294.1 (by decide)) (fun k_ hk => ⟨hk.1.1.1.1, ⟨hk.1.2, hk.2⟩⟩))).2.1 (Kd.R_F (Kd.R_mono (ok' := (fun k_ => (w.heap.size ≤ k_) ∧ some k_ ≠ (v296 : Value).ownBlock ∧ k_ ≠ gb294)) (Kd.R_types (Kd.R_apart' (HO300.1) (Kd.R_typed HO297.1) (by decide)) BK294.1 (by decide)) (fun k_ hk => ⟨hk.1.1.1.1, ⟨hk.1.2, hk.2⟩⟩))) (Kd.R_reads' (Kd.R_mono (ok' := (fun k_ => (w.heap.size ≤ k_) ∧ some k_ ≠ (v296 : Value).ownBlock ∧ k_ ≠ gb294)) (Kd.R_types (Kd.R_apart' (HO303.1) (Kd.R_typed HO297.1) (by decide)) BK294.1 (by decide)) (fun k_ hk => ⟨hk.1.1.1.1, ⟨hk.1.2, hk.2⟩⟩))).2.1 (Kd.R_F (Kd.R_mono (ok' := (fun k_ => (w.heap.size ≤ k_) ∧ some k_ ≠ (v296 : Value).ownBlock ∧ k_ ≠ gb294)) (Kd.R_types (Kd.R_apart' (HO303.1) (Kd.R_typed HO297.1) (by decide)) BK294.1 (by decide)) (fun k_ hk => ⟨hk.1.1.1.1, ⟨hk.1.2, hk.2⟩⟩))) (Nat.le_refl _) (Kd.F_nil _ _ _))) (Reps.none _ _))); intro v305 w10 ho11 hb hg_ hnew_; clear hg_ hnew_; (first | rw [← Ny304.1] at ho11 | (simp only [Int.reduceToNat] at ho11; rw [← Ny304.1] at ho11)); have HO306 := am (Kd.N_lower ho11 (below_size pbg)); replace HO297 := rbw HO297 hb; replace BK294 := bbh BK294 hb; replace HB := bst hb; (try clear HO300 HO303); clear hb ho11; obtain ⟨Ao12, co12, eo12⟩ := Kd.N_slice HO306.1; subst eo12; obtain ⟨Ao13, co13, eo13⟩ := Kd.R_slice HO297.1; subst eo13; obtain ⟨z14_0, z14_1, z14_2, y14_0, y14_1, y14_2⟩ := cf3 BK294.1))
 refine bodyPost_ret (results_cell_row rfl _ _ gb294 25 #[.string (⟨#[110]⟩ : ByteArray), .slice Ao13 y295.length co13, .slice Ao12 y304.length co12] (0, 0) _ rfl (by (with_reducible repeat (first | refine blk_drewN ?_ _ | refine blk_drew ?_ | refine blk_alloc ?_ _)); exact bp3 (pbk BK294.1)) Try.underlying25 rfl (by kernel_rfl)) rfl ?_
 exact ⟨_, _, per, by (with_reducible repeat (first | apply Kd.R_alloc | apply Kd.R_drewN | apply Kd.R_drew)); exact Kd.R_mono (Kd.R_far (p := ⟨gb294, 2, none⟩) (Kd.R_far (p := ⟨gb294, 1, none⟩) (Kd.R_far (p := ⟨gb294, 0, none⟩) (Kd.R_types HO297.1 BK294.1 (by decide)) (fun _ hk => hk.2) _) (fun _ hk => hk.2) _) (fun _ hk => hk.2) _) (fun _ hk => hk.1.1), by (with_reducible repeat (first | apply Kd.N_alloc | apply Kd.N_drewN | apply Kd.N_drew)); exact Kd.N_mono (Kd.N_far (p := ⟨gb294, 2, none⟩) (Kd.N_far (p := ⟨gb294, 1, none⟩) (Kd.N_far (p := ⟨gb294, 0, none⟩) (Kd.N_mono HO306.1 (fun k_ hk => (⟨hk, hk.2.2⟩ : _ ∧ k_ ≠ gb294))) (fun _ hk => hk.2) _) (fun _ hk => hk.2) _) (fun _ hk => hk.2) _) (fun _ hk => ⟨hk.1.1, hk.1.2.1⟩), pbg⟩

/-! ### net_Name: function 59 -/
-- IMPORTS Derived.Laws.RangeString
/-- A byte of a name, at its place. -/
def nameC (i c : Int) : Bool := (decide (97 ≤ c) && decide (c ≤ 122)) || c == 95 || (decide (0 < i) && ((decide (48 ≤ c) && decide (c ≤ 57)) || c == 46))
def nameB (s : ByteArray) : Bool := decide (1 ≤ s.size) && decide (s.size ≤ 16) && (List.range s.size).all fun i => nameC (i : Int) (bt s (i : Int))
def net_Name.f (a0 : ByteArray) : Option Bool := some (nameB a0)
/-- A sign that is no single byte is none of a name. -/
theorem decode_far (s : ByteArray) (pos : Nat) (h : pos < s.size) (ha : ¬ (s[pos]'h).toNat < 128) : ¬ (Utf8.decode s pos).1 < 128 := by
 have e : s.get! (pos + 0) = s[pos]'h := by
  show s.get! pos = _
  simp [ByteArray.get!, getElem!_pos, h]
  rfl
 unfold Utf8.decode
 simp only [e]
 rw [if_neg ha]
 repeat' first | split
 all_goals simp_all [Utf8.runeError]
 all_goals omega
theorem next_some {b pos : Nat} {s : ByteArray} {W : World} (P : Program) (ty : TypeId) (hb : W.heap[b]? = some (.stringIter s pos)) (h : pos < s.size) :
  (Instr.next (.pointer (some ⟨b, 0, none⟩)) true ty).run P W = .ok (.tuple #[.bool true, .int .i64 pos, .int .i32 (Utf8.decode s pos).1]) { W with heap := W.heap.setIfInBounds b (.stringIter s (pos + (Utf8.decode s pos).2)) } := by
 simp [Instr.next, getObj, setObj, Sem.run, hb, h, goInt]
theorem next_none {b pos : Nat} {s : ByteArray} {W : World} (P : Program) (ty : TypeId) (hb : W.heap[b]? = some (.stringIter s pos)) (h : ¬ pos < s.size) :
  (Instr.next (.pointer (some ⟨b, 0, none⟩)) true ty).run P W = .ok (.tuple #[.bool false]) W := by
 simp [Instr.next, getObj, Sem.run, hb, h]
theorem iter_step {w wr w2 : World} {b pos pos' : Nat} {s : ByteArray} (hb : wr.heap[b]? = some (.stringIter s pos)) (hB : Below w.heap.size w wr) (hn : w.heap.size ≤ b) (h : w2 = { wr with heap := wr.heap.setIfInBounds b (.stringIter s pos') }) :
  w2.heap[b]? = some (.stringIter s pos') ∧ Below w.heap.size w w2 := by
 subst h
 refine ⟨?_, hB.os, hB.tape, hB.output, by simpa using hB.size, fun k hk => ?_⟩
 ·obtain ⟨h1, h2⟩ := Array.getElem?_eq_some_iff.mp hb
  simp [Array.getElem?_setIfInBounds, h1]
 ·rw [← hB.block k hk]
  show (wr.heap.setIfInBounds b _)[k]? = _
  rw [Array.getElem?_setIfInBounds, if_neg (by omega)]
theorem nameB_no {s : ByteArray} {i : Nat} (hi : i < s.size) (h : nameC (i : Int) (bt s (i : Int)) = false) : nameB s = false := by
 unfold nameB
 rw [Bool.and_eq_false_iff]
 refine .inr (Bool.eq_false_iff.2 fun e => ?_)
 have := List.all_eq_true.1 e i (List.mem_range.2 hi)
 rw [h] at this
 cases this
theorem nameB_yes {s : ByteArray} (h1 : 1 ≤ s.size) (h2 : s.size ≤ 16) (h : ∀ i, i < s.size → nameC (i : Int) (bt s (i : Int)) = true) : nameB s = true := by
 unfold nameB
 rw [decide_eq_true h1, decide_eq_true h2, Bool.true_and, Bool.true_and]
 exact List.all_eq_true.2 fun i hi => h i (List.mem_range.1 hi)
/-- The sign at a place: its first byte if that is a sign, and none of a name otherwise. -/
theorem sign_at (s : ByteArray) (pos : Nat) (h : pos < s.size) (i : Int) : nameC i ((Utf8.decode s pos).1 : Int) = nameC i (bt s (pos : Int)) ∧ (nameC i ((Utf8.decode s pos).1 : Int) = true → (Utf8.decode s pos).2 = 1) := by
 have hb : bt s (pos : Int) = ((s[pos]'h).toNat : Int) := by unfold bt; rw [dif_pos (by simpa using h)]; simp
 by_cases ha : (s[pos]'h).toNat < 128
 ·rw [decode_ascii s pos h ha]
  exact ⟨by rw [hb], fun _ => rfl⟩
 ·have hf := decode_far s pos h ha
  have no : ∀ c : Int, ¬ c < 128 → nameC i c = false := fun c hc => by
   unfold nameC
   rw [decide_eq_false (show ¬ c ≤ 122 by omega), decide_eq_false (show ¬ c ≤ 57 by omega), beq_eq_false_iff_ne.2 (show c ≠ 95 by omega), beq_eq_false_iff_ne.2 (show c ≠ 46 by omega)]
   simp
  rw [no _ (by omega), no (bt s (pos : Int)) (by rw [hb]; omega)]
  exact ⟨rfl, fun h => by cases h⟩

set_option maxHeartbeats 4000000 in
set_option maxRecDepth 100000 in
theorem net_Name.calls (a0 : ByteArray) (r : Bool) (w : World) (h : net_Name.f a0 = some r) :
  Calls Try.prog 59 #[.string a0] w fun e w' => e = .returned (.bool r) ∧ Below w.heap.size w w' := by
 have hr : nameB a0 = r := Option.some.inj h
 have HR := Aside0.mk hr
 clear h hr
 by_cases c1 : (a0.size : Int) < 1
 ·have hf : nameB a0 = false := by unfold nameB; rw [decide_eq_false (by omega)]; rfl
  have c1b : decide ((a0.size : Int) < 1) = true := decide_eq_true c1
  have c1c : decide (a0.size < 1) = true := decide_eq_true (by omega)
  have HR2 := Aside0.mk (HR.out.symm.trans hf)
  clear hf HR c1
  go_enter Try.func59, Try.ntmps59
  go_wp2
  go_ret
  have e_ := HR2.out
  subst e_
  exact ⟨rfl, Below.refl _ _⟩
 ·have c1b : decide ((a0.size : Int) < 1) = false := decide_eq_false c1
  have c1c : decide (a0.size < 1) = false := decide_eq_false (by omega)
  by_cases c2 : (16 : Int) < (a0.size : Int)
  ·have hf : nameB a0 = false := by unfold nameB; rw [decide_eq_false (show ¬ a0.size ≤ 16 by omega)]; simp
   have c2b : decide ((16 : Int) < (a0.size : Int)) = true := decide_eq_true c2
   have c2c : decide (16 < a0.size) = true := decide_eq_true (by omega)
   have HR2 := Aside0.mk (HR.out.symm.trans hf)
   clear hf HR c1 c2
   go_enter Try.func59, Try.ntmps59
   go_wp2
   go_ret
   have e_ := HR2.out
   subst e_
   exact ⟨rfl, Below.refl _ _⟩
  ·have c2b : decide ((16 : Int) < (a0.size : Int)) = false := decide_eq_false c2
   have c2c : decide (16 < a0.size) = false := decide_eq_false (by omega)
   have S1 := Aside0.mk (show 1 ≤ a0.size by omega)
   have S2 := Aside0.mk (show a0.size ≤ 16 by omega)
   clear c1 c2
   go_enter Try.func59, Try.ntmps59
   go_wp2
   have HI := Aside0.mk (show (w.iter a0 0).heap[w.heap.size]? = some (.stringIter a0 0) from World.iter_heap w a0 0)
   have HB := Aside0.mk (show Below w.heap.size w (w.iter a0 0) from below_alloc (Below.refl _ _) _)
   go_loopg [3] a0.size (fun kq v3 w' => ∃ pos : Nat, Aside0 (kq = a0.size - pos) ∧ Aside0 (w'.heap[w.heap.size]? = some (.stringIter a0 pos)) ∧ Aside0 (∀ i, i < pos → nameC (i : Int) (bt a0 (i : Int)) = true) ∧ Aside0 (Below w.heap.size w w'))
   case atStart => exact ⟨0, ⟨rfl⟩, HI, ⟨fun i hi => absurd hi (Nat.not_lt_zero _)⟩, HB⟩
   case round =>
    clear HI HB
    obtain ⟨pos, HK, HI, HO, HB⟩ := hrel
    by_cases d1 : pos < a0.size
    case neg =>
     have hnx := fun ty => next_none Try.prog ty HI.out d1
     have HR2 := Aside0.mk (HR.out.symm.trans (nameB_yes S1.out S2.out (fun i hi => HO.out i (by omega))))
     clear d1
     go_wp2
     go_ret
     have e_ := HR2.out
     subst e_
     exact ⟨rfl, HB.out⟩
    have hnx0 := fun ty => next_some Try.prog ty HI.out d1
    obtain ⟨sg1, sg2⟩ := sign_at a0 pos d1 (pos : Int)
    obtain ⟨w2, hw2⟩ : ∃ w2 : World, w2 = { wr with heap := wr.heap.setIfInBounds w.heap.size (.stringIter a0 (pos + (Utf8.decode a0 pos).2)) } := ⟨_, rfl⟩
    have hit := iter_step HI.out HB.out (Nat.le_refl _) hw2
    obtain ⟨c, hc⟩ : ∃ c : Int, c = ((Utf8.decode a0 pos).1 : Int) := ⟨_, rfl⟩
    have hnx : ∀ ty, (Instr.next (.pointer (some ⟨w.heap.size, 0, none⟩)) true ty).run Try.prog wr = .ok (.tuple #[.bool true, .int .i64 pos, .int .i32 c]) w2 := fun ty => by rw [hw2, hc]; exact hnx0 ty
    rw [← hc] at sg1 sg2
    have SG1 := Aside0.mk sg1
    have SG2 := Aside0.mk sg2
    have HIT := Aside0.mk hit
    have D1 := Aside0.mk d1
    clear sg1 sg2 hit hnx0 hc hw2 d1
    cases e1 : decide (97 ≤ c) with
    | true =>
     cases e2 : decide (c ≤ 122) with
     | true =>
      have OK := Aside0.mk (show nameC (pos : Int) c = true by unfold nameC; rw [e1, e2]; rfl)
      go_wp2
      go_roundg (a0.size - (pos + 1))
      case measure => have := HK.out; have := D1.out; omega
      case rel =>
       have h1 := HIT.out.1
       rw [SG2.out OK.out] at h1
       refine ⟨pos + 1, ⟨rfl⟩, ⟨h1⟩, ⟨fun i hi => ?_⟩, ⟨HIT.out.2⟩⟩
       by_cases e : i = pos
       ·subst e; exact SG1.out.symm.trans OK.out
       ·exact HO.out i (by omega)
     | false =>
      cases e3 : (c == 95) with
      | true =>
       have OK := Aside0.mk (show nameC (pos : Int) c = true by unfold nameC; rw [e1, e2, e3]; rfl)
       go_wp2
       go_roundg (a0.size - (pos + 1))
       case measure => have := HK.out; have := D1.out; omega
       case rel =>
        have h1 := HIT.out.1
        rw [SG2.out OK.out] at h1
        refine ⟨pos + 1, ⟨rfl⟩, ⟨h1⟩, ⟨fun i hi => ?_⟩, ⟨HIT.out.2⟩⟩
        by_cases e : i = pos
        ·subst e; exact SG1.out.symm.trans OK.out
        ·exact HO.out i (by omega)
      | false =>
       cases e4 : decide (0 < (pos : Int)) with
       | true =>
        have e4n : decide (0 < pos) = true := (decide_eq_decide.2 (by omega)).trans e4
        cases e5 : decide (48 ≤ c) with
        | true =>
         cases e6 : decide (c ≤ 57) with
         | true =>
          have OK := Aside0.mk (show nameC (pos : Int) c = true by unfold nameC; rw [e1, e2, e3, e4, e5, e6]; rfl)
          go_wp2
          go_roundg (a0.size - (pos + 1))
          case measure => have := HK.out; have := D1.out; omega
          case rel =>
           have h1 := HIT.out.1
           rw [SG2.out OK.out] at h1
           refine ⟨pos + 1, ⟨rfl⟩, ⟨h1⟩, ⟨fun i hi => ?_⟩, ⟨HIT.out.2⟩⟩
           by_cases e : i = pos
           ·subst e; exact SG1.out.symm.trans OK.out
           ·exact HO.out i (by omega)
         | false =>
          cases e7 : (c == 46) with
          | true =>
           have OK := Aside0.mk (show nameC (pos : Int) c = true by unfold nameC; rw [e1, e2, e3, e4, e5, e6, e7]; rfl)
           go_wp2
           go_roundg (a0.size - (pos + 1))
           case measure => have := HK.out; have := D1.out; omega
           case rel =>
            have h1 := HIT.out.1
            rw [SG2.out OK.out] at h1
            refine ⟨pos + 1, ⟨rfl⟩, ⟨h1⟩, ⟨fun i hi => ?_⟩, ⟨HIT.out.2⟩⟩
            by_cases e : i = pos
            ·subst e; exact SG1.out.symm.trans OK.out
            ·exact HO.out i (by omega)
          | false =>
           have HR2 := Aside0.mk (HR.out.symm.trans (nameB_no D1.out (SG1.out.symm.trans (show nameC (pos : Int) c = false by unfold nameC; rw [e1, e2, e3, e4, e5, e6, e7]; rfl))))
           go_wp2
           go_ret
           have e_ := HR2.out
           subst e_
           exact ⟨rfl, HIT.out.2⟩
        | false =>
         cases e7 : (c == 46) with
         | true =>
          have OK := Aside0.mk (show nameC (pos : Int) c = true by unfold nameC; rw [e1, e2, e3, e4, e5, e7]; rfl)
          go_wp2
          go_roundg (a0.size - (pos + 1))
          case measure => have := HK.out; have := D1.out; omega
          case rel =>
           have h1 := HIT.out.1
           rw [SG2.out OK.out] at h1
           refine ⟨pos + 1, ⟨rfl⟩, ⟨h1⟩, ⟨fun i hi => ?_⟩, ⟨HIT.out.2⟩⟩
           by_cases e : i = pos
           ·subst e; exact SG1.out.symm.trans OK.out
           ·exact HO.out i (by omega)
         | false =>
          have HR2 := Aside0.mk (HR.out.symm.trans (nameB_no D1.out (SG1.out.symm.trans (show nameC (pos : Int) c = false by unfold nameC; rw [e1, e2, e3, e4, e5, e7]; rfl))))
          go_wp2
          go_ret
          have e_ := HR2.out
          subst e_
          exact ⟨rfl, HIT.out.2⟩
       | false =>
        have e4n : decide (0 < pos) = false := (decide_eq_decide.2 (by omega)).trans e4
        have HR2 := Aside0.mk (HR.out.symm.trans (nameB_no D1.out (SG1.out.symm.trans (show nameC (pos : Int) c = false by unfold nameC; rw [e1, e2, e3, e4]; rfl))))
        go_wp2
        go_ret
        have e_ := HR2.out
        subst e_
        exact ⟨rfl, HIT.out.2⟩
    | false =>
     cases e3 : (c == 95) with
     | true =>
      have OK := Aside0.mk (show nameC (pos : Int) c = true by unfold nameC; rw [e1, e3]; rfl)
      go_wp2
      go_roundg (a0.size - (pos + 1))
      case measure => have := HK.out; have := D1.out; omega
      case rel =>
       have h1 := HIT.out.1
       rw [SG2.out OK.out] at h1
       refine ⟨pos + 1, ⟨rfl⟩, ⟨h1⟩, ⟨fun i hi => ?_⟩, ⟨HIT.out.2⟩⟩
       by_cases e : i = pos
       ·subst e; exact SG1.out.symm.trans OK.out
       ·exact HO.out i (by omega)
     | false =>
      cases e4 : decide (0 < (pos : Int)) with
      | true =>
       have e4n : decide (0 < pos) = true := (decide_eq_decide.2 (by omega)).trans e4
       cases e5 : decide (48 ≤ c) with
       | true =>
        cases e6 : decide (c ≤ 57) with
        | true =>
         have OK := Aside0.mk (show nameC (pos : Int) c = true by unfold nameC; rw [e1, e3, e4, e5, e6]; rfl)
         go_wp2
         go_roundg (a0.size - (pos + 1))
         case measure => have := HK.out; have := D1.out; omega
         case rel =>
          have h1 := HIT.out.1
          rw [SG2.out OK.out] at h1
          refine ⟨pos + 1, ⟨rfl⟩, ⟨h1⟩, ⟨fun i hi => ?_⟩, ⟨HIT.out.2⟩⟩
          by_cases e : i = pos
          ·subst e; exact SG1.out.symm.trans OK.out
          ·exact HO.out i (by omega)
        | false =>
         cases e7 : (c == 46) with
         | true =>
          have OK := Aside0.mk (show nameC (pos : Int) c = true by unfold nameC; rw [e1, e3, e4, e5, e6, e7]; rfl)
          go_wp2
          go_roundg (a0.size - (pos + 1))
          case measure => have := HK.out; have := D1.out; omega
          case rel =>
           have h1 := HIT.out.1
           rw [SG2.out OK.out] at h1
           refine ⟨pos + 1, ⟨rfl⟩, ⟨h1⟩, ⟨fun i hi => ?_⟩, ⟨HIT.out.2⟩⟩
           by_cases e : i = pos
           ·subst e; exact SG1.out.symm.trans OK.out
           ·exact HO.out i (by omega)
         | false =>
          have HR2 := Aside0.mk (HR.out.symm.trans (nameB_no D1.out (SG1.out.symm.trans (show nameC (pos : Int) c = false by unfold nameC; rw [e1, e3, e4, e5, e6, e7]; rfl))))
          go_wp2
          go_ret
          have e_ := HR2.out
          subst e_
          exact ⟨rfl, HIT.out.2⟩
       | false =>
        cases e7 : (c == 46) with
        | true =>
         have OK := Aside0.mk (show nameC (pos : Int) c = true by unfold nameC; rw [e1, e3, e4, e5, e7]; rfl)
         go_wp2
         go_roundg (a0.size - (pos + 1))
         case measure => have := HK.out; have := D1.out; omega
         case rel =>
          have h1 := HIT.out.1
          rw [SG2.out OK.out] at h1
          refine ⟨pos + 1, ⟨rfl⟩, ⟨h1⟩, ⟨fun i hi => ?_⟩, ⟨HIT.out.2⟩⟩
          by_cases e : i = pos
          ·subst e; exact SG1.out.symm.trans OK.out
          ·exact HO.out i (by omega)
        | false =>
         have HR2 := Aside0.mk (HR.out.symm.trans (nameB_no D1.out (SG1.out.symm.trans (show nameC (pos : Int) c = false by unfold nameC; rw [e1, e3, e4, e5, e7]; rfl))))
         go_wp2
         go_ret
         have e_ := HR2.out
         subst e_
         exact ⟨rfl, HIT.out.2⟩
      | false =>
       have e4n : decide (0 < pos) = false := (decide_eq_decide.2 (by omega)).trans e4
       have HR2 := Aside0.mk (HR.out.symm.trans (nameB_no D1.out (SG1.out.symm.trans (show nameC (pos : Int) c = false by unfold nameC; rw [e1, e3, e4]; rfl))))
       go_wp2
       go_ret
       have e_ := HR2.out
       subst e_
       exact ⟨rfl, HIT.out.2⟩

end Go.Proofs.Ytnoebjmhimehcaa.P
