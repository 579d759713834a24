-- LAID BY OUR PROGRAM OVER THE PRINT (xprint.py, part.py): Lean checks it.
import Derived.Test.YtplljicodflagaaPx0
namespace Go.Proofs.Ytplljicodflagaa.P
open Go.RowKit Go.Proofs.YtplljicodflagaaW.PrintWords Go.Proofs.YtplljicodflagaaW.PrintLast Go.Proofs.YtplljicodflagaaW.PrintMore
attribute [local go_sem] max2_int min2_int max_two min_two max_three min_three max_four min_four   -- for this text's walks alone
set_option linter.unusedVariables false
set_option linter.unusedSimpArgs false

/-! ### r09_Small: function 9 -/
mutual
def r09_Small.j0 : Nat → Bool → ByteArray → List (S46) → List (S41) → Option (ByteArray × (List (S46)) × (List (S41)) × Bool)
 | 0, _, _, _, _ => none
 | k + 1, x22, x102000, x102001, x102002 => if x22 = true then (some ((⟨#[]⟩ : ByteArray), ([] : List (S46)), ([] : List (S41)), false)) else (r09_Small.l0 k 0 x102000 x102001 x102002)
def r09_Small.l0 : Nat → Int → ByteArray → List (S46) → List (S41) → Option (ByteArray × (List (S46)) × (List (S41)) × Bool)
 | 0, _, _, _, _ => none
 | k + 1, x4, x102000, x102001, x102002 => if x4 < (x102001.length : Int) then (if 0 ≤ x4 then (if (((rd_T46 x102001 x4).f0).size : Int) > 20 then (some ((⟨#[]⟩ : ByteArray), ([] : List (S46)), ([] : List (S41)), false)) else (r09_Small.l0 k (wrap64 (x4 + 1)) x102000 x102001 x102002)) else (none)) else (r09_Small.l1 k 0 x102000 x102001 x102002)
def r09_Small.l1 : Nat → Int → ByteArray → List (S46) → List (S41) → Option (ByteArray × (List (S46)) × (List (S41)) × Bool)
 | 0, _, _, _, _ => none
 | k + 1, x5, x102000, x102001, x102002 => if x5 < (x102002.length : Int) then (if 0 ≤ x5 then (if (((rd_T41 x102002 x5).f0).size : Int) > 20 then (some ((⟨#[]⟩ : ByteArray), ([] : List (S46)), ([] : List (S41)), false)) else (if (((rd_T41 x102002 x5).f1).length : Int) > 26 then (some ((⟨#[]⟩ : ByteArray), ([] : List (S46)), ([] : List (S41)), false)) else (if (((rd_T41 x102002 x5).f2).length : Int) > 26 then (some ((⟨#[]⟩ : ByteArray), ([] : List (S46)), ([] : List (S41)), false)) else (if (((rd_T41 x102002 x5).f3).length : Int) > 26 then (some ((⟨#[]⟩ : ByteArray), ([] : List (S46)), ([] : List (S41)), false)) else (r09_Small.l1 k (wrap64 (x5 + 1)) x102000 x102001 x102002))))) else (none)) else (some (x102000, x102001, x102002, true))
end
def r09_Small.f (k : Nat) (a0_0 : ByteArray) (l0_1 : List (S46)) (l0_2 : List (S41)) : Option (ByteArray × (List (S46)) × (List (S41)) × Bool) := if (l0_1.length : Int) > 26 then (r09_Small.j0 k true a0_0 l0_1 l0_2) else (if (l0_2.length : Int) > 26 then (r09_Small.j0 k true a0_0 l0_1 l0_2) else (r09_Small.j0 k (decide ((a0_0.size : Int) > 20)) a0_0 l0_1 l0_2))
theorem r09_Small.mono_l : ∀ k, M4 r09_Small.j0 k ∧ M4 r09_Small.l0 k ∧ M4 r09_Small.l1 k
 | 0 => ⟨fun _ _ _ _ r h => by simp [r09_Small.j0] at h, fun _ _ _ _ r h => by simp [r09_Small.l0] at h, fun _ _ _ _ r h => by simp [r09_Small.l1] at h⟩
 | k + 1 => by
  obtain ⟨ih0, ih1, ih2⟩ := r09_Small.mono_l k
  refine ⟨?_, ?_, ?_⟩ <;> dsimp only [M4] <;> intros <;> (first | unfold r09_Small.j0 | unfold r09_Small.l0 | unfold r09_Small.l1) <;> repeat' first | (with_reducible first | apply ih0 | apply ih1 | apply ih2 | apply lr | apply ln | apply li | refine lb ?_ fun _ => ?_)
theorem r09_Small.mono : ∀ a0 a1 a2 k, LeO (r09_Small.f k a0 a1 a2) (r09_Small.f (k + 1) a0 a1 a2) := by
 intro a0 a1 a2 k
 obtain ⟨ih0, ih1, ih2⟩ := r09_Small.mono_l k
 unfold r09_Small.f
 repeat' first | (with_reducible first | apply ih0 | apply ih1 | apply ih2 | apply lr | apply ln | apply li | refine lb ?_ fun _ => ?_)
set_option maxHeartbeats 8000000 in
set_option maxRecDepth 100000 in
theorem r09_Small.calls (k : Nat) (a0_0 : ByteArray) (P0_1_ : Nat → Prop) (A0_1 : Option Addr) (c0_1 : Nat) (l0_1 : List (S46)) (P0_2_ : Nat → Prop) (A0_2 : Option Addr) (c0_2 : Nat) (l0_2 : List (S41)) (r1 : ByteArray) (r2 : List (S46)) (r3 : List (S41)) (r4 : Bool) (w : World) (hs0_1 : Kd.V k46 46 w w.heap.size (fun k_ => P0_1_ k_) (.slice A0_1 l0_1.length c0_1) l0_1) (hs0_2 : Kd.V k41 41 w w.heap.size (fun k_ => P0_2_ k_) (.slice A0_2 l0_2.length c0_2) l0_2) (h : r09_Small.f k a0_0 l0_1 l0_2 = some (r1, r2, r3, r4)) :
  Calls Try.prog 9 #[.agg #[.string a0_0, .slice A0_1 l0_1.length c0_1, .slice A0_2 l0_2.length c0_2]] w fun e w' => ∃ v1_ v2_ : Value, e = .returned (.tuple #[.agg #[.string r1, v1_, v2_], .bool r4]) ∧ Kd.V k46 46 w' w.heap.size (fun k_ => ((P0_1_ k_ ∨ P0_2_ k_) ∨ w.heap.size ≤ k_)) v1_ r2 ∧ Kd.V k41 41 w' w.heap.size (fun k_ => ((P0_1_ k_ ∨ P0_2_ k_) ∨ w.heap.size ≤ k_)) v2_ r3 ∧ Below w.heap.size w w' := by
 have hu25 := Try.underlying25
 have hu41 := Try.underlying41
 have HO0_1 := am (show Kd.V k46 46 w w.heap.size (fun k_ => ((P0_1_ k_ ∨ P0_2_ k_) ∨ w.heap.size ≤ k_)) (.slice A0_1 l0_1.length c0_1) l0_1 from Kd.V_mono hs0_1 (fun k_ hk => .inl (.inl hk)))
 have HO0_2 := am (show Kd.V k41 41 w w.heap.size (fun k_ => ((P0_1_ k_ ∨ P0_2_ k_) ∨ w.heap.size ≤ k_)) (.slice A0_2 l0_2.length c0_2) l0_2 from Kd.V_mono hs0_2 (fun k_ hk => .inl (.inr hk)))
 have HB := am (Below.refl w.heap.size w)
 have H : (if (l0_1.length : Int) > 26 then (r09_Small.j0 k true a0_0 l0_1 l0_2) else (if (l0_2.length : Int) > 26 then (r09_Small.j0 k true a0_0 l0_1 l0_2) else (r09_Small.j0 k (decide ((a0_0.size : Int) > 20)) a0_0 l0_1 l0_2))) = some (r1, r2, r3, r4) := h
 clear h
 have HC2 := am H
 clear H
 go_enter Try.func9, Try.ntmps9
 go_upto_region 1 with (first | ((with_reducible refine gate_dst (N := 1) rfl ?_); (try (refine gate_guard (by rfl) ?_; dsimp only)); refine box_ev (N := 1) (cs := #[.string a0_0, .slice A0_1 l0_1.length c0_1, .slice A0_2 l0_2.length c0_2]) (t := 25) ?_; intro gb101 hg w3 hbox hb; have BK101 := am hbox; have GW101 := gwl hg; have GE101 := GW101; replace HO0_1 := vbb HO0_1 hg hb; replace HO0_2 := vbb HO0_2 hg hb; replace HB := bsl hb; clear hb hbox hg) | ((with_reducible refine gate_dst (N := 2) rfl ?_); (try (refine gate_guard (by rfl) ?_; dsimp only)); refine box_ev (N := 2) (cs := #[.string (⟨#[]⟩ : ByteArray), .slice none 0 0, .slice none 0 0]) (t := 25) ?_; intro gb102 hg w4 hbox hb; have BK102 := am hbox; have GW102 := gwb hg; have GE102 := GW102; have NB101_102 := nlt hg BK101; have NB102_101 := ngt hg BK101; replace HO0_1 := vbb HO0_1 hg hb; replace HO0_2 := vbb HO0_2 hg hb; replace BK101 := bbh BK101 hb; replace HB := bst hb; clear hb hbox hg))
 (try simp only [Act.put, List.setIfInBounds_toArray, List.set_cons_zero, List.set_cons_succ])
 go_cut [22] (fun v22 wc => ∃ (kq : Nat) (x22_1 : Bool), v22 = .bool x22_1 ∧ Aside0 (r09_Small.j0 kq x22_1 a0_0 l0_1 l0_2 = some (r1, r2, r3, r4)) ∧ Aside0 (kq ≤ k) ∧ Aside0 (Kd.V k46 46 wc w.heap.size (fun k_ => ((P0_1_ k_ ∨ P0_2_ k_) ∨ w.heap.size ≤ k_) ∧ k_ ≠ gb101 ∧ k_ ≠ gb102) (.slice A0_1 l0_1.length c0_1) l0_1) ∧ Aside0 (Kd.V k41 41 wc w.heap.size (fun k_ => ((P0_1_ k_ ∨ P0_2_ k_) ∨ w.heap.size ≤ k_) ∧ k_ ≠ gb101 ∧ k_ ≠ gb102) (.slice A0_2 l0_2.length c0_2) l0_2) ∧ Aside0 (wc.heap[gb101]? = some (.cells #[.string a0_0, (.slice A0_1 l0_1.length c0_1), (.slice A0_2 l0_2.length c0_2)] 25 (0, 0))) ∧ Aside0 (wc.heap[gb102]? = some (.cells #[.string (⟨#[]⟩ : ByteArray), (.slice none 0 0), (.slice none 0 0)] 25 (0, 0))) ∧ Aside0 (Below w.heap.size w wc))
 case first =>
  have H := HC2.1
  clear HC2
  by_cases c5 : (l0_1.length : Int) > 26
  ·rw [if_pos c5] at H
   have c5b0 : decide (26 < (l0_1.length : Int)) = true := decide_eq_true c5
   have c5b1 : decide (26 < l0_1.length) = true := decide_eq_true (by omega)
   clear c5
   (first | rw [c5b0] | (simp only [i64_w, i32_w]; rw [c5b0]) | skip)
   have H' := am H
   clear H
   have hnb6 := NB101_102.1
   have hnc6 := NB102_101.1
   have z7 := cf3 BK101.1
   go_wp2
   go_meet
   case rel => exact ⟨_, (true), prs, H', ⟨by first | omega | exact Nat.le_refl _⟩, ⟨by (with_reducible repeat (first | apply Kd.V_alloc | apply Kd.V_drewN | apply Kd.V_drew)); exact Kd.V_mono HO0_1.1 (fun _ hk => ⟨hk.1.1, ⟨hk.1.2, hk.2⟩⟩)⟩, ⟨by (with_reducible repeat (first | apply Kd.V_alloc | apply Kd.V_drewN | apply Kd.V_drew)); exact Kd.V_mono HO0_2.1 (fun _ hk => ⟨hk.1.1, ⟨hk.1.2, hk.2⟩⟩)⟩, ⟨pbk BK101.1⟩, ⟨pbk BK102.1⟩, ⟨pbg⟩⟩
  rw [if_neg c5] at H
  have c5b0 : decide (26 < (l0_1.length : Int)) = false := decide_eq_false c5
  have c5b1 : decide (26 < l0_1.length) = false := decide_eq_false (by omega)
  clear c5
  (first | rw [c5b0] | (simp only [i64_w, i32_w]; rw [c5b0]) | skip)
  by_cases c8 : (l0_2.length : Int) > 26
  ·rw [if_pos c8] at H
   have c8b0 : decide (26 < (l0_2.length : Int)) = true := decide_eq_true c8
   have c8b1 : decide (26 < l0_2.length) = true := decide_eq_true (by omega)
   clear c8
   have H' := am H
   clear H
   have hnb9 := NB101_102.1
   have hnc9 := NB102_101.1
   have z10 := cf3 BK101.1
   go_wp2
   go_meet
   case rel => exact ⟨_, (true), prs, H', ⟨by first | omega | exact Nat.le_refl _⟩, ⟨by (with_reducible repeat (first | apply Kd.V_alloc | apply Kd.V_drewN | apply Kd.V_drew)); exact Kd.V_mono HO0_1.1 (fun _ hk => ⟨hk.1.1, ⟨hk.1.2, hk.2⟩⟩)⟩, ⟨by (with_reducible repeat (first | apply Kd.V_alloc | apply Kd.V_drewN | apply Kd.V_drew)); exact Kd.V_mono HO0_2.1 (fun _ hk => ⟨hk.1.1, ⟨hk.1.2, hk.2⟩⟩)⟩, ⟨pbk BK101.1⟩, ⟨pbk BK102.1⟩, ⟨pbg⟩⟩
  rw [if_neg c8] at H
  have c8b0 : decide (26 < (l0_2.length : Int)) = false := decide_eq_false c8
  have c8b1 : decide (26 < l0_2.length) = false := decide_eq_false (by omega)
  clear c8
  have H' := am H
  clear H
  have hnb11 := NB101_102.1
  have hnc11 := NB102_101.1
  have z12 := cf3 BK101.1
  go_wp2
  go_meet
  case rel => exact ⟨_, (decide ((a0_0.size : Int) > 20)), prs, H', ⟨by first | omega | exact Nat.le_refl _⟩, ⟨by (with_reducible repeat (first | apply Kd.V_alloc | apply Kd.V_drewN | apply Kd.V_drew)); exact Kd.V_mono HO0_1.1 (fun _ hk => ⟨hk.1.1, ⟨hk.1.2, hk.2⟩⟩)⟩, ⟨by (with_reducible repeat (first | apply Kd.V_alloc | apply Kd.V_drewN | apply Kd.V_drew)); exact Kd.V_mono HO0_2.1 (fun _ hk => ⟨hk.1.1, ⟨hk.1.2, hk.2⟩⟩)⟩, ⟨pbk BK101.1⟩, ⟨pbk BK102.1⟩, ⟨pbg⟩⟩
 clear HC2
 try clear c5 c5b0 c5b1 c8 c8b0 c8b1 z10 z12 z7
 obtain ⟨kq, x22_1, rfl, HA, HJ1, HO_102001, HO_102002, BK101, BK102, HB⟩ := hcut
 obtain _ | kj1 := kq
 ·exact absurd HA.1 (by simp [r09_Small.j0])
 have H := HA.1
 clear HA
 simp only [r09_Small.j0] at H
 by_cases c13 : x22_1 = true
 ·subst c13
  rw [if_pos rfl] at H
  simp only [Option.some.injEq, Prod.mk.injEq] at H
  obtain ⟨rfl, rfl, rfl, rfl⟩ := H
  have hnb14 := NB102_101.1
  have hnc14 := NB101_102.1
  have z15 := cf3 BK102.1
  go_wp2
  refine bodyPost_ret (results_ct rfl _ _ gb102 25 #[.string (⟨#[]⟩ : ByteArray), .slice none 0 0, .slice none 0 0] (0, 0) _ rfl (by (with_reducible repeat (first | refine blk_drewN ?_ _ | refine blk_drew ?_ | refine blk_alloc ?_ _)); exact bp3 (pbk BK102.1)) Try.underlying25 rfl (by kernel_rfl)) rfl ?_
  exact ⟨_, _, per, (Kd.V_nil _ _ _ _ _), (Kd.V_nil _ _ _ _ _), pbg⟩
 replace c13 := Bool.eq_false_iff.mpr c13
 subst c13
 rw [if_neg Bool.false_ne_true] at H
 have H' := am H
 clear H
 go_wp2
 go_loopg [4] kj1 (fun kq v4 w' => ∃ (x4_2 : Int) (x103000_2 : ByteArray), v4 = .int .i64 x4_2 ∧ Aside0 (r09_Small.l0 kq x4_2 a0_0 l0_1 l0_2 = some (r1, r2, r3, r4)) ∧ Aside0 (kq ≤ kj1) ∧ Aside0 (Kd.V k46 46 w' w.heap.size (fun k_ => ((P0_1_ k_ ∨ P0_2_ k_) ∨ w.heap.size ≤ k_) ∧ k_ ≠ gb101 ∧ k_ ≠ gb102) (.slice A0_1 l0_1.length c0_1) l0_1) ∧ Aside0 (Kd.V k41 41 w' w.heap.size (fun k_ => ((P0_1_ k_ ∨ P0_2_ k_) ∨ w.heap.size ≤ k_) ∧ k_ ≠ gb101 ∧ k_ ≠ gb102) (.slice A0_2 l0_2.length c0_2) l0_2) ∧ Aside0 (w'.heap[gb101]? = some (.cells #[.string a0_0, (.slice A0_1 l0_1.length c0_1), (.slice A0_2 l0_2.length c0_2)] 25 (0, 0))) ∧ Aside0 (w'.heap[gb102]? = some (.cells #[.string x103000_2, (.slice none 0 0), (.slice none 0 0)] 25 (0, 0))) ∧ Aside0 (Below w.heap.size w w'))
 case atStart => exact ⟨(0), ((⟨#[]⟩ : ByteArray)), prs, H', ⟨Nat.le_refl _⟩, ⟨pkv HO_102001.1⟩, ⟨pkv HO_102002.1⟩, ⟨pbk BK101.1⟩, ⟨pbk BK102.1⟩, ⟨pbg⟩⟩
 clear H'
 try clear c5 c5b0 c5b1 c8 c8b0 c8b1 c13 z10 z12 z15 z7
 obtain ⟨x4_2, x103000_2, rfl, HA, HK2, HO_102001, HO_102002, BK101, BK102, HB⟩ := hrel
 obtain _ | k2 := gk
 ·exact absurd HA.1 (by simp [r09_Small.l0])
 have H := HA.1
 clear HA
 simp only [r09_Small.l0] at H
 by_cases c16 : x4_2 < (l0_1.length : Int)
 ·rw [if_pos c16] at H
  have c16b0 : decide (x4_2 < (l0_1.length : Int)) = true := decide_eq_true c16
  clear c16
  replace H := ifp H
  obtain ⟨c17, H⟩ := H
  have c17b0 := decide_eq_true c17
  clear c17
  by_cases c18 : (((rd_T46 l0_1 x4_2).f0).size : Int) > 20
  rotate_left
  ·rw [if_neg c18] at H
   have c18b0 : decide (20 < (((rd_T46 l0_1 x4_2).f0).size : Int)) = false := decide_eq_false c18
   have c18b1 : decide (20 < ((rd_T46 l0_1 x4_2).f0).size) = false := decide_eq_false (by omega)
   clear c18
   have H' := am H
   clear H
   have hnb22 := NB101_102.1
   have hnc22 := NB102_101.1
   have z23 := cf3 BK101.1
   obtain ⟨p103, q103, ad103, e103, hx103_0, hx103_1, hx103_2⟩ := dT46 (Kd.V_reads' HO_102001.1).2.2 x4_2
   cases e103
   go_wp2
   go_roundg k2
   case measure => have := HJ1.1; have := HK2.1; omega
   case rel => exact ⟨(wrap64 (x4_2 + 1)), (x103000_2), prs, H', ⟨by have := HJ1.1; have := HK2.1; omega⟩, ⟨pkv HO_102001.1⟩, ⟨pkv HO_102002.1⟩, ⟨pbk BK101.1⟩, ⟨pbk BK102.1⟩, ⟨pbg⟩⟩
  rw [if_pos c18] at H
  have c18b0 : decide (20 < (((rd_T46 l0_1 x4_2).f0).size : Int)) = true := decide_eq_true c18
  have c18b1 : decide (20 < ((rd_T46 l0_1 x4_2).f0).size) = true := decide_eq_true (by omega)
  clear c18
  simp only [Option.some.injEq, Prod.mk.injEq] at H
  obtain ⟨rfl, rfl, rfl, rfl⟩ := H
  have hnb19 := NB101_102.1
  have hnc19 := NB102_101.1
  have z20 := cf3 BK101.1
  obtain ⟨p103, q103, ad103, e103, hx103_0, hx103_1, hx103_2⟩ := dT46 (Kd.V_reads' HO_102001.1).2.2 x4_2
  cases e103
  have z21 := cf3 BK102.1
  go_wp2
  refine bodyPost_ret (results_ct rfl _ _ gb102 25 #[.string (⟨#[]⟩ : ByteArray), .slice none 0 0, .slice none 0 0] (0, 0) _ rfl (by (with_reducible repeat (first | refine blk_drewN ?_ _ | refine blk_drew ?_ | refine blk_alloc ?_ _)); exact bp3 (pbk BK102.1)) Try.underlying25 rfl (by kernel_rfl)) rfl ?_
  exact ⟨_, _, per, (Kd.V_nil _ _ _ _ _), (Kd.V_nil _ _ _ _ _), pbg⟩
 rw [if_neg c16] at H
 have c16b0 : decide (x4_2 < (l0_1.length : Int)) = false := decide_eq_false c16
 clear c16
 have H' := am H
 clear H
 have hnb24 := NB101_102.1
 have hnc24 := NB102_101.1
 have z25 := cf3 BK101.1
 go_wp2
 go_loopg [5] k2 (fun kq v5 w' => ∃ (x5_3 : Int) (x103000_3 : ByteArray), v5 = .int .i64 x5_3 ∧ Aside0 (r09_Small.l1 kq x5_3 a0_0 l0_1 l0_2 = some (r1, r2, r3, r4)) ∧ Aside0 (kq ≤ k2) ∧ Aside0 (Kd.V k46 46 w' w.heap.size (fun k_ => ((P0_1_ k_ ∨ P0_2_ k_) ∨ w.heap.size ≤ k_) ∧ k_ ≠ gb101 ∧ k_ ≠ gb102) (.slice A0_1 l0_1.length c0_1) l0_1) ∧ Aside0 (Kd.V k41 41 w' w.heap.size (fun k_ => ((P0_1_ k_ ∨ P0_2_ k_) ∨ w.heap.size ≤ k_) ∧ k_ ≠ gb101 ∧ k_ ≠ gb102) (.slice A0_2 l0_2.length c0_2) l0_2) ∧ Aside0 (w'.heap[gb101]? = some (.cells #[.string a0_0, (.slice A0_1 l0_1.length c0_1), (.slice A0_2 l0_2.length c0_2)] 25 (0, 0))) ∧ Aside0 (w'.heap[gb102]? = some (.cells #[.string x103000_3, (.slice none 0 0), (.slice none 0 0)] 25 (0, 0))) ∧ Aside0 (Below w.heap.size w w'))
 case atStart => exact ⟨(0), (x103000_2), prs, H', ⟨Nat.le_refl _⟩, ⟨pkv HO_102001.1⟩, ⟨pkv HO_102002.1⟩, ⟨pbk BK101.1⟩, ⟨pbk BK102.1⟩, ⟨pbg⟩⟩
 clear H'
 try clear c5 c5b0 c5b1 c8 c8b0 c8b1 c13 c16 c16b0 c17 c17b0 c18 c18b0 c18b1 z10 z12 z15 z20 z21 z23 z25 z7 hx103_0 hx103_1 hx103_2 p103 q103
 obtain ⟨x5_3, x103000_3, rfl, HA, HK3, HO_102001, HO_102002, BK101, BK102, HB⟩ := hrel
 obtain _ | k3 := gk
 ·exact absurd HA.1 (by simp [r09_Small.l1])
 have H := HA.1
 clear HA
 simp only [r09_Small.l1] at H
 by_cases c26 : x5_3 < (l0_2.length : Int)
 rotate_left
 ·rw [if_neg c26] at H
  have c26b0 : decide (x5_3 < (l0_2.length : Int)) = false := decide_eq_false c26
  clear c26
  simp only [Option.some.injEq, Prod.mk.injEq] at H
  obtain ⟨rfl, rfl, rfl, rfl⟩ := H
  have hnb66 := NB101_102.1
  have hnc66 := NB102_101.1
  have z67 := cf3 BK101.1
  have z68 := cf3 BK102.1
  go_wp2
  refine bodyPost_ret (results_ct rfl _ _ gb102 25 #[.string a0_0, .slice A0_1 l0_1.length c0_1, .slice A0_2 l0_2.length c0_2] (0, 0) _ rfl (by (with_reducible repeat (first | refine blk_drewN ?_ _ | refine blk_drew ?_ | refine blk_alloc ?_ _)); exact bp3 (pbk BK102.1)) Try.underlying25 rfl (by kernel_rfl)) rfl ?_
  exact ⟨_, _, per, by (with_reducible repeat (first | apply Kd.V_alloc | apply Kd.V_drewN | apply Kd.V_drew)); exact Kd.V_mono (Kd.V_far (p := ⟨gb102, 2, none⟩) (Kd.V_far (p := ⟨gb102, 1, none⟩) (Kd.V_far (p := ⟨gb102, 0, none⟩) (Kd.V_mono HO_102001.1 (fun k_ hk => (⟨hk, hk.2.2⟩ : _ ∧ k_ ≠ gb102))) (fun _ hk => hk.2) _) (fun _ hk => hk.2) _) (fun _ hk => hk.2) _) (fun _ hk => hk.1.1), by (with_reducible repeat (first | apply Kd.V_alloc | apply Kd.V_drewN | apply Kd.V_drew)); exact Kd.V_mono (Kd.V_far (p := ⟨gb102, 2, none⟩) (Kd.V_far (p := ⟨gb102, 1, none⟩) (Kd.V_far (p := ⟨gb102, 0, none⟩) (Kd.V_mono HO_102002.1 (fun k_ hk => (⟨hk, hk.2.2⟩ : _ ∧ k_ ≠ gb102))) (fun _ hk => hk.2) _) (fun _ hk => hk.2) _) (fun _ hk => hk.2) _) (fun _ hk => hk.1.1), pbg⟩
 rw [if_pos c26] at H
 have c26b0 : decide (x5_3 < (l0_2.length : Int)) = true := decide_eq_true c26
 clear c26
 replace H := ifp H
 obtain ⟨c27, H⟩ := H
 have c27b0 := decide_eq_true c27
 clear c27
 by_cases c28 : (((rd_T41 l0_2 x5_3).f0).size : Int) > 20
 ·rw [if_pos c28] at H
  have c28b0 : decide (20 < (((rd_T41 l0_2 x5_3).f0).size : Int)) = true := decide_eq_true c28
  have c28b1 : decide (20 < ((rd_T41 l0_2 x5_3).f0).size) = true := decide_eq_true (by omega)
  clear c28
  simp only [Option.some.injEq, Prod.mk.injEq] at H
  obtain ⟨rfl, rfl, rfl, rfl⟩ := H
  have hnb29 := NB101_102.1
  have hnc29 := NB102_101.1
  have z30 := cf3 BK101.1
  have p104 : 0 ≤ (x5_3 : Int) := dq
  have q104 : x5_3 < (l0_2.length : Int) := dq
  obtain ⟨ad104, A104_1, c104_1, A104_2, c104_2, A104_3, c104_3, e104, hx104_0, hx104_1, hx104_2, hx104_3, hx104_4, hl104_1, hi104_1, hl104_2, hi104_2, hl104_3, hi104_3⟩ := at_T41 (Kd.V_reads' HO_102002.1).2.2 x5_3 p104 q104
  cases e104
  obtain ⟨ce104, hce104, hMe104, hcc104⟩ := Kd.V_get HO_102002.1 z41 x5_3 p104 (by first | exact q104 | exact dq | (have e_ := (Kd.V_reads' HO_102002.1).1; omega))
  obtain ⟨ua104_1, uc104_1, ua104_2, uc104_2, ua104_3, uc104_3, rfl, ul104_1, ge104_1, ul104_2, ge104_2, ul104_3, ge104_3⟩ := k41_openF hMe104
  have hv104_1 := hcc104 1 _ rfl
  rw [add_field _ _ 1 (by omega)] at hv104_1
  replace hv104_1 := Option.some.inj (hv104_1.symm.trans hx104_1)
  injection hv104_1 with hva_ hvn_ hvc_
  rw [hva_] at ge104_1
  rw [hvc_] at ul104_1
  have HL104_1 := am (show Kd.V k43 43 _ w.heap.size _ _ ((rd_T41 l0_2 x5_3).f1) from Kd.V_mk ul104_1 ge104_1)
  clear hva_ hvn_ hvc_ ge104_1 ul104_1
  have hv104_2 := hcc104 2 _ rfl
  rw [add_field _ _ 2 (by omega)] at hv104_2
  replace hv104_2 := Option.some.inj (hv104_2.symm.trans hx104_2)
  injection hv104_2 with hva_ hvn_ hvc_
  rw [hva_] at ge104_2
  rw [hvc_] at ul104_2
  have HL104_2 := am (show Kd.V k43 43 _ w.heap.size _ _ ((rd_T41 l0_2 x5_3).f2) from Kd.V_mk ul104_2 ge104_2)
  clear hva_ hvn_ hvc_ ge104_2 ul104_2
  have hv104_3 := hcc104 3 _ rfl
  rw [add_field _ _ 3 (by omega)] at hv104_3
  replace hv104_3 := Option.some.inj (hv104_3.symm.trans hx104_3)
  injection hv104_3 with hva_ hvn_ hvc_
  rw [hva_] at ge104_3
  rw [hvc_] at ul104_3
  have HL104_3 := am (show Kd.V k43 43 _ w.heap.size _ _ ((rd_T41 l0_2 x5_3).f3) from Kd.V_mk ul104_3 ge104_3)
  clear hva_ hvn_ hvc_ ge104_3 ul104_3 hcc104 hce104
  have HR104_1 := am hi104_1
  have HC104_1 := am hl104_1
  clear hi104_1 hl104_1
  have HR104_2 := am hi104_2
  have HC104_2 := am hl104_2
  clear hi104_2 hl104_2
  have HR104_3 := am hi104_3
  have HC104_3 := am hl104_3
  clear hi104_3 hl104_3
  replace p104 := eq_true p104
  replace q104 := eq_true q104
  go_wp2_with (first | ((with_reducible refine gate_dst (N := 6) rfl ?_); (try (refine gate_guard (by rfl) ?_; dsimp only)); refine box_ev (N := 6) (cs := #[.string (⟨#[]⟩ : ByteArray), .slice none 0 0, .slice none 0 0, .slice none 0 0, .int .i64 0]) (t := 41) ?_; intro gb105 hg w31 hbox hb; have BK105 := am hbox; have GW105 := gwb hg; have GE105 := GW105; have NB101_105 := nlt hg BK101; have NB105_101 := ngt hg BK101; have NB102_105 := nlt hg BK102; have NB105_102 := ngt hg BK102; replace HO_102001 := vbb HO_102001 hg hb; replace HO_102002 := vbb HO_102002 hg hb; replace HL104_1 := vbb HL104_1 hg hb; replace HL104_2 := vbb HL104_2 hg hb; replace HL104_3 := vbb HL104_3 hg hb; replace BK101 := bbh BK101 hb; replace BK102 := bbh BK102 hb; replace HR104_1 := cbb HR104_1 hb; replace HR104_2 := cbb HR104_2 hb; replace HR104_3 := cbb HR104_3 hb; replace HB := bst hb; clear hb hbox hg; have hnb32 := NB105_101.1; have hnc32 := NB101_105.1; have hnb33 := NB105_102.1; have hnc33 := NB102_105.1; have z34 := cf5 BK105.1; have z35 := cf3 BK102.1))
  refine bodyPost_ret (results_ct rfl _ _ gb102 25 #[.string (⟨#[]⟩ : ByteArray), .slice none 0 0, .slice none 0 0] (0, 0) _ rfl (by (with_reducible repeat (first | refine blk_drewN ?_ _ | refine blk_drew ?_ | refine blk_alloc ?_ _)); refine blk_put (cs := #[.string (⟨#[]⟩ : ByteArray), .slice none 0 0, .slice none 0 0]) ?_ 2 _ rfl; (with_reducible repeat (first | refine blk_drewN ?_ _ | refine blk_drew ?_ | refine blk_alloc ?_ _)); refine blk_put (cs := #[.string (⟨#[]⟩ : ByteArray), .slice none 0 0, .slice none 0 0]) ?_ 1 _ rfl; (with_reducible repeat (first | refine blk_drewN ?_ _ | refine blk_drew ?_ | refine blk_alloc ?_ _)); refine blk_put (cs := #[.string x103000_3, .slice none 0 0, .slice none 0 0]) ?_ 0 _ rfl; (with_reducible repeat (first | refine blk_drewN ?_ _ | refine blk_drew ?_ | refine blk_alloc ?_ _)); refine bf5 ?_ NB102_105.1; exact pbk BK102.1) Try.underlying25 rfl (by kernel_rfl)) rfl ?_
  exact ⟨_, _, per, (Kd.V_nil _ _ _ _ _), (Kd.V_nil _ _ _ _ _), pbg⟩
 rw [if_neg c28] at H
 have c28b0 : decide (20 < (((rd_T41 l0_2 x5_3).f0).size : Int)) = false := decide_eq_false c28
 have c28b1 : decide (20 < ((rd_T41 l0_2 x5_3).f0).size) = false := decide_eq_false (by omega)
 clear c28
 by_cases c36 : (((rd_T41 l0_2 x5_3).f1).length : Int) > 26
 ·rw [if_pos c36] at H
  have c36b0 : decide (26 < (((rd_T41 l0_2 x5_3).f1).length : Int)) = true := decide_eq_true c36
  have c36b1 : decide (26 < ((rd_T41 l0_2 x5_3).f1).length) = true := decide_eq_true (by omega)
  clear c36
  simp only [Option.some.injEq, Prod.mk.injEq] at H
  obtain ⟨rfl, rfl, rfl, rfl⟩ := H
  have hnb37 := NB101_102.1
  have hnc37 := NB102_101.1
  have z38 := cf3 BK101.1
  have p104 : 0 ≤ (x5_3 : Int) := dq
  have q104 : x5_3 < (l0_2.length : Int) := dq
  obtain ⟨ad104, A104_1, c104_1, A104_2, c104_2, A104_3, c104_3, e104, hx104_0, hx104_1, hx104_2, hx104_3, hx104_4, hl104_1, hi104_1, hl104_2, hi104_2, hl104_3, hi104_3⟩ := at_T41 (Kd.V_reads' HO_102002.1).2.2 x5_3 p104 q104
  cases e104
  obtain ⟨ce104, hce104, hMe104, hcc104⟩ := Kd.V_get HO_102002.1 z41 x5_3 p104 (by first | exact q104 | exact dq | (have e_ := (Kd.V_reads' HO_102002.1).1; omega))
  obtain ⟨ua104_1, uc104_1, ua104_2, uc104_2, ua104_3, uc104_3, rfl, ul104_1, ge104_1, ul104_2, ge104_2, ul104_3, ge104_3⟩ := k41_openF hMe104
  have hv104_1 := hcc104 1 _ rfl
  rw [add_field _ _ 1 (by omega)] at hv104_1
  replace hv104_1 := Option.some.inj (hv104_1.symm.trans hx104_1)
  injection hv104_1 with hva_ hvn_ hvc_
  rw [hva_] at ge104_1
  rw [hvc_] at ul104_1
  have HL104_1 := am (show Kd.V k43 43 _ w.heap.size _ _ ((rd_T41 l0_2 x5_3).f1) from Kd.V_mk ul104_1 ge104_1)
  clear hva_ hvn_ hvc_ ge104_1 ul104_1
  have hv104_2 := hcc104 2 _ rfl
  rw [add_field _ _ 2 (by omega)] at hv104_2
  replace hv104_2 := Option.some.inj (hv104_2.symm.trans hx104_2)
  injection hv104_2 with hva_ hvn_ hvc_
  rw [hva_] at ge104_2
  rw [hvc_] at ul104_2
  have HL104_2 := am (show Kd.V k43 43 _ w.heap.size _ _ ((rd_T41 l0_2 x5_3).f2) from Kd.V_mk ul104_2 ge104_2)
  clear hva_ hvn_ hvc_ ge104_2 ul104_2
  have hv104_3 := hcc104 3 _ rfl
  rw [add_field _ _ 3 (by omega)] at hv104_3
  replace hv104_3 := Option.some.inj (hv104_3.symm.trans hx104_3)
  injection hv104_3 with hva_ hvn_ hvc_
  rw [hva_] at ge104_3
  rw [hvc_] at ul104_3
  have HL104_3 := am (show Kd.V k43 43 _ w.heap.size _ _ ((rd_T41 l0_2 x5_3).f3) from Kd.V_mk ul104_3 ge104_3)
  clear hva_ hvn_ hvc_ ge104_3 ul104_3 hcc104 hce104
  have HR104_1 := am hi104_1
  have HC104_1 := am hl104_1
  clear hi104_1 hl104_1
  have HR104_2 := am hi104_2
  have HC104_2 := am hl104_2
  clear hi104_2 hl104_2
  have HR104_3 := am hi104_3
  have HC104_3 := am hl104_3
  clear hi104_3 hl104_3
  replace p104 := eq_true p104
  replace q104 := eq_true q104
  go_wp2_with (first | ((with_reducible refine gate_dst (N := 6) rfl ?_); (try (refine gate_guard (by rfl) ?_; dsimp only)); refine box_ev (N := 6) (cs := #[.string (⟨#[]⟩ : ByteArray), .slice none 0 0, .slice none 0 0, .slice none 0 0, .int .i64 0]) (t := 41) ?_; intro gb105 hg w39 hbox hb; have BK105 := am hbox; have GW105 := gwb hg; have GE105 := GW105; have NB101_105 := nlt hg BK101; have NB105_101 := ngt hg BK101; have NB102_105 := nlt hg BK102; have NB105_102 := ngt hg BK102; replace HO_102001 := vbb HO_102001 hg hb; replace HO_102002 := vbb HO_102002 hg hb; replace HL104_1 := vbb HL104_1 hg hb; replace HL104_2 := vbb HL104_2 hg hb; replace HL104_3 := vbb HL104_3 hg hb; replace BK101 := bbh BK101 hb; replace BK102 := bbh BK102 hb; replace HR104_1 := cbb HR104_1 hb; replace HR104_2 := cbb HR104_2 hb; replace HR104_3 := cbb HR104_3 hb; replace HB := bst hb; clear hb hbox hg; have hnb40 := NB105_101.1; have hnc40 := NB101_105.1; have hnb41 := NB105_102.1; have hnc41 := NB102_105.1; have z42 := cf5 BK105.1; have z43 := cf3 BK102.1))
  refine bodyPost_ret (results_ct rfl _ _ gb102 25 #[.string (⟨#[]⟩ : ByteArray), .slice none 0 0, .slice none 0 0] (0, 0) _ rfl (by (with_reducible repeat (first | refine blk_drewN ?_ _ | refine blk_drew ?_ | refine blk_alloc ?_ _)); refine blk_put (cs := #[.string (⟨#[]⟩ : ByteArray), .slice none 0 0, .slice none 0 0]) ?_ 2 _ rfl; (with_reducible repeat (first | refine blk_drewN ?_ _ | refine blk_drew ?_ | refine blk_alloc ?_ _)); refine blk_put (cs := #[.string (⟨#[]⟩ : ByteArray), .slice none 0 0, .slice none 0 0]) ?_ 1 _ rfl; (with_reducible repeat (first | refine blk_drewN ?_ _ | refine blk_drew ?_ | refine blk_alloc ?_ _)); refine blk_put (cs := #[.string x103000_3, .slice none 0 0, .slice none 0 0]) ?_ 0 _ rfl; (with_reducible repeat (first | refine blk_drewN ?_ _ | refine blk_drew ?_ | refine blk_alloc ?_ _)); refine bf5 ?_ NB102_105.1; exact pbk BK102.1) Try.underlying25 rfl (by kernel_rfl)) rfl ?_
  exact ⟨_, _, per, (Kd.V_nil _ _ _ _ _), (Kd.V_nil _ _ _ _ _), pbg⟩
 rw [if_neg c36] at H
 have c36b0 : decide (26 < (((rd_T41 l0_2 x5_3).f1).length : Int)) = false := decide_eq_false c36
 have c36b1 : decide (26 < ((rd_T41 l0_2 x5_3).f1).length) = false := decide_eq_false (by omega)
 clear c36
 by_cases c44 : (((rd_T41 l0_2 x5_3).f2).length : Int) > 26
 ·rw [if_pos c44] at H
  have c44b0 : decide (26 < (((rd_T41 l0_2 x5_3).f2).length : Int)) = true := decide_eq_true c44
  have c44b1 : decide (26 < ((rd_T41 l0_2 x5_3).f2).length) = true := decide_eq_true (by omega)
  clear c44
  simp only [Option.some.injEq, Prod.mk.injEq] at H
  obtain ⟨rfl, rfl, rfl, rfl⟩ := H
  have hnb45 := NB101_102.1
  have hnc45 := NB102_101.1
  have z46 := cf3 BK101.1
  have p104 : 0 ≤ (x5_3 : Int) := dq
  have q104 : x5_3 < (l0_2.length : Int) := dq
  obtain ⟨ad104, A104_1, c104_1, A104_2, c104_2, A104_3, c104_3, e104, hx104_0, hx104_1, hx104_2, hx104_3, hx104_4, hl104_1, hi104_1, hl104_2, hi104_2, hl104_3, hi104_3⟩ := at_T41 (Kd.V_reads' HO_102002.1).2.2 x5_3 p104 q104
  cases e104
  obtain ⟨ce104, hce104, hMe104, hcc104⟩ := Kd.V_get HO_102002.1 z41 x5_3 p104 (by first | exact q104 | exact dq | (have e_ := (Kd.V_reads' HO_102002.1).1; omega))
  obtain ⟨ua104_1, uc104_1, ua104_2, uc104_2, ua104_3, uc104_3, rfl, ul104_1, ge104_1, ul104_2, ge104_2, ul104_3, ge104_3⟩ := k41_openF hMe104
  have hv104_1 := hcc104 1 _ rfl
  rw [add_field _ _ 1 (by omega)] at hv104_1
  replace hv104_1 := Option.some.inj (hv104_1.symm.trans hx104_1)
  injection hv104_1 with hva_ hvn_ hvc_
  rw [hva_] at ge104_1
  rw [hvc_] at ul104_1
  have HL104_1 := am (show Kd.V k43 43 _ w.heap.size _ _ ((rd_T41 l0_2 x5_3).f1) from Kd.V_mk ul104_1 ge104_1)
  clear hva_ hvn_ hvc_ ge104_1 ul104_1
  have hv104_2 := hcc104 2 _ rfl
  rw [add_field _ _ 2 (by omega)] at hv104_2
  replace hv104_2 := Option.some.inj (hv104_2.symm.trans hx104_2)
  injection hv104_2 with hva_ hvn_ hvc_
  rw [hva_] at ge104_2
  rw [hvc_] at ul104_2
  have HL104_2 := am (show Kd.V k43 43 _ w.heap.size _ _ ((rd_T41 l0_2 x5_3).f2) from Kd.V_mk ul104_2 ge104_2)
  clear hva_ hvn_ hvc_ ge104_2 ul104_2
  have hv104_3 := hcc104 3 _ rfl
  rw [add_field _ _ 3 (by omega)] at hv104_3
  replace hv104_3 := Option.some.inj (hv104_3.symm.trans hx104_3)
  injection hv104_3 with hva_ hvn_ hvc_
  rw [hva_] at ge104_3
  rw [hvc_] at ul104_3
  have HL104_3 := am (show Kd.V k43 43 _ w.heap.size _ _ ((rd_T41 l0_2 x5_3).f3) from Kd.V_mk ul104_3 ge104_3)
  clear hva_ hvn_ hvc_ ge104_3 ul104_3 hcc104 hce104
  have HR104_1 := am hi104_1
  have HC104_1 := am hl104_1
  clear hi104_1 hl104_1
  have HR104_2 := am hi104_2
  have HC104_2 := am hl104_2
  clear hi104_2 hl104_2
  have HR104_3 := am hi104_3
  have HC104_3 := am hl104_3
  clear hi104_3 hl104_3
  replace p104 := eq_true p104
  replace q104 := eq_true q104
  go_wp2_with (first | ((with_reducible refine gate_dst (N := 6) rfl ?_); (try (refine gate_guard (by rfl) ?_; dsimp only)); refine box_ev (N := 6) (cs := #[.string (⟨#[]⟩ : ByteArray), .slice none 0 0, .slice none 0 0, .slice none 0 0, .int .i64 0]) (t := 41) ?_; intro gb105 hg w47 hbox hb; have BK105 := am hbox; have GW105 := gwb hg; have GE105 := GW105; have NB101_105 := nlt hg BK101; have NB105_101 := ngt hg BK101; have NB102_105 := nlt hg BK102; have NB105_102 := ngt hg BK102; replace HO_102001 := vbb HO_102001 hg hb; replace HO_102002 := vbb HO_102002 hg hb; replace HL104_1 := vbb HL104_1 hg hb; replace HL104_2 := vbb HL104_2 hg hb; replace HL104_3 := vbb HL104_3 hg hb; replace BK101 := bbh BK101 hb; replace BK102 := bbh BK102 hb; replace HR104_1 := cbb HR104_1 hb; replace HR104_2 := cbb HR104_2 hb; replace HR104_3 := cbb HR104_3 hb; replace HB := bst hb; clear hb hbox hg; have hnb48 := NB105_101.1; have hnc48 := NB101_105.1; have hnb49 := NB105_102.1; have hnc49 := NB102_105.1; have z50 := cf5 BK105.1; have z51 := cf3 BK102.1))
  refine bodyPost_ret (results_ct rfl _ _ gb102 25 #[.string (⟨#[]⟩ : ByteArray), .slice none 0 0, .slice none 0 0] (0, 0) _ rfl (by (with_reducible repeat (first | refine blk_drewN ?_ _ | refine blk_drew ?_ | refine blk_alloc ?_ _)); refine blk_put (cs := #[.string (⟨#[]⟩ : ByteArray), .slice none 0 0, .slice none 0 0]) ?_ 2 _ rfl; (with_reducible repeat (first | refine blk_drewN ?_ _ | refine blk_drew ?_ | refine blk_alloc ?_ _)); refine blk_put (cs := #[.string (⟨#[]⟩ : ByteArray), .slice none 0 0, .slice none 0 0]) ?_ 1 _ rfl; (with_reducible repeat (first | refine blk_drewN ?_ _ | refine blk_drew ?_ | refine blk_alloc ?_ _)); refine blk_put (cs := #[.string x103000_3, .slice none 0 0, .slice none 0 0]) ?_ 0 _ rfl; (with_reducible repeat (first | refine blk_drewN ?_ _ | refine blk_drew ?_ | refine blk_alloc ?_ _)); refine bf5 ?_ NB102_105.1; exact pbk BK102.1) Try.underlying25 rfl (by kernel_rfl)) rfl ?_
  exact ⟨_, _, per, (Kd.V_nil _ _ _ _ _), (Kd.V_nil _ _ _ _ _), pbg⟩
 rw [if_neg c44] at H
 have c44b0 : decide (26 < (((rd_T41 l0_2 x5_3).f2).length : Int)) = false := decide_eq_false c44
 have c44b1 : decide (26 < ((rd_T41 l0_2 x5_3).f2).length) = false := decide_eq_false (by omega)
 clear c44
 by_cases c52 : (((rd_T41 l0_2 x5_3).f3).length : Int) > 26
 ·rw [if_pos c52] at H
  have c52b0 : decide (26 < (((rd_T41 l0_2 x5_3).f3).length : Int)) = true := decide_eq_true c52
  have c52b1 : decide (26 < ((rd_T41 l0_2 x5_3).f3).length) = true := decide_eq_true (by omega)
  clear c52
  simp only [Option.some.injEq, Prod.mk.injEq] at H
  obtain ⟨rfl, rfl, rfl, rfl⟩ := H
  have hnb53 := NB101_102.1
  have hnc53 := NB102_101.1
  have z54 := cf3 BK101.1
  have p104 : 0 ≤ (x5_3 : Int) := dq
  have q104 : x5_3 < (l0_2.length : Int) := dq
  obtain ⟨ad104, A104_1, c104_1, A104_2, c104_2, A104_3, c104_3, e104, hx104_0, hx104_1, hx104_2, hx104_3, hx104_4, hl104_1, hi104_1, hl104_2, hi104_2, hl104_3, hi104_3⟩ := at_T41 (Kd.V_reads' HO_102002.1).2.2 x5_3 p104 q104
  cases e104
  obtain ⟨ce104, hce104, hMe104, hcc104⟩ := Kd.V_get HO_102002.1 z41 x5_3 p104 (by first | exact q104 | exact dq | (have e_ := (Kd.V_reads' HO_102002.1).1; omega))
  obtain ⟨ua104_1, uc104_1, ua104_2, uc104_2, ua104_3, uc104_3, rfl, ul104_1, ge104_1, ul104_2, ge104_2, ul104_3, ge104_3⟩ := k41_openF hMe104
  have hv104_1 := hcc104 1 _ rfl
  rw [add_field _ _ 1 (by omega)] at hv104_1
  replace hv104_1 := Option.some.inj (hv104_1.symm.trans hx104_1)
  injection hv104_1 with hva_ hvn_ hvc_
  rw [hva_] at ge104_1
  rw [hvc_] at ul104_1
  have HL104_1 := am (show Kd.V k43 43 _ w.heap.size _ _ ((rd_T41 l0_2 x5_3).f1) from Kd.V_mk ul104_1 ge104_1)
  clear hva_ hvn_ hvc_ ge104_1 ul104_1
  have hv104_2 := hcc104 2 _ rfl
  rw [add_field _ _ 2 (by omega)] at hv104_2
  replace hv104_2 := Option.some.inj (hv104_2.symm.trans hx104_2)
  injection hv104_2 with hva_ hvn_ hvc_
  rw [hva_] at ge104_2
  rw [hvc_] at ul104_2
  have HL104_2 := am (show Kd.V k43 43 _ w.heap.size _ _ ((rd_T41 l0_2 x5_3).f2) from Kd.V_mk ul104_2 ge104_2)
  clear hva_ hvn_ hvc_ ge104_2 ul104_2
  have hv104_3 := hcc104 3 _ rfl
  rw [add_field _ _ 3 (by omega)] at hv104_3
  replace hv104_3 := Option.some.inj (hv104_3.symm.trans hx104_3)
  injection hv104_3 with hva_ hvn_ hvc_
  rw [hva_] at ge104_3
  rw [hvc_] at ul104_3
  have HL104_3 := am (show Kd.V k43 43 _ w.heap.size _ _ ((rd_T41 l0_2 x5_3).f3) from Kd.V_mk ul104_3 ge104_3)
  clear hva_ hvn_ hvc_ ge104_3 ul104_3 hcc104 hce104
  have HR104_1 := am hi104_1
  have HC104_1 := am hl104_1
  clear hi104_1 hl104_1
  have HR104_2 := am hi104_2
  have HC104_2 := am hl104_2
  clear hi104_2 hl104_2
  have HR104_3 := am hi104_3
  have HC104_3 := am hl104_3
  clear hi104_3 hl104_3
  replace p104 := eq_true p104
  replace q104 := eq_true q104
  go_wp2_with (first | ((with_reducible refine gate_dst (N := 6) rfl ?_); (try (refine gate_guard (by rfl) ?_; dsimp only)); refine box_ev (N := 6) (cs := #[.string (⟨#[]⟩ : ByteArray), .slice none 0 0, .slice none 0 0, .slice none 0 0, .int .i64 0]) (t := 41) ?_; intro gb105 hg w55 hbox hb; have BK105 := am hbox; have GW105 := gwb hg; have GE105 := GW105; have NB101_105 := nlt hg BK101; have NB105_101 := ngt hg BK101; have NB102_105 := nlt hg BK102; have NB105_102 := ngt hg BK102; replace HO_102001 := vbb HO_102001 hg hb; replace HO_102002 := vbb HO_102002 hg hb; replace HL104_1 := vbb HL104_1 hg hb; replace HL104_2 := vbb HL104_2 hg hb; replace HL104_3 := vbb HL104_3 hg hb; replace BK101 := bbh BK101 hb; replace BK102 := bbh BK102 hb; replace HR104_1 := cbb HR104_1 hb; replace HR104_2 := cbb HR104_2 hb; replace HR104_3 := cbb HR104_3 hb; replace HB := bst hb; clear hb hbox hg; have hnb56 := NB105_101.1; have hnc56 := NB101_105.1; have hnb57 := NB105_102.1; have hnc57 := NB102_105.1; have z58 := cf5 BK105.1; have z59 := cf3 BK102.1))
  refine bodyPost_ret (results_ct rfl _ _ gb102 25 #[.string (⟨#[]⟩ : ByteArray), .slice none 0 0, .slice none 0 0] (0, 0) _ rfl (by (with_reducible repeat (first | refine blk_drewN ?_ _ | refine blk_drew ?_ | refine blk_alloc ?_ _)); refine blk_put (cs := #[.string (⟨#[]⟩ : ByteArray), .slice none 0 0, .slice none 0 0]) ?_ 2 _ rfl; (with_reducible repeat (first | refine blk_drewN ?_ _ | refine blk_drew ?_ | refine blk_alloc ?_ _)); refine blk_put (cs := #[.string (⟨#[]⟩ : ByteArray), .slice none 0 0, .slice none 0 0]) ?_ 1 _ rfl; (with_reducible repeat (first | refine blk_drewN ?_ _ | refine blk_drew ?_ | refine blk_alloc ?_ _)); refine blk_put (cs := #[.string x103000_3, .slice none 0 0, .slice none 0 0]) ?_ 0 _ rfl; (with_reducible repeat (first | refine blk_drewN ?_ _ | refine blk_drew ?_ | refine blk_alloc ?_ _)); refine bf5 ?_ NB102_105.1; exact pbk BK102.1) Try.underlying25 rfl (by kernel_rfl)) rfl ?_
  exact ⟨_, _, per, (Kd.V_nil _ _ _ _ _), (Kd.V_nil _ _ _ _ _), pbg⟩
 rw [if_neg c52] at H
 have c52b0 : decide (26 < (((rd_T41 l0_2 x5_3).f3).length : Int)) = false := decide_eq_false c52
 have c52b1 : decide (26 < ((rd_T41 l0_2 x5_3).f3).length) = false := decide_eq_false (by omega)
 clear c52
 have H' := am H
 clear H
 have hnb60 := NB101_102.1
 have hnc60 := NB102_101.1
 have z61 := cf3 BK101.1
 have p104 : 0 ≤ (x5_3 : Int) := dq
 have q104 : x5_3 < (l0_2.length : Int) := dq
 obtain ⟨ad104, A104_1, c104_1, A104_2, c104_2, A104_3, c104_3, e104, hx104_0, hx104_1, hx104_2, hx104_3, hx104_4, hl104_1, hi104_1, hl104_2, hi104_2, hl104_3, hi104_3⟩ := at_T41 (Kd.V_reads' HO_102002.1).2.2 x5_3 p104 q104
 cases e104
 obtain ⟨ce104, hce104, hMe104, hcc104⟩ := Kd.V_get HO_102002.1 z41 x5_3 p104 (by first | exact q104 | exact dq | (have e_ := (Kd.V_reads' HO_102002.1).1; omega))
 obtain ⟨ua104_1, uc104_1, ua104_2, uc104_2, ua104_3, uc104_3, rfl, ul104_1, ge104_1, ul104_2, ge104_2, ul104_3, ge104_3⟩ := k41_openF hMe104
 have hv104_1 := hcc104 1 _ rfl
 rw [add_field _ _ 1 (by omega)] at hv104_1
 replace hv104_1 := Option.some.inj (hv104_1.symm.trans hx104_1)
 injection hv104_1 with hva_ hvn_ hvc_
 rw [hva_] at ge104_1
 rw [hvc_] at ul104_1
 have HL104_1 := am (show Kd.V k43 43 _ w.heap.size _ _ ((rd_T41 l0_2 x5_3).f1) from Kd.V_mk ul104_1 ge104_1)
 clear hva_ hvn_ hvc_ ge104_1 ul104_1
 have hv104_2 := hcc104 2 _ rfl
 rw [add_field _ _ 2 (by omega)] at hv104_2
 replace hv104_2 := Option.some.inj (hv104_2.symm.trans hx104_2)
 injection hv104_2 with hva_ hvn_ hvc_
 rw [hva_] at ge104_2
 rw [hvc_] at ul104_2
 have HL104_2 := am (show Kd.V k43 43 _ w.heap.size _ _ ((rd_T41 l0_2 x5_3).f2) from Kd.V_mk ul104_2 ge104_2)
 clear hva_ hvn_ hvc_ ge104_2 ul104_2
 have hv104_3 := hcc104 3 _ rfl
 rw [add_field _ _ 3 (by omega)] at hv104_3
 replace hv104_3 := Option.some.inj (hv104_3.symm.trans hx104_3)
 injection hv104_3 with hva_ hvn_ hvc_
 rw [hva_] at ge104_3
 rw [hvc_] at ul104_3
 have HL104_3 := am (show Kd.V k43 43 _ w.heap.size _ _ ((rd_T41 l0_2 x5_3).f3) from Kd.V_mk ul104_3 ge104_3)
 clear hva_ hvn_ hvc_ ge104_3 ul104_3 hcc104 hce104
 have HR104_1 := am hi104_1
 have HC104_1 := am hl104_1
 clear hi104_1 hl104_1
 have HR104_2 := am hi104_2
 have HC104_2 := am hl104_2
 clear hi104_2 hl104_2
 have HR104_3 := am hi104_3
 have HC104_3 := am hl104_3
 clear hi104_3 hl104_3
 replace p104 := eq_true p104
 replace q104 := eq_true q104
 go_wp2_with (first | ((with_reducible refine gate_dst (N := 6) rfl ?_); (try (refine gate_guard (by rfl) ?_; dsimp only)); refine box_ev (N := 6) (cs := #[.string (⟨#[]⟩ : ByteArray), .slice none 0 0, .slice none 0 0, .slice none 0 0, .int .i64 0]) (t := 41) ?_; intro gb105 hg w62 hbox hb; have BK105 := am hbox; have GW105 := gwb hg; have GE105 := GW105; have NB101_105 := nlt hg BK101; have NB105_101 := ngt hg BK101; have NB102_105 := nlt hg BK102; have NB105_102 := ngt hg BK102; replace HO_102001 := vbb HO_102001 hg hb; replace HO_102002 := vbb HO_102002 hg hb; replace HL104_1 := vbb HL104_1 hg hb; replace HL104_2 := vbb HL104_2 hg hb; replace HL104_3 := vbb HL104_3 hg hb; replace BK101 := bbh BK101 hb; replace BK102 := bbh BK102 hb; replace HR104_1 := cbb HR104_1 hb; replace HR104_2 := cbb HR104_2 hb; replace HR104_3 := cbb HR104_3 hb; replace HB := bst hb; clear hb hbox hg; have hnb63 := NB105_101.1; have hnc63 := NB101_105.1; have hnb64 := NB105_102.1; have hnc64 := NB102_105.1; have z65 := cf5 BK105.1))
 go_roundg k3
 case measure => have := HJ1.1; have := HK2.1; have := HK3.1; omega
 case rel => exact ⟨(wrap64 (x5_3 + 1)), (x103000_3), prs, H', ⟨by have := HJ1.1; have := HK2.1; have := HK3.1; omega⟩, ⟨by (with_reducible repeat (first | apply Kd.V_alloc | apply Kd.V_drewN | apply Kd.V_drew)); exact Kd.V_mono (Kd.V_far (p := ⟨gb105, 4, none⟩) (Kd.V_far (p := ⟨gb105, 3, none⟩) (Kd.V_far (p := ⟨gb105, 2, none⟩) (Kd.V_far (p := ⟨gb105, 1, none⟩) (Kd.V_far (p := ⟨gb105, 0, none⟩) (Kd.V_mono HO_102001.1 (fun k_ hk => (⟨hk, hk.2⟩ : _ ∧ k_ ≠ gb105))) (fun _ hk => hk.2) _) (fun _ hk => hk.2) _) (fun _ hk => hk.2) _) (fun _ hk => hk.2) _) (fun _ hk => hk.2) _) (fun _ hk => ⟨hk.1.1.1, ⟨hk.1.1.2.1, hk.1.1.2.2⟩⟩)⟩, ⟨by (with_reducible repeat (first | apply Kd.V_alloc | apply Kd.V_drewN | apply Kd.V_drew)); exact Kd.V_mono (Kd.V_far (p := ⟨gb105, 4, none⟩) (Kd.V_far (p := ⟨gb105, 3, none⟩) (Kd.V_far (p := ⟨gb105, 2, none⟩) (Kd.V_far (p := ⟨gb105, 1, none⟩) (Kd.V_far (p := ⟨gb105, 0, none⟩) (Kd.V_mono HO_102002.1 (fun k_ hk => (⟨hk, hk.2⟩ : _ ∧ k_ ≠ gb105))) (fun _ hk => hk.2) _) (fun _ hk => hk.2) _) (fun _ hk => hk.2) _) (fun _ hk => hk.2) _) (fun _ hk => hk.2) _) (fun _ hk => ⟨hk.1.1.1, ⟨hk.1.1.2.1, hk.1.1.2.2⟩⟩)⟩, ⟨by (with_reducible repeat (first | refine blk_drewN ?_ _ | refine blk_drew ?_ | refine blk_alloc ?_ _)); refine bf5 ?_ NB101_105.1; exact pbk BK101.1⟩, ⟨by (with_reducible repeat (first | refine blk_drewN ?_ _ | refine blk_drew ?_ | refine blk_alloc ?_ _)); refine bf5 ?_ NB102_105.1; exact pbk BK102.1⟩, ⟨pbg⟩⟩

/-! ### marking_Valid: function 95 -/
def marking_Valid.l0 : Nat → List Int → Int → Int → Option (Bool)
 | 0, _, _, _ => none
 | k + 1, x11, x12, x13 => if x13 < x12 then (if 0 ≤ x13 then (if x13 < (x11.length : Int) then (if (rd x11 x13) < 0 then (some false) else (if (rd x11 x13) > 1048576 then (some false) else (marking_Valid.l0 k x11 x12 (wrap64 (x13 + 1))))) else (none)) else (none)) else (some true)
def marking_Valid.f (k : Nat) (l0 : List Int) (a1 : Int) : Option (Bool) := if (l0.length : Int) = a1 then (marking_Valid.l0 k l0 (l0.length : Int) 0) else (some false)
theorem marking_Valid.mono_l : ∀ k, M3 marking_Valid.l0 k
 | 0 => fun _ _ _ r h => by simp [marking_Valid.l0] at h
 | k + 1 => by
  have ih0 := marking_Valid.mono_l k
  ·intro y0 y1 y2
   unfold marking_Valid.l0
   repeat' first | (with_reducible first | apply ih0 | apply lr | apply ln | apply li | refine lb ?_ fun _ => ?_)
theorem marking_Valid.mono : ∀ a0 a1 k, LeO (marking_Valid.f k a0 a1) (marking_Valid.f (k + 1) a0 a1) := by
 intro a0 a1 k
 have ih0 := marking_Valid.mono_l k
 unfold marking_Valid.f
 repeat' first | (with_reducible first | apply ih0 | apply lr | apply ln | apply li | refine lb ?_ fun _ => ?_)
set_option maxHeartbeats 8000000 in
set_option maxRecDepth 100000 in
theorem marking_Valid.calls (k : Nat) (A0 : Option Addr) (c0 : Nat) (l0 : List Int) (a1 : Int) (r : Bool) (w : World) (hr0 : Kd.C (Kd.int .i64) w A0 l0.length l0) (hc0 : l0.length ≤ c0) (h : marking_Valid.f k l0 a1 = some r) :
  Calls Try.prog 95 #[.slice A0 l0.length c0, .int .i64 a1] w fun e w' => e = .returned (.bool r) ∧ Drawn0 w w' := by
 have HR0 := am hr0
 have HC0 := am hc0
 clear hr0 hc0
 have H : (if (l0.length : Int) = a1 then (marking_Valid.l0 k l0 (l0.length : Int) 0) else (some false)) = some r := h
 clear h
 by_cases c3 : (l0.length : Int) = a1
 rotate_left
 ·rw [if_neg c3] at H
  have c3b0 : ((l0.length : Int) == a1) = false := beq_eq_false_iff_ne.mpr c3
  have c3b1 : ((l0.length : Int) != a1) = true := bne_iff_ne.mpr c3
  obtain rfl := Option.some.inj H
  go_enter Try.func95, Try.ntmps95
  go_wp2
  go_ret
  exact ⟨prs, pdr⟩
 rw [if_pos c3] at H
 have c3b0 : ((l0.length : Int) == a1) = true := beq_iff_eq.mpr c3
 have c3b1 : ((l0.length : Int) != a1) = false := bne_eq_false_iff_eq.mpr c3
 clear c3
 have H' := am H
 clear H
 go_enter Try.func95, Try.ntmps95
 go_wp2
 go_loopg [13] k (fun kq v13 w' => ∃ (x13_1 : Int), v13 = .int .i64 x13_1 ∧ Aside0 (marking_Valid.l0 kq l0 (l0.length : Int) x13_1 = some r) ∧ Aside0 (kq ≤ k) ∧ Drawn0 w w')
 case atStart => exact ⟨(0), prs, H', ⟨Nat.le_refl _⟩, pdr⟩
 clear H'
 try clear c3 c3b0 c3b1
 obtain ⟨x13_1, rfl, HA, HK1, ⟨m1, rfl⟩⟩ := hrel
 obtain _ | k1 := gk
 ·exact absurd HA.1 (by simp [marking_Valid.l0])
 have H := HA.1
 clear HA
 simp only [marking_Valid.l0] at H
 by_cases c4 : x13_1 < (l0.length : Int)
 rotate_left
 ·rw [if_neg c4] at H
  have c4b0 : decide (x13_1 < (l0.length : Int)) = false := decide_eq_false c4
  clear c4
  obtain rfl := Option.some.inj H
  go_wp2
  go_ret
  exact ⟨prs, pdr⟩
 rw [if_pos c4] at H
 have c4b0 : decide (x13_1 < (l0.length : Int)) = true := decide_eq_true c4
 clear c4
 replace H := ifp H
 obtain ⟨c5, H⟩ := H
 have c5b0 := decide_eq_true c5
 clear c5
 replace H := ifp H
 obtain ⟨c6, H⟩ := H
 have c6b0 := decide_eq_true c6
 clear c6
 by_cases c7 : (rd l0 x13_1) < 0
 ·rw [if_pos c7] at H
  have c7b0 : decide ((rd l0 x13_1) < 0) = true := decide_eq_true c7
  clear c7
  obtain rfl := Option.some.inj H
  obtain ⟨p106, q106, ad106, e106, hx106_0⟩ := dint HR0.1 x13_1
  cases e106
  go_wp2
  go_ret
  exact ⟨prs, pdr⟩
 rw [if_neg c7] at H
 have c7b0 : decide ((rd l0 x13_1) < 0) = false := decide_eq_false c7
 clear c7
 by_cases c8 : (rd l0 x13_1) > 1048576
 ·rw [if_pos c8] at H
  have c8b0 : decide (1048576 < (rd l0 x13_1)) = true := decide_eq_true c8
  clear c8
  obtain rfl := Option.some.inj H
  obtain ⟨p106, q106, ad106, e106, hx106_0⟩ := dint HR0.1 x13_1
  cases e106
  go_wp2
  go_ret
  exact ⟨prs, pdr⟩
 rw [if_neg c8] at H
 have c8b0 : decide (1048576 < (rd l0 x13_1)) = false := decide_eq_false c8
 clear c8
 have H' := am H
 clear H
 obtain ⟨p106, q106, ad106, e106, hx106_0⟩ := dint HR0.1 x13_1
 cases e106
 go_wp2
 go_roundg k1
 case measure => have := HK1.1; omega
 case rel => exact ⟨(wrap64 (x13_1 + 1)), prs, H', ⟨by have := HK1.1; omega⟩, pdr⟩

/-! ### net_checkPlace: function 90 -/
def placeE (x c : Int) : Int := if c < 0 ∨ c > 1048576 then 1 else if (x < 0 ∨ x > 1048576) ∨ (c ≠ 0 ∧ x > c) then 10 else 0
def net_checkPlace.f (a0_0 : ByteArray) (a0_1 : Int) (a0_2 : Int) : Option Int := some (placeE a0_1 a0_2)
theorem valid_one (x : Int) : marking_Valid.f 5 [x] 1 = some (decide (0 ≤ x) && decide (x ≤ 1048576)) := by
 have hr : rd [x] 0 = x := rfl
 have h1 : wrap64 (0 + 1) = 1 := by unfold wrap64; omega
 unfold marking_Valid.f
 rw [if_pos (by simp)]
 simp only [marking_Valid.l0, List.length_cons, List.length_nil, hr, h1]
 by_cases c1 : x < 0
 ·simp [c1]; omega
 ·by_cases c2 : x > 1048576
  ·simp [c1, c2]
  ·simp [c1, c2]; omega
theorem C_one {w : World} {b t : Nat} {x : Int} (h : w.heap[b]? = some (.cells #[.int .i64 x] t (0, 0))) : Kd.C (Kd.int .i64) w (some ⟨b, 0, none⟩) 1 [x] := by
 refine ⟨rfl, by decide, fun _ => ⟨_, rfl, fun j p hj => ⟨[.int .i64 x], rfl, ?_, fun i u hu => ?_⟩⟩⟩
 ·cases j with
  | zero => cases hj; exact rfl
  | succ j => cases hj
 ·cases j with
  | succ j => cases hj
  | zero =>
   cases i with
   | zero => cases hu; exact (blk_cell h 0).trans rfl
   | succ i => cases hu
set_option maxHeartbeats 2000000 in
set_option maxRecDepth 100000 in
theorem net_checkPlace.calls (a0_0 : ByteArray) (a0_1 : Int) (a0_2 : Int) (r : Int) (w : World) (h : net_checkPlace.f a0_0 a0_1 a0_2 = some r) :
  Calls Try.prog 90 #[.agg #[.string a0_0, .int .i64 a0_1, .int .i64 a0_2]] w fun e w' => e = .returned (.int .i64 r) ∧ Below w.heap.size w w' := by
 have hr : placeE a0_1 a0_2 = r := Option.some.inj h
 clear h
 have HR := Aside0.mk hr
 clear hr
 have hb0 : (w.alloc (.cells #[.string a0_0, .int .i64 a0_1, .int .i64 a0_2] 46)).heap[w.heap.size]? = some (.cells #[.string a0_0, .int .i64 a0_1, .int .i64 a0_2] 46 (0, 0)) := alloc_new _ _
 have HB0 := Aside0.mk hb0
 have c0 := blk_cell hb0 1
 have c1 := blk_cell hb0 2
 have c0' : (w.alloc (.cells #[.string a0_0, .int .i64 a0_1, .int .i64 a0_2] 46)).cell? ⟨w.heap.size, 1, none⟩ = some (.int .i64 a0_1) := c0.trans rfl
 have c1' : (w.alloc (.cells #[.string a0_0, .int .i64 a0_1, .int .i64 a0_2] 46)).cell? ⟨w.heap.size, 2, none⟩ = some (.int .i64 a0_2) := c1.trans rfl
 clear hb0 c0 c1
 have hu := Try.underlying46
 have hs1 : (w.alloc (.cells #[.string a0_0, .int .i64 a0_1, .int .i64 a0_2] 46)).heap.size = w.heap.size + 1 := by simp
 have HB1 := Aside0.mk (show Below w.heap.size w (w.alloc (.cells #[.string a0_0, .int .i64 a0_1, .int .i64 a0_2] 46)) from below_alloc (Below.refl _ _) _)
 have bad (b1 b2 : Bool) (d1b : decide (a0_2 < 0) = b1) (d2b : decide (1048576 < a0_2) = b2) (hor : (b1 || b2) = true) :
   Calls Try.prog 90 #[.agg #[.string a0_0, .int .i64 a0_1, .int .i64 a0_2]] w fun e w' => e = .returned (.int .i64 r) ∧ Below w.heap.size w w' := by
  have HR2 := Aside0.mk (HR.out.symm.trans (show placeE a0_1 a0_2 = 1 by
   unfold placeE
   rw [if_pos]
   rcases Bool.or_eq_true _ _ ▸ hor with h | h
   ·rw [h] at d1b; exact .inl (of_decide_eq_true d1b)
   ·rw [h] at d2b; exact .inr (of_decide_eq_true d2b)))
  cases b1 with
  | true =>
   clear d2b hor
   go_enter Try.func90, Try.ntmps90
   go_wp2
   go_ret
   have e_ := HR2.out
   subst e_
   exact ⟨rfl, HB1.out⟩
  | false =>
   cases b2 with
   | false => cases hor
   | true =>
    clear hor
    go_enter Try.func90, Try.ntmps90
    go_wp2
    go_ret
    have e_ := HR2.out
    subst e_
    exact ⟨rfl, HB1.out⟩
 cases d1b : decide (a0_2 < 0) with
 | true => exact bad _ _ d1b rfl rfl
 | false =>
 cases d2b : decide (1048576 < a0_2) with
 | true => exact bad _ _ d1b d2b rfl
 | false =>
  clear bad
  have HC1 := Aside0.mk (show Kd.C (Kd.int .i64) ((w.alloc (.cells #[.string a0_0, .int .i64 a0_1, .int .i64 a0_2] 46)).alloc (.cells #[.int .i64 a0_1] 3)) (some ⟨w.heap.size + 1, 0, none⟩) 1 [a0_1] by rw [← hs1]; exact C_one (alloc_new _ _))
  clear hs1
  have d1 := of_decide_eq_false d1b
  have d2 := of_decide_eq_false d2b
  have hpe : placeE a0_1 a0_2 = if (a0_1 < 0 ∨ a0_1 > 1048576) ∨ (a0_2 ≠ 0 ∧ a0_1 > a0_2) then 10 else 0 := by unfold placeE; rw [if_neg (fun h => h.elim d1 d2)]
  have HR2 := Aside0.mk (HR.out.symm.trans hpe)
  clear hpe d1 d2 HR
  cases d3b : (decide (0 ≤ a0_1) && decide (a0_1 ≤ 1048576)) with
  | false =>
   have HR3 := Aside0.mk (HR2.out.trans (if_pos (.inl (by
    rw [Bool.and_eq_false_iff] at d3b
    exact d3b.imp (fun h => by have := of_decide_eq_false h; omega) (fun h => by have := of_decide_eq_false h; omega)))))
   have HV := Aside0.mk ((valid_one a0_1).trans (congrArg some d3b))
   clear d3b HR2
   go_enter Try.func90, Try.ntmps90
   go_wp2_with (first | (go_at_call 95; refine (marking_Valid.calls 5 _ _ [a0_1] _ _ _ HC1.out (Nat.le_refl 1) HV.out).mono ?_; rintro e w' ⟨rfl, ⟨n, rfl⟩⟩))
   go_ret
   have e_ := HR3.out
   subst e_
   exact ⟨rfl, pw_below_drewN (below_alloc HB1.out _) _⟩
  | true =>
   have HV := Aside0.mk ((valid_one a0_1).trans (congrArg some d3b))
   have d3 : ¬ (a0_1 < 0 ∨ a0_1 > 1048576) := by
    rw [Bool.and_eq_true] at d3b
    have h1 := of_decide_eq_true d3b.1
    have h2 := of_decide_eq_true d3b.2
    omega
   have D3 := Aside0.mk d3
   clear d3b d3
   cases d4b : (a0_2 == 0) with
   | true =>
    have d4c : (a0_2 != 0) = false := by rw [bne, d4b]; rfl
    have HR3 := Aside0.mk (HR2.out.trans (if_neg (fun h => h.elim D3.out (fun h => h.1 (beq_iff_eq.1 d4b)))))
    clear HR2
    go_enter Try.func90, Try.ntmps90
    go_wp2_with (first | (go_at_call 95; refine (marking_Valid.calls 5 _ _ [a0_1] _ _ _ HC1.out (Nat.le_refl 1) HV.out).mono ?_; rintro e w' ⟨rfl, ⟨n, rfl⟩⟩))
    go_ret
    have e_ := HR3.out
    subst e_
    exact ⟨rfl, pw_below_drewN (below_alloc HB1.out _) _⟩
   | false =>
    have d4c : (a0_2 != 0) = true := by rw [bne, d4b]; rfl
    have c0d : ∀ n, (((w.alloc (.cells #[.string a0_0, .int .i64 a0_1, .int .i64 a0_2] 46)).alloc (.cells #[.int .i64 a0_1] 3)).drewN n).cell? ⟨w.heap.size, 1, none⟩ = some (.int .i64 a0_1) := fun n => (blk_cell (blk_below HB0.out (pw_below_drewN (below_alloc (Below.refl _ _) _) n)) 1).trans rfl
    have c1d : ∀ n, (((w.alloc (.cells #[.string a0_0, .int .i64 a0_1, .int .i64 a0_2] 46)).alloc (.cells #[.int .i64 a0_1] 3)).drewN n).cell? ⟨w.heap.size, 2, none⟩ = some (.int .i64 a0_2) := fun n => (blk_cell (blk_below HB0.out (pw_below_drewN (below_alloc (Below.refl _ _) _) n)) 2).trans rfl
    cases d5b : decide (a0_2 < a0_1) with
    | true =>
     have HR3 := Aside0.mk (HR2.out.trans (if_pos (.inr ⟨beq_eq_false_iff_ne.1 d4b, of_decide_eq_true d5b⟩)))
     clear HR2
     go_enter Try.func90, Try.ntmps90
     go_wp2_with (first | (go_at_call 95; refine (marking_Valid.calls 5 _ _ [a0_1] _ _ _ HC1.out (Nat.le_refl 1) HV.out).mono ?_; rintro e w' ⟨rfl, ⟨n, rfl⟩⟩))
     go_ret
     have e_ := HR3.out
     subst e_
     exact ⟨rfl, pw_below_drewN (below_alloc HB1.out _) _⟩
    | false =>
     have HR3 := Aside0.mk (HR2.out.trans (if_neg (fun h => h.elim D3.out (fun h => of_decide_eq_false d5b h.2))))
     clear HR2
     go_enter Try.func90, Try.ntmps90
     go_wp2_with (first | (go_at_call 95; refine (marking_Valid.calls 5 _ _ [a0_1] _ _ _ HC1.out (Nat.le_refl 1) HV.out).mono ?_; rintro e w' ⟨rfl, ⟨n, rfl⟩⟩))
     go_ret
     have e_ := HR3.out
     subst e_
     exact ⟨rfl, pw_below_drewN (below_alloc HB1.out _) _⟩

/-! ### net_checkArcs: function 96 -/
mutual
def net_checkArcs.l0 : Nat → List (S43) → Int → List (S43) → Int → Int → Option (Int)
 | 0, _, _, _, _, _ => none
 | k + 1, x0, x1, x7, x8, x9 => if x9 < x8 then (if 0 ≤ x9 then (if x9 < (x7.length : Int) then (if ((rd_T43 x7 x9).f0) < 0 then (net_checkArcs.j1 k x0 x1 x9 x7 x8 x9 true ((rd_T43 x7 x9).f0) ((rd_T43 x7 x9).f1)) else (net_checkArcs.j1 k x0 x1 x9 x7 x8 x9 (decide (((rd_T43 x7 x9).f0) ≥ x1)) ((rd_T43 x7 x9).f0) ((rd_T43 x7 x9).f1))) else (none)) else (none)) else (some 0)
def net_checkArcs.j1 : Nat → List (S43) → Int → Int → List (S43) → Int → Int → Bool → Int → Int → Option (Int)
 | 0, _, _, _, _, _, _, _, _, _ => none
 | k + 1, x0, x1, x5, x7, x8, x9, x14, x109000, x109001 => if x14 = true then (some 7) else (if x5 > 0 then (if 0 ≤ (wrap64 (x5 - 1)) then (if (wrap64 (x5 - 1)) < (x0.length : Int) then (net_checkArcs.j2 k x0 x1 x7 x8 x9 (decide (((rd_T43 x0 (wrap64 (x5 - 1))).f0) ≥ x109000)) x109000 x109001) else (none)) else (none)) else (net_checkArcs.j2 k x0 x1 x7 x8 x9 false x109000 x109001))
def net_checkArcs.j2 : Nat → List (S43) → Int → List (S43) → Int → Int → Bool → Int → Int → Option (Int)
 | 0, _, _, _, _, _, _, _, _ => none
 | k + 1, x0, x1, x7, x8, x9, x24, x109000, x109001 => if x24 = true then (some 8) else (if x109001 < 1 then (some 9) else (if x109001 > 99 then (some 9) else (net_checkArcs.l0 k x0 x1 x7 x8 (wrap64 (x9 + 1)))))
end
def net_checkArcs.f (k : Nat) (l0 : List (S43)) (a1 : Int) : Option (Int) := net_checkArcs.l0 k l0 a1 l0 (l0.length : Int) 0
theorem net_checkArcs.mono_l : ∀ k, M5 net_checkArcs.l0 k ∧ M9 net_checkArcs.j1 k ∧ M8 net_checkArcs.j2 k
 | 0 => ⟨fun _ _ _ _ _ r h => by simp [net_checkArcs.l0] at h, fun _ _ _ _ _ _ _ _ _ r h => by simp [net_checkArcs.j1] at h, fun _ _ _ _ _ _ _ _ r h => by simp [net_checkArcs.j2] at h⟩
 | k + 1 => by
  obtain ⟨ih0, ih1, ih2⟩ := net_checkArcs.mono_l k
  refine ⟨?_, ?_, ?_⟩ <;> dsimp only [M5, M8, M9] <;> intros <;> (first | unfold net_checkArcs.l0 | unfold net_checkArcs.j1 | unfold net_checkArcs.j2) <;> repeat' first | (with_reducible first | apply ih0 | apply ih1 | apply ih2 | apply lr | apply ln | apply li | refine lb ?_ fun _ => ?_)
theorem net_checkArcs.mono : ∀ a0 a1 k, LeO (net_checkArcs.f k a0 a1) (net_checkArcs.f (k + 1) a0 a1) := by
 intro a0 a1 k
 obtain ⟨ih0, ih1, ih2⟩ := net_checkArcs.mono_l k
 unfold net_checkArcs.f
 repeat' first | (with_reducible first | apply ih0 | apply ih1 | apply ih2 | apply lr | apply ln | apply li | refine lb ?_ fun _ => ?_)
set_option maxHeartbeats 8000000 in
set_option maxRecDepth 100000 in
theorem net_checkArcs.calls (k : Nat) (A0 : Option Addr) (c0 : Nat) (l0 : List (S43)) (a1 : Int) (r : Int) (w : World) (hr0 : Kd.C k43 w A0 l0.length l0) (hc0 : l0.length ≤ c0) (h : net_checkArcs.f k l0 a1 = some r) :
  Calls Try.prog 96 #[.slice A0 l0.length c0, .int .i64 a1] w fun e w' => e = .returned (.int .i64 r) ∧ Below w.heap.size w w' := by
 have hu43 := Try.underlying43
 have HR0 := am hr0
 have HC0 := am hc0
 clear hr0 hc0
 have HB := am (Below.refl w.heap.size w)
 have H : (net_checkArcs.l0 k l0 a1 l0 (l0.length : Int) 0) = some r := h
 clear h
 have H' := am H
 clear H
 go_enter Try.func96, Try.ntmps96
 go_wp2
 repeat (go_quiet (fail); try go_wp2)
 go_loopg [9] k (fun kq v9 w' => ∃ (x9_1 : Int), v9 = .int .i64 x9_1 ∧ Aside0 (net_checkArcs.l0 kq l0 a1 l0 (l0.length : Int) x9_1 = some r) ∧ Aside0 (kq ≤ k) ∧ Aside0 (Below w.heap.size w w'))
 case atStart => exact ⟨(0), prs, H', ⟨Nat.le_refl _⟩, ⟨pbg⟩⟩
 clear H'
 obtain ⟨x9_1, rfl, HA, HK1, HB⟩ := hrel
 obtain _ | k1 := gk
 ·exact absurd HA.1 (by simp [net_checkArcs.l0])
 have H := HA.1
 clear HA
 simp only [net_checkArcs.l0] at H
 by_cases c3 : x9_1 < (l0.length : Int)
 rotate_left
 ·rw [if_neg c3] at H
  have c3b0 : decide (x9_1 < (l0.length : Int)) = false := decide_eq_false c3
  clear c3
  obtain rfl := Option.some.inj H
  go_wp2
  repeat (go_quiet (fail); try go_wp2)
  go_ret
  exact ⟨per, pbg⟩
 rw [if_pos c3] at H
 have c3b0 : decide (x9_1 < (l0.length : Int)) = true := decide_eq_true c3
 clear c3
 replace H := ifp H
 obtain ⟨c4, H⟩ := H
 have c4b0 := decide_eq_true c4
 clear c4
 replace H := ifp H
 obtain ⟨c5, H⟩ := H
 have c5b0 := decide_eq_true c5
 clear c5
 have HC6 := am H
 clear H
 obtain ⟨p107, q107, ad107, e107, hx107_0, hx107_1⟩ := bT43 HR0.1 HB.1 x9_1
 cases e107
 go_upto_region 4 with (first | ((with_reducible refine gate_dst (N := 6) rfl ?_); refine box_ev (N := 6) (cs := #[.int .i64 0, .int .i64 0]) (t := 43) ?_; intro gb108 hg w7 hbox hb; have BK108 := am hbox; have GW108 := gwl hg; have GE108 := GW108; replace HB := bsl hb; clear hb hbox hg; have z8 := cf2 BK108.1))
 repeat (go_quiet (first | ((with_reducible refine gate_dst (N := 6) rfl ?_); refine box_ev (N := 6) (cs := #[.int .i64 0, .int .i64 0]) (t := 43) ?_; intro gb108 hg w7 hbox hb; have BK108 := am hbox; have GW108 := gwl hg; have GE108 := GW108; replace HB := bsl hb; clear hb hbox hg; have z8 := cf2 BK108.1)); go_upto_region 4 with (first | ((with_reducible refine gate_dst (N := 6) rfl ?_); refine box_ev (N := 6) (cs := #[.int .i64 0, .int .i64 0]) (t := 43) ?_; intro gb108 hg w7 hbox hb; have BK108 := am hbox; have GW108 := gwl hg; have GE108 := GW108; replace HB := bsl hb; clear hb hbox hg; have z8 := cf2 BK108.1)))
 (try simp only [Act.put, List.setIfInBounds_toArray, List.set_cons_zero, List.set_cons_succ])
 go_cut [14] (fun v14 wc => ∃ (kq : Nat) (x14_5 : Bool), v14 = .bool x14_5 ∧ Aside0 (net_checkArcs.j1 kq l0 a1 x9_1 l0 (l0.length : Int) x9_1 x14_5 ((rd_T43 l0 x9_1).f0) ((rd_T43 l0 x9_1).f1) = some r) ∧ Aside0 (kq ≤ k1) ∧ Aside0 (wc.heap[gb108]? = some (.cells #[.int .i64 ((rd_T43 l0 x9_1).f0), .int .i64 ((rd_T43 l0 x9_1).f1)] 43 (0, 0))) ∧ Aside0 (Below w.heap.size w wc))
 case first =>
  have H := HC6.1
  clear HC6
  by_cases c9 : ((rd_T43 l0 x9_1).f0) < 0
  ·rw [if_pos c9] at H
   have c9b0 : decide (((rd_T43 l0 x9_1).f0) < 0) = true := decide_eq_true c9
   clear c9
   (first | rw [c9b0] | (simp only [i64_w, i32_w]; rw [c9b0]) | skip)
   have H' := am H
   clear H
   have z10 := cf2 BK108.1
   go_wp2
   repeat (go_quiet (fail); try go_wp2)
   go_meet
   case rel => exact ⟨_, (true), prs, H', ⟨by have := HK1.1; first | omega | exact Nat.le_refl _⟩, ⟨by (with_reducible repeat (first | refine blk_drewN ?_ _ | refine blk_drew ?_ | refine blk_alloc ?_ _)); exact bp2 (pbk BK108.1)⟩, ⟨pbg⟩⟩
  rw [if_neg c9] at H
  have c9b0 : decide (((rd_T43 l0 x9_1).f0) < 0) = false := decide_eq_false c9
  clear c9
  (first | rw [c9b0] | (simp only [i64_w, i32_w]; rw [c9b0]) | skip)
  have H' := am H
  clear H
  have z11 := cf2 BK108.1
  go_wp2
  repeat (go_quiet (fail); try go_wp2)
  go_meet
  case rel => exact ⟨_, (decide (((rd_T43 l0 x9_1).f0) ≥ a1)), prs, H', ⟨by have := HK1.1; first | omega | exact Nat.le_refl _⟩, ⟨by (with_reducible repeat (first | refine blk_drewN ?_ _ | refine blk_drew ?_ | refine blk_alloc ?_ _)); exact bp2 (pbk BK108.1)⟩, ⟨pbg⟩⟩
 clear HC6
 try clear c3 c3b0 c4 c4b0 c5 c5b0 c9 c9b0 z10 z11 z8 hx107_0 hx107_1 p107 q107
 obtain ⟨kq, x14_5, rfl, HA, HJ5, BK108, HB⟩ := hcut
 obtain _ | kj5 := kq
 ·exact absurd HA.1 (by simp [net_checkArcs.j1])
 have H := HA.1
 clear HA
 simp only [net_checkArcs.j1] at H
 by_cases c12 : x14_5 = true
 ·subst c12
  rw [if_pos rfl] at H
  obtain rfl := Option.some.inj H
  go_wp2
  repeat (go_quiet (fail); try go_wp2)
  go_ret
  exact ⟨per, pbg⟩
 replace c12 := Bool.eq_false_iff.mpr c12
 subst c12
 rw [if_neg Bool.false_ne_true] at H
 have HC13 := am H
 clear H
 go_upto_region 6 with (fail)
 repeat (go_quiet (fail); go_upto_region 6 with (fail))
 go_cut [24] (fun v24 wc => ∃ (kq : Nat) (x24_12 : Bool), v24 = .bool x24_12 ∧ Aside0 (net_checkArcs.j2 kq l0 a1 l0 (l0.length : Int) x9_1 x24_12 ((rd_T43 l0 x9_1).f0) ((rd_T43 l0 x9_1).f1) = some r) ∧ Aside0 (kq ≤ kj5) ∧ Aside0 (wc.heap[gb108]? = some (.cells #[.int .i64 ((rd_T43 l0 x9_1).f0), .int .i64 ((rd_T43 l0 x9_1).f1)] 43 (0, 0))) ∧ Aside0 (Below w.heap.size w wc))
 case first =>
  have H := HC13.1
  clear HC13
  by_cases c14 : x9_1 > 0
  rotate_left
  ·rw [if_neg c14] at H
   have c14b0 : decide (0 < x9_1) = false := decide_eq_false c14
   clear c14
   (first | rw [c14b0] | (simp only [i64_w, i32_w]; rw [c14b0]) | skip)
   have H' := am H
   clear H
   go_wp2
   repeat (go_quiet (fail); try go_wp2)
   go_meet
   case rel => exact ⟨_, (false), prs, H', ⟨by have := HK1.1; have := HJ5.1; first | omega | exact Nat.le_refl _⟩, ⟨pbk BK108.1⟩, ⟨pbg⟩⟩
  rw [if_pos c14] at H
  have c14b0 : decide (0 < x9_1) = true := decide_eq_true c14
  clear c14
  (first | rw [c14b0] | (simp only [i64_w, i32_w]; rw [c14b0]) | skip)
  obtain ⟨ji15, hji15⟩ : ∃ j_ : Int, (wrap64 (x9_1 - 1)) = j_ := ⟨_, rfl⟩
  replace H : (if 0 ≤ (ji15) then (if (ji15) < (l0.length : Int) then (net_checkArcs.j2 kj5 l0 a1 l0 (l0.length : Int) x9_1 (decide (((rd_T43 l0 (ji15)).f0) ≥ ((rd_T43 l0 x9_1).f0))) ((rd_T43 l0 x9_1).f0) ((rd_T43 l0 x9_1).f1)) else (none)) else (none)) = some r := by first | (rw [hji15] at H; exact H) | (simp only [hji15] at H ⊢; exact H)
  have hji15w : (IntKind.i64.wrap (x9_1 - 1)) = ji15 := (i64_w _).trans hji15
  replace H := ifp H
  obtain ⟨c16, H⟩ := H
  have c16b0 := decide_eq_true c16
  clear c16
  replace H := ifp H
  obtain ⟨c17, H⟩ := H
  have c17b0 := decide_eq_true c17
  clear c17
  have H' := am H
  clear H
  obtain ⟨p109, q109, ad109, e109, hx109_0, hx109_1⟩ := bT43 HR0.1 HB.1 (ji15)
  obtain rfl : ad107 = ad109 := (by injection e109)
  have z18 := cf2 BK108.1
  go_wp2
  repeat (go_quiet (fail); try go_wp2)
  go_meet
  case rel => exact ⟨_, (decide (((rd_T43 l0 (ji15)).f0) ≥ ((rd_T43 l0 x9_1).f0))), (by first | rfl | (simp; done) | (simp only [← hji15] <;> (first | rfl | simp)) | (simp [*]; done)), H', ⟨by have := HK1.1; have := HJ5.1; first | omega | exact Nat.le_refl _⟩, ⟨pbk BK108.1⟩, ⟨pbg⟩⟩
 clear HC13
 try clear c3 c3b0 c4 c4b0 c5 c5b0 c9 c9b0 c12 c14 c14b0 c16 c16b0 c17 c17b0 z10 z11 z18 z8 hx107_0 hx107_1 hx109_0 hx109_1 p107 p109 q107 q109
 obtain ⟨kq, x24_12, rfl, HA, HJ12, BK108, HB⟩ := hcut
 obtain _ | kj12 := kq
 ·exact absurd HA.1 (by simp [net_checkArcs.j2])
 have H := HA.1
 clear HA
 simp only [net_checkArcs.j2] at H
 by_cases c19 : x24_12 = true
 ·subst c19
  rw [if_pos rfl] at H
  obtain rfl := Option.some.inj H
  go_wp2
  repeat (go_quiet (fail); try go_wp2)
  go_ret
  exact ⟨per, pbg⟩
 replace c19 := Bool.eq_false_iff.mpr c19
 subst c19
 rw [if_neg Bool.false_ne_true] at H
 by_cases c20 : ((rd_T43 l0 x9_1).f1) < 1
 ·rw [if_pos c20] at H
  have c20b0 : decide (((rd_T43 l0 x9_1).f1) < 1) = true := decide_eq_true c20
  clear c20
  obtain rfl := Option.some.inj H
  have z21 := cf2 BK108.1
  go_wp2
  repeat (go_quiet (fail); try go_wp2)
  go_ret
  exact ⟨per, pbg⟩
 rw [if_neg c20] at H
 have c20b0 : decide (((rd_T43 l0 x9_1).f1) < 1) = false := decide_eq_false c20
 clear c20
 by_cases c22 : ((rd_T43 l0 x9_1).f1) > 99
 ·rw [if_pos c22] at H
  have c22b0 : decide (99 < ((rd_T43 l0 x9_1).f1)) = true := decide_eq_true c22
  clear c22
  obtain rfl := Option.some.inj H
  have z23 := cf2 BK108.1
  go_wp2
  repeat (go_quiet (fail); try go_wp2)
  go_ret
  exact ⟨per, pbg⟩
 rw [if_neg c22] at H
 have c22b0 : decide (99 < ((rd_T43 l0 x9_1).f1)) = false := decide_eq_false c22
 clear c22
 have H' := am H
 clear H
 have z24 := cf2 BK108.1
 go_wp2
 repeat (go_quiet (fail); try go_wp2)
 go_roundg kj12
 case measure => have := HK1.1; have := HJ5.1; have := HJ12.1; omega
 case rel => exact ⟨(wrap64 (x9_1 + 1)), prs, H', ⟨by have := HK1.1; have := HJ5.1; have := HJ12.1; omega⟩, ⟨pbg⟩⟩

/-! ### net_checkTrans: function 91 -/
mutual
def net_checkTrans.j0 : Nat → Int → Bool → ByteArray → List (S43) → List (S43) → List (S43) → Int → Option (Int)
 | 0, _, _, _, _, _, _, _ => none
 | k + 1, x1, x15, x111000, x111001, x111002, x111003, x111004 => if x15 = true then (some 1) else ((some (([x111001, x111002, x111003] : List (List (S43))) : List (List (S43)))).bind fun y111 => (net_checkTrans.l0 k x1 y111 (y111.length : Int) 0))
def net_checkTrans.l0 : Nat → Int → List (List (S43)) → Int → Int → Option (Int)
 | 0, _, _, _, _ => none
 | k + 1, x1, x22, x23, x24 => if x24 < x23 then (if 0 ≤ x24 then (if x24 < (x22.length : Int) then ((net_checkArcs.f k (rd_L4 x22 x24) x1).bind fun t115 => (if t115 = 0 then (net_checkTrans.l0 k x1 x22 x23 (wrap64 (x24 + 1))) else (some t115))) else (none)) else (none)) else (some 0)
end
def net_checkTrans.f (k : Nat) (a0_0 : ByteArray) (l0_1 : List (S43)) (l0_2 : List (S43)) (l0_3 : List (S43)) (a0_4 : Int) (a1 : Int) : Option (Int) := if a0_4 < 0 then (net_checkTrans.j0 k a1 true a0_0 l0_1 l0_2 l0_3 a0_4) else (net_checkTrans.j0 k a1 (decide (a0_4 > 9)) a0_0 l0_1 l0_2 l0_3 a0_4)
theorem net_checkTrans.mono_l : ∀ k, M7 net_checkTrans.j0 k ∧ M4 net_checkTrans.l0 k
 | 0 => ⟨fun _ _ _ _ _ _ _ r h => by simp [net_checkTrans.j0] at h, fun _ _ _ _ r h => by simp [net_checkTrans.l0] at h⟩
 | k + 1 => by
  obtain ⟨ih0, ih1⟩ := net_checkTrans.mono_l k
  refine ⟨?_, ?_⟩ <;> dsimp only [M4, M7] <;> intros <;> (first | unfold net_checkTrans.j0 | unfold net_checkTrans.l0) <;> repeat' first | (with_reducible first | apply ih0 | apply ih1 | apply net_checkArcs.mono | apply lr | apply ln | apply li | refine lb ?_ fun _ => ?_)
theorem net_checkTrans.mono : ∀ a0 a1 a2 a3 a4 a5 k, LeO (net_checkTrans.f k a0 a1 a2 a3 a4 a5) (net_checkTrans.f (k + 1) a0 a1 a2 a3 a4 a5) := by
 intro a0 a1 a2 a3 a4 a5 k
 obtain ⟨ih0, ih1⟩ := net_checkTrans.mono_l k
 unfold net_checkTrans.f
 repeat' first | (with_reducible first | apply ih0 | apply ih1 | apply net_checkArcs.mono | apply lr | apply ln | apply li | refine lb ?_ fun _ => ?_)
set_option maxHeartbeats 8000000 in
set_option maxRecDepth 100000 in
theorem net_checkTrans.calls (k : Nat) (a0_0 : ByteArray) (P0_1_ : Nat → Prop) (A0_1 : Option Addr) (c0_1 : Nat) (l0_1 : List (S43)) (P0_2_ : Nat → Prop) (A0_2 : Option Addr) (c0_2 : Nat) (l0_2 : List (S43)) (P0_3_ : Nat → Prop) (A0_3 : Option Addr) (c0_3 : Nat) (l0_3 : List (S43)) (a0_4 : Int) (a1 : Int) (r : Int) (w : World) (hs0_1 : Kd.V k43 43 w w.heap.size (fun k_ => P0_1_ k_) (.slice A0_1 l0_1.length c0_1) l0_1) (hs0_2 : Kd.V k43 43 w w.heap.size (fun k_ => P0_2_ k_) (.slice A0_2 l0_2.length c0_2) l0_2) (hs0_3 : Kd.V k43 43 w w.heap.size (fun k_ => P0_3_ k_) (.slice A0_3 l0_3.length c0_3) l0_3) (h : net_checkTrans.f k a0_0 l0_1 l0_2 l0_3 a0_4 a1 = some r) :
  Calls Try.prog 91 #[.agg #[.string a0_0, .slice A0_1 l0_1.length c0_1, .slice A0_2 l0_2.length c0_2, .slice A0_3 l0_3.length c0_3, .int .i64 a0_4], .int .i64 a1] w fun e w' => e = .returned (.int .i64 r) ∧ Below w.heap.size w w' := by
 have hu41 := Try.underlying41
 have HO0_1 := am (show Kd.V k43 43 w w.heap.size (fun k_ => ((P0_1_ k_ ∨ P0_2_ k_ ∨ P0_3_ k_) ∨ w.heap.size ≤ k_)) (.slice A0_1 l0_1.length c0_1) l0_1 from Kd.V_mono hs0_1 (fun k_ hk => .inl (.inl hk)))
 have HO0_2 := am (show Kd.V k43 43 w w.heap.size (fun k_ => ((P0_1_ k_ ∨ P0_2_ k_ ∨ P0_3_ k_) ∨ w.heap.size ≤ k_)) (.slice A0_2 l0_2.length c0_2) l0_2 from Kd.V_mono hs0_2 (fun k_ hk => .inl (.inr (.inl hk))))
 have HO0_3 := am (show Kd.V k43 43 w w.heap.size (fun k_ => ((P0_1_ k_ ∨ P0_2_ k_ ∨ P0_3_ k_) ∨ w.heap.size ≤ k_)) (.slice A0_3 l0_3.length c0_3) l0_3 from Kd.V_mono hs0_3 (fun k_ hk => .inl (.inr (.inr hk))))
 have HB := am (Below.refl w.heap.size w)
 have H : (if a0_4 < 0 then (net_checkTrans.j0 k a1 true a0_0 l0_1 l0_2 l0_3 a0_4) else (net_checkTrans.j0 k a1 (decide (a0_4 > 9)) a0_0 l0_1 l0_2 l0_3 a0_4)) = some r := h
 clear h
 have HC3 := am H
 clear H
 go_enter Try.func91, Try.ntmps91
 go_upto_region 1 with (first | ((with_reducible refine gate_dst (N := 2) rfl ?_); refine box_ev (N := 2) (cs := #[.string a0_0, .slice A0_1 l0_1.length c0_1, .slice A0_2 l0_2.length c0_2, .slice A0_3 l0_3.length c0_3, .int .i64 a0_4]) (t := 41) ?_; intro gb110 hg w4 hbox hb; have BK110 := am hbox; have GW110 := gwl hg; have GE110 := GW110; replace HO0_1 := vbb HO0_1 hg hb; replace HO0_2 := vbb HO0_2 hg hb; replace HO0_3 := vbb HO0_3 hg hb; replace HB := bsl hb; clear hb hbox hg))
 (try simp only [Act.put, List.setIfInBounds_toArray, List.set_cons_zero, List.set_cons_succ])
 go_cut [15] (fun v15 wc => ∃ (kq : Nat) (x15_2 : Bool), v15 = .bool x15_2 ∧ Aside0 (net_checkTrans.j0 kq a1 x15_2 a0_0 l0_1 l0_2 l0_3 a0_4 = some r) ∧ Aside0 (kq ≤ k) ∧ Aside0 (Kd.V k43 43 wc w.heap.size (fun k_ => ((P0_1_ k_ ∨ P0_2_ k_ ∨ P0_3_ k_) ∨ w.heap.size ≤ k_) ∧ k_ ≠ gb110) (.slice A0_1 l0_1.length c0_1) l0_1) ∧ Aside0 (Kd.V k43 43 wc w.heap.size (fun k_ => ((P0_1_ k_ ∨ P0_2_ k_ ∨ P0_3_ k_) ∨ w.heap.size ≤ k_) ∧ k_ ≠ gb110) (.slice A0_2 l0_2.length c0_2) l0_2) ∧ Aside0 (Kd.V k43 43 wc w.heap.size (fun k_ => ((P0_1_ k_ ∨ P0_2_ k_ ∨ P0_3_ k_) ∨ w.heap.size ≤ k_) ∧ k_ ≠ gb110) (.slice A0_3 l0_3.length c0_3) l0_3) ∧ Aside0 (wc.heap[gb110]? = some (.cells #[.string a0_0, (.slice A0_1 l0_1.length c0_1), (.slice A0_2 l0_2.length c0_2), (.slice A0_3 l0_3.length c0_3), .int .i64 a0_4] 41 (0, 0))) ∧ Aside0 (Below w.heap.size w wc))
 case first =>
  have H := HC3.1
  clear HC3
  by_cases c5 : a0_4 < 0
  ·rw [if_pos c5] at H
   have c5b0 : decide (a0_4 < 0) = true := decide_eq_true c5
   clear c5
   (first | rw [c5b0] | (simp only [i64_w, i32_w]; rw [c5b0]) | skip)
   have H' := am H
   clear H
   have z6 := cf5 BK110.1
   go_wp2
   go_meet
   case rel => exact ⟨_, (true), prs, H', ⟨by first | omega | exact Nat.le_refl _⟩, ⟨pkv HO0_1.1⟩, ⟨pkv HO0_2.1⟩, ⟨pkv HO0_3.1⟩, ⟨pbk BK110.1⟩, ⟨pbg⟩⟩
  rw [if_neg c5] at H
  have c5b0 : decide (a0_4 < 0) = false := decide_eq_false c5
  clear c5
  (first | rw [c5b0] | (simp only [i64_w, i32_w]; rw [c5b0]) | skip)
  have H' := am H
  clear H
  have z7 := cf5 BK110.1
  go_wp2
  go_meet
  case rel => exact ⟨_, (decide (a0_4 > 9)), prs, H', ⟨by first | omega | exact Nat.le_refl _⟩, ⟨pkv HO0_1.1⟩, ⟨pkv HO0_2.1⟩, ⟨pkv HO0_3.1⟩, ⟨pbk BK110.1⟩, ⟨pbg⟩⟩
 clear HC3
 try clear c5 c5b0 z6 z7
 obtain ⟨kq, x15_2, rfl, HA, HJ2, HO_111001, HO_111002, HO_111003, BK110, HB⟩ := hcut
 obtain _ | kj2 := kq
 ·exact absurd HA.1 (by simp [net_checkTrans.j0])
 have H := HA.1
 clear HA
 simp only [net_checkTrans.j0] at H
 by_cases c8 : x15_2 = true
 ·subst c8
  rw [if_pos rfl] at H
  obtain rfl := Option.some.inj H
  go_wp2
  go_ret
  exact ⟨per, pbg⟩
 replace c8 := Bool.eq_false_iff.mpr c8
 subst c8
 rw [if_neg Bool.false_ne_true] at H
 obtain ⟨y111, hy111⟩ : ∃ y_ : List (List (S43)), y_ = (([l0_1, l0_2, l0_3] : List (List (S43)))) := ⟨_, rfl⟩
 replace H : (net_checkTrans.l0 kj2 a1 y111 (y111.length : Int) 0) = some r := hrp hy111 H
 have Ny111 := am hy111
 clear hy111
 have H' := am H
 clear H
 have z9 := cf5 BK110.1
 go_wp2_with (first | ((with_reducible refine gate_dst (N := 22) rfl ?_); refine Kd.N_lit (Kd.slice 43 k43) _ 39 ?hg (N' := 22) ?hd (xs := ([l0_1, l0_2, l0_3] : List (List (S43)))) (inner := [.slice A0_1 l0_1.length c0_1, .slice A0_2 l0_2.length c0_2, .slice A0_3 l0_3.length c0_3]) (ok := (fun k_ => ((P0_1_ k_ ∨ P0_2_ k_ ∨ P0_3_ k_) ∨ w.heap.size ≤ k_) ∧ k_ ≠ gb110)) (okp := (fun k_ => ((P0_1_ k_ ∨ P0_2_ k_ ∨ P0_3_ k_) ∨ w.heap.size ≤ k_) ∧ k_ ≠ gb110)) ?hr ?hp (fun _ hk => hk) ((show ∀ k_, wc.heap.size ≤ k_ → (fun k_ => ((P0_1_ k_ ∨ P0_2_ k_ ∨ P0_3_ k_) ∨ w.heap.size ≤ k_) ∧ k_ ≠ gb110) k_ from fun k_ hk => ⟨(.inr (Nat.le_trans (below_size pbg) hk)), Kd.freshB (g := gb110) (o := .cells #[.string a0_0, .slice A0_1 l0_1.length c0_1, .slice A0_2 l0_2.length c0_2, .slice A0_3 l0_3.length c0_3, .int .i64 a0_4] 41 (0, 0)) (by exact pbk BK110.1) k_ hk⟩) _ (Nat.le_refl _)) (Below.refl _ _) (Nat.le_refl _) (by simp) ?_; (case hd => rfl); (case hg => rfl); (case hr => first | (go_simp; done) | (go_simp; rfl)); (case hp => exact (Reps.one (show Kd.FK (Kd.slice 43 k43) _ _ l0_1 [.slice A0_1 l0_1.length c0_1] from (Kd.FK_slice_mk (Kd.V_reads' (Kd.V_mono (ok' := (fun k_ => ((P0_1_ k_ ∨ P0_2_ k_ ∨ P0_3_ k_) ∨ w.heap.size ≤ k_) ∧ k_ ≠ gb110)) (HO_111001.1) (fun k_ hk => ⟨hk.1, hk.2⟩))).2.1 (Kd.V_F (Kd.V_mono (ok' := (fun k_ => ((P0_1_ k_ ∨ P0_2_ k_ ∨ P0_3_ k_) ∨ w.heap.size ≤ k_) ∧ k_ ≠ gb110)) (HO_111001.1) (fun k_ hk => ⟨hk.1, hk.2⟩))))) (Reps.one (show Kd.FK (Kd.slice 43 k43) _ _ l0_2 [.slice A0_2 l0_2.length c0_2] from (Kd.FK_slice_mk (Kd.V_reads' (Kd.V_mono (ok' := (fun k_ => ((P0_1_ k_ ∨ P0_2_ k_ ∨ P0_3_ k_) ∨ w.heap.size ≤ k_) ∧ k_ ≠ gb110)) (HO_111002.1) (fun k_ hk => ⟨hk.1, hk.2⟩))).2.1 (Kd.V_F (Kd.V_mono (ok' := (fun k_ => ((P0_1_ k_ ∨ P0_2_ k_ ∨ P0_3_ k_) ∨ w.heap.size ≤ k_) ∧ k_ ≠ gb110)) (HO_111002.1) (fun k_ hk => ⟨hk.1, hk.2⟩))))) (Reps.one (show Kd.FK (Kd.slice 43 k43) _ _ l0_3 [.slice A0_3 l0_3.length c0_3] from (Kd.FK_slice_mk (Kd.V_reads' (Kd.V_mono (ok' := (fun k_ => ((P0_1_ k_ ∨ P0_2_ k_ ∨ P0_3_ k_) ∨ w.heap.size ≤ k_) ∧ k_ ≠ gb110)) (HO_111003.1) (fun k_ hk => ⟨hk.1, hk.2⟩))).2.1 (Kd.V_F (Kd.V_mono (ok' := (fun k_ => ((P0_1_ k_ ∨ P0_2_ k_ ∨ P0_3_ k_) ∨ w.heap.size ≤ k_) ∧ k_ ≠ gb110)) (HO_111003.1) (fun k_ hk => ⟨hk.1, hk.2⟩))))) (Reps.none _ _))))); intro v112 w10 ho11 hb hg_ hnew_; clear hg_ hnew_; (first | rw [← Ny111.1] at ho11 | (simp only [Int.reduceToNat] at ho11; rw [← Ny111.1] at ho11)); have HO113 := am (Kd.N_lower ho11 (below_size pbg)); replace HO_111001 := am (Kd.V_elder' (pkv HO_111001.1) (Kd.N_base ho11) hb); replace HO_111002 := am (Kd.V_elder' (pkv HO_111002.1) (Kd.N_base ho11) hb); replace HO_111003 := am (Kd.V_elder' (pkv HO_111003.1) (Kd.N_base ho11) hb); replace BK110 := bbh BK110 hb; replace HB := bst hb; clear hb ho11; obtain ⟨Ao12, co12, eo12⟩ := Kd.N_slice HO113.1; subst eo12))
 go_loopg [24] kj2 (fun kq v24 w' => ∃ (x24_2 : Int), v24 = .int .i64 x24_2 ∧ Aside0 (net_checkTrans.l0 kq a1 y111 (y111.length : Int) x24_2 = some r) ∧ Aside0 (kq ≤ kj2) ∧ Aside0 (Kd.N (Kd.slice 43 k43) 39 w' w.heap.size (fun k_ => ((P0_1_ k_ ∨ P0_2_ k_ ∨ P0_3_ k_) ∨ w.heap.size ≤ k_) ∧ k_ ≠ gb110) (.slice Ao12 y111.length co12) y111) ∧ Aside0 (Kd.V k43 43 w' w.heap.size (fun k_ => ((P0_1_ k_ ∨ P0_2_ k_ ∨ P0_3_ k_) ∨ w.heap.size ≤ k_) ∧ some k_ ≠ ((.slice Ao12 y111.length co12) : Value).ownBlock ∧ k_ ≠ gb110) (.slice A0_1 l0_1.length c0_1) l0_1) ∧ Aside0 (Kd.V k43 43 w' w.heap.size (fun k_ => ((P0_1_ k_ ∨ P0_2_ k_ ∨ P0_3_ k_) ∨ w.heap.size ≤ k_) ∧ some k_ ≠ ((.slice Ao12 y111.length co12) : Value).ownBlock ∧ k_ ≠ gb110) (.slice A0_2 l0_2.length c0_2) l0_2) ∧ Aside0 (Kd.V k43 43 w' w.heap.size (fun k_ => ((P0_1_ k_ ∨ P0_2_ k_ ∨ P0_3_ k_) ∨ w.heap.size ≤ k_) ∧ some k_ ≠ ((.slice Ao12 y111.length co12) : Value).ownBlock ∧ k_ ≠ gb110) (.slice A0_3 l0_3.length c0_3) l0_3) ∧ Aside0 (w'.heap[gb110]? = some (.cells #[.string a0_0, (.slice A0_1 l0_1.length c0_1), (.slice A0_2 l0_2.length c0_2), (.slice A0_3 l0_3.length c0_3), .int .i64 a0_4] 41 (0, 0))) ∧ Aside0 (Below w.heap.size w w'))
 case atStart => exact ⟨(0), prs, H', ⟨Nat.le_refl _⟩, ⟨pkn HO113.1⟩, ⟨by (with_reducible repeat (first | apply Kd.V_alloc | apply Kd.V_drewN | apply Kd.V_drew)); exact Kd.V_mono HO_111001.1 (fun _ hk => ⟨hk.1.1, ⟨hk.2, hk.1.2⟩⟩)⟩, ⟨by (with_reducible repeat (first | apply Kd.V_alloc | apply Kd.V_drewN | apply Kd.V_drew)); exact Kd.V_mono HO_111002.1 (fun _ hk => ⟨hk.1.1, ⟨hk.2, hk.1.2⟩⟩)⟩, ⟨by (with_reducible repeat (first | apply Kd.V_alloc | apply Kd.V_drewN | apply Kd.V_drew)); exact Kd.V_mono HO_111003.1 (fun _ hk => ⟨hk.1.1, ⟨hk.2, hk.1.2⟩⟩)⟩, ⟨pbk BK110.1⟩, ⟨pbg⟩⟩
 clear H'
 try clear c5 c5b0 c8 z6 z7 z9
 obtain ⟨x24_2, rfl, HA, HK2, HO_22, HO_111001, HO_111002, HO_111003, BK110, HB⟩ := hrel
 obtain _ | k2 := gk
 ·exact absurd HA.1 (by simp [net_checkTrans.l0])
 have H := HA.1
 clear HA
 simp only [net_checkTrans.l0] at H
 by_cases c13 : x24_2 < (y111.length : Int)
 rotate_left
 ·rw [if_neg c13] at H
  have c13b0 : decide (x24_2 < (y111.length : Int)) = false := decide_eq_false c13
  clear c13
  obtain rfl := Option.some.inj H
  go_wp2
  go_ret
  exact ⟨per, pbg⟩
 rw [if_pos c13] at H
 have c13b0 : decide (x24_2 < (y111.length : Int)) = true := decide_eq_true c13
 clear c13
 replace H := ifp H
 obtain ⟨c14, H⟩ := H
 have c14b0 := decide_eq_true c14
 clear c14
 replace H := ifp H
 obtain ⟨c15, H⟩ := H
 have c15b0 := decide_eq_true c15
 clear c15
 replace H := bnd H
 obtain ⟨t115, A16, H⟩ := H
 (try dsimp only at H)
 by_cases c17 : t115 = 0
 rotate_left
 ·rw [if_neg c17] at H
  have c17b0 : (t115 == 0) = false := beq_eq_false_iff_ne.mpr c17
  have c17b1 : (t115 != 0) = true := bne_iff_ne.mpr c17
  obtain rfl := Option.some.inj H
  have p114 : 0 ≤ (x24_2 : Int) := dq
  have q114 : x24_2 < (y111.length : Int) := dq
  obtain ⟨ad114, A114_0, c114_0, e114, hx114_0, hl114_0, hi114_0⟩ := at_L4 (Kd.N_reads' HO_22.1).2.2 x24_2 p114 q114
  cases e114
  obtain ⟨ce114, hce114, hMe114, hcc114⟩ := Kd.N_get HO_22.1 [] x24_2 p114 (by first | exact q114 | exact dq | (have e_ := (Kd.N_reads' HO_22.1).1; omega))
  obtain ⟨ua114_0, uc114_0, rfl, ul114_0, ge114_0⟩ := Kd.FK_slice_open hMe114
  have hv114_0 := hcc114 0 _ rfl
  rw [Nat.add_zero, show ((Kd.slice 43 k43)).sz = 1 from rfl, Nat.mul_one] at hv114_0
  replace hv114_0 := Option.some.inj (hv114_0.symm.trans hx114_0)
  injection hv114_0 with hva_ hvn_ hvc_
  rw [hva_] at ge114_0
  rw [hvc_] at ul114_0
  have HL114_0 := am (show Kd.V k43 43 _ w.heap.size _ _ (rd_L4 y111 x24_2) from Kd.V_mk ul114_0 ge114_0)
  clear hva_ hvn_ hvc_ ge114_0 ul114_0 hcc114 hce114
  have HR114_0 := am hi114_0
  have HC114_0 := am hl114_0
  clear hi114_0 hl114_0
  replace p114 := eq_true p114
  replace q114 := eq_true q114
  go_wp2_with (first | ((with_reducible refine gate_callee (f := 96) rfl ?_); refine gC 30 Try.func96 _ (net_checkArcs.calls k2 _ _ (rd_L4 y111 x24_2) a1 t115 _ ?side1 ?side2 A16.1) ?_; (case side1 => repeat (first | exact (by repeat (first | (with_reducible exact HR114_0.1) | (with_reducible refine Kd.C_alloc ?_ _) | (with_reducible refine Kd.C_drewN ?_ _) | (with_reducible refine Kd.C_drew ?_) | exact HR114_0.1)) | (with_reducible refine Kd.C_alloc ?_ _) | (with_reducible refine Kd.C_drewN ?_ _) | (with_reducible refine Kd.C_drew ?_))); (case side2 => exact HC114_0.1); rintro e w19 ⟨rfl, hb⟩; refine ⟨_, rfl, ?_⟩; replace HO_22 := nbw HO_22 hb; replace HO_111001 := vbw HO_111001 hb; replace HO_111002 := vbw HO_111002 hb; replace HO_111003 := vbw HO_111003 hb; replace HL114_0 := vbw HL114_0 hb; replace BK110 := bbh BK110 hb; replace HR114_0 := cbb HR114_0 hb; replace HB := bst hb; (try clear hb)))
  go_ret
  exact ⟨per, pbg⟩
 rw [if_pos c17] at H
 have c17b0 : (t115 == 0) = true := beq_iff_eq.mpr c17
 have c17b1 : (t115 != 0) = false := bne_eq_false_iff_eq.mpr c17
 clear c17
 have H' := am H
 clear H
 have p114 : 0 ≤ (x24_2 : Int) := dq
 have q114 : x24_2 < (y111.length : Int) := dq
 obtain ⟨ad114, A114_0, c114_0, e114, hx114_0, hl114_0, hi114_0⟩ := at_L4 (Kd.N_reads' HO_22.1).2.2 x24_2 p114 q114
 cases e114
 obtain ⟨ce114, hce114, hMe114, hcc114⟩ := Kd.N_get HO_22.1 [] x24_2 p114 (by first | exact q114 | exact dq | (have e_ := (Kd.N_reads' HO_22.1).1; omega))
 obtain ⟨ua114_0, uc114_0, rfl, ul114_0, ge114_0⟩ := Kd.FK_slice_open hMe114
 have hv114_0 := hcc114 0 _ rfl
 rw [Nat.add_zero, show ((Kd.slice 43 k43)).sz = 1 from rfl, Nat.mul_one] at hv114_0
 replace hv114_0 := Option.some.inj (hv114_0.symm.trans hx114_0)
 injection hv114_0 with hva_ hvn_ hvc_
 rw [hva_] at ge114_0
 rw [hvc_] at ul114_0
 have HL114_0 := am (show Kd.V k43 43 _ w.heap.size _ _ (rd_L4 y111 x24_2) from Kd.V_mk ul114_0 ge114_0)
 clear hva_ hvn_ hvc_ ge114_0 ul114_0 hcc114 hce114
 have HR114_0 := am hi114_0
 have HC114_0 := am hl114_0
 clear hi114_0 hl114_0
 replace p114 := eq_true p114
 replace q114 := eq_true q114
 go_wp2_with (first | ((with_reducible refine gate_callee (f := 96) rfl ?_); refine gC 30 Try.func96 _ (net_checkArcs.calls k2 _ _ (rd_L4 y111 x24_2) a1 t115 _ ?side1 ?side2 A16.1) ?_; (case side1 => repeat (first | exact (by repeat (first | (with_reducible exact HR114_0.1) | (with_reducible refine Kd.C_alloc ?_ _) | (with_reducible refine Kd.C_drewN ?_ _) | (with_reducible refine Kd.C_drew ?_) | exact HR114_0.1)) | (with_reducible refine Kd.C_alloc ?_ _) | (with_reducible refine Kd.C_drewN ?_ _) | (with_reducible refine Kd.C_drew ?_))); (case side2 => exact HC114_0.1); rintro e w18 ⟨rfl, hb⟩; refine ⟨_, rfl, ?_⟩; replace HO_22 := nbw HO_22 hb; replace HO_111001 := vbw HO_111001 hb; replace HO_111002 := vbw HO_111002 hb; replace HO_111003 := vbw HO_111003 hb; replace HL114_0 := vbw HL114_0 hb; replace BK110 := bbh BK110 hb; replace HR114_0 := cbb HR114_0 hb; replace HB := bst hb; (try clear hb)))
 go_roundg k2
 case measure => have := HJ2.1; have := HK2.1; omega
 case rel => exact ⟨(wrap64 (x24_2 + 1)), prs, H', ⟨by have := HJ2.1; have := HK2.1; omega⟩, ⟨pkn HO_22.1⟩, ⟨pkv HO_111001.1⟩, ⟨pkv HO_111002.1⟩, ⟨pkv HO_111003.1⟩, ⟨pbk BK110.1⟩, ⟨pbg⟩⟩

/-! ### digraph_inside: function 70 -/
def digraph_inside.f (l0 : List (List Int)) (a1 : Int) : Option (Bool) := if a1 ≥ 0 then (some (decide (a1 < (l0.length : Int)))) else (some false)
set_option maxHeartbeats 8000000 in
set_option maxRecDepth 100000 in
theorem digraph_inside.calls (A0 : Option Addr) (c0 : Nat) (l0 : List (List Int)) (a1 : Int) (r : Bool) (w : World) (hr0 : Kd.C (Kd.slice 3 (Kd.int .i64)) w A0 l0.length l0) (hc0 : l0.length ≤ c0) (h : digraph_inside.f l0 a1 = some r) :
  Calls Try.prog 70 #[.slice A0 l0.length c0, .int .i64 a1] w fun e w' => e = .returned (.bool r) ∧ Drawn0 w w' := by
 have HR0 := am hr0
 have HC0 := am hc0
 clear hr0 hc0
 have H : (if a1 ≥ 0 then (some (decide (a1 < (l0.length : Int)))) else (some false)) = some r := h
 clear h
 by_cases c3 : a1 ≥ 0
 ·rw [if_pos c3] at H
  have c3b0 : decide (0 ≤ a1) = true := decide_eq_true c3
  clear c3
  obtain rfl := Option.some.inj H
  go_enter Try.func70, Try.ntmps70
  go_wp2
  go_ret
  exact ⟨prs, pdr⟩
 rw [if_neg c3] at H
 have c3b0 : decide (0 ≤ a1) = false := decide_eq_false c3
 clear c3
 obtain rfl := Option.some.inj H
 go_enter Try.func70, Try.ntmps70
 go_wp2
 go_ret
 exact ⟨prs, pdr⟩

/-! ### digraph_Reach: function 39 -/
structure VInv (w0 w : World) (Bg Bo Bt : Nat) (A0 : Option Addr) (c0 : Nat) (g : List (List Int)) (out : List Bool) (todo : List Int) : Prop where
 hg : w.heap[Bg]? = some (.cells #[.slice A0 g.length c0] 30 (0, 0))
 o : ∃ vo, w.heap[Bo]? = some (.cells #[vo] 49 (0, 0)) ∧ Kd.R Kd.bool 4 w w0.heap.size (fun _ => True) vo out
 t : ∃ vt, w.heap[Bt]? = some (.cells #[vt] 37 (0, 0)) ∧ Kd.R (Kd.int .i64) 3 w w0.heap.size (fun _ => True) vt todo
 B : Below w0.heap.size w0 w
 bo : w0.heap.size ≤ Bo
 bt : w0.heap.size ≤ Bt
 len : out.length = g.length

theorem VInv.below {w0 w w1 : World} {Bg Bo Bt : Nat} {A0 : Option Addr} {c0 : Nat} {g : List (List Int)} {out : List Bool} {todo : List Int} (h : VInv w0 w Bg Bo Bt A0 c0 g out todo) (hb : Below w.heap.size w w1) : VInv w0 w1 Bg Bo Bt A0 c0 g out todo := by
 obtain ⟨hg, ⟨vo, h1, h2⟩, ⟨vt, h3, h4⟩, B, bo, bt, len⟩ := h
 exact ⟨blk_below hg hb, ⟨vo, blk_below h1 hb, Kd.R_below h2 hb⟩, ⟨vt, blk_below h3 hb, Kd.R_below h4 hb⟩, B.trans (hb.mono B.size), bo, bt, len⟩
theorem VInv.put {w0 w : World} {Bg Bo Bt : Nat} {A0 : Option Addr} {c0 : Nat} {g : List (List Int)} {out : List Bool} {todo : List Int} (h : VInv w0 w Bg Bo Bt A0 c0 g out todo) {go co : Nat} {cells : Array Value} (hO : Kd.R Kd.bool 4 w w0.heap.size (fun _ => True) (.slice (some ⟨go, 0, none⟩) out.length co) out)
  (ho : w.heap[Bo]? = some (.cells #[.slice (some ⟨go, 0, none⟩) out.length co] 49 (0, 0))) (hgo : w.heap[go]? = some (.cells cells 4 (0, 0))) (hb : w0.heap.size ≤ go) (v : Int) (x : Bool) : VInv w0 (w.setCell ⟨go, v.toNat, none⟩ (.bool x)) Bg Bo Bt A0 c0 g (out.set v.toNat x) todo := by
 obtain ⟨hg, _, ⟨vt, h3, h4⟩, B, bo, bt, len⟩ := h
 refine ⟨blk_over hg (blk_apart hg hgo (by decide)) _, ⟨_, blk_over ho (blk_apart ho hgo (by decide)) _, (Kd.R_putg hO v x).1⟩, ⟨vt, blk_over h3 (blk_apart h3 hgo (by decide)) _, Kd.R_set h4 hgo (by decide) _ _⟩, below_set B hb, bo, bt, by rw [List.length_set]; exact len⟩
theorem VInv.push {w0 W w1 : World} {Bg Bo Bt : Nat} {A0 : Option Addr} {c0 : Nat} {g : List (List Int)} {out : List Bool} {todo todo' : List Int} (h : VInv w0 W Bg Bo Bt A0 c0 g out todo) {v v1 : Value} (hT : Kd.R (Kd.int .i64) 3 W w0.heap.size (fun _ => True) v todo)
  (h1 : Kd.R (Kd.int .i64) 3 w1 w0.heap.size (fun _ => True) v1 todo') (hb : Below w0.heap.size w0 w1) (hg : W.grownBy w1 v.ownBlock) : VInv w0 (w1.setCell ⟨Bt, 0, none⟩ v1) Bg Bo Bt A0 c0 g out todo' ∧ w1.cell? ⟨Bt, 0, none⟩ ≠ none ∧ w1.frozen? ⟨Bt, 0, none⟩ = false := by
 obtain ⟨hg', ⟨vo, h5, h6⟩, ⟨vt, h3, h4⟩, B, bo, bt, len⟩ := h
 have e1 := grown_blk hg' (Kd.R_typed hT) (by decide) hg
 have e2 := grown_blk h5 (Kd.R_typed hT) (by decide) hg
 have e3 := grown_blk h3 (Kd.R_typed hT) (by decide) hg
 have e4 := Kd.R_over' h6 (Kd.R_typed hT) (by decide) hg
 refine ⟨⟨blk_over e1 (blk_apart e1 e3 (by decide)) _, ⟨vo, blk_over e2 (blk_apart e2 e3 (by decide)) _, Kd.R_set e4 e3 (by decide) _ _⟩, ⟨v1, one_setCell e3, Kd.R_set h1 e3 (by decide) _ _⟩, below_set hb bt, bo, bt, len⟩, by rw [cell_of_one e3]; simp, free_of_one e3⟩
/-- The row in the variable made shorter. -/
theorem VInv.cut {w0 w : World} {Bg Bo Bt : Nat} {A0 : Option Addr} {c0 : Nat} {g : List (List Int)} {out : List Bool} {todo todo' : List Int} (h : VInv w0 w Bg Bo Bt A0 c0 g out todo) {v1 : Value} (h1 : Kd.R (Kd.int .i64) 3 w w0.heap.size (fun _ => True) v1 todo') : VInv w0 (w.setCell ⟨Bt, 0, none⟩ v1) Bg Bo Bt A0 c0 g out todo' := by
 obtain ⟨hg', ⟨vo, h5, h6⟩, ⟨vt, h3, h4⟩, B, bo, bt, len⟩ := h
 exact ⟨blk_over hg' (blk_apart hg' h3 (by decide)) _, ⟨vo, blk_over h5 (blk_apart h5 h3 (by decide)) _, Kd.R_set h6 h3 (by decide) _ _⟩, ⟨v1, one_setCell h3, Kd.R_set h1 h3 (by decide) _ _⟩, below_set B bt, bo, bt, len⟩
theorem VInv.start {w w1 : World} {A0 : Option Addr} {c0 : Nat} {g : List (List Int)} {vo : Value} (ho : Kd.R Kd.bool 4 w1 w.heap.size (fun _ => True) vo (List.replicate g.length false)) (hb : Below w.heap.size w w1) (hg : (w.alloc (.cells #[.slice A0 g.length c0] 30)).grownBy w1 none) :
  VInv w ((w1.alloc (.cells #[vo] 49)).alloc (.cells #[.slice none 0 0] 37)) w.heap.size w1.heap.size (w1.heap.size + 1) A0 c0 g (List.replicate g.length false) [] := by
 have e0 := hg.block w.heap.size (by simp) (by simp)
 rw [alloc_new] at e0
 have b1 : Below w1.heap.size w1 (w1.alloc (.cells #[vo] 49)) := below_alloc (Below.refl _ _) _
 have b2 : Below (w1.alloc (.cells #[vo] 49)).heap.size (w1.alloc (.cells #[vo] 49)) ((w1.alloc (.cells #[vo] 49)).alloc (.cells #[.slice none 0 0] 37)) := below_alloc (Below.refl _ _) _
 have hs : (w1.alloc (.cells #[vo] 49)).heap.size = w1.heap.size + 1 := by simp
 have hz := hb.size
 refine ⟨blk_below (blk_below e0 b1) b2, ⟨vo, blk_below (alloc_new _ _) b2, Kd.R_below (Kd.R_below ho b1) b2⟩, ⟨.slice none 0 0, by rw [← hs]; exact alloc_new _ _, Kd.R_nil _ _ _ _ _⟩, below_alloc (below_alloc hb _) _, hz, by omega, by simp⟩

set_option maxHeartbeats 400000 in
theorem visit_out (w0 w : World) (Bg Bo Bt : Nat) (A0 : Option Addr) (c0 : Nat) (g : List (List Int)) (out : List Bool) (todo : List Int) (v : Int)
  (hr0 : Kd.C (Kd.slice 3 (Kd.int .i64)) w0 A0 g.length g) (hc0 : g.length ≤ c0) (h : VInv w0 w Bg Bo Bt A0 c0 g out todo) (hv : digraph_inside.f g v = some false) :
  Calls Try.prog 69 #[.int .i64 v, .pointer (some ⟨Bg, 0, none⟩), .pointer (some ⟨Bo, 0, none⟩), .pointer (some ⟨Bt, 0, none⟩)] w fun e w' => e = .returned (.tuple #[]) ∧ VInv w0 w' Bg Bo Bt A0 c0 g out todo := by
 have cg := cell_of_one h.hg
 have HV := Aside0.mk h
 have HV0 := Aside0.mk hv
 have HR := Aside0.mk (Kd.C_below hr0 h.B)
 clear hr0 h hv
 go_enter Try.func69, Try.ntmps69
 go_wp2_with (first | (go_at_call 70; refine (digraph_inside.calls _ _ _ _ _ _ HR.out hc0 HV0.out).mono ?_; rintro e w' ⟨rfl, ⟨n, rfl⟩⟩))
 go_end0
 exact ⟨rfl, HV.out.below (below_self _ _)⟩

set_option maxHeartbeats 400000 in
theorem visit_seen (w0 w : World) (Bg Bo Bt : Nat) (A0 : Option Addr) (c0 : Nat) (g : List (List Int)) (out : List Bool) (todo : List Int) (v : Int)
  (hr0 : Kd.C (Kd.slice 3 (Kd.int .i64)) w0 A0 g.length g) (hc0 : g.length ≤ c0) (h : VInv w0 w Bg Bo Bt A0 c0 g out todo) (hv0 : 0 ≤ v) (hv1 : v < g.length) (ho : rdOf false out v = true) :
  Calls Try.prog 69 #[.int .i64 v, .pointer (some ⟨Bg, 0, none⟩), .pointer (some ⟨Bo, 0, none⟩), .pointer (some ⟨Bt, 0, none⟩)] w fun e w' => e = .returned (.tuple #[]) ∧ VInv w0 w' Bg Bo Bt A0 c0 g out todo := by
 have cg := cell_of_one h.hg
 obtain ⟨vo, ho1, ho2⟩ := h.o
 have hl := h.len
 obtain ⟨go, co, rfl, hb1, hb2, _⟩ := Kd.R_form ho2 (by omega)
 have co1 := cell_of_one ho1
 obtain ⟨co2, _⟩ := Kd.R_celln false ho2 v hv0 (by omega)
 rw [ho] at co2
 have hin : digraph_inside.f g v = some true := by unfold digraph_inside.f; rw [if_pos hv0, decide_eq_true hv1]
 have HV := Aside0.mk h
 have HV0 := Aside0.mk hin
 have HR := Aside0.mk (Kd.C_below hr0 h.B)
 have hvo : v < (out.length : Int) := by omega
 clear hr0 h hin ho1 ho2 hl ho
 go_enter Try.func69, Try.ntmps69
 go_wp2_with (first | (go_at_call 70; refine (digraph_inside.calls _ _ _ _ _ _ HR.out hc0 HV0.out).mono ?_; rintro e w' ⟨rfl, ⟨n, rfl⟩⟩))
 go_end0
 exact ⟨rfl, HV.out.below (below_self _ _)⟩

set_option maxHeartbeats 400000 in
theorem visit_new (w0 w : World) (Bg Bo Bt : Nat) (A0 : Option Addr) (c0 : Nat) (g : List (List Int)) (out : List Bool) (todo : List Int) (v : Int)
  (hr0 : Kd.C (Kd.slice 3 (Kd.int .i64)) w0 A0 g.length g) (hc0 : g.length ≤ c0) (h : VInv w0 w Bg Bo Bt A0 c0 g out todo) (hv0 : 0 ≤ v) (hv1 : v < g.length) (ho : rdOf false out v = false) (hlim : todo.length < 17592186044416) :
  Calls Try.prog 69 #[.int .i64 v, .pointer (some ⟨Bg, 0, none⟩), .pointer (some ⟨Bo, 0, none⟩), .pointer (some ⟨Bt, 0, none⟩)] w fun e w' => e = .returned (.tuple #[]) ∧ VInv w0 w' Bg Bo Bt A0 c0 g (out.set v.toNat true) (todo ++ [v]) := by
 have cg := cell_of_one h.hg
 obtain ⟨vo, ho1, ho2⟩ := h.o
 have hl := h.len
 obtain ⟨go, co, rfl, hb1, hb2, hb3, hb4⟩ := Kd.R_form ho2 (by omega)
 have co1 := cell_of_one ho1
 obtain ⟨co2, fo2⟩ := Kd.R_celln false ho2 v hv0 (by omega)
 rw [ho] at co2
 have hin : digraph_inside.f g v = some true := by unfold digraph_inside.f; rw [if_pos hv0, decide_eq_true hv1]
 have HV := Aside0.mk h
 have HV0 := Aside0.mk hin
 have HR := Aside0.mk (Kd.C_below hr0 h.B)
 have hvo : v < (out.length : Int) := by omega
 have HP := Aside0.mk (fun n => VInv.put (h.below (below_self w n)) (Kd.R_below ho2 (below_self w n)) (blk_below ho1 (below_self w n)) (blk_below hb4 (below_self w n)) hb1 v true)
 clear hr0 h hin ho1 ho2 hl ho hb4
 go_enter Try.func69, Try.ntmps69
 go_wp2_with (first
  | (go_at_call 70; refine (digraph_inside.calls _ _ _ _ _ _ HR.out hc0 HV0.out).mono ?_; rintro e w' ⟨rfl, ⟨n, rfl⟩⟩)
  | ((with_reducible refine gate_store (t := 4) (p := 17) rfl ?_); refine store_event (t := 4) (p := 17) (v := .const (.bool true)) (w1 := ((w.drewN n).setCell ⟨go, v.toNat, none⟩ (.bool true))) rfl rfl rfl ?hr ?_; (case hr => first | (go_simp; done) | (go_simp; rfl)); intro w1 hw; have HV1 := Aside0.mk (HP.out n); rw [← hw] at HV1; clear hw; obtain ⟨vt, ht1, ht2⟩ := HV1.out.t; have ct1 := cell_of_one ht1; have HT := Aside0.mk ht2; clear ht1 ht2)
  | ((with_reducible refine gate_builtin (b := .append) (xs := #[.tmp 18, .tmp 20]) rfl ?_); at_builtin; refine Kd.R_append (Kd.int .i64) (w0 := w0) w0.heap.size rfl (.tmp 18) (.tmp 20) 37 3 (.int .i64 0) 8 rfl Try.underlying37 info3 rfl (by decide) (by omega) vt todo v [.int .i64 v] (fun _ => True) (fun _ => False) rfl rfl ?aP (fun _ hk => hk.elim) ?aF ?aO ?aB ?aS ?aL ?_; (case aP => exact rfl); (case aF => exact (fun _ _ => trivial)); (case aO => exact HT.out); (case aB => exact HV1.out.B); (case aS => exact HV1.out.B.size); (case aL => omega); intro v2 w2 ho hb hg hat; obtain ⟨A2, k2, rfl⟩ := Kd.R_slice ho; have HX := Aside0.mk (VInv.push HV1.out HT.out ho hb hg); obtain ⟨c2, hc2⟩ := Option.ne_none_iff_exists'.mp HX.out.2.1; have hf2 := HX.out.2.2; clear ho hb hg hat))
 go_end0
 have e_ := HX.out.1
 rw [List.length_append] at e_
 exact ⟨rfl, e_⟩

/-- One vertex: marked, and kept for later. -/
def visitM (g : List (List Int)) (out : List Bool) (todo : List Int) (v : Int) : Option (List Bool × List Int) :=
 if 0 ≤ v then (if v < (g.length : Int) then (if rdOf false out v = true then some (out, todo) else (if todo.length < 17592186044416 then some (out.set v.toNat true, todo ++ [v]) else none)) else some (out, todo)) else some (out, todo)
theorem visit_any (w0 w : World) (Bg Bo Bt : Nat) (A0 : Option Addr) (c0 : Nat) (g : List (List Int)) (out : List Bool) (todo : List Int) (v : Int) (p : List Bool × List Int)
  (hr0 : Kd.C (Kd.slice 3 (Kd.int .i64)) w0 A0 g.length g) (hc0 : g.length ≤ c0) (h : VInv w0 w Bg Bo Bt A0 c0 g out todo) (hp : visitM g out todo v = some p) :
  Calls Try.prog 69 #[.int .i64 v, .pointer (some ⟨Bg, 0, none⟩), .pointer (some ⟨Bo, 0, none⟩), .pointer (some ⟨Bt, 0, none⟩)] w fun e w' => e = .returned (.tuple #[]) ∧ VInv w0 w' Bg Bo Bt A0 c0 g p.1 p.2 := by
 unfold visitM at hp
 by_cases h0 : 0 ≤ v
 ·rw [if_pos h0] at hp
  by_cases h1 : v < (g.length : Int)
  ·rw [if_pos h1] at hp
   by_cases h2 : rdOf false out v = true
   ·rw [if_pos h2] at hp
    cases hp
    exact visit_seen w0 w Bg Bo Bt A0 c0 g out todo v hr0 hc0 h h0 h1 h2
   ·rw [if_neg h2] at hp
    by_cases h3 : todo.length < 17592186044416
    ·rw [if_pos h3] at hp
     cases hp
     exact visit_new w0 w Bg Bo Bt A0 c0 g out todo v hr0 hc0 h h0 h1 (by simpa using h2) h3
    ·rw [if_neg h3] at hp
     cases hp
  ·rw [if_neg h1] at hp
   cases hp
   exact visit_out w0 w Bg Bo Bt A0 c0 g out todo v hr0 hc0 h (by unfold digraph_inside.f; rw [if_pos h0, decide_eq_false h1])
 ·rw [if_neg h0] at hp
  cases hp
  exact visit_out w0 w Bg Bo Bt A0 c0 g out todo v hr0 hc0 h (by unfold digraph_inside.f; rw [if_neg h0])

mutual
def digraph_Reach.l0 : Nat → List (List Int) → List Int → List Bool → List Int → Int → Option (List Bool)
 | 0, _, _, _, _, _ => none
 | k + 1, g, xs, out, todo, i => if i < (xs.length : Int) then (if 0 ≤ i then ((visitM g out todo (rd xs i)).bind fun p => digraph_Reach.l0 k g xs p.1 p.2 (wrap64 (i + 1))) else none) else digraph_Reach.l1 k g out todo
def digraph_Reach.l1 : Nat → List (List Int) → List Bool → List Int → Option (List Bool)
 | 0, _, _, _ => none
 | k + 1, g, out, todo => if 0 < (todo.length : Int) then (if 0 ≤ rd todo ((todo.length : Int) - 1) then (if rd todo ((todo.length : Int) - 1) < (g.length : Int) then (digraph_Reach.l2 k g out (todo.take (todo.length - 1)) (rd_L11 g (rd todo ((todo.length : Int) - 1))) 0) else none) else none) else some out
def digraph_Reach.l2 : Nat → List (List Int) → List Bool → List Int → List Int → Int → Option (List Bool)
 | 0, _, _, _, _, _ => none
 | k + 1, g, out, todo, xs, i => if i < (xs.length : Int) then (if 0 ≤ i then ((visitM g out todo (rd xs i)).bind fun p => digraph_Reach.l2 k g p.1 p.2 xs (wrap64 (i + 1))) else none) else digraph_Reach.l1 k g out todo
end
def digraph_Reach.f (k : Nat) (l0 : List (List Int)) (l1 : List Int) : Option (List Bool) := if l0.length ≤ 281474976710656 then digraph_Reach.l0 k l0 l1 (List.replicate l0.length false) [] 0 else none
theorem digraph_Reach.mono_l : ∀ k, (∀ y0 y1 y2 y3 y4, LeO (digraph_Reach.l0 k y0 y1 y2 y3 y4) (digraph_Reach.l0 (k + 1) y0 y1 y2 y3 y4)) ∧ (∀ y0 y1 y2, LeO (digraph_Reach.l1 k y0 y1 y2) (digraph_Reach.l1 (k + 1) y0 y1 y2)) ∧ (∀ y0 y1 y2 y3 y4, LeO (digraph_Reach.l2 k y0 y1 y2 y3 y4) (digraph_Reach.l2 (k + 1) y0 y1 y2 y3 y4))
 | 0 => ⟨fun _ _ _ _ _ r h => by simp [digraph_Reach.l0] at h, fun _ _ _ r h => by simp [digraph_Reach.l1] at h, fun _ _ _ _ _ r h => by simp [digraph_Reach.l2] at h⟩
 | k + 1 => by
  obtain ⟨ih0, ih1, ih2⟩ := digraph_Reach.mono_l k
  refine ⟨?_, ?_, ?_⟩
  ·intro y0 y1 y2 y3 y4
   unfold digraph_Reach.l0
   repeat' first | exact ih0 _ _ _ _ _ | exact ih1 _ _ _ | exact LeO.refl _ | exact LeO.none _ | refine LeO.ite ?_ ?_ | refine LeO.bind (LeO.refl _) (fun _ => ?_)
  ·intro y0 y1 y2
   unfold digraph_Reach.l1
   repeat' first | exact ih2 _ _ _ _ _ | exact LeO.refl _ | exact LeO.none _ | refine LeO.ite ?_ ?_
  ·intro y0 y1 y2 y3 y4
   unfold digraph_Reach.l2
   repeat' first | exact ih2 _ _ _ _ _ | exact ih1 _ _ _ | exact LeO.refl _ | exact LeO.none _ | refine LeO.ite ?_ ?_ | refine LeO.bind (LeO.refl _) (fun _ => ?_)
theorem digraph_Reach.mono : ∀ a0 a1 k, LeO (digraph_Reach.f k a0 a1) (digraph_Reach.f (k + 1) a0 a1) := by
 intro a0 a1 k
 unfold digraph_Reach.f
 exact LeO.ite ((digraph_Reach.mono_l k).1 _ _ _ _ _) (LeO.none _)
set_option maxHeartbeats 1000000 in
set_option maxRecDepth 100000 in
theorem digraph_Reach.calls (k : Nat) (A0 : Option Addr) (c0 : Nat) (l0 : List (List Int)) (A1 : Option Addr) (c1 : Nat) (l1 : List Int) (r : List Bool) (w : World) (hr0 : Kd.C (Kd.slice 3 (Kd.int .i64)) w A0 l0.length l0) (hc0 : l0.length ≤ c0) (hr1 : Kd.C (Kd.int .i64) w A1 l1.length l1) (hc1 : l1.length ≤ c1) (h : digraph_Reach.f k l0 l1 = some r) :
  Calls Try.prog 39 #[.slice A0 l0.length c0, .slice A1 l1.length c1] w fun e w' => ∃ v0_ : Value, e = .returned (v0_) ∧ Kd.R Kd.bool 4 w' w.heap.size (fun _ => True) v0_ r ∧ Below w.heap.size w w' := by
 have HR0 := Aside0.mk hr0
 have HC0 := Aside0.mk hc0
 have HR1 := Aside0.mk hr1
 clear hr0 hc0 hr1
 unfold digraph_Reach.f at h
 by_cases c2 : l0.length ≤ 281474976710656
 case neg => rw [if_neg c2] at h; cases h
 rw [if_pos c2] at h
 have H := Aside0.mk h
 clear h
 have hl0 : (0 : Int) ≤ (l0.length : Int) := by omega
 have hmf : ∀ (fn : Fn) (first cap : Array Value) (w : World), (Instr.makeFunc fn first cap).run Try.prog w = .ok (.func fn first cap) w := fun _ _ _ _ => rfl
 go_enter Try.func39, Try.ntmps39
 go_wp2_with (first
  | ((with_reducible refine gate_dst (N := 15) rfl ?_); refine Kd.R_make (w0 := w) Kd.bool w.heap.size 4 rfl (N := 15) rfl 49 _ _ rfl (l0.length : Int) rfl rfl Try.underlying49 (.bool false) 1 info4 rfl (by decide) (by omega) false (ok := fun _ => True) (okp := fun _ => True) rfl (fun _ hk => hk) trivial hl0 (by simpa using c2) (below_alloc (Below.refl _ _) _) (by simp) ?_; intro v1 w1 ho hb hg hnew; rw [Int.toNat_natCast] at ho; have HV := Aside0.mk (VInv.start ho hb hg); obtain ⟨A2, k2, e2⟩ := Kd.R_slice ho; subst e2; simp only [List.length_replicate] at HV; clear ho hb hg hnew))
 go_loopg [19] k (fun kq v19 w' => ∃ (i : Int) (out : List Bool) (todo : List Int), v19 = .int .i64 i ∧ Aside0 (digraph_Reach.l0 kq l0 l1 out todo i = some r) ∧ Aside0 (kq ≤ k) ∧ Aside0 (VInv w w' w.heap.size w1.heap.size (w1.heap.size + 1) A0 c0 l0 out todo))
 case atStart => exact ⟨0, _, _, rfl, H, ⟨Nat.le_refl _⟩, HV⟩
 case round =>
  clear H HV
  obtain ⟨i, out, todo, rfl, HA, HK1, HV⟩ := hrel
  cases gk with
  | zero => exact absurd HA.out (by simp [digraph_Reach.l0])
  | succ k1 =>
   have H := HA.out
   clear HA
   simp only [digraph_Reach.l0] at H
   by_cases c3 : i < (l1.length : Int)
   ·rw [if_pos c3] at H
    have c3b0 : decide (i < (l1.length : Int)) = true := decide_eq_true c3
    by_cases c4 : 0 ≤ i
    case neg => rw [if_neg c4] at H; cases H
    rw [if_pos c4] at H
    obtain ⟨p, hp, hq⟩ := Option.bind_eq_some_iff.mp H
    have HP := Aside0.mk hp
    have HQ := Aside0.mk hq
    obtain ⟨ad, e1, hx⟩ := Kd.at_int HR1.out i c4 c3
    subst e1
    replace hx := (HV.out.B.cell (World.block_lt_of_cell? w _ hx)).trans hx
    clear H hp hq
    go_wp2_with (first | (go_at_call 69; refine (visit_any w _ _ _ _ _ _ _ _ _ _ _ HR0.out HC0.out HV.out HP.out).mono ?_; rintro e w2 ⟨rfl, HV2⟩; replace HV := Aside0.mk HV2; clear HV2))
    go_roundg k1
    case measure => have := HK1.out; omega
    case rel => exact ⟨_, _, _, rfl, HQ, ⟨by have := HK1.out; omega⟩, HV⟩
   ·rw [if_neg c3] at H
    have c3b0 : decide (i < (l1.length : Int)) = false := decide_eq_false c3
    have H' := Aside0.mk H
    clear H
    go_wp2
    go_loopg [] k1 (fun kq w' => ∃ (out : List Bool) (todo : List Int), Aside0 (digraph_Reach.l1 kq l0 out todo = some r) ∧ Aside0 (kq ≤ k1) ∧ Aside0 (VInv w w' w.heap.size w1.heap.size (w1.heap.size + 1) A0 c0 l0 out todo))
    case atStart => exact ⟨_, _, H', ⟨Nat.le_refl _⟩, HV⟩
    case round =>
     clear H' HV c3b0 c3
     obtain ⟨out2, todo2, HA, HK2, HV⟩ := hrel
     cases gk with
     | zero => exact absurd HA.out (by simp [digraph_Reach.l1])
     | succ k2 =>
      have H := HA.out
      clear HA
      simp only [digraph_Reach.l1] at H
      obtain ⟨vt, ht1, ht2⟩ := HV.out.t
      have ct1 := cell_of_one ht1
      have cf1 := free_of_one ht1
      have cg1 := cell_of_one HV.out.hg
      by_cases c5 : 0 < (todo2.length : Int)
      ·rw [if_pos c5] at H
       obtain ⟨gt, ct, rfl, hct, hlt, hx⟩ := R_last ht2 (by omega)
       have HT := Aside0.mk ht2
       clear ht2 ht1
       obtain ⟨v, hv⟩ : ∃ v, v = rd todo2 ((todo2.length : Int) - 1) := ⟨_, rfl⟩
       rw [← hv] at H hx
       by_cases c6 : 0 ≤ v
       case neg => rw [if_neg c6] at H; cases H
       rw [if_pos c6] at H
       by_cases c7 : v < (l0.length : Int)
       case neg => rw [if_neg c7] at H; cases H
       rw [if_pos c7] at H
       have H' := Aside0.mk H
       clear H hv
       obtain ⟨ad, A3, c3, e3, hx3, hl3, hi3⟩ := at_L11 HR0.out v c6 c7
       subst e3
       have HI3 := Aside0.mk hi3
       have c5b0 : decide (0 < (todo2.length : Int)) = true := decide_eq_true c5
       have c5b1 : decide (0 < todo2.length) = true := decide_eq_true (by omega)
       clear hi3 hl3
       have HC1 := Aside0.mk (VInv.cut HV.out (Kd.R_take (m := todo2.length - 1) HT.out (by omega)))
       have hx4 := (HC1.out.B.cell (World.block_lt_of_cell? w _ hx3)).trans hx3
       have cg2 := cell_of_one HC1.out.hg
       clear hx3
       go_wp2
       go_loopg [46] k2 (fun kq v46 w' => ∃ (j : Int) (out : List Bool) (todo : List Int), v46 = .int .i64 j ∧ Aside0 (digraph_Reach.l2 kq l0 out todo (rd_L11 l0 v) j = some r) ∧ Aside0 (kq ≤ k2) ∧ Aside0 (VInv w w' w.heap.size w1.heap.size (w1.heap.size + 1) (some ad) c0 l0 out todo))
       case atStart => exact ⟨0, _, _, rfl, H', ⟨Nat.le_refl _⟩, HC1⟩
       case round =>
        clear H' HV HT HC1 hx4 cg2 hx c5 c5b0 c5b1 hct hlt
        obtain ⟨j, out3, todo3, rfl, HA, HK3, HV⟩ := hrel
        cases gk with
        | zero => exact absurd HA.out (by simp [digraph_Reach.l2])
        | succ k3 =>
         have H := HA.out
         clear HA
         simp only [digraph_Reach.l2] at H
         by_cases c8 : j < ((rd_L11 l0 v).length : Int)
         ·rw [if_pos c8] at H
          have c8b0 : decide (j < ((rd_L11 l0 v).length : Int)) = true := decide_eq_true c8
          by_cases c9 : 0 ≤ j
          case neg => rw [if_neg c9] at H; cases H
          rw [if_pos c9] at H
          obtain ⟨p, hp, hq⟩ := Option.bind_eq_some_iff.mp H
          have HP := Aside0.mk hp
          have HQ := Aside0.mk hq
          obtain ⟨ad2, e4, hx5⟩ := Kd.at_int HI3.out j c9 c8
          subst e4
          replace hx5 := (HV.out.B.cell (World.block_lt_of_cell? w _ hx5)).trans hx5
          clear H hp hq
          go_wp2_with (first | (go_at_call 69; refine (visit_any w _ _ _ _ _ _ _ _ _ _ _ HR0.out HC0.out HV.out HP.out).mono ?_; rintro e w2 ⟨rfl, HV2⟩; replace HV := Aside0.mk HV2; clear HV2))
          go_roundg k3
          case measure => have := HK1.out; have := HK2.out; have := HK3.out; omega
          case rel => exact ⟨_, _, _, rfl, HQ, ⟨by have := HK3.out; omega⟩, HV⟩
         ·rw [if_neg c8] at H
          have c8b0 : decide (j < ((rd_L11 l0 v).length : Int)) = false := decide_eq_false c8
          have H' := Aside0.mk H
          clear H
          go_wp2
          go_roundg k3
          case measure => have := HK1.out; have := HK2.out; have := HK3.out; omega
          case rel => exact ⟨_, _, H', ⟨by have := HK3.out; have := HK2.out; omega⟩, HV⟩
      ·rw [if_neg c5] at H
       obtain rfl := Option.some.inj H
       obtain ⟨A5, k5, rfl⟩ := Kd.R_slice ht2
       obtain ⟨vo, ho1, ho2⟩ := HV.out.o
       obtain ⟨A6, k6, rfl⟩ := Kd.R_slice ho2
       have co1 := cell_of_one ho1
       have HO := Aside0.mk ho2
       have c5b0 : decide (0 < (todo2.length : Int)) = false := decide_eq_false c5
       have c5b1 : decide (0 < todo2.length) = false := decide_eq_false (by omega)
       clear ht1 ht2 ho1 ho2 H c5
       go_wp2
       go_ret
       exact ⟨_, rfl, HO.out, HV.out.B⟩

/-! ### digraph_Reverse: function 71 -/
mutual
def digraph_Reverse.l0 : Nat → List (List Int) → List (List Int) → List (List Int) → Int → Int → Option ((List (List Int)))
 | 0, _, _, _, _, _ => none
 | k + 1, x0, x3, x12, x13, x14 => if x14 < x13 then (if 0 ≤ x14 then (if x14 < (x12.length : Int) then (digraph_Reverse.l1 k x0 x3 x14 x12 x13 x14 (rd_L11 x12 x14) ((rd_L11 x12 x14).length : Int) 0) else (none)) else (none)) else (some x3)
def digraph_Reverse.l1 : Nat → List (List Int) → List (List Int) → Int → List (List Int) → Int → Int → List Int → Int → Int → Option ((List (List Int)))
 | 0, _, _, _, _, _, _, _, _, _ => none
 | k + 1, x0, x3, x4, x12, x13, x14, x19, x20, x21 => if x21 < x20 then (if 0 ≤ x21 then (if x21 < (x19.length : Int) then ((digraph_inside.f x0 (rd x19 x21)).bind fun t145 => (if t145 = true then (if 0 ≤ (rd x19 x21) then (if (rd x19 x21) < (x3.length : Int) then (if ((rd_L11 x3 (rd x19 x21)).length : Int) = 0 then (if (rd_L11 x3 (rd x19 x21)).length < 17592186044416 then (digraph_Reverse.l1 k x0 (x3.set ((rd x19 x21) : Int).toNat ((rd_L11 x3 (rd x19 x21)) ++ [x4])) x4 x12 x13 x14 x19 x20 (wrap64 (x21 + 1))) else (none)) else (if 0 ≤ (wrap64 (((rd_L11 x3 (rd x19 x21)).length : Int) - 1)) then (if (wrap64 (((rd_L11 x3 (rd x19 x21)).length : Int) - 1)) < ((rd_L11 x3 (rd x19 x21)).length : Int) then (if (rd (rd_L11 x3 (rd x19 x21)) (wrap64 (((rd_L11 x3 (rd x19 x21)).length : Int) - 1))) = x4 then (digraph_Reverse.l1 k x0 x3 x4 x12 x13 x14 x19 x20 (wrap64 (x21 + 1))) else (if (rd_L11 x3 (rd x19 x21)).length < 17592186044416 then (digraph_Reverse.l1 k x0 (x3.set ((rd x19 x21) : Int).toNat ((rd_L11 x3 (rd x19 x21)) ++ [x4])) x4 x12 x13 x14 x19 x20 (wrap64 (x21 + 1))) else (none))) else (none)) else (none))) else (none)) else (none)) else (digraph_Reverse.l1 k x0 x3 x4 x12 x13 x14 x19 x20 (wrap64 (x21 + 1))))) else (none)) else (none)) else (digraph_Reverse.l0 k x0 x3 x12 x13 (wrap64 (x14 + 1)))
end
def digraph_Reverse.f (k : Nat) (l0 : List (List Int)) : Option ((List (List Int))) := if 0 ≤ (l0.length : Int) then (if ((l0.length : Int) : Int).toNat ≤ 11728124029610 then (digraph_Reverse.l0 k l0 (List.replicate ((l0.length : Int) : Int).toNat []) l0 (l0.length : Int) 0) else (none)) else (none)
theorem digraph_Reverse.mono_l : ∀ k, M5 digraph_Reverse.l0 k ∧ M9 digraph_Reverse.l1 k
 | 0 => ⟨fun _ _ _ _ _ r h => by simp [digraph_Reverse.l0] at h, fun _ _ _ _ _ _ _ _ _ r h => by simp [digraph_Reverse.l1] at h⟩
 | k + 1 => by
  obtain ⟨ih0, ih1⟩ := digraph_Reverse.mono_l k
  refine ⟨?_, ?_⟩ <;> dsimp only [M5, M9] <;> intros <;> (first | unfold digraph_Reverse.l0 | unfold digraph_Reverse.l1) <;> repeat' first | (with_reducible first | apply ih0 | apply ih1 | apply lr | apply ln | apply li | refine lb ?_ fun _ => ?_)
theorem digraph_Reverse.mono : ∀ a0 k, LeO (digraph_Reverse.f k a0) (digraph_Reverse.f (k + 1) a0) := by
 intro a0 k
 obtain ⟨ih0, ih1⟩ := digraph_Reverse.mono_l k
 unfold digraph_Reverse.f
 repeat' first | (with_reducible first | apply ih0 | apply ih1 | apply lr | apply ln | apply li | refine lb ?_ fun _ => ?_)
set_option maxHeartbeats 8000000 in
set_option maxRecDepth 100000 in
theorem digraph_Reverse.calls (k : Nat) (A0 : Option Addr) (c0 : Nat) (l0 : List (List Int)) (r : List (List Int)) (w : World) (hr0 : Kd.C (Kd.slice 3 (Kd.int .i64)) w A0 l0.length l0) (hc0 : l0.length ≤ c0) (h : digraph_Reverse.f k l0 = some r) :
  Calls Try.prog 71 #[.slice A0 l0.length c0] w fun e w' => ∃ v0_ : Value, e = .returned (v0_) ∧ Kd.S (Kd.slice 3 (Kd.int .i64)) 37 w' w.heap.size (fun _ => True) v0_ r ∧ Below w.heap.size w w' := by
 have HR0 := am hr0
 have HC0 := am hc0
 clear hr0 hc0
 have HB := am (Below.refl w.heap.size w)
 have H : (if 0 ≤ (l0.length : Int) then (if ((l0.length : Int) : Int).toNat ≤ 11728124029610 then (digraph_Reverse.l0 k l0 (List.replicate ((l0.length : Int) : Int).toNat []) l0 (l0.length : Int) 0) else (none)) else (none)) = some r := h
 clear h
 replace H := ifp H
 obtain ⟨c2, H⟩ := H
 have c2b0 := eq_true c2
 have c2b1 : decide (0 ≤ (l0.length : Int)) = true := decide_eq_true c2
 clear c2
 replace H := ifp H
 obtain ⟨c3, H⟩ := H
 have c3b0 := eq_true c3
 have c3b1 : decide (((l0.length : Int) : Int).toNat ≤ 11728124029610) = true := decide_eq_true c3
 clear c3
 obtain ⟨y140, hy140⟩ : ∃ y_ : List (List Int), y_ = (List.replicate ((l0.length : Int) : Int).toNat []) := ⟨_, rfl⟩
 replace H : (digraph_Reverse.l0 k l0 y140 l0 (l0.length : Int) 0) = some r := hrp hy140 H
 have Ny140 := am hy140
 clear hy140
 have H' := am H
 clear H
 go_enter Try.func71, Try.ntmps71
 go_wp2_with (first | ((with_reducible refine gate_dst (N := 11) rfl ?_); refine Kd.S_make (Kd.slice 3 (Kd.int .i64)) _ 37 rfl (N := 11) rfl 30 _ _ rfl (l0.length : Int) rfl rfl Try.underlying30 (.slice none 0 0) 24 info37 rfl (by decide) (by omega) [] (ok := fun _ => True) (okp := fun _ => True) ⟨_, rfl, Kd.R_nil _ _ _ _ _⟩ (fun _ hk => hk) trivial (dq) (Nat.le_trans (Nat.mul_le_mul_right _ (dq : (l0.length : Int).toNat ≤ 11728124029610)) (by omega)) (Below.refl _ _) (Nat.le_refl _) ?_; intro v141 w4 ho5 hb hg_ hnew_; clear hg_ hnew_; (first | rw [← Ny140.1] at ho5 | (simp only [Int.reduceToNat] at ho5; rw [← Ny140.1] at ho5)); have HO142 := am (Kd.S_lower ho5 (below_size pbl)); replace HB := bsl hb; clear hb ho5))
 go_loopg [14] k (fun kq v14 w' => ∃ (x3_1 : List (List Int)) (x14_1 : Int), v14 = .int .i64 x14_1 ∧ Aside0 (digraph_Reverse.l0 kq l0 x3_1 l0 (l0.length : Int) x14_1 = some r) ∧ Aside0 (kq ≤ k) ∧ Aside0 (Kd.S (Kd.slice 3 (Kd.int .i64)) 37 w' w.heap.size (fun _ => True) v141 x3_1) ∧ Aside0 (Below w.heap.size w w'))
 case atStart => exact ⟨(y140), (0), prs, H', ⟨Nat.le_refl _⟩, ⟨pks HO142.1⟩, ⟨pbg⟩⟩
 clear H'
 try clear c2 c2b0 c2b1 c3 c3b0 c3b1
 obtain ⟨x3_1, x14_1, rfl, HA, HK1, HO_3, HB⟩ := hrel
 obtain _ | k1 := gk
 ·exact absurd HA.1 (by simp [digraph_Reverse.l0])
 have H := HA.1
 clear HA
 simp only [digraph_Reverse.l0] at H
 by_cases c6 : x14_1 < (l0.length : Int)
 rotate_left
 ·rw [if_neg c6] at H
  have c6b0 : decide (x14_1 < (l0.length : Int)) = false := decide_eq_false c6
  clear c6
  obtain rfl := Option.some.inj H
  go_wp2
  go_ret
  exact ⟨_, per, by (with_reducible repeat (first | apply Kd.S_alloc | apply Kd.S_drewN | apply Kd.S_drew)); exact HO_3.1, pbg⟩
 rw [if_pos c6] at H
 have c6b0 : decide (x14_1 < (l0.length : Int)) = true := decide_eq_true c6
 clear c6
 replace H := ifp H
 obtain ⟨c7, H⟩ := H
 have c7b0 := decide_eq_true c7
 clear c7
 replace H := ifp H
 obtain ⟨c8, H⟩ := H
 have c8b0 := decide_eq_true c8
 clear c8
 have H' := am H
 clear H
 obtain ⟨p143, q143, ad143, A143_0, c143_0, e143, hx143_0, HC143_0, HR143_0⟩ := bL11 HR0.1 HB.1 x14_1
 cases e143
 go_wp2
 go_loopg [21] k1 (fun kq v21 w' => ∃ (x3_2 : List (List Int)) (x21_2 : Int), v21 = .int .i64 x21_2 ∧ Aside0 (digraph_Reverse.l1 kq l0 x3_2 x14_1 l0 (l0.length : Int) x14_1 (rd_L11 l0 x14_1) ((rd_L11 l0 x14_1).length : Int) x21_2 = some r) ∧ Aside0 (kq ≤ k1) ∧ Aside0 (Kd.S (Kd.slice 3 (Kd.int .i64)) 37 w' w.heap.size (fun _ => True) v141 x3_2) ∧ Aside0 (Below w.heap.size w w'))
 case atStart => exact ⟨(x3_1), (0), prs, H', ⟨Nat.le_refl _⟩, ⟨pks HO_3.1⟩, ⟨pbg⟩⟩
 clear H'
 try clear c2 c2b0 c2b1 c3 c3b0 c3b1 c6 c6b0 c7 c7b0 c8 c8b0 hx143_0 p143 q143
 obtain ⟨x3_2, x21_2, rfl, HA, HK2, HO_3, HB⟩ := hrel
 obtain _ | k2 := gk
 ·exact absurd HA.1 (by simp [digraph_Reverse.l1])
 have H := HA.1
 clear HA
 simp only [digraph_Reverse.l1] at H
 by_cases c9 : x21_2 < ((rd_L11 l0 x14_1).length : Int)
 rotate_left
 ·rw [if_neg c9] at H
  have c9b0 : decide (x21_2 < ((rd_L11 l0 x14_1).length : Int)) = false := decide_eq_false c9
  clear c9
  have H' := am H
  clear H
  go_wp2
  go_roundg k2
  case measure => have := HK1.1; have := HK2.1; omega
  case rel => exact ⟨(x3_2), (wrap64 (x14_1 + 1)), prs, H', ⟨by have := HK1.1; have := HK2.1; omega⟩, ⟨pks HO_3.1⟩, ⟨pbg⟩⟩
 rw [if_pos c9] at H
 have c9b0 : decide (x21_2 < ((rd_L11 l0 x14_1).length : Int)) = true := decide_eq_true c9
 clear c9
 replace H := ifp H
 obtain ⟨c10, H⟩ := H
 have c10b0 := decide_eq_true c10
 clear c10
 replace H := ifp H
 obtain ⟨c11, H⟩ := H
 have c11b0 := decide_eq_true c11
 clear c11
 replace H := bnd H
 obtain ⟨t145, A12, H⟩ := H
 (try dsimp only at H)
 by_cases c13 : t145 = true
 rotate_left
 ·replace c13 := Bool.eq_false_iff.mpr c13
  subst c13
  rw [if_neg Bool.false_ne_true] at H
  have H' := am H
  clear H
  obtain ⟨p144, q144, ad144, e144, hx144_0⟩ := bint HR143_0.1 HB.1 x21_2
  cases e144
  go_wp2_with (first | ((with_reducible refine gate_callee (f := 70) rfl ?_); refine gC 27 Try.func70 _ (digraph_inside.calls _ _ l0 (rd (rd_L11 l0 x14_1) x21_2) false _ (csb HR0 HB) HC0.1 A12.1) ?_; rintro e w' ⟨rfl, ⟨nd, rfl⟩⟩; refine ⟨_, rfl, ?_⟩))
  go_roundg k2
  case measure => have := HK1.1; have := HK2.1; omega
  case rel => exact ⟨(x3_2), (wrap64 (x21_2 + 1)), prs, H', ⟨by have := HK1.1; have := HK2.1; omega⟩, ⟨pks HO_3.1⟩, ⟨pbg⟩⟩
 subst c13
 rw [if_pos rfl] at H
 replace H := ifp H
 obtain ⟨c14, H⟩ := H
 have c14b0 := decide_eq_true c14
 clear c14
 replace H := ifp H
 obtain ⟨c15, H⟩ := H
 have c15b0 := decide_eq_true c15
 clear c15
 by_cases c16 : ((rd_L11 x3_2 (rd (rd_L11 l0 x14_1) x21_2)).length : Int) = 0
 ·rw [if_pos c16] at H
  have c16b0 : (((rd_L11 x3_2 (rd (rd_L11 l0 x14_1) x21_2)).length : Int) == 0) = true := beq_iff_eq.mpr c16
  have c16b1 : (((rd_L11 x3_2 (rd (rd_L11 l0 x14_1) x21_2)).length : Int) != 0) = false := bne_eq_false_iff_eq.mpr c16
  clear c16
  replace H := ifp H
  obtain ⟨c17, H⟩ := H
  have LMc17 := am c17
  clear c17
  obtain ⟨y148, hy148⟩ : ∃ y_ : List Int, y_ = ((rd_L11 x3_2 (rd (rd_L11 l0 x14_1) x21_2)) ++ [x14_1]) := ⟨_, rfl⟩
  replace H : (digraph_Reverse.l1 k2 l0 (x3_2.set ((rd (rd_L11 l0 x14_1) x21_2) : Int).toNat y148) x14_1 l0 (l0.length : Int) x14_1 (rd_L11 l0 x14_1) ((rd_L11 l0 x14_1).length : Int) (wrap64 (x21_2 + 1))) = some r := hrp hy148 H
  have Ny148 := am hy148
  clear hy148
  obtain ⟨y151, hy151⟩ : ∃ y_ : List (List Int), y_ = (x3_2.set ((rd (rd_L11 l0 x14_1) x21_2) : Int).toNat y148) := ⟨_, rfl⟩
  replace H : (digraph_Reverse.l1 k2 l0 y151 x14_1 l0 (l0.length : Int) x14_1 (rd_L11 l0 x14_1) ((rd_L11 l0 x14_1).length : Int) (wrap64 (x21_2 + 1))) = some r := hrp hy151 H
  have Ny151 := am hy151
  clear hy151
  have H' := am H
  clear H
  obtain ⟨p144, q144, ad144, e144, hx144_0⟩ := bint HR143_0.1 HB.1 x21_2
  cases e144
  go_wp2_with (first | ((with_reducible refine gate_callee (f := 70) rfl ?_); refine gC 27 Try.func70 _ (digraph_inside.calls _ _ l0 (rd (rd_L11 l0 x14_1) x21_2) true _ (csb HR0 HB) HC0.1 A12.1) ?_; rintro e w' ⟨rfl, ⟨nd, rfl⟩⟩; refine ⟨_, rfl, ?_⟩; (try (rw [drewN_self wr]; generalize hq_ : World.drewN wr _ = wr; replace HO_3 : Aside0 (Kd.S (Kd.slice 3 (Kd.int .i64)) 37 wr w.heap.size (fun _ => True) v141 x3_2) := ⟨by rw [← hq_]; exact (pks HO_3.1)⟩; replace HB : Aside0 (Below w.heap.size w wr) := ⟨by rw [← hq_]; exact pbl⟩; clear hq_)); obtain ⟨Ao19, co19, eo19⟩ := Kd.S_slice HO_3.1; subst eo19; have p146 : 0 ≤ ((rd (rd_L11 l0 x14_1) x21_2) : Int) := dq; have q146 : (rd (rd_L11 l0 x14_1) x21_2) < (x3_2.length : Int) := dq; obtain ⟨ad146, A146_0, c146_0, e146, hx146_0, hl146_0, hi146_0⟩ := at_L11 (Kd.S_reads' HO_3.1).2.2 (rd (rd_L11 l0 x14_1) x21_2) p146 q146; cases e146; obtain ⟨ce146, hce146, hMe146, hcc146⟩ := Kd.S_get HO_3.1 [] (rd (rd_L11 l0 x14_1) x21_2) p146 (by first | exact q146 | exact dq | (have e_ := (Kd.S_reads' HO_3.1).1; omega)); obtain ⟨ve146_0, rfl, ge146_0⟩ := hMe146; have hv146_0 := hcc146 0 _ rfl; rw [Nat.add_zero, show ((Kd.slice 3 (Kd.int .i64))).sz = 1 from rfl, Nat.mul_one] at hv146_0; replace hv146_0 := Option.some.inj (hv146_0.symm.trans hx146_0); rw [hv146_0] at ge146_0; have HL146_0 := am (show Kd.R (Kd.int .i64) 3 _ _ _ _ (rd_L11 x3_2 (rd (rd_L11 l0 x14_1) x21_2)) from ge146_0); clear hv146_0 ge146_0; have HX146_0 := am hx146_0; clear hcc146 hce146; have HR146_0 := am hi146_0; have HC146_0 := am hl146_0; clear hi146_0 hl146_0; replace p146 := eq_true p146; replace q146 := eq_true q146; have p147 : 0 ≤ ((rd (rd_L11 l0 x14_1) x21_2) : Int) := dq; have q147 : (rd (rd_L11 l0 x14_1) x21_2) < (x3_2.length : Int) := dq; obtain ⟨ad147, A147_0, c147_0, e147, hx147_0, hl147_0, hi147_0⟩ := at_L11 (Kd.S_reads' HO_3.1).2.2 (rd (rd_L11 l0 x14_1) x21_2) p147 q147; obtain rfl : ad146 = ad147 := (by injection e147); obtain ⟨ce147, hce147, hMe147, hcc147⟩ := Kd.S_get HO_3.1 [] (rd (rd_L11 l0 x14_1) x21_2) p147 (by first | exact q147 | exact dq | (have e_ := (Kd.S_reads' HO_3.1).1; omega)); obtain ⟨ve147_0, rfl, ge147_0⟩ := hMe147; have hv147_0 := hcc147 0 _ rfl; rw [Nat.add_zero, show ((Kd.slice 3 (Kd.int .i64))).sz = 1 from rfl, Nat.mul_one] at hv147_0; replace hv147_0 := Option.some.inj (hv147_0.symm.trans hx147_0); rw [hv147_0] at ge147_0; have HL147_0 := am (show Kd.R (Kd.int .i64) 3 _ _ _ _ (rd_L11 x3_2 (rd (rd_L11 l0 x14_1) x21_2)) from ge147_0); clear hv147_0 ge147_0; have HX147_0 := am hx147_0; clear hcc147 hce147; have HR147_0 := am hi147_0; have HC147_0 := am hl147_0; clear hi147_0 hl147_0; replace p147 := eq_true p147; replace q147 := eq_true q147; have ea_ := Option.some.inj (hx146_0.symm.trans hx147_0); injection ea_ with ea_ en_ ec_; subst ea_; subst ec_; clear en_; obtain ⟨go20, co20, eo20, gb20, gl20, cl20, HG20⟩ := Kd.S_form HO_3.1 (by have h_ : ((rd (rd_L11 l0 x14_1) x21_2) : Int) < ((x3_2.length : Int) : Int) := dq; have h2_ : 0 ≤ ((rd (rd_L11 l0 x14_1) x21_2) : Int) := (dq); omega); (first | cases eo20 | (injection eo20 with ea_ en_ ec_; (first | subst ea_ | (injection ea_ with ea_; subst ea_)); subst ec_; clear en_)); have GB20 := am gb20; have GG20 := am HG20; clear gb20 gl20 HG20; (first | simp only [add_plain] at hx146_0 | skip); (first | simp only [add_plain] at hx147_0 | skip); obtain ⟨oki20, ce20, hcl20, hM20, hcc20, _, _, hH20⟩ := Kd.S_elem HO_3.1 [] ((rd (rd_L11 l0 x14_1) x21_2) : Int) (dq) (by have h_ : ((rd (rd_L11 l0 x14_1) x21_2) : Int) < ((x3_2.length : Int) : Int) := dq; first | exact h_ | (have e_ := (Kd.S_reads' HO_3.1).1; omega) | simpa using h_); obtain ⟨ve20_0, rfl, ge20_0⟩ := hM20; have hv20 := hcc20 0 _ rfl; have hX20 := HX147_0.1; (try simp only [add_plain] at hX20); (try simp only [Nat.add_zero] at hv20); (try rw [show ((Kd.slice 3 (Kd.int .i64))).sz = 1 from rfl, Nat.mul_one] at hv20); replace hv20 := Option.some.inj (hv20.symm.trans hX20); subst hv20; clear hX20 hcc20 hcl20; have UU20 := am (show Kd.R (Kd.int .i64) 3 _ w.heap.size oki20 (.slice A146_0 (rd_L11 x3_2 (rd (rd_L11 l0 x14_1) x21_2)).length c146_0) (rd_L11 x3_2 (rd (rd_L11 l0 x14_1) x21_2)) from ge20_0); have HH20 := am hH20; have HN20 := am (Kd.S_reads' HO_3.1).1; clear hH20 ge20_0) | ((with_reducible refine gate_builtin (b := .append) (xs := #[.tmp 53, .tmp 55]) rfl ?_); at_builtin; refine Kd.R_append (Kd.int .i64) (w0 := w) w.heap.size rfl (.tmp 53) (.tmp 55) 37 3 (.int .i64 0) 8 rfl Try.underlying37 info3 rfl (by decide) (by omega) (.slice A146_0 (rd_L11 x3_2 (rd (rd_L11 l0 x14_1) x21_2)).length c146_0) (rd_L11 x3_2 (rd (rd_L11 l0 x14_1) x21_2)) x14_1 [.int .i64 x14_1] (fun k_ => oki20 k_ ∨ ((fun _ => True)) k_ ∧ wr.heap.size ≤ k_) (fun _ => False) rfl rfl ?aP (fun _ hk => hk.elim) ?aF ?aO ?aB ?aS ?aL ?_; (case aP => exact rfl); (case aB => exact pbl); (case aF => exact (fun k_ hk => .inr ⟨trivial, hk⟩)); (case aO => exact (by (with_reducible repeat (first | apply Kd.R_alloc | apply Kd.R_drewN | apply Kd.R_drew)); exact Kd.R_mono UU20.1 (fun _ hk => .inl hk))); (case aS => exact (below_size pbl)); (case aL => have := LMc17.1; omega); intro v149 w21 ho hb hg hat; rw [← Ny148.1] at ho; have HO150 := am ho; replace HB := am hb; replace HH20 := am (Kd.H_grown (Kd.H_widen (by repeat (first | exact HH20.1 | refine Kd.H_alloc ?_ _ | refine Kd.H_drewN ?_ _ | refine Kd.H_drew ?_))) hg (fun k_ e_ => .inl (UU20.1.1 k_ e_))); (try clear HO_3 UU20 HL146_0 HL147_0); clear ho hb hg hat; have p18 : 0 ≤ ((rd (rd_L11 l0 x14_1) x21_2) : Int) := dq; have q18 : ((rd (rd_L11 l0 x14_1) x21_2) : Int) < ((x3_2.length : Int) : Int) := dq; replace p18 := eq_true p18; replace q18 := eq_true q18; obtain ⟨Ao24, co24, eo24⟩ := Kd.R_slice HO150.1; subst eo24; obtain ⟨_, _, hraw22, _, _, hcc22, _⟩ := Kd.H_raw HH20.1 (dq) (by have h_ : ((rd (rd_L11 l0 x14_1) x21_2) : Int) < ((x3_2.length : Int) : Int) := dq; first | exact h_ | (have e_ := (HN20.1); omega) | simpa using h_); obtain ⟨_, hfr22⟩ := Kd.H_at HH20.1 (dq) (by have h_ : ((rd (rd_L11 l0 x14_1) x21_2) : Int) < ((x3_2.length : Int) : Int) := dq; first | exact h_ | (have e_ := (HN20.1); omega) | simpa using h_); have hx22_0 := hcc22 0 _ rfl; have hf22_0 := hfr22 0; (try simp only [Nat.add_zero] at hx22_0 hf22_0); (try rw [show ((Kd.slice 3 (Kd.int .i64))).sz = 1 from rfl, Nat.mul_one] at hx22_0); (try rw [show ((Kd.slice 3 (Kd.int .i64))).sz = 1 from rfl, Nat.mul_one] at hf22_0); have HP22 := Kd.S_seg0 HH20.1 (dq) (by have h_ : ((rd (rd_L11 l0 x14_1) x21_2) : Int) < ((x3_2.length : Int) : Int) := dq; first | exact h_ | (have e_ := (HN20.1); omega) | simpa using h_) (seg := [.slice Ao24 y148.length co24]) (j := 0) (show 1 ≤ 1 from by decide) (x' := y148) (Kd.M_row HO150.1) (fun _ hk => hk); (try simp only [show ((Kd.slice 3 (Kd.int .i64))).sz = 1 from rfl, Nat.mul_one, Nat.add_zero] at HP22); clear hcc22 hfr22) | ((with_reducible refine gate_store (t := 37) (p := 57) rfl ?_); refine store_event (t := 37) (p := 57) (v := ?vo_w23) (w1 := (w21.setCell ⟨go20, ((rd (rd_L11 l0 x14_1) x21_2) : Int).toNat, none⟩ (.slice Ao24 y148.length co24))) ?hg ?ho ?hn ?hr ?_; (case ho => rfl); (case hg => rfl); (case hn => rfl); (case hr => first | (go_simp; done) | (go_simp; rfl)); intro w23 hw; have hg : w21.grownBy w23 (some go20) := (by rw [hw]; exact HP22.2); have hp_ : Kd.S (Kd.slice 3 (Kd.int .i64)) 37 w23 w.heap.size (fun _ => True) (.slice (some ⟨go20, 0, none⟩) x3_2.length co19) y151 := (by rw [hw, Ny151.1]; exact HP22.1); clear HP22; have HO_3 := am hp_; replace HB := am ((by rw [hw]; exact below_set HB.1 GB20.1 : Below w.heap.size w w23)); (try clear HO150 HH20); clear hg hw hp_ hraw22))
  go_roundg k2
  case measure => have := HK1.1; have := HK2.1; omega
  case rel => exact ⟨(y151), (wrap64 (x21_2 + 1)), prs, H', ⟨by have := HK1.1; have := HK2.1; omega⟩, ⟨pks HO_3.1⟩, ⟨pbg⟩⟩
 rw [if_neg c16] at H
 have c16b0 : (((rd_L11 x3_2 (rd (rd_L11 l0 x14_1) x21_2)).length : Int) == 0) = false := beq_eq_false_iff_ne.mpr c16
 have c16b1 : (((rd_L11 x3_2 (rd (rd_L11 l0 x14_1) x21_2)).length : Int) != 0) = true := bne_iff_ne.mpr c16
 have c16b2 : ¬ ((rd_L11 x3_2 (rd (rd_L11 l0 x14_1) x21_2)) = []) := fun h_ => c16 (by rw [h_]; rfl)
 obtain ⟨ji25, hji25⟩ : ∃ j_ : Int, (wrap64 (((rd_L11 x3_2 (rd (rd_L11 l0 x14_1) x21_2)).length : Int) - 1)) = j_ := ⟨_, rfl⟩
 replace H : (if 0 ≤ (ji25) then (if (ji25) < ((rd_L11 x3_2 (rd (rd_L11 l0 x14_1) x21_2)).length : Int) then (if (rd (rd_L11 x3_2 (rd (rd_L11 l0 x14_1) x21_2)) (ji25)) = x14_1 then (digraph_Reverse.l1 k2 l0 x3_2 x14_1 l0 (l0.length : Int) x14_1 (rd_L11 l0 x14_1) ((rd_L11 l0 x14_1).length : Int) (wrap64 (x21_2 + 1))) else (if (rd_L11 x3_2 (rd (rd_L11 l0 x14_1) x21_2)).length < 17592186044416 then (digraph_Reverse.l1 k2 l0 (x3_2.set ((rd (rd_L11 l0 x14_1) x21_2) : Int).toNat ((rd_L11 x3_2 (rd (rd_L11 l0 x14_1) x21_2)) ++ [x14_1])) x14_1 l0 (l0.length : Int) x14_1 (rd_L11 l0 x14_1) ((rd_L11 l0 x14_1).length : Int) (wrap64 (x21_2 + 1))) else (none))) else (none)) else (none)) = some r := by first | (rw [hji25] at H; exact H) | (simp only [hji25] at H ⊢; exact H)
 (try rw [hji25] at A12)
 have hji25w : (IntKind.i64.wrap (((rd_L11 x3_2 (rd (rd_L11 l0 x14_1) x21_2)).length : Int) - 1)) = ji25 := (i64_w _).trans hji25
 replace H := ifp H
 obtain ⟨c26, H⟩ := H
 have c26b0 := decide_eq_true c26
 clear c26
 replace H := ifp H
 obtain ⟨c27, H⟩ := H
 have c27b0 := decide_eq_true c27
 clear c27
 by_cases c28 : (rd (rd_L11 x3_2 (rd (rd_L11 l0 x14_1) x21_2)) (ji25)) = x14_1
 ·rw [if_pos c28] at H
  have c28b0 : ((rd (rd_L11 x3_2 (rd (rd_L11 l0 x14_1) x21_2)) (ji25)) == x14_1) = true := beq_iff_eq.mpr c28
  have c28b1 : ((rd (rd_L11 x3_2 (rd (rd_L11 l0 x14_1) x21_2)) (ji25)) != x14_1) = false := bne_eq_false_iff_eq.mpr c28
  clear c28
  have H' := am H
  clear H
  obtain ⟨p144, q144, ad144, e144, hx144_0⟩ := bint HR143_0.1 HB.1 x21_2
  cases e144
  go_wp2_with (first | ((with_reducible refine gate_callee (f := 70) rfl ?_); refine gC 27 Try.func70 _ (digraph_inside.calls _ _ l0 (rd (rd_L11 l0 x14_1) x21_2) true _ (csb HR0 HB) HC0.1 A12.1) ?_; rintro e w' ⟨rfl, ⟨nd, rfl⟩⟩; refine ⟨_, rfl, ?_⟩; obtain ⟨Ao29, co29, eo29⟩ := Kd.S_slice HO_3.1; subst eo29; have p146 : 0 ≤ ((rd (rd_L11 l0 x14_1) x21_2) : Int) := dq; have q146 : (rd (rd_L11 l0 x14_1) x21_2) < (x3_2.length : Int) := dq; obtain ⟨ad146, A146_0, c146_0, e146, hx146_0, hl146_0, hi146_0⟩ := at_L11 (Kd.S_reads' HO_3.1).2.2 (rd (rd_L11 l0 x14_1) x21_2) p146 q146; cases e146; obtain ⟨ce146, hce146, hMe146, hcc146⟩ := Kd.S_get HO_3.1 [] (rd (rd_L11 l0 x14_1) x21_2) p146 (by first | exact q146 | exact dq | (have e_ := (Kd.S_reads' HO_3.1).1; omega)); obtain ⟨ve146_0, rfl, ge146_0⟩ := hMe146; have hv146_0 := hcc146 0 _ rfl; rw [Nat.add_zero, show ((Kd.slice 3 (Kd.int .i64))).sz = 1 from rfl, Nat.mul_one] at hv146_0; replace hv146_0 := Option.some.inj (hv146_0.symm.trans hx146_0); rw [hv146_0] at ge146_0; have HL146_0 := am (show Kd.R (Kd.int .i64) 3 _ _ _ _ (rd_L11 x3_2 (rd (rd_L11 l0 x14_1) x21_2)) from ge146_0); clear hv146_0 ge146_0; have HX146_0 := am hx146_0; clear hcc146 hce146; have HR146_0 := am hi146_0; have HC146_0 := am hl146_0; clear hi146_0 hl146_0; replace p146 := eq_true p146; replace q146 := eq_true q146; have p152 : 0 ≤ ((rd (rd_L11 l0 x14_1) x21_2) : Int) := dq; have q152 : (rd (rd_L11 l0 x14_1) x21_2) < (x3_2.length : Int) := dq; obtain ⟨ad152, A152_0, c152_0, e152, hx152_0, hl152_0, hi152_0⟩ := at_L11 (Kd.S_reads' HO_3.1).2.2 (rd (rd_L11 l0 x14_1) x21_2) p152 q152; obtain rfl : ad146 = ad152 := (by injection e152); obtain ⟨ce152, hce152, hMe152, hcc152⟩ := Kd.S_get HO_3.1 [] (rd (rd_L11 l0 x14_1) x21_2) p152 (by first | exact q152 | exact dq | (have e_ := (Kd.S_reads' HO_3.1).1; omega)); obtain ⟨ve152_0, rfl, ge152_0⟩ := hMe152; have hv152_0 := hcc152 0 _ rfl; rw [Nat.add_zero, show ((Kd.slice 3 (Kd.int .i64))).sz = 1 from rfl, Nat.mul_one] at hv152_0; replace hv152_0 := Option.some.inj (hv152_0.symm.trans hx152_0); rw [hv152_0] at ge152_0; have HL152_0 := am (show Kd.R (Kd.int .i64) 3 _ _ _ _ (rd_L11 x3_2 (rd (rd_L11 l0 x14_1) x21_2)) from ge152_0); clear hv152_0 ge152_0; have HX152_0 := am hx152_0; clear hcc152 hce152; have HR152_0 := am hi152_0; have HC152_0 := am hl152_0; clear hi152_0 hl152_0; replace p152 := eq_true p152; replace q152 := eq_true q152; have ea_ := Option.some.inj (hx146_0.symm.trans hx152_0); injection ea_ with ea_ en_ ec_; subst ea_; subst ec_; clear en_; have p153 : 0 ≤ ((ji25) : Int) := dq; have q153 : (ji25) < ((rd_L11 x3_2 (rd (rd_L11 l0 x14_1) x21_2)).length : Int) := dq; obtain ⟨ad153, e153, hx153_0⟩ := Kd.at_int (by repeat (first | (with_reducible exact HR152_0.1) | (with_reducible refine Kd.C_alloc ?_ _) | (with_reducible refine Kd.C_drewN ?_ _) | (with_reducible refine Kd.C_drew ?_) | exact HR152_0.1)) (ji25) p153 q153; cases e153; replace p153 := eq_true p153; replace q153 := eq_true q153))
  go_roundg k2
  case measure => have := HK1.1; have := HK2.1; omega
  case rel => exact ⟨(x3_2), (wrap64 (x21_2 + 1)), prs, H', ⟨by have := HK1.1; have := HK2.1; omega⟩, ⟨pks HO_3.1⟩, ⟨pbg⟩⟩
 rw [if_neg c28] at H
 have c28b0 : ((rd (rd_L11 x3_2 (rd (rd_L11 l0 x14_1) x21_2)) (ji25)) == x14_1) = false := beq_eq_false_iff_ne.mpr c28
 have c28b1 : ((rd (rd_L11 x3_2 (rd (rd_L11 l0 x14_1) x21_2)) (ji25)) != x14_1) = true := bne_iff_ne.mpr c28
 replace H := ifp H
 obtain ⟨c30, H⟩ := H
 have LMc30 := am c30
 clear c30
 obtain ⟨y155, hy155⟩ : ∃ y_ : List Int, y_ = ((rd_L11 x3_2 (rd (rd_L11 l0 x14_1) x21_2)) ++ [x14_1]) := ⟨_, rfl⟩
 replace H : (digraph_Reverse.l1 k2 l0 (x3_2.set ((rd (rd_L11 l0 x14_1) x21_2) : Int).toNat y155) x14_1 l0 (l0.length : Int) x14_1 (rd_L11 l0 x14_1) ((rd_L11 l0 x14_1).length : Int) (wrap64 (x21_2 + 1))) = some r := hrp hy155 H
 have Ny155 := am hy155
 clear hy155
 obtain ⟨y158, hy158⟩ : ∃ y_ : List (List Int), y_ = (x3_2.set ((rd (rd_L11 l0 x14_1) x21_2) : Int).toNat y155) := ⟨_, rfl⟩
 replace H : (digraph_Reverse.l1 k2 l0 y158 x14_1 l0 (l0.length : Int) x14_1 (rd_L11 l0 x14_1) ((rd_L11 l0 x14_1).length : Int) (wrap64 (x21_2 + 1))) = some r := hrp hy158 H
 have Ny158 := am hy158
 clear hy158
 have H' := am H
 clear H
 obtain ⟨p144, q144, ad144, e144, hx144_0⟩ := bint HR143_0.1 HB.1 x21_2
 cases e144
 go_wp2_with (first | ((with_reducible refine gate_callee (f := 70) rfl ?_); refine gC 27 Try.func70 _ (digraph_inside.calls _ _ l0 (rd (rd_L11 l0 x14_1) x21_2) true _ (csb HR0 HB) HC0.1 A12.1) ?_; rintro e w' ⟨rfl, ⟨nd, rfl⟩⟩; refine ⟨_, rfl, ?_⟩; (try (rw [drewN_self wr]; generalize hq_ : World.drewN wr _ = wr; replace HO_3 : Aside0 (Kd.S (Kd.slice 3 (Kd.int .i64)) 37 wr w.heap.size (fun _ => True) v141 x3_2) := ⟨by rw [← hq_]; exact (pks HO_3.1)⟩; replace HB : Aside0 (Below w.heap.size w wr) := ⟨by rw [← hq_]; exact pbl⟩; clear hq_)); obtain ⟨Ao32, co32, eo32⟩ := Kd.S_slice HO_3.1; subst eo32; have p146 : 0 ≤ ((rd (rd_L11 l0 x14_1) x21_2) : Int) := dq; have q146 : (rd (rd_L11 l0 x14_1) x21_2) < (x3_2.length : Int) := dq; obtain ⟨ad146, A146_0, c146_0, e146, hx146_0, hl146_0, hi146_0⟩ := at_L11 (Kd.S_reads' HO_3.1).2.2 (rd (rd_L11 l0 x14_1) x21_2) p146 q146; cases e146; obtain ⟨ce146, hce146, hMe146, hcc146⟩ := Kd.S_get HO_3.1 [] (rd (rd_L11 l0 x14_1) x21_2) p146 (by first | exact q146 | exact dq | (have e_ := (Kd.S_reads' HO_3.1).1; omega)); obtain ⟨ve146_0, rfl, ge146_0⟩ := hMe146; have hv146_0 := hcc146 0 _ rfl; rw [Nat.add_zero, show ((Kd.slice 3 (Kd.int .i64))).sz = 1 from rfl, Nat.mul_one] at hv146_0; replace hv146_0 := Option.some.inj (hv146_0.symm.trans hx146_0); rw [hv146_0] at ge146_0; have HL146_0 := am (show Kd.R (Kd.int .i64) 3 _ _ _ _ (rd_L11 x3_2 (rd (rd_L11 l0 x14_1) x21_2)) from ge146_0); clear hv146_0 ge146_0; have HX146_0 := am hx146_0; clear hcc146 hce146; have HR146_0 := am hi146_0; have HC146_0 := am hl146_0; clear hi146_0 hl146_0; replace p146 := eq_true p146; replace q146 := eq_true q146; have p152 : 0 ≤ ((rd (rd_L11 l0 x14_1) x21_2) : Int) := dq; have q152 : (rd (rd_L11 l0 x14_1) x21_2) < (x3_2.length : Int) := dq; obtain ⟨ad152, A152_0, c152_0, e152, hx152_0, hl152_0, hi152_0⟩ := at_L11 (Kd.S_reads' HO_3.1).2.2 (rd (rd_L11 l0 x14_1) x21_2) p152 q152; obtain rfl : ad146 = ad152 := (by injection e152); obtain ⟨ce152, hce152, hMe152, hcc152⟩ := Kd.S_get HO_3.1 [] (rd (rd_L11 l0 x14_1) x21_2) p152 (by first | exact q152 | exact dq | (have e_ := (Kd.S_reads' HO_3.1).1; omega)); obtain ⟨ve152_0, rfl, ge152_0⟩ := hMe152; have hv152_0 := hcc152 0 _ rfl; rw [Nat.add_zero, show ((Kd.slice 3 (Kd.int .i64))).sz = 1 from rfl, Nat.mul_one] at hv152_0; replace hv152_0 := Option.some.inj (hv152_0.symm.trans hx152_0); rw [hv152_0] at ge152_0; have HL152_0 := am (show Kd.R (Kd.int .i64) 3 _ _ _ _ (rd_L11 x3_2 (rd (rd_L11 l0 x14_1) x21_2)) from ge152_0); clear hv152_0 ge152_0; have HX152_0 := am hx152_0; clear hcc152 hce152; have HR152_0 := am hi152_0; have HC152_0 := am hl152_0; clear hi152_0 hl152_0; replace p152 := eq_true p152; replace q152 := eq_true q152; have ea_ := Option.some.inj (hx146_0.symm.trans hx152_0); injection ea_ with ea_ en_ ec_; subst ea_; subst ec_; clear en_; have p153 : 0 ≤ ((ji25) : Int) := dq; have q153 : (ji25) < ((rd_L11 x3_2 (rd (rd_L11 l0 x14_1) x21_2)).length : Int) := dq; obtain ⟨ad153, e153, hx153_0⟩ := Kd.at_int (by repeat (first | (with_reducible exact HR152_0.1) | (with_reducible refine Kd.C_alloc ?_ _) | (with_reducible refine Kd.C_drewN ?_ _) | (with_reducible refine Kd.C_drew ?_) | exact HR152_0.1)) (ji25) p153 q153; cases e153; replace p153 := eq_true p153; replace q153 := eq_true q153; have p154 : 0 ≤ ((rd (rd_L11 l0 x14_1) x21_2) : Int) := dq; have q154 : (rd (rd_L11 l0 x14_1) x21_2) < (x3_2.length : Int) := dq; obtain ⟨ad154, A154_0, c154_0, e154, hx154_0, hl154_0, hi154_0⟩ := at_L11 (Kd.S_reads' HO_3.1).2.2 (rd (rd_L11 l0 x14_1) x21_2) p154 q154; obtain rfl : ad146 = ad154 := (by injection e154); obtain ⟨ce154, hce154, hMe154, hcc154⟩ := Kd.S_get HO_3.1 [] (rd (rd_L11 l0 x14_1) x21_2) p154 (by first | exact q154 | exact dq | (have e_ := (Kd.S_reads' HO_3.1).1; omega)); obtain ⟨ve154_0, rfl, ge154_0⟩ := hMe154; have hv154_0 := hcc154 0 _ rfl; rw [Nat.add_zero, show ((Kd.slice 3 (Kd.int .i64))).sz = 1 from rfl, Nat.mul_one] at hv154_0; replace hv154_0 := Option.some.inj (hv154_0.symm.trans hx154_0); rw [hv154_0] at ge154_0; have HL154_0 := am (show Kd.R (Kd.int .i64) 3 _ _ _ _ (rd_L11 x3_2 (rd (rd_L11 l0 x14_1) x21_2)) from ge154_0); clear hv154_0 ge154_0; have HX154_0 := am hx154_0; clear hcc154 hce154; have HR154_0 := am hi154_0; have HC154_0 := am hl154_0; clear hi154_0 hl154_0; replace p154 := eq_true p154; replace q154 := eq_true q154; have ea_ := Option.some.inj (hx146_0.symm.trans hx154_0); injection ea_ with ea_ en_ ec_; subst ea_; subst ec_; clear en_; obtain ⟨go33, co33, eo33, gb33, gl33, cl33, HG33⟩ := Kd.S_form HO_3.1 (by have h_ : ((rd (rd_L11 l0 x14_1) x21_2) : Int) < ((x3_2.length : Int) : Int) := dq; have h2_ : 0 ≤ ((rd (rd_L11 l0 x14_1) x21_2) : Int) := (dq); omega); (first | cases eo33 | (injection eo33 with ea_ en_ ec_; (first | subst ea_ | (injection ea_ with ea_; subst ea_)); subst ec_; clear en_)); have GB33 := am gb33; have GG33 := am HG33; clear gb33 gl33 HG33; (first | simp only [add_plain] at hx146_0 | skip); (first | simp only [add_plain] at hx152_0 | skip); (first | simp only [add_plain] at hx154_0 | skip); obtain ⟨oki33, ce33, hcl33, hM33, hcc33, _, _, hH33⟩ := Kd.S_elem HO_3.1 [] ((rd (rd_L11 l0 x14_1) x21_2) : Int) (dq) (by have h_ : ((rd (rd_L11 l0 x14_1) x21_2) : Int) < ((x3_2.length : Int) : Int) := dq; first | exact h_ | (have e_ := (Kd.S_reads' HO_3.1).1; omega) | simpa using h_); obtain ⟨ve33_0, rfl, ge33_0⟩ := hM33; have hv33 := hcc33 0 _ rfl; have hX33 := HX154_0.1; (try simp only [add_plain] at hX33); (try simp only [Nat.add_zero] at hv33); (try rw [show ((Kd.slice 3 (Kd.int .i64))).sz = 1 from rfl, Nat.mul_one] at hv33); replace hv33 := Option.some.inj (hv33.symm.trans hX33); subst hv33; clear hX33 hcc33 hcl33; have UU33 := am (show Kd.R (Kd.int .i64) 3 _ w.heap.size oki33 (.slice (some ad153) (rd_L11 x3_2 (rd (rd_L11 l0 x14_1) x21_2)).length c146_0) (rd_L11 x3_2 (rd (rd_L11 l0 x14_1) x21_2)) from ge33_0); have HH33 := am hH33; have HN33 := am (Kd.S_reads' HO_3.1).1; clear hH33 ge33_0) | ((with_reducible refine gate_builtin (b := .append) (xs := #[.tmp 53, .tmp 55]) rfl ?_); at_builtin; refine Kd.R_append (Kd.int .i64) (w0 := w) w.heap.size rfl (.tmp 53) (.tmp 55) 37 3 (.int .i64 0) 8 rfl Try.underlying37 info3 rfl (by decide) (by omega) (.slice (some ad153) (rd_L11 x3_2 (rd (rd_L11 l0 x14_1) x21_2)).length c146_0) (rd_L11 x3_2 (rd (rd_L11 l0 x14_1) x21_2)) x14_1 [.int .i64 x14_1] (fun k_ => oki33 k_ ∨ ((fun _ => True)) k_ ∧ wr.heap.size ≤ k_) (fun _ => False) rfl rfl ?aP (fun _ hk => hk.elim) ?aF ?aO ?aB ?aS ?aL ?_; (case aP => exact rfl); (case aB => exact pbl); (case aF => exact (fun k_ hk => .inr ⟨trivial, hk⟩)); (case aO => exact (by (with_reducible repeat (first | apply Kd.R_alloc | apply Kd.R_drewN | apply Kd.R_drew)); exact Kd.R_mono UU33.1 (fun _ hk => .inl hk))); (case aS => exact (below_size pbl)); (case aL => have := LMc30.1; omega); intro v156 w34 ho hb hg hat; rw [← Ny155.1] at ho; have HO157 := am ho; replace HB := am hb; replace HH33 := am (Kd.H_grown (Kd.H_widen (by repeat (first | exact HH33.1 | refine Kd.H_alloc ?_ _ | refine Kd.H_drewN ?_ _ | refine Kd.H_drew ?_))) hg (fun k_ e_ => .inl (UU33.1.1 k_ e_))); (try clear HO_3 UU33 HL146_0 HL152_0 HL154_0); clear ho hb hg hat; have p31 : 0 ≤ ((rd (rd_L11 l0 x14_1) x21_2) : Int) := dq; have q31 : ((rd (rd_L11 l0 x14_1) x21_2) : Int) < ((x3_2.length : Int) : Int) := dq; replace p31 := eq_true p31; replace q31 := eq_true q31; obtain ⟨Ao37, co37, eo37⟩ := Kd.R_slice HO157.1; subst eo37; obtain ⟨_, _, hraw35, _, _, hcc35, _⟩ := Kd.H_raw HH33.1 (dq) (by have h_ : ((rd (rd_L11 l0 x14_1) x21_2) : Int) < ((x3_2.length : Int) : Int) := dq; first | exact h_ | (have e_ := (HN33.1); omega) | simpa using h_); obtain ⟨_, hfr35⟩ := Kd.H_at HH33.1 (dq) (by have h_ : ((rd (rd_L11 l0 x14_1) x21_2) : Int) < ((x3_2.length : Int) : Int) := dq; first | exact h_ | (have e_ := (HN33.1); omega) | simpa using h_); have hx35_0 := hcc35 0 _ rfl; have hf35_0 := hfr35 0; (try simp only [Nat.add_zero] at hx35_0 hf35_0); (try rw [show ((Kd.slice 3 (Kd.int .i64))).sz = 1 from rfl, Nat.mul_one] at hx35_0); (try rw [show ((Kd.slice 3 (Kd.int .i64))).sz = 1 from rfl, Nat.mul_one] at hf35_0); have HP35 := Kd.S_seg0 HH33.1 (dq) (by have h_ : ((rd (rd_L11 l0 x14_1) x21_2) : Int) < ((x3_2.length : Int) : Int) := dq; first | exact h_ | (have e_ := (HN33.1); omega) | simpa using h_) (seg := [.slice Ao37 y155.length co37]) (j := 0) (show 1 ≤ 1 from by decide) (x' := y155) (Kd.M_row HO157.1) (fun _ hk => hk); (try simp only [show ((Kd.slice 3 (Kd.int .i64))).sz = 1 from rfl, Nat.mul_one, Nat.add_zero] at HP35); clear hcc35 hfr35) | ((with_reducible refine gate_store (t := 37) (p := 57) rfl ?_); refine store_event (t := 37) (p := 57) (v := ?vo_w36) (w1 := (w34.setCell ⟨go33, ((rd (rd_L11 l0 x14_1) x21_2) : Int).toNat, none⟩ (.slice Ao37 y155.length co37))) ?hg ?ho ?hn ?hr ?_; (case ho => rfl); (case hg => rfl); (case hn => rfl); (case hr => first | (go_simp; done) | (go_simp; rfl)); intro w36 hw; have hg : w34.grownBy w36 (some go33) := (by rw [hw]; exact HP35.2); have hp_ : Kd.S (Kd.slice 3 (Kd.int .i64)) 37 w36 w.heap.size (fun _ => True) (.slice (some ⟨go33, 0, none⟩) x3_2.length co32) y158 := (by rw [hw, Ny158.1]; exact HP35.1); clear HP35; have HO_3 := am hp_; replace HB := am ((by rw [hw]; exact below_set HB.1 GB33.1 : Below w.heap.size w w36)); (try clear HO157 HH33); clear hg hw hp_ hraw35))
 go_roundg k2
 case measure => have := HK1.1; have := HK2.1; omega
 case rel => exact ⟨(y158), (wrap64 (x21_2 + 1)), prs, H', ⟨by have := HK1.1; have := HK2.1; omega⟩, ⟨pks HO_3.1⟩, ⟨pbg⟩⟩

/-! ### netclass_both: function 40 -/
def netclass_both.l0 : Nat → List (List Int) → List (List Int) → Int → Int → Option ((List (List Int)))
 | 0, _, _, _, _ => none
 | k + 1, x3, x8, x9, x10 => if x10 < x9 then (if 0 ≤ x10 then (if x10 < (x8.length : Int) then (if x10 < (x3.length : Int) then (if (rd_L11 x3 x10).length + (rd_L11 x8 x10).length < 17592186044416 then (netclass_both.l0 k (x3.set (x10 : Int).toNat ((rd_L11 x3 x10) ++ (rd_L11 x8 x10))) x8 x9 (wrap64 (x10 + 1))) else (none)) else (none)) else (none)) else (none)) else (some x3)
def netclass_both.f (k : Nat) (l0 : List (List Int)) : Option ((List (List Int))) := (digraph_Reverse.f k l0).bind fun t159 => (netclass_both.l0 k t159 l0 (l0.length : Int) 0)
theorem netclass_both.mono_l : ∀ k, M4 netclass_both.l0 k
 | 0 => fun _ _ _ _ r h => by simp [netclass_both.l0] at h
 | k + 1 => by
  have ih0 := netclass_both.mono_l k
  ·intro y0 y1 y2 y3
   unfold netclass_both.l0
   repeat' first | (with_reducible first | apply ih0 | apply digraph_Reverse.mono | apply lr | apply ln | apply li | refine lb ?_ fun _ => ?_)
theorem netclass_both.mono : ∀ a0 k, LeO (netclass_both.f k a0) (netclass_both.f (k + 1) a0) := by
 intro a0 k
 have ih0 := netclass_both.mono_l k
 unfold netclass_both.f
 repeat' first | (with_reducible first | apply ih0 | apply digraph_Reverse.mono | apply lr | apply ln | apply li | refine lb ?_ fun _ => ?_)
set_option maxHeartbeats 8000000 in
set_option maxRecDepth 100000 in
theorem netclass_both.calls (k : Nat) (A0 : Option Addr) (c0 : Nat) (l0 : List (List Int)) (r : List (List Int)) (w : World) (hr0 : Kd.C (Kd.slice 3 (Kd.int .i64)) w A0 l0.length l0) (hc0 : l0.length ≤ c0) (h : netclass_both.f k l0 = some r) :
  Calls Try.prog 40 #[.slice A0 l0.length c0] w fun e w' => ∃ v0_ : Value, e = .returned (v0_) ∧ Kd.S (Kd.slice 3 (Kd.int .i64)) 37 w' w.heap.size (fun _ => True) v0_ r ∧ Below w.heap.size w w' := by
 have HR0 := am hr0
 have HC0 := am hc0
 clear hr0 hc0
 have HB := am (Below.refl w.heap.size w)
 have H : ((digraph_Reverse.f k l0).bind fun t159 => (netclass_both.l0 k t159 l0 (l0.length : Int) 0)) = some r := h
 clear h
 replace H := bnd H
 obtain ⟨t159, A2, H⟩ := H
 (try dsimp only at H)
 have H' := am H
 clear H
 go_enter Try.func40, Try.ntmps40
 go_wp2_with (first | ((with_reducible refine gate_callee (f := 71) rfl ?_); refine gC 7 Try.func71 _ (digraph_Reverse.calls k _ _ l0 t159 _ (csd HR0.1) HC0.1 A2.1) ?_; rintro e w3 ⟨v160, rfl, ho0, hb⟩; refine ⟨_, rfl, ?_⟩; have HO161 := am (Kd.S_lower ho0 (below_size pbl)); replace HB := bsl hb; (try clear hb); (try clear ho0)))
 go_loopg [10] k (fun kq v10 w' => ∃ (x3_1 : List (List Int)) (x10_1 : Int), v10 = .int .i64 x10_1 ∧ Aside0 (netclass_both.l0 kq x3_1 l0 (l0.length : Int) x10_1 = some r) ∧ Aside0 (kq ≤ k) ∧ Aside0 (Kd.S (Kd.slice 3 (Kd.int .i64)) 37 w' w.heap.size (fun _ => True) v160 x3_1) ∧ Aside0 (Below w.heap.size w w'))
 case atStart => exact ⟨(t159), (0), prs, H', ⟨Nat.le_refl _⟩, ⟨pks HO161.1⟩, ⟨pbg⟩⟩
 clear H'
 obtain ⟨x3_1, x10_1, rfl, HA, HK1, HO_3, HB⟩ := hrel
 obtain _ | k1 := gk
 ·exact absurd HA.1 (by simp [netclass_both.l0])
 have H := HA.1
 clear HA
 simp only [netclass_both.l0] at H
 by_cases c4 : x10_1 < (l0.length : Int)
 rotate_left
 ·rw [if_neg c4] at H
  have c4b0 : decide (x10_1 < (l0.length : Int)) = false := decide_eq_false c4
  clear c4
  obtain rfl := Option.some.inj H
  go_wp2
  go_ret
  exact ⟨_, per, by (with_reducible repeat (first | apply Kd.S_alloc | apply Kd.S_drewN | apply Kd.S_drew)); exact HO_3.1, pbg⟩
 rw [if_pos c4] at H
 have c4b0 : decide (x10_1 < (l0.length : Int)) = true := decide_eq_true c4
 clear c4
 replace H := ifp H
 obtain ⟨c5, H⟩ := H
 have c5b0 := decide_eq_true c5
 clear c5
 replace H := ifp H
 obtain ⟨c6, H⟩ := H
 have c6b0 := decide_eq_true c6
 clear c6
 replace H := ifp H
 obtain ⟨c7, H⟩ := H
 have c7b0 := decide_eq_true c7
 clear c7
 replace H := ifp H
 obtain ⟨c8, H⟩ := H
 have LMc8 := am c8
 clear c8
 obtain ⟨y164, hy164⟩ : ∃ y_ : List Int, y_ = ((rd_L11 x3_1 x10_1) ++ (rd_L11 l0 x10_1)) := ⟨_, rfl⟩
 replace H : (netclass_both.l0 k1 (x3_1.set (x10_1 : Int).toNat y164) l0 (l0.length : Int) (wrap64 (x10_1 + 1))) = some r := hrp hy164 H
 have Ny164 := am hy164
 clear hy164
 obtain ⟨y167, hy167⟩ : ∃ y_ : List (List Int), y_ = (x3_1.set (x10_1 : Int).toNat y164) := ⟨_, rfl⟩
 replace H : (netclass_both.l0 k1 y167 l0 (l0.length : Int) (wrap64 (x10_1 + 1))) = some r := hrp hy167 H
 have Ny167 := am hy167
 clear hy167
 have H' := am H
 clear H
 obtain ⟨p162, q162, ad162, A162_0, c162_0, e162, hx162_0, HC162_0, HR162_0⟩ := bL11 HR0.1 HB.1 x10_1
 cases e162
 obtain ⟨Ao10, co10, eo10⟩ := Kd.S_slice HO_3.1
 subst eo10
 have p163 : 0 ≤ (x10_1 : Int) := dq
 have q163 : x10_1 < (x3_1.length : Int) := dq
 obtain ⟨ad163, A163_0, c163_0, e163, hx163_0, hl163_0, hi163_0⟩ := at_L11 (Kd.S_reads' HO_3.1).2.2 x10_1 p163 q163
 cases e163
 obtain ⟨ce163, hce163, hMe163, hcc163⟩ := Kd.S_get HO_3.1 [] x10_1 p163 (by first | exact q163 | exact dq | (have e_ := (Kd.S_reads' HO_3.1).1; omega))
 obtain ⟨ve163_0, rfl, ge163_0⟩ := hMe163
 have hv163_0 := hcc163 0 _ rfl
 rw [Nat.add_zero, show ((Kd.slice 3 (Kd.int .i64))).sz = 1 from rfl, Nat.mul_one] at hv163_0
 replace hv163_0 := Option.some.inj (hv163_0.symm.trans hx163_0)
 rw [hv163_0] at ge163_0
 have HL163_0 := am (show Kd.R (Kd.int .i64) 3 _ _ _ _ (rd_L11 x3_1 x10_1) from ge163_0)
 clear hv163_0 ge163_0
 have HX163_0 := am hx163_0
 clear hcc163 hce163
 have HR163_0 := am hi163_0
 have HC163_0 := am hl163_0
 clear hi163_0 hl163_0
 replace p163 := eq_true p163
 replace q163 := eq_true q163
 obtain ⟨go11, co11, eo11, gb11, gl11, cl11, HG11⟩ := Kd.S_form HO_3.1 (by have h_ : (x10_1 : Int) < ((x3_1.length : Int) : Int) := dq; have h2_ : 0 ≤ (x10_1 : Int) := (dq); omega)
 (first | cases eo11 | (injection eo11 with ea_ en_ ec_; (first | subst ea_ | (injection ea_ with ea_; subst ea_)); subst ec_; clear en_))
 have GB11 := am gb11
 have GG11 := am HG11
 clear gb11 gl11 HG11
 (first | simp only [add_plain] at hx163_0 | skip)
 obtain ⟨oki11, ce11, hcl11, hM11, hcc11, _, _, hH11⟩ := Kd.S_elem HO_3.1 [] (x10_1 : Int) (dq) (by have h_ : (x10_1 : Int) < ((x3_1.length : Int) : Int) := dq; first | exact h_ | (have e_ := (Kd.S_reads' HO_3.1).1; omega) | simpa using h_)
 obtain ⟨ve11_0, rfl, ge11_0⟩ := hM11
 have hv11 := hcc11 0 _ rfl
 have hX11 := HX163_0.1
 (try simp only [add_plain] at hX11)
 (try simp only [Nat.add_zero] at hv11)
 (try rw [show ((Kd.slice 3 (Kd.int .i64))).sz = 1 from rfl, Nat.mul_one] at hv11)
 replace hv11 := Option.some.inj (hv11.symm.trans hX11)
 subst hv11
 clear hX11 hcc11 hcl11
 have UU11 := am (show Kd.R (Kd.int .i64) 3 _ w.heap.size oki11 (.slice A163_0 (rd_L11 x3_1 x10_1).length c163_0) (rd_L11 x3_1 x10_1) from ge11_0)
 have HH11 := am hH11
 have HN11 := am (Kd.S_reads' HO_3.1).1
 clear hH11 ge11_0
 go_wp2_with (first | ((with_reducible refine gate_builtin (b := .append) (xs := #[.tmp 20, .tmp 21]) rfl ?_); at_builtin; refine Kd.R_append_rows (Kd.int .i64) (w0 := w) w.heap.size rfl (.tmp 20) (.tmp 21) 37 3 (.int .i64 0) 8 rfl Try.underlying37 info3 rfl (by decide) (by omega) (.slice A163_0 (rd_L11 x3_1 x10_1).length c163_0) (rd_L11 x3_1 x10_1) (rd_L11 l0 x10_1) _ _ _ (fun k_ => oki11 k_ ∨ ((fun _ => True)) k_ ∧ wr.heap.size ≤ k_) (fun _ => False) rfl rfl ?aO ?aR (fun _ _ h => h) (fun _ h => h.elim) ?aF ?aB ?aS ?aL ?_; (case aR => exact csb HR162_0 HB); (case aB => exact pbl); (case aF => exact (fun k_ hk => .inr ⟨trivial, hk⟩)); (case aO => exact (by (with_reducible repeat (first | apply Kd.R_alloc | apply Kd.R_drewN | apply Kd.R_drew)); exact Kd.R_mono UU11.1 (fun _ hk => .inl hk))); (case aS => exact (below_size pbl)); (case aL => have := LMc8.1; omega); intro v165 w12 ho hb hg hat; rw [← Ny164.1] at ho; have HO166 := am ho; replace HB := am hb; replace HH11 := am (Kd.H_grown (Kd.H_widen (by repeat (first | exact HH11.1 | refine Kd.H_alloc ?_ _ | refine Kd.H_drewN ?_ _ | refine Kd.H_drew ?_))) hg (fun k_ e_ => .inl (UU11.1.1 k_ e_))); (try clear HO_3 UU11 HL163_0); clear ho hb hg hat; have p9 : 0 ≤ (x10_1 : Int) := dq; have q9 : (x10_1 : Int) < ((x3_1.length : Int) : Int) := dq; replace p9 := eq_true p9; replace q9 := eq_true q9; obtain ⟨Ao15, co15, eo15⟩ := Kd.R_slice HO166.1; subst eo15; obtain ⟨_, _, hraw13, _, _, hcc13, _⟩ := Kd.H_raw HH11.1 (dq) (by have h_ : (x10_1 : Int) < ((x3_1.length : Int) : Int) := dq; first | exact h_ | (have e_ := (HN11.1); omega) | simpa using h_); obtain ⟨_, hfr13⟩ := Kd.H_at HH11.1 (dq) (by have h_ : (x10_1 : Int) < ((x3_1.length : Int) : Int) := dq; first | exact h_ | (have e_ := (HN11.1); omega) | simpa using h_); have hx13_0 := hcc13 0 _ rfl; have hf13_0 := hfr13 0; (try simp only [Nat.add_zero] at hx13_0 hf13_0); (try rw [show ((Kd.slice 3 (Kd.int .i64))).sz = 1 from rfl, Nat.mul_one] at hx13_0); (try rw [show ((Kd.slice 3 (Kd.int .i64))).sz = 1 from rfl, Nat.mul_one] at hf13_0); have HP13 := Kd.S_seg0 HH11.1 (dq) (by have h_ : (x10_1 : Int) < ((x3_1.length : Int) : Int) := dq; first | exact h_ | (have e_ := (HN11.1); omega) | simpa using h_) (seg := [.slice Ao15 y164.length co15]) (j := 0) (show 1 ≤ 1 from by decide) (x' := y164) (Kd.M_row HO166.1) (fun _ hk => hk); (try simp only [show ((Kd.slice 3 (Kd.int .i64))).sz = 1 from rfl, Nat.mul_one, Nat.add_zero] at HP13); clear hcc13 hfr13) | ((with_reducible refine gate_store (t := 37) (p := 23) rfl ?_); refine store_event (t := 37) (p := 23) (v := ?vo_w14) (w1 := (w12.setCell ⟨go11, (x10_1 : Int).toNat, none⟩ (.slice Ao15 y164.length co15))) ?hg ?ho ?hn ?hr ?_; (case ho => rfl); (case hg => rfl); (case hn => rfl); (case hr => first | (go_simp; done) | (go_simp; rfl)); intro w14 hw; have hg : w12.grownBy w14 (some go11) := (by rw [hw]; exact HP13.2); have hp_ : Kd.S (Kd.slice 3 (Kd.int .i64)) 37 w14 w.heap.size (fun _ => True) (.slice (some ⟨go11, 0, none⟩) x3_1.length co10) y167 := (by rw [hw, Ny167.1]; exact HP13.1); clear HP13; have HO_3 := am hp_; replace HB := am ((by rw [hw]; exact below_set HB.1 GB11.1 : Below w.heap.size w w14)); (try clear HO166 HH11); clear hg hw hp_ hraw13))
 go_roundg k1
 case measure => have := HK1.1; omega
 case rel => exact ⟨(y167), (wrap64 (x10_1 + 1)), prs, H', ⟨by have := HK1.1; omega⟩, ⟨pks HO_3.1⟩, ⟨pbg⟩⟩

/-! ### netclass_among: function 80 -/
def netclass_among.l0 : Nat → Int → List Int → Int → Int → Option (Bool)
 | 0, _, _, _, _ => none
 | k + 1, x1, x7, x8, x9 => if x9 < x8 then (if 0 ≤ x9 then (if x9 < (x7.length : Int) then (if (rd x7 x9) = x1 then (some true) else (netclass_among.l0 k x1 x7 x8 (wrap64 (x9 + 1)))) else (none)) else (none)) else (some false)
def netclass_among.f (k : Nat) (l0 : List Int) (a1 : Int) : Option (Bool) := netclass_among.l0 k a1 l0 (l0.length : Int) 0
theorem netclass_among.mono_l : ∀ k, M4 netclass_among.l0 k
 | 0 => fun _ _ _ _ r h => by simp [netclass_among.l0] at h
 | k + 1 => by
  have ih0 := netclass_among.mono_l k
  ·intro y0 y1 y2 y3
   unfold netclass_among.l0
   repeat' first | (with_reducible first | apply ih0 | apply lr | apply ln | apply li | refine lb ?_ fun _ => ?_)
theorem netclass_among.mono : ∀ a0 a1 k, LeO (netclass_among.f k a0 a1) (netclass_among.f (k + 1) a0 a1) := by
 intro a0 a1 k
 have ih0 := netclass_among.mono_l k
 unfold netclass_among.f
 repeat' first | (with_reducible first | apply ih0 | apply lr | apply ln | apply li | refine lb ?_ fun _ => ?_)
set_option maxHeartbeats 8000000 in
set_option maxRecDepth 100000 in
theorem netclass_among.calls (k : Nat) (A0 : Option Addr) (c0 : Nat) (l0 : List Int) (a1 : Int) (r : Bool) (w : World) (hr0 : Kd.C (Kd.int .i64) w A0 l0.length l0) (hc0 : l0.length ≤ c0) (h : netclass_among.f k l0 a1 = some r) :
  Calls Try.prog 80 #[.slice A0 l0.length c0, .int .i64 a1] w fun e w' => e = .returned (.bool r) ∧ Drawn0 w w' := by
 have HR0 := am hr0
 have HC0 := am hc0
 clear hr0 hc0
 have H : (netclass_among.l0 k a1 l0 (l0.length : Int) 0) = some r := h
 clear h
 have H' := am H
 clear H
 go_enter Try.func80, Try.ntmps80
 go_wp2
 go_loopg [9] k (fun kq v9 w' => ∃ (x9_1 : Int), v9 = .int .i64 x9_1 ∧ Aside0 (netclass_among.l0 kq a1 l0 (l0.length : Int) x9_1 = some r) ∧ Aside0 (kq ≤ k) ∧ Drawn0 w w')
 case atStart => exact ⟨(0), prs, H', ⟨Nat.le_refl _⟩, pdr⟩
 clear H'
 obtain ⟨x9_1, rfl, HA, HK1, ⟨m1, rfl⟩⟩ := hrel
 obtain _ | k1 := gk
 ·exact absurd HA.1 (by simp [netclass_among.l0])
 have H := HA.1
 clear HA
 simp only [netclass_among.l0] at H
 by_cases c3 : x9_1 < (l0.length : Int)
 rotate_left
 ·rw [if_neg c3] at H
  have c3b0 : decide (x9_1 < (l0.length : Int)) = false := decide_eq_false c3
  clear c3
  obtain rfl := Option.some.inj H
  go_wp2
  go_ret
  exact ⟨prs, pdr⟩
 rw [if_pos c3] at H
 have c3b0 : decide (x9_1 < (l0.length : Int)) = true := decide_eq_true c3
 clear c3
 replace H := ifp H
 obtain ⟨c4, H⟩ := H
 have c4b0 := decide_eq_true c4
 clear c4
 replace H := ifp H
 obtain ⟨c5, H⟩ := H
 have c5b0 := decide_eq_true c5
 clear c5
 by_cases c6 : (rd l0 x9_1) = a1
 ·rw [if_pos c6] at H
  have c6b0 : ((rd l0 x9_1) == a1) = true := beq_iff_eq.mpr c6
  have c6b1 : ((rd l0 x9_1) != a1) = false := bne_eq_false_iff_eq.mpr c6
  clear c6
  obtain rfl := Option.some.inj H
  obtain ⟨p183, q183, ad183, e183, hx183_0⟩ := dint HR0.1 x9_1
  cases e183
  go_wp2
  go_ret
  exact ⟨prs, pdr⟩
 rw [if_neg c6] at H
 have c6b0 : ((rd l0 x9_1) == a1) = false := beq_eq_false_iff_ne.mpr c6
 have c6b1 : ((rd l0 x9_1) != a1) = true := bne_iff_ne.mpr c6
 have H' := am H
 clear H
 obtain ⟨p183, q183, ad183, e183, hx183_0⟩ := dint HR0.1 x9_1
 cases e183
 go_wp2
 go_roundg k1
 case measure => have := HK1.1; omega
 case rel => exact ⟨(wrap64 (x9_1 + 1)), prs, H', ⟨by have := HK1.1; omega⟩, pdr⟩

/-! ### netclass_meet: function 56 -/
def netclass_meet.l0 : Nat → List Int → List Int → Int → Int → Option (Bool)
 | 0, _, _, _, _ => none
 | k + 1, x1, x7, x8, x9 => if x9 < x8 then (if 0 ≤ x9 then (if x9 < (x7.length : Int) then ((netclass_among.f k x1 (rd x7 x9)).bind fun t185 => (if t185 = true then (some true) else (netclass_meet.l0 k x1 x7 x8 (wrap64 (x9 + 1))))) else (none)) else (none)) else (some false)
def netclass_meet.f (k : Nat) (l0 : List Int) (l1 : List Int) : Option (Bool) := netclass_meet.l0 k l1 l0 (l0.length : Int) 0
theorem netclass_meet.mono_l : ∀ k, M4 netclass_meet.l0 k
 | 0 => fun _ _ _ _ r h => by simp [netclass_meet.l0] at h
 | k + 1 => by
  have ih0 := netclass_meet.mono_l k
  ·intro y0 y1 y2 y3
   unfold netclass_meet.l0
   repeat' first | (with_reducible first | apply ih0 | apply netclass_among.mono | apply lr | apply ln | apply li | refine lb ?_ fun _ => ?_)
theorem netclass_meet.mono : ∀ a0 a1 k, LeO (netclass_meet.f k a0 a1) (netclass_meet.f (k + 1) a0 a1) := by
 intro a0 a1 k
 have ih0 := netclass_meet.mono_l k
 unfold netclass_meet.f
 repeat' first | (with_reducible first | apply ih0 | apply netclass_among.mono | apply lr | apply ln | apply li | refine lb ?_ fun _ => ?_)
set_option maxHeartbeats 8000000 in
set_option maxRecDepth 100000 in
theorem netclass_meet.calls (k : Nat) (A0 : Option Addr) (c0 : Nat) (l0 : List Int) (A1 : Option Addr) (c1 : Nat) (l1 : List Int) (r : Bool) (w : World) (hr0 : Kd.C (Kd.int .i64) w A0 l0.length l0) (hc0 : l0.length ≤ c0) (hr1 : Kd.C (Kd.int .i64) w A1 l1.length l1) (hc1 : l1.length ≤ c1) (h : netclass_meet.f k l0 l1 = some r) :
  Calls Try.prog 56 #[.slice A0 l0.length c0, .slice A1 l1.length c1] w fun e w' => e = .returned (.bool r) ∧ Drawn0 w w' := by
 have HR0 := am hr0
 have HC0 := am hc0
 clear hr0 hc0
 have HR1 := am hr1
 have HC1 := am hc1
 clear hr1 hc1
 have H : (netclass_meet.l0 k l1 l0 (l0.length : Int) 0) = some r := h
 clear h
 have H' := am H
 clear H
 go_enter Try.func56, Try.ntmps56
 go_wp2
 go_loopg [9] k (fun kq v9 w' => ∃ (x9_1 : Int), v9 = .int .i64 x9_1 ∧ Aside0 (netclass_meet.l0 kq l1 l0 (l0.length : Int) x9_1 = some r) ∧ Aside0 (kq ≤ k) ∧ Drawn0 w w')
 case atStart => exact ⟨(0), prs, H', ⟨Nat.le_refl _⟩, pdr⟩
 clear H'
 try clear c1
 obtain ⟨x9_1, rfl, HA, HK1, ⟨m1, rfl⟩⟩ := hrel
 obtain _ | k1 := gk
 ·exact absurd HA.1 (by simp [netclass_meet.l0])
 have H := HA.1
 clear HA
 simp only [netclass_meet.l0] at H
 by_cases c3 : x9_1 < (l0.length : Int)
 rotate_left
 ·rw [if_neg c3] at H
  have c3b0 : decide (x9_1 < (l0.length : Int)) = false := decide_eq_false c3
  clear c3
  obtain rfl := Option.some.inj H
  go_wp2
  go_ret
  exact ⟨prs, pdr⟩
 rw [if_pos c3] at H
 have c3b0 : decide (x9_1 < (l0.length : Int)) = true := decide_eq_true c3
 clear c3
 replace H := ifp H
 obtain ⟨c4, H⟩ := H
 have c4b0 := decide_eq_true c4
 clear c4
 replace H := ifp H
 obtain ⟨c5, H⟩ := H
 have c5b0 := decide_eq_true c5
 clear c5
 replace H := bnd H
 obtain ⟨t185, A6, H⟩ := H
 (try dsimp only at H)
 by_cases c7 : t185 = true
 ·subst c7
  rw [if_pos rfl] at H
  obtain rfl := Option.some.inj H
  obtain ⟨p184, q184, ad184, e184, hx184_0⟩ := dint HR0.1 x9_1
  cases e184
  go_wp2_with (first | ((with_reducible refine gate_callee (f := 80) rfl ?_); refine gC 15 Try.func80 _ (netclass_among.calls k1 _ _ l1 (rd l0 x9_1) true _ (csd HR1.1) HC1.1 A6.1) ?_; rintro e w' ⟨rfl, ⟨nd, rfl⟩⟩; refine ⟨_, rfl, ?_⟩))
  go_ret
  exact ⟨prs, pdr⟩
 replace c7 := Bool.eq_false_iff.mpr c7
 subst c7
 rw [if_neg Bool.false_ne_true] at H
 have H' := am H
 clear H
 obtain ⟨p184, q184, ad184, e184, hx184_0⟩ := dint HR0.1 x9_1
 cases e184
 go_wp2_with (first | ((with_reducible refine gate_callee (f := 80) rfl ?_); refine gC 15 Try.func80 _ (netclass_among.calls k1 _ _ l1 (rd l0 x9_1) false _ (csd HR1.1) HC1.1 A6.1) ?_; rintro e w' ⟨rfl, ⟨nd, rfl⟩⟩; refine ⟨_, rfl, ?_⟩))
 go_roundg k1
 case measure => have := HK1.1; omega
 case rel => exact ⟨(wrap64 (x9_1 + 1)), prs, H', ⟨by have := HK1.1; omega⟩, pdr⟩

/-! ### net_targets: function 82 -/
def net_targets.l0 : Nat → List Int → List (S43) → Int → Int → Option (List Int)
 | 0, _, _, _, _ => none
 | k + 1, x3, x6, x7, x8 => if x8 < x7 then (if 0 ≤ x8 then (if x8 < (x6.length : Int) then (if x3.length < 17592186044416 then (net_targets.l0 k (x3 ++ [(rd_T43 x6 x8).f0]) x6 x7 (wrap64 (x8 + 1))) else (none)) else (none)) else (none)) else (some x3)
def net_targets.f (k : Nat) (l0 : List (S43)) : Option (List Int) := net_targets.l0 k ([] : List Int) l0 (l0.length : Int) 0
theorem net_targets.mono_l : ∀ k, M4 net_targets.l0 k
 | 0 => fun _ _ _ _ r h => by simp [net_targets.l0] at h
 | k + 1 => by
  have ih0 := net_targets.mono_l k
  ·intro y0 y1 y2 y3
   unfold net_targets.l0
   repeat' first | (with_reducible first | apply ih0 | apply lr | apply ln | apply li | refine lb ?_ fun _ => ?_)
theorem net_targets.mono : ∀ a0 k, LeO (net_targets.f k a0) (net_targets.f (k + 1) a0) := by
 intro a0 k
 have ih0 := net_targets.mono_l k
 unfold net_targets.f
 repeat' first | (with_reducible first | apply ih0 | apply lr | apply ln | apply li | refine lb ?_ fun _ => ?_)
set_option maxHeartbeats 8000000 in
set_option maxRecDepth 100000 in
theorem net_targets.calls (k : Nat) (A0 : Option Addr) (c0 : Nat) (l0 : List (S43)) (r : List Int) (w : World) (hr0 : Kd.C k43 w A0 l0.length l0) (hc0 : l0.length ≤ c0) (h : net_targets.f k l0 = some r) :
  Calls Try.prog 82 #[.slice A0 l0.length c0] w fun e w' => ∃ v0_ : Value, e = .returned (v0_) ∧ Kd.R (Kd.int .i64) 3 w' w.heap.size (fun _ => True) v0_ r ∧ Below w.heap.size w w' := by
 have hu43 := Try.underlying43
 have HR0 := am hr0
 have HC0 := am hc0
 clear hr0 hc0
 have HB := am (Below.refl w.heap.size w)
 have H : (net_targets.l0 k ([] : List Int) l0 (l0.length : Int) 0) = some r := h
 clear h
 have H' := am H
 clear H
 go_enter Try.func82, Try.ntmps82
 go_wp2
 go_loopg [3, 8] k (fun kq v3 v8 w' => ∃ (x3_1 : List Int) (x8_1 : Int), v8 = .int .i64 x8_1 ∧ Aside0 (net_targets.l0 kq x3_1 l0 (l0.length : Int) x8_1 = some r) ∧ Aside0 (kq ≤ k) ∧ Aside0 (Kd.R (Kd.int .i64) 3 w' w.heap.size (fun _ => True) v3 x3_1) ∧ Aside0 (Below w.heap.size w w'))
 case atStart => exact ⟨(([] : List Int)), (0), prs, H', ⟨Nat.le_refl _⟩, ⟨knl⟩, ⟨pbg⟩⟩
 clear H'
 obtain ⟨x3_1, x8_1, rfl, HA, HK1, HO_3, HB⟩ := hrel
 obtain _ | k1 := gk
 ·exact absurd HA.1 (by simp [net_targets.l0])
 have H := HA.1
 clear HA
 simp only [net_targets.l0] at H
 by_cases c2 : x8_1 < (l0.length : Int)
 rotate_left
 ·rw [if_neg c2] at H
  have c2b0 : decide (x8_1 < (l0.length : Int)) = false := decide_eq_false c2
  clear c2
  obtain rfl := Option.some.inj H
  go_wp2
  go_ret
  exact ⟨_, per, by (with_reducible repeat (first | apply Kd.R_alloc | apply Kd.R_drewN | apply Kd.R_drew)); exact HO_3.1, pbg⟩
 rw [if_pos c2] at H
 have c2b0 : decide (x8_1 < (l0.length : Int)) = true := decide_eq_true c2
 clear c2
 replace H := ifp H
 obtain ⟨c3, H⟩ := H
 have c3b0 := decide_eq_true c3
 clear c3
 replace H := ifp H
 obtain ⟨c4, H⟩ := H
 have c4b0 := decide_eq_true c4
 clear c4
 replace H := ifp H
 obtain ⟨c5, H⟩ := H
 have LMc5 := am c5
 clear c5
 obtain ⟨y191, hy191⟩ : ∃ y_ : List Int, y_ = (x3_1 ++ [(rd_T43 l0 x8_1).f0]) := ⟨_, rfl⟩
 replace H : (net_targets.l0 k1 y191 l0 (l0.length : Int) (wrap64 (x8_1 + 1))) = some r := hrp hy191 H
 have Ny191 := am hy191
 clear hy191
 have H' := am H
 clear H
 obtain ⟨p189, q189, ad189, e189, hx189_0, hx189_1⟩ := bT43 HR0.1 HB.1 x8_1
 cases e189
 go_wp2_with (first | ((with_reducible refine gate_dst (N := 5) rfl ?_); refine box_ev (N := 5) (cs := #[.int .i64 0, .int .i64 0]) (t := 43) ?_; intro gb190 hg w6 hbox hb; have BK190 := am hbox; have GW190 := gwl hg; have GE190 := GW190; replace HO_3 := rbw HO_3 hb; replace HB := bsl hb; clear hb hbox hg; have z7 := cf2 BK190.1) | ((with_reducible refine gate_builtin (b := .append) (xs := #[.tmp 12, .tmp 15]) rfl ?_); at_builtin; refine Kd.R_append (Kd.int .i64) (w0 := w) w.heap.size rfl (.tmp 12) (.tmp 15) 37 3 (.int .i64 0) 8 rfl Try.underlying37 info3 rfl (by decide) (by omega) u3 x3_1 ((rd_T43 l0 x8_1).f0) [.int .i64 ((rd_T43 l0 x8_1).f0)] (fun _ => True) (fun _ => False) rfl (by first | (go_simp; done) | (go_simp; rfl)) ?aP (fun _ hk => hk.elim) ?aF ?aO ?aB ?aS ?aL ?_; (case aP => exact rfl); (case aB => exact pbg); (case aF => exact (fun _ _ => trivial)); (case aO => exact (by (with_reducible repeat (first | apply Kd.R_alloc | apply Kd.R_drewN | apply Kd.R_drew)); exact Kd.R_mono (Kd.R_far (p := ⟨gb190, 1, none⟩) (Kd.R_far (p := ⟨gb190, 0, none⟩) (Kd.R_types HO_3.1 BK190.1 (by decide)) (fun _ hk => hk.2) (.int .i64 ((rd_T43 l0 x8_1).f0))) (fun _ hk => hk.2) (.int .i64 ((rd_T43 l0 x8_1).f1))) (fun _ hk => trivial))); (case aS => exact (below_size pbg)); (case aL => have := LMc5.1; omega); intro v192 w8 ho hb hg hat; rw [← Ny191.1] at ho; have HO193 := am ho; replace BK190 := am (blk_grown (g := gb190) (o := .cells #[.int .i64 ((rd_T43 l0 x8_1).f0), .int .i64 ((rd_T43 l0 x8_1).f1)] 43 (0, 0)) (by (with_reducible repeat (first | refine blk_drewN ?_ _ | refine blk_drew ?_ | refine blk_alloc ?_ _)); exact bp2 (pbk BK190.1)) hg (Kd.R_ne HO_3.1 BK190.1 (by decide))); replace HB := am hb; clear HO_3; clear ho hb hg hat))
 go_roundg k1
 case measure => have := HK1.1; omega
 case rel => exact ⟨(y191), (wrap64 (x8_1 + 1)), prs, H', ⟨by have := HK1.1; omega⟩, ⟨pkr HO193.1⟩, ⟨pbg⟩⟩

/-! ### r48_Same: function 28 -/
def r48_Same.l0 : Nat → List ByteArray → List ByteArray → Int → Option (Bool)
 | 0, _, _, _ => none
 | k + 1, x0, x1, x5 => if x5 < (x0.length : Int) then (if 0 ≤ x5 then (if x5 < (x1.length : Int) then (if (rdOf ByteArray.empty x0 x5).toList = (rdOf ByteArray.empty x1 x5).toList then (r48_Same.l0 k x0 x1 (wrap64 (x5 + 1))) else (some false)) else (none)) else (none)) else (some true)
def r48_Same.f (k : Nat) (l0 : List ByteArray) (l1 : List ByteArray) : Option (Bool) := if (l0.length : Int) = (l1.length : Int) then (r48_Same.l0 k l0 l1 0) else (some false)
theorem r48_Same.mono_l : ∀ k, M3 r48_Same.l0 k
 | 0 => fun _ _ _ r h => by simp [r48_Same.l0] at h
 | k + 1 => by
  have ih0 := r48_Same.mono_l k
  ·intro y0 y1 y2
   unfold r48_Same.l0
   repeat' first | (with_reducible first | apply ih0 | apply lr | apply ln | apply li | refine lb ?_ fun _ => ?_)
theorem r48_Same.mono : ∀ a0 a1 k, LeO (r48_Same.f k a0 a1) (r48_Same.f (k + 1) a0 a1) := by
 intro a0 a1 k
 have ih0 := r48_Same.mono_l k
 unfold r48_Same.f
 repeat' first | (with_reducible first | apply ih0 | apply lr | apply ln | apply li | refine lb ?_ fun _ => ?_)
set_option maxHeartbeats 8000000 in
set_option maxRecDepth 100000 in
theorem r48_Same.calls (k : Nat) (A0 : Option Addr) (c0 : Nat) (l0 : List ByteArray) (A1 : Option Addr) (c1 : Nat) (l1 : List ByteArray) (r : Bool) (w : World) (hr0 : Kd.C Kd.string w A0 l0.length l0) (hc0 : l0.length ≤ c0) (hr1 : Kd.C Kd.string w A1 l1.length l1) (hc1 : l1.length ≤ c1) (h : r48_Same.f k l0 l1 = some r) :
  Calls Try.prog 28 #[.slice A0 l0.length c0, .slice A1 l1.length c1] w fun e w' => e = .returned (.bool r) ∧ Drawn0 w w' := by
 have HR0 := am hr0
 have HC0 := am hc0
 clear hr0 hc0
 have HR1 := am hr1
 have HC1 := am hc1
 clear hr1 hc1
 have H : (if (l0.length : Int) = (l1.length : Int) then (r48_Same.l0 k l0 l1 0) else (some false)) = some r := h
 clear h
 by_cases c3 : (l0.length : Int) = (l1.length : Int)
 rotate_left
 ·rw [if_neg c3] at H
  have c3b0 : ((l0.length : Int) == (l1.length : Int)) = false := beq_eq_false_iff_ne.mpr c3
  have c3b1 : ((l0.length : Int) != (l1.length : Int)) = true := bne_iff_ne.mpr c3
  have c3b2 : (l0.length == l1.length) = false := by first | simpa using c3 | (simp at c3 ⊢; omega)
  obtain rfl := Option.some.inj H
  go_enter Try.func28, Try.ntmps28
  go_wp2
  repeat (go_quiet (fail); try go_wp2)
  go_ret
  exact ⟨prs, pdr⟩
 rw [if_pos c3] at H
 have c3b0 : ((l0.length : Int) == (l1.length : Int)) = true := beq_iff_eq.mpr c3
 have c3b1 : ((l0.length : Int) != (l1.length : Int)) = false := bne_eq_false_iff_eq.mpr c3
 have c3b2 : (l0.length == l1.length) = true := by first | simpa using c3 | (simp at c3 ⊢; omega)
 clear c3
 have H' := am H
 clear H
 go_enter Try.func28, Try.ntmps28
 go_wp2
 repeat (go_quiet (fail); try go_wp2)
 go_loopg [5] k (fun kq v5 w' => ∃ (x5_1 : Int), v5 = .int .i64 x5_1 ∧ Aside0 (r48_Same.l0 kq l0 l1 x5_1 = some r) ∧ Aside0 (kq ≤ k) ∧ Drawn0 w w')
 case atStart => exact ⟨(0), prs, H', ⟨Nat.le_refl _⟩, pdr⟩
 clear H'
 try clear c1 c3 c3b0 c3b1 c3b2
 obtain ⟨x5_1, rfl, HA, HK1, ⟨m1, rfl⟩⟩ := hrel
 obtain _ | k1 := gk
 ·exact absurd HA.1 (by simp [r48_Same.l0])
 have H := HA.1
 clear HA
 simp only [r48_Same.l0] at H
 by_cases c4 : x5_1 < (l0.length : Int)
 rotate_left
 ·rw [if_neg c4] at H
  have c4b0 : decide (x5_1 < (l0.length : Int)) = false := decide_eq_false c4
  clear c4
  obtain rfl := Option.some.inj H
  go_wp2
  repeat (go_quiet (fail); try go_wp2)
  go_ret
  exact ⟨prs, pdr⟩
 rw [if_pos c4] at H
 have c4b0 : decide (x5_1 < (l0.length : Int)) = true := decide_eq_true c4
 clear c4
 replace H := ifp H
 obtain ⟨c5, H⟩ := H
 have c5b0 := decide_eq_true c5
 clear c5
 replace H := ifp H
 obtain ⟨c6, H⟩ := H
 have c6b0 := decide_eq_true c6
 clear c6
 by_cases c7 : (rdOf ByteArray.empty l0 x5_1).toList = (rdOf ByteArray.empty l1 x5_1).toList
 rotate_left
 ·rw [if_neg c7] at H
  have c7b0 : ((rdOf ByteArray.empty l0 x5_1).toList == (rdOf ByteArray.empty l1 x5_1).toList) = false := beq_eq_false_iff_ne.mpr c7
  have c7b1 : ((rdOf ByteArray.empty l0 x5_1).toList != (rdOf ByteArray.empty l1 x5_1).toList) = true := bne_iff_ne.mpr c7
  obtain rfl := Option.some.inj H
  obtain ⟨p215, q215, ad215, e215, hx215_0⟩ := dstring HR0.1 x5_1
  cases e215
  obtain ⟨p216, q216, ad216, e216, hx216_0⟩ := dstring HR1.1 x5_1
  cases e216
  go_wp2
  repeat (go_quiet (fail); try go_wp2)
  go_ret
  exact ⟨prs, pdr⟩
 rw [if_pos c7] at H
 have c7b0 : ((rdOf ByteArray.empty l0 x5_1).toList == (rdOf ByteArray.empty l1 x5_1).toList) = true := beq_iff_eq.mpr c7
 have c7b1 : ((rdOf ByteArray.empty l0 x5_1).toList != (rdOf ByteArray.empty l1 x5_1).toList) = false := bne_eq_false_iff_eq.mpr c7
 clear c7
 have H' := am H
 clear H
 obtain ⟨p215, q215, ad215, e215, hx215_0⟩ := dstring HR0.1 x5_1
 cases e215
 obtain ⟨p216, q216, ad216, e216, hx216_0⟩ := dstring HR1.1 x5_1
 cases e216
 go_wp2
 repeat (go_quiet (fail); try go_wp2)
 go_roundg k1
 case measure => have := HK1.1; omega
 case rel => exact ⟨(wrap64 (x5_1 + 1)), prs, H', ⟨by have := HK1.1; omega⟩, pdr⟩

/-! ### net_weight: function 93 -/
def net_weight.l0 : Nat → Int → List (S43) → Int → Int → Option (Int)
 | 0, _, _, _, _ => none
 | k + 1, x1, x7, x8, x9 => if x9 < x8 then (if 0 ≤ x9 then (if x9 < (x7.length : Int) then (if ((rd_T43 x7 x9).f0) = x1 then (some ((rd_T43 x7 x9).f1)) else (net_weight.l0 k x1 x7 x8 (wrap64 (x9 + 1)))) else (none)) else (none)) else (some 0)
def net_weight.f (k : Nat) (l0 : List (S43)) (a1 : Int) : Option (Int) := net_weight.l0 k a1 l0 (l0.length : Int) 0
theorem net_weight.mono_l : ∀ k, M4 net_weight.l0 k
 | 0 => fun _ _ _ _ r h => by simp [net_weight.l0] at h
 | k + 1 => by
  have ih0 := net_weight.mono_l k
  ·intro y0 y1 y2 y3
   unfold net_weight.l0
   repeat' first | (with_reducible first | apply ih0 | apply lr | apply ln | apply li | refine lb ?_ fun _ => ?_)
theorem net_weight.mono : ∀ a0 a1 k, LeO (net_weight.f k a0 a1) (net_weight.f (k + 1) a0 a1) := by
 intro a0 a1 k
 have ih0 := net_weight.mono_l k
 unfold net_weight.f
 repeat' first | (with_reducible first | apply ih0 | apply lr | apply ln | apply li | refine lb ?_ fun _ => ?_)
set_option maxHeartbeats 8000000 in
set_option maxRecDepth 100000 in
theorem net_weight.calls (k : Nat) (A0 : Option Addr) (c0 : Nat) (l0 : List (S43)) (a1 : Int) (r : Int) (w : World) (hr0 : Kd.C k43 w A0 l0.length l0) (hc0 : l0.length ≤ c0) (h : net_weight.f k l0 a1 = some r) :
  Calls Try.prog 93 #[.slice A0 l0.length c0, .int .i64 a1] w fun e w' => e = .returned (.int .i64 r) ∧ Below w.heap.size w w' := by
 have hu43 := Try.underlying43
 have HR0 := am hr0
 have HC0 := am hc0
 clear hr0 hc0
 have HB := am (Below.refl w.heap.size w)
 have H : (net_weight.l0 k a1 l0 (l0.length : Int) 0) = some r := h
 clear h
 have H' := am H
 clear H
 go_enter Try.func93, Try.ntmps93
 go_wp2
 go_loopg [9] k (fun kq v9 w' => ∃ (x9_1 : Int), v9 = .int .i64 x9_1 ∧ Aside0 (net_weight.l0 kq a1 l0 (l0.length : Int) x9_1 = some r) ∧ Aside0 (kq ≤ k) ∧ Aside0 (Below w.heap.size w w'))
 case atStart => exact ⟨(0), prs, H', ⟨Nat.le_refl _⟩, ⟨pbg⟩⟩
 clear H'
 obtain ⟨x9_1, rfl, HA, HK1, HB⟩ := hrel
 obtain _ | k1 := gk
 ·exact absurd HA.1 (by simp [net_weight.l0])
 have H := HA.1
 clear HA
 simp only [net_weight.l0] at H
 by_cases c3 : x9_1 < (l0.length : Int)
 rotate_left
 ·rw [if_neg c3] at H
  have c3b0 : decide (x9_1 < (l0.length : Int)) = false := decide_eq_false c3
  clear c3
  obtain rfl := Option.some.inj H
  go_wp2
  go_ret
  exact ⟨per, pbg⟩
 rw [if_pos c3] at H
 have c3b0 : decide (x9_1 < (l0.length : Int)) = true := decide_eq_true c3
 clear c3
 replace H := ifp H
 obtain ⟨c4, H⟩ := H
 have c4b0 := decide_eq_true c4
 clear c4
 replace H := ifp H
 obtain ⟨c5, H⟩ := H
 have c5b0 := decide_eq_true c5
 clear c5
 by_cases c6 : ((rd_T43 l0 x9_1).f0) = a1
 ·rw [if_pos c6] at H
  have c6b0 : (((rd_T43 l0 x9_1).f0) == a1) = true := beq_iff_eq.mpr c6
  have c6b1 : (((rd_T43 l0 x9_1).f0) != a1) = false := bne_eq_false_iff_eq.mpr c6
  clear c6
  obtain rfl := Option.some.inj H
  obtain ⟨p236, q236, ad236, e236, hx236_0, hx236_1⟩ := bT43 HR0.1 HB.1 x9_1
  cases e236
  go_wp2_with (first | ((with_reducible refine gate_dst (N := 6) rfl ?_); refine box_ev (N := 6) (cs := #[.int .i64 0, .int .i64 0]) (t := 43) ?_; intro gb237 hg w7 hbox hb; have BK237 := am hbox; have GW237 := gwl hg; have GE237 := GW237; replace HB := bsl hb; clear hb hbox hg; have z8 := cf2 BK237.1))
  go_ret
  exact ⟨per, pbg⟩
 rw [if_neg c6] at H
 have c6b0 : (((rd_T43 l0 x9_1).f0) == a1) = false := beq_eq_false_iff_ne.mpr c6
 have c6b1 : (((rd_T43 l0 x9_1).f0) != a1) = true := bne_iff_ne.mpr c6
 have H' := am H
 clear H
 obtain ⟨p236, q236, ad236, e236, hx236_0, hx236_1⟩ := bT43 HR0.1 HB.1 x9_1
 cases e236
 go_wp2_with (first | ((with_reducible refine gate_dst (N := 6) rfl ?_); refine box_ev (N := 6) (cs := #[.int .i64 0, .int .i64 0]) (t := 43) ?_; intro gb237 hg w9 hbox hb; have BK237 := am hbox; have GW237 := gwl hg; have GE237 := GW237; replace HB := bsl hb; clear hb hbox hg; have z10 := cf2 BK237.1))
 go_roundg k1
 case measure => have := HK1.1; omega
 case rel => exact ⟨(wrap64 (x9_1 + 1)), prs, H', ⟨by have := HK1.1; omega⟩, ⟨pbg⟩⟩

/-! ### netclass_within: function 52 -/
def netclass_within.l0 : Nat → List Int → List Int → Int → Int → Option (Bool)
 | 0, _, _, _, _ => none
 | k + 1, x1, x7, x8, x9 => if x9 < x8 then (if 0 ≤ x9 then (if x9 < (x7.length : Int) then ((netclass_among.f k x1 (rd x7 x9)).bind fun t247 => (if t247 = true then (netclass_within.l0 k x1 x7 x8 (wrap64 (x9 + 1))) else (some false))) else (none)) else (none)) else (some true)
def netclass_within.f (k : Nat) (l0 : List Int) (l1 : List Int) : Option (Bool) := netclass_within.l0 k l1 l0 (l0.length : Int) 0
theorem netclass_within.mono_l : ∀ k, M4 netclass_within.l0 k
 | 0 => fun _ _ _ _ r h => by simp [netclass_within.l0] at h
 | k + 1 => by
  have ih0 := netclass_within.mono_l k
  ·intro y0 y1 y2 y3
   unfold netclass_within.l0
   repeat' first | (with_reducible first | apply ih0 | apply netclass_among.mono | apply lr | apply ln | apply li | refine lb ?_ fun _ => ?_)
theorem netclass_within.mono : ∀ a0 a1 k, LeO (netclass_within.f k a0 a1) (netclass_within.f (k + 1) a0 a1) := by
 intro a0 a1 k
 have ih0 := netclass_within.mono_l k
 unfold netclass_within.f
 repeat' first | (with_reducible first | apply ih0 | apply netclass_among.mono | apply lr | apply ln | apply li | refine lb ?_ fun _ => ?_)
set_option maxHeartbeats 8000000 in
set_option maxRecDepth 100000 in
theorem netclass_within.calls (k : Nat) (A0 : Option Addr) (c0 : Nat) (l0 : List Int) (A1 : Option Addr) (c1 : Nat) (l1 : List Int) (r : Bool) (w : World) (hr0 : Kd.C (Kd.int .i64) w A0 l0.length l0) (hc0 : l0.length ≤ c0) (hr1 : Kd.C (Kd.int .i64) w A1 l1.length l1) (hc1 : l1.length ≤ c1) (h : netclass_within.f k l0 l1 = some r) :
  Calls Try.prog 52 #[.slice A0 l0.length c0, .slice A1 l1.length c1] w fun e w' => e = .returned (.bool r) ∧ Drawn0 w w' := by
 have HR0 := am hr0
 have HC0 := am hc0
 clear hr0 hc0
 have HR1 := am hr1
 have HC1 := am hc1
 clear hr1 hc1
 have H : (netclass_within.l0 k l1 l0 (l0.length : Int) 0) = some r := h
 clear h
 have H' := am H
 clear H
 go_enter Try.func52, Try.ntmps52
 go_wp2
 go_loopg [9] k (fun kq v9 w' => ∃ (x9_1 : Int), v9 = .int .i64 x9_1 ∧ Aside0 (netclass_within.l0 kq l1 l0 (l0.length : Int) x9_1 = some r) ∧ Aside0 (kq ≤ k) ∧ Drawn0 w w')
 case atStart => exact ⟨(0), prs, H', ⟨Nat.le_refl _⟩, pdr⟩
 clear H'
 try clear c1
 obtain ⟨x9_1, rfl, HA, HK1, ⟨m1, rfl⟩⟩ := hrel
 obtain _ | k1 := gk
 ·exact absurd HA.1 (by simp [netclass_within.l0])
 have H := HA.1
 clear HA
 simp only [netclass_within.l0] at H
 by_cases c3 : x9_1 < (l0.length : Int)
 rotate_left
 ·rw [if_neg c3] at H
  have c3b0 : decide (x9_1 < (l0.length : Int)) = false := decide_eq_false c3
  clear c3
  obtain rfl := Option.some.inj H
  go_wp2
  go_ret
  exact ⟨prs, pdr⟩
 rw [if_pos c3] at H
 have c3b0 : decide (x9_1 < (l0.length : Int)) = true := decide_eq_true c3
 clear c3
 replace H := ifp H
 obtain ⟨c4, H⟩ := H
 have c4b0 := decide_eq_true c4
 clear c4
 replace H := ifp H
 obtain ⟨c5, H⟩ := H
 have c5b0 := decide_eq_true c5
 clear c5
 replace H := bnd H
 obtain ⟨t247, A6, H⟩ := H
 (try dsimp only at H)
 by_cases c7 : t247 = true
 rotate_left
 ·replace c7 := Bool.eq_false_iff.mpr c7
  subst c7
  rw [if_neg Bool.false_ne_true] at H
  obtain rfl := Option.some.inj H
  obtain ⟨p246, q246, ad246, e246, hx246_0⟩ := dint HR0.1 x9_1
  cases e246
  go_wp2_with (first | ((with_reducible refine gate_callee (f := 80) rfl ?_); refine gC 15 Try.func80 _ (netclass_among.calls k1 _ _ l1 (rd l0 x9_1) false _ (csd HR1.1) HC1.1 A6.1) ?_; rintro e w' ⟨rfl, ⟨nd, rfl⟩⟩; refine ⟨_, rfl, ?_⟩))
  go_ret
  exact ⟨prs, pdr⟩
 subst c7
 rw [if_pos rfl] at H
 have H' := am H
 clear H
 obtain ⟨p246, q246, ad246, e246, hx246_0⟩ := dint HR0.1 x9_1
 cases e246
 go_wp2_with (first | ((with_reducible refine gate_callee (f := 80) rfl ?_); refine gC 15 Try.func80 _ (netclass_among.calls k1 _ _ l1 (rd l0 x9_1) true _ (csd HR1.1) HC1.1 A6.1) ?_; rintro e w' ⟨rfl, ⟨nd, rfl⟩⟩; refine ⟨_, rfl, ?_⟩))
 go_roundg k1
 case measure => have := HK1.1; omega
 case rel => exact ⟨(wrap64 (x9_1 + 1)), prs, H', ⟨by have := HK1.1; omega⟩, pdr⟩

/-! ### netclass_FreeChoice_1: function 51 -/
def netclass_FreeChoice_1.f (k : Nat) (l0 : List Int) (l1 : List Int) : Option (Bool) := (netclass_within.f k l0 l1).bind fun t248 => (if t248 = true then ((netclass_within.f k l1 l0).bind fun t249 => (some t249)) else (some false))
theorem netclass_FreeChoice_1.mono : ∀ a0 a1 k, LeO (netclass_FreeChoice_1.f k a0 a1) (netclass_FreeChoice_1.f (k + 1) a0 a1) := by
 intro a0 a1 k
 unfold netclass_FreeChoice_1.f
 repeat' first | (with_reducible first | apply netclass_within.mono | apply lr | apply ln | apply li | refine lb ?_ fun _ => ?_)
set_option maxHeartbeats 8000000 in
set_option maxRecDepth 100000 in
theorem netclass_FreeChoice_1.calls (k : Nat) (A0 : Option Addr) (c0 : Nat) (l0 : List Int) (A1 : Option Addr) (c1 : Nat) (l1 : List Int) (r : Bool) (w : World) (hr0 : Kd.C (Kd.int .i64) w A0 l0.length l0) (hc0 : l0.length ≤ c0) (hr1 : Kd.C (Kd.int .i64) w A1 l1.length l1) (hc1 : l1.length ≤ c1) (h : netclass_FreeChoice_1.f k l0 l1 = some r) :
  Calls Try.prog 51 #[.slice A0 l0.length c0, .slice A1 l1.length c1] w fun e w' => e = .returned (.bool r) ∧ Drawn0 w w' := by
 have HR0 := am hr0
 have HC0 := am hc0
 clear hr0 hc0
 have HR1 := am hr1
 have HC1 := am hc1
 clear hr1 hc1
 have H : ((netclass_within.f k l0 l1).bind fun t248 => (if t248 = true then ((netclass_within.f k l1 l0).bind fun t249 => (some t249)) else (some false))) = some r := h
 clear h
 replace H := bnd H
 obtain ⟨t248, A3, H⟩ := H
 (try dsimp only at H)
 by_cases c4 : t248 = true
 rotate_left
 ·replace c4 := Bool.eq_false_iff.mpr c4
  subst c4
  rw [if_neg Bool.false_ne_true] at H
  obtain rfl := Option.some.inj H
  go_enter Try.func51, Try.ntmps51
  go_wp2_with (first | ((with_reducible refine gate_callee (f := 52) rfl ?_); refine gC 7 Try.func52 _ (netclass_within.calls k _ _ l0 _ _ l1 false _ (csd HR0.1) HC0.1 (csd HR1.1) HC1.1 A3.1) ?_; rintro e w' ⟨rfl, ⟨nd, rfl⟩⟩; refine ⟨_, rfl, ?_⟩))
  go_ret
  exact ⟨prs, pdr⟩
 subst c4
 rw [if_pos rfl] at H
 replace H := bnd H
 obtain ⟨t249, A5, H⟩ := H
 (try dsimp only at H)
 obtain rfl := Option.some.inj H
 go_enter Try.func51, Try.ntmps51
 go_wp2_with (first | ((with_reducible refine gate_callee (f := 52) rfl ?_); refine gC 7 Try.func52 _ (netclass_within.calls k _ _ l0 _ _ l1 true _ (csd HR0.1) HC0.1 (csd HR1.1) HC1.1 A3.1) ?_; rintro e w' ⟨rfl, ⟨nd, rfl⟩⟩; refine ⟨_, rfl, ?_⟩) | (go_at_call 52; (with_reducible refine (netclass_within.calls k _ _ l1 _ _ l0 t249 _ ?side1 ?side2 ?side3 ?side4 A5.1).mono ?_); (case side1 => exact csd HR1.1); (case side2 => exact HC1.1); (case side3 => exact csd HR0.1); (case side4 => exact HC0.1); rintro e w' ⟨rfl, ⟨nd, rfl⟩⟩))
 go_ret
 exact ⟨prs, pdr⟩

/-! ### netclass_Asymmetric_1: function 55 -/
def netclass_Asymmetric_1.f (k : Nat) (l0 : List Int) (l1 : List Int) : Option (Bool) := (netclass_within.f k l0 l1).bind fun t262 => (if t262 = true then (some true) else ((netclass_within.f k l1 l0).bind fun t263 => (some t263)))
theorem netclass_Asymmetric_1.mono : ∀ a0 a1 k, LeO (netclass_Asymmetric_1.f k a0 a1) (netclass_Asymmetric_1.f (k + 1) a0 a1) := by
 intro a0 a1 k
 unfold netclass_Asymmetric_1.f
 repeat' first | (with_reducible first | apply netclass_within.mono | apply lr | apply ln | apply li | refine lb ?_ fun _ => ?_)
set_option maxHeartbeats 8000000 in
set_option maxRecDepth 100000 in
theorem netclass_Asymmetric_1.calls (k : Nat) (A0 : Option Addr) (c0 : Nat) (l0 : List Int) (A1 : Option Addr) (c1 : Nat) (l1 : List Int) (r : Bool) (w : World) (hr0 : Kd.C (Kd.int .i64) w A0 l0.length l0) (hc0 : l0.length ≤ c0) (hr1 : Kd.C (Kd.int .i64) w A1 l1.length l1) (hc1 : l1.length ≤ c1) (h : netclass_Asymmetric_1.f k l0 l1 = some r) :
  Calls Try.prog 55 #[.slice A0 l0.length c0, .slice A1 l1.length c1] w fun e w' => e = .returned (.bool r) ∧ Drawn0 w w' := by
 have HR0 := am hr0
 have HC0 := am hc0
 clear hr0 hc0
 have HR1 := am hr1
 have HC1 := am hc1
 clear hr1 hc1
 have H : ((netclass_within.f k l0 l1).bind fun t262 => (if t262 = true then (some true) else ((netclass_within.f k l1 l0).bind fun t263 => (some t263)))) = some r := h
 clear h
 replace H := bnd H
 obtain ⟨t262, A3, H⟩ := H
 (try dsimp only at H)
 by_cases c4 : t262 = true
 ·subst c4
  rw [if_pos rfl] at H
  obtain rfl := Option.some.inj H
  go_enter Try.func55, Try.ntmps55
  go_wp2_with (first | ((with_reducible refine gate_callee (f := 52) rfl ?_); refine gC 7 Try.func52 _ (netclass_within.calls k _ _ l0 _ _ l1 true _ (csd HR0.1) HC0.1 (csd HR1.1) HC1.1 A3.1) ?_; rintro e w' ⟨rfl, ⟨nd, rfl⟩⟩; refine ⟨_, rfl, ?_⟩))
  go_ret
  exact ⟨prs, pdr⟩
 replace c4 := Bool.eq_false_iff.mpr c4
 subst c4
 rw [if_neg Bool.false_ne_true] at H
 replace H := bnd H
 obtain ⟨t263, A5, H⟩ := H
 (try dsimp only at H)
 obtain rfl := Option.some.inj H
 go_enter Try.func55, Try.ntmps55
 go_wp2_with (first | ((with_reducible refine gate_callee (f := 52) rfl ?_); refine gC 7 Try.func52 _ (netclass_within.calls k _ _ l0 _ _ l1 false _ (csd HR0.1) HC0.1 (csd HR1.1) HC1.1 A3.1) ?_; rintro e w' ⟨rfl, ⟨nd, rfl⟩⟩; refine ⟨_, rfl, ?_⟩) | (go_at_call 52; (with_reducible refine (netclass_within.calls k _ _ l1 _ _ l0 t263 _ ?side1 ?side2 ?side3 ?side4 A5.1).mono ?_); (case side1 => exact csd HR1.1); (case side2 => exact HC1.1); (case side3 => exact csd HR0.1); (case side4 => exact HC0.1); rintro e w' ⟨rfl, ⟨nd, rfl⟩⟩))
 go_ret
 exact ⟨prs, pdr⟩

/-! ### petrinetlaw13_ring: function 36 -/
def petrinetlaw13_ring.f  : Option (ByteArray × (List (S46)) × (List (S41))) := some ((⟨#[110]⟩ : ByteArray), (([(⟨(⟨#[112]⟩ : ByteArray), 1, 0⟩ : S46)] : List (S46))), (([(⟨(⟨#[116]⟩ : ByteArray), (([(⟨0, 1⟩ : S43)] : List (S43))), (([(⟨0, 1⟩ : S43)] : List (S43))), ([] : List (S43)), 0⟩ : S41)] : List (S41))))
set_option maxHeartbeats 8000000 in
set_option maxRecDepth 100000 in
theorem petrinetlaw13_ring.calls  (r1 : ByteArray) (r2 : List (S46)) (r3 : List (S41)) (w : World) (h : petrinetlaw13_ring.f  = some (r1, r2, r3)) :
  Calls Try.prog 36 #[] w fun e w' => ∃ v1_ v2_ : Value, e = .returned (.agg #[.string r1, v1_, v2_]) ∧ Kd.R k46 46 w' w.heap.size (fun k_ => (w.heap.size ≤ k_)) v1_ r2 ∧ Kd.N k41 41 w' w.heap.size (fun k_ => (w.heap.size ≤ k_) ∧ some k_ ≠ (v1_ : Value).ownBlock) v2_ r3 ∧ Below w.heap.size w w' := by
 have hu25 := Try.underlying25
 have hu46 := Try.underlying46
 have hu43 := Try.underlying43
 have hu41 := Try.underlying41
 have HB := am (Below.refl w.heap.size w)
 have H : (some ((⟨#[110]⟩ : ByteArray), (([(⟨(⟨#[112]⟩ : ByteArray), 1, 0⟩ : S46)] : List (S46))), (([(⟨(⟨#[116]⟩ : ByteArray), (([(⟨0, 1⟩ : S43)] : List (S43))), (([(⟨0, 1⟩ : S43)] : List (S43))), ([] : List (S43)), 0⟩ : S41)] : List (S41))))) = some (r1, r2, r3) := h
 clear h
 obtain ⟨y277, hy277⟩ : ∃ y_ : List (S46), y_ = (([(⟨(⟨#[112]⟩ : ByteArray), 1, 0⟩ : S46)] : List (S46))) := ⟨_, rfl⟩
 replace H : (some ((⟨#[110]⟩ : ByteArray), y277, (([(⟨(⟨#[116]⟩ : ByteArray), (([(⟨0, 1⟩ : S43)] : List (S43))), (([(⟨0, 1⟩ : S43)] : List (S43))), ([] : List (S43)), 0⟩ : S41)] : List (S41))))) = some (r1, r2, r3) := hrp hy277 H
 have Ny277 := am hy277
 clear hy277
 obtain ⟨y280, hy280⟩ : ∃ y_ : List (S43), y_ = (([(⟨0, 1⟩ : S43)] : List (S43))) := ⟨_, rfl⟩
 replace H : (some ((⟨#[110]⟩ : ByteArray), y277, (([(⟨(⟨#[116]⟩ : ByteArray), y280, (([(⟨0, 1⟩ : S43)] : List (S43))), ([] : List (S43)), 0⟩ : S41)] : List (S41))))) = some (r1, r2, r3) := hrp hy280 H
 have Ny280 := am hy280
 clear hy280
 obtain ⟨y283, hy283⟩ : ∃ y_ : List (S43), y_ = (([(⟨0, 1⟩ : S43)] : List (S43))) := ⟨_, rfl⟩
 replace H : (some ((⟨#[110]⟩ : ByteArray), y277, (([(⟨(⟨#[116]⟩ : ByteArray), y280, y283, ([] : List (S43)), 0⟩ : S41)] : List (S41))))) = some (r1, r2, r3) := hrp hy283 H
 have Ny283 := am hy283
 clear hy283
 obtain ⟨y286, hy286⟩ : ∃ y_ : List (S41), y_ = (([(⟨(⟨#[116]⟩ : ByteArray), y280, y283, ([] : List (S43)), 0⟩ : S41)] : List (S41))) := ⟨_, rfl⟩
 replace H : (some ((⟨#[110]⟩ : ByteArray), y277, y286)) = some (r1, r2, r3) := hrp hy286 H
 have Ny286 := am hy286
 clear hy286
 simp only [Option.some.injEq, Prod.mk.injEq] at H
 obtain ⟨rfl, rfl, rfl⟩ := H
 go_enter Try.func36, Try.ntmps36
 go_wp2_with (first | ((with_reducible refine gate_dst (N := 0) rfl ?_); refine box_ev (N := 0) (cs := #[.string (⟨#[]⟩ : ByteArray), .slice none 0 0, .slice none 0 0]) (t := 25) ?_; intro gb276 hg w1 hbox hb; have BK276 := am hbox; have GW276 := gwl hg; have GE276 := GW276; replace HB := bsl hb; clear hb hbox hg) | ((with_reducible refine gate_dst (N := 2) rfl ?_); refine Kd.R_lit k46 _ 46 ?hg (N := 2) ?hd (xs := ([(⟨(⟨#[112]⟩ : ByteArray), 1, 0⟩ : S46)] : List (S46))) (inner := [.string (⟨#[112]⟩ : ByteArray), .int .i64 1, .int .i64 0]) (ok := fun _ => True) (okp := fun _ => True) ?hr ?hp (fun _ hk => hk) trivial (Below.refl _ _) (Nat.le_refl _) (by simp) ?_; (case hd => rfl); (case hg => rfl); (case hr => first | (go_simp; done) | (go_simp; rfl)); (case hp => exact (Reps.c3 (show Kd.M k46 _ _ _ (⟨(⟨#[112]⟩ : ByteArray), 1, 0⟩ : S46) [.string (⟨#[112]⟩ : ByteArray), .int .i64 1, .int .i64 0] from (k46_mkM _ _ _ (⟨(⟨#[112]⟩ : ByteArray), 1, 0⟩ : S46) )) (Reps.none _ _))); intro v278 w2 ho3 hb hg_ hnew_; clear hg_ hnew_; (first | rw [← Ny277.1] at ho3 | (simp only [Int.reduceToNat] at ho3; rw [← Ny277.1] at ho3)); have HO279 := am (Kd.R_lower (Kd.R_newM (M := fun k_ => (w.heap.size ≤ k_)) ho3 (below_size pbg) (fun k_ h_ => h_)) (below_size pbg)); replace BK276 := bbh BK276 hb; replace HB := bst hb; clear hb ho3) | ((with_reducible refine gate_dst (N := 4) rfl ?_); refine Kd.R_lit k43 _ 43 ?hg (N := 4) ?hd (xs := ([(⟨0, 1⟩ : S43)] : List (S43))) (inner := [.int .i64 0, .int .i64 1]) (ok := fun _ => True) (okp := fun _ => True) ?hr ?hp (fun _ hk => hk) trivial (Below.refl _ _) (Nat.le_refl _) (by simp) ?_; (case hd => rfl); (case hg => rfl); (case hr => first | (go_simp; done) | (go_simp; rfl)); (case hp => exact (Reps.c2 (show Kd.M k43 _ _ _ (⟨0, 1⟩ : S43) [.int .i64 0, .int .i64 1] from (k43_mkM _ _ _ (⟨0, 1⟩ : S43) )) (Reps.none _ _))); intro v281 w4 ho5 hb hg_ hnew_; clear hg_ hnew_; (first | rw [← Ny280.1] at ho5 | (simp only [Int.reduceToNat] at ho5; rw [← Ny280.1] at ho5)); have HO282 := am (Kd.R_lower (Kd.R_newM (M := fun k_ => (w.heap.size ≤ k_)) ho5 (below_size pbg) (fun k_ h_ => h_)) (below_size pbg)); replace HO279 := rbw HO279 hb; replace BK276 := bbh BK276 hb; replace HB := bst hb; clear hb ho5) | ((with_reducible refine gate_dst (N := 6) rfl ?_); refine Kd.R_lit k43 _ 43 ?hg (N := 6) ?hd (xs := ([(⟨0, 1⟩ : S43)] : List (S43))) (inner := [.int .i64 0, .int .i64 1]) (ok := fun _ => True) (okp := fun _ => True) ?hr ?hp (fun _ hk => hk) trivial (Below.refl _ _) (Nat.le_refl _) (by simp) ?_; (case hd => rfl); (case hg => rfl); (case hr => first | (go_simp; done) | (go_simp; rfl)); (case hp => exact (Reps.c2 (show Kd.M k43 _ _ _ (⟨0, 1⟩ : S43) [.int .i64 0, .int .i64 1] from (k43_mkM _ _ _ (⟨0, 1⟩ : S43) )) (Reps.none _ _))); intro v284 w6 ho7 hb hg_ hnew_; clear hg_ hnew_; (first | rw [← Ny283.1] at ho7 | (simp only [Int.reduceToNat] at ho7; rw [← Ny283.1] at ho7)); have HO285 := am (Kd.R_lower (Kd.R_new' (Kd.R_newM (M := fun k_ => (w.heap.size ≤ k_)) ho7 (below_size pbg) (fun k_ h_ => h_)) (Kd.R_lt (pkr HO282.1))) (below_size pbg)); replace HO279 := rbw HO279 hb; replace HO282 := am (Kd.R_elder' (pkr HO282.1) (Kd.R_base ho7) hb); replace BK276 := bbh BK276 hb; replace HB := bst hb; clear hb ho7; obtain ⟨Ao8, co8, eo8⟩ := Kd.R_slice HO285.1; subst eo8; obtain ⟨Ao9, co9, eo9⟩ := Kd.R_slice HO282.1; subst eo9) | ((with_reducible refine gate_dst (N := 8) rfl ?_); refine Kd.N_lit k41 _ 41 ?hg (N' := 8) ?hd (xs := ([(⟨(⟨#[116]⟩ : ByteArray), y280, y283, ([] : List (S43)), 0⟩ : S41)] : List (S41))) (inner := [.string (⟨#[116]⟩ : ByteArray), .slice Ao9 y280.length co9, .slice Ao8 y283.length co8, .slice none 0 0, .int .i64 0]) (ok := (fun k_ => (w.heap.size ≤ k_) ∧ some k_ ≠ (v278 : Value).ownBlock ∧ k_ ≠ gb276)) (okp := (fun k_ => (w.heap.size ≤ k_) ∧ some k_ ≠ (v278 : Value).ownBlock ∧ k_ ≠ gb276)) ?hr ?hp (fun _ hk => hk) ((show ∀ k_, w6.heap.size ≤ k_ → (fun k_ => (w.heap.size ≤ k_) ∧ some k_ ≠ (v278 : Value).ownBlock ∧ k_ ≠ gb276) k_ from fun k_ hk => ⟨(Nat.le_trans (below_size pbg) hk), Kd.fresh' (Kd.R_lt (pkr HO279.1)) k_ hk, Kd.freshB (g := gb276) (o := .cells #[.string (⟨#[]⟩ : ByteArray), .slice none 0 0, .slice none 0 0] 25 (0, 0)) (by exact pbk BK276.1) k_ hk⟩) _ (Nat.le_refl _)) (Below.refl _ _) (Nat.le_refl _) (by simp) ?_; (case hd => rfl); (case hg => rfl); (case hr => first | (go_simp; done) | (go_simp; rfl)); (case hp => exact (Reps.c5 (show Kd.FK k41 _ _ (⟨(⟨#[116]⟩ : ByteArray), y280, y283, ([] : List (S43)), 0⟩ : S41) [.string (⟨#[116]⟩ : ByteArray), .slice Ao9 y280.length co9, .slice Ao8 y283.length co8, .slice none 0 0, .int .i64 0] from (k41_mkF _ _ (⟨(⟨#[116]⟩ : ByteArray), y280, y283, ([] : List (S43)), 0⟩ : S41) (Kd.R_reads' (Kd.R_mono (ok' := (fun k_ => (w.heap.size ≤ k_) ∧ some k_ ≠ (v278 : Value).ownBlock ∧ k_ ≠ gb276)) (Kd.R_types (Kd.R_apart' (HO282.1) (Kd.R_typed HO279.1) (by decide)) BK276.1 (by decide)) (fun k_ hk => ⟨hk.1.1.1.1, ⟨hk.1.2, hk.2⟩⟩))).2.1 (Kd.R_F (Kd.R_mono (ok' := (fun k_ => (w.heap.size ≤ k_) ∧ some k_ ≠ (v278 : Value).ownBlock ∧ k_ ≠ gb276)) (Kd.R_types (Kd.R_apart' (HO282.1) (Kd.R_typed HO279.1) (by decide)) BK276.1 (by decide)) (fun k_ hk => ⟨hk.1.1.1.1, ⟨hk.1.2, hk.2⟩⟩))) (Kd.R_reads' (Kd.R_mono (ok' := (fun k_ => (w.heap.size ≤ k_) ∧ some k_ ≠ (v278 : Value).ownBlock ∧ k_ ≠ gb276)) (Kd.R_types (Kd.R_apart' (HO285.1) (Kd.R_typed HO279.1) (by decide)) BK276.1 (by decide)) (fun k_ hk => ⟨hk.1.1.1.1, ⟨hk.1.2, hk.2⟩⟩))).2.1 (Kd.R_F (Kd.R_mono (ok' := (fun k_ => (w.heap.size ≤ k_) ∧ some k_ ≠ (v278 : Value).ownBlock ∧ k_ ≠ gb276)) (Kd.R_types (Kd.R_apart' (HO285.1) (Kd.R_typed HO279.1) (by decide)) BK276.1 (by decide)) (fun k_ hk => ⟨hk.1.1.1.1, ⟨hk.1.2, hk.2⟩⟩))) (Nat.le_refl _) (Kd.F_nil _ _ _))) (Reps.none _ _))); intro v287 w10 ho11 hb hg_ hnew_; clear hg_ hnew_; (first | rw [← Ny286.1] at ho11 | (simp only [Int.reduceToNat] at ho11; rw [← Ny286.1] at ho11)); have HO288 := am (Kd.N_lower ho11 (below_size pbg)); replace HO279 := rbw HO279 hb; replace BK276 := bbh BK276 hb; replace HB := bst hb; (try clear HO282 HO285); clear hb ho11; obtain ⟨Ao12, co12, eo12⟩ := Kd.N_slice HO288.1; subst eo12; obtain ⟨Ao13, co13, eo13⟩ := Kd.R_slice HO279.1; subst eo13; have z14 := cf3 BK276.1))
 refine bodyPost_ret (results_cell_row rfl _ _ gb276 25 #[.string (⟨#[110]⟩ : ByteArray), .slice Ao13 y277.length co13, .slice Ao12 y286.length co12] (0, 0) _ rfl (by (with_reducible repeat (first | refine blk_drewN ?_ _ | refine blk_drew ?_ | refine blk_alloc ?_ _)); exact bp3 (pbk BK276.1)) Try.underlying25 rfl (by kernel_rfl)) rfl ?_
 exact ⟨_, _, per, by (with_reducible repeat (first | apply Kd.R_alloc | apply Kd.R_drewN | apply Kd.R_drew)); exact Kd.R_mono (Kd.R_far (p := ⟨gb276, 2, none⟩) (Kd.R_far (p := ⟨gb276, 1, none⟩) (Kd.R_far (p := ⟨gb276, 0, none⟩) (Kd.R_types HO279.1 BK276.1 (by decide)) (fun _ hk => hk.2) _) (fun _ hk => hk.2) _) (fun _ hk => hk.2) _) (fun _ hk => hk.1.1), by (with_reducible repeat (first | apply Kd.N_alloc | apply Kd.N_drewN | apply Kd.N_drew)); exact Kd.N_mono (Kd.N_far (p := ⟨gb276, 2, none⟩) (Kd.N_far (p := ⟨gb276, 1, none⟩) (Kd.N_far (p := ⟨gb276, 0, none⟩) (Kd.N_mono HO288.1 (fun k_ hk => (⟨hk, hk.2.2⟩ : _ ∧ k_ ≠ gb276))) (fun _ hk => hk.2) _) (fun _ hk => hk.2) _) (fun _ hk => hk.2) _) (fun _ hk => ⟨hk.1.1, hk.1.2.1⟩), pbg⟩

end Go.Proofs.Ytplljicodflagaa.P
