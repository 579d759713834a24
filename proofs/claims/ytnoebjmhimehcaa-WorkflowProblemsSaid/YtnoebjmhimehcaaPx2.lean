-- LAID BY OUR PROGRAM OVER THE PRINT (xprint.py, part.py): Lean checks it.
import Derived.Test.YtnoebjmhimehcaaPx0
namespace Go.Proofs.Ytnoebjmhimehcaa.P
open Go.RowKit Go.Proofs.YtnoebjmhimehcaaW.PrintWords Go.Proofs.YtnoebjmhimehcaaW.PrintLast Go.Proofs.YtnoebjmhimehcaaW.PrintMore
attribute [local go_sem] max2_int min2_int max_two min_two max_three min_three max_four min_four   -- for this text's walks alone
set_option linter.unusedVariables false
set_option linter.unusedSimpArgs false

/-! ### r09_Name: function 65 -/
mutual
def r09_Name.j0 : Nat → ByteArray → Bool → Option (Bool)
 | 0, _, _ => none
 | k + 1, x0, x14 => if x14 = true then (some false) else (r09_Name.l0 k x0 0)
def r09_Name.l0 : Nat → ByteArray → Int → Option (Bool)
 | 0, _, _ => none
 | k + 1, x0, x3 => if x3 < (x0.size : Int) then (if 0 ≤ x3 then (if (bt x0 x3) ≥ 97 then (if (bt x0 x3) ≤ 122 then (if (bt x0 x3) ≥ 48 then (if (bt x0 x3) ≤ 57 then (r09_Name.l0 k x0 (wrap64 (x3 + 1))) else (r09_Name.l0 k x0 (wrap64 (x3 + 1)))) else (r09_Name.l0 k x0 (wrap64 (x3 + 1)))) else (if (bt x0 x3) ≥ 48 then (if (bt x0 x3) ≤ 57 then (if ((bt x0 x3) = 95) then (r09_Name.l0 k x0 (wrap64 (x3 + 1))) else (if x3 = 0 then (some false) else (r09_Name.l0 k x0 (wrap64 (x3 + 1))))) else (if ((bt x0 x3) = 95) then (r09_Name.l0 k x0 (wrap64 (x3 + 1))) else (if ((bt x0 x3) = 46) then (if x3 = 0 then (some false) else (r09_Name.l0 k x0 (wrap64 (x3 + 1)))) else (some false)))) else (if ((bt x0 x3) = 95) then (r09_Name.l0 k x0 (wrap64 (x3 + 1))) else (if ((bt x0 x3) = 46) then (if x3 = 0 then (some false) else (r09_Name.l0 k x0 (wrap64 (x3 + 1)))) else (some false))))) else (if (bt x0 x3) ≥ 48 then (if (bt x0 x3) ≤ 57 then (if ((bt x0 x3) = 95) then (r09_Name.l0 k x0 (wrap64 (x3 + 1))) else (if x3 = 0 then (some false) else (r09_Name.l0 k x0 (wrap64 (x3 + 1))))) else (if ((bt x0 x3) = 95) then (r09_Name.l0 k x0 (wrap64 (x3 + 1))) else (if ((bt x0 x3) = 46) then (if x3 = 0 then (some false) else (r09_Name.l0 k x0 (wrap64 (x3 + 1)))) else (some false)))) else (if ((bt x0 x3) = 95) then (r09_Name.l0 k x0 (wrap64 (x3 + 1))) else (if ((bt x0 x3) = 46) then (if x3 = 0 then (some false) else (r09_Name.l0 k x0 (wrap64 (x3 + 1)))) else (some false))))) else (none)) else (some true)
end
def r09_Name.f (k : Nat) (a0 : ByteArray) : Option (Bool) := if (a0.size : Int) < 1 then (r09_Name.j0 k a0 true) else (r09_Name.j0 k a0 (decide ((a0.size : Int) > 16)))
theorem r09_Name.mono_l : ∀ k, M2 r09_Name.j0 k ∧ M2 r09_Name.l0 k
 | 0 => ⟨fun _ _ r h => by simp [r09_Name.j0] at h, fun _ _ r h => by simp [r09_Name.l0] at h⟩
 | k + 1 => by
  obtain ⟨ih0, ih1⟩ := r09_Name.mono_l k
  refine ⟨?_, ?_⟩ <;> dsimp only [M2] <;> intros <;> (first | unfold r09_Name.j0 | unfold r09_Name.l0) <;> repeat' first | (with_reducible first | apply ih0 | apply ih1 | apply lr | apply ln | apply li | refine lb ?_ fun _ => ?_)
theorem r09_Name.mono : ∀ a0 k, LeO (r09_Name.f k a0) (r09_Name.f (k + 1) a0) := by
 intro a0 k
 obtain ⟨ih0, ih1⟩ := r09_Name.mono_l k
 unfold r09_Name.f
 repeat' first | (with_reducible first | apply ih0 | apply ih1 | apply lr | apply ln | apply li | refine lb ?_ fun _ => ?_)
set_option maxHeartbeats 8000000 in
set_option maxRecDepth 100000 in
theorem r09_Name.calls (k : Nat) (a0 : ByteArray) (r : Bool) (w : World) (h : r09_Name.f k a0 = some r) :
  Calls Try.prog 65 #[.string a0] w fun e w' => e = .returned (.bool r) ∧ Drawn0 w w' := by
 have H : (if (a0.size : Int) < 1 then (r09_Name.j0 k a0 true) else (r09_Name.j0 k a0 (decide ((a0.size : Int) > 16)))) = some r := h
 clear h
 have HC2 := am H
 clear H
 go_enter Try.func65, Try.ntmps65
 go_upto_region 1 with (fail)
 go_cut [14] (fun v14 wc => ∃ (kq : Nat) (x14_1 : Bool), v14 = .bool x14_1 ∧ Aside0 (r09_Name.j0 kq a0 x14_1 = some r) ∧ Aside0 (kq ≤ k) ∧ Drawn0 w wc)
 case first =>
  have H := HC2.1
  clear HC2
  by_cases c3 : (a0.size : Int) < 1
  ·rw [if_pos c3] at H
   have c3b0 : decide ((a0.size : Int) < 1) = true := decide_eq_true c3
   have c3b1 : decide (a0.size < 1) = true := decide_eq_true (by omega)
   clear c3
   (first | rw [c3b0] | (simp only [i64_w, i32_w]; rw [c3b0]) | skip)
   have H' := am H
   clear H
   go_wp2
   go_meet
   case rel => exact ⟨_, (true), prs, H', ⟨by first | omega | exact Nat.le_refl _⟩, pdr⟩
  rw [if_neg c3] at H
  have c3b0 : decide ((a0.size : Int) < 1) = false := decide_eq_false c3
  have c3b1 : decide (a0.size < 1) = false := decide_eq_false (by omega)
  clear c3
  (first | rw [c3b0] | (simp only [i64_w, i32_w]; rw [c3b0]) | skip)
  have H' := am H
  clear H
  go_wp2
  go_meet
  case rel => exact ⟨_, (decide ((a0.size : Int) > 16)), prs, H', ⟨by first | omega | exact Nat.le_refl _⟩, pdr⟩
 clear HC2
 try clear c3 c3b0 c3b1
 obtain ⟨kq, x14_1, rfl, HA, HJ1, ⟨mc1, rfl⟩⟩ := hcut
 obtain _ | kj1 := kq
 ·exact absurd HA.1 (by simp [r09_Name.j0])
 have H := HA.1
 clear HA
 simp only [r09_Name.j0] at H
 by_cases c4 : x14_1 = true
 ·subst c4
  rw [if_pos rfl] at H
  obtain rfl := Option.some.inj H
  go_wp2
  go_ret
  exact ⟨prs, pdr⟩
 replace c4 := Bool.eq_false_iff.mpr c4
 subst c4
 rw [if_neg Bool.false_ne_true] at H
 have H' := am H
 clear H
 go_wp2
 go_loopg [3] kj1 (fun kq v3 w' => ∃ (x3_2 : Int), v3 = .int .i64 x3_2 ∧ Aside0 (r09_Name.l0 kq a0 x3_2 = some r) ∧ Aside0 (kq ≤ kj1) ∧ Drawn0 w w')
 case atStart => exact ⟨(0), prs, H', ⟨Nat.le_refl _⟩, pdr⟩
 clear H'
 try clear c3 c3b0 c3b1 c4
 obtain ⟨x3_2, rfl, HA, HK2, ⟨m2, rfl⟩⟩ := hrel
 obtain _ | k2 := gk
 ·exact absurd HA.1 (by simp [r09_Name.l0])
 have H := HA.1
 clear HA
 simp only [r09_Name.l0] at H
 by_cases c5 : x3_2 < (a0.size : Int)
 rotate_left
 ·rw [if_neg c5] at H
  have c5b0 : decide (x3_2 < (a0.size : Int)) = false := decide_eq_false c5
  clear c5
  obtain rfl := Option.some.inj H
  go_wp2
  go_ret
  exact ⟨prs, pdr⟩
 rw [if_pos c5] at H
 have c5b0 : decide (x3_2 < (a0.size : Int)) = true := decide_eq_true c5
 clear c5
 replace H := ifp H
 obtain ⟨c6, H⟩ := H
 have c6b0 := decide_eq_true c6
 clear c6
 by_cases c8 : (bt a0 x3_2) ≥ 97
 rotate_left
 ·rw [if_neg c8] at H
  have c8b0 : decide (97 ≤ (bt a0 x3_2)) = false := decide_eq_false c8
  clear c8
  by_cases c22 : (bt a0 x3_2) ≥ 48
  rotate_left
  ·rw [if_neg c22] at H
   have c22b0 : decide (48 ≤ (bt a0 x3_2)) = false := decide_eq_false c22
   clear c22
   by_cases c29 : ((bt a0 x3_2) = 95)
   ·rw [if_pos c29] at H
    have c29b0 : ((bt a0 x3_2) == 95) = true := beq_iff_eq.mpr c29
    have c29b1 : ((bt a0 x3_2) != 95) = false := bne_eq_false_iff_eq.mpr c29
    clear c29
    have H' := am H
    clear H
    obtain ⟨p7, q7, hx7⟩ := dbt a0 x3_2
    go_wp2
    go_roundg k2
    case measure => have := HJ1.1; have := HK2.1; omega
    case rel => exact ⟨(wrap64 (x3_2 + 1)), prs, H', ⟨by have := HJ1.1; have := HK2.1; omega⟩, pdr⟩
   rw [if_neg c29] at H
   have c29b0 : ((bt a0 x3_2) == 95) = false := beq_eq_false_iff_ne.mpr c29
   have c29b1 : ((bt a0 x3_2) != 95) = true := bne_iff_ne.mpr c29
   by_cases c30 : ((bt a0 x3_2) = 46)
   rotate_left
   ·rw [if_neg c30] at H
    have c30b0 : ((bt a0 x3_2) == 46) = false := beq_eq_false_iff_ne.mpr c30
    have c30b1 : ((bt a0 x3_2) != 46) = true := bne_iff_ne.mpr c30
    obtain rfl := Option.some.inj H
    obtain ⟨p7, q7, hx7⟩ := dbt a0 x3_2
    go_wp2
    go_ret
    exact ⟨prs, pdr⟩
   rw [if_pos c30] at H
   have c30b0 : ((bt a0 x3_2) == 46) = true := beq_iff_eq.mpr c30
   have c30b1 : ((bt a0 x3_2) != 46) = false := bne_eq_false_iff_eq.mpr c30
   clear c30
   by_cases c31 : x3_2 = 0
   ·rw [if_pos c31] at H
    have c31b0 : (x3_2 == 0) = true := beq_iff_eq.mpr c31
    have c31b1 : (x3_2 != 0) = false := bne_eq_false_iff_eq.mpr c31
    clear c31
    obtain rfl := Option.some.inj H
    obtain ⟨p7, q7, hx7⟩ := dbt a0 x3_2
    go_wp2
    go_ret
    exact ⟨prs, pdr⟩
   rw [if_neg c31] at H
   have c31b0 : (x3_2 == 0) = false := beq_eq_false_iff_ne.mpr c31
   have c31b1 : (x3_2 != 0) = true := bne_iff_ne.mpr c31
   have H' := am H
   clear H
   obtain ⟨p7, q7, hx7⟩ := dbt a0 x3_2
   go_wp2
   go_roundg k2
   case measure => have := HJ1.1; have := HK2.1; omega
   case rel => exact ⟨(wrap64 (x3_2 + 1)), prs, H', ⟨by have := HJ1.1; have := HK2.1; omega⟩, pdr⟩
  rw [if_pos c22] at H
  have c22b0 : decide (48 ≤ (bt a0 x3_2)) = true := decide_eq_true c22
  clear c22
  by_cases c23 : (bt a0 x3_2) ≤ 57
  ·rw [if_pos c23] at H
   have c23b0 : decide ((bt a0 x3_2) ≤ 57) = true := decide_eq_true c23
   clear c23
   by_cases c24 : ((bt a0 x3_2) = 95)
   ·rw [if_pos c24] at H
    have c24b0 : ((bt a0 x3_2) == 95) = true := beq_iff_eq.mpr c24
    have c24b1 : ((bt a0 x3_2) != 95) = false := bne_eq_false_iff_eq.mpr c24
    clear c24
    have H' := am H
    clear H
    obtain ⟨p7, q7, hx7⟩ := dbt a0 x3_2
    go_wp2
    go_roundg k2
    case measure => have := HJ1.1; have := HK2.1; omega
    case rel => exact ⟨(wrap64 (x3_2 + 1)), prs, H', ⟨by have := HJ1.1; have := HK2.1; omega⟩, pdr⟩
   rw [if_neg c24] at H
   have c24b0 : ((bt a0 x3_2) == 95) = false := beq_eq_false_iff_ne.mpr c24
   have c24b1 : ((bt a0 x3_2) != 95) = true := bne_iff_ne.mpr c24
   by_cases c25 : x3_2 = 0
   ·rw [if_pos c25] at H
    have c25b0 : (x3_2 == 0) = true := beq_iff_eq.mpr c25
    have c25b1 : (x3_2 != 0) = false := bne_eq_false_iff_eq.mpr c25
    clear c25
    obtain rfl := Option.some.inj H
    obtain ⟨p7, q7, hx7⟩ := dbt a0 x3_2
    go_wp2
    go_ret
    exact ⟨prs, pdr⟩
   rw [if_neg c25] at H
   have c25b0 : (x3_2 == 0) = false := beq_eq_false_iff_ne.mpr c25
   have c25b1 : (x3_2 != 0) = true := bne_iff_ne.mpr c25
   have H' := am H
   clear H
   obtain ⟨p7, q7, hx7⟩ := dbt a0 x3_2
   go_wp2
   go_roundg k2
   case measure => have := HJ1.1; have := HK2.1; omega
   case rel => exact ⟨(wrap64 (x3_2 + 1)), prs, H', ⟨by have := HJ1.1; have := HK2.1; omega⟩, pdr⟩
  rw [if_neg c23] at H
  have c23b0 : decide ((bt a0 x3_2) ≤ 57) = false := decide_eq_false c23
  clear c23
  by_cases c26 : ((bt a0 x3_2) = 95)
  ·rw [if_pos c26] at H
   have c26b0 : ((bt a0 x3_2) == 95) = true := beq_iff_eq.mpr c26
   have c26b1 : ((bt a0 x3_2) != 95) = false := bne_eq_false_iff_eq.mpr c26
   clear c26
   have H' := am H
   clear H
   obtain ⟨p7, q7, hx7⟩ := dbt a0 x3_2
   go_wp2
   go_roundg k2
   case measure => have := HJ1.1; have := HK2.1; omega
   case rel => exact ⟨(wrap64 (x3_2 + 1)), prs, H', ⟨by have := HJ1.1; have := HK2.1; omega⟩, pdr⟩
  rw [if_neg c26] at H
  have c26b0 : ((bt a0 x3_2) == 95) = false := beq_eq_false_iff_ne.mpr c26
  have c26b1 : ((bt a0 x3_2) != 95) = true := bne_iff_ne.mpr c26
  by_cases c27 : ((bt a0 x3_2) = 46)
  rotate_left
  ·rw [if_neg c27] at H
   have c27b0 : ((bt a0 x3_2) == 46) = false := beq_eq_false_iff_ne.mpr c27
   have c27b1 : ((bt a0 x3_2) != 46) = true := bne_iff_ne.mpr c27
   obtain rfl := Option.some.inj H
   obtain ⟨p7, q7, hx7⟩ := dbt a0 x3_2
   go_wp2
   go_ret
   exact ⟨prs, pdr⟩
  rw [if_pos c27] at H
  have c27b0 : ((bt a0 x3_2) == 46) = true := beq_iff_eq.mpr c27
  have c27b1 : ((bt a0 x3_2) != 46) = false := bne_eq_false_iff_eq.mpr c27
  clear c27
  by_cases c28 : x3_2 = 0
  ·rw [if_pos c28] at H
   have c28b0 : (x3_2 == 0) = true := beq_iff_eq.mpr c28
   have c28b1 : (x3_2 != 0) = false := bne_eq_false_iff_eq.mpr c28
   clear c28
   obtain rfl := Option.some.inj H
   obtain ⟨p7, q7, hx7⟩ := dbt a0 x3_2
   go_wp2
   go_ret
   exact ⟨prs, pdr⟩
  rw [if_neg c28] at H
  have c28b0 : (x3_2 == 0) = false := beq_eq_false_iff_ne.mpr c28
  have c28b1 : (x3_2 != 0) = true := bne_iff_ne.mpr c28
  have H' := am H
  clear H
  obtain ⟨p7, q7, hx7⟩ := dbt a0 x3_2
  go_wp2
  go_roundg k2
  case measure => have := HJ1.1; have := HK2.1; omega
  case rel => exact ⟨(wrap64 (x3_2 + 1)), prs, H', ⟨by have := HJ1.1; have := HK2.1; omega⟩, pdr⟩
 rw [if_pos c8] at H
 have c8b0 : decide (97 ≤ (bt a0 x3_2)) = true := decide_eq_true c8
 clear c8
 by_cases c9 : (bt a0 x3_2) ≤ 122
 ·rw [if_pos c9] at H
  have c9b0 : decide ((bt a0 x3_2) ≤ 122) = true := decide_eq_true c9
  clear c9
  by_cases c10 : (bt a0 x3_2) ≥ 48
  rotate_left
  ·rw [if_neg c10] at H
   have c10b0 : decide (48 ≤ (bt a0 x3_2)) = false := decide_eq_false c10
   clear c10
   have H' := am H
   clear H
   obtain ⟨p7, q7, hx7⟩ := dbt a0 x3_2
   go_wp2
   go_roundg k2
   case measure => have := HJ1.1; have := HK2.1; omega
   case rel => exact ⟨(wrap64 (x3_2 + 1)), prs, H', ⟨by have := HJ1.1; have := HK2.1; omega⟩, pdr⟩
  rw [if_pos c10] at H
  have c10b0 : decide (48 ≤ (bt a0 x3_2)) = true := decide_eq_true c10
  clear c10
  by_cases c11 : (bt a0 x3_2) ≤ 57
  ·rw [if_pos c11] at H
   have c11b0 : decide ((bt a0 x3_2) ≤ 57) = true := decide_eq_true c11
   clear c11
   have H' := am H
   clear H
   obtain ⟨p7, q7, hx7⟩ := dbt a0 x3_2
   go_wp2
   go_roundg k2
   case measure => have := HJ1.1; have := HK2.1; omega
   case rel => exact ⟨(wrap64 (x3_2 + 1)), prs, H', ⟨by have := HJ1.1; have := HK2.1; omega⟩, pdr⟩
  rw [if_neg c11] at H
  have c11b0 : decide ((bt a0 x3_2) ≤ 57) = false := decide_eq_false c11
  clear c11
  have H' := am H
  clear H
  obtain ⟨p7, q7, hx7⟩ := dbt a0 x3_2
  go_wp2
  go_roundg k2
  case measure => have := HJ1.1; have := HK2.1; omega
  case rel => exact ⟨(wrap64 (x3_2 + 1)), prs, H', ⟨by have := HJ1.1; have := HK2.1; omega⟩, pdr⟩
 rw [if_neg c9] at H
 have c9b0 : decide ((bt a0 x3_2) ≤ 122) = false := decide_eq_false c9
 clear c9
 by_cases c12 : (bt a0 x3_2) ≥ 48
 rotate_left
 ·rw [if_neg c12] at H
  have c12b0 : decide (48 ≤ (bt a0 x3_2)) = false := decide_eq_false c12
  clear c12
  by_cases c19 : ((bt a0 x3_2) = 95)
  ·rw [if_pos c19] at H
   have c19b0 : ((bt a0 x3_2) == 95) = true := beq_iff_eq.mpr c19
   have c19b1 : ((bt a0 x3_2) != 95) = false := bne_eq_false_iff_eq.mpr c19
   clear c19
   have H' := am H
   clear H
   obtain ⟨p7, q7, hx7⟩ := dbt a0 x3_2
   go_wp2
   go_roundg k2
   case measure => have := HJ1.1; have := HK2.1; omega
   case rel => exact ⟨(wrap64 (x3_2 + 1)), prs, H', ⟨by have := HJ1.1; have := HK2.1; omega⟩, pdr⟩
  rw [if_neg c19] at H
  have c19b0 : ((bt a0 x3_2) == 95) = false := beq_eq_false_iff_ne.mpr c19
  have c19b1 : ((bt a0 x3_2) != 95) = true := bne_iff_ne.mpr c19
  by_cases c20 : ((bt a0 x3_2) = 46)
  rotate_left
  ·rw [if_neg c20] at H
   have c20b0 : ((bt a0 x3_2) == 46) = false := beq_eq_false_iff_ne.mpr c20
   have c20b1 : ((bt a0 x3_2) != 46) = true := bne_iff_ne.mpr c20
   obtain rfl := Option.some.inj H
   obtain ⟨p7, q7, hx7⟩ := dbt a0 x3_2
   go_wp2
   go_ret
   exact ⟨prs, pdr⟩
  rw [if_pos c20] at H
  have c20b0 : ((bt a0 x3_2) == 46) = true := beq_iff_eq.mpr c20
  have c20b1 : ((bt a0 x3_2) != 46) = false := bne_eq_false_iff_eq.mpr c20
  clear c20
  by_cases c21 : x3_2 = 0
  ·rw [if_pos c21] at H
   have c21b0 : (x3_2 == 0) = true := beq_iff_eq.mpr c21
   have c21b1 : (x3_2 != 0) = false := bne_eq_false_iff_eq.mpr c21
   clear c21
   obtain rfl := Option.some.inj H
   obtain ⟨p7, q7, hx7⟩ := dbt a0 x3_2
   go_wp2
   go_ret
   exact ⟨prs, pdr⟩
  rw [if_neg c21] at H
  have c21b0 : (x3_2 == 0) = false := beq_eq_false_iff_ne.mpr c21
  have c21b1 : (x3_2 != 0) = true := bne_iff_ne.mpr c21
  have H' := am H
  clear H
  obtain ⟨p7, q7, hx7⟩ := dbt a0 x3_2
  go_wp2
  go_roundg k2
  case measure => have := HJ1.1; have := HK2.1; omega
  case rel => exact ⟨(wrap64 (x3_2 + 1)), prs, H', ⟨by have := HJ1.1; have := HK2.1; omega⟩, pdr⟩
 rw [if_pos c12] at H
 have c12b0 : decide (48 ≤ (bt a0 x3_2)) = true := decide_eq_true c12
 clear c12
 by_cases c13 : (bt a0 x3_2) ≤ 57
 ·rw [if_pos c13] at H
  have c13b0 : decide ((bt a0 x3_2) ≤ 57) = true := decide_eq_true c13
  clear c13
  by_cases c14 : ((bt a0 x3_2) = 95)
  ·rw [if_pos c14] at H
   have c14b0 : ((bt a0 x3_2) == 95) = true := beq_iff_eq.mpr c14
   have c14b1 : ((bt a0 x3_2) != 95) = false := bne_eq_false_iff_eq.mpr c14
   clear c14
   have H' := am H
   clear H
   obtain ⟨p7, q7, hx7⟩ := dbt a0 x3_2
   go_wp2
   go_roundg k2
   case measure => have := HJ1.1; have := HK2.1; omega
   case rel => exact ⟨(wrap64 (x3_2 + 1)), prs, H', ⟨by have := HJ1.1; have := HK2.1; omega⟩, pdr⟩
  rw [if_neg c14] at H
  have c14b0 : ((bt a0 x3_2) == 95) = false := beq_eq_false_iff_ne.mpr c14
  have c14b1 : ((bt a0 x3_2) != 95) = true := bne_iff_ne.mpr c14
  by_cases c15 : x3_2 = 0
  ·rw [if_pos c15] at H
   have c15b0 : (x3_2 == 0) = true := beq_iff_eq.mpr c15
   have c15b1 : (x3_2 != 0) = false := bne_eq_false_iff_eq.mpr c15
   clear c15
   obtain rfl := Option.some.inj H
   obtain ⟨p7, q7, hx7⟩ := dbt a0 x3_2
   go_wp2
   go_ret
   exact ⟨prs, pdr⟩
  rw [if_neg c15] at H
  have c15b0 : (x3_2 == 0) = false := beq_eq_false_iff_ne.mpr c15
  have c15b1 : (x3_2 != 0) = true := bne_iff_ne.mpr c15
  have H' := am H
  clear H
  obtain ⟨p7, q7, hx7⟩ := dbt a0 x3_2
  go_wp2
  go_roundg k2
  case measure => have := HJ1.1; have := HK2.1; omega
  case rel => exact ⟨(wrap64 (x3_2 + 1)), prs, H', ⟨by have := HJ1.1; have := HK2.1; omega⟩, pdr⟩
 rw [if_neg c13] at H
 have c13b0 : decide ((bt a0 x3_2) ≤ 57) = false := decide_eq_false c13
 clear c13
 by_cases c16 : ((bt a0 x3_2) = 95)
 ·rw [if_pos c16] at H
  have c16b0 : ((bt a0 x3_2) == 95) = true := beq_iff_eq.mpr c16
  have c16b1 : ((bt a0 x3_2) != 95) = false := bne_eq_false_iff_eq.mpr c16
  clear c16
  have H' := am H
  clear H
  obtain ⟨p7, q7, hx7⟩ := dbt a0 x3_2
  go_wp2
  go_roundg k2
  case measure => have := HJ1.1; have := HK2.1; omega
  case rel => exact ⟨(wrap64 (x3_2 + 1)), prs, H', ⟨by have := HJ1.1; have := HK2.1; omega⟩, pdr⟩
 rw [if_neg c16] at H
 have c16b0 : ((bt a0 x3_2) == 95) = false := beq_eq_false_iff_ne.mpr c16
 have c16b1 : ((bt a0 x3_2) != 95) = true := bne_iff_ne.mpr c16
 by_cases c17 : ((bt a0 x3_2) = 46)
 rotate_left
 ·rw [if_neg c17] at H
  have c17b0 : ((bt a0 x3_2) == 46) = false := beq_eq_false_iff_ne.mpr c17
  have c17b1 : ((bt a0 x3_2) != 46) = true := bne_iff_ne.mpr c17
  obtain rfl := Option.some.inj H
  obtain ⟨p7, q7, hx7⟩ := dbt a0 x3_2
  go_wp2
  go_ret
  exact ⟨prs, pdr⟩
 rw [if_pos c17] at H
 have c17b0 : ((bt a0 x3_2) == 46) = true := beq_iff_eq.mpr c17
 have c17b1 : ((bt a0 x3_2) != 46) = false := bne_eq_false_iff_eq.mpr c17
 clear c17
 by_cases c18 : x3_2 = 0
 ·rw [if_pos c18] at H
  have c18b0 : (x3_2 == 0) = true := beq_iff_eq.mpr c18
  have c18b1 : (x3_2 != 0) = false := bne_eq_false_iff_eq.mpr c18
  clear c18
  obtain rfl := Option.some.inj H
  obtain ⟨p7, q7, hx7⟩ := dbt a0 x3_2
  go_wp2
  go_ret
  exact ⟨prs, pdr⟩
 rw [if_neg c18] at H
 have c18b0 : (x3_2 == 0) = false := beq_eq_false_iff_ne.mpr c18
 have c18b1 : (x3_2 != 0) = true := bne_iff_ne.mpr c18
 have H' := am H
 clear H
 obtain ⟨p7, q7, hx7⟩ := dbt a0 x3_2
 go_wp2
 go_roundg k2
 case measure => have := HJ1.1; have := HK2.1; omega
 case rel => exact ⟨(wrap64 (x3_2 + 1)), prs, H', ⟨by have := HJ1.1; have := HK2.1; omega⟩, pdr⟩

/-! ### r09_place: function 66 -/
mutual
def r09_place.l0 : Nat → Int → Int → ByteArray → List (S52) → List (S48) → ByteArray → Int → Int → Option (Int)
 | 0, _, _, _, _, _, _, _, _ => none
 | k + 1, x1, x6, x369000, x369001, x369002, x371000, x371001, x371002 => if x6 < x1 then (if 0 ≤ x6 then (if x6 < (x369001.length : Int) then (if ((rd_T52 x369001 x6).f0).toList = x371000.toList then (some 6) else (r09_place.l0 k x1 (wrap64 (x6 + 1)) x369000 x369001 x369002 x371000 x371001 x371002)) else (none)) else (none)) else (if x371002 < 0 then (r09_place.j1 k true x371000 x371001 x371002) else (r09_place.j1 k (decide (x371002 > 1048576)) x371000 x371001 x371002))
def r09_place.j1 : Nat → Bool → ByteArray → Int → Int → Option (Int)
 | 0, _, _, _, _ => none
 | k + 1, x37, x371000, x371001, x371002 => if x37 = true then (some 1) else (if x371001 < 0 then (some 10) else (if x371001 > 1048576 then (some 10) else (if x371002 = 0 then (some 0) else (if x371001 > x371002 then (some 10) else (some 0)))))
end
def r09_place.f (k : Nat) (a0_0 : ByteArray) (l0_1 : List (S52)) (l0_2 : List (S48)) (a1 : Int) : Option (Int) := if 0 ≤ a1 then (if a1 < (l0_1.length : Int) then ((r09_Name.f k ((rd_T52 l0_1 a1).f0)).bind fun t371 => (if t371 = true then (r09_place.l0 k a1 0 a0_0 l0_1 l0_2 ((rd_T52 l0_1 a1).f0) ((rd_T52 l0_1 a1).f1) ((rd_T52 l0_1 a1).f2)) else (some 5))) else (none)) else (none)
theorem r09_place.mono_l : ∀ k, M8 r09_place.l0 k ∧ M4 r09_place.j1 k
 | 0 => ⟨fun _ _ _ _ _ _ _ _ r h => by simp [r09_place.l0] at h, fun _ _ _ _ r h => by simp [r09_place.j1] at h⟩
 | k + 1 => by
  obtain ⟨ih0, ih1⟩ := r09_place.mono_l k
  refine ⟨?_, ?_⟩ <;> dsimp only [M4, M8] <;> intros <;> (first | unfold r09_place.l0 | unfold r09_place.j1) <;> repeat' first | (with_reducible first | apply ih0 | apply ih1 | apply r09_Name.mono | apply lr | apply ln | apply li | refine lb ?_ fun _ => ?_)
theorem r09_place.mono : ∀ a0 a1 a2 a3 k, LeO (r09_place.f k a0 a1 a2 a3) (r09_place.f (k + 1) a0 a1 a2 a3) := by
 intro a0 a1 a2 a3 k
 obtain ⟨ih0, ih1⟩ := r09_place.mono_l k
 unfold r09_place.f
 repeat' first | (with_reducible first | apply ih0 | apply ih1 | apply r09_Name.mono | apply lr | apply ln | apply li | refine lb ?_ fun _ => ?_)
set_option maxHeartbeats 8000000 in
set_option maxRecDepth 100000 in
theorem r09_place.calls (k : Nat) (a0_0 : ByteArray) (A0_1 : Option Addr) (c0_1 : Nat) (l0_1 : List (S52)) (A0_2 : Option Addr) (c0_2 : Nat) (l0_2 : List (S48)) (a1 : Int) (r : Int) (w : World) (hr0_1 : Kd.C k52 w A0_1 l0_1.length l0_1) (hc0_1 : l0_1.length ≤ c0_1) (hr0_2 : Kd.C k48 w A0_2 l0_2.length l0_2) (hc0_2 : l0_2.length ≤ c0_2) (h : r09_place.f k a0_0 l0_1 l0_2 a1 = some r) :
  Calls Try.prog 66 #[.agg #[.string a0_0, .slice A0_1 l0_1.length c0_1, .slice A0_2 l0_2.length c0_2], .int .i64 a1] w fun e w' => e = .returned (.int .i64 r) ∧ Below w.heap.size w w' := by
 have hu25 := Try.underlying25
 have hu52 := Try.underlying52
 have HR0_1 := am hr0_1
 have HC0_1 := am hc0_1
 clear hr0_1 hc0_1
 have HR0_2 := am hr0_2
 have HC0_2 := am hc0_2
 clear hr0_2 hc0_2
 have HB := am (Below.refl w.heap.size w)
 have H : (if 0 ≤ a1 then (if a1 < (l0_1.length : Int) then ((r09_Name.f k ((rd_T52 l0_1 a1).f0)).bind fun t371 => (if t371 = true then (r09_place.l0 k a1 0 a0_0 l0_1 l0_2 ((rd_T52 l0_1 a1).f0) ((rd_T52 l0_1 a1).f1) ((rd_T52 l0_1 a1).f2)) else (some 5))) else (none)) else (none)) = some r := h
 clear h
 replace H := ifp H
 obtain ⟨c3, H⟩ := H
 have c3b0 := decide_eq_true c3
 clear c3
 replace H := ifp H
 obtain ⟨c4, H⟩ := H
 have c4b0 := decide_eq_true c4
 clear c4
 replace H := bnd H
 obtain ⟨t371, A5, H⟩ := H
 (try dsimp only at H)
 by_cases c6 : t371 = true
 rotate_left
 ·replace c6 := Bool.eq_false_iff.mpr c6
  subst c6
  rw [if_neg Bool.false_ne_true] at H
  obtain rfl := Option.some.inj H
  go_enter Try.func66, Try.ntmps66
  iterate 4 (try go_wp2_with (first | ((with_reducible refine gate_dst (N := 2) rfl ?_); refine box_ev (N := 2) (cs := #[.string a0_0, .slice A0_1 l0_1.length c0_1, .slice A0_2 l0_2.length c0_2]) (t := 25) ?_; intro gb368 hg w43 hbox hb; have BK368 := am hbox; have GW368 := gwl hg; have GE368 := GW368; replace HB := bsl hb; clear hb hbox hg; obtain ⟨z44_0, z44_1, z44_2, y44_0, y44_1, y44_2⟩ := cf3 BK368.1; have p369 : 0 ≤ (a1 : Int) := dq; have q369 : a1 < (l0_1.length : Int) := dq; obtain ⟨ad369, e369, hx369_0, hx369_1, hx369_2⟩ := at_T52 HR0_1.1 a1 p369 q369; cases e369; replace hx369_0 := cbl HB.1 hx369_0; replace hx369_1 := cbl HB.1 hx369_1; replace hx369_2 := cbl HB.1 hx369_2; replace p369 := eq_true p369; replace q369 := eq_true q369) | ((with_reducible refine gate_dst (N := 5) rfl ?_); refine box_ev (N := 5) (cs := #[.string (⟨#[]⟩ : ByteArray), .int .i64 0, .int .i64 0]) (t := 52) ?_; intro gb370 hg w45 hbox hb; have BK370 := am hbox; have GW370 := gwb hg; have GE370 := GW370; have NB368_370 := nlt hg BK368; have NB370_368 := ngt hg BK368; replace BK368 := bbh BK368 hb; replace HB := bst hb; clear hb hbox hg; have hnb46 := NB370_368.1; have hnc46 := NB368_370.1; obtain ⟨z47_0, z47_1, z47_2, y47_0, y47_1, y47_2⟩ := cf3 BK370.1) | (go_at_call 65; (with_reducible refine (r09_Name.calls k ((rd_T52 l0_1 a1).f0) false _ A5.1).mono ?_); rintro e w' ⟨rfl, ⟨nd, rfl⟩⟩; (try first | exact ⟨rfl, _, World.drewN_drewN _ _ _⟩ | exact ⟨rfl, _, Eq.trans (World.drewN_drewN _ _ _) (congrArg (World.drewN _) (Nat.add_assoc _ _ _))⟩))); try go_quiet (first | (go_at_call 65; (with_reducible refine (r09_Name.calls k ((rd_T52 l0_1 a1).f0) false _ A5.1).mono ?_); rintro e w' ⟨rfl, ⟨nd, rfl⟩⟩; (try first | exact ⟨rfl, _, World.drewN_drewN _ _ _⟩ | exact ⟨rfl, _, Eq.trans (World.drewN_drewN _ _ _) (congrArg (World.drewN _) (Nat.add_assoc _ _ _))⟩))))
  go_ret
  exact ⟨per, pbg⟩
 subst c6
 rw [if_pos rfl] at H
 have H' := am H
 clear H
 go_enter Try.func66, Try.ntmps66
 iterate 4 (try go_wp2_with (first | ((with_reducible refine gate_dst (N := 2) rfl ?_); refine box_ev (N := 2) (cs := #[.string a0_0, .slice A0_1 l0_1.length c0_1, .slice A0_2 l0_2.length c0_2]) (t := 25) ?_; intro gb368 hg w7 hbox hb; have BK368 := am hbox; have GW368 := gwl hg; have GE368 := GW368; replace HB := bsl hb; clear hb hbox hg; obtain ⟨z8_0, z8_1, z8_2, y8_0, y8_1, y8_2⟩ := cf3 BK368.1; have p369 : 0 ≤ (a1 : Int) := dq; have q369 : a1 < (l0_1.length : Int) := dq; obtain ⟨ad369, e369, hx369_0, hx369_1, hx369_2⟩ := at_T52 HR0_1.1 a1 p369 q369; cases e369; replace hx369_0 := cbl HB.1 hx369_0; replace hx369_1 := cbl HB.1 hx369_1; replace hx369_2 := cbl HB.1 hx369_2; replace p369 := eq_true p369; replace q369 := eq_true q369) | ((with_reducible refine gate_dst (N := 5) rfl ?_); refine box_ev (N := 5) (cs := #[.string (⟨#[]⟩ : ByteArray), .int .i64 0, .int .i64 0]) (t := 52) ?_; intro gb370 hg w9 hbox hb; have BK370 := am hbox; have GW370 := gwb hg; have GE370 := GW370; have NB368_370 := nlt hg BK368; have NB370_368 := ngt hg BK368; replace BK368 := bbh BK368 hb; replace HB := bst hb; clear hb hbox hg; have hnb10 := NB370_368.1; have hnc10 := NB368_370.1; obtain ⟨z11_0, z11_1, z11_2, y11_0, y11_1, y11_2⟩ := cf3 BK370.1) | (go_at_call 65; (with_reducible refine (r09_Name.calls k ((rd_T52 l0_1 a1).f0) true _ A5.1).mono ?_); rintro e w' ⟨rfl, ⟨nd, rfl⟩⟩; (try first | exact ⟨rfl, _, World.drewN_drewN _ _ _⟩ | exact ⟨rfl, _, Eq.trans (World.drewN_drewN _ _ _) (congrArg (World.drewN _) (Nat.add_assoc _ _ _))⟩))); try go_quiet (first | (go_at_call 65; (with_reducible refine (r09_Name.calls k ((rd_T52 l0_1 a1).f0) true _ A5.1).mono ?_); rintro e w' ⟨rfl, ⟨nd, rfl⟩⟩; (try first | exact ⟨rfl, _, World.drewN_drewN _ _ _⟩ | exact ⟨rfl, _, Eq.trans (World.drewN_drewN _ _ _) (congrArg (World.drewN _) (Nat.add_assoc _ _ _))⟩))))
 go_loopg [6] k (fun kq v6 w' => ∃ (x6_1 : Int), v6 = .int .i64 x6_1 ∧ Aside0 (r09_place.l0 kq a1 x6_1 a0_0 l0_1 l0_2 ((rd_T52 l0_1 a1).f0) ((rd_T52 l0_1 a1).f1) ((rd_T52 l0_1 a1).f2) = some r) ∧ Aside0 (kq ≤ k) ∧ Aside0 (w'.heap[gb368]? = some (.cells #[.string a0_0, (.slice (some ad369) l0_1.length c0_1), (.slice A0_2 l0_2.length c0_2)] 25 (0, 0))) ∧ Aside0 (w'.heap[gb370]? = some (.cells #[.string ((rd_T52 l0_1 a1).f0), .int .i64 ((rd_T52 l0_1 a1).f1), .int .i64 ((rd_T52 l0_1 a1).f2)] 52 (0, 0))) ∧ Aside0 (Below w.heap.size w w'))
 case atStart => exact ⟨(0), prs, H', ⟨Nat.le_refl _⟩, ⟨by (with_reducible repeat (first | refine blk_drewN ?_ _ | refine blk_drew ?_ | refine blk_alloc ?_ _)); refine bf3 ?_ NB368_370.1; exact pbk BK368.1⟩, ⟨by (with_reducible repeat (first | refine blk_drewN ?_ _ | refine blk_drew ?_ | refine blk_alloc ?_ _)); exact bp3 (pbk BK370.1)⟩, ⟨pbg⟩⟩
 clear H'
 try clear c3 c3b0 c4 c4b0 c6 z11_0 z11_1 z11_2 z8_0 z8_1 z8_2 y11_0 y11_1 y11_2 y8_0 y8_1 y8_2 hx369_0 hx369_1 hx369_2 p369 q369
 obtain ⟨x6_1, rfl, HA, HK1, BK368, BK370, HB⟩ := hrel
 obtain _ | k1 := gk
 ·exact absurd HA.1 (by simp [r09_place.l0])
 have H := HA.1
 clear HA
 simp only [r09_place.l0] at H
 by_cases c12 : x6_1 < a1
 ·rw [if_pos c12] at H
  have c12b0 : decide (x6_1 < a1) = true := decide_eq_true c12
  clear c12
  replace H := ifp H
  obtain ⟨c13, H⟩ := H
  have c13b0 := decide_eq_true c13
  clear c13
  replace H := ifp H
  obtain ⟨c14, H⟩ := H
  have c14b0 := decide_eq_true c14
  clear c14
  by_cases c15 : ((rd_T52 l0_1 x6_1).f0).toList = ((rd_T52 l0_1 a1).f0).toList
  ·rw [if_pos c15] at H
   have c15b0 : (((rd_T52 l0_1 x6_1).f0).toList == ((rd_T52 l0_1 a1).f0).toList) = true := beq_iff_eq.mpr c15
   have c15b1 : (((rd_T52 l0_1 x6_1).f0).toList != ((rd_T52 l0_1 a1).f0).toList) = false := bne_eq_false_iff_eq.mpr c15
   clear c15
   obtain rfl := Option.some.inj H
   have hnb16 := NB368_370.1
   have hnc16 := NB370_368.1
   obtain ⟨z17_0, z17_1, z17_2, y17_0, y17_1, y17_2⟩ := cf3 BK368.1
   obtain ⟨p372, q372, ad372, e372, hx372_0, hx372_1, hx372_2⟩ := bT52 HR0_1.1 HB.1 x6_1
   obtain rfl : ad369 = ad372 := (by injection e372)
   obtain ⟨z18_0, z18_1, z18_2, y18_0, y18_1, y18_2⟩ := cf3 BK370.1
   go_wp2
   repeat (go_quiet (fail); try go_wp2)
   go_ret
   exact ⟨per, pbg⟩
  rw [if_neg c15] at H
  have c15b0 : (((rd_T52 l0_1 x6_1).f0).toList == ((rd_T52 l0_1 a1).f0).toList) = false := beq_eq_false_iff_ne.mpr c15
  have c15b1 : (((rd_T52 l0_1 x6_1).f0).toList != ((rd_T52 l0_1 a1).f0).toList) = true := bne_iff_ne.mpr c15
  have H' := am H
  clear H
  have hnb19 := NB368_370.1
  have hnc19 := NB370_368.1
  obtain ⟨z20_0, z20_1, z20_2, y20_0, y20_1, y20_2⟩ := cf3 BK368.1
  obtain ⟨p372, q372, ad372, e372, hx372_0, hx372_1, hx372_2⟩ := bT52 HR0_1.1 HB.1 x6_1
  obtain rfl : ad369 = ad372 := (by injection e372)
  obtain ⟨z21_0, z21_1, z21_2, y21_0, y21_1, y21_2⟩ := cf3 BK370.1
  go_wp2
  repeat (go_quiet (fail); try go_wp2)
  go_roundg k1
  case measure => have := HK1.1; omega
  case rel => exact ⟨(wrap64 (x6_1 + 1)), prs, H', ⟨by have := HK1.1; omega⟩, ⟨pbk BK368.1⟩, ⟨pbk BK370.1⟩, ⟨pbg⟩⟩
 rw [if_neg c12] at H
 have c12b0 : decide (x6_1 < a1) = false := decide_eq_false c12
 clear c12
 have HC22 := am H
 clear H
 go_upto_region 9 with (fail)
 repeat (go_quiet (fail); go_upto_region 9 with (fail))
 go_cut [37] (fun v37 wc => ∃ (kq : Nat) (x37_21 : Bool), v37 = .bool x37_21 ∧ Aside0 (r09_place.j1 kq x37_21 ((rd_T52 l0_1 a1).f0) ((rd_T52 l0_1 a1).f1) ((rd_T52 l0_1 a1).f2) = some r) ∧ Aside0 (kq ≤ k1) ∧ Aside0 (wc.heap[gb368]? = some (.cells #[.string a0_0, (.slice (some ad369) l0_1.length c0_1), (.slice A0_2 l0_2.length c0_2)] 25 (0, 0))) ∧ Aside0 (wc.heap[gb370]? = some (.cells #[.string ((rd_T52 l0_1 a1).f0), .int .i64 ((rd_T52 l0_1 a1).f1), .int .i64 ((rd_T52 l0_1 a1).f2)] 52 (0, 0))) ∧ Aside0 (Below w.heap.size w wc))
 case first =>
  have H := HC22.1
  clear HC22
  by_cases c23 : ((rd_T52 l0_1 a1).f2) < 0
  ·rw [if_pos c23] at H
   have c23b0 : decide (((rd_T52 l0_1 a1).f2) < 0) = true := decide_eq_true c23
   clear c23
   (first | rw [c23b0] | (simp only [i64_w, i32_w]; rw [c23b0]) | skip)
   have H' := am H
   clear H
   have hnb24 := NB370_368.1
   have hnc24 := NB368_370.1
   obtain ⟨z25_0, z25_1, z25_2, y25_0, y25_1, y25_2⟩ := cf3 BK370.1
   go_wp2
   repeat (go_quiet (fail); try go_wp2)
   go_meet
   case rel => exact ⟨_, (true), prs, H', ⟨by have := HK1.1; first | omega | exact Nat.le_refl _⟩, ⟨pbk BK368.1⟩, ⟨pbk BK370.1⟩, ⟨pbg⟩⟩
  rw [if_neg c23] at H
  have c23b0 : decide (((rd_T52 l0_1 a1).f2) < 0) = false := decide_eq_false c23
  clear c23
  (first | rw [c23b0] | (simp only [i64_w, i32_w]; rw [c23b0]) | skip)
  have H' := am H
  clear H
  have hnb26 := NB370_368.1
  have hnc26 := NB368_370.1
  obtain ⟨z27_0, z27_1, z27_2, y27_0, y27_1, y27_2⟩ := cf3 BK370.1
  go_wp2
  repeat (go_quiet (fail); try go_wp2)
  go_meet
  case rel => exact ⟨_, (decide (((rd_T52 l0_1 a1).f2) > 1048576)), prs, H', ⟨by have := HK1.1; first | omega | exact Nat.le_refl _⟩, ⟨pbk BK368.1⟩, ⟨pbk BK370.1⟩, ⟨pbg⟩⟩
 clear HC22
 try clear c3 c3b0 c4 c4b0 c6 c12 c12b0 c13 c13b0 c14 c14b0 c15 c15b0 c15b1 c23 c23b0 z11_0 z11_1 z11_2 z17_0 z17_1 z17_2 z18_0 z18_1 z18_2 z20_0 z20_1 z20_2 z21_0 z21_1 z21_2 z25_0 z25_1 z25_2 z27_0 z27_1 z27_2 z8_0 z8_1 z8_2 y11_0 y11_1 y11_2 y17_0 y17_1 y17_2 y18_0 y18_1 y18_2 y20_0 y20_1 y20_2 y21_0 y21_1 y21_2 y25_0 y25_1 y25_2 y27_0 y27_1 y27_2 y8_0 y8_1 y8_2 hx369_0 hx369_1 hx369_2 hx372_0 hx372_1 hx372_2 p369 p372 q369 q372
 obtain ⟨kq, x37_21, rfl, HA, HJ21, BK368, BK370, HB⟩ := hcut
 obtain _ | kj21 := kq
 ·exact absurd HA.1 (by simp [r09_place.j1])
 have H := HA.1
 clear HA
 simp only [r09_place.j1] at H
 by_cases c28 : x37_21 = true
 ·subst c28
  rw [if_pos rfl] at H
  obtain rfl := Option.some.inj H
  go_wp2
  repeat (go_quiet (fail); try go_wp2)
  go_ret
  exact ⟨per, pbg⟩
 replace c28 := Bool.eq_false_iff.mpr c28
 subst c28
 rw [if_neg Bool.false_ne_true] at H
 by_cases c29 : ((rd_T52 l0_1 a1).f1) < 0
 ·rw [if_pos c29] at H
  have c29b0 : decide (((rd_T52 l0_1 a1).f1) < 0) = true := decide_eq_true c29
  clear c29
  obtain rfl := Option.some.inj H
  have hnb30 := NB370_368.1
  have hnc30 := NB368_370.1
  obtain ⟨z31_0, z31_1, z31_2, y31_0, y31_1, y31_2⟩ := cf3 BK370.1
  go_wp2
  repeat (go_quiet (fail); try go_wp2)
  go_ret
  exact ⟨per, pbg⟩
 rw [if_neg c29] at H
 have c29b0 : decide (((rd_T52 l0_1 a1).f1) < 0) = false := decide_eq_false c29
 clear c29
 by_cases c32 : ((rd_T52 l0_1 a1).f1) > 1048576
 ·rw [if_pos c32] at H
  have c32b0 : decide (1048576 < ((rd_T52 l0_1 a1).f1)) = true := decide_eq_true c32
  clear c32
  obtain rfl := Option.some.inj H
  have hnb33 := NB370_368.1
  have hnc33 := NB368_370.1
  obtain ⟨z34_0, z34_1, z34_2, y34_0, y34_1, y34_2⟩ := cf3 BK370.1
  go_wp2
  repeat (go_quiet (fail); try go_wp2)
  go_ret
  exact ⟨per, pbg⟩
 rw [if_neg c32] at H
 have c32b0 : decide (1048576 < ((rd_T52 l0_1 a1).f1)) = false := decide_eq_false c32
 clear c32
 by_cases c35 : ((rd_T52 l0_1 a1).f2) = 0
 ·rw [if_pos c35] at H
  have c35b0 : (((rd_T52 l0_1 a1).f2) == 0) = true := beq_iff_eq.mpr c35
  have c35b1 : (((rd_T52 l0_1 a1).f2) != 0) = false := bne_eq_false_iff_eq.mpr c35
  clear c35
  obtain rfl := Option.some.inj H
  have hnb36 := NB370_368.1
  have hnc36 := NB368_370.1
  obtain ⟨z37_0, z37_1, z37_2, y37_0, y37_1, y37_2⟩ := cf3 BK370.1
  go_wp2
  repeat (go_quiet (fail); try go_wp2)
  go_ret
  exact ⟨per, pbg⟩
 rw [if_neg c35] at H
 have c35b0 : (((rd_T52 l0_1 a1).f2) == 0) = false := beq_eq_false_iff_ne.mpr c35
 have c35b1 : (((rd_T52 l0_1 a1).f2) != 0) = true := bne_iff_ne.mpr c35
 by_cases c38 : ((rd_T52 l0_1 a1).f1) > ((rd_T52 l0_1 a1).f2)
 ·rw [if_pos c38] at H
  have c38b0 : decide (((rd_T52 l0_1 a1).f2) < ((rd_T52 l0_1 a1).f1)) = true := decide_eq_true c38
  clear c38
  obtain rfl := Option.some.inj H
  have hnb39 := NB370_368.1
  have hnc39 := NB368_370.1
  obtain ⟨z40_0, z40_1, z40_2, y40_0, y40_1, y40_2⟩ := cf3 BK370.1
  go_wp2
  repeat (go_quiet (fail); try go_wp2)
  go_ret
  exact ⟨per, pbg⟩
 rw [if_neg c38] at H
 have c38b0 : decide (((rd_T52 l0_1 a1).f2) < ((rd_T52 l0_1 a1).f1)) = false := decide_eq_false c38
 clear c38
 obtain rfl := Option.some.inj H
 have hnb41 := NB370_368.1
 have hnc41 := NB368_370.1
 obtain ⟨z42_0, z42_1, z42_2, y42_0, y42_1, y42_2⟩ := cf3 BK370.1
 go_wp2
 repeat (go_quiet (fail); try go_wp2)
 go_ret
 exact ⟨per, pbg⟩

/-! ### r09_arcs: function 78 -/
mutual
def r09_arcs.l0 : Nat → List (S55) → Int → ByteArray → List (S52) → List (S48) → Option (Int)
 | 0, _, _, _, _, _ => none
 | k + 1, x1, x5, x374000, x374001, x374002 => if x5 < (x1.length : Int) then (if 0 ≤ x5 then (if ((rd_T55 x1 x5).f0) < 0 then (r09_arcs.j1 k x1 x5 true x374000 x374001 x374002) else (r09_arcs.j1 k x1 x5 (decide (((rd_T55 x1 x5).f0) ≥ (x374001.length : Int))) x374000 x374001 x374002)) else (none)) else (some 0)
def r09_arcs.j1 : Nat → List (S55) → Int → Bool → ByteArray → List (S52) → List (S48) → Option (Int)
 | 0, _, _, _, _, _, _ => none
 | k + 1, x1, x5, x28, x374000, x374001, x374002 => if x28 = true then (some 7) else (if x5 > 0 then (if 0 ≤ x5 then (if x5 < (x1.length : Int) then (if 0 ≤ (wrap64 (x5 - 1)) then (if (wrap64 (x5 - 1)) < (x1.length : Int) then (r09_arcs.j2 k x1 x5 (decide (((rd_T55 x1 x5).f0) ≤ ((rd_T55 x1 (wrap64 (x5 - 1))).f0))) x374000 x374001 x374002) else (none)) else (none)) else (none)) else (none)) else (r09_arcs.j2 k x1 x5 false x374000 x374001 x374002))
def r09_arcs.j2 : Nat → List (S55) → Int → Bool → ByteArray → List (S52) → List (S48) → Option (Int)
 | 0, _, _, _, _, _, _ => none
 | k + 1, x1, x5, x44, x374000, x374001, x374002 => if x44 = true then (some 8) else (if 0 ≤ x5 then (if x5 < (x1.length : Int) then (if ((rd_T55 x1 x5).f1) < 1 then (some 9) else (if ((rd_T55 x1 x5).f1) > 99 then (some 9) else (r09_arcs.l0 k x1 (wrap64 (x5 + 1)) x374000 x374001 x374002))) else (none)) else (none))
end
def r09_arcs.f (k : Nat) (a0_0 : ByteArray) (l0_1 : List (S52)) (l0_2 : List (S48)) (l1 : List (S55)) : Option (Int) := r09_arcs.l0 k l1 0 a0_0 l0_1 l0_2
theorem r09_arcs.mono_l : ∀ k, M5 r09_arcs.l0 k ∧ M6 r09_arcs.j1 k ∧ M6 r09_arcs.j2 k
 | 0 => ⟨fun _ _ _ _ _ r h => by simp [r09_arcs.l0] at h, fun _ _ _ _ _ _ r h => by simp [r09_arcs.j1] at h, fun _ _ _ _ _ _ r h => by simp [r09_arcs.j2] at h⟩
 | k + 1 => by
  obtain ⟨ih0, ih1, ih2⟩ := r09_arcs.mono_l k
  refine ⟨?_, ?_, ?_⟩ <;> dsimp only [M5, M6] <;> intros <;> (first | unfold r09_arcs.l0 | unfold r09_arcs.j1 | unfold r09_arcs.j2) <;> repeat' first | (with_reducible first | apply ih0 | apply ih1 | apply ih2 | apply lr | apply ln | apply li | refine lb ?_ fun _ => ?_)
theorem r09_arcs.mono : ∀ a0 a1 a2 a3 k, LeO (r09_arcs.f k a0 a1 a2 a3) (r09_arcs.f (k + 1) a0 a1 a2 a3) := by
 intro a0 a1 a2 a3 k
 obtain ⟨ih0, ih1, ih2⟩ := r09_arcs.mono_l k
 unfold r09_arcs.f
 repeat' first | (with_reducible first | apply ih0 | apply ih1 | apply ih2 | apply lr | apply ln | apply li | refine lb ?_ fun _ => ?_)
set_option maxHeartbeats 8000000 in
set_option maxRecDepth 100000 in
theorem r09_arcs.calls (k : Nat) (a0_0 : ByteArray) (A0_1 : Option Addr) (c0_1 : Nat) (l0_1 : List (S52)) (A0_2 : Option Addr) (c0_2 : Nat) (l0_2 : List (S48)) (A1 : Option Addr) (c1 : Nat) (l1 : List (S55)) (r : Int) (w : World) (hr0_1 : Kd.C k52 w A0_1 l0_1.length l0_1) (hc0_1 : l0_1.length ≤ c0_1) (hr0_2 : Kd.C k48 w A0_2 l0_2.length l0_2) (hc0_2 : l0_2.length ≤ c0_2) (hr1 : Kd.C k55 w A1 l1.length l1) (hc1 : l1.length ≤ c1) (h : r09_arcs.f k a0_0 l0_1 l0_2 l1 = some r) :
  Calls Try.prog 78 #[.agg #[.string a0_0, .slice A0_1 l0_1.length c0_1, .slice A0_2 l0_2.length c0_2], .slice A1 l1.length c1] w fun e w' => e = .returned (.int .i64 r) ∧ Below w.heap.size w w' := by
 have hu25 := Try.underlying25
 have HR0_1 := am hr0_1
 have HC0_1 := am hc0_1
 clear hr0_1 hc0_1
 have HR0_2 := am hr0_2
 have HC0_2 := am hc0_2
 clear hr0_2 hc0_2
 have HR1 := am hr1
 have HC1 := am hc1
 clear hr1 hc1
 have HB := am (Below.refl w.heap.size w)
 have H : (r09_arcs.l0 k l1 0 a0_0 l0_1 l0_2) = some r := h
 clear h
 have H' := am H
 clear H
 go_enter Try.func78, Try.ntmps78
 iterate 4 (try go_wp2_with (first | ((with_reducible refine gate_dst (N := 2) rfl ?_); (try (refine gate_guard (by rfl) ?_; dsimp only)); refine box_ev (N := 2) (cs := #[.string a0_0, .slice A0_1 l0_1.length c0_1, .slice A0_2 l0_2.length c0_2]) (t := 25) ?_; intro gb373 hg w3 hbox hb; have BK373 := am hbox; have GW373 := gwl hg; have GE373 := GW373; replace HB := bsl hb; clear hb hbox hg)); try go_quiet (fail))
 go_loopg [5] k (fun kq v5 w' => ∃ (x5_1 : Int), v5 = .int .i64 x5_1 ∧ Aside0 (r09_arcs.l0 kq l1 x5_1 a0_0 l0_1 l0_2 = some r) ∧ Aside0 (kq ≤ k) ∧ Aside0 (w'.heap[gb373]? = some (.cells #[.string a0_0, (.slice A0_1 l0_1.length c0_1), (.slice A0_2 l0_2.length c0_2)] 25 (0, 0))) ∧ Aside0 (Below w.heap.size w w'))
 case atStart => exact ⟨(0), prs, H', ⟨Nat.le_refl _⟩, ⟨pbk BK373.1⟩, ⟨pbg⟩⟩
 clear H'
 try clear c1
 obtain ⟨x5_1, rfl, HA, HK1, BK373, HB⟩ := hrel
 obtain _ | k1 := gk
 ·exact absurd HA.1 (by simp [r09_arcs.l0])
 have H := HA.1
 clear HA
 simp only [r09_arcs.l0] at H
 by_cases c4 : x5_1 < (l1.length : Int)
 rotate_left
 ·rw [if_neg c4] at H
  have c4b0 : decide (x5_1 < (l1.length : Int)) = false := decide_eq_false c4
  clear c4
  obtain rfl := Option.some.inj H
  go_wp2
  repeat (go_quiet (fail); try go_wp2)
  go_ret
  exact ⟨per, pbg⟩
 rw [if_pos c4] at H
 have c4b0 : decide (x5_1 < (l1.length : Int)) = true := decide_eq_true c4
 clear c4
 have HC5 := am H
 clear H
 go_upto_region 4 with (fail)
 repeat (go_quiet (fail); go_upto_region 4 with (fail))
 go_cut [28] (fun v28 wc => ∃ (kq : Nat) (x28_4 : Bool), v28 = .bool x28_4 ∧ Aside0 (r09_arcs.j1 kq l1 x5_1 x28_4 a0_0 l0_1 l0_2 = some r) ∧ Aside0 (kq ≤ k1) ∧ Aside0 (wc.heap[gb373]? = some (.cells #[.string a0_0, (.slice A0_1 l0_1.length c0_1), (.slice A0_2 l0_2.length c0_2)] 25 (0, 0))) ∧ Aside0 (Below w.heap.size w wc))
 case first =>
  have H := HC5.1
  clear HC5
  replace H := ifp H
  obtain ⟨c6, H⟩ := H
  have c6b0 := decide_eq_true c6
  clear c6
  (first | rw [c6b0] | (simp only [i64_w, i32_w]; rw [c6b0]) | skip)
  by_cases c7 : ((rd_T55 l1 x5_1).f0) < 0
  ·rw [if_pos c7] at H
   have c7b0 : decide (((rd_T55 l1 x5_1).f0) < 0) = true := decide_eq_true c7
   clear c7
   have H' := am H
   clear H
   obtain ⟨p374, q374, ad374, e374, hx374_0, hx374_1⟩ := bT55 HR1.1 HB.1 x5_1
   cases e374
   go_wp2
   repeat (go_quiet (fail); try go_wp2)
   go_meet
   case rel => exact ⟨_, (true), prs, H', ⟨by have := HK1.1; first | omega | exact Nat.le_refl _⟩, ⟨pbk BK373.1⟩, ⟨pbg⟩⟩
  rw [if_neg c7] at H
  have c7b0 : decide (((rd_T55 l1 x5_1).f0) < 0) = false := decide_eq_false c7
  clear c7
  have H' := am H
  clear H
  obtain ⟨p374, q374, ad374, e374, hx374_0, hx374_1⟩ := bT55 HR1.1 HB.1 x5_1
  cases e374
  obtain ⟨p375, q375, ad375, e375, hx375_0, hx375_1⟩ := bT55 HR1.1 HB.1 x5_1
  obtain rfl : ad374 = ad375 := (by injection e375)
  obtain ⟨z8_0, z8_1, z8_2, y8_0, y8_1, y8_2⟩ := cf3 BK373.1
  go_wp2
  repeat (go_quiet (fail); try go_wp2)
  go_meet
  case rel => exact ⟨_, (decide (((rd_T55 l1 x5_1).f0) ≥ (l0_1.length : Int))), prs, H', ⟨by have := HK1.1; first | omega | exact Nat.le_refl _⟩, ⟨pbk BK373.1⟩, ⟨pbg⟩⟩
 clear HC5
 try clear c1 c4 c4b0 c6 c6b0 c7 c7b0 z8_0 z8_1 z8_2 y8_0 y8_1 y8_2 hx374_0 hx374_1 hx375_0 hx375_1 p374 p375 q374 q375
 obtain ⟨kq, x28_4, rfl, HA, HJ4, BK373, HB⟩ := hcut
 obtain _ | kj4 := kq
 ·exact absurd HA.1 (by simp [r09_arcs.j1])
 have H := HA.1
 clear HA
 simp only [r09_arcs.j1] at H
 by_cases c9 : x28_4 = true
 ·subst c9
  rw [if_pos rfl] at H
  obtain rfl := Option.some.inj H
  go_wp2
  repeat (go_quiet (fail); try go_wp2)
  go_ret
  exact ⟨per, pbg⟩
 replace c9 := Bool.eq_false_iff.mpr c9
 subst c9
 rw [if_neg Bool.false_ne_true] at H
 have HC10 := am H
 clear H
 go_upto_region 6 with (fail)
 repeat (go_quiet (fail); go_upto_region 6 with (fail))
 go_cut [44] (fun v44 wc => ∃ (kq : Nat) (x44_9 : Bool), v44 = .bool x44_9 ∧ Aside0 (r09_arcs.j2 kq l1 x5_1 x44_9 a0_0 l0_1 l0_2 = some r) ∧ Aside0 (kq ≤ kj4) ∧ Aside0 (wc.heap[gb373]? = some (.cells #[.string a0_0, (.slice A0_1 l0_1.length c0_1), (.slice A0_2 l0_2.length c0_2)] 25 (0, 0))) ∧ Aside0 (Below w.heap.size w wc))
 case first =>
  have H := HC10.1
  clear HC10
  by_cases c11 : x5_1 > 0
  rotate_left
  ·rw [if_neg c11] at H
   have c11b0 : decide (0 < x5_1) = false := decide_eq_false c11
   clear c11
   (first | rw [c11b0] | (simp only [i64_w, i32_w]; rw [c11b0]) | skip)
   have H' := am H
   clear H
   go_wp2
   repeat (go_quiet (fail); try go_wp2)
   go_meet
   case rel => exact ⟨_, (false), prs, H', ⟨by have := HK1.1; have := HJ4.1; first | omega | exact Nat.le_refl _⟩, ⟨pbk BK373.1⟩, ⟨pbg⟩⟩
  rw [if_pos c11] at H
  have c11b0 : decide (0 < x5_1) = true := decide_eq_true c11
  clear c11
  (first | rw [c11b0] | (simp only [i64_w, i32_w]; rw [c11b0]) | skip)
  replace H := ifp H
  obtain ⟨c12, H⟩ := H
  have c12b0 := decide_eq_true c12
  clear c12
  replace H := ifp H
  obtain ⟨c13, H⟩ := H
  have c13b0 := decide_eq_true c13
  clear c13
  obtain ⟨ji14, hji14⟩ : ∃ j_ : Int, (wrap64 (x5_1 - 1)) = j_ := ⟨_, rfl⟩
  replace H : (if 0 ≤ (ji14) then (if (ji14) < (l1.length : Int) then (r09_arcs.j2 kj4 l1 x5_1 (decide (((rd_T55 l1 x5_1).f0) ≤ ((rd_T55 l1 (ji14)).f0))) a0_0 l0_1 l0_2) else (none)) else (none)) = some r := by first | (rw [hji14] at H; exact H) | (simp only [hji14] at H ⊢; exact H)
  have hji14w : (IntKind.i64.wrap (x5_1 - 1)) = ji14 := (i64_w _).trans hji14
  replace H := ifp H
  obtain ⟨c15, H⟩ := H
  have c15b0 := decide_eq_true c15
  clear c15
  replace H := ifp H
  obtain ⟨c16, H⟩ := H
  have c16b0 := decide_eq_true c16
  clear c16
  have H' := am H
  clear H
  obtain ⟨p376, q376, ad376, e376, hx376_0, hx376_1⟩ := bT55 HR1.1 HB.1 x5_1
  cases e376
  obtain ⟨p377, q377, ad377, e377, hx377_0, hx377_1⟩ := bT55 HR1.1 HB.1 (ji14)
  obtain rfl : ad376 = ad377 := (by injection e377)
  go_wp2
  repeat (go_quiet (fail); try go_wp2)
  go_meet
  case rel => exact ⟨_, (decide (((rd_T55 l1 x5_1).f0) ≤ ((rd_T55 l1 (ji14)).f0))), (by first | rfl | (simp; done) | (simp only [← hji14] <;> (first | rfl | simp)) | (simp [*]; done)), H', ⟨by have := HK1.1; have := HJ4.1; first | omega | exact Nat.le_refl _⟩, ⟨pbk BK373.1⟩, ⟨pbg⟩⟩
 clear HC10
 try clear c1 c4 c4b0 c6 c6b0 c7 c7b0 c9 c11 c11b0 c12 c12b0 c13 c13b0 c15 c15b0 c16 c16b0 z8_0 z8_1 z8_2 y8_0 y8_1 y8_2 hx374_0 hx374_1 hx375_0 hx375_1 hx376_0 hx376_1 hx377_0 hx377_1 p374 p375 p376 p377 q374 q375 q376 q377
 obtain ⟨kq, x44_9, rfl, HA, HJ9, BK373, HB⟩ := hcut
 obtain _ | kj9 := kq
 ·exact absurd HA.1 (by simp [r09_arcs.j2])
 have H := HA.1
 clear HA
 simp only [r09_arcs.j2] at H
 by_cases c17 : x44_9 = true
 ·subst c17
  rw [if_pos rfl] at H
  obtain rfl := Option.some.inj H
  go_wp2
  repeat (go_quiet (fail); try go_wp2)
  go_ret
  exact ⟨per, pbg⟩
 replace c17 := Bool.eq_false_iff.mpr c17
 subst c17
 rw [if_neg Bool.false_ne_true] at H
 replace H := ifp H
 obtain ⟨c18, H⟩ := H
 have c18b0 := decide_eq_true c18
 clear c18
 replace H := ifp H
 obtain ⟨c19, H⟩ := H
 have c19b0 := decide_eq_true c19
 clear c19
 by_cases c20 : ((rd_T55 l1 x5_1).f1) < 1
 ·rw [if_pos c20] at H
  have c20b0 : decide (((rd_T55 l1 x5_1).f1) < 1) = true := decide_eq_true c20
  clear c20
  obtain rfl := Option.some.inj H
  obtain ⟨p378, q378, ad378, e378, hx378_0, hx378_1⟩ := bT55 HR1.1 HB.1 x5_1
  cases e378
  go_wp2
  repeat (go_quiet (fail); try go_wp2)
  go_ret
  exact ⟨per, pbg⟩
 rw [if_neg c20] at H
 have c20b0 : decide (((rd_T55 l1 x5_1).f1) < 1) = false := decide_eq_false c20
 clear c20
 by_cases c21 : ((rd_T55 l1 x5_1).f1) > 99
 ·rw [if_pos c21] at H
  have c21b0 : decide (99 < ((rd_T55 l1 x5_1).f1)) = true := decide_eq_true c21
  clear c21
  obtain rfl := Option.some.inj H
  obtain ⟨p378, q378, ad378, e378, hx378_0, hx378_1⟩ := bT55 HR1.1 HB.1 x5_1
  cases e378
  obtain ⟨p379, q379, ad379, e379, hx379_0, hx379_1⟩ := bT55 HR1.1 HB.1 x5_1
  obtain rfl : ad378 = ad379 := (by injection e379)
  go_wp2
  repeat (go_quiet (fail); try go_wp2)
  go_ret
  exact ⟨per, pbg⟩
 rw [if_neg c21] at H
 have c21b0 : decide (99 < ((rd_T55 l1 x5_1).f1)) = false := decide_eq_false c21
 clear c21
 have H' := am H
 clear H
 obtain ⟨p378, q378, ad378, e378, hx378_0, hx378_1⟩ := bT55 HR1.1 HB.1 x5_1
 cases e378
 obtain ⟨p379, q379, ad379, e379, hx379_0, hx379_1⟩ := bT55 HR1.1 HB.1 x5_1
 obtain rfl : ad378 = ad379 := (by injection e379)
 go_wp2
 repeat (go_quiet (fail); try go_wp2)
 go_roundg kj9
 case measure => have := HK1.1; have := HJ4.1; have := HJ9.1; omega
 case rel => exact ⟨(wrap64 (x5_1 + 1)), prs, H', ⟨by have := HK1.1; have := HJ4.1; have := HJ9.1; omega⟩, ⟨pbk BK373.1⟩, ⟨pbg⟩⟩

/-! ### r09_trans: function 67 -/
mutual
def r09_trans.l0 : Nat → Int → Int → ByteArray → List (S52) → List (S48) → ByteArray → List (S55) → List (S55) → List (S55) → Int → Option (Int)
 | 0, _, _, _, _, _, _, _, _, _, _ => none
 | k + 1, x1, x6, x381000, x381001, x381002, x383000, x383001, x383002, x383003, x383004 => if x6 < (x381001.length : Int) then (if 0 ≤ x6 then (if ((rd_T52 x381001 x6).f0).toList = x383000.toList then (some 6) else (r09_trans.l0 k x1 (wrap64 (x6 + 1)) x381000 x381001 x381002 x383000 x383001 x383002 x383003 x383004)) else (none)) else (r09_trans.l1 k x1 0 x381000 x381001 x381002 x383000 x383001 x383002 x383003 x383004)
def r09_trans.l1 : Nat → Int → Int → ByteArray → List (S52) → List (S48) → ByteArray → List (S55) → List (S55) → List (S55) → Int → Option (Int)
 | 0, _, _, _, _, _, _, _, _, _, _ => none
 | k + 1, x1, x7, x381000, x381001, x381002, x383000, x383001, x383002, x383003, x383004 => if x7 < x1 then (if 0 ≤ x7 then (if x7 < (x381002.length : Int) then (if ((rd_T48 x381002 x7).f0).toList = x383000.toList then (some 6) else (r09_trans.l1 k x1 (wrap64 (x7 + 1)) x381000 x381001 x381002 x383000 x383001 x383002 x383003 x383004)) else (none)) else (none)) else (if x383004 < 0 then (r09_trans.j2 k true x381000 x381001 x381002 x383000 x383001 x383002 x383003 x383004) else (r09_trans.j2 k (decide (x383004 > 9)) x381000 x381001 x381002 x383000 x383001 x383002 x383003 x383004))
def r09_trans.j2 : Nat → Bool → ByteArray → List (S52) → List (S48) → ByteArray → List (S55) → List (S55) → List (S55) → Int → Option (Int)
 | 0, _, _, _, _, _, _, _, _, _ => none
 | k + 1, x56, x381000, x381001, x381002, x383000, x383001, x383002, x383003, x383004 => if x56 = true then (some 1) else ((r09_arcs.f k x381000 x381001 x381002 x383001).bind fun t386 => (if t386 = 0 then ((r09_arcs.f k x381000 x381001 x381002 x383002).bind fun t387 => (if t387 = 0 then ((r09_arcs.f k x381000 x381001 x381002 x383003).bind fun t388 => (some t388)) else (some t387))) else (some t386)))
end
def r09_trans.f (k : Nat) (a0_0 : ByteArray) (l0_1 : List (S52)) (l0_2 : List (S48)) (a1 : Int) : Option (Int) := if 0 ≤ a1 then (if a1 < (l0_2.length : Int) then ((r09_Name.f k ((rd_T48 l0_2 a1).f0)).bind fun t383 => (if t383 = true then (r09_trans.l0 k a1 0 a0_0 l0_1 l0_2 ((rd_T48 l0_2 a1).f0) ((rd_T48 l0_2 a1).f1) ((rd_T48 l0_2 a1).f2) ((rd_T48 l0_2 a1).f3) ((rd_T48 l0_2 a1).f4)) else (some 5))) else (none)) else (none)
theorem r09_trans.mono_l : ∀ k, M10 r09_trans.l0 k ∧ M10 r09_trans.l1 k ∧ M9 r09_trans.j2 k
 | 0 => ⟨fun _ _ _ _ _ _ _ _ _ _ r h => by simp [r09_trans.l0] at h, fun _ _ _ _ _ _ _ _ _ _ r h => by simp [r09_trans.l1] at h, fun _ _ _ _ _ _ _ _ _ r h => by simp [r09_trans.j2] at h⟩
 | k + 1 => by
  obtain ⟨ih0, ih1, ih2⟩ := r09_trans.mono_l k
  refine ⟨?_, ?_, ?_⟩ <;> dsimp only [M9, M10] <;> intros <;> (first | unfold r09_trans.l0 | unfold r09_trans.l1 | unfold r09_trans.j2) <;> repeat' first | (with_reducible first | apply ih0 | apply ih1 | apply ih2 | apply r09_Name.mono | apply r09_arcs.mono | apply lr | apply ln | apply li | refine lb ?_ fun _ => ?_)
theorem r09_trans.mono : ∀ a0 a1 a2 a3 k, LeO (r09_trans.f k a0 a1 a2 a3) (r09_trans.f (k + 1) a0 a1 a2 a3) := by
 intro a0 a1 a2 a3 k
 obtain ⟨ih0, ih1, ih2⟩ := r09_trans.mono_l k
 unfold r09_trans.f
 repeat' first | (with_reducible first | apply ih0 | apply ih1 | apply ih2 | apply r09_Name.mono | apply r09_arcs.mono | apply lr | apply ln | apply li | refine lb ?_ fun _ => ?_)
set_option maxHeartbeats 8000000 in
set_option maxRecDepth 100000 in
theorem r09_trans.calls (k : Nat) (a0_0 : ByteArray) (A0_1 : Option Addr) (c0_1 : Nat) (l0_1 : List (S52)) (A0_2 : Option Addr) (c0_2 : Nat) (l0_2 : List (S48)) (a1 : Int) (r : Int) (w : World) (hr0_1 : Kd.C k52 w A0_1 l0_1.length l0_1) (hc0_1 : l0_1.length ≤ c0_1) (hr0_2 : Kd.C k48 w A0_2 l0_2.length l0_2) (hc0_2 : l0_2.length ≤ c0_2) (h : r09_trans.f k a0_0 l0_1 l0_2 a1 = some r) :
  Calls Try.prog 67 #[.agg #[.string a0_0, .slice A0_1 l0_1.length c0_1, .slice A0_2 l0_2.length c0_2], .int .i64 a1] w fun e w' => e = .returned (.int .i64 r) ∧ Below w.heap.size w w' := by
 have hu25 := Try.underlying25
 have hu48 := Try.underlying48
 have HR0_1 := am hr0_1
 have HC0_1 := am hc0_1
 clear hr0_1 hc0_1
 have HR0_2 := am hr0_2
 have HC0_2 := am hc0_2
 clear hr0_2 hc0_2
 have HB := am (Below.refl w.heap.size w)
 have H : (if 0 ≤ a1 then (if a1 < (l0_2.length : Int) then ((r09_Name.f k ((rd_T48 l0_2 a1).f0)).bind fun t383 => (if t383 = true then (r09_trans.l0 k a1 0 a0_0 l0_1 l0_2 ((rd_T48 l0_2 a1).f0) ((rd_T48 l0_2 a1).f1) ((rd_T48 l0_2 a1).f2) ((rd_T48 l0_2 a1).f3) ((rd_T48 l0_2 a1).f4)) else (some 5))) else (none)) else (none)) = some r := h
 clear h
 replace H := ifp H
 obtain ⟨c3, H⟩ := H
 have c3b0 := decide_eq_true c3
 clear c3
 replace H := ifp H
 obtain ⟨c4, H⟩ := H
 have c4b0 := decide_eq_true c4
 clear c4
 replace H := bnd H
 obtain ⟨t383, A5, H⟩ := H
 (try dsimp only at H)
 by_cases c6 : t383 = true
 rotate_left
 ·replace c6 := Bool.eq_false_iff.mpr c6
  subst c6
  rw [if_neg Bool.false_ne_true] at H
  obtain rfl := Option.some.inj H
  go_enter Try.func67, Try.ntmps67
  iterate 4 (try go_wp2_with (first | ((with_reducible refine gate_dst (N := 2) rfl ?_); refine box_ev (N := 2) (cs := #[.string a0_0, .slice A0_1 l0_1.length c0_1, .slice A0_2 l0_2.length c0_2]) (t := 25) ?_; intro gb380 hg w66 hbox hb; have BK380 := am hbox; have GW380 := gwl hg; have GE380 := GW380; replace HB := bsl hb; clear hb hbox hg; obtain ⟨z67_0, z67_1, z67_2, y67_0, y67_1, y67_2⟩ := cf3 BK380.1; have p381 : 0 ≤ (a1 : Int) := dq; have q381 : a1 < (l0_2.length : Int) := dq; obtain ⟨ad381, A381_1, c381_1, A381_2, c381_2, A381_3, c381_3, e381, hx381_0, hx381_1, hx381_2, hx381_3, hx381_4, hl381_1, hi381_1, hl381_2, hi381_2, hl381_3, hi381_3⟩ := at_T48 HR0_2.1 a1 p381 q381; cases e381; replace hx381_0 := cbl HB.1 hx381_0; replace hx381_1 := cbl HB.1 hx381_1; replace hx381_2 := cbl HB.1 hx381_2; replace hx381_3 := cbl HB.1 hx381_3; replace hx381_4 := cbl HB.1 hx381_4; have HR381_1 := am hi381_1; have HC381_1 := am hl381_1; clear hi381_1 hl381_1; have HR381_2 := am hi381_2; have HC381_2 := am hl381_2; clear hi381_2 hl381_2; have HR381_3 := am hi381_3; have HC381_3 := am hl381_3; clear hi381_3 hl381_3; replace p381 := eq_true p381; replace q381 := eq_true q381) | ((with_reducible refine gate_dst (N := 5) rfl ?_); refine box_ev (N := 5) (cs := #[.string (⟨#[]⟩ : ByteArray), .slice none 0 0, .slice none 0 0, .slice none 0 0, .int .i64 0]) (t := 48) ?_; intro gb382 hg w68 hbox hb; have BK382 := am hbox; have GW382 := gwb hg; have GE382 := GW382; have NB380_382 := nlt hg BK380; have NB382_380 := ngt hg BK380; replace BK380 := bbh BK380 hb; replace HB := bst hb; clear hb hbox hg; have hnb69 := NB382_380.1; have hnc69 := NB380_382.1; obtain ⟨z70_0, z70_1, z70_2, z70_3, z70_4, y70_0, y70_1, y70_2, y70_3, y70_4⟩ := cf5 BK382.1) | (go_at_call 65; (with_reducible refine (r09_Name.calls k ((rd_T48 l0_2 a1).f0) false _ A5.1).mono ?_); rintro e w' ⟨rfl, ⟨nd, rfl⟩⟩; (try first | exact ⟨rfl, _, World.drewN_drewN _ _ _⟩ | exact ⟨rfl, _, Eq.trans (World.drewN_drewN _ _ _) (congrArg (World.drewN _) (Nat.add_assoc _ _ _))⟩))); try go_quiet (first | (go_at_call 65; (with_reducible refine (r09_Name.calls k ((rd_T48 l0_2 a1).f0) false _ A5.1).mono ?_); rintro e w' ⟨rfl, ⟨nd, rfl⟩⟩; (try first | exact ⟨rfl, _, World.drewN_drewN _ _ _⟩ | exact ⟨rfl, _, Eq.trans (World.drewN_drewN _ _ _) (congrArg (World.drewN _) (Nat.add_assoc _ _ _))⟩))))
  go_ret
  exact ⟨per, pbg⟩
 subst c6
 rw [if_pos rfl] at H
 have H' := am H
 clear H
 go_enter Try.func67, Try.ntmps67
 iterate 4 (try go_wp2_with (first | ((with_reducible refine gate_dst (N := 2) rfl ?_); refine box_ev (N := 2) (cs := #[.string a0_0, .slice A0_1 l0_1.length c0_1, .slice A0_2 l0_2.length c0_2]) (t := 25) ?_; intro gb380 hg w7 hbox hb; have BK380 := am hbox; have GW380 := gwl hg; have GE380 := GW380; replace HB := bsl hb; clear hb hbox hg; obtain ⟨z8_0, z8_1, z8_2, y8_0, y8_1, y8_2⟩ := cf3 BK380.1; have p381 : 0 ≤ (a1 : Int) := dq; have q381 : a1 < (l0_2.length : Int) := dq; obtain ⟨ad381, A381_1, c381_1, A381_2, c381_2, A381_3, c381_3, e381, hx381_0, hx381_1, hx381_2, hx381_3, hx381_4, hl381_1, hi381_1, hl381_2, hi381_2, hl381_3, hi381_3⟩ := at_T48 HR0_2.1 a1 p381 q381; cases e381; replace hx381_0 := cbl HB.1 hx381_0; replace hx381_1 := cbl HB.1 hx381_1; replace hx381_2 := cbl HB.1 hx381_2; replace hx381_3 := cbl HB.1 hx381_3; replace hx381_4 := cbl HB.1 hx381_4; have HR381_1 := am hi381_1; have HC381_1 := am hl381_1; clear hi381_1 hl381_1; have HR381_2 := am hi381_2; have HC381_2 := am hl381_2; clear hi381_2 hl381_2; have HR381_3 := am hi381_3; have HC381_3 := am hl381_3; clear hi381_3 hl381_3; replace p381 := eq_true p381; replace q381 := eq_true q381) | ((with_reducible refine gate_dst (N := 5) rfl ?_); refine box_ev (N := 5) (cs := #[.string (⟨#[]⟩ : ByteArray), .slice none 0 0, .slice none 0 0, .slice none 0 0, .int .i64 0]) (t := 48) ?_; intro gb382 hg w9 hbox hb; have BK382 := am hbox; have GW382 := gwb hg; have GE382 := GW382; have NB380_382 := nlt hg BK380; have NB382_380 := ngt hg BK380; replace BK380 := bbh BK380 hb; replace HB := bst hb; clear hb hbox hg; have hnb10 := NB382_380.1; have hnc10 := NB380_382.1; obtain ⟨z11_0, z11_1, z11_2, z11_3, z11_4, y11_0, y11_1, y11_2, y11_3, y11_4⟩ := cf5 BK382.1) | (go_at_call 65; (with_reducible refine (r09_Name.calls k ((rd_T48 l0_2 a1).f0) true _ A5.1).mono ?_); rintro e w' ⟨rfl, ⟨nd, rfl⟩⟩; (try first | exact ⟨rfl, _, World.drewN_drewN _ _ _⟩ | exact ⟨rfl, _, Eq.trans (World.drewN_drewN _ _ _) (congrArg (World.drewN _) (Nat.add_assoc _ _ _))⟩))); try go_quiet (first | (go_at_call 65; (with_reducible refine (r09_Name.calls k ((rd_T48 l0_2 a1).f0) true _ A5.1).mono ?_); rintro e w' ⟨rfl, ⟨nd, rfl⟩⟩; (try first | exact ⟨rfl, _, World.drewN_drewN _ _ _⟩ | exact ⟨rfl, _, Eq.trans (World.drewN_drewN _ _ _) (congrArg (World.drewN _) (Nat.add_assoc _ _ _))⟩))))
 go_loopg [6] k (fun kq v6 w' => ∃ (x6_1 : Int), v6 = .int .i64 x6_1 ∧ Aside0 (r09_trans.l0 kq a1 x6_1 a0_0 l0_1 l0_2 ((rd_T48 l0_2 a1).f0) ((rd_T48 l0_2 a1).f1) ((rd_T48 l0_2 a1).f2) ((rd_T48 l0_2 a1).f3) ((rd_T48 l0_2 a1).f4) = some r) ∧ Aside0 (kq ≤ k) ∧ Aside0 (w'.heap[gb380]? = some (.cells #[.string a0_0, (.slice A0_1 l0_1.length c0_1), (.slice (some ad381) l0_2.length c0_2)] 25 (0, 0))) ∧ Aside0 (w'.heap[gb382]? = some (.cells #[.string ((rd_T48 l0_2 a1).f0), (.slice A381_1 ((rd_T48 l0_2 a1).f1).length c381_1), (.slice A381_2 ((rd_T48 l0_2 a1).f2).length c381_2), (.slice A381_3 ((rd_T48 l0_2 a1).f3).length c381_3), .int .i64 ((rd_T48 l0_2 a1).f4)] 48 (0, 0))) ∧ Aside0 (Below w.heap.size w w'))
 case atStart => exact ⟨(0), prs, H', ⟨Nat.le_refl _⟩, ⟨by (with_reducible repeat (first | refine blk_drewN ?_ _ | refine blk_drew ?_ | refine blk_alloc ?_ _)); refine bf5 ?_ NB380_382.1; exact pbk BK380.1⟩, ⟨by (with_reducible repeat (first | refine blk_drewN ?_ _ | refine blk_drew ?_ | refine blk_alloc ?_ _)); exact bp5 (pbk BK382.1)⟩, ⟨pbg⟩⟩
 clear H'
 try clear c3 c3b0 c4 c4b0 c6 z11_0 z11_1 z11_2 z11_3 z11_4 z8_0 z8_1 z8_2 y11_0 y11_1 y11_2 y11_3 y11_4 y8_0 y8_1 y8_2 hx381_0 hx381_1 hx381_2 hx381_3 hx381_4 p381 q381
 obtain ⟨x6_1, rfl, HA, HK1, BK380, BK382, HB⟩ := hrel
 obtain _ | k1 := gk
 ·exact absurd HA.1 (by simp [r09_trans.l0])
 have H := HA.1
 clear HA
 simp only [r09_trans.l0] at H
 by_cases c12 : x6_1 < (l0_1.length : Int)
 ·rw [if_pos c12] at H
  have c12b0 : decide (x6_1 < (l0_1.length : Int)) = true := decide_eq_true c12
  clear c12
  replace H := ifp H
  obtain ⟨c13, H⟩ := H
  have c13b0 := decide_eq_true c13
  clear c13
  by_cases c14 : ((rd_T52 l0_1 x6_1).f0).toList = ((rd_T48 l0_2 a1).f0).toList
  ·rw [if_pos c14] at H
   have c14b0 : (((rd_T52 l0_1 x6_1).f0).toList == ((rd_T48 l0_2 a1).f0).toList) = true := beq_iff_eq.mpr c14
   have c14b1 : (((rd_T52 l0_1 x6_1).f0).toList != ((rd_T48 l0_2 a1).f0).toList) = false := bne_eq_false_iff_eq.mpr c14
   clear c14
   obtain rfl := Option.some.inj H
   have hnb15 := NB380_382.1
   have hnc15 := NB382_380.1
   obtain ⟨z16_0, z16_1, z16_2, y16_0, y16_1, y16_2⟩ := cf3 BK380.1
   obtain ⟨p384, q384, ad384, e384, hx384_0, hx384_1, hx384_2⟩ := bT52 HR0_1.1 HB.1 x6_1
   cases e384
   obtain ⟨z17_0, z17_1, z17_2, z17_3, z17_4, y17_0, y17_1, y17_2, y17_3, y17_4⟩ := cf5 BK382.1
   go_wp2
   repeat (go_quiet (fail); try go_wp2)
   go_ret
   exact ⟨per, pbg⟩
  rw [if_neg c14] at H
  have c14b0 : (((rd_T52 l0_1 x6_1).f0).toList == ((rd_T48 l0_2 a1).f0).toList) = false := beq_eq_false_iff_ne.mpr c14
  have c14b1 : (((rd_T52 l0_1 x6_1).f0).toList != ((rd_T48 l0_2 a1).f0).toList) = true := bne_iff_ne.mpr c14
  have H' := am H
  clear H
  have hnb18 := NB380_382.1
  have hnc18 := NB382_380.1
  obtain ⟨z19_0, z19_1, z19_2, y19_0, y19_1, y19_2⟩ := cf3 BK380.1
  obtain ⟨p384, q384, ad384, e384, hx384_0, hx384_1, hx384_2⟩ := bT52 HR0_1.1 HB.1 x6_1
  cases e384
  obtain ⟨z20_0, z20_1, z20_2, z20_3, z20_4, y20_0, y20_1, y20_2, y20_3, y20_4⟩ := cf5 BK382.1
  go_wp2
  repeat (go_quiet (fail); try go_wp2)
  go_roundg k1
  case measure => have := HK1.1; omega
  case rel => exact ⟨(wrap64 (x6_1 + 1)), prs, H', ⟨by have := HK1.1; omega⟩, ⟨pbk BK380.1⟩, ⟨pbk BK382.1⟩, ⟨pbg⟩⟩
 rw [if_neg c12] at H
 have c12b0 : decide (x6_1 < (l0_1.length : Int)) = false := decide_eq_false c12
 clear c12
 have H' := am H
 clear H
 have hnb21 := NB380_382.1
 have hnc21 := NB382_380.1
 obtain ⟨z22_0, z22_1, z22_2, y22_0, y22_1, y22_2⟩ := cf3 BK380.1
 go_wp2
 repeat (go_quiet (fail); try go_wp2)
 go_loopg [7] k1 (fun kq v7 w' => ∃ (x7_2 : Int), v7 = .int .i64 x7_2 ∧ Aside0 (r09_trans.l1 kq a1 x7_2 a0_0 l0_1 l0_2 ((rd_T48 l0_2 a1).f0) ((rd_T48 l0_2 a1).f1) ((rd_T48 l0_2 a1).f2) ((rd_T48 l0_2 a1).f3) ((rd_T48 l0_2 a1).f4) = some r) ∧ Aside0 (kq ≤ k1) ∧ Aside0 (w'.heap[gb380]? = some (.cells #[.string a0_0, (.slice A0_1 l0_1.length c0_1), (.slice (some ad381) l0_2.length c0_2)] 25 (0, 0))) ∧ Aside0 (w'.heap[gb382]? = some (.cells #[.string ((rd_T48 l0_2 a1).f0), (.slice A381_1 ((rd_T48 l0_2 a1).f1).length c381_1), (.slice A381_2 ((rd_T48 l0_2 a1).f2).length c381_2), (.slice A381_3 ((rd_T48 l0_2 a1).f3).length c381_3), .int .i64 ((rd_T48 l0_2 a1).f4)] 48 (0, 0))) ∧ Aside0 (Below w.heap.size w w'))
 case atStart => exact ⟨(0), prs, H', ⟨Nat.le_refl _⟩, ⟨pbk BK380.1⟩, ⟨pbk BK382.1⟩, ⟨pbg⟩⟩
 clear H'
 try clear c3 c3b0 c4 c4b0 c6 c12 c12b0 c13 c13b0 c14 c14b0 c14b1 z11_0 z11_1 z11_2 z11_3 z11_4 z16_0 z16_1 z16_2 z17_0 z17_1 z17_2 z17_3 z17_4 z19_0 z19_1 z19_2 z20_0 z20_1 z20_2 z20_3 z20_4 z22_0 z22_1 z22_2 z8_0 z8_1 z8_2 y11_0 y11_1 y11_2 y11_3 y11_4 y16_0 y16_1 y16_2 y17_0 y17_1 y17_2 y17_3 y17_4 y19_0 y19_1 y19_2 y20_0 y20_1 y20_2 y20_3 y20_4 y22_0 y22_1 y22_2 y8_0 y8_1 y8_2 hx381_0 hx381_1 hx381_2 hx381_3 hx381_4 hx384_0 hx384_1 hx384_2 p381 p384 q381 q384
 obtain ⟨x7_2, rfl, HA, HK2, BK380, BK382, HB⟩ := hrel
 obtain _ | k2 := gk
 ·exact absurd HA.1 (by simp [r09_trans.l1])
 have H := HA.1
 clear HA
 simp only [r09_trans.l1] at H
 by_cases c23 : x7_2 < a1
 ·rw [if_pos c23] at H
  have c23b0 : decide (x7_2 < a1) = true := decide_eq_true c23
  clear c23
  replace H := ifp H
  obtain ⟨c24, H⟩ := H
  have c24b0 := decide_eq_true c24
  clear c24
  replace H := ifp H
  obtain ⟨c25, H⟩ := H
  have c25b0 := decide_eq_true c25
  clear c25
  by_cases c26 : ((rd_T48 l0_2 x7_2).f0).toList = ((rd_T48 l0_2 a1).f0).toList
  ·rw [if_pos c26] at H
   have c26b0 : (((rd_T48 l0_2 x7_2).f0).toList == ((rd_T48 l0_2 a1).f0).toList) = true := beq_iff_eq.mpr c26
   have c26b1 : (((rd_T48 l0_2 x7_2).f0).toList != ((rd_T48 l0_2 a1).f0).toList) = false := bne_eq_false_iff_eq.mpr c26
   clear c26
   obtain rfl := Option.some.inj H
   have hnb27 := NB380_382.1
   have hnc27 := NB382_380.1
   obtain ⟨z28_0, z28_1, z28_2, y28_0, y28_1, y28_2⟩ := cf3 BK380.1
   obtain ⟨p385, q385, ad385, A385_1, c385_1, A385_2, c385_2, A385_3, c385_3, e385, hx385_0, hx385_1, hx385_2, hx385_3, hx385_4, HC385_1, HR385_1, HC385_2, HR385_2, HC385_3, HR385_3⟩ := bT48 HR0_2.1 HB.1 x7_2
   obtain rfl : ad381 = ad385 := (by injection e385)
   obtain ⟨z29_0, z29_1, z29_2, z29_3, z29_4, y29_0, y29_1, y29_2, y29_3, y29_4⟩ := cf5 BK382.1
   go_wp2
   repeat (go_quiet (fail); try go_wp2)
   go_ret
   exact ⟨per, pbg⟩
  rw [if_neg c26] at H
  have c26b0 : (((rd_T48 l0_2 x7_2).f0).toList == ((rd_T48 l0_2 a1).f0).toList) = false := beq_eq_false_iff_ne.mpr c26
  have c26b1 : (((rd_T48 l0_2 x7_2).f0).toList != ((rd_T48 l0_2 a1).f0).toList) = true := bne_iff_ne.mpr c26
  have H' := am H
  clear H
  have hnb30 := NB380_382.1
  have hnc30 := NB382_380.1
  obtain ⟨z31_0, z31_1, z31_2, y31_0, y31_1, y31_2⟩ := cf3 BK380.1
  obtain ⟨p385, q385, ad385, A385_1, c385_1, A385_2, c385_2, A385_3, c385_3, e385, hx385_0, hx385_1, hx385_2, hx385_3, hx385_4, HC385_1, HR385_1, HC385_2, HR385_2, HC385_3, HR385_3⟩ := bT48 HR0_2.1 HB.1 x7_2
  obtain rfl : ad381 = ad385 := (by injection e385)
  obtain ⟨z32_0, z32_1, z32_2, z32_3, z32_4, y32_0, y32_1, y32_2, y32_3, y32_4⟩ := cf5 BK382.1
  go_wp2
  repeat (go_quiet (fail); try go_wp2)
  go_roundg k2
  case measure => have := HK1.1; have := HK2.1; omega
  case rel => exact ⟨(wrap64 (x7_2 + 1)), prs, H', ⟨by have := HK1.1; have := HK2.1; omega⟩, ⟨pbk BK380.1⟩, ⟨pbk BK382.1⟩, ⟨pbg⟩⟩
 rw [if_neg c23] at H
 have c23b0 : decide (x7_2 < a1) = false := decide_eq_false c23
 clear c23
 have HC33 := am H
 clear H
 go_upto_region 14 with (fail)
 repeat (go_quiet (fail); go_upto_region 14 with (fail))
 go_cut [56] (fun v56 wc => ∃ (kq : Nat) (x56_32 : Bool), v56 = .bool x56_32 ∧ Aside0 (r09_trans.j2 kq x56_32 a0_0 l0_1 l0_2 ((rd_T48 l0_2 a1).f0) ((rd_T48 l0_2 a1).f1) ((rd_T48 l0_2 a1).f2) ((rd_T48 l0_2 a1).f3) ((rd_T48 l0_2 a1).f4) = some r) ∧ Aside0 (kq ≤ k2) ∧ Aside0 (wc.heap[gb380]? = some (.cells #[.string a0_0, (.slice A0_1 l0_1.length c0_1), (.slice (some ad381) l0_2.length c0_2)] 25 (0, 0))) ∧ Aside0 (wc.heap[gb382]? = some (.cells #[.string ((rd_T48 l0_2 a1).f0), (.slice A381_1 ((rd_T48 l0_2 a1).f1).length c381_1), (.slice A381_2 ((rd_T48 l0_2 a1).f2).length c381_2), (.slice A381_3 ((rd_T48 l0_2 a1).f3).length c381_3), .int .i64 ((rd_T48 l0_2 a1).f4)] 48 (0, 0))) ∧ Aside0 (Below w.heap.size w wc))
 case first =>
  have H := HC33.1
  clear HC33
  by_cases c34 : ((rd_T48 l0_2 a1).f4) < 0
  ·rw [if_pos c34] at H
   have c34b0 : decide (((rd_T48 l0_2 a1).f4) < 0) = true := decide_eq_true c34
   clear c34
   (first | rw [c34b0] | (simp only [i64_w, i32_w]; rw [c34b0]) | skip)
   have H' := am H
   clear H
   have hnb35 := NB382_380.1
   have hnc35 := NB380_382.1
   obtain ⟨z36_0, z36_1, z36_2, z36_3, z36_4, y36_0, y36_1, y36_2, y36_3, y36_4⟩ := cf5 BK382.1
   go_wp2
   repeat (go_quiet (fail); try go_wp2)
   go_meet
   case rel => exact ⟨_, (true), prs, H', ⟨by have := HK1.1; have := HK2.1; first | omega | exact Nat.le_refl _⟩, ⟨pbk BK380.1⟩, ⟨pbk BK382.1⟩, ⟨pbg⟩⟩
  rw [if_neg c34] at H
  have c34b0 : decide (((rd_T48 l0_2 a1).f4) < 0) = false := decide_eq_false c34
  clear c34
  (first | rw [c34b0] | (simp only [i64_w, i32_w]; rw [c34b0]) | skip)
  have H' := am H
  clear H
  have hnb37 := NB382_380.1
  have hnc37 := NB380_382.1
  obtain ⟨z38_0, z38_1, z38_2, z38_3, z38_4, y38_0, y38_1, y38_2, y38_3, y38_4⟩ := cf5 BK382.1
  go_wp2
  repeat (go_quiet (fail); try go_wp2)
  go_meet
  case rel => exact ⟨_, (decide (((rd_T48 l0_2 a1).f4) > 9)), prs, H', ⟨by have := HK1.1; have := HK2.1; first | omega | exact Nat.le_refl _⟩, ⟨pbk BK380.1⟩, ⟨pbk BK382.1⟩, ⟨pbg⟩⟩
 clear HC33
 try clear c3 c3b0 c4 c4b0 c6 c12 c12b0 c13 c13b0 c14 c14b0 c14b1 c23 c23b0 c24 c24b0 c25 c25b0 c26 c26b0 c26b1 c34 c34b0 z11_0 z11_1 z11_2 z11_3 z11_4 z16_0 z16_1 z16_2 z17_0 z17_1 z17_2 z17_3 z17_4 z19_0 z19_1 z19_2 z20_0 z20_1 z20_2 z20_3 z20_4 z22_0 z22_1 z22_2 z28_0 z28_1 z28_2 z29_0 z29_1 z29_2 z29_3 z29_4 z31_0 z31_1 z31_2 z32_0 z32_1 z32_2 z32_3 z32_4 z36_0 z36_1 z36_2 z36_3 z36_4 z38_0 z38_1 z38_2 z38_3 z38_4 z8_0 z8_1 z8_2 y11_0 y11_1 y11_2 y11_3 y11_4 y16_0 y16_1 y16_2 y17_0 y17_1 y17_2 y17_3 y17_4 y19_0 y19_1 y19_2 y20_0 y20_1 y20_2 y20_3 y20_4 y22_0 y22_1 y22_2 y28_0 y28_1 y28_2 y29_0 y29_1 y29_2 y29_3 y29_4 y31_0 y31_1 y31_2 y32_0 y32_1 y32_2 y32_3 y32_4 y36_0 y36_1 y36_2 y36_3 y36_4 y38_0 y38_1 y38_2 y38_3 y38_4 y8_0 y8_1 y8_2 hx381_0 hx381_1 hx381_2 hx381_3 hx381_4 hx384_0 hx384_1 hx384_2 hx385_0 hx385_1 hx385_2 hx385_3 hx385_4 p381 p384 p385 q381 q384 q385
 obtain ⟨kq, x56_32, rfl, HA, HJ32, BK380, BK382, HB⟩ := hcut
 obtain _ | kj32 := kq
 ·exact absurd HA.1 (by simp [r09_trans.j2])
 have H := HA.1
 clear HA
 simp only [r09_trans.j2] at H
 by_cases c39 : x56_32 = true
 ·subst c39
  rw [if_pos rfl] at H
  obtain rfl := Option.some.inj H
  go_wp2
  repeat (go_quiet (fail); try go_wp2)
  go_ret
  exact ⟨per, pbg⟩
 replace c39 := Bool.eq_false_iff.mpr c39
 subst c39
 rw [if_neg Bool.false_ne_true] at H
 replace H := bnd H
 obtain ⟨t386, A40, H⟩ := H
 (try dsimp only at H)
 by_cases c41 : t386 = 0
 rotate_left
 ·rw [if_neg c41] at H
  have c41b0 : (t386 == 0) = false := beq_eq_false_iff_ne.mpr c41
  have c41b1 : (t386 != 0) = true := bne_iff_ne.mpr c41
  obtain rfl := Option.some.inj H
  have hnb62 := NB380_382.1
  have hnc62 := NB382_380.1
  obtain ⟨z63_0, z63_1, z63_2, y63_0, y63_1, y63_2⟩ := cf3 BK380.1
  obtain ⟨z64_0, z64_1, z64_2, z64_3, z64_4, y64_0, y64_1, y64_2, y64_3, y64_4⟩ := cf5 BK382.1
  iterate 4 (try go_wp2_with (first | (go_at_call 78; (with_reducible refine (r09_arcs.calls kj32 a0_0 _ _ l0_1 _ _ l0_2 _ _ ((rd_T48 l0_2 a1).f1) t386 _ ?side1 ?side2 ?side3 ?side4 ?side5 ?side6 A40.1).mono ?_); (case side1 => exact csb HR0_1 HB); (case side2 => exact HC0_1.1); (case side3 => exact csb HR0_2 HB); (case side4 => exact HC0_2.1); (case side5 => exact csb HR381_1 HB); (case side6 => exact HC381_1.1); rintro e w65 ⟨rfl, hb⟩; replace BK380 := bbh BK380 hb; replace BK382 := bbh BK382 hb; replace HB := bst hb; (try clear hb))); try go_quiet (first | (go_at_call 78; (with_reducible refine (r09_arcs.calls kj32 a0_0 _ _ l0_1 _ _ l0_2 _ _ ((rd_T48 l0_2 a1).f1) t386 _ ?side1 ?side2 ?side3 ?side4 ?side5 ?side6 A40.1).mono ?_); (case side1 => exact csb HR0_1 HB); (case side2 => exact HC0_1.1); (case side3 => exact csb HR0_2 HB); (case side4 => exact HC0_2.1); (case side5 => exact csb HR381_1 HB); (case side6 => exact HC381_1.1); rintro e w65 ⟨rfl, hb⟩; replace BK380 := bbh BK380 hb; replace BK382 := bbh BK382 hb; replace HB := bst hb; (try clear hb))))
  go_ret
  exact ⟨per, pbg⟩
 rw [if_pos c41] at H
 have c41b0 : (t386 == 0) = true := beq_iff_eq.mpr c41
 have c41b1 : (t386 != 0) = false := bne_eq_false_iff_eq.mpr c41
 clear c41
 replace H := bnd H
 obtain ⟨t387, A42, H⟩ := H
 (try dsimp only at H)
 by_cases c43 : t387 = 0
 rotate_left
 ·rw [if_neg c43] at H
  have c43b0 : (t387 == 0) = false := beq_eq_false_iff_ne.mpr c43
  have c43b1 : (t387 != 0) = true := bne_iff_ne.mpr c43
  obtain rfl := Option.some.inj H
  have hnb55 := NB380_382.1
  have hnc55 := NB382_380.1
  obtain ⟨z56_0, z56_1, z56_2, y56_0, y56_1, y56_2⟩ := cf3 BK380.1
  obtain ⟨z57_0, z57_1, z57_2, z57_3, z57_4, y57_0, y57_1, y57_2, y57_3, y57_4⟩ := cf5 BK382.1
  iterate 4 (try go_wp2_with (first | (go_at_call 78; (with_reducible refine (r09_arcs.calls kj32 a0_0 _ _ l0_1 _ _ l0_2 _ _ ((rd_T48 l0_2 a1).f1) t386 _ ?side1 ?side2 ?side3 ?side4 ?side5 ?side6 A40.1).mono ?_); (case side1 => exact csb HR0_1 HB); (case side2 => exact HC0_1.1); (case side3 => exact csb HR0_2 HB); (case side4 => exact HC0_2.1); (case side5 => exact csb HR381_1 HB); (case side6 => exact HC381_1.1); rintro e w58 ⟨rfl, hb⟩; replace BK380 := bbh BK380 hb; replace BK382 := bbh BK382 hb; replace HB := bst hb; (try clear hb); obtain ⟨z59_0, z59_1, z59_2, y59_0, y59_1, y59_2⟩ := cf3 BK380.1; obtain ⟨z60_0, z60_1, z60_2, z60_3, z60_4, y60_0, y60_1, y60_2, y60_3, y60_4⟩ := cf5 BK382.1) | (go_at_call 78; (with_reducible refine (r09_arcs.calls kj32 a0_0 _ _ l0_1 _ _ l0_2 _ _ ((rd_T48 l0_2 a1).f2) t387 _ ?side1 ?side2 ?side3 ?side4 ?side5 ?side6 A42.1).mono ?_); (case side1 => exact csb HR0_1 HB); (case side2 => exact HC0_1.1); (case side3 => exact csb HR0_2 HB); (case side4 => exact HC0_2.1); (case side5 => exact csb HR381_2 HB); (case side6 => exact HC381_2.1); rintro e w61 ⟨rfl, hb⟩; replace BK380 := bbh BK380 hb; replace BK382 := bbh BK382 hb; replace HB := bst hb; (try clear hb))); try go_quiet (first | (go_at_call 78; (with_reducible refine (r09_arcs.calls kj32 a0_0 _ _ l0_1 _ _ l0_2 _ _ ((rd_T48 l0_2 a1).f1) t386 _ ?side1 ?side2 ?side3 ?side4 ?side5 ?side6 A40.1).mono ?_); (case side1 => exact csb HR0_1 HB); (case side2 => exact HC0_1.1); (case side3 => exact csb HR0_2 HB); (case side4 => exact HC0_2.1); (case side5 => exact csb HR381_1 HB); (case side6 => exact HC381_1.1); rintro e w58 ⟨rfl, hb⟩; replace BK380 := bbh BK380 hb; replace BK382 := bbh BK382 hb; replace HB := bst hb; (try clear hb); obtain ⟨z59_0, z59_1, z59_2, y59_0, y59_1, y59_2⟩ := cf3 BK380.1; obtain ⟨z60_0, z60_1, z60_2, z60_3, z60_4, y60_0, y60_1, y60_2, y60_3, y60_4⟩ := cf5 BK382.1) | (go_at_call 78; (with_reducible refine (r09_arcs.calls kj32 a0_0 _ _ l0_1 _ _ l0_2 _ _ ((rd_T48 l0_2 a1).f2) t387 _ ?side1 ?side2 ?side3 ?side4 ?side5 ?side6 A42.1).mono ?_); (case side1 => exact csb HR0_1 HB); (case side2 => exact HC0_1.1); (case side3 => exact csb HR0_2 HB); (case side4 => exact HC0_2.1); (case side5 => exact csb HR381_2 HB); (case side6 => exact HC381_2.1); rintro e w61 ⟨rfl, hb⟩; replace BK380 := bbh BK380 hb; replace BK382 := bbh BK382 hb; replace HB := bst hb; (try clear hb))))
  go_ret
  exact ⟨per, pbg⟩
 rw [if_pos c43] at H
 have c43b0 : (t387 == 0) = true := beq_iff_eq.mpr c43
 have c43b1 : (t387 != 0) = false := bne_eq_false_iff_eq.mpr c43
 clear c43
 replace H := bnd H
 obtain ⟨t388, A44, H⟩ := H
 (try dsimp only at H)
 obtain rfl := Option.some.inj H
 have hnb45 := NB380_382.1
 have hnc45 := NB382_380.1
 obtain ⟨z46_0, z46_1, z46_2, y46_0, y46_1, y46_2⟩ := cf3 BK380.1
 obtain ⟨z47_0, z47_1, z47_2, z47_3, z47_4, y47_0, y47_1, y47_2, y47_3, y47_4⟩ := cf5 BK382.1
 iterate 4 (try go_wp2_with (first | (go_at_call 78; (with_reducible refine (r09_arcs.calls kj32 a0_0 _ _ l0_1 _ _ l0_2 _ _ ((rd_T48 l0_2 a1).f1) t386 _ ?side1 ?side2 ?side3 ?side4 ?side5 ?side6 A40.1).mono ?_); (case side1 => exact csb HR0_1 HB); (case side2 => exact HC0_1.1); (case side3 => exact csb HR0_2 HB); (case side4 => exact HC0_2.1); (case side5 => exact csb HR381_1 HB); (case side6 => exact HC381_1.1); rintro e w48 ⟨rfl, hb⟩; replace BK380 := bbh BK380 hb; replace BK382 := bbh BK382 hb; replace HB := bst hb; (try clear hb); obtain ⟨z49_0, z49_1, z49_2, y49_0, y49_1, y49_2⟩ := cf3 BK380.1; obtain ⟨z50_0, z50_1, z50_2, z50_3, z50_4, y50_0, y50_1, y50_2, y50_3, y50_4⟩ := cf5 BK382.1) | (go_at_call 78; (with_reducible refine (r09_arcs.calls kj32 a0_0 _ _ l0_1 _ _ l0_2 _ _ ((rd_T48 l0_2 a1).f2) t387 _ ?side1 ?side2 ?side3 ?side4 ?side5 ?side6 A42.1).mono ?_); (case side1 => exact csb HR0_1 HB); (case side2 => exact HC0_1.1); (case side3 => exact csb HR0_2 HB); (case side4 => exact HC0_2.1); (case side5 => exact csb HR381_2 HB); (case side6 => exact HC381_2.1); rintro e w51 ⟨rfl, hb⟩; replace BK380 := bbh BK380 hb; replace BK382 := bbh BK382 hb; replace HB := bst hb; (try clear hb); obtain ⟨z52_0, z52_1, z52_2, y52_0, y52_1, y52_2⟩ := cf3 BK380.1; obtain ⟨z53_0, z53_1, z53_2, z53_3, z53_4, y53_0, y53_1, y53_2, y53_3, y53_4⟩ := cf5 BK382.1) | (go_at_call 78; (with_reducible refine (r09_arcs.calls kj32 a0_0 _ _ l0_1 _ _ l0_2 _ _ ((rd_T48 l0_2 a1).f3) t388 _ ?side1 ?side2 ?side3 ?side4 ?side5 ?side6 A44.1).mono ?_); (case side1 => exact csb HR0_1 HB); (case side2 => exact HC0_1.1); (case side3 => exact csb HR0_2 HB); (case side4 => exact HC0_2.1); (case side5 => exact csb HR381_3 HB); (case side6 => exact HC381_3.1); rintro e w54 ⟨rfl, hb⟩; replace BK380 := bbh BK380 hb; replace BK382 := bbh BK382 hb; replace HB := bst hb; (try clear hb))); try go_quiet (first | (go_at_call 78; (with_reducible refine (r09_arcs.calls kj32 a0_0 _ _ l0_1 _ _ l0_2 _ _ ((rd_T48 l0_2 a1).f1) t386 _ ?side1 ?side2 ?side3 ?side4 ?side5 ?side6 A40.1).mono ?_); (case side1 => exact csb HR0_1 HB); (case side2 => exact HC0_1.1); (case side3 => exact csb HR0_2 HB); (case side4 => exact HC0_2.1); (case side5 => exact csb HR381_1 HB); (case side6 => exact HC381_1.1); rintro e w48 ⟨rfl, hb⟩; replace BK380 := bbh BK380 hb; replace BK382 := bbh BK382 hb; replace HB := bst hb; (try clear hb); obtain ⟨z49_0, z49_1, z49_2, y49_0, y49_1, y49_2⟩ := cf3 BK380.1; obtain ⟨z50_0, z50_1, z50_2, z50_3, z50_4, y50_0, y50_1, y50_2, y50_3, y50_4⟩ := cf5 BK382.1) | (go_at_call 78; (with_reducible refine (r09_arcs.calls kj32 a0_0 _ _ l0_1 _ _ l0_2 _ _ ((rd_T48 l0_2 a1).f2) t387 _ ?side1 ?side2 ?side3 ?side4 ?side5 ?side6 A42.1).mono ?_); (case side1 => exact csb HR0_1 HB); (case side2 => exact HC0_1.1); (case side3 => exact csb HR0_2 HB); (case side4 => exact HC0_2.1); (case side5 => exact csb HR381_2 HB); (case side6 => exact HC381_2.1); rintro e w51 ⟨rfl, hb⟩; replace BK380 := bbh BK380 hb; replace BK382 := bbh BK382 hb; replace HB := bst hb; (try clear hb); obtain ⟨z52_0, z52_1, z52_2, y52_0, y52_1, y52_2⟩ := cf3 BK380.1; obtain ⟨z53_0, z53_1, z53_2, z53_3, z53_4, y53_0, y53_1, y53_2, y53_3, y53_4⟩ := cf5 BK382.1) | (go_at_call 78; (with_reducible refine (r09_arcs.calls kj32 a0_0 _ _ l0_1 _ _ l0_2 _ _ ((rd_T48 l0_2 a1).f3) t388 _ ?side1 ?side2 ?side3 ?side4 ?side5 ?side6 A44.1).mono ?_); (case side1 => exact csb HR0_1 HB); (case side2 => exact HC0_1.1); (case side3 => exact csb HR0_2 HB); (case side4 => exact HC0_2.1); (case side5 => exact csb HR381_3 HB); (case side6 => exact HC381_3.1); rintro e w54 ⟨rfl, hb⟩; replace BK380 := bbh BK380 hb; replace BK382 := bbh BK382 hb; replace HB := bst hb; (try clear hb))))
 go_ret
 exact ⟨per, pbg⟩

/-! ### r09_Check: function 41 -/
mutual
def r09_Check.j0 : Nat → Bool → ByteArray → List (S52) → List (S48) → Option (Int × Int)
 | 0, _, _, _, _ => none
 | k + 1, x27, x390000, x390001, x390002 => if x27 = true then (some (2, 0)) else (r09_Check.l0 k 0 x390000 x390001 x390002)
def r09_Check.l0 : Nat → Int → ByteArray → List (S52) → List (S48) → Option (Int × Int)
 | 0, _, _, _, _ => none
 | k + 1, x3, x390000, x390001, x390002 => if x3 < (x390001.length : Int) then ((r09_place.f k x390000 x390001 x390002 x3).bind fun t392 => (if t392 = 0 then (r09_Check.l0 k (wrap64 (x3 + 1)) x390000 x390001 x390002) else (some (t392, x3)))) else (r09_Check.l1 k 0 x390000 x390001 x390002)
def r09_Check.l1 : Nat → Int → ByteArray → List (S52) → List (S48) → Option (Int × Int)
 | 0, _, _, _, _ => none
 | k + 1, x5, x390000, x390001, x390002 => if x5 < (x390002.length : Int) then ((r09_trans.f k x390000 x390001 x390002 x5).bind fun t393 => (if t393 = 0 then (r09_Check.l1 k (wrap64 (x5 + 1)) x390000 x390001 x390002) else (some (t393, wrap64 ((x390001.length : Int) + x5))))) else (some (0, 0))
end
def r09_Check.f (k : Nat) (a0_0 : ByteArray) (l0_1 : List (S52)) (l0_2 : List (S48)) : Option (Int × Int) := (r09_Name.f k a0_0).bind fun t391 => (if t391 = true then (if (l0_1.length : Int) < 1 then (r09_Check.j0 k true a0_0 l0_1 l0_2) else (if (l0_1.length : Int) > 24 then (r09_Check.j0 k true a0_0 l0_1 l0_2) else (r09_Check.j0 k (decide ((l0_2.length : Int) > 24)) a0_0 l0_1 l0_2))) else (some (5, 0)))
theorem r09_Check.mono_l : ∀ k, M4 r09_Check.j0 k ∧ M4 r09_Check.l0 k ∧ M4 r09_Check.l1 k
 | 0 => ⟨fun _ _ _ _ r h => by simp [r09_Check.j0] at h, fun _ _ _ _ r h => by simp [r09_Check.l0] at h, fun _ _ _ _ r h => by simp [r09_Check.l1] at h⟩
 | k + 1 => by
  obtain ⟨ih0, ih1, ih2⟩ := r09_Check.mono_l k
  refine ⟨?_, ?_, ?_⟩ <;> dsimp only [M4] <;> intros <;> (first | unfold r09_Check.j0 | unfold r09_Check.l0 | unfold r09_Check.l1) <;> repeat' first | (with_reducible first | apply ih0 | apply ih1 | apply ih2 | apply r09_Name.mono | apply r09_place.mono | apply r09_trans.mono | apply lr | apply ln | apply li | refine lb ?_ fun _ => ?_)
theorem r09_Check.mono : ∀ a0 a1 a2 k, LeO (r09_Check.f k a0 a1 a2) (r09_Check.f (k + 1) a0 a1 a2) := by
 intro a0 a1 a2 k
 obtain ⟨ih0, ih1, ih2⟩ := r09_Check.mono_l k
 unfold r09_Check.f
 repeat' first | (with_reducible first | apply ih0 | apply ih1 | apply ih2 | apply r09_Name.mono | apply r09_place.mono | apply r09_trans.mono | apply lr | apply ln | apply li | refine lb ?_ fun _ => ?_)
set_option maxHeartbeats 8000000 in
set_option maxRecDepth 100000 in
theorem r09_Check.calls (k : Nat) (a0_0 : ByteArray) (A0_1 : Option Addr) (c0_1 : Nat) (l0_1 : List (S52)) (A0_2 : Option Addr) (c0_2 : Nat) (l0_2 : List (S48)) (r1 : Int) (r2 : Int) (w : World) (hr0_1 : Kd.C k52 w A0_1 l0_1.length l0_1) (hc0_1 : l0_1.length ≤ c0_1) (hr0_2 : Kd.C k48 w A0_2 l0_2.length l0_2) (hc0_2 : l0_2.length ≤ c0_2) (h : r09_Check.f k a0_0 l0_1 l0_2 = some (r1, r2)) :
  Calls Try.prog 41 #[.agg #[.string a0_0, .slice A0_1 l0_1.length c0_1, .slice A0_2 l0_2.length c0_2]] w fun e w' => e = .returned (.agg #[.int .i64 r1, .int .i64 r2]) ∧ Below w.heap.size w w' := by
 have hu25 := Try.underlying25
 have hu60 := Try.underlying60
 have HR0_1 := am hr0_1
 have HC0_1 := am hc0_1
 clear hr0_1 hc0_1
 have HR0_2 := am hr0_2
 have HC0_2 := am hc0_2
 clear hr0_2 hc0_2
 have HB := am (Below.refl w.heap.size w)
 have H : ((r09_Name.f k a0_0).bind fun t391 => (if t391 = true then (if (l0_1.length : Int) < 1 then (r09_Check.j0 k true a0_0 l0_1 l0_2) else (if (l0_1.length : Int) > 24 then (r09_Check.j0 k true a0_0 l0_1 l0_2) else (r09_Check.j0 k (decide ((l0_2.length : Int) > 24)) a0_0 l0_1 l0_2))) else (some (5, 0)))) = some (r1, r2) := h
 clear h
 replace H := bnd H
 obtain ⟨t391, A2, H⟩ := H
 (try dsimp only at H)
 by_cases c3 : t391 = true
 rotate_left
 ·replace c3 := Bool.eq_false_iff.mpr c3
  subst c3
  rw [if_neg Bool.false_ne_true] at H
  simp only [Option.some.injEq, Prod.mk.injEq] at H
  obtain ⟨rfl, rfl⟩ := H
  go_enter Try.func41, Try.ntmps41
  go_wp2_with (first | ((with_reducible refine gate_dst (N := 1) rfl ?_); (try (refine gate_guard (by rfl) ?_; dsimp only)); refine box_ev (N := 1) (cs := #[.string a0_0, .slice A0_1 l0_1.length c0_1, .slice A0_2 l0_2.length c0_2]) (t := 25) ?_; intro gb389 hg w46 hbox hb; have BK389 := am hbox; have GW389 := gwl hg; have GE389 := GW389; replace HB := bsl hb; clear hb hbox hg) | ((with_reducible refine gate_dst (N := 2) rfl ?_); (try (refine gate_guard (by rfl) ?_; dsimp only)); refine box_ev (N := 2) (cs := #[.int .i64 0, .int .i64 0]) (t := 60) ?_; intro gb390 hg w47 hbox hb; have BK390 := am hbox; have GW390 := gwb hg; have GE390 := GW390; have NB389_390 := nlt hg BK389; have NB390_389 := ngt hg BK389; replace BK389 := bbh BK389 hb; replace HB := bst hb; clear hb hbox hg; have hnb48 := NB389_390.1; have hnc48 := NB390_389.1; obtain ⟨z49_0, z49_1, z49_2, y49_0, y49_1, y49_2⟩ := cf3 BK389.1) | ((with_reducible refine gate_callee (f := 65) rfl ?_); refine gC 9 Try.func65 _ (r09_Name.calls k a0_0 false _ A2.1) ?_; rintro e w' ⟨rfl, ⟨nd, rfl⟩⟩; refine ⟨_, rfl, ?_⟩; (try (rw [drewN_self w47]; generalize hq_ : World.drewN w47 _ = w47; replace BK389 : Aside0 (w47.heap[gb389]? = some (.cells #[.string a0_0, .slice A0_1 l0_1.length c0_1, .slice A0_2 l0_2.length c0_2] 25 (0, 0))) := ⟨by rw [← hq_]; exact (by exact pbk BK389.1)⟩; replace BK390 : Aside0 (w47.heap[gb390]? = some (.cells #[.int .i64 0, .int .i64 0] 60 (0, 0))) := ⟨by rw [← hq_]; exact (by exact pbk BK390.1)⟩; replace HB : Aside0 (Below w.heap.size w w47) := ⟨by rw [← hq_]; exact pbg⟩; clear hq_)); obtain ⟨z50_0, z50_1, y50_0, y50_1⟩ := cf2 BK390.1))
  refine bodyPost_ret (results_cell_row rfl _ _ gb390 60 #[.int .i64 5, .int .i64 0] (0, 0) _ rfl (by (with_reducible repeat (first | refine blk_drewN ?_ _ | refine blk_drew ?_ | refine blk_alloc ?_ _)); exact bp2 (pbk BK390.1)) Try.underlying60 rfl (by kernel_rfl)) rfl ?_
  exact ⟨per, pbg⟩
 subst c3
 rw [if_pos rfl] at H
 have HC4 := am H
 clear H
 go_enter Try.func41, Try.ntmps41
 go_upto_region 3 with (first | ((with_reducible refine gate_dst (N := 1) rfl ?_); (try (refine gate_guard (by rfl) ?_; dsimp only)); refine box_ev (N := 1) (cs := #[.string a0_0, .slice A0_1 l0_1.length c0_1, .slice A0_2 l0_2.length c0_2]) (t := 25) ?_; intro gb389 hg w5 hbox hb; have BK389 := am hbox; have GW389 := gwl hg; have GE389 := GW389; replace HB := bsl hb; clear hb hbox hg) | ((with_reducible refine gate_dst (N := 2) rfl ?_); (try (refine gate_guard (by rfl) ?_; dsimp only)); refine box_ev (N := 2) (cs := #[.int .i64 0, .int .i64 0]) (t := 60) ?_; intro gb390 hg w6 hbox hb; have BK390 := am hbox; have GW390 := gwb hg; have GE390 := GW390; have NB389_390 := nlt hg BK389; have NB390_389 := ngt hg BK389; replace BK389 := bbh BK389 hb; replace HB := bst hb; clear hb hbox hg; have hnb7 := NB389_390.1; have hnc7 := NB390_389.1; obtain ⟨z8_0, z8_1, z8_2, y8_0, y8_1, y8_2⟩ := cf3 BK389.1) | ((with_reducible refine gate_callee (f := 65) rfl ?_); refine gC 9 Try.func65 _ (r09_Name.calls k a0_0 true _ A2.1) ?_; rintro e w' ⟨rfl, ⟨nd, rfl⟩⟩; refine ⟨_, rfl, ?_⟩))
 (try simp only [Act.put, List.setIfInBounds_toArray, List.set_cons_zero, List.set_cons_succ])
 go_cut [27] (fun v27 wc => ∃ (kq : Nat) (x27_3 : Bool), v27 = .bool x27_3 ∧ Aside0 (r09_Check.j0 kq x27_3 a0_0 l0_1 l0_2 = some (r1, r2)) ∧ Aside0 (kq ≤ k) ∧ Aside0 (wc.heap[gb389]? = some (.cells #[.string a0_0, (.slice A0_1 l0_1.length c0_1), (.slice A0_2 l0_2.length c0_2)] 25 (0, 0))) ∧ Aside0 (wc.heap[gb390]? = some (.cells #[.int .i64 0, .int .i64 0] 60 (0, 0))) ∧ Aside0 (Below w.heap.size w wc))
 case first =>
  have H := HC4.1
  clear HC4
  by_cases c9 : (l0_1.length : Int) < 1
  ·rw [if_pos c9] at H
   have c9b0 : decide ((l0_1.length : Int) < 1) = true := decide_eq_true c9
   have c9b1 : decide (l0_1.length < 1) = true := decide_eq_true (by omega)
   clear c9
   (first | rw [c9b0] | (simp only [i64_w, i32_w]; rw [c9b0]) | skip)
   have H' := am H
   clear H
   have hnb10 := NB389_390.1
   have hnc10 := NB390_389.1
   obtain ⟨z11_0, z11_1, z11_2, y11_0, y11_1, y11_2⟩ := cf3 BK389.1
   go_wp2
   go_meet
   case rel => exact ⟨_, (true), prs, H', ⟨by first | omega | exact Nat.le_refl _⟩, ⟨pbk BK389.1⟩, ⟨pbk BK390.1⟩, ⟨pbg⟩⟩
  rw [if_neg c9] at H
  have c9b0 : decide ((l0_1.length : Int) < 1) = false := decide_eq_false c9
  have c9b1 : decide (l0_1.length < 1) = false := decide_eq_false (by omega)
  clear c9
  (first | rw [c9b0] | (simp only [i64_w, i32_w]; rw [c9b0]) | skip)
  by_cases c12 : (l0_1.length : Int) > 24
  ·rw [if_pos c12] at H
   have c12b0 : decide (24 < (l0_1.length : Int)) = true := decide_eq_true c12
   have c12b1 : decide (24 < l0_1.length) = true := decide_eq_true (by omega)
   clear c12
   have H' := am H
   clear H
   have hnb13 := NB389_390.1
   have hnc13 := NB390_389.1
   obtain ⟨z14_0, z14_1, z14_2, y14_0, y14_1, y14_2⟩ := cf3 BK389.1
   go_wp2
   go_meet
   case rel => exact ⟨_, (true), prs, H', ⟨by first | omega | exact Nat.le_refl _⟩, ⟨pbk BK389.1⟩, ⟨pbk BK390.1⟩, ⟨pbg⟩⟩
  rw [if_neg c12] at H
  have c12b0 : decide (24 < (l0_1.length : Int)) = false := decide_eq_false c12
  have c12b1 : decide (24 < l0_1.length) = false := decide_eq_false (by omega)
  clear c12
  have H' := am H
  clear H
  have hnb15 := NB389_390.1
  have hnc15 := NB390_389.1
  obtain ⟨z16_0, z16_1, z16_2, y16_0, y16_1, y16_2⟩ := cf3 BK389.1
  go_wp2
  go_meet
  case rel => exact ⟨_, (decide ((l0_2.length : Int) > 24)), prs, H', ⟨by first | omega | exact Nat.le_refl _⟩, ⟨pbk BK389.1⟩, ⟨pbk BK390.1⟩, ⟨pbg⟩⟩
 clear HC4
 try clear c3 c9 c9b0 c9b1 c12 c12b0 c12b1 z11_0 z11_1 z11_2 z14_0 z14_1 z14_2 z16_0 z16_1 z16_2 z8_0 z8_1 z8_2 y11_0 y11_1 y11_2 y14_0 y14_1 y14_2 y16_0 y16_1 y16_2 y8_0 y8_1 y8_2
 obtain ⟨kq, x27_3, rfl, HA, HJ3, BK389, BK390, HB⟩ := hcut
 obtain _ | kj3 := kq
 ·exact absurd HA.1 (by simp [r09_Check.j0])
 have H := HA.1
 clear HA
 simp only [r09_Check.j0] at H
 by_cases c17 : x27_3 = true
 ·subst c17
  rw [if_pos rfl] at H
  simp only [Option.some.injEq, Prod.mk.injEq] at H
  obtain ⟨rfl, rfl⟩ := H
  have hnb18 := NB390_389.1
  have hnc18 := NB389_390.1
  obtain ⟨z19_0, z19_1, y19_0, y19_1⟩ := cf2 BK390.1
  go_wp2
  refine bodyPost_ret (results_cell_row rfl _ _ gb390 60 #[.int .i64 2, .int .i64 0] (0, 0) _ rfl (by (with_reducible repeat (first | refine blk_drewN ?_ _ | refine blk_drew ?_ | refine blk_alloc ?_ _)); exact bp2 (pbk BK390.1)) Try.underlying60 rfl (by kernel_rfl)) rfl ?_
  exact ⟨per, pbg⟩
 replace c17 := Bool.eq_false_iff.mpr c17
 subst c17
 rw [if_neg Bool.false_ne_true] at H
 have H' := am H
 clear H
 go_wp2
 go_loopg [3] kj3 (fun kq v3 w' => ∃ (x3_2 : Int) (x391000_2 : Int) (x391001_2 : Int), v3 = .int .i64 x3_2 ∧ Aside0 (r09_Check.l0 kq x3_2 a0_0 l0_1 l0_2 = some (r1, r2)) ∧ Aside0 (kq ≤ kj3) ∧ Aside0 (w'.heap[gb389]? = some (.cells #[.string a0_0, (.slice A0_1 l0_1.length c0_1), (.slice A0_2 l0_2.length c0_2)] 25 (0, 0))) ∧ Aside0 (w'.heap[gb390]? = some (.cells #[.int .i64 x391000_2, .int .i64 x391001_2] 60 (0, 0))) ∧ Aside0 (Below w.heap.size w w'))
 case atStart => exact ⟨(0), (0), (0), prs, H', ⟨Nat.le_refl _⟩, ⟨pbk BK389.1⟩, ⟨pbk BK390.1⟩, ⟨pbg⟩⟩
 clear H'
 try clear c3 c9 c9b0 c9b1 c12 c12b0 c12b1 c17 z11_0 z11_1 z11_2 z14_0 z14_1 z14_2 z16_0 z16_1 z16_2 z19_0 z19_1 z8_0 z8_1 z8_2 y11_0 y11_1 y11_2 y14_0 y14_1 y14_2 y16_0 y16_1 y16_2 y19_0 y19_1 y8_0 y8_1 y8_2
 obtain ⟨x3_2, x391000_2, x391001_2, rfl, HA, HK2, BK389, BK390, HB⟩ := hrel
 obtain _ | k2 := gk
 ·exact absurd HA.1 (by simp [r09_Check.l0])
 have H := HA.1
 clear HA
 simp only [r09_Check.l0] at H
 by_cases c20 : x3_2 < (l0_1.length : Int)
 ·rw [if_pos c20] at H
  have c20b0 : decide (x3_2 < (l0_1.length : Int)) = true := decide_eq_true c20
  clear c20
  replace H := bnd H
  obtain ⟨t392, A21, H⟩ := H
  (try dsimp only at H)
  by_cases c22 : t392 = 0
  ·rw [if_pos c22] at H
   have c22b0 : (t392 == 0) = true := beq_iff_eq.mpr c22
   have c22b1 : (t392 != 0) = false := bne_eq_false_iff_eq.mpr c22
   clear c22
   have H' := am H
   clear H
   have hnb23 := NB389_390.1
   have hnc23 := NB390_389.1
   obtain ⟨z24_0, z24_1, z24_2, y24_0, y24_1, y24_2⟩ := cf3 BK389.1
   go_wp2_with (first | ((with_reducible refine gate_callee (f := 66) rfl ?_); refine gC 38 Try.func66 _ (r09_place.calls k2 a0_0 _ _ l0_1 _ _ l0_2 x3_2 t392 _ (csb HR0_1 HB) HC0_1.1 (csb HR0_2 HB) HC0_2.1 A21.1) ?_; rintro e w25 ⟨rfl, hb⟩; refine ⟨_, rfl, ?_⟩; replace BK389 := bbh BK389 hb; replace BK390 := bbh BK390 hb; replace HB := bst hb; (try clear hb)))
   go_roundg k2
   case measure => have := HJ3.1; have := HK2.1; omega
   case rel => exact ⟨(wrap64 (x3_2 + 1)), (x391000_2), (x391001_2), prs, H', ⟨by have := HJ3.1; have := HK2.1; omega⟩, ⟨pbk BK389.1⟩, ⟨pbk BK390.1⟩, ⟨pbg⟩⟩
  rw [if_neg c22] at H
  have c22b0 : (t392 == 0) = false := beq_eq_false_iff_ne.mpr c22
  have c22b1 : (t392 != 0) = true := bne_iff_ne.mpr c22
  simp only [Option.some.injEq, Prod.mk.injEq] at H
  obtain ⟨rfl, rfl⟩ := H
  have hnb26 := NB389_390.1
  have hnc26 := NB390_389.1
  obtain ⟨z27_0, z27_1, z27_2, y27_0, y27_1, y27_2⟩ := cf3 BK389.1
  go_wp2_with (first | ((with_reducible refine gate_callee (f := 66) rfl ?_); refine gC 38 Try.func66 _ (r09_place.calls k2 a0_0 _ _ l0_1 _ _ l0_2 x3_2 t392 _ (csb HR0_1 HB) HC0_1.1 (csb HR0_2 HB) HC0_2.1 A21.1) ?_; rintro e w28 ⟨rfl, hb⟩; refine ⟨_, rfl, ?_⟩; replace BK389 := bbh BK389 hb; replace BK390 := bbh BK390 hb; replace HB := bst hb; (try clear hb); obtain ⟨z29_0, z29_1, y29_0, y29_1⟩ := cf2 BK390.1))
  refine bodyPost_ret (results_cell_row rfl _ _ gb390 60 #[.int .i64 t392, .int .i64 x3_2] (0, 0) _ rfl (by (with_reducible repeat (first | refine blk_drewN ?_ _ | refine blk_drew ?_ | refine blk_alloc ?_ _)); exact bp2 (pbk BK390.1)) Try.underlying60 rfl (by kernel_rfl)) rfl ?_
  exact ⟨per, pbg⟩
 rw [if_neg c20] at H
 have c20b0 : decide (x3_2 < (l0_1.length : Int)) = false := decide_eq_false c20
 clear c20
 have H' := am H
 clear H
 have hnb30 := NB389_390.1
 have hnc30 := NB390_389.1
 obtain ⟨z31_0, z31_1, z31_2, y31_0, y31_1, y31_2⟩ := cf3 BK389.1
 go_wp2
 go_loopg [5] k2 (fun kq v5 w' => ∃ (x5_3 : Int) (x391000_3 : Int) (x391001_3 : Int), v5 = .int .i64 x5_3 ∧ Aside0 (r09_Check.l1 kq x5_3 a0_0 l0_1 l0_2 = some (r1, r2)) ∧ Aside0 (kq ≤ k2) ∧ Aside0 (w'.heap[gb389]? = some (.cells #[.string a0_0, (.slice A0_1 l0_1.length c0_1), (.slice A0_2 l0_2.length c0_2)] 25 (0, 0))) ∧ Aside0 (w'.heap[gb390]? = some (.cells #[.int .i64 x391000_3, .int .i64 x391001_3] 60 (0, 0))) ∧ Aside0 (Below w.heap.size w w'))
 case atStart => exact ⟨(0), (x391000_2), (x391001_2), prs, H', ⟨Nat.le_refl _⟩, ⟨pbk BK389.1⟩, ⟨pbk BK390.1⟩, ⟨pbg⟩⟩
 clear H'
 try clear c3 c9 c9b0 c9b1 c12 c12b0 c12b1 c17 c20 c20b0 c22 c22b0 c22b1 z11_0 z11_1 z11_2 z14_0 z14_1 z14_2 z16_0 z16_1 z16_2 z19_0 z19_1 z24_0 z24_1 z24_2 z27_0 z27_1 z27_2 z29_0 z29_1 z31_0 z31_1 z31_2 z8_0 z8_1 z8_2 y11_0 y11_1 y11_2 y14_0 y14_1 y14_2 y16_0 y16_1 y16_2 y19_0 y19_1 y24_0 y24_1 y24_2 y27_0 y27_1 y27_2 y29_0 y29_1 y31_0 y31_1 y31_2 y8_0 y8_1 y8_2
 obtain ⟨x5_3, x391000_3, x391001_3, rfl, HA, HK3, BK389, BK390, HB⟩ := hrel
 obtain _ | k3 := gk
 ·exact absurd HA.1 (by simp [r09_Check.l1])
 have H := HA.1
 clear HA
 simp only [r09_Check.l1] at H
 by_cases c32 : x5_3 < (l0_2.length : Int)
 rotate_left
 ·rw [if_neg c32] at H
  have c32b0 : decide (x5_3 < (l0_2.length : Int)) = false := decide_eq_false c32
  clear c32
  simp only [Option.some.injEq, Prod.mk.injEq] at H
  obtain ⟨rfl, rfl⟩ := H
  have hnb43 := NB389_390.1
  have hnc43 := NB390_389.1
  obtain ⟨z44_0, z44_1, z44_2, y44_0, y44_1, y44_2⟩ := cf3 BK389.1
  obtain ⟨z45_0, z45_1, y45_0, y45_1⟩ := cf2 BK390.1
  go_wp2
  refine bodyPost_ret (results_cell_row rfl _ _ gb390 60 #[.int .i64 0, .int .i64 0] (0, 0) _ rfl (by (with_reducible repeat (first | refine blk_drewN ?_ _ | refine blk_drew ?_ | refine blk_alloc ?_ _)); exact bp2 (pbk BK390.1)) Try.underlying60 rfl (by kernel_rfl)) rfl ?_
  exact ⟨per, pbg⟩
 rw [if_pos c32] at H
 have c32b0 : decide (x5_3 < (l0_2.length : Int)) = true := decide_eq_true c32
 clear c32
 replace H := bnd H
 obtain ⟨t393, A33, H⟩ := H
 (try dsimp only at H)
 by_cases c34 : t393 = 0
 ·rw [if_pos c34] at H
  have c34b0 : (t393 == 0) = true := beq_iff_eq.mpr c34
  have c34b1 : (t393 != 0) = false := bne_eq_false_iff_eq.mpr c34
  clear c34
  have H' := am H
  clear H
  have hnb35 := NB389_390.1
  have hnc35 := NB390_389.1
  obtain ⟨z36_0, z36_1, z36_2, y36_0, y36_1, y36_2⟩ := cf3 BK389.1
  go_wp2_with (first | ((with_reducible refine gate_callee (f := 67) rfl ?_); refine gC 53 Try.func67 _ (r09_trans.calls k3 a0_0 _ _ l0_1 _ _ l0_2 x5_3 t393 _ (csb HR0_1 HB) HC0_1.1 (csb HR0_2 HB) HC0_2.1 A33.1) ?_; rintro e w37 ⟨rfl, hb⟩; refine ⟨_, rfl, ?_⟩; replace BK389 := bbh BK389 hb; replace BK390 := bbh BK390 hb; replace HB := bst hb; (try clear hb)))
  go_roundg k3
  case measure => have := HJ3.1; have := HK2.1; have := HK3.1; omega
  case rel => exact ⟨(wrap64 (x5_3 + 1)), (x391000_3), (x391001_3), prs, H', ⟨by have := HJ3.1; have := HK2.1; have := HK3.1; omega⟩, ⟨pbk BK389.1⟩, ⟨pbk BK390.1⟩, ⟨pbg⟩⟩
 rw [if_neg c34] at H
 have c34b0 : (t393 == 0) = false := beq_eq_false_iff_ne.mpr c34
 have c34b1 : (t393 != 0) = true := bne_iff_ne.mpr c34
 simp only [Option.some.injEq, Prod.mk.injEq] at H
 obtain ⟨rfl, rfl⟩ := H
 have hnb38 := NB389_390.1
 have hnc38 := NB390_389.1
 obtain ⟨z39_0, z39_1, z39_2, y39_0, y39_1, y39_2⟩ := cf3 BK389.1
 go_wp2_with (first | ((with_reducible refine gate_callee (f := 67) rfl ?_); refine gC 53 Try.func67 _ (r09_trans.calls k3 a0_0 _ _ l0_1 _ _ l0_2 x5_3 t393 _ (csb HR0_1 HB) HC0_1.1 (csb HR0_2 HB) HC0_2.1 A33.1) ?_; rintro e w40 ⟨rfl, hb⟩; refine ⟨_, rfl, ?_⟩; replace BK389 := bbh BK389 hb; replace BK390 := bbh BK390 hb; replace HB := bst hb; (try clear hb); obtain ⟨z41_0, z41_1, z41_2, y41_0, y41_1, y41_2⟩ := cf3 BK389.1; obtain ⟨z42_0, z42_1, y42_0, y42_1⟩ := cf2 BK390.1))
 refine bodyPost_ret (results_cell_row rfl _ _ gb390 60 #[.int .i64 t393, .int .i64 (wrap64 ((l0_1.length : Int) + x5_3))] (0, 0) _ rfl (by (with_reducible repeat (first | refine blk_drewN ?_ _ | refine blk_drew ?_ | refine blk_alloc ?_ _)); exact bp2 (pbk BK390.1)) Try.underlying60 rfl (by kernel_rfl)) rfl ?_
 exact ⟨per, pbg⟩

/-! ### r09_Valid: function 56 -/
def r09_Valid.f (k : Nat) (a0_0 : ByteArray) (l0_1 : List (S52)) (l0_2 : List (S48)) : Option (Bool) := (r09_Check.f k a0_0 l0_1 l0_2).bind fun bt395 => (some (bt395.1 == 0))
theorem r09_Valid.mono : ∀ a0 a1 a2 k, LeO (r09_Valid.f k a0 a1 a2) (r09_Valid.f (k + 1) a0 a1 a2) := by
 intro a0 a1 a2 k
 unfold r09_Valid.f
 repeat' first | (with_reducible first | apply r09_Check.mono | apply lr | apply ln | apply li | refine lb ?_ fun _ => ?_)
set_option maxHeartbeats 8000000 in
set_option maxRecDepth 100000 in
theorem r09_Valid.calls (k : Nat) (a0_0 : ByteArray) (A0_1 : Option Addr) (c0_1 : Nat) (l0_1 : List (S52)) (A0_2 : Option Addr) (c0_2 : Nat) (l0_2 : List (S48)) (r : Bool) (w : World) (hr0_1 : Kd.C k52 w A0_1 l0_1.length l0_1) (hc0_1 : l0_1.length ≤ c0_1) (hr0_2 : Kd.C k48 w A0_2 l0_2.length l0_2) (hc0_2 : l0_2.length ≤ c0_2) (h : r09_Valid.f k a0_0 l0_1 l0_2 = some r) :
  Calls Try.prog 56 #[.agg #[.string a0_0, .slice A0_1 l0_1.length c0_1, .slice A0_2 l0_2.length c0_2]] w fun e w' => e = .returned (.bool r) ∧ Below w.heap.size w w' := by
 have hf60_0 : ∀ (x0 x1 : Value) (W : World), (Instr.field 60 (.agg #[x0, x1]) 0).run Try.prog W = .ok x0 W := fun x0 x1 W => by kernel_rfl
 have hu25 := Try.underlying25
 have HR0_1 := am hr0_1
 have HC0_1 := am hc0_1
 clear hr0_1 hc0_1
 have HR0_2 := am hr0_2
 have HC0_2 := am hc0_2
 clear hr0_2 hc0_2
 have HB := am (Below.refl w.heap.size w)
 have H : ((r09_Check.f k a0_0 l0_1 l0_2).bind fun bt395 => (some (bt395.1 == 0))) = some r := h
 clear h
 replace H := bnd H
 obtain ⟨⟨t395, t396⟩, A2, H⟩ := H
 (try dsimp only at H)
 obtain rfl := Option.some.inj H
 go_enter Try.func56, Try.ntmps56
 go_wp2_with (first | ((with_reducible refine gate_dst (N := 1) rfl ?_); refine box_ev (N := 1) (cs := #[.string a0_0, .slice A0_1 l0_1.length c0_1, .slice A0_2 l0_2.length c0_2]) (t := 25) ?_; intro gb394 hg w3 hbox hb; have BK394 := am hbox; have GW394 := gwl hg; have GE394 := GW394; replace HB := bsl hb; clear hb hbox hg; obtain ⟨z4_0, z4_1, z4_2, y4_0, y4_1, y4_2⟩ := cf3 BK394.1) | ((with_reducible refine gate_callee (f := 41) rfl ?_); refine gC 4 Try.func41 _ (r09_Check.calls k a0_0 _ _ l0_1 _ _ l0_2 t395 t396 _ (csb HR0_1 HB) HC0_1.1 (csb HR0_2 HB) HC0_2.1 A2.1) ?_; rintro e w5 ⟨rfl, hb⟩; refine ⟨_, rfl, ?_⟩; replace BK394 := bbh BK394 hb; replace HB := bst hb; (try clear hb)))
 go_ret
 exact ⟨per, pbg⟩

/-! ### r09_Weight: function 74 -/
def r09_Weight.l0 : Nat → List (S55) → Int → Int → Option (Int)
 | 0, _, _, _ => none
 | k + 1, x0, x1, x5 => if x5 < (x0.length : Int) then (if 0 ≤ x5 then (if ((rd_T55 x0 x5).f0) = x1 then (some ((rd_T55 x0 x5).f1)) else (r09_Weight.l0 k x0 x1 (wrap64 (x5 + 1)))) else (none)) else (some 0)
def r09_Weight.f (k : Nat) (l0 : List (S55)) (a1 : Int) : Option (Int) := r09_Weight.l0 k l0 a1 0
theorem r09_Weight.mono_l : ∀ k, M3 r09_Weight.l0 k
 | 0 => fun _ _ _ r h => by simp [r09_Weight.l0] at h
 | k + 1 => by
  have ih0 := r09_Weight.mono_l k
  ·intro y0 y1 y2
   unfold r09_Weight.l0
   repeat' first | (with_reducible first | apply ih0 | apply lr | apply ln | apply li | refine lb ?_ fun _ => ?_)
theorem r09_Weight.mono : ∀ a0 a1 k, LeO (r09_Weight.f k a0 a1) (r09_Weight.f (k + 1) a0 a1) := by
 intro a0 a1 k
 have ih0 := r09_Weight.mono_l k
 unfold r09_Weight.f
 repeat' first | (with_reducible first | apply ih0 | apply lr | apply ln | apply li | refine lb ?_ fun _ => ?_)
set_option maxHeartbeats 8000000 in
set_option maxRecDepth 100000 in
theorem r09_Weight.calls (k : Nat) (A0 : Option Addr) (c0 : Nat) (l0 : List (S55)) (a1 : Int) (r : Int) (w : World) (hr0 : Kd.C k55 w A0 l0.length l0) (hc0 : l0.length ≤ c0) (h : r09_Weight.f k l0 a1 = some r) :
  Calls Try.prog 74 #[.slice A0 l0.length c0, .int .i64 a1] w fun e w' => e = .returned (.int .i64 r) ∧ Drawn0 w w' := by
 have HR0 := am hr0
 have HC0 := am hc0
 clear hr0 hc0
 have H : (r09_Weight.l0 k l0 a1 0) = some r := h
 clear h
 have H' := am H
 clear H
 go_enter Try.func74, Try.ntmps74
 go_wp2
 go_loopg [5] k (fun kq v5 w' => ∃ (x5_1 : Int), v5 = .int .i64 x5_1 ∧ Aside0 (r09_Weight.l0 kq l0 a1 x5_1 = some r) ∧ Aside0 (kq ≤ k) ∧ Drawn0 w w')
 case atStart => exact ⟨(0), prs, H', ⟨Nat.le_refl _⟩, pdr⟩
 clear H'
 obtain ⟨x5_1, rfl, HA, HK1, ⟨m1, rfl⟩⟩ := hrel
 obtain _ | k1 := gk
 ·exact absurd HA.1 (by simp [r09_Weight.l0])
 have H := HA.1
 clear HA
 simp only [r09_Weight.l0] at H
 by_cases c3 : x5_1 < (l0.length : Int)
 rotate_left
 ·rw [if_neg c3] at H
  have c3b0 : decide (x5_1 < (l0.length : Int)) = false := decide_eq_false c3
  clear c3
  obtain rfl := Option.some.inj H
  go_wp2
  go_ret
  exact ⟨prs, pdr⟩
 rw [if_pos c3] at H
 have c3b0 : decide (x5_1 < (l0.length : Int)) = true := decide_eq_true c3
 clear c3
 replace H := ifp H
 obtain ⟨c4, H⟩ := H
 have c4b0 := decide_eq_true c4
 clear c4
 by_cases c5 : ((rd_T55 l0 x5_1).f0) = a1
 rotate_left
 ·rw [if_neg c5] at H
  have c5b0 : (((rd_T55 l0 x5_1).f0) == a1) = false := beq_eq_false_iff_ne.mpr c5
  have c5b1 : (((rd_T55 l0 x5_1).f0) != a1) = true := bne_iff_ne.mpr c5
  have H' := am H
  clear H
  obtain ⟨p397, q397, ad397, e397, hx397_0, hx397_1⟩ := dT55 HR0.1 x5_1
  cases e397
  go_wp2
  go_roundg k1
  case measure => have := HK1.1; omega
  case rel => exact ⟨(wrap64 (x5_1 + 1)), prs, H', ⟨by have := HK1.1; omega⟩, pdr⟩
 rw [if_pos c5] at H
 have c5b0 : (((rd_T55 l0 x5_1).f0) == a1) = true := beq_iff_eq.mpr c5
 have c5b1 : (((rd_T55 l0 x5_1).f0) != a1) = false := bne_eq_false_iff_eq.mpr c5
 clear c5
 obtain rfl := Option.some.inj H
 obtain ⟨p397, q397, ad397, e397, hx397_0, hx397_1⟩ := dT55 HR0.1 x5_1
 cases e397
 obtain ⟨p398, q398, ad398, e398, hx398_0, hx398_1⟩ := dT55 HR0.1 x5_1
 obtain rfl : ad397 = ad398 := (by injection e398)
 go_wp2
 go_ret
 exact ⟨prs, pdr⟩

/-! ### r09_Producers: function 57 -/
mutual
def r09_Producers.l0 : Nat → Int → List Int → Int → ByteArray → List (S52) → List (S48) → Option (List Int)
 | 0, _, _, _, _, _, _ => none
 | k + 1, x1, x5, x6, x400000, x400001, x400002 => if x6 < (x400002.length : Int) then ((r09_Valid.f k x400000 x400001 x400002).bind fun t400 => (r09_Producers.j1 k x1 x5 x6 t400 x400000 x400001 x400002)) else (r09_Producers.j1 k x1 x5 x6 false x400000 x400001 x400002)
def r09_Producers.j1 : Nat → Int → List Int → Int → Bool → ByteArray → List (S52) → List (S48) → Option (List Int)
 | 0, _, _, _, _, _, _, _ => none
 | k + 1, x1, x5, x6, x15, x400000, x400001, x400002 => if x15 = true then (if 0 ≤ x6 then (if x6 < (x400002.length : Int) then ((r09_Weight.f k ((rd_T48 x400002 x6).f2) x1).bind fun t402 => (if t402 > 0 then (if x5.length < 17592186044416 then (r09_Producers.l0 k x1 (x5 ++ [x6]) (wrap64 (x6 + 1)) x400000 x400001 x400002) else (none)) else (r09_Producers.l0 k x1 x5 (wrap64 (x6 + 1)) x400000 x400001 x400002))) else (none)) else (none)) else (some x5)
end
def r09_Producers.f (k : Nat) (a0_0 : ByteArray) (l0_1 : List (S52)) (l0_2 : List (S48)) (a1 : Int) : Option (List Int) := r09_Producers.l0 k a1 ([] : List Int) 0 a0_0 l0_1 l0_2
theorem r09_Producers.mono_l : ∀ k, M6 r09_Producers.l0 k ∧ M7 r09_Producers.j1 k
 | 0 => ⟨fun _ _ _ _ _ _ r h => by simp [r09_Producers.l0] at h, fun _ _ _ _ _ _ _ r h => by simp [r09_Producers.j1] at h⟩
 | k + 1 => by
  obtain ⟨ih0, ih1⟩ := r09_Producers.mono_l k
  refine ⟨?_, ?_⟩ <;> dsimp only [M6, M7] <;> intros <;> (first | unfold r09_Producers.l0 | unfold r09_Producers.j1) <;> repeat' first | (with_reducible first | apply ih0 | apply ih1 | apply r09_Valid.mono | apply r09_Weight.mono | apply lr | apply ln | apply li | refine lb ?_ fun _ => ?_)
theorem r09_Producers.mono : ∀ a0 a1 a2 a3 k, LeO (r09_Producers.f k a0 a1 a2 a3) (r09_Producers.f (k + 1) a0 a1 a2 a3) := by
 intro a0 a1 a2 a3 k
 obtain ⟨ih0, ih1⟩ := r09_Producers.mono_l k
 unfold r09_Producers.f
 repeat' first | (with_reducible first | apply ih0 | apply ih1 | apply r09_Valid.mono | apply r09_Weight.mono | apply lr | apply ln | apply li | refine lb ?_ fun _ => ?_)
set_option maxHeartbeats 8000000 in
set_option maxRecDepth 100000 in
theorem r09_Producers.calls (k : Nat) (a0_0 : ByteArray) (A0_1 : Option Addr) (c0_1 : Nat) (l0_1 : List (S52)) (A0_2 : Option Addr) (c0_2 : Nat) (l0_2 : List (S48)) (a1 : Int) (r : List Int) (w : World) (hr0_1 : Kd.C k52 w A0_1 l0_1.length l0_1) (hc0_1 : l0_1.length ≤ c0_1) (hr0_2 : Kd.C k48 w A0_2 l0_2.length l0_2) (hc0_2 : l0_2.length ≤ c0_2) (h : r09_Producers.f k a0_0 l0_1 l0_2 a1 = some r) :
  Calls Try.prog 57 #[.agg #[.string a0_0, .slice A0_1 l0_1.length c0_1, .slice A0_2 l0_2.length c0_2], .int .i64 a1] w fun e w' => ∃ v0_ : Value, e = .returned (v0_) ∧ Kd.R (Kd.int .i64) 3 w' w.heap.size (fun _ => True) v0_ r ∧ Below w.heap.size w w' := by
 have hu25 := Try.underlying25
 have HR0_1 := am hr0_1
 have HC0_1 := am hc0_1
 clear hr0_1 hc0_1
 have HR0_2 := am hr0_2
 have HC0_2 := am hc0_2
 clear hr0_2 hc0_2
 have HB := am (Below.refl w.heap.size w)
 have H : (r09_Producers.l0 k a1 ([] : List Int) 0 a0_0 l0_1 l0_2) = some r := h
 clear h
 have H' := am H
 clear H
 go_enter Try.func57, Try.ntmps57
 go_wp2_with (first | ((with_reducible refine gate_dst (N := 2) rfl ?_); refine box_ev (N := 2) (cs := #[.string a0_0, .slice A0_1 l0_1.length c0_1, .slice A0_2 l0_2.length c0_2]) (t := 25) ?_; intro gb399 hg w3 hbox hb; have BK399 := am hbox; have GW399 := gwl hg; have GE399 := GW399; replace HB := bsl hb; clear hb hbox hg))
 go_loopg [5, 6] k (fun kq v5 v6 w' => ∃ (x5_1 : List Int) (x6_1 : Int), v6 = .int .i64 x6_1 ∧ Aside0 (r09_Producers.l0 kq a1 x5_1 x6_1 a0_0 l0_1 l0_2 = some r) ∧ Aside0 (kq ≤ k) ∧ Aside0 (Kd.R (Kd.int .i64) 3 w' w.heap.size (fun _ => True) v5 x5_1) ∧ Aside0 (w'.heap[gb399]? = some (.cells #[.string a0_0, (.slice A0_1 l0_1.length c0_1), (.slice A0_2 l0_2.length c0_2)] 25 (0, 0))) ∧ Aside0 (Below w.heap.size w w'))
 case atStart => exact ⟨(([] : List Int)), (0), prs, H', ⟨Nat.le_refl _⟩, ⟨knl⟩, ⟨pbk BK399.1⟩, ⟨pbg⟩⟩
 clear H'
 obtain ⟨x5_1, x6_1, rfl, HA, HK1, HO_5, BK399, HB⟩ := hrel
 obtain _ | k1 := gk
 ·exact absurd HA.1 (by simp [r09_Producers.l0])
 have H := HA.1
 clear HA
 simp only [r09_Producers.l0] at H
 have HC4 := am H
 clear H
 go_upto_region 3 with (fail)
 go_cut [15] (fun v15 wc => ∃ (kq : Nat) (x15_3 : Bool), v15 = .bool x15_3 ∧ Aside0 (r09_Producers.j1 kq a1 x5_1 x6_1 x15_3 a0_0 l0_1 l0_2 = some r) ∧ Aside0 (kq ≤ k1) ∧ Aside0 (Kd.R (Kd.int .i64) 3 wc w.heap.size (fun _ => True) u5 x5_1) ∧ Aside0 (wc.heap[gb399]? = some (.cells #[.string a0_0, (.slice A0_1 l0_1.length c0_1), (.slice A0_2 l0_2.length c0_2)] 25 (0, 0))) ∧ Aside0 (Below w.heap.size w wc))
 case first =>
  have H := HC4.1
  clear HC4
  by_cases c5 : x6_1 < (l0_2.length : Int)
  rotate_left
  ·rw [if_neg c5] at H
   have c5b0 : decide (x6_1 < (l0_2.length : Int)) = false := decide_eq_false c5
   clear c5
   (first | rw [c5b0] | (simp only [i64_w, i32_w]; rw [c5b0]) | skip)
   have H' := am H
   clear H
   obtain ⟨z9_0, z9_1, z9_2, y9_0, y9_1, y9_2⟩ := cf3 BK399.1
   go_wp2
   go_meet
   case rel => exact ⟨_, (false), prs, H', ⟨by have := HK1.1; first | omega | exact Nat.le_refl _⟩, ⟨pkr HO_5.1⟩, ⟨pbk BK399.1⟩, ⟨pbg⟩⟩
  rw [if_pos c5] at H
  have c5b0 : decide (x6_1 < (l0_2.length : Int)) = true := decide_eq_true c5
  clear c5
  (first | rw [c5b0] | (simp only [i64_w, i32_w]; rw [c5b0]) | skip)
  replace H := bnd H
  obtain ⟨t400, A6, H⟩ := H
  (try dsimp only at H)
  have H' := am H
  clear H
  obtain ⟨z7_0, z7_1, z7_2, y7_0, y7_1, y7_2⟩ := cf3 BK399.1
  go_wp2_with (first | (go_at_call 56; (with_reducible refine (r09_Valid.calls k1 a0_0 _ _ l0_1 _ _ l0_2 t400 _ ?side1 ?side2 ?side3 ?side4 A6.1).mono ?_); (case side1 => exact csb HR0_1 HB); (case side2 => exact HC0_1.1); (case side3 => exact csb HR0_2 HB); (case side4 => exact HC0_2.1); rintro e w8 ⟨rfl, hb⟩; replace HO_5 := rbw HO_5 hb; replace BK399 := bbh BK399 hb; replace HB := bst hb; (try clear hb)))
  go_meet
  case rel => exact ⟨_, (t400), prs, H', ⟨by have := HK1.1; first | omega | exact Nat.le_refl _⟩, ⟨pkr HO_5.1⟩, ⟨pbk BK399.1⟩, ⟨pbg⟩⟩
 clear HC4
 try clear c5 c5b0 z7_0 z7_1 z7_2 z9_0 z9_1 z9_2 y7_0 y7_1 y7_2 y9_0 y9_1 y9_2
 obtain ⟨kq, x15_3, rfl, HA, HJ3, HO_5, BK399, HB⟩ := hcut
 obtain _ | kj3 := kq
 ·exact absurd HA.1 (by simp [r09_Producers.j1])
 have H := HA.1
 clear HA
 simp only [r09_Producers.j1] at H
 by_cases c10 : x15_3 = true
 rotate_left
 ·replace c10 := Bool.eq_false_iff.mpr c10
  subst c10
  rw [if_neg Bool.false_ne_true] at H
  obtain rfl := Option.some.inj H
  go_wp2
  go_ret
  exact ⟨_, per, by (with_reducible repeat (first | apply Kd.R_alloc | apply Kd.R_drewN | apply Kd.R_drew)); exact HO_5.1, pbg⟩
 subst c10
 rw [if_pos rfl] at H
 replace H := ifp H
 obtain ⟨c11, H⟩ := H
 have c11b0 := decide_eq_true c11
 clear c11
 replace H := ifp H
 obtain ⟨c12, H⟩ := H
 have c12b0 := decide_eq_true c12
 clear c12
 replace H := bnd H
 obtain ⟨t402, A13, H⟩ := H
 (try dsimp only at H)
 by_cases c14 : t402 > 0
 rotate_left
 ·rw [if_neg c14] at H
  have c14b0 : decide (0 < t402) = false := decide_eq_false c14
  clear c14
  have H' := am H
  clear H
  obtain ⟨z18_0, z18_1, z18_2, y18_0, y18_1, y18_2⟩ := cf3 BK399.1
  obtain ⟨p401, q401, ad401, A401_1, c401_1, A401_2, c401_2, A401_3, c401_3, e401, hx401_0, hx401_1, hx401_2, hx401_3, hx401_4, HC401_1, HR401_1, HC401_2, HR401_2, HC401_3, HR401_3⟩ := bT48 HR0_2.1 HB.1 x6_1
  cases e401
  go_wp2_with (first | ((with_reducible refine gate_callee (f := 74) rfl ?_); refine gC 25 Try.func74 _ (r09_Weight.calls kj3 _ _ ((rd_T48 l0_2 x6_1).f2) a1 t402 _ (csb HR401_2 HB) HC401_2.1 A13.1) ?_; rintro e w' ⟨rfl, ⟨nd, rfl⟩⟩; refine ⟨_, rfl, ?_⟩))
  go_roundg kj3
  case measure => have := HK1.1; have := HJ3.1; omega
  case rel => exact ⟨(x5_1), (wrap64 (x6_1 + 1)), prs, H', ⟨by have := HK1.1; have := HJ3.1; omega⟩, ⟨pkr HO_5.1⟩, ⟨pbk BK399.1⟩, ⟨pbg⟩⟩
 rw [if_pos c14] at H
 have c14b0 : decide (0 < t402) = true := decide_eq_true c14
 clear c14
 replace H := ifp H
 obtain ⟨c15, H⟩ := H
 have LMc15 := am c15
 clear c15
 obtain ⟨y403, hy403⟩ : ∃ y_ : List Int, y_ = (x5_1 ++ [x6_1]) := ⟨_, rfl⟩
 replace H : (r09_Producers.l0 kj3 a1 y403 (wrap64 (x6_1 + 1)) a0_0 l0_1 l0_2) = some r := hrp hy403 H
 have Ny403 := am hy403
 clear hy403
 have H' := am H
 clear H
 obtain ⟨z16_0, z16_1, z16_2, y16_0, y16_1, y16_2⟩ := cf3 BK399.1
 obtain ⟨p401, q401, ad401, A401_1, c401_1, A401_2, c401_2, A401_3, c401_3, e401, hx401_0, hx401_1, hx401_2, hx401_3, hx401_4, HC401_1, HR401_1, HC401_2, HR401_2, HC401_3, HR401_3⟩ := bT48 HR0_2.1 HB.1 x6_1
 cases e401
 go_wp2_with (first | ((with_reducible refine gate_callee (f := 74) rfl ?_); refine gC 25 Try.func74 _ (r09_Weight.calls kj3 _ _ ((rd_T48 l0_2 x6_1).f2) a1 t402 _ (csb HR401_2 HB) HC401_2.1 A13.1) ?_; rintro e w' ⟨rfl, ⟨nd, rfl⟩⟩; refine ⟨_, rfl, ?_⟩) | ((with_reducible refine gate_builtin (b := .append) (xs := #[.tmp 27, .tmp 29]) rfl ?_); at_builtin; refine Kd.R_append (Kd.int .i64) (w0 := w) w.heap.size rfl (.tmp 27) (.tmp 29) 39 3 (.int .i64 0) 8 rfl Try.underlying39 info3 rfl (by decide) (by omega) u5 x5_1 x6_1 [.int .i64 x6_1] (fun _ => True) (fun _ => False) rfl rfl ?aP (fun _ hk => hk.elim) ?aF ?aO ?aB ?aS ?aL ?_; (case aP => exact rfl); (case aB => exact pbg); (case aF => exact (fun _ _ => trivial)); (case aO => exact (pkr HO_5.1)); (case aS => exact (below_size pbg)); (case aL => have := LMc15.1; omega); intro v404 w17 ho hb hg hat; rw [← Ny403.1] at ho; have HO405 := am ho; replace BK399 := am (blk_grown (g := gb399) (o := .cells #[.string a0_0, .slice A0_1 l0_1.length c0_1, .slice (some ad401) l0_2.length c0_2] 25 (0, 0)) (by exact pbk BK399.1) hg (Kd.R_ne HO_5.1 BK399.1 (by decide))); replace HB := am hb; clear HO_5; clear ho hb hg hat))
 go_roundg kj3
 case measure => have := HK1.1; have := HJ3.1; omega
 case rel => exact ⟨(y403), (wrap64 (x6_1 + 1)), prs, H', ⟨by have := HK1.1; have := HJ3.1; omega⟩, ⟨pkr HO405.1⟩, ⟨pbk BK399.1⟩, ⟨pbg⟩⟩

/-! ### r09_Consumers: function 58 -/
mutual
def r09_Consumers.l0 : Nat → Int → List Int → Int → ByteArray → List (S52) → List (S48) → Option (List Int)
 | 0, _, _, _, _, _, _ => none
 | k + 1, x1, x5, x6, x407000, x407001, x407002 => if x6 < (x407002.length : Int) then ((r09_Valid.f k x407000 x407001 x407002).bind fun t407 => (r09_Consumers.j1 k x1 x5 x6 t407 x407000 x407001 x407002)) else (r09_Consumers.j1 k x1 x5 x6 false x407000 x407001 x407002)
def r09_Consumers.j1 : Nat → Int → List Int → Int → Bool → ByteArray → List (S52) → List (S48) → Option (List Int)
 | 0, _, _, _, _, _, _, _ => none
 | k + 1, x1, x5, x6, x15, x407000, x407001, x407002 => if x15 = true then (if 0 ≤ x6 then (if x6 < (x407002.length : Int) then ((r09_Weight.f k ((rd_T48 x407002 x6).f1) x1).bind fun t409 => (if t409 > 0 then (if x5.length < 17592186044416 then (r09_Consumers.l0 k x1 (x5 ++ [x6]) (wrap64 (x6 + 1)) x407000 x407001 x407002) else (none)) else (r09_Consumers.l0 k x1 x5 (wrap64 (x6 + 1)) x407000 x407001 x407002))) else (none)) else (none)) else (some x5)
end
def r09_Consumers.f (k : Nat) (a0_0 : ByteArray) (l0_1 : List (S52)) (l0_2 : List (S48)) (a1 : Int) : Option (List Int) := r09_Consumers.l0 k a1 ([] : List Int) 0 a0_0 l0_1 l0_2
theorem r09_Consumers.mono_l : ∀ k, M6 r09_Consumers.l0 k ∧ M7 r09_Consumers.j1 k
 | 0 => ⟨fun _ _ _ _ _ _ r h => by simp [r09_Consumers.l0] at h, fun _ _ _ _ _ _ _ r h => by simp [r09_Consumers.j1] at h⟩
 | k + 1 => by
  obtain ⟨ih0, ih1⟩ := r09_Consumers.mono_l k
  refine ⟨?_, ?_⟩ <;> dsimp only [M6, M7] <;> intros <;> (first | unfold r09_Consumers.l0 | unfold r09_Consumers.j1) <;> repeat' first | (with_reducible first | apply ih0 | apply ih1 | apply r09_Valid.mono | apply r09_Weight.mono | apply lr | apply ln | apply li | refine lb ?_ fun _ => ?_)
theorem r09_Consumers.mono : ∀ a0 a1 a2 a3 k, LeO (r09_Consumers.f k a0 a1 a2 a3) (r09_Consumers.f (k + 1) a0 a1 a2 a3) := by
 intro a0 a1 a2 a3 k
 obtain ⟨ih0, ih1⟩ := r09_Consumers.mono_l k
 unfold r09_Consumers.f
 repeat' first | (with_reducible first | apply ih0 | apply ih1 | apply r09_Valid.mono | apply r09_Weight.mono | apply lr | apply ln | apply li | refine lb ?_ fun _ => ?_)
set_option maxHeartbeats 8000000 in
set_option maxRecDepth 100000 in
theorem r09_Consumers.calls (k : Nat) (a0_0 : ByteArray) (A0_1 : Option Addr) (c0_1 : Nat) (l0_1 : List (S52)) (A0_2 : Option Addr) (c0_2 : Nat) (l0_2 : List (S48)) (a1 : Int) (r : List Int) (w : World) (hr0_1 : Kd.C k52 w A0_1 l0_1.length l0_1) (hc0_1 : l0_1.length ≤ c0_1) (hr0_2 : Kd.C k48 w A0_2 l0_2.length l0_2) (hc0_2 : l0_2.length ≤ c0_2) (h : r09_Consumers.f k a0_0 l0_1 l0_2 a1 = some r) :
  Calls Try.prog 58 #[.agg #[.string a0_0, .slice A0_1 l0_1.length c0_1, .slice A0_2 l0_2.length c0_2], .int .i64 a1] w fun e w' => ∃ v0_ : Value, e = .returned (v0_) ∧ Kd.R (Kd.int .i64) 3 w' w.heap.size (fun _ => True) v0_ r ∧ Below w.heap.size w w' := by
 have hu25 := Try.underlying25
 have HR0_1 := am hr0_1
 have HC0_1 := am hc0_1
 clear hr0_1 hc0_1
 have HR0_2 := am hr0_2
 have HC0_2 := am hc0_2
 clear hr0_2 hc0_2
 have HB := am (Below.refl w.heap.size w)
 have H : (r09_Consumers.l0 k a1 ([] : List Int) 0 a0_0 l0_1 l0_2) = some r := h
 clear h
 have H' := am H
 clear H
 go_enter Try.func58, Try.ntmps58
 go_wp2_with (first | ((with_reducible refine gate_dst (N := 2) rfl ?_); refine box_ev (N := 2) (cs := #[.string a0_0, .slice A0_1 l0_1.length c0_1, .slice A0_2 l0_2.length c0_2]) (t := 25) ?_; intro gb406 hg w3 hbox hb; have BK406 := am hbox; have GW406 := gwl hg; have GE406 := GW406; replace HB := bsl hb; clear hb hbox hg))
 go_loopg [5, 6] k (fun kq v5 v6 w' => ∃ (x5_1 : List Int) (x6_1 : Int), v6 = .int .i64 x6_1 ∧ Aside0 (r09_Consumers.l0 kq a1 x5_1 x6_1 a0_0 l0_1 l0_2 = some r) ∧ Aside0 (kq ≤ k) ∧ Aside0 (Kd.R (Kd.int .i64) 3 w' w.heap.size (fun _ => True) v5 x5_1) ∧ Aside0 (w'.heap[gb406]? = some (.cells #[.string a0_0, (.slice A0_1 l0_1.length c0_1), (.slice A0_2 l0_2.length c0_2)] 25 (0, 0))) ∧ Aside0 (Below w.heap.size w w'))
 case atStart => exact ⟨(([] : List Int)), (0), prs, H', ⟨Nat.le_refl _⟩, ⟨knl⟩, ⟨pbk BK406.1⟩, ⟨pbg⟩⟩
 clear H'
 obtain ⟨x5_1, x6_1, rfl, HA, HK1, HO_5, BK406, HB⟩ := hrel
 obtain _ | k1 := gk
 ·exact absurd HA.1 (by simp [r09_Consumers.l0])
 have H := HA.1
 clear HA
 simp only [r09_Consumers.l0] at H
 have HC4 := am H
 clear H
 go_upto_region 3 with (fail)
 go_cut [15] (fun v15 wc => ∃ (kq : Nat) (x15_3 : Bool), v15 = .bool x15_3 ∧ Aside0 (r09_Consumers.j1 kq a1 x5_1 x6_1 x15_3 a0_0 l0_1 l0_2 = some r) ∧ Aside0 (kq ≤ k1) ∧ Aside0 (Kd.R (Kd.int .i64) 3 wc w.heap.size (fun _ => True) u5 x5_1) ∧ Aside0 (wc.heap[gb406]? = some (.cells #[.string a0_0, (.slice A0_1 l0_1.length c0_1), (.slice A0_2 l0_2.length c0_2)] 25 (0, 0))) ∧ Aside0 (Below w.heap.size w wc))
 case first =>
  have H := HC4.1
  clear HC4
  by_cases c5 : x6_1 < (l0_2.length : Int)
  rotate_left
  ·rw [if_neg c5] at H
   have c5b0 : decide (x6_1 < (l0_2.length : Int)) = false := decide_eq_false c5
   clear c5
   (first | rw [c5b0] | (simp only [i64_w, i32_w]; rw [c5b0]) | skip)
   have H' := am H
   clear H
   obtain ⟨z9_0, z9_1, z9_2, y9_0, y9_1, y9_2⟩ := cf3 BK406.1
   go_wp2
   go_meet
   case rel => exact ⟨_, (false), prs, H', ⟨by have := HK1.1; first | omega | exact Nat.le_refl _⟩, ⟨pkr HO_5.1⟩, ⟨pbk BK406.1⟩, ⟨pbg⟩⟩
  rw [if_pos c5] at H
  have c5b0 : decide (x6_1 < (l0_2.length : Int)) = true := decide_eq_true c5
  clear c5
  (first | rw [c5b0] | (simp only [i64_w, i32_w]; rw [c5b0]) | skip)
  replace H := bnd H
  obtain ⟨t407, A6, H⟩ := H
  (try dsimp only at H)
  have H' := am H
  clear H
  obtain ⟨z7_0, z7_1, z7_2, y7_0, y7_1, y7_2⟩ := cf3 BK406.1
  go_wp2_with (first | (go_at_call 56; (with_reducible refine (r09_Valid.calls k1 a0_0 _ _ l0_1 _ _ l0_2 t407 _ ?side1 ?side2 ?side3 ?side4 A6.1).mono ?_); (case side1 => exact csb HR0_1 HB); (case side2 => exact HC0_1.1); (case side3 => exact csb HR0_2 HB); (case side4 => exact HC0_2.1); rintro e w8 ⟨rfl, hb⟩; replace HO_5 := rbw HO_5 hb; replace BK406 := bbh BK406 hb; replace HB := bst hb; (try clear hb)))
  go_meet
  case rel => exact ⟨_, (t407), prs, H', ⟨by have := HK1.1; first | omega | exact Nat.le_refl _⟩, ⟨pkr HO_5.1⟩, ⟨pbk BK406.1⟩, ⟨pbg⟩⟩
 clear HC4
 try clear c5 c5b0 z7_0 z7_1 z7_2 z9_0 z9_1 z9_2 y7_0 y7_1 y7_2 y9_0 y9_1 y9_2
 obtain ⟨kq, x15_3, rfl, HA, HJ3, HO_5, BK406, HB⟩ := hcut
 obtain _ | kj3 := kq
 ·exact absurd HA.1 (by simp [r09_Consumers.j1])
 have H := HA.1
 clear HA
 simp only [r09_Consumers.j1] at H
 by_cases c10 : x15_3 = true
 rotate_left
 ·replace c10 := Bool.eq_false_iff.mpr c10
  subst c10
  rw [if_neg Bool.false_ne_true] at H
  obtain rfl := Option.some.inj H
  go_wp2
  go_ret
  exact ⟨_, per, by (with_reducible repeat (first | apply Kd.R_alloc | apply Kd.R_drewN | apply Kd.R_drew)); exact HO_5.1, pbg⟩
 subst c10
 rw [if_pos rfl] at H
 replace H := ifp H
 obtain ⟨c11, H⟩ := H
 have c11b0 := decide_eq_true c11
 clear c11
 replace H := ifp H
 obtain ⟨c12, H⟩ := H
 have c12b0 := decide_eq_true c12
 clear c12
 replace H := bnd H
 obtain ⟨t409, A13, H⟩ := H
 (try dsimp only at H)
 by_cases c14 : t409 > 0
 rotate_left
 ·rw [if_neg c14] at H
  have c14b0 : decide (0 < t409) = false := decide_eq_false c14
  clear c14
  have H' := am H
  clear H
  obtain ⟨z18_0, z18_1, z18_2, y18_0, y18_1, y18_2⟩ := cf3 BK406.1
  obtain ⟨p408, q408, ad408, A408_1, c408_1, A408_2, c408_2, A408_3, c408_3, e408, hx408_0, hx408_1, hx408_2, hx408_3, hx408_4, HC408_1, HR408_1, HC408_2, HR408_2, HC408_3, HR408_3⟩ := bT48 HR0_2.1 HB.1 x6_1
  cases e408
  go_wp2_with (first | ((with_reducible refine gate_callee (f := 74) rfl ?_); refine gC 25 Try.func74 _ (r09_Weight.calls kj3 _ _ ((rd_T48 l0_2 x6_1).f1) a1 t409 _ (csb HR408_1 HB) HC408_1.1 A13.1) ?_; rintro e w' ⟨rfl, ⟨nd, rfl⟩⟩; refine ⟨_, rfl, ?_⟩))
  go_roundg kj3
  case measure => have := HK1.1; have := HJ3.1; omega
  case rel => exact ⟨(x5_1), (wrap64 (x6_1 + 1)), prs, H', ⟨by have := HK1.1; have := HJ3.1; omega⟩, ⟨pkr HO_5.1⟩, ⟨pbk BK406.1⟩, ⟨pbg⟩⟩
 rw [if_pos c14] at H
 have c14b0 : decide (0 < t409) = true := decide_eq_true c14
 clear c14
 replace H := ifp H
 obtain ⟨c15, H⟩ := H
 have LMc15 := am c15
 clear c15
 obtain ⟨y410, hy410⟩ : ∃ y_ : List Int, y_ = (x5_1 ++ [x6_1]) := ⟨_, rfl⟩
 replace H : (r09_Consumers.l0 kj3 a1 y410 (wrap64 (x6_1 + 1)) a0_0 l0_1 l0_2) = some r := hrp hy410 H
 have Ny410 := am hy410
 clear hy410
 have H' := am H
 clear H
 obtain ⟨z16_0, z16_1, z16_2, y16_0, y16_1, y16_2⟩ := cf3 BK406.1
 obtain ⟨p408, q408, ad408, A408_1, c408_1, A408_2, c408_2, A408_3, c408_3, e408, hx408_0, hx408_1, hx408_2, hx408_3, hx408_4, HC408_1, HR408_1, HC408_2, HR408_2, HC408_3, HR408_3⟩ := bT48 HR0_2.1 HB.1 x6_1
 cases e408
 go_wp2_with (first | ((with_reducible refine gate_callee (f := 74) rfl ?_); refine gC 25 Try.func74 _ (r09_Weight.calls kj3 _ _ ((rd_T48 l0_2 x6_1).f1) a1 t409 _ (csb HR408_1 HB) HC408_1.1 A13.1) ?_; rintro e w' ⟨rfl, ⟨nd, rfl⟩⟩; refine ⟨_, rfl, ?_⟩) | ((with_reducible refine gate_builtin (b := .append) (xs := #[.tmp 27, .tmp 29]) rfl ?_); at_builtin; refine Kd.R_append (Kd.int .i64) (w0 := w) w.heap.size rfl (.tmp 27) (.tmp 29) 39 3 (.int .i64 0) 8 rfl Try.underlying39 info3 rfl (by decide) (by omega) u5 x5_1 x6_1 [.int .i64 x6_1] (fun _ => True) (fun _ => False) rfl rfl ?aP (fun _ hk => hk.elim) ?aF ?aO ?aB ?aS ?aL ?_; (case aP => exact rfl); (case aB => exact pbg); (case aF => exact (fun _ _ => trivial)); (case aO => exact (pkr HO_5.1)); (case aS => exact (below_size pbg)); (case aL => have := LMc15.1; omega); intro v411 w17 ho hb hg hat; rw [← Ny410.1] at ho; have HO412 := am ho; replace BK406 := am (blk_grown (g := gb406) (o := .cells #[.string a0_0, .slice A0_1 l0_1.length c0_1, .slice (some ad408) l0_2.length c0_2] 25 (0, 0)) (by exact pbk BK406.1) hg (Kd.R_ne HO_5.1 BK406.1 (by decide))); replace HB := am hb; clear HO_5; clear ho hb hg hat))
 go_roundg kj3
 case measure => have := HK1.1; have := HJ3.1; omega
 case rel => exact ⟨(y410), (wrap64 (x6_1 + 1)), prs, H', ⟨by have := HK1.1; have := HJ3.1; omega⟩, ⟨pkr HO412.1⟩, ⟨pbk BK406.1⟩, ⟨pbg⟩⟩

/-! ### r43_ends: function 36 -/
mutual
def r43_ends.l0 : Nat → Bool → List Int → Int → ByteArray → List (S52) → List (S48) → Option (List Int)
 | 0, _, _, _, _, _, _ => none
 | k + 1, x1, x5, x6, x414000, x414001, x414002 => if x6 < (x414001.length : Int) then ((r09_Valid.f k x414000 x414001 x414002).bind fun t414 => (r43_ends.j1 k x1 x5 x6 t414 x414000 x414001 x414002)) else (r43_ends.j1 k x1 x5 x6 false x414000 x414001 x414002)
def r43_ends.j1 : Nat → Bool → List Int → Int → Bool → ByteArray → List (S52) → List (S48) → Option (List Int)
 | 0, _, _, _, _, _, _, _ => none
 | k + 1, x1, x5, x6, x16, x414000, x414001, x414002 => if x16 = true then ((r09_Producers.f k x414000 x414001 x414002 x6).bind fun t415 => (if x1 = true then ((r09_Consumers.f k x414000 x414001 x414002 x6).bind fun t418 => (if (t418.length : Int) = 0 then (if x5.length < 17592186044416 then (r43_ends.l0 k x1 (x5 ++ [x6]) (wrap64 (x6 + 1)) x414000 x414001 x414002) else (none)) else (r43_ends.l0 k x1 x5 (wrap64 (x6 + 1)) x414000 x414001 x414002))) else (if (t415.length : Int) = 0 then (if x5.length < 17592186044416 then (r43_ends.l0 k x1 (x5 ++ [x6]) (wrap64 (x6 + 1)) x414000 x414001 x414002) else (none)) else (r43_ends.l0 k x1 x5 (wrap64 (x6 + 1)) x414000 x414001 x414002)))) else (some x5)
end
def r43_ends.f (k : Nat) (a0_0 : ByteArray) (l0_1 : List (S52)) (l0_2 : List (S48)) (a1 : Bool) : Option (List Int) := r43_ends.l0 k a1 ([] : List Int) 0 a0_0 l0_1 l0_2
theorem r43_ends.mono_l : ∀ k, M6 r43_ends.l0 k ∧ M7 r43_ends.j1 k
 | 0 => ⟨fun _ _ _ _ _ _ r h => by simp [r43_ends.l0] at h, fun _ _ _ _ _ _ _ r h => by simp [r43_ends.j1] at h⟩
 | k + 1 => by
  obtain ⟨ih0, ih1⟩ := r43_ends.mono_l k
  refine ⟨?_, ?_⟩ <;> dsimp only [M6, M7] <;> intros <;> (first | unfold r43_ends.l0 | unfold r43_ends.j1) <;> repeat' first | (with_reducible first | apply ih0 | apply ih1 | apply r09_Consumers.mono | apply r09_Producers.mono | apply r09_Valid.mono | apply lr | apply ln | apply li | refine lb ?_ fun _ => ?_)
theorem r43_ends.mono : ∀ a0 a1 a2 a3 k, LeO (r43_ends.f k a0 a1 a2 a3) (r43_ends.f (k + 1) a0 a1 a2 a3) := by
 intro a0 a1 a2 a3 k
 obtain ⟨ih0, ih1⟩ := r43_ends.mono_l k
 unfold r43_ends.f
 repeat' first | (with_reducible first | apply ih0 | apply ih1 | apply r09_Consumers.mono | apply r09_Producers.mono | apply r09_Valid.mono | apply lr | apply ln | apply li | refine lb ?_ fun _ => ?_)
set_option maxHeartbeats 8000000 in
set_option maxRecDepth 100000 in
theorem r43_ends.calls (k : Nat) (a0_0 : ByteArray) (A0_1 : Option Addr) (c0_1 : Nat) (l0_1 : List (S52)) (A0_2 : Option Addr) (c0_2 : Nat) (l0_2 : List (S48)) (a1 : Bool) (r : List Int) (w : World) (hr0_1 : Kd.C k52 w A0_1 l0_1.length l0_1) (hc0_1 : l0_1.length ≤ c0_1) (hr0_2 : Kd.C k48 w A0_2 l0_2.length l0_2) (hc0_2 : l0_2.length ≤ c0_2) (h : r43_ends.f k a0_0 l0_1 l0_2 a1 = some r) :
  Calls Try.prog 36 #[.agg #[.string a0_0, .slice A0_1 l0_1.length c0_1, .slice A0_2 l0_2.length c0_2], .bool a1] w fun e w' => ∃ v0_ : Value, e = .returned (v0_) ∧ Kd.R (Kd.int .i64) 3 w' w.heap.size (fun _ => True) v0_ r ∧ Below w.heap.size w w' := by
 have hu25 := Try.underlying25
 have HR0_1 := am hr0_1
 have HC0_1 := am hc0_1
 clear hr0_1 hc0_1
 have HR0_2 := am hr0_2
 have HC0_2 := am hc0_2
 clear hr0_2 hc0_2
 have HB := am (Below.refl w.heap.size w)
 have H : (r43_ends.l0 k a1 ([] : List Int) 0 a0_0 l0_1 l0_2) = some r := h
 clear h
 have H' := am H
 clear H
 go_enter Try.func36, Try.ntmps36
 go_wp2_with (first | ((with_reducible refine gate_dst (N := 2) rfl ?_); refine box_ev (N := 2) (cs := #[.string a0_0, .slice A0_1 l0_1.length c0_1, .slice A0_2 l0_2.length c0_2]) (t := 25) ?_; intro gb413 hg w3 hbox hb; have BK413 := am hbox; have GW413 := gwl hg; have GE413 := GW413; replace HB := bsl hb; clear hb hbox hg))
 go_loopg [5, 6] k (fun kq v5 v6 w' => ∃ (x5_1 : List Int) (x6_1 : Int), v6 = .int .i64 x6_1 ∧ Aside0 (r43_ends.l0 kq a1 x5_1 x6_1 a0_0 l0_1 l0_2 = some r) ∧ Aside0 (kq ≤ k) ∧ Aside0 (Kd.R (Kd.int .i64) 3 w' w.heap.size (fun _ => True) v5 x5_1) ∧ Aside0 (w'.heap[gb413]? = some (.cells #[.string a0_0, (.slice A0_1 l0_1.length c0_1), (.slice A0_2 l0_2.length c0_2)] 25 (0, 0))) ∧ Aside0 (Below w.heap.size w w'))
 case atStart => exact ⟨(([] : List Int)), (0), prs, H', ⟨Nat.le_refl _⟩, ⟨knl⟩, ⟨pbk BK413.1⟩, ⟨pbg⟩⟩
 clear H'
 obtain ⟨x5_1, x6_1, rfl, HA, HK1, HO_5, BK413, HB⟩ := hrel
 obtain _ | k1 := gk
 ·exact absurd HA.1 (by simp [r43_ends.l0])
 have H := HA.1
 clear HA
 simp only [r43_ends.l0] at H
 have HC4 := am H
 clear H
 go_upto_region 3 with (fail)
 go_cut [16] (fun v16 wc => ∃ (kq : Nat) (x16_3 : Bool), v16 = .bool x16_3 ∧ Aside0 (r43_ends.j1 kq a1 x5_1 x6_1 x16_3 a0_0 l0_1 l0_2 = some r) ∧ Aside0 (kq ≤ k1) ∧ Aside0 (Kd.R (Kd.int .i64) 3 wc w.heap.size (fun _ => True) u5 x5_1) ∧ Aside0 (wc.heap[gb413]? = some (.cells #[.string a0_0, (.slice A0_1 l0_1.length c0_1), (.slice A0_2 l0_2.length c0_2)] 25 (0, 0))) ∧ Aside0 (Below w.heap.size w wc))
 case first =>
  have H := HC4.1
  clear HC4
  by_cases c5 : x6_1 < (l0_1.length : Int)
  rotate_left
  ·rw [if_neg c5] at H
   have c5b0 : decide (x6_1 < (l0_1.length : Int)) = false := decide_eq_false c5
   clear c5
   (first | rw [c5b0] | (simp only [i64_w, i32_w]; rw [c5b0]) | skip)
   have H' := am H
   clear H
   obtain ⟨z9_0, z9_1, z9_2, y9_0, y9_1, y9_2⟩ := cf3 BK413.1
   go_wp2
   go_meet
   case rel => exact ⟨_, (false), prs, H', ⟨by have := HK1.1; first | omega | exact Nat.le_refl _⟩, ⟨pkr HO_5.1⟩, ⟨pbk BK413.1⟩, ⟨pbg⟩⟩
  rw [if_pos c5] at H
  have c5b0 : decide (x6_1 < (l0_1.length : Int)) = true := decide_eq_true c5
  clear c5
  (first | rw [c5b0] | (simp only [i64_w, i32_w]; rw [c5b0]) | skip)
  replace H := bnd H
  obtain ⟨t414, A6, H⟩ := H
  (try dsimp only at H)
  have H' := am H
  clear H
  obtain ⟨z7_0, z7_1, z7_2, y7_0, y7_1, y7_2⟩ := cf3 BK413.1
  go_wp2_with (first | (go_at_call 56; (with_reducible refine (r09_Valid.calls k1 a0_0 _ _ l0_1 _ _ l0_2 t414 _ ?side1 ?side2 ?side3 ?side4 A6.1).mono ?_); (case side1 => exact csb HR0_1 HB); (case side2 => exact HC0_1.1); (case side3 => exact csb HR0_2 HB); (case side4 => exact HC0_2.1); rintro e w8 ⟨rfl, hb⟩; replace HO_5 := rbw HO_5 hb; replace BK413 := bbh BK413 hb; replace HB := bst hb; (try clear hb)))
  go_meet
  case rel => exact ⟨_, (t414), prs, H', ⟨by have := HK1.1; first | omega | exact Nat.le_refl _⟩, ⟨pkr HO_5.1⟩, ⟨pbk BK413.1⟩, ⟨pbg⟩⟩
 clear HC4
 try clear c5 c5b0 z7_0 z7_1 z7_2 z9_0 z9_1 z9_2 y7_0 y7_1 y7_2 y9_0 y9_1 y9_2
 obtain ⟨kq, x16_3, rfl, HA, HJ3, HO_5, BK413, HB⟩ := hcut
 obtain _ | kj3 := kq
 ·exact absurd HA.1 (by simp [r43_ends.j1])
 have H := HA.1
 clear HA
 simp only [r43_ends.j1] at H
 by_cases c10 : x16_3 = true
 rotate_left
 ·replace c10 := Bool.eq_false_iff.mpr c10
  subst c10
  rw [if_neg Bool.false_ne_true] at H
  obtain rfl := Option.some.inj H
  go_wp2
  go_ret
  exact ⟨_, per, by (with_reducible repeat (first | apply Kd.R_alloc | apply Kd.R_drewN | apply Kd.R_drew)); exact HO_5.1, pbg⟩
 subst c10
 rw [if_pos rfl] at H
 replace H := bnd H
 obtain ⟨t415, A11, H⟩ := H
 (try dsimp only at H)
 by_cases c12 : a1 = true
 rotate_left
 ·replace c12 := Bool.eq_false_iff.mpr c12
  subst c12
  rw [if_neg Bool.false_ne_true] at H
  by_cases c27 : (t415.length : Int) = 0
  rotate_left
  ·rw [if_neg c27] at H
   have c27b0 : ((t415.length : Int) == 0) = false := beq_eq_false_iff_ne.mpr c27
   have c27b1 : ((t415.length : Int) != 0) = true := bne_iff_ne.mpr c27
   have c27b2 : ¬ (t415 = []) := fun h_ => c27 (by rw [h_]; rfl)
   have H' := am H
   clear H
   obtain ⟨z33_0, z33_1, z33_2, y33_0, y33_1, y33_2⟩ := cf3 BK413.1
   go_wp2_with (first | ((with_reducible refine gate_callee (f := 57) rfl ?_); refine gC 21 Try.func57 _ (r09_Producers.calls kj3 a0_0 _ _ l0_1 _ _ l0_2 x6_1 t415 _ (csb HR0_1 HB) HC0_1.1 (csb HR0_2 HB) HC0_2.1 A11.1) ?_; rintro e w34 ⟨v416, rfl, ho0, hb⟩; refine ⟨_, rfl, ?_⟩; have HO417 := am (Kd.R_lower (Kd.R_new' ho0 (Kd.R_lt (pkr HO_5.1))) (below_size pbg)); replace HO_5 := am (Kd.R_elder' (pkr HO_5.1) (Kd.R_base ho0) hb); replace BK413 := bbh BK413 hb; replace HB := bst hb; (try clear hb); (try clear ho0); obtain ⟨Ao35, co35, eo35⟩ := Kd.R_slice HO417.1; subst eo35))
   go_roundg kj3
   case measure => have := HK1.1; have := HJ3.1; omega
   case rel => exact ⟨(x5_1), (wrap64 (x6_1 + 1)), prs, H', ⟨by have := HK1.1; have := HJ3.1; omega⟩, ⟨by (with_reducible repeat (first | apply Kd.R_alloc | apply Kd.R_drewN | apply Kd.R_drew)); exact Kd.R_mono HO_5.1 (fun _ hk => trivial)⟩, ⟨pbk BK413.1⟩, ⟨pbg⟩⟩
  rw [if_pos c27] at H
  have c27b0 : ((t415.length : Int) == 0) = true := beq_iff_eq.mpr c27
  have c27b1 : ((t415.length : Int) != 0) = false := bne_eq_false_iff_eq.mpr c27
  clear c27
  replace H := ifp H
  obtain ⟨c28, H⟩ := H
  have LMc28 := am c28
  clear c28
  obtain ⟨y424, hy424⟩ : ∃ y_ : List Int, y_ = (x5_1 ++ [x6_1]) := ⟨_, rfl⟩
  replace H : (r43_ends.l0 kj3 false y424 (wrap64 (x6_1 + 1)) a0_0 l0_1 l0_2) = some r := hrp hy424 H
  have Ny424 := am hy424
  clear hy424
  have H' := am H
  clear H
  obtain ⟨z29_0, z29_1, z29_2, y29_0, y29_1, y29_2⟩ := cf3 BK413.1
  go_wp2_with (first | ((with_reducible refine gate_callee (f := 57) rfl ?_); refine gC 21 Try.func57 _ (r09_Producers.calls kj3 a0_0 _ _ l0_1 _ _ l0_2 x6_1 t415 _ (csb HR0_1 HB) HC0_1.1 (csb HR0_2 HB) HC0_2.1 A11.1) ?_; rintro e w30 ⟨v416, rfl, ho0, hb⟩; refine ⟨_, rfl, ?_⟩; have HO417 := am (Kd.R_lower (Kd.R_new' ho0 (Kd.R_lt (pkr HO_5.1))) (below_size pbg)); replace HO_5 := am (Kd.R_elder' (pkr HO_5.1) (Kd.R_base ho0) hb); replace BK413 := bbh BK413 hb; replace HB := bst hb; (try clear hb); (try clear ho0); obtain ⟨Ao31, co31, eo31⟩ := Kd.R_slice HO417.1; subst eo31) | ((with_reducible refine gate_builtin (b := .append) (xs := #[.tmp 29, .tmp 31]) rfl ?_); at_builtin; refine Kd.R_append (Kd.int .i64) (w0 := w) w.heap.size rfl (.tmp 29) (.tmp 31) 39 3 (.int .i64 0) 8 rfl Try.underlying39 info3 rfl (by decide) (by omega) u5 x5_1 x6_1 [.int .i64 x6_1] (fun k_ => some k_ ≠ (.slice Ao31 t415.length co31 : Value).ownBlock) (fun _ => False) rfl rfl ?aP (fun _ hk => hk.elim) ?aF ?aO ?aB ?aS ?aL ?_; (case aP => exact rfl); (case aB => exact pbg); (case aF => exact (fun k_ hk => Kd.fresh' (Kd.R_lt (pkr HO417.1)) k_ hk)); (case aO => exact (by (with_reducible repeat (first | apply Kd.R_alloc | apply Kd.R_drewN | apply Kd.R_drew)); exact Kd.R_mono HO_5.1 (fun _ hk => hk.2))); (case aS => exact (below_size pbg)); (case aL => have := LMc28.1; omega); intro v425 w32 ho hb hg hat; rw [← Ny424.1] at ho; have HO426 := am ho; replace BK413 := am (blk_grown (g := gb413) (o := .cells #[.string a0_0, .slice A0_1 l0_1.length c0_1, .slice A0_2 l0_2.length c0_2] 25 (0, 0)) (by exact pbk BK413.1) hg (Kd.R_ne HO_5.1 BK413.1 (by decide))); replace HO417 := am (Kd.R_after (ok := (fun _ => True)) (pkr HO417.1) hg hat); replace HB := am hb; clear HO_5; clear ho hb hg hat))
  go_roundg kj3
  case measure => have := HK1.1; have := HJ3.1; omega
  case rel => exact ⟨(y424), (wrap64 (x6_1 + 1)), prs, H', ⟨by have := HK1.1; have := HJ3.1; omega⟩, ⟨by (with_reducible repeat (first | apply Kd.R_alloc | apply Kd.R_drewN | apply Kd.R_drew)); exact Kd.R_mono HO426.1 (fun _ hk => trivial)⟩, ⟨pbk BK413.1⟩, ⟨pbg⟩⟩
 subst c12
 rw [if_pos rfl] at H
 replace H := bnd H
 obtain ⟨t418, A13, H⟩ := H
 (try dsimp only at H)
 by_cases c14 : (t418.length : Int) = 0
 rotate_left
 ·rw [if_neg c14] at H
  have c14b0 : ((t418.length : Int) == 0) = false := beq_eq_false_iff_ne.mpr c14
  have c14b1 : ((t418.length : Int) != 0) = true := bne_iff_ne.mpr c14
  have c14b2 : ¬ (t418 = []) := fun h_ => c14 (by rw [h_]; rfl)
  have H' := am H
  clear H
  obtain ⟨z22_0, z22_1, z22_2, y22_0, y22_1, y22_2⟩ := cf3 BK413.1
  go_wp2_with (first | ((with_reducible refine gate_callee (f := 57) rfl ?_); refine gC 21 Try.func57 _ (r09_Producers.calls kj3 a0_0 _ _ l0_1 _ _ l0_2 x6_1 t415 _ (csb HR0_1 HB) HC0_1.1 (csb HR0_2 HB) HC0_2.1 A11.1) ?_; rintro e w23 ⟨v416, rfl, ho0, hb⟩; refine ⟨_, rfl, ?_⟩; have HO417 := am (Kd.R_lower (Kd.R_new' ho0 (Kd.R_lt (pkr HO_5.1))) (below_size pbg)); replace HO_5 := am (Kd.R_elder' (pkr HO_5.1) (Kd.R_base ho0) hb); replace BK413 := bbh BK413 hb; replace HB := bst hb; (try clear hb); (try clear ho0); obtain ⟨z24_0, z24_1, z24_2, y24_0, y24_1, y24_2⟩ := cf3 BK413.1) | ((with_reducible refine gate_callee (f := 58) rfl ?_); refine gC 25 Try.func58 _ (r09_Consumers.calls kj3 a0_0 _ _ l0_1 _ _ l0_2 x6_1 t418 _ (csb HR0_1 HB) HC0_1.1 (csb HR0_2 HB) HC0_2.1 A13.1) ?_; rintro e w25 ⟨v419, rfl, ho0, hb⟩; refine ⟨_, rfl, ?_⟩; have HO420 := am (Kd.R_lower (Kd.R_new' (Kd.R_new' ho0 (Kd.R_lt (pkr HO_5.1))) (Kd.R_lt (pkr HO417.1))) (below_size pbg)); replace HO_5 := am (Kd.R_elder' (pkr HO_5.1) (Kd.R_base ho0) hb); replace HO417 := am (Kd.R_elder' (pkr HO417.1) (Kd.R_base ho0) hb); replace BK413 := bbh BK413 hb; replace HB := bst hb; (try clear hb); (try clear ho0); obtain ⟨Ao26, co26, eo26⟩ := Kd.R_slice HO420.1; subst eo26))
  go_roundg kj3
  case measure => have := HK1.1; have := HJ3.1; omega
  case rel => exact ⟨(x5_1), (wrap64 (x6_1 + 1)), prs, H', ⟨by have := HK1.1; have := HJ3.1; omega⟩, ⟨by (with_reducible repeat (first | apply Kd.R_alloc | apply Kd.R_drewN | apply Kd.R_drew)); exact Kd.R_mono HO_5.1 (fun _ hk => trivial)⟩, ⟨pbk BK413.1⟩, ⟨pbg⟩⟩
 rw [if_pos c14] at H
 have c14b0 : ((t418.length : Int) == 0) = true := beq_iff_eq.mpr c14
 have c14b1 : ((t418.length : Int) != 0) = false := bne_eq_false_iff_eq.mpr c14
 clear c14
 replace H := ifp H
 obtain ⟨c15, H⟩ := H
 have LMc15 := am c15
 clear c15
 obtain ⟨y421, hy421⟩ : ∃ y_ : List Int, y_ = (x5_1 ++ [x6_1]) := ⟨_, rfl⟩
 replace H : (r43_ends.l0 kj3 true y421 (wrap64 (x6_1 + 1)) a0_0 l0_1 l0_2) = some r := hrp hy421 H
 have Ny421 := am hy421
 clear hy421
 have H' := am H
 clear H
 obtain ⟨z16_0, z16_1, z16_2, y16_0, y16_1, y16_2⟩ := cf3 BK413.1
 go_wp2_with (first | ((with_reducible refine gate_callee (f := 57) rfl ?_); refine gC 21 Try.func57 _ (r09_Producers.calls kj3 a0_0 _ _ l0_1 _ _ l0_2 x6_1 t415 _ (csb HR0_1 HB) HC0_1.1 (csb HR0_2 HB) HC0_2.1 A11.1) ?_; rintro e w17 ⟨v416, rfl, ho0, hb⟩; refine ⟨_, rfl, ?_⟩; have HO417 := am (Kd.R_lower (Kd.R_new' ho0 (Kd.R_lt (pkr HO_5.1))) (below_size pbg)); replace HO_5 := am (Kd.R_elder' (pkr HO_5.1) (Kd.R_base ho0) hb); replace BK413 := bbh BK413 hb; replace HB := bst hb; (try clear hb); (try clear ho0); obtain ⟨z18_0, z18_1, z18_2, y18_0, y18_1, y18_2⟩ := cf3 BK413.1) | ((with_reducible refine gate_callee (f := 58) rfl ?_); refine gC 25 Try.func58 _ (r09_Consumers.calls kj3 a0_0 _ _ l0_1 _ _ l0_2 x6_1 t418 _ (csb HR0_1 HB) HC0_1.1 (csb HR0_2 HB) HC0_2.1 A13.1) ?_; rintro e w19 ⟨v419, rfl, ho0, hb⟩; refine ⟨_, rfl, ?_⟩; have HO420 := am (Kd.R_lower (Kd.R_new' (Kd.R_new' ho0 (Kd.R_lt (pkr HO_5.1))) (Kd.R_lt (pkr HO417.1))) (below_size pbg)); replace HO_5 := am (Kd.R_elder' (pkr HO_5.1) (Kd.R_base ho0) hb); replace HO417 := am (Kd.R_elder' (pkr HO417.1) (Kd.R_base ho0) hb); replace BK413 := bbh BK413 hb; replace HB := bst hb; (try clear hb); (try clear ho0); obtain ⟨Ao20, co20, eo20⟩ := Kd.R_slice HO420.1; subst eo20) | ((with_reducible refine gate_builtin (b := .append) (xs := #[.tmp 29, .tmp 31]) rfl ?_); at_builtin; refine Kd.R_append (Kd.int .i64) (w0 := w) w.heap.size rfl (.tmp 29) (.tmp 31) 39 3 (.int .i64 0) 8 rfl Try.underlying39 info3 rfl (by decide) (by omega) u5 x5_1 x6_1 [.int .i64 x6_1] (fun k_ => some k_ ≠ (v416 : Value).ownBlock ∧ some k_ ≠ (.slice Ao20 t418.length co20 : Value).ownBlock) (fun _ => False) rfl rfl ?aP (fun _ hk => hk.elim) ?aF ?aO ?aB ?aS ?aL ?_; (case aP => exact rfl); (case aB => exact pbg); (case aF => exact (fun k_ hk => ⟨Kd.fresh' (Kd.R_lt (pkr HO417.1)) k_ hk, Kd.fresh' (Kd.R_lt (pkr HO420.1)) k_ hk⟩)); (case aO => exact (by (with_reducible repeat (first | apply Kd.R_alloc | apply Kd.R_drewN | apply Kd.R_drew)); exact Kd.R_mono HO_5.1 (fun _ hk => ⟨hk.1.2, hk.2⟩))); (case aS => exact (below_size pbg)); (case aL => have := LMc15.1; omega); intro v422 w21 ho hb hg hat; rw [← Ny421.1] at ho; have HO423 := am ho; replace BK413 := am (blk_grown (g := gb413) (o := .cells #[.string a0_0, .slice A0_1 l0_1.length c0_1, .slice A0_2 l0_2.length c0_2] 25 (0, 0)) (by exact pbk BK413.1) hg (Kd.R_ne HO_5.1 BK413.1 (by decide))); replace HO417 := am (Kd.R_after (ok := (fun k_ => some k_ ≠ (.slice Ao20 t418.length co20 : Value).ownBlock)) (by (with_reducible repeat (first | apply Kd.R_alloc | apply Kd.R_drewN | apply Kd.R_drew)); exact Kd.R_mono HO417.1 (fun _ hk => ⟨hk.2, hk.1.2⟩)) hg hat); replace HO420 := am (Kd.R_after (ok := (fun k_ => some k_ ≠ (v416 : Value).ownBlock)) (by (with_reducible repeat (first | apply Kd.R_alloc | apply Kd.R_drewN | apply Kd.R_drew)); exact Kd.R_mono HO420.1 (fun _ hk => ⟨hk.2, hk.1.2⟩)) hg hat); replace HB := am hb; clear HO_5; clear ho hb hg hat))
 go_roundg kj3
 case measure => have := HK1.1; have := HJ3.1; omega
 case rel => exact ⟨(y421), (wrap64 (x6_1 + 1)), prs, H', ⟨by have := HK1.1; have := HJ3.1; omega⟩, ⟨by (with_reducible repeat (first | apply Kd.R_alloc | apply Kd.R_drewN | apply Kd.R_drew)); exact Kd.R_mono HO423.1 (fun _ hk => trivial)⟩, ⟨pbk BK413.1⟩, ⟨pbg⟩⟩

/-! ### r43_Source: function 13 -/
def r43_Source.f (k : Nat) (a0_0 : ByteArray) (l0_1 : List (S52)) (l0_2 : List (S48)) : Option (Int × Bool) := (r43_ends.f k a0_0 l0_1 l0_2 false).bind fun t428 => (if (t428.length : Int) = 1 then (if 0 < (t428.length : Int) then (some (rd t428 0, true)) else (none)) else (some ((-1), false)))
theorem r43_Source.mono : ∀ a0 a1 a2 k, LeO (r43_Source.f k a0 a1 a2) (r43_Source.f (k + 1) a0 a1 a2) := by
 intro a0 a1 a2 k
 unfold r43_Source.f
 repeat' first | (with_reducible first | apply r43_ends.mono | apply lr | apply ln | apply li | refine lb ?_ fun _ => ?_)
set_option maxHeartbeats 8000000 in
set_option maxRecDepth 100000 in
theorem r43_Source.calls (k : Nat) (a0_0 : ByteArray) (A0_1 : Option Addr) (c0_1 : Nat) (l0_1 : List (S52)) (A0_2 : Option Addr) (c0_2 : Nat) (l0_2 : List (S48)) (r1 : Int) (r2 : Bool) (w : World) (hr0_1 : Kd.C k52 w A0_1 l0_1.length l0_1) (hc0_1 : l0_1.length ≤ c0_1) (hr0_2 : Kd.C k48 w A0_2 l0_2.length l0_2) (hc0_2 : l0_2.length ≤ c0_2) (h : r43_Source.f k a0_0 l0_1 l0_2 = some (r1, r2)) :
  Calls Try.prog 13 #[.agg #[.string a0_0, .slice A0_1 l0_1.length c0_1, .slice A0_2 l0_2.length c0_2]] w fun e w' => e = .returned (.tuple #[.int .i64 r1, .bool r2]) ∧ Below w.heap.size w w' := by
 have hu25 := Try.underlying25
 have HR0_1 := am hr0_1
 have HC0_1 := am hc0_1
 clear hr0_1 hc0_1
 have HR0_2 := am hr0_2
 have HC0_2 := am hc0_2
 clear hr0_2 hc0_2
 have HB := am (Below.refl w.heap.size w)
 have H : ((r43_ends.f k a0_0 l0_1 l0_2 false).bind fun t428 => (if (t428.length : Int) = 1 then (if 0 < (t428.length : Int) then (some (rd t428 0, true)) else (none)) else (some ((-1), false)))) = some (r1, r2) := h
 clear h
 replace H := bnd H
 obtain ⟨t428, A2, H⟩ := H
 (try dsimp only at H)
 by_cases c3 : (t428.length : Int) = 1
 rotate_left
 ·rw [if_neg c3] at H
  have c3b0 : ((t428.length : Int) == 1) = false := beq_eq_false_iff_ne.mpr c3
  have c3b1 : ((t428.length : Int) != 1) = true := bne_iff_ne.mpr c3
  simp only [Option.some.injEq, Prod.mk.injEq] at H
  obtain ⟨rfl, rfl⟩ := H
  go_enter Try.func13, Try.ntmps13
  go_wp2_with (first | ((with_reducible refine gate_dst (N := 1) rfl ?_); refine box_ev (N := 1) (cs := #[.string a0_0, .slice A0_1 l0_1.length c0_1, .slice A0_2 l0_2.length c0_2]) (t := 25) ?_; intro gb427 hg w9 hbox hb; have BK427 := am hbox; have GW427 := gwl hg; have GE427 := GW427; replace HB := bsl hb; clear hb hbox hg; obtain ⟨z10_0, z10_1, z10_2, y10_0, y10_1, y10_2⟩ := cf3 BK427.1) | ((with_reducible refine gate_callee (f := 36) rfl ?_); refine gC 6 Try.func36 _ (r43_ends.calls k a0_0 _ _ l0_1 _ _ l0_2 false t428 _ (csb HR0_1 HB) HC0_1.1 (csb HR0_2 HB) HC0_2.1 A2.1) ?_; rintro e w11 ⟨v429, rfl, ho0, hb⟩; refine ⟨_, rfl, ?_⟩; have HO430 := am (Kd.R_lower ho0 (below_size pbg)); replace BK427 := bbh BK427 hb; replace HB := bst hb; (try clear hb); (try clear ho0); obtain ⟨Ao12, co12, eo12⟩ := Kd.R_slice HO430.1; subst eo12))
  go_ret2
  exact ⟨per, pbg⟩
 rw [if_pos c3] at H
 have c3b0 : ((t428.length : Int) == 1) = true := beq_iff_eq.mpr c3
 have c3b1 : ((t428.length : Int) != 1) = false := bne_eq_false_iff_eq.mpr c3
 clear c3
 replace H := ifp H
 obtain ⟨c4, H⟩ := H
 have c4b0 := decide_eq_true c4
 have c4b1 : decide (0 < t428.length) = true := decide_eq_true (by omega)
 clear c4
 simp only [Option.some.injEq, Prod.mk.injEq] at H
 obtain ⟨rfl, rfl⟩ := H
 go_enter Try.func13, Try.ntmps13
 go_wp2_with (first | ((with_reducible refine gate_dst (N := 1) rfl ?_); refine box_ev (N := 1) (cs := #[.string a0_0, .slice A0_1 l0_1.length c0_1, .slice A0_2 l0_2.length c0_2]) (t := 25) ?_; intro gb427 hg w5 hbox hb; have BK427 := am hbox; have GW427 := gwl hg; have GE427 := GW427; replace HB := bsl hb; clear hb hbox hg; obtain ⟨z6_0, z6_1, z6_2, y6_0, y6_1, y6_2⟩ := cf3 BK427.1) | ((with_reducible refine gate_callee (f := 36) rfl ?_); refine gC 6 Try.func36 _ (r43_ends.calls k a0_0 _ _ l0_1 _ _ l0_2 false t428 _ (csb HR0_1 HB) HC0_1.1 (csb HR0_2 HB) HC0_2.1 A2.1) ?_; rintro e w7 ⟨v429, rfl, ho0, hb⟩; refine ⟨_, rfl, ?_⟩; have HO430 := am (Kd.R_lower ho0 (below_size pbg)); replace BK427 := bbh BK427 hb; replace HB := bst hb; (try clear hb); (try clear ho0); obtain ⟨Ao8, co8, eo8⟩ := Kd.R_slice HO430.1; subst eo8; have p431 : 0 ≤ (0 : Int) := (by omega); have q431 : 0 < (t428.length : Int) := dq; obtain ⟨ad431, e431, hx431_0⟩ := Kd.at_int (Kd.R_reads' HO430.1).2.2 0 p431 q431; cases e431; have qi431 : (0 < t428.length) = True := eq_true (by omega); (try rw [show ((0 : Int)).toNat = 0 from rfl] at hx431_0); (try rw [Addr.add_zero'] at hx431_0); replace p431 := eq_true p431; replace q431 := eq_true q431))
 go_ret2
 exact ⟨per, pbg⟩

/-! ### r43_Sink: function 15 -/
def r43_Sink.f (k : Nat) (a0_0 : ByteArray) (l0_1 : List (S52)) (l0_2 : List (S48)) : Option (Int × Bool) := (r43_ends.f k a0_0 l0_1 l0_2 true).bind fun t433 => (if (t433.length : Int) = 1 then (if 0 < (t433.length : Int) then (some (rd t433 0, true)) else (none)) else (some ((-1), false)))
theorem r43_Sink.mono : ∀ a0 a1 a2 k, LeO (r43_Sink.f k a0 a1 a2) (r43_Sink.f (k + 1) a0 a1 a2) := by
 intro a0 a1 a2 k
 unfold r43_Sink.f
 repeat' first | (with_reducible first | apply r43_ends.mono | apply lr | apply ln | apply li | refine lb ?_ fun _ => ?_)
set_option maxHeartbeats 8000000 in
set_option maxRecDepth 100000 in
theorem r43_Sink.calls (k : Nat) (a0_0 : ByteArray) (A0_1 : Option Addr) (c0_1 : Nat) (l0_1 : List (S52)) (A0_2 : Option Addr) (c0_2 : Nat) (l0_2 : List (S48)) (r1 : Int) (r2 : Bool) (w : World) (hr0_1 : Kd.C k52 w A0_1 l0_1.length l0_1) (hc0_1 : l0_1.length ≤ c0_1) (hr0_2 : Kd.C k48 w A0_2 l0_2.length l0_2) (hc0_2 : l0_2.length ≤ c0_2) (h : r43_Sink.f k a0_0 l0_1 l0_2 = some (r1, r2)) :
  Calls Try.prog 15 #[.agg #[.string a0_0, .slice A0_1 l0_1.length c0_1, .slice A0_2 l0_2.length c0_2]] w fun e w' => e = .returned (.tuple #[.int .i64 r1, .bool r2]) ∧ Below w.heap.size w w' := by
 have hu25 := Try.underlying25
 have HR0_1 := am hr0_1
 have HC0_1 := am hc0_1
 clear hr0_1 hc0_1
 have HR0_2 := am hr0_2
 have HC0_2 := am hc0_2
 clear hr0_2 hc0_2
 have HB := am (Below.refl w.heap.size w)
 have H : ((r43_ends.f k a0_0 l0_1 l0_2 true).bind fun t433 => (if (t433.length : Int) = 1 then (if 0 < (t433.length : Int) then (some (rd t433 0, true)) else (none)) else (some ((-1), false)))) = some (r1, r2) := h
 clear h
 replace H := bnd H
 obtain ⟨t433, A2, H⟩ := H
 (try dsimp only at H)
 by_cases c3 : (t433.length : Int) = 1
 rotate_left
 ·rw [if_neg c3] at H
  have c3b0 : ((t433.length : Int) == 1) = false := beq_eq_false_iff_ne.mpr c3
  have c3b1 : ((t433.length : Int) != 1) = true := bne_iff_ne.mpr c3
  simp only [Option.some.injEq, Prod.mk.injEq] at H
  obtain ⟨rfl, rfl⟩ := H
  go_enter Try.func15, Try.ntmps15
  go_wp2_with (first | ((with_reducible refine gate_dst (N := 1) rfl ?_); refine box_ev (N := 1) (cs := #[.string a0_0, .slice A0_1 l0_1.length c0_1, .slice A0_2 l0_2.length c0_2]) (t := 25) ?_; intro gb432 hg w9 hbox hb; have BK432 := am hbox; have GW432 := gwl hg; have GE432 := GW432; replace HB := bsl hb; clear hb hbox hg; obtain ⟨z10_0, z10_1, z10_2, y10_0, y10_1, y10_2⟩ := cf3 BK432.1) | ((with_reducible refine gate_callee (f := 36) rfl ?_); refine gC 6 Try.func36 _ (r43_ends.calls k a0_0 _ _ l0_1 _ _ l0_2 true t433 _ (csb HR0_1 HB) HC0_1.1 (csb HR0_2 HB) HC0_2.1 A2.1) ?_; rintro e w11 ⟨v434, rfl, ho0, hb⟩; refine ⟨_, rfl, ?_⟩; have HO435 := am (Kd.R_lower ho0 (below_size pbg)); replace BK432 := bbh BK432 hb; replace HB := bst hb; (try clear hb); (try clear ho0); obtain ⟨Ao12, co12, eo12⟩ := Kd.R_slice HO435.1; subst eo12))
  go_ret2
  exact ⟨per, pbg⟩
 rw [if_pos c3] at H
 have c3b0 : ((t433.length : Int) == 1) = true := beq_iff_eq.mpr c3
 have c3b1 : ((t433.length : Int) != 1) = false := bne_eq_false_iff_eq.mpr c3
 clear c3
 replace H := ifp H
 obtain ⟨c4, H⟩ := H
 have c4b0 := decide_eq_true c4
 have c4b1 : decide (0 < t433.length) = true := decide_eq_true (by omega)
 clear c4
 simp only [Option.some.injEq, Prod.mk.injEq] at H
 obtain ⟨rfl, rfl⟩ := H
 go_enter Try.func15, Try.ntmps15
 go_wp2_with (first | ((with_reducible refine gate_dst (N := 1) rfl ?_); refine box_ev (N := 1) (cs := #[.string a0_0, .slice A0_1 l0_1.length c0_1, .slice A0_2 l0_2.length c0_2]) (t := 25) ?_; intro gb432 hg w5 hbox hb; have BK432 := am hbox; have GW432 := gwl hg; have GE432 := GW432; replace HB := bsl hb; clear hb hbox hg; obtain ⟨z6_0, z6_1, z6_2, y6_0, y6_1, y6_2⟩ := cf3 BK432.1) | ((with_reducible refine gate_callee (f := 36) rfl ?_); refine gC 6 Try.func36 _ (r43_ends.calls k a0_0 _ _ l0_1 _ _ l0_2 true t433 _ (csb HR0_1 HB) HC0_1.1 (csb HR0_2 HB) HC0_2.1 A2.1) ?_; rintro e w7 ⟨v434, rfl, ho0, hb⟩; refine ⟨_, rfl, ?_⟩; have HO435 := am (Kd.R_lower ho0 (below_size pbg)); replace BK432 := bbh BK432 hb; replace HB := bst hb; (try clear hb); (try clear ho0); obtain ⟨Ao8, co8, eo8⟩ := Kd.R_slice HO435.1; subst eo8; have p436 : 0 ≤ (0 : Int) := (by omega); have q436 : 0 < (t433.length : Int) := dq; obtain ⟨ad436, e436, hx436_0⟩ := Kd.at_int (Kd.R_reads' HO435.1).2.2 0 p436 q436; cases e436; have qi436 : (0 < t433.length) = True := eq_true (by omega); (try rw [show ((0 : Int)).toNat = 0 from rfl] at hx436_0); (try rw [Addr.add_zero'] at hx436_0); replace p436 := eq_true p436; replace q436 := eq_true q436))
 go_ret2
 exact ⟨per, pbg⟩

/-! ### r09_Plain: function 42 -/
mutual
def r09_Plain.l0 : Nat → Int → ByteArray → List (S52) → List (S48) → Option (Bool)
 | 0, _, _, _, _ => none
 | k + 1, x3, x438000, x438001, x438002 => if x3 < (x438001.length : Int) then (if 0 ≤ x3 then (if ((rd_T52 x438001 x3).f2) = 0 then (r09_Plain.l0 k (wrap64 (x3 + 1)) x438000 x438001 x438002) else (some false)) else (none)) else (r09_Plain.l1 k 0 x438000 x438001 x438002)
def r09_Plain.l1 : Nat → Int → ByteArray → List (S52) → List (S48) → Option (Bool)
 | 0, _, _, _, _ => none
 | k + 1, x4, x438000, x438001, x438002 => if x4 < (x438002.length : Int) then (if 0 ≤ x4 then (if (((rd_T48 x438002 x4).f3).length : Int) > 0 then (some false) else (if ((rd_T48 x438002 x4).f4) = 0 then (r09_Plain.l1 k (wrap64 (x4 + 1)) x438000 x438001 x438002) else (some false))) else (none)) else (some true)
end
def r09_Plain.f (k : Nat) (a0_0 : ByteArray) (l0_1 : List (S52)) (l0_2 : List (S48)) : Option (Bool) := (r09_Valid.f k a0_0 l0_1 l0_2).bind fun t438 => (if t438 = true then (r09_Plain.l0 k 0 a0_0 l0_1 l0_2) else (some false))
theorem r09_Plain.mono_l : ∀ k, M4 r09_Plain.l0 k ∧ M4 r09_Plain.l1 k
 | 0 => ⟨fun _ _ _ _ r h => by simp [r09_Plain.l0] at h, fun _ _ _ _ r h => by simp [r09_Plain.l1] at h⟩
 | k + 1 => by
  obtain ⟨ih0, ih1⟩ := r09_Plain.mono_l k
  refine ⟨?_, ?_⟩ <;> dsimp only [M4] <;> intros <;> (first | unfold r09_Plain.l0 | unfold r09_Plain.l1) <;> repeat' first | (with_reducible first | apply ih0 | apply ih1 | apply r09_Valid.mono | apply lr | apply ln | apply li | refine lb ?_ fun _ => ?_)
theorem r09_Plain.mono : ∀ a0 a1 a2 k, LeO (r09_Plain.f k a0 a1 a2) (r09_Plain.f (k + 1) a0 a1 a2) := by
 intro a0 a1 a2 k
 obtain ⟨ih0, ih1⟩ := r09_Plain.mono_l k
 unfold r09_Plain.f
 repeat' first | (with_reducible first | apply ih0 | apply ih1 | apply r09_Valid.mono | apply lr | apply ln | apply li | refine lb ?_ fun _ => ?_)
set_option maxHeartbeats 8000000 in
set_option maxRecDepth 100000 in
theorem r09_Plain.calls (k : Nat) (a0_0 : ByteArray) (A0_1 : Option Addr) (c0_1 : Nat) (l0_1 : List (S52)) (A0_2 : Option Addr) (c0_2 : Nat) (l0_2 : List (S48)) (r : Bool) (w : World) (hr0_1 : Kd.C k52 w A0_1 l0_1.length l0_1) (hc0_1 : l0_1.length ≤ c0_1) (hr0_2 : Kd.C k48 w A0_2 l0_2.length l0_2) (hc0_2 : l0_2.length ≤ c0_2) (h : r09_Plain.f k a0_0 l0_1 l0_2 = some r) :
  Calls Try.prog 42 #[.agg #[.string a0_0, .slice A0_1 l0_1.length c0_1, .slice A0_2 l0_2.length c0_2]] w fun e w' => e = .returned (.bool r) ∧ Below w.heap.size w w' := by
 have hu25 := Try.underlying25
 have HR0_1 := am hr0_1
 have HC0_1 := am hc0_1
 clear hr0_1 hc0_1
 have HR0_2 := am hr0_2
 have HC0_2 := am hc0_2
 clear hr0_2 hc0_2
 have HB := am (Below.refl w.heap.size w)
 have H : ((r09_Valid.f k a0_0 l0_1 l0_2).bind fun t438 => (if t438 = true then (r09_Plain.l0 k 0 a0_0 l0_1 l0_2) else (some false))) = some r := h
 clear h
 replace H := bnd H
 obtain ⟨t438, A2, H⟩ := H
 (try dsimp only at H)
 by_cases c3 : t438 = true
 rotate_left
 ·replace c3 := Bool.eq_false_iff.mpr c3
  subst c3
  rw [if_neg Bool.false_ne_true] at H
  obtain rfl := Option.some.inj H
  go_enter Try.func42, Try.ntmps42
  go_wp2_with (first | ((with_reducible refine gate_dst (N := 1) rfl ?_); refine box_ev (N := 1) (cs := #[.string a0_0, .slice A0_1 l0_1.length c0_1, .slice A0_2 l0_2.length c0_2]) (t := 25) ?_; intro gb437 hg w21 hbox hb; have BK437 := am hbox; have GW437 := gwl hg; have GE437 := GW437; replace HB := bsl hb; clear hb hbox hg; obtain ⟨z22_0, z22_1, z22_2, y22_0, y22_1, y22_2⟩ := cf3 BK437.1) | ((with_reducible refine gate_callee (f := 56) rfl ?_); refine gC 6 Try.func56 _ (r09_Valid.calls k a0_0 _ _ l0_1 _ _ l0_2 false _ (csb HR0_1 HB) HC0_1.1 (csb HR0_2 HB) HC0_2.1 A2.1) ?_; rintro e w23 ⟨rfl, hb⟩; refine ⟨_, rfl, ?_⟩; replace BK437 := bbh BK437 hb; replace HB := bst hb; (try clear hb)))
  go_ret
  exact ⟨per, pbg⟩
 subst c3
 rw [if_pos rfl] at H
 have H' := am H
 clear H
 go_enter Try.func42, Try.ntmps42
 go_wp2_with (first | ((with_reducible refine gate_dst (N := 1) rfl ?_); refine box_ev (N := 1) (cs := #[.string a0_0, .slice A0_1 l0_1.length c0_1, .slice A0_2 l0_2.length c0_2]) (t := 25) ?_; intro gb437 hg w4 hbox hb; have BK437 := am hbox; have GW437 := gwl hg; have GE437 := GW437; replace HB := bsl hb; clear hb hbox hg; obtain ⟨z5_0, z5_1, z5_2, y5_0, y5_1, y5_2⟩ := cf3 BK437.1) | ((with_reducible refine gate_callee (f := 56) rfl ?_); refine gC 6 Try.func56 _ (r09_Valid.calls k a0_0 _ _ l0_1 _ _ l0_2 true _ (csb HR0_1 HB) HC0_1.1 (csb HR0_2 HB) HC0_2.1 A2.1) ?_; rintro e w6 ⟨rfl, hb⟩; refine ⟨_, rfl, ?_⟩; replace BK437 := bbh BK437 hb; replace HB := bst hb; (try clear hb)))
 go_loopg [3] k (fun kq v3 w' => ∃ (x3_1 : Int), v3 = .int .i64 x3_1 ∧ Aside0 (r09_Plain.l0 kq x3_1 a0_0 l0_1 l0_2 = some r) ∧ Aside0 (kq ≤ k) ∧ Aside0 (w'.heap[gb437]? = some (.cells #[.string a0_0, (.slice A0_1 l0_1.length c0_1), (.slice A0_2 l0_2.length c0_2)] 25 (0, 0))) ∧ Aside0 (Below w.heap.size w w'))
 case atStart => exact ⟨(0), prs, H', ⟨Nat.le_refl _⟩, ⟨pbk BK437.1⟩, ⟨pbg⟩⟩
 clear H'
 try clear c3 z5_0 z5_1 z5_2 y5_0 y5_1 y5_2
 obtain ⟨x3_1, rfl, HA, HK1, BK437, HB⟩ := hrel
 obtain _ | k1 := gk
 ·exact absurd HA.1 (by simp [r09_Plain.l0])
 have H := HA.1
 clear HA
 simp only [r09_Plain.l0] at H
 by_cases c7 : x3_1 < (l0_1.length : Int)
 ·rw [if_pos c7] at H
  have c7b0 : decide (x3_1 < (l0_1.length : Int)) = true := decide_eq_true c7
  clear c7
  replace H := ifp H
  obtain ⟨c8, H⟩ := H
  have c8b0 := decide_eq_true c8
  clear c8
  by_cases c9 : ((rd_T52 l0_1 x3_1).f2) = 0
  rotate_left
  ·rw [if_neg c9] at H
   have c9b0 : (((rd_T52 l0_1 x3_1).f2) == 0) = false := beq_eq_false_iff_ne.mpr c9
   have c9b1 : (((rd_T52 l0_1 x3_1).f2) != 0) = true := bne_iff_ne.mpr c9
   obtain rfl := Option.some.inj H
   obtain ⟨z11_0, z11_1, z11_2, y11_0, y11_1, y11_2⟩ := cf3 BK437.1
   obtain ⟨p439, q439, ad439, e439, hx439_0, hx439_1, hx439_2⟩ := bT52 HR0_1.1 HB.1 x3_1
   cases e439
   go_wp2
   go_ret
   exact ⟨per, pbg⟩
  rw [if_pos c9] at H
  have c9b0 : (((rd_T52 l0_1 x3_1).f2) == 0) = true := beq_iff_eq.mpr c9
  have c9b1 : (((rd_T52 l0_1 x3_1).f2) != 0) = false := bne_eq_false_iff_eq.mpr c9
  clear c9
  have H' := am H
  clear H
  obtain ⟨z10_0, z10_1, z10_2, y10_0, y10_1, y10_2⟩ := cf3 BK437.1
  obtain ⟨p439, q439, ad439, e439, hx439_0, hx439_1, hx439_2⟩ := bT52 HR0_1.1 HB.1 x3_1
  cases e439
  go_wp2
  go_roundg k1
  case measure => have := HK1.1; omega
  case rel => exact ⟨(wrap64 (x3_1 + 1)), prs, H', ⟨by have := HK1.1; omega⟩, ⟨pbk BK437.1⟩, ⟨pbg⟩⟩
 rw [if_neg c7] at H
 have c7b0 : decide (x3_1 < (l0_1.length : Int)) = false := decide_eq_false c7
 clear c7
 have H' := am H
 clear H
 obtain ⟨z12_0, z12_1, z12_2, y12_0, y12_1, y12_2⟩ := cf3 BK437.1
 go_wp2
 go_loopg [4] k1 (fun kq v4 w' => ∃ (x4_2 : Int), v4 = .int .i64 x4_2 ∧ Aside0 (r09_Plain.l1 kq x4_2 a0_0 l0_1 l0_2 = some r) ∧ Aside0 (kq ≤ k1) ∧ Aside0 (w'.heap[gb437]? = some (.cells #[.string a0_0, (.slice A0_1 l0_1.length c0_1), (.slice A0_2 l0_2.length c0_2)] 25 (0, 0))) ∧ Aside0 (Below w.heap.size w w'))
 case atStart => exact ⟨(0), prs, H', ⟨Nat.le_refl _⟩, ⟨pbk BK437.1⟩, ⟨pbg⟩⟩
 clear H'
 try clear c3 c7 c7b0 c8 c8b0 c9 c9b0 c9b1 z10_0 z10_1 z10_2 z11_0 z11_1 z11_2 z12_0 z12_1 z12_2 z5_0 z5_1 z5_2 y10_0 y10_1 y10_2 y11_0 y11_1 y11_2 y12_0 y12_1 y12_2 y5_0 y5_1 y5_2 hx439_0 hx439_1 hx439_2 p439 q439
 obtain ⟨x4_2, rfl, HA, HK2, BK437, HB⟩ := hrel
 obtain _ | k2 := gk
 ·exact absurd HA.1 (by simp [r09_Plain.l1])
 have H := HA.1
 clear HA
 simp only [r09_Plain.l1] at H
 by_cases c13 : x4_2 < (l0_2.length : Int)
 rotate_left
 ·rw [if_neg c13] at H
  have c13b0 : decide (x4_2 < (l0_2.length : Int)) = false := decide_eq_false c13
  clear c13
  obtain rfl := Option.some.inj H
  obtain ⟨z20_0, z20_1, z20_2, y20_0, y20_1, y20_2⟩ := cf3 BK437.1
  go_wp2
  go_ret
  exact ⟨per, pbg⟩
 rw [if_pos c13] at H
 have c13b0 : decide (x4_2 < (l0_2.length : Int)) = true := decide_eq_true c13
 clear c13
 replace H := ifp H
 obtain ⟨c14, H⟩ := H
 have c14b0 := decide_eq_true c14
 clear c14
 by_cases c15 : (((rd_T48 l0_2 x4_2).f3).length : Int) > 0
 ·rw [if_pos c15] at H
  have c15b0 : decide (0 < (((rd_T48 l0_2 x4_2).f3).length : Int)) = true := decide_eq_true c15
  have c15b1 : decide (0 < ((rd_T48 l0_2 x4_2).f3).length) = true := decide_eq_true (by omega)
  clear c15
  obtain rfl := Option.some.inj H
  obtain ⟨z16_0, z16_1, z16_2, y16_0, y16_1, y16_2⟩ := cf3 BK437.1
  obtain ⟨p440, q440, ad440, A440_1, c440_1, A440_2, c440_2, A440_3, c440_3, e440, hx440_0, hx440_1, hx440_2, hx440_3, hx440_4, HC440_1, HR440_1, HC440_2, HR440_2, HC440_3, HR440_3⟩ := bT48 HR0_2.1 HB.1 x4_2
  cases e440
  go_wp2
  go_ret
  exact ⟨per, pbg⟩
 rw [if_neg c15] at H
 have c15b0 : decide (0 < (((rd_T48 l0_2 x4_2).f3).length : Int)) = false := decide_eq_false c15
 have c15b1 : decide (0 < ((rd_T48 l0_2 x4_2).f3).length) = false := decide_eq_false (by omega)
 clear c15
 by_cases c17 : ((rd_T48 l0_2 x4_2).f4) = 0
 rotate_left
 ·rw [if_neg c17] at H
  have c17b0 : (((rd_T48 l0_2 x4_2).f4) == 0) = false := beq_eq_false_iff_ne.mpr c17
  have c17b1 : (((rd_T48 l0_2 x4_2).f4) != 0) = true := bne_iff_ne.mpr c17
  obtain rfl := Option.some.inj H
  obtain ⟨z19_0, z19_1, z19_2, y19_0, y19_1, y19_2⟩ := cf3 BK437.1
  obtain ⟨p440, q440, ad440, A440_1, c440_1, A440_2, c440_2, A440_3, c440_3, e440, hx440_0, hx440_1, hx440_2, hx440_3, hx440_4, HC440_1, HR440_1, HC440_2, HR440_2, HC440_3, HR440_3⟩ := bT48 HR0_2.1 HB.1 x4_2
  cases e440
  obtain ⟨p441, q441, ad441, A441_1, c441_1, A441_2, c441_2, A441_3, c441_3, e441, hx441_0, hx441_1, hx441_2, hx441_3, hx441_4, HC441_1, HR441_1, HC441_2, HR441_2, HC441_3, HR441_3⟩ := bT48 HR0_2.1 HB.1 x4_2
  obtain rfl : ad440 = ad441 := (by injection e441)
  have ea_ := Option.some.inj (hx440_1.symm.trans hx441_1)
  injection ea_ with ea_ en_ ec_
  subst ea_
  subst ec_
  clear en_
  have ea_ := Option.some.inj (hx440_2.symm.trans hx441_2)
  injection ea_ with ea_ en_ ec_
  subst ea_
  subst ec_
  clear en_
  have ea_ := Option.some.inj (hx440_3.symm.trans hx441_3)
  injection ea_ with ea_ en_ ec_
  subst ea_
  subst ec_
  clear en_
  go_wp2
  go_ret
  exact ⟨per, pbg⟩
 rw [if_pos c17] at H
 have c17b0 : (((rd_T48 l0_2 x4_2).f4) == 0) = true := beq_iff_eq.mpr c17
 have c17b1 : (((rd_T48 l0_2 x4_2).f4) != 0) = false := bne_eq_false_iff_eq.mpr c17
 clear c17
 have H' := am H
 clear H
 obtain ⟨z18_0, z18_1, z18_2, y18_0, y18_1, y18_2⟩ := cf3 BK437.1
 obtain ⟨p440, q440, ad440, A440_1, c440_1, A440_2, c440_2, A440_3, c440_3, e440, hx440_0, hx440_1, hx440_2, hx440_3, hx440_4, HC440_1, HR440_1, HC440_2, HR440_2, HC440_3, HR440_3⟩ := bT48 HR0_2.1 HB.1 x4_2
 cases e440
 obtain ⟨p441, q441, ad441, A441_1, c441_1, A441_2, c441_2, A441_3, c441_3, e441, hx441_0, hx441_1, hx441_2, hx441_3, hx441_4, HC441_1, HR441_1, HC441_2, HR441_2, HC441_3, HR441_3⟩ := bT48 HR0_2.1 HB.1 x4_2
 obtain rfl : ad440 = ad441 := (by injection e441)
 have ea_ := Option.some.inj (hx440_1.symm.trans hx441_1)
 injection ea_ with ea_ en_ ec_
 subst ea_
 subst ec_
 clear en_
 have ea_ := Option.some.inj (hx440_2.symm.trans hx441_2)
 injection ea_ with ea_ en_ ec_
 subst ea_
 subst ec_
 clear en_
 have ea_ := Option.some.inj (hx440_3.symm.trans hx441_3)
 injection ea_ with ea_ en_ ec_
 subst ea_
 subst ec_
 clear en_
 go_wp2
 go_roundg k2
 case measure => have := HK1.1; have := HK2.1; omega
 case rel => exact ⟨(wrap64 (x4_2 + 1)), prs, H', ⟨by have := HK1.1; have := HK2.1; omega⟩, ⟨pbk BK437.1⟩, ⟨pbg⟩⟩

/-! ### r09_Targets: function 79 -/
def r09_Targets.l0 : Nat → List (S55) → List Int → Int → Option (List Int)
 | 0, _, _, _ => none
 | k + 1, x0, x3, x4 => if x4 < (x0.length : Int) then (if 0 ≤ x4 then (if x3.length < 17592186044416 then (r09_Targets.l0 k x0 (x3 ++ [(rd_T55 x0 x4).f0]) (wrap64 (x4 + 1))) else (none)) else (none)) else (some x3)
def r09_Targets.f (k : Nat) (l0 : List (S55)) : Option (List Int) := r09_Targets.l0 k l0 ([] : List Int) 0
theorem r09_Targets.mono_l : ∀ k, M3 r09_Targets.l0 k
 | 0 => fun _ _ _ r h => by simp [r09_Targets.l0] at h
 | k + 1 => by
  have ih0 := r09_Targets.mono_l k
  ·intro y0 y1 y2
   unfold r09_Targets.l0
   repeat' first | (with_reducible first | apply ih0 | apply lr | apply ln | apply li | refine lb ?_ fun _ => ?_)
theorem r09_Targets.mono : ∀ a0 k, LeO (r09_Targets.f k a0) (r09_Targets.f (k + 1) a0) := by
 intro a0 k
 have ih0 := r09_Targets.mono_l k
 unfold r09_Targets.f
 repeat' first | (with_reducible first | apply ih0 | apply lr | apply ln | apply li | refine lb ?_ fun _ => ?_)
set_option maxHeartbeats 8000000 in
set_option maxRecDepth 100000 in
theorem r09_Targets.calls (k : Nat) (A0 : Option Addr) (c0 : Nat) (l0 : List (S55)) (r : List Int) (w : World) (hr0 : Kd.C k55 w A0 l0.length l0) (hc0 : l0.length ≤ c0) (h : r09_Targets.f k l0 = some r) :
  Calls Try.prog 79 #[.slice A0 l0.length c0] w fun e w' => ∃ v0_ : Value, e = .returned (v0_) ∧ Kd.R (Kd.int .i64) 3 w' w.heap.size (fun _ => True) v0_ r ∧ Below w.heap.size w w' := by
 have HR0 := am hr0
 have HC0 := am hc0
 clear hr0 hc0
 have HB := am (Below.refl w.heap.size w)
 have H : (r09_Targets.l0 k l0 ([] : List Int) 0) = some r := h
 clear h
 have H' := am H
 clear H
 go_enter Try.func79, Try.ntmps79
 go_wp2
 go_loopg [3, 4] k (fun kq v3 v4 w' => ∃ (x3_1 : List Int) (x4_1 : Int), v4 = .int .i64 x4_1 ∧ Aside0 (r09_Targets.l0 kq l0 x3_1 x4_1 = some r) ∧ Aside0 (kq ≤ k) ∧ Aside0 (Kd.R (Kd.int .i64) 3 w' w.heap.size (fun _ => True) v3 x3_1) ∧ Aside0 (Below w.heap.size w w'))
 case atStart => exact ⟨(([] : List Int)), (0), prs, H', ⟨Nat.le_refl _⟩, ⟨knl⟩, ⟨pbg⟩⟩
 clear H'
 obtain ⟨x3_1, x4_1, rfl, HA, HK1, HO_3, HB⟩ := hrel
 obtain _ | k1 := gk
 ·exact absurd HA.1 (by simp [r09_Targets.l0])
 have H := HA.1
 clear HA
 simp only [r09_Targets.l0] at H
 by_cases c2 : x4_1 < (l0.length : Int)
 rotate_left
 ·rw [if_neg c2] at H
  have c2b0 : decide (x4_1 < (l0.length : Int)) = false := decide_eq_false c2
  clear c2
  obtain rfl := Option.some.inj H
  go_wp2
  go_ret
  exact ⟨_, per, by (with_reducible repeat (first | apply Kd.R_alloc | apply Kd.R_drewN | apply Kd.R_drew)); exact HO_3.1, pbg⟩
 rw [if_pos c2] at H
 have c2b0 : decide (x4_1 < (l0.length : Int)) = true := decide_eq_true c2
 clear c2
 replace H := ifp H
 obtain ⟨c3, H⟩ := H
 have c3b0 := decide_eq_true c3
 clear c3
 replace H := ifp H
 obtain ⟨c4, H⟩ := H
 have LMc4 := am c4
 clear c4
 obtain ⟨y443, hy443⟩ : ∃ y_ : List Int, y_ = (x3_1 ++ [(rd_T55 l0 x4_1).f0]) := ⟨_, rfl⟩
 replace H : (r09_Targets.l0 k1 l0 y443 (wrap64 (x4_1 + 1))) = some r := hrp hy443 H
 have Ny443 := am hy443
 clear hy443
 have H' := am H
 clear H
 obtain ⟨p442, q442, ad442, e442, hx442_0, hx442_1⟩ := bT55 HR0.1 HB.1 x4_1
 cases e442
 go_wp2_with (first | ((with_reducible refine gate_builtin (b := .append) (xs := #[.tmp 11, .tmp 17]) rfl ?_); at_builtin; refine Kd.R_append (Kd.int .i64) (w0 := w) w.heap.size rfl (.tmp 11) (.tmp 17) 39 3 (.int .i64 0) 8 rfl Try.underlying39 info3 rfl (by decide) (by omega) u3 x3_1 ((rd_T55 l0 x4_1).f0) [.int .i64 ((rd_T55 l0 x4_1).f0)] (fun _ => True) (fun _ => False) rfl rfl ?aP (fun _ hk => hk.elim) ?aF ?aO ?aB ?aS ?aL ?_; (case aP => exact rfl); (case aB => exact pbl); (case aF => exact (fun _ _ => trivial)); (case aO => exact (pkr HO_3.1)); (case aS => exact (below_size pbl)); (case aL => have := LMc4.1; omega); intro v444 w5 ho hb hg hat; rw [← Ny443.1] at ho; have HO445 := am ho; replace HB := am hb; clear HO_3; clear ho hb hg hat))
 go_roundg k1
 case measure => have := HK1.1; omega
 case rel => exact ⟨(y443), (wrap64 (x4_1 + 1)), prs, H', ⟨by have := HK1.1; omega⟩, ⟨pkr HO445.1⟩, ⟨pbg⟩⟩

/-! ### r13_Flow: function 68 -/
mutual
def r13_Flow.l0 : Nat → List (List Int) → Int → ByteArray → List (S52) → List (S48) → Option ((List (List Int)))
 | 0, _, _, _, _, _ => none
 | k + 1, x3, x4, x447000, x447001, x447002 => if x4 < (x447001.length : Int) then (r13_Flow.l1 k x3 x4 ([] : List Int) 0 x447000 x447001 x447002) else (r13_Flow.l2 k x3 0 x447000 x447001 x447002)
def r13_Flow.l1 : Nat → List (List Int) → Int → List Int → Int → ByteArray → List (S52) → List (S48) → Option ((List (List Int)))
 | 0, _, _, _, _, _, _, _ => none
 | k + 1, x3, x4, x5, x6, x447000, x447001, x447002 => if x6 < (x447002.length : Int) then (if 0 ≤ x6 then ((r09_Weight.f k ((rd_T48 x447002 x6).f1) x4).bind fun t449 => (if t449 > 0 then (if x5.length < 17592186044416 then (r13_Flow.l1 k x3 x4 (x5 ++ [wrap64 ((x447001.length : Int) + x6)]) (wrap64 (x6 + 1)) x447000 x447001 x447002) else (none)) else (r13_Flow.l1 k x3 x4 x5 (wrap64 (x6 + 1)) x447000 x447001 x447002))) else (none)) else (if x3.length < 5864062014805 then (r13_Flow.l0 k (x3 ++ [x5]) (wrap64 (x4 + 1)) x447000 x447001 x447002) else (none))
def r13_Flow.l2 : Nat → List (List Int) → Int → ByteArray → List (S52) → List (S48) → Option ((List (List Int)))
 | 0, _, _, _, _, _ => none
 | k + 1, x3, x7, x447000, x447001, x447002 => if x7 < (x447002.length : Int) then (if 0 ≤ x7 then ((r09_Targets.f k ((rd_T48 x447002 x7).f2)).bind fun t457 => (if x3.length < 5864062014805 then (r13_Flow.l2 k (x3 ++ [t457]) (wrap64 (x7 + 1)) x447000 x447001 x447002) else (none))) else (none)) else (some x3)
end
def r13_Flow.f (k : Nat) (a0_0 : ByteArray) (l0_1 : List (S52)) (l0_2 : List (S48)) : Option ((List (List Int))) := (r09_Valid.f k a0_0 l0_1 l0_2).bind fun t447 => (if t447 = true then (r13_Flow.l0 k ([] : List (List Int)) 0 a0_0 l0_1 l0_2) else (some ([] : List (List Int))))
theorem r13_Flow.mono_l : ∀ k, M5 r13_Flow.l0 k ∧ M7 r13_Flow.l1 k ∧ M5 r13_Flow.l2 k
 | 0 => ⟨fun _ _ _ _ _ r h => by simp [r13_Flow.l0] at h, fun _ _ _ _ _ _ _ r h => by simp [r13_Flow.l1] at h, fun _ _ _ _ _ r h => by simp [r13_Flow.l2] at h⟩
 | k + 1 => by
  obtain ⟨ih0, ih1, ih2⟩ := r13_Flow.mono_l k
  refine ⟨?_, ?_, ?_⟩ <;> dsimp only [M5, M7] <;> intros <;> (first | unfold r13_Flow.l0 | unfold r13_Flow.l1 | unfold r13_Flow.l2) <;> repeat' first | (with_reducible first | apply ih0 | apply ih1 | apply ih2 | apply r09_Targets.mono | apply r09_Valid.mono | apply r09_Weight.mono | apply lr | apply ln | apply li | refine lb ?_ fun _ => ?_)
theorem r13_Flow.mono : ∀ a0 a1 a2 k, LeO (r13_Flow.f k a0 a1 a2) (r13_Flow.f (k + 1) a0 a1 a2) := by
 intro a0 a1 a2 k
 obtain ⟨ih0, ih1, ih2⟩ := r13_Flow.mono_l k
 unfold r13_Flow.f
 repeat' first | (with_reducible first | apply ih0 | apply ih1 | apply ih2 | apply r09_Targets.mono | apply r09_Valid.mono | apply r09_Weight.mono | apply lr | apply ln | apply li | refine lb ?_ fun _ => ?_)
set_option maxHeartbeats 8000000 in
set_option maxRecDepth 100000 in
theorem r13_Flow.calls (k : Nat) (a0_0 : ByteArray) (A0_1 : Option Addr) (c0_1 : Nat) (l0_1 : List (S52)) (A0_2 : Option Addr) (c0_2 : Nat) (l0_2 : List (S48)) (r : List (List Int)) (w : World) (hr0_1 : Kd.C k52 w A0_1 l0_1.length l0_1) (hc0_1 : l0_1.length ≤ c0_1) (hr0_2 : Kd.C k48 w A0_2 l0_2.length l0_2) (hc0_2 : l0_2.length ≤ c0_2) (h : r13_Flow.f k a0_0 l0_1 l0_2 = some r) :
  Calls Try.prog 68 #[.agg #[.string a0_0, .slice A0_1 l0_1.length c0_1, .slice A0_2 l0_2.length c0_2]] w fun e w' => ∃ v0_ : Value, e = .returned (v0_) ∧ Kd.S (Kd.slice 3 (Kd.int .i64)) 39 w' w.heap.size (fun _ => True) v0_ r ∧ Below w.heap.size w w' := by
 have hu25 := Try.underlying25
 have HR0_1 := am hr0_1
 have HC0_1 := am hc0_1
 clear hr0_1 hc0_1
 have HR0_2 := am hr0_2
 have HC0_2 := am hc0_2
 clear hr0_2 hc0_2
 have HB := am (Below.refl w.heap.size w)
 have H : ((r09_Valid.f k a0_0 l0_1 l0_2).bind fun t447 => (if t447 = true then (r13_Flow.l0 k ([] : List (List Int)) 0 a0_0 l0_1 l0_2) else (some ([] : List (List Int))))) = some r := h
 clear h
 replace H := bnd H
 obtain ⟨t447, A2, H⟩ := H
 (try dsimp only at H)
 by_cases c3 : t447 = true
 rotate_left
 ·replace c3 := Bool.eq_false_iff.mpr c3
  subst c3
  rw [if_neg Bool.false_ne_true] at H
  obtain rfl := Option.some.inj H
  go_enter Try.func68, Try.ntmps68
  go_wp2_with (first | ((with_reducible refine gate_dst (N := 1) rfl ?_); refine box_ev (N := 1) (cs := #[.string a0_0, .slice A0_1 l0_1.length c0_1, .slice A0_2 l0_2.length c0_2]) (t := 25) ?_; intro gb446 hg w31 hbox hb; have BK446 := am hbox; have GW446 := gwl hg; have GE446 := GW446; replace HB := bsl hb; clear hb hbox hg; obtain ⟨z32_0, z32_1, z32_2, y32_0, y32_1, y32_2⟩ := cf3 BK446.1) | ((with_reducible refine gate_callee (f := 56) rfl ?_); refine gC 9 Try.func56 _ (r09_Valid.calls k a0_0 _ _ l0_1 _ _ l0_2 false _ (csb HR0_1 HB) HC0_1.1 (csb HR0_2 HB) HC0_2.1 A2.1) ?_; rintro e w33 ⟨rfl, hb⟩; refine ⟨_, rfl, ?_⟩; replace BK446 := bbh BK446 hb; replace HB := bst hb; (try clear hb)))
  go_ret
  exact ⟨_, per, knl, pbg⟩
 subst c3
 rw [if_pos rfl] at H
 have H' := am H
 clear H
 go_enter Try.func68, Try.ntmps68
 go_wp2_with (first | ((with_reducible refine gate_dst (N := 1) rfl ?_); refine box_ev (N := 1) (cs := #[.string a0_0, .slice A0_1 l0_1.length c0_1, .slice A0_2 l0_2.length c0_2]) (t := 25) ?_; intro gb446 hg w4 hbox hb; have BK446 := am hbox; have GW446 := gwl hg; have GE446 := GW446; replace HB := bsl hb; clear hb hbox hg; obtain ⟨z5_0, z5_1, z5_2, y5_0, y5_1, y5_2⟩ := cf3 BK446.1) | ((with_reducible refine gate_callee (f := 56) rfl ?_); refine gC 9 Try.func56 _ (r09_Valid.calls k a0_0 _ _ l0_1 _ _ l0_2 true _ (csb HR0_1 HB) HC0_1.1 (csb HR0_2 HB) HC0_2.1 A2.1) ?_; rintro e w6 ⟨rfl, hb⟩; refine ⟨_, rfl, ?_⟩; replace BK446 := bbh BK446 hb; replace HB := bst hb; (try clear hb)))
 go_loopg [3, 4] k (fun kq v3 v4 w' => ∃ (x3_1 : List (List Int)) (x4_1 : Int), v4 = .int .i64 x4_1 ∧ Aside0 (r13_Flow.l0 kq x3_1 x4_1 a0_0 l0_1 l0_2 = some r) ∧ Aside0 (kq ≤ k) ∧ Aside0 (Kd.S (Kd.slice 3 (Kd.int .i64)) 39 w' w.heap.size (fun _ => True) v3 x3_1) ∧ Aside0 (w'.heap[gb446]? = some (.cells #[.string a0_0, (.slice A0_1 l0_1.length c0_1), (.slice A0_2 l0_2.length c0_2)] 25 (0, 0))) ∧ Aside0 (Below w.heap.size w w'))
 case atStart => exact ⟨(([] : List (List Int))), (0), prs, H', ⟨Nat.le_refl _⟩, ⟨knl⟩, ⟨pbk BK446.1⟩, ⟨pbg⟩⟩
 clear H'
 try clear c3 z5_0 z5_1 z5_2 y5_0 y5_1 y5_2
 obtain ⟨x3_1, x4_1, rfl, HA, HK1, HO_3, BK446, HB⟩ := hrel
 obtain _ | k1 := gk
 ·exact absurd HA.1 (by simp [r13_Flow.l0])
 have H := HA.1
 clear HA
 simp only [r13_Flow.l0] at H
 by_cases c7 : x4_1 < (l0_1.length : Int)
 rotate_left
 ·rw [if_neg c7] at H
  have c7b0 : decide (x4_1 < (l0_1.length : Int)) = false := decide_eq_false c7
  clear c7
  have H' := am H
  clear H
  obtain ⟨z21_0, z21_1, z21_2, y21_0, y21_1, y21_2⟩ := cf3 BK446.1
  go_wp2
  go_loopg [3, 7] k1 (fun kq v3 v7 w' => ∃ (x3_2 : List (List Int)) (x7_2 : Int), v7 = .int .i64 x7_2 ∧ Aside0 (r13_Flow.l2 kq x3_2 x7_2 a0_0 l0_1 l0_2 = some r) ∧ Aside0 (kq ≤ k1) ∧ Aside0 (Kd.S (Kd.slice 3 (Kd.int .i64)) 39 w' w.heap.size (fun _ => True) v3 x3_2) ∧ Aside0 (w'.heap[gb446]? = some (.cells #[.string a0_0, (.slice A0_1 l0_1.length c0_1), (.slice A0_2 l0_2.length c0_2)] 25 (0, 0))) ∧ Aside0 (Below w.heap.size w w'))
  case atStart => exact ⟨(x3_1), (0), prs, H', ⟨Nat.le_refl _⟩, ⟨pks HO_3.1⟩, ⟨pbk BK446.1⟩, ⟨pbg⟩⟩
  clear H'
  try clear c3 c7 c7b0 c9 c9b0 c10 c10b0 c12 c12b0 c13 c17 z14_0 z14_1 z14_2 z16_0 z16_1 z16_2 z18_0 z18_1 z18_2 z21_0 z21_1 z21_2 z5_0 z5_1 z5_2 z8_0 z8_1 z8_2 y14_0 y14_1 y14_2 y16_0 y16_1 y16_2 y18_0 y18_1 y18_2 y21_0 y21_1 y21_2 y5_0 y5_1 y5_2 y8_0 y8_1 y8_2 hx448_0 hx448_1 hx448_2 hx448_3 hx448_4 p448 q448
  obtain ⟨x3_2, x7_2, rfl, HA, HK2, HO_3, BK446, HB⟩ := hrel
  obtain _ | k2 := gk
  ·exact absurd HA.1 (by simp [r13_Flow.l2])
  have H := HA.1
  clear HA
  simp only [r13_Flow.l2] at H
  by_cases c22 : x7_2 < (l0_2.length : Int)
  rotate_left
  ·rw [if_neg c22] at H
   have c22b0 : decide (x7_2 < (l0_2.length : Int)) = false := decide_eq_false c22
   clear c22
   obtain rfl := Option.some.inj H
   obtain ⟨z30_0, z30_1, z30_2, y30_0, y30_1, y30_2⟩ := cf3 BK446.1
   go_wp2
   go_ret
   exact ⟨_, per, by (with_reducible repeat (first | apply Kd.S_alloc | apply Kd.S_drewN | apply Kd.S_drew)); exact HO_3.1, pbg⟩
  rw [if_pos c22] at H
  have c22b0 : decide (x7_2 < (l0_2.length : Int)) = true := decide_eq_true c22
  clear c22
  replace H := ifp H
  obtain ⟨c23, H⟩ := H
  have c23b0 := decide_eq_true c23
  clear c23
  replace H := bnd H
  obtain ⟨t457, A24, H⟩ := H
  (try dsimp only at H)
  replace H := ifp H
  obtain ⟨c25, H⟩ := H
  have LMc25 := am c25
  clear c25
  obtain ⟨y460, hy460⟩ : ∃ y_ : List (List Int), y_ = (x3_2 ++ [t457]) := ⟨_, rfl⟩
  replace H : (r13_Flow.l2 k2 y460 (wrap64 (x7_2 + 1)) a0_0 l0_1 l0_2) = some r := hrp hy460 H
  have Ny460 := am hy460
  clear hy460
  have H' := am H
  clear H
  obtain ⟨z26_0, z26_1, z26_2, y26_0, y26_1, y26_2⟩ := cf3 BK446.1
  obtain ⟨p456, q456, ad456, A456_1, c456_1, A456_2, c456_2, A456_3, c456_3, e456, hx456_0, hx456_1, hx456_2, hx456_3, hx456_4, HC456_1, HR456_1, HC456_2, HR456_2, HC456_3, HR456_3⟩ := bT48 HR0_2.1 HB.1 x7_2
  cases e456
  go_wp2_with (first | ((with_reducible refine gate_callee (f := 79) rfl ?_); refine gC 60 Try.func79 _ (r09_Targets.calls k2 _ _ ((rd_T48 l0_2 x7_2).f2) t457 _ (csb HR456_2 HB) HC456_2.1 A24.1) ?_; rintro e w27 ⟨v458, rfl, ho0, hb⟩; refine ⟨_, rfl, ?_⟩; have HO459 := am (Kd.R_lower ho0 (below_size pbg)); replace HO_3 := am (Kd.S_elder' (pks HO_3.1) (Kd.R_base ho0) hb); replace BK446 := bbh BK446 hb; replace HB := bst hb; (try clear hb); (try clear ho0); obtain ⟨Ao29, co29, eo29⟩ := Kd.R_slice HO459.1; subst eo29) | ((with_reducible refine gate_builtin (b := .append) (xs := #[.tmp 53, .tmp 61]) rfl ?_); at_builtin; refine Kd.S_append (Kd.slice 3 (Kd.int .i64)) (w0 := w) w.heap.size rfl (.tmp 53) (.tmp 61) 72 39 (.slice none 0 0) 24 rfl Try.underlying72 info39 rfl (by decide) (by omega) u3 x3_2 t457 [.slice Ao29 t457.length co29] (fun _ => True) (fun k_ => some k_ = (.slice Ao29 t457.length co29 : Value).ownBlock) rfl rfl ?aP (fun k_ hk_ => ((Kd.R_mono (ok' := fun k_ => ((fun _ => True)) k_ ∧ some k_ ≠ (u3 : Value).ownBlock) (Kd.R_apart' (HO459.1) (Kd.S_typed HO_3.1) (by decide)) (fun k_ hk => ⟨trivial, hk.2⟩))).1 k_ hk_.symm) ?aF ?aO ?aB ?aS ?aL ?_; (case aP => exact Kd.M_row (Kd.R_mono (Kd.R_tight rfl (Kd.R_mono (ok' := fun k_ => ((fun _ => True)) k_ ∧ some k_ ≠ (u3 : Value).ownBlock) (Kd.R_apart' (HO459.1) (Kd.S_typed HO_3.1) (by decide)) (fun k_ hk => ⟨trivial, hk.2⟩))) (fun _ h_ => h_))); (case aB => exact pbg); (case aF => exact (fun _ _ => trivial)); (case aO => exact (by (with_reducible repeat (first | apply Kd.S_alloc | apply Kd.S_drewN | apply Kd.S_drew)); exact Kd.S_mono HO_3.1 (fun k_ hk => ⟨trivial, fun e_ => hk.2 e_⟩))); (case aS => exact (below_size pbg)); (case aL => have := LMc25.1; omega); intro v461 w28 ho hb hg hat; rw [← Ny460.1] at ho; have HO462 := am ho; replace BK446 := am (blk_grown (g := gb446) (o := .cells #[.string a0_0, .slice A0_1 l0_1.length c0_1, .slice (some ad456) l0_2.length c0_2] 25 (0, 0)) (by exact pbk BK446.1) hg (Kd.S_ne HO_3.1 BK446.1 (by decide))); replace HB := am hb; (try clear HO_3 HO459); clear ho hb hg hat))
  go_roundg k2
  case measure => have := HK1.1; have := HK2.1; omega
  case rel => exact ⟨(y460), (wrap64 (x7_2 + 1)), prs, H', ⟨by have := HK1.1; have := HK2.1; omega⟩, ⟨pks HO462.1⟩, ⟨pbk BK446.1⟩, ⟨pbg⟩⟩
 rw [if_pos c7] at H
 have c7b0 : decide (x4_1 < (l0_1.length : Int)) = true := decide_eq_true c7
 clear c7
 have H' := am H
 clear H
 obtain ⟨z8_0, z8_1, z8_2, y8_0, y8_1, y8_2⟩ := cf3 BK446.1
 go_wp2
 go_loopg [5, 6] k1 (fun kq v5 v6 w' => ∃ (x5_2 : List Int) (x6_2 : Int), v6 = .int .i64 x6_2 ∧ Aside0 (r13_Flow.l1 kq x3_1 x4_1 x5_2 x6_2 a0_0 l0_1 l0_2 = some r) ∧ Aside0 (kq ≤ k1) ∧ Aside0 (Kd.S (Kd.slice 3 (Kd.int .i64)) 39 w' w.heap.size (fun k_ => some k_ ≠ (v5 : Value).ownBlock) u3 x3_1) ∧ Aside0 (Kd.R (Kd.int .i64) 3 w' w.heap.size (fun _ => True) v5 x5_2) ∧ Aside0 (w'.heap[gb446]? = some (.cells #[.string a0_0, (.slice A0_1 l0_1.length c0_1), (.slice A0_2 l0_2.length c0_2)] 25 (0, 0))) ∧ Aside0 (Below w.heap.size w w'))
 case atStart => exact ⟨(([] : List Int)), (0), prs, H', ⟨Nat.le_refl _⟩, ⟨by (with_reducible repeat (first | apply Kd.S_alloc | apply Kd.S_drewN | apply Kd.S_drew)); exact Kd.S_mono HO_3.1 (fun _ hk => (by simp [Value.ownBlock]))⟩, ⟨knl⟩, ⟨pbk BK446.1⟩, ⟨pbg⟩⟩
 clear H'
 try clear c3 c7 c7b0 z5_0 z5_1 z5_2 z8_0 z8_1 z8_2 y5_0 y5_1 y5_2 y8_0 y8_1 y8_2
 obtain ⟨x5_2, x6_2, rfl, HA, HK2, HO_3, HO_5, BK446, HB⟩ := hrel
 obtain _ | k2 := gk
 ·exact absurd HA.1 (by simp [r13_Flow.l1])
 have H := HA.1
 clear HA
 simp only [r13_Flow.l1] at H
 by_cases c9 : x6_2 < (l0_2.length : Int)
 rotate_left
 ·rw [if_neg c9] at H
  have c9b0 : decide (x6_2 < (l0_2.length : Int)) = false := decide_eq_false c9
  clear c9
  replace H := ifp H
  obtain ⟨c17, H⟩ := H
  have LMc17 := am c17
  clear c17
  obtain ⟨y453, hy453⟩ : ∃ y_ : List (List Int), y_ = (x3_1 ++ [x5_2]) := ⟨_, rfl⟩
  replace H : (r13_Flow.l0 k2 y453 (wrap64 (x4_1 + 1)) a0_0 l0_1 l0_2) = some r := hrp hy453 H
  have Ny453 := am hy453
  clear hy453
  have H' := am H
  clear H
  obtain ⟨z18_0, z18_1, z18_2, y18_0, y18_1, y18_2⟩ := cf3 BK446.1
  obtain ⟨Ao20, co20, eo20⟩ := Kd.R_slice HO_5.1
  subst eo20
  go_wp2_with (first | ((with_reducible refine gate_builtin (b := .append) (xs := #[.tmp 42, .tmp 44]) rfl ?_); at_builtin; refine Kd.S_append (Kd.slice 3 (Kd.int .i64)) (w0 := w) w.heap.size rfl (.tmp 42) (.tmp 44) 72 39 (.slice none 0 0) 24 rfl Try.underlying72 info39 rfl (by decide) (by omega) u3 x3_1 x5_2 [.slice Ao20 x5_2.length co20] (fun _ => True) (fun k_ => some k_ = (.slice Ao20 x5_2.length co20 : Value).ownBlock) rfl rfl ?aP (fun k_ hk_ => ((Kd.R_mono (ok' := fun k_ => ((fun _ => True)) k_ ∧ some k_ ≠ (u3 : Value).ownBlock) (Kd.R_apart' (HO_5.1) (Kd.S_typed HO_3.1) (by decide)) (fun k_ hk => ⟨trivial, hk.2⟩))).1 k_ hk_.symm) ?aF ?aO ?aB ?aS ?aL ?_; (case aP => exact Kd.M_row (Kd.R_mono (Kd.R_tight rfl (Kd.R_mono (ok' := fun k_ => ((fun _ => True)) k_ ∧ some k_ ≠ (u3 : Value).ownBlock) (Kd.R_apart' (HO_5.1) (Kd.S_typed HO_3.1) (by decide)) (fun k_ hk => ⟨trivial, hk.2⟩))) (fun _ h_ => h_))); (case aB => exact pbg); (case aF => exact (fun _ _ => trivial)); (case aO => exact (by (with_reducible repeat (first | apply Kd.S_alloc | apply Kd.S_drewN | apply Kd.S_drew)); exact Kd.S_mono HO_3.1 (fun k_ hk => ⟨trivial, fun e_ => hk e_⟩))); (case aS => exact (below_size pbg)); (case aL => have := LMc17.1; omega); intro v454 w19 ho hb hg hat; rw [← Ny453.1] at ho; have HO455 := am ho; replace BK446 := am (blk_grown (g := gb446) (o := .cells #[.string a0_0, .slice A0_1 l0_1.length c0_1, .slice A0_2 l0_2.length c0_2] 25 (0, 0)) (by exact pbk BK446.1) hg (Kd.S_ne HO_3.1 BK446.1 (by decide))); replace HB := am hb; (try clear HO_3 HO_5); clear ho hb hg hat))
  go_roundg k2
  case measure => have := HK1.1; have := HK2.1; omega
  case rel => exact ⟨(y453), (wrap64 (x4_1 + 1)), prs, H', ⟨by have := HK1.1; have := HK2.1; omega⟩, ⟨pks HO455.1⟩, ⟨pbk BK446.1⟩, ⟨pbg⟩⟩
 rw [if_pos c9] at H
 have c9b0 : decide (x6_2 < (l0_2.length : Int)) = true := decide_eq_true c9
 clear c9
 replace H := ifp H
 obtain ⟨c10, H⟩ := H
 have c10b0 := decide_eq_true c10
 clear c10
 replace H := bnd H
 obtain ⟨t449, A11, H⟩ := H
 (try dsimp only at H)
 by_cases c12 : t449 > 0
 rotate_left
 ·rw [if_neg c12] at H
  have c12b0 : decide (0 < t449) = false := decide_eq_false c12
  clear c12
  have H' := am H
  clear H
  obtain ⟨z16_0, z16_1, z16_2, y16_0, y16_1, y16_2⟩ := cf3 BK446.1
  obtain ⟨p448, q448, ad448, A448_1, c448_1, A448_2, c448_2, A448_3, c448_3, e448, hx448_0, hx448_1, hx448_2, hx448_3, hx448_4, HC448_1, HR448_1, HC448_2, HR448_2, HC448_3, HR448_3⟩ := bT48 HR0_2.1 HB.1 x6_2
  cases e448
  go_wp2_with (first | ((with_reducible refine gate_callee (f := 74) rfl ?_); refine gC 32 Try.func74 _ (r09_Weight.calls k2 _ _ ((rd_T48 l0_2 x6_2).f1) x4_1 t449 _ (csb HR448_1 HB) HC448_1.1 A11.1) ?_; rintro e w' ⟨rfl, ⟨nd, rfl⟩⟩; refine ⟨_, rfl, ?_⟩))
  go_roundg k2
  case measure => have := HK1.1; have := HK2.1; omega
  case rel => exact ⟨(x5_2), (wrap64 (x6_2 + 1)), prs, H', ⟨by have := HK1.1; have := HK2.1; omega⟩, ⟨pks HO_3.1⟩, ⟨pkr HO_5.1⟩, ⟨pbk BK446.1⟩, ⟨pbg⟩⟩
 rw [if_pos c12] at H
 have c12b0 : decide (0 < t449) = true := decide_eq_true c12
 clear c12
 replace H := ifp H
 obtain ⟨c13, H⟩ := H
 have LMc13 := am c13
 clear c13
 obtain ⟨y450, hy450⟩ : ∃ y_ : List Int, y_ = (x5_2 ++ [wrap64 ((l0_1.length : Int) + x6_2)]) := ⟨_, rfl⟩
 replace H : (r13_Flow.l1 k2 x3_1 x4_1 y450 (wrap64 (x6_2 + 1)) a0_0 l0_1 l0_2) = some r := hrp hy450 H
 have Ny450 := am hy450
 clear hy450
 have H' := am H
 clear H
 obtain ⟨z14_0, z14_1, z14_2, y14_0, y14_1, y14_2⟩ := cf3 BK446.1
 obtain ⟨p448, q448, ad448, A448_1, c448_1, A448_2, c448_2, A448_3, c448_3, e448, hx448_0, hx448_1, hx448_2, hx448_3, hx448_4, HC448_1, HR448_1, HC448_2, HR448_2, HC448_3, HR448_3⟩ := bT48 HR0_2.1 HB.1 x6_2
 cases e448
 go_wp2_with (first | ((with_reducible refine gate_callee (f := 74) rfl ?_); refine gC 32 Try.func74 _ (r09_Weight.calls k2 _ _ ((rd_T48 l0_2 x6_2).f1) x4_1 t449 _ (csb HR448_1 HB) HC448_1.1 A11.1) ?_; rintro e w' ⟨rfl, ⟨nd, rfl⟩⟩; refine ⟨_, rfl, ?_⟩) | ((with_reducible refine gate_builtin (b := .append) (xs := #[.tmp 34, .tmp 40]) rfl ?_); at_builtin; refine Kd.R_append (Kd.int .i64) (w0 := w) w.heap.size rfl (.tmp 34) (.tmp 40) 39 3 (.int .i64 0) 8 rfl Try.underlying39 info3 rfl (by decide) (by omega) u5 x5_2 (wrap64 ((l0_1.length : Int) + x6_2)) [.int .i64 (wrap64 ((l0_1.length : Int) + x6_2))] (fun _ => True) (fun _ => False) rfl rfl ?aP (fun _ hk => hk.elim) ?aF ?aO ?aB ?aS ?aL ?_; (case aP => exact rfl); (case aB => exact pbg); (case aF => exact (fun _ _ => trivial)); (case aO => exact (pkr HO_5.1)); (case aS => exact (below_size pbg)); (case aL => have := LMc13.1; omega); intro v451 w15 ho hb hg hat; rw [← Ny450.1] at ho; have HO452 := am ho; replace HO_3 := am (Kd.S_after (ok := (fun _ => True)) (by (with_reducible repeat (first | apply Kd.S_alloc | apply Kd.S_drewN | apply Kd.S_drew)); exact Kd.S_mono HO_3.1 (fun _ hk => ⟨trivial, hk⟩)) hg hat); replace BK446 := am (blk_grown (g := gb446) (o := .cells #[.string a0_0, .slice A0_1 l0_1.length c0_1, .slice (some ad448) l0_2.length c0_2] 25 (0, 0)) (by exact pbk BK446.1) hg (Kd.R_ne HO_5.1 BK446.1 (by decide))); replace HB := am hb; clear HO_5; clear ho hb hg hat))
 go_roundg k2
 case measure => have := HK1.1; have := HK2.1; omega
 case rel => exact ⟨(y450), (wrap64 (x6_2 + 1)), prs, H', ⟨by have := HK1.1; have := HK2.1; omega⟩, ⟨by (with_reducible repeat (first | apply Kd.S_alloc | apply Kd.S_drewN | apply Kd.S_drew)); exact Kd.S_mono HO_3.1 (fun _ hk => hk.2)⟩, ⟨pkr HO452.1⟩, ⟨pbk BK446.1⟩, ⟨pbg⟩⟩

end Go.Proofs.Ytnoebjmhimehcaa.P
