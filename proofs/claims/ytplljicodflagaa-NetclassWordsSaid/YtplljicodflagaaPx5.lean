-- LAID BY OUR PROGRAM OVER THE PRINT (xprint.py, part.py): Lean checks it.
import Derived.Test.YtplljicodflagaaPx0
namespace Go.Proofs.Ytplljicodflagaa.P
open Go.RowKit Go.Proofs.YtplljicodflagaaW.PrintWords Go.Proofs.YtplljicodflagaaW.PrintLast Go.Proofs.YtplljicodflagaaW.PrintMore
attribute [local go_sem] max2_int min2_int max_two min_two max_three min_three max_four min_four   -- for this text's walks alone
set_option linter.unusedVariables false
set_option linter.unusedSimpArgs false

/-! ### r09_Name: function 85 -/
mutual
def r09_Name.j0 : Nat → ByteArray → Bool → Option (Bool)
 | 0, _, _ => none
 | k + 1, x0, x14 => if x14 = true then (some false) else (r09_Name.l0 k x0 0)
def r09_Name.l0 : Nat → ByteArray → Int → Option (Bool)
 | 0, _, _ => none
 | k + 1, x0, x3 => if x3 < (x0.size : Int) then (if 0 ≤ x3 then (if (bt x0 x3) ≥ 97 then (if (bt x0 x3) ≤ 122 then (if (bt x0 x3) ≥ 48 then (if (bt x0 x3) ≤ 57 then (r09_Name.l0 k x0 (wrap64 (x3 + 1))) else (r09_Name.l0 k x0 (wrap64 (x3 + 1)))) else (r09_Name.l0 k x0 (wrap64 (x3 + 1)))) else (if (bt x0 x3) ≥ 48 then (if (bt x0 x3) ≤ 57 then (if ((bt x0 x3) = 95) then (r09_Name.l0 k x0 (wrap64 (x3 + 1))) else (if x3 = 0 then (some false) else (r09_Name.l0 k x0 (wrap64 (x3 + 1))))) else (if ((bt x0 x3) = 95) then (r09_Name.l0 k x0 (wrap64 (x3 + 1))) else (if ((bt x0 x3) = 46) then (if x3 = 0 then (some false) else (r09_Name.l0 k x0 (wrap64 (x3 + 1)))) else (some false)))) else (if ((bt x0 x3) = 95) then (r09_Name.l0 k x0 (wrap64 (x3 + 1))) else (if ((bt x0 x3) = 46) then (if x3 = 0 then (some false) else (r09_Name.l0 k x0 (wrap64 (x3 + 1)))) else (some false))))) else (if (bt x0 x3) ≥ 48 then (if (bt x0 x3) ≤ 57 then (if ((bt x0 x3) = 95) then (r09_Name.l0 k x0 (wrap64 (x3 + 1))) else (if x3 = 0 then (some false) else (r09_Name.l0 k x0 (wrap64 (x3 + 1))))) else (if ((bt x0 x3) = 95) then (r09_Name.l0 k x0 (wrap64 (x3 + 1))) else (if ((bt x0 x3) = 46) then (if x3 = 0 then (some false) else (r09_Name.l0 k x0 (wrap64 (x3 + 1)))) else (some false)))) else (if ((bt x0 x3) = 95) then (r09_Name.l0 k x0 (wrap64 (x3 + 1))) else (if ((bt x0 x3) = 46) then (if x3 = 0 then (some false) else (r09_Name.l0 k x0 (wrap64 (x3 + 1)))) else (some false))))) else (none)) else (some true)
end
def r09_Name.f (k : Nat) (a0 : ByteArray) : Option (Bool) := if (a0.size : Int) < 1 then (r09_Name.j0 k a0 true) else (r09_Name.j0 k a0 (decide ((a0.size : Int) > 16)))
theorem r09_Name.mono_l : ∀ k, M2 r09_Name.j0 k ∧ M2 r09_Name.l0 k
 | 0 => ⟨fun _ _ r h => by simp [r09_Name.j0] at h, fun _ _ r h => by simp [r09_Name.l0] at h⟩
 | k + 1 => by
  obtain ⟨ih0, ih1⟩ := r09_Name.mono_l k
  refine ⟨?_, ?_⟩ <;> dsimp only [M2] <;> intros <;> (first | unfold r09_Name.j0 | unfold r09_Name.l0) <;> repeat' first | (with_reducible first | apply ih0 | apply ih1 | apply lr | apply ln | apply li | refine lb ?_ fun _ => ?_)
theorem r09_Name.mono : ∀ a0 k, LeO (r09_Name.f k a0) (r09_Name.f (k + 1) a0) := by
 intro a0 k
 obtain ⟨ih0, ih1⟩ := r09_Name.mono_l k
 unfold r09_Name.f
 repeat' first | (with_reducible first | apply ih0 | apply ih1 | apply lr | apply ln | apply li | refine lb ?_ fun _ => ?_)
set_option maxHeartbeats 8000000 in
set_option maxRecDepth 100000 in
theorem r09_Name.calls (k : Nat) (a0 : ByteArray) (r : Bool) (w : World) (h : r09_Name.f k a0 = some r) :
  Calls Try.prog 85 #[.string a0] w fun e w' => e = .returned (.bool r) ∧ Drawn0 w w' := by
 have H : (if (a0.size : Int) < 1 then (r09_Name.j0 k a0 true) else (r09_Name.j0 k a0 (decide ((a0.size : Int) > 16)))) = some r := h
 clear h
 have HC2 := am H
 clear H
 go_enter Try.func85, Try.ntmps85
 go_upto_region 1 with (fail)
 go_cut [14] (fun v14 wc => ∃ (kq : Nat) (x14_1 : Bool), v14 = .bool x14_1 ∧ Aside0 (r09_Name.j0 kq a0 x14_1 = some r) ∧ Aside0 (kq ≤ k) ∧ Drawn0 w wc)
 case first =>
  have H := HC2.1
  clear HC2
  by_cases c3 : (a0.size : Int) < 1
  ·rw [if_pos c3] at H
   have c3b0 : decide ((a0.size : Int) < 1) = true := decide_eq_true c3
   have c3b1 : decide (a0.size < 1) = true := decide_eq_true (by omega)
   clear c3
   (first | rw [c3b0] | (simp only [i64_w, i32_w]; rw [c3b0]) | skip)
   have H' := am H
   clear H
   go_wp2
   go_meet
   case rel => exact ⟨_, (true), prs, H', ⟨by first | omega | exact Nat.le_refl _⟩, pdr⟩
  rw [if_neg c3] at H
  have c3b0 : decide ((a0.size : Int) < 1) = false := decide_eq_false c3
  have c3b1 : decide (a0.size < 1) = false := decide_eq_false (by omega)
  clear c3
  (first | rw [c3b0] | (simp only [i64_w, i32_w]; rw [c3b0]) | skip)
  have H' := am H
  clear H
  go_wp2
  go_meet
  case rel => exact ⟨_, (decide ((a0.size : Int) > 16)), prs, H', ⟨by first | omega | exact Nat.le_refl _⟩, pdr⟩
 clear HC2
 try clear c3 c3b0 c3b1
 obtain ⟨kq, x14_1, rfl, HA, HJ1, ⟨mc1, rfl⟩⟩ := hcut
 obtain _ | kj1 := kq
 ·exact absurd HA.1 (by simp [r09_Name.j0])
 have H := HA.1
 clear HA
 simp only [r09_Name.j0] at H
 by_cases c4 : x14_1 = true
 ·subst c4
  rw [if_pos rfl] at H
  obtain rfl := Option.some.inj H
  go_wp2
  go_ret
  exact ⟨prs, pdr⟩
 replace c4 := Bool.eq_false_iff.mpr c4
 subst c4
 rw [if_neg Bool.false_ne_true] at H
 have H' := am H
 clear H
 go_wp2
 go_loopg [3] kj1 (fun kq v3 w' => ∃ (x3_2 : Int), v3 = .int .i64 x3_2 ∧ Aside0 (r09_Name.l0 kq a0 x3_2 = some r) ∧ Aside0 (kq ≤ kj1) ∧ Drawn0 w w')
 case atStart => exact ⟨(0), prs, H', ⟨Nat.le_refl _⟩, pdr⟩
 clear H'
 try clear c3 c3b0 c3b1 c4
 obtain ⟨x3_2, rfl, HA, HK2, ⟨m2, rfl⟩⟩ := hrel
 obtain _ | k2 := gk
 ·exact absurd HA.1 (by simp [r09_Name.l0])
 have H := HA.1
 clear HA
 simp only [r09_Name.l0] at H
 by_cases c5 : x3_2 < (a0.size : Int)
 rotate_left
 ·rw [if_neg c5] at H
  have c5b0 : decide (x3_2 < (a0.size : Int)) = false := decide_eq_false c5
  clear c5
  obtain rfl := Option.some.inj H
  go_wp2
  go_ret
  exact ⟨prs, pdr⟩
 rw [if_pos c5] at H
 have c5b0 : decide (x3_2 < (a0.size : Int)) = true := decide_eq_true c5
 clear c5
 replace H := ifp H
 obtain ⟨c6, H⟩ := H
 have c6b0 := decide_eq_true c6
 clear c6
 by_cases c8 : (bt a0 x3_2) ≥ 97
 rotate_left
 ·rw [if_neg c8] at H
  have c8b0 : decide (97 ≤ (bt a0 x3_2)) = false := decide_eq_false c8
  clear c8
  by_cases c22 : (bt a0 x3_2) ≥ 48
  rotate_left
  ·rw [if_neg c22] at H
   have c22b0 : decide (48 ≤ (bt a0 x3_2)) = false := decide_eq_false c22
   clear c22
   by_cases c29 : ((bt a0 x3_2) = 95)
   ·rw [if_pos c29] at H
    have c29b0 : ((bt a0 x3_2) == 95) = true := beq_iff_eq.mpr c29
    have c29b1 : ((bt a0 x3_2) != 95) = false := bne_eq_false_iff_eq.mpr c29
    clear c29
    have H' := am H
    clear H
    obtain ⟨p7, q7, hx7⟩ := dbt a0 x3_2
    go_wp2
    go_roundg k2
    case measure => have := HJ1.1; have := HK2.1; omega
    case rel => exact ⟨(wrap64 (x3_2 + 1)), prs, H', ⟨by have := HJ1.1; have := HK2.1; omega⟩, pdr⟩
   rw [if_neg c29] at H
   have c29b0 : ((bt a0 x3_2) == 95) = false := beq_eq_false_iff_ne.mpr c29
   have c29b1 : ((bt a0 x3_2) != 95) = true := bne_iff_ne.mpr c29
   by_cases c30 : ((bt a0 x3_2) = 46)
   rotate_left
   ·rw [if_neg c30] at H
    have c30b0 : ((bt a0 x3_2) == 46) = false := beq_eq_false_iff_ne.mpr c30
    have c30b1 : ((bt a0 x3_2) != 46) = true := bne_iff_ne.mpr c30
    obtain rfl := Option.some.inj H
    obtain ⟨p7, q7, hx7⟩ := dbt a0 x3_2
    go_wp2
    go_ret
    exact ⟨prs, pdr⟩
   rw [if_pos c30] at H
   have c30b0 : ((bt a0 x3_2) == 46) = true := beq_iff_eq.mpr c30
   have c30b1 : ((bt a0 x3_2) != 46) = false := bne_eq_false_iff_eq.mpr c30
   clear c30
   by_cases c31 : x3_2 = 0
   ·rw [if_pos c31] at H
    have c31b0 : (x3_2 == 0) = true := beq_iff_eq.mpr c31
    have c31b1 : (x3_2 != 0) = false := bne_eq_false_iff_eq.mpr c31
    clear c31
    obtain rfl := Option.some.inj H
    obtain ⟨p7, q7, hx7⟩ := dbt a0 x3_2
    go_wp2
    go_ret
    exact ⟨prs, pdr⟩
   rw [if_neg c31] at H
   have c31b0 : (x3_2 == 0) = false := beq_eq_false_iff_ne.mpr c31
   have c31b1 : (x3_2 != 0) = true := bne_iff_ne.mpr c31
   have H' := am H
   clear H
   obtain ⟨p7, q7, hx7⟩ := dbt a0 x3_2
   go_wp2
   go_roundg k2
   case measure => have := HJ1.1; have := HK2.1; omega
   case rel => exact ⟨(wrap64 (x3_2 + 1)), prs, H', ⟨by have := HJ1.1; have := HK2.1; omega⟩, pdr⟩
  rw [if_pos c22] at H
  have c22b0 : decide (48 ≤ (bt a0 x3_2)) = true := decide_eq_true c22
  clear c22
  by_cases c23 : (bt a0 x3_2) ≤ 57
  ·rw [if_pos c23] at H
   have c23b0 : decide ((bt a0 x3_2) ≤ 57) = true := decide_eq_true c23
   clear c23
   by_cases c24 : ((bt a0 x3_2) = 95)
   ·rw [if_pos c24] at H
    have c24b0 : ((bt a0 x3_2) == 95) = true := beq_iff_eq.mpr c24
    have c24b1 : ((bt a0 x3_2) != 95) = false := bne_eq_false_iff_eq.mpr c24
    clear c24
    have H' := am H
    clear H
    obtain ⟨p7, q7, hx7⟩ := dbt a0 x3_2
    go_wp2
    go_roundg k2
    case measure => have := HJ1.1; have := HK2.1; omega
    case rel => exact ⟨(wrap64 (x3_2 + 1)), prs, H', ⟨by have := HJ1.1; have := HK2.1; omega⟩, pdr⟩
   rw [if_neg c24] at H
   have c24b0 : ((bt a0 x3_2) == 95) = false := beq_eq_false_iff_ne.mpr c24
   have c24b1 : ((bt a0 x3_2) != 95) = true := bne_iff_ne.mpr c24
   by_cases c25 : x3_2 = 0
   ·rw [if_pos c25] at H
    have c25b0 : (x3_2 == 0) = true := beq_iff_eq.mpr c25
    have c25b1 : (x3_2 != 0) = false := bne_eq_false_iff_eq.mpr c25
    clear c25
    obtain rfl := Option.some.inj H
    obtain ⟨p7, q7, hx7⟩ := dbt a0 x3_2
    go_wp2
    go_ret
    exact ⟨prs, pdr⟩
   rw [if_neg c25] at H
   have c25b0 : (x3_2 == 0) = false := beq_eq_false_iff_ne.mpr c25
   have c25b1 : (x3_2 != 0) = true := bne_iff_ne.mpr c25
   have H' := am H
   clear H
   obtain ⟨p7, q7, hx7⟩ := dbt a0 x3_2
   go_wp2
   go_roundg k2
   case measure => have := HJ1.1; have := HK2.1; omega
   case rel => exact ⟨(wrap64 (x3_2 + 1)), prs, H', ⟨by have := HJ1.1; have := HK2.1; omega⟩, pdr⟩
  rw [if_neg c23] at H
  have c23b0 : decide ((bt a0 x3_2) ≤ 57) = false := decide_eq_false c23
  clear c23
  by_cases c26 : ((bt a0 x3_2) = 95)
  ·rw [if_pos c26] at H
   have c26b0 : ((bt a0 x3_2) == 95) = true := beq_iff_eq.mpr c26
   have c26b1 : ((bt a0 x3_2) != 95) = false := bne_eq_false_iff_eq.mpr c26
   clear c26
   have H' := am H
   clear H
   obtain ⟨p7, q7, hx7⟩ := dbt a0 x3_2
   go_wp2
   go_roundg k2
   case measure => have := HJ1.1; have := HK2.1; omega
   case rel => exact ⟨(wrap64 (x3_2 + 1)), prs, H', ⟨by have := HJ1.1; have := HK2.1; omega⟩, pdr⟩
  rw [if_neg c26] at H
  have c26b0 : ((bt a0 x3_2) == 95) = false := beq_eq_false_iff_ne.mpr c26
  have c26b1 : ((bt a0 x3_2) != 95) = true := bne_iff_ne.mpr c26
  by_cases c27 : ((bt a0 x3_2) = 46)
  rotate_left
  ·rw [if_neg c27] at H
   have c27b0 : ((bt a0 x3_2) == 46) = false := beq_eq_false_iff_ne.mpr c27
   have c27b1 : ((bt a0 x3_2) != 46) = true := bne_iff_ne.mpr c27
   obtain rfl := Option.some.inj H
   obtain ⟨p7, q7, hx7⟩ := dbt a0 x3_2
   go_wp2
   go_ret
   exact ⟨prs, pdr⟩
  rw [if_pos c27] at H
  have c27b0 : ((bt a0 x3_2) == 46) = true := beq_iff_eq.mpr c27
  have c27b1 : ((bt a0 x3_2) != 46) = false := bne_eq_false_iff_eq.mpr c27
  clear c27
  by_cases c28 : x3_2 = 0
  ·rw [if_pos c28] at H
   have c28b0 : (x3_2 == 0) = true := beq_iff_eq.mpr c28
   have c28b1 : (x3_2 != 0) = false := bne_eq_false_iff_eq.mpr c28
   clear c28
   obtain rfl := Option.some.inj H
   obtain ⟨p7, q7, hx7⟩ := dbt a0 x3_2
   go_wp2
   go_ret
   exact ⟨prs, pdr⟩
  rw [if_neg c28] at H
  have c28b0 : (x3_2 == 0) = false := beq_eq_false_iff_ne.mpr c28
  have c28b1 : (x3_2 != 0) = true := bne_iff_ne.mpr c28
  have H' := am H
  clear H
  obtain ⟨p7, q7, hx7⟩ := dbt a0 x3_2
  go_wp2
  go_roundg k2
  case measure => have := HJ1.1; have := HK2.1; omega
  case rel => exact ⟨(wrap64 (x3_2 + 1)), prs, H', ⟨by have := HJ1.1; have := HK2.1; omega⟩, pdr⟩
 rw [if_pos c8] at H
 have c8b0 : decide (97 ≤ (bt a0 x3_2)) = true := decide_eq_true c8
 clear c8
 by_cases c9 : (bt a0 x3_2) ≤ 122
 ·rw [if_pos c9] at H
  have c9b0 : decide ((bt a0 x3_2) ≤ 122) = true := decide_eq_true c9
  clear c9
  by_cases c10 : (bt a0 x3_2) ≥ 48
  rotate_left
  ·rw [if_neg c10] at H
   have c10b0 : decide (48 ≤ (bt a0 x3_2)) = false := decide_eq_false c10
   clear c10
   have H' := am H
   clear H
   obtain ⟨p7, q7, hx7⟩ := dbt a0 x3_2
   go_wp2
   go_roundg k2
   case measure => have := HJ1.1; have := HK2.1; omega
   case rel => exact ⟨(wrap64 (x3_2 + 1)), prs, H', ⟨by have := HJ1.1; have := HK2.1; omega⟩, pdr⟩
  rw [if_pos c10] at H
  have c10b0 : decide (48 ≤ (bt a0 x3_2)) = true := decide_eq_true c10
  clear c10
  by_cases c11 : (bt a0 x3_2) ≤ 57
  ·rw [if_pos c11] at H
   have c11b0 : decide ((bt a0 x3_2) ≤ 57) = true := decide_eq_true c11
   clear c11
   have H' := am H
   clear H
   obtain ⟨p7, q7, hx7⟩ := dbt a0 x3_2
   go_wp2
   go_roundg k2
   case measure => have := HJ1.1; have := HK2.1; omega
   case rel => exact ⟨(wrap64 (x3_2 + 1)), prs, H', ⟨by have := HJ1.1; have := HK2.1; omega⟩, pdr⟩
  rw [if_neg c11] at H
  have c11b0 : decide ((bt a0 x3_2) ≤ 57) = false := decide_eq_false c11
  clear c11
  have H' := am H
  clear H
  obtain ⟨p7, q7, hx7⟩ := dbt a0 x3_2
  go_wp2
  go_roundg k2
  case measure => have := HJ1.1; have := HK2.1; omega
  case rel => exact ⟨(wrap64 (x3_2 + 1)), prs, H', ⟨by have := HJ1.1; have := HK2.1; omega⟩, pdr⟩
 rw [if_neg c9] at H
 have c9b0 : decide ((bt a0 x3_2) ≤ 122) = false := decide_eq_false c9
 clear c9
 by_cases c12 : (bt a0 x3_2) ≥ 48
 rotate_left
 ·rw [if_neg c12] at H
  have c12b0 : decide (48 ≤ (bt a0 x3_2)) = false := decide_eq_false c12
  clear c12
  by_cases c19 : ((bt a0 x3_2) = 95)
  ·rw [if_pos c19] at H
   have c19b0 : ((bt a0 x3_2) == 95) = true := beq_iff_eq.mpr c19
   have c19b1 : ((bt a0 x3_2) != 95) = false := bne_eq_false_iff_eq.mpr c19
   clear c19
   have H' := am H
   clear H
   obtain ⟨p7, q7, hx7⟩ := dbt a0 x3_2
   go_wp2
   go_roundg k2
   case measure => have := HJ1.1; have := HK2.1; omega
   case rel => exact ⟨(wrap64 (x3_2 + 1)), prs, H', ⟨by have := HJ1.1; have := HK2.1; omega⟩, pdr⟩
  rw [if_neg c19] at H
  have c19b0 : ((bt a0 x3_2) == 95) = false := beq_eq_false_iff_ne.mpr c19
  have c19b1 : ((bt a0 x3_2) != 95) = true := bne_iff_ne.mpr c19
  by_cases c20 : ((bt a0 x3_2) = 46)
  rotate_left
  ·rw [if_neg c20] at H
   have c20b0 : ((bt a0 x3_2) == 46) = false := beq_eq_false_iff_ne.mpr c20
   have c20b1 : ((bt a0 x3_2) != 46) = true := bne_iff_ne.mpr c20
   obtain rfl := Option.some.inj H
   obtain ⟨p7, q7, hx7⟩ := dbt a0 x3_2
   go_wp2
   go_ret
   exact ⟨prs, pdr⟩
  rw [if_pos c20] at H
  have c20b0 : ((bt a0 x3_2) == 46) = true := beq_iff_eq.mpr c20
  have c20b1 : ((bt a0 x3_2) != 46) = false := bne_eq_false_iff_eq.mpr c20
  clear c20
  by_cases c21 : x3_2 = 0
  ·rw [if_pos c21] at H
   have c21b0 : (x3_2 == 0) = true := beq_iff_eq.mpr c21
   have c21b1 : (x3_2 != 0) = false := bne_eq_false_iff_eq.mpr c21
   clear c21
   obtain rfl := Option.some.inj H
   obtain ⟨p7, q7, hx7⟩ := dbt a0 x3_2
   go_wp2
   go_ret
   exact ⟨prs, pdr⟩
  rw [if_neg c21] at H
  have c21b0 : (x3_2 == 0) = false := beq_eq_false_iff_ne.mpr c21
  have c21b1 : (x3_2 != 0) = true := bne_iff_ne.mpr c21
  have H' := am H
  clear H
  obtain ⟨p7, q7, hx7⟩ := dbt a0 x3_2
  go_wp2
  go_roundg k2
  case measure => have := HJ1.1; have := HK2.1; omega
  case rel => exact ⟨(wrap64 (x3_2 + 1)), prs, H', ⟨by have := HJ1.1; have := HK2.1; omega⟩, pdr⟩
 rw [if_pos c12] at H
 have c12b0 : decide (48 ≤ (bt a0 x3_2)) = true := decide_eq_true c12
 clear c12
 by_cases c13 : (bt a0 x3_2) ≤ 57
 ·rw [if_pos c13] at H
  have c13b0 : decide ((bt a0 x3_2) ≤ 57) = true := decide_eq_true c13
  clear c13
  by_cases c14 : ((bt a0 x3_2) = 95)
  ·rw [if_pos c14] at H
   have c14b0 : ((bt a0 x3_2) == 95) = true := beq_iff_eq.mpr c14
   have c14b1 : ((bt a0 x3_2) != 95) = false := bne_eq_false_iff_eq.mpr c14
   clear c14
   have H' := am H
   clear H
   obtain ⟨p7, q7, hx7⟩ := dbt a0 x3_2
   go_wp2
   go_roundg k2
   case measure => have := HJ1.1; have := HK2.1; omega
   case rel => exact ⟨(wrap64 (x3_2 + 1)), prs, H', ⟨by have := HJ1.1; have := HK2.1; omega⟩, pdr⟩
  rw [if_neg c14] at H
  have c14b0 : ((bt a0 x3_2) == 95) = false := beq_eq_false_iff_ne.mpr c14
  have c14b1 : ((bt a0 x3_2) != 95) = true := bne_iff_ne.mpr c14
  by_cases c15 : x3_2 = 0
  ·rw [if_pos c15] at H
   have c15b0 : (x3_2 == 0) = true := beq_iff_eq.mpr c15
   have c15b1 : (x3_2 != 0) = false := bne_eq_false_iff_eq.mpr c15
   clear c15
   obtain rfl := Option.some.inj H
   obtain ⟨p7, q7, hx7⟩ := dbt a0 x3_2
   go_wp2
   go_ret
   exact ⟨prs, pdr⟩
  rw [if_neg c15] at H
  have c15b0 : (x3_2 == 0) = false := beq_eq_false_iff_ne.mpr c15
  have c15b1 : (x3_2 != 0) = true := bne_iff_ne.mpr c15
  have H' := am H
  clear H
  obtain ⟨p7, q7, hx7⟩ := dbt a0 x3_2
  go_wp2
  go_roundg k2
  case measure => have := HJ1.1; have := HK2.1; omega
  case rel => exact ⟨(wrap64 (x3_2 + 1)), prs, H', ⟨by have := HJ1.1; have := HK2.1; omega⟩, pdr⟩
 rw [if_neg c13] at H
 have c13b0 : decide ((bt a0 x3_2) ≤ 57) = false := decide_eq_false c13
 clear c13
 by_cases c16 : ((bt a0 x3_2) = 95)
 ·rw [if_pos c16] at H
  have c16b0 : ((bt a0 x3_2) == 95) = true := beq_iff_eq.mpr c16
  have c16b1 : ((bt a0 x3_2) != 95) = false := bne_eq_false_iff_eq.mpr c16
  clear c16
  have H' := am H
  clear H
  obtain ⟨p7, q7, hx7⟩ := dbt a0 x3_2
  go_wp2
  go_roundg k2
  case measure => have := HJ1.1; have := HK2.1; omega
  case rel => exact ⟨(wrap64 (x3_2 + 1)), prs, H', ⟨by have := HJ1.1; have := HK2.1; omega⟩, pdr⟩
 rw [if_neg c16] at H
 have c16b0 : ((bt a0 x3_2) == 95) = false := beq_eq_false_iff_ne.mpr c16
 have c16b1 : ((bt a0 x3_2) != 95) = true := bne_iff_ne.mpr c16
 by_cases c17 : ((bt a0 x3_2) = 46)
 rotate_left
 ·rw [if_neg c17] at H
  have c17b0 : ((bt a0 x3_2) == 46) = false := beq_eq_false_iff_ne.mpr c17
  have c17b1 : ((bt a0 x3_2) != 46) = true := bne_iff_ne.mpr c17
  obtain rfl := Option.some.inj H
  obtain ⟨p7, q7, hx7⟩ := dbt a0 x3_2
  go_wp2
  go_ret
  exact ⟨prs, pdr⟩
 rw [if_pos c17] at H
 have c17b0 : ((bt a0 x3_2) == 46) = true := beq_iff_eq.mpr c17
 have c17b1 : ((bt a0 x3_2) != 46) = false := bne_eq_false_iff_eq.mpr c17
 clear c17
 by_cases c18 : x3_2 = 0
 ·rw [if_pos c18] at H
  have c18b0 : (x3_2 == 0) = true := beq_iff_eq.mpr c18
  have c18b1 : (x3_2 != 0) = false := bne_eq_false_iff_eq.mpr c18
  clear c18
  obtain rfl := Option.some.inj H
  obtain ⟨p7, q7, hx7⟩ := dbt a0 x3_2
  go_wp2
  go_ret
  exact ⟨prs, pdr⟩
 rw [if_neg c18] at H
 have c18b0 : (x3_2 == 0) = false := beq_eq_false_iff_ne.mpr c18
 have c18b1 : (x3_2 != 0) = true := bne_iff_ne.mpr c18
 have H' := am H
 clear H
 obtain ⟨p7, q7, hx7⟩ := dbt a0 x3_2
 go_wp2
 go_roundg k2
 case measure => have := HJ1.1; have := HK2.1; omega
 case rel => exact ⟨(wrap64 (x3_2 + 1)), prs, H', ⟨by have := HJ1.1; have := HK2.1; omega⟩, pdr⟩

/-! ### r09_place: function 86 -/
mutual
def r09_place.l0 : Nat → Int → Int → ByteArray → List (S46) → List (S41) → ByteArray → Int → Int → Option (Int)
 | 0, _, _, _, _, _, _, _, _ => none
 | k + 1, x1, x6, x325000, x325001, x325002, x327000, x327001, x327002 => if x6 < x1 then (if 0 ≤ x6 then (if x6 < (x325001.length : Int) then (if ((rd_T46 x325001 x6).f0).toList = x327000.toList then (some 6) else (r09_place.l0 k x1 (wrap64 (x6 + 1)) x325000 x325001 x325002 x327000 x327001 x327002)) else (none)) else (none)) else (if x327002 < 0 then (r09_place.j1 k true x327000 x327001 x327002) else (r09_place.j1 k (decide (x327002 > 1048576)) x327000 x327001 x327002))
def r09_place.j1 : Nat → Bool → ByteArray → Int → Int → Option (Int)
 | 0, _, _, _, _ => none
 | k + 1, x37, x327000, x327001, x327002 => if x37 = true then (some 1) else (if x327001 < 0 then (some 10) else (if x327001 > 1048576 then (some 10) else (if x327002 = 0 then (some 0) else (if x327001 > x327002 then (some 10) else (some 0)))))
end
def r09_place.f (k : Nat) (a0_0 : ByteArray) (l0_1 : List (S46)) (l0_2 : List (S41)) (a1 : Int) : Option (Int) := if 0 ≤ a1 then (if a1 < (l0_1.length : Int) then ((r09_Name.f k ((rd_T46 l0_1 a1).f0)).bind fun t327 => (if t327 = true then (r09_place.l0 k a1 0 a0_0 l0_1 l0_2 ((rd_T46 l0_1 a1).f0) ((rd_T46 l0_1 a1).f1) ((rd_T46 l0_1 a1).f2)) else (some 5))) else (none)) else (none)
theorem r09_place.mono_l : ∀ k, M8 r09_place.l0 k ∧ M4 r09_place.j1 k
 | 0 => ⟨fun _ _ _ _ _ _ _ _ r h => by simp [r09_place.l0] at h, fun _ _ _ _ r h => by simp [r09_place.j1] at h⟩
 | k + 1 => by
  obtain ⟨ih0, ih1⟩ := r09_place.mono_l k
  refine ⟨?_, ?_⟩ <;> dsimp only [M4, M8] <;> intros <;> (first | unfold r09_place.l0 | unfold r09_place.j1) <;> repeat' first | (with_reducible first | apply ih0 | apply ih1 | apply r09_Name.mono | apply lr | apply ln | apply li | refine lb ?_ fun _ => ?_)
theorem r09_place.mono : ∀ a0 a1 a2 a3 k, LeO (r09_place.f k a0 a1 a2 a3) (r09_place.f (k + 1) a0 a1 a2 a3) := by
 intro a0 a1 a2 a3 k
 obtain ⟨ih0, ih1⟩ := r09_place.mono_l k
 unfold r09_place.f
 repeat' first | (with_reducible first | apply ih0 | apply ih1 | apply r09_Name.mono | apply lr | apply ln | apply li | refine lb ?_ fun _ => ?_)
set_option maxHeartbeats 8000000 in
set_option maxRecDepth 100000 in
theorem r09_place.calls (k : Nat) (a0_0 : ByteArray) (A0_1 : Option Addr) (c0_1 : Nat) (l0_1 : List (S46)) (A0_2 : Option Addr) (c0_2 : Nat) (l0_2 : List (S41)) (a1 : Int) (r : Int) (w : World) (hr0_1 : Kd.C k46 w A0_1 l0_1.length l0_1) (hc0_1 : l0_1.length ≤ c0_1) (hr0_2 : Kd.C k41 w A0_2 l0_2.length l0_2) (hc0_2 : l0_2.length ≤ c0_2) (h : r09_place.f k a0_0 l0_1 l0_2 a1 = some r) :
  Calls Try.prog 86 #[.agg #[.string a0_0, .slice A0_1 l0_1.length c0_1, .slice A0_2 l0_2.length c0_2], .int .i64 a1] w fun e w' => e = .returned (.int .i64 r) ∧ Below w.heap.size w w' := by
 have hu25 := Try.underlying25
 have hu46 := Try.underlying46
 have HR0_1 := am hr0_1
 have HC0_1 := am hc0_1
 clear hr0_1 hc0_1
 have HR0_2 := am hr0_2
 have HC0_2 := am hc0_2
 clear hr0_2 hc0_2
 have HB := am (Below.refl w.heap.size w)
 have H : (if 0 ≤ a1 then (if a1 < (l0_1.length : Int) then ((r09_Name.f k ((rd_T46 l0_1 a1).f0)).bind fun t327 => (if t327 = true then (r09_place.l0 k a1 0 a0_0 l0_1 l0_2 ((rd_T46 l0_1 a1).f0) ((rd_T46 l0_1 a1).f1) ((rd_T46 l0_1 a1).f2)) else (some 5))) else (none)) else (none)) = some r := h
 clear h
 replace H := ifp H
 obtain ⟨c3, H⟩ := H
 have c3b0 := decide_eq_true c3
 clear c3
 replace H := ifp H
 obtain ⟨c4, H⟩ := H
 have c4b0 := decide_eq_true c4
 clear c4
 replace H := bnd H
 obtain ⟨t327, A5, H⟩ := H
 (try dsimp only at H)
 by_cases c6 : t327 = true
 rotate_left
 ·replace c6 := Bool.eq_false_iff.mpr c6
  subst c6
  rw [if_neg Bool.false_ne_true] at H
  obtain rfl := Option.some.inj H
  go_enter Try.func86, Try.ntmps86
  iterate 4 (try go_wp2_with (first | ((with_reducible refine gate_dst (N := 2) rfl ?_); refine box_ev (N := 2) (cs := #[.string a0_0, .slice A0_1 l0_1.length c0_1, .slice A0_2 l0_2.length c0_2]) (t := 25) ?_; intro gb324 hg w43 hbox hb; have BK324 := am hbox; have GW324 := gwl hg; have GE324 := GW324; replace HB := bsl hb; clear hb hbox hg; have z44 := cf3 BK324.1; have p325 : 0 ≤ (a1 : Int) := dq; have q325 : a1 < (l0_1.length : Int) := dq; obtain ⟨ad325, e325, hx325_0, hx325_1, hx325_2⟩ := at_T46 HR0_1.1 a1 p325 q325; cases e325; replace hx325_0 := cbl HB.1 hx325_0; replace hx325_1 := cbl HB.1 hx325_1; replace hx325_2 := cbl HB.1 hx325_2; replace p325 := eq_true p325; replace q325 := eq_true q325) | ((with_reducible refine gate_dst (N := 5) rfl ?_); refine box_ev (N := 5) (cs := #[.string (⟨#[]⟩ : ByteArray), .int .i64 0, .int .i64 0]) (t := 46) ?_; intro gb326 hg w45 hbox hb; have BK326 := am hbox; have GW326 := gwb hg; have GE326 := GW326; have NB324_326 := nlt hg BK324; have NB326_324 := ngt hg BK324; replace BK324 := bbh BK324 hb; replace HB := bst hb; clear hb hbox hg; have hnb46 := NB326_324.1; have hnc46 := NB324_326.1; have z47 := cf3 BK326.1) | (go_at_call 85; (with_reducible refine (r09_Name.calls k ((rd_T46 l0_1 a1).f0) false _ A5.1).mono ?_); rintro e w' ⟨rfl, ⟨nd, rfl⟩⟩; (try first | exact ⟨rfl, _, World.drewN_drewN _ _ _⟩ | exact ⟨rfl, _, Eq.trans (World.drewN_drewN _ _ _) (congrArg (World.drewN _) (Nat.add_assoc _ _ _))⟩))); try go_quiet (first | (go_at_call 85; (with_reducible refine (r09_Name.calls k ((rd_T46 l0_1 a1).f0) false _ A5.1).mono ?_); rintro e w' ⟨rfl, ⟨nd, rfl⟩⟩; (try first | exact ⟨rfl, _, World.drewN_drewN _ _ _⟩ | exact ⟨rfl, _, Eq.trans (World.drewN_drewN _ _ _) (congrArg (World.drewN _) (Nat.add_assoc _ _ _))⟩))))
  go_ret
  exact ⟨per, pbg⟩
 subst c6
 rw [if_pos rfl] at H
 have H' := am H
 clear H
 go_enter Try.func86, Try.ntmps86
 iterate 4 (try go_wp2_with (first | ((with_reducible refine gate_dst (N := 2) rfl ?_); refine box_ev (N := 2) (cs := #[.string a0_0, .slice A0_1 l0_1.length c0_1, .slice A0_2 l0_2.length c0_2]) (t := 25) ?_; intro gb324 hg w7 hbox hb; have BK324 := am hbox; have GW324 := gwl hg; have GE324 := GW324; replace HB := bsl hb; clear hb hbox hg; have z8 := cf3 BK324.1; have p325 : 0 ≤ (a1 : Int) := dq; have q325 : a1 < (l0_1.length : Int) := dq; obtain ⟨ad325, e325, hx325_0, hx325_1, hx325_2⟩ := at_T46 HR0_1.1 a1 p325 q325; cases e325; replace hx325_0 := cbl HB.1 hx325_0; replace hx325_1 := cbl HB.1 hx325_1; replace hx325_2 := cbl HB.1 hx325_2; replace p325 := eq_true p325; replace q325 := eq_true q325) | ((with_reducible refine gate_dst (N := 5) rfl ?_); refine box_ev (N := 5) (cs := #[.string (⟨#[]⟩ : ByteArray), .int .i64 0, .int .i64 0]) (t := 46) ?_; intro gb326 hg w9 hbox hb; have BK326 := am hbox; have GW326 := gwb hg; have GE326 := GW326; have NB324_326 := nlt hg BK324; have NB326_324 := ngt hg BK324; replace BK324 := bbh BK324 hb; replace HB := bst hb; clear hb hbox hg; have hnb10 := NB326_324.1; have hnc10 := NB324_326.1; have z11 := cf3 BK326.1) | (go_at_call 85; (with_reducible refine (r09_Name.calls k ((rd_T46 l0_1 a1).f0) true _ A5.1).mono ?_); rintro e w' ⟨rfl, ⟨nd, rfl⟩⟩; (try first | exact ⟨rfl, _, World.drewN_drewN _ _ _⟩ | exact ⟨rfl, _, Eq.trans (World.drewN_drewN _ _ _) (congrArg (World.drewN _) (Nat.add_assoc _ _ _))⟩))); try go_quiet (first | (go_at_call 85; (with_reducible refine (r09_Name.calls k ((rd_T46 l0_1 a1).f0) true _ A5.1).mono ?_); rintro e w' ⟨rfl, ⟨nd, rfl⟩⟩; (try first | exact ⟨rfl, _, World.drewN_drewN _ _ _⟩ | exact ⟨rfl, _, Eq.trans (World.drewN_drewN _ _ _) (congrArg (World.drewN _) (Nat.add_assoc _ _ _))⟩))))
 go_loopg [6] k (fun kq v6 w' => ∃ (x6_1 : Int), v6 = .int .i64 x6_1 ∧ Aside0 (r09_place.l0 kq a1 x6_1 a0_0 l0_1 l0_2 ((rd_T46 l0_1 a1).f0) ((rd_T46 l0_1 a1).f1) ((rd_T46 l0_1 a1).f2) = some r) ∧ Aside0 (kq ≤ k) ∧ Aside0 (w'.heap[gb324]? = some (.cells #[.string a0_0, (.slice (some ad325) l0_1.length c0_1), (.slice A0_2 l0_2.length c0_2)] 25 (0, 0))) ∧ Aside0 (w'.heap[gb326]? = some (.cells #[.string ((rd_T46 l0_1 a1).f0), .int .i64 ((rd_T46 l0_1 a1).f1), .int .i64 ((rd_T46 l0_1 a1).f2)] 46 (0, 0))) ∧ Aside0 (Below w.heap.size w w'))
 case atStart => exact ⟨(0), prs, H', ⟨Nat.le_refl _⟩, ⟨by (with_reducible repeat (first | refine blk_drewN ?_ _ | refine blk_drew ?_ | refine blk_alloc ?_ _)); refine bf3 ?_ NB324_326.1; exact pbk BK324.1⟩, ⟨by (with_reducible repeat (first | refine blk_drewN ?_ _ | refine blk_drew ?_ | refine blk_alloc ?_ _)); exact bp3 (pbk BK326.1)⟩, ⟨pbg⟩⟩
 clear H'
 try clear c3 c3b0 c4 c4b0 c6 z11 z8 hx325_0 hx325_1 hx325_2 p325 q325
 obtain ⟨x6_1, rfl, HA, HK1, BK324, BK326, HB⟩ := hrel
 obtain _ | k1 := gk
 ·exact absurd HA.1 (by simp [r09_place.l0])
 have H := HA.1
 clear HA
 simp only [r09_place.l0] at H
 by_cases c12 : x6_1 < a1
 ·rw [if_pos c12] at H
  have c12b0 : decide (x6_1 < a1) = true := decide_eq_true c12
  clear c12
  replace H := ifp H
  obtain ⟨c13, H⟩ := H
  have c13b0 := decide_eq_true c13
  clear c13
  replace H := ifp H
  obtain ⟨c14, H⟩ := H
  have c14b0 := decide_eq_true c14
  clear c14
  by_cases c15 : ((rd_T46 l0_1 x6_1).f0).toList = ((rd_T46 l0_1 a1).f0).toList
  ·rw [if_pos c15] at H
   have c15b0 : (((rd_T46 l0_1 x6_1).f0).toList == ((rd_T46 l0_1 a1).f0).toList) = true := beq_iff_eq.mpr c15
   have c15b1 : (((rd_T46 l0_1 x6_1).f0).toList != ((rd_T46 l0_1 a1).f0).toList) = false := bne_eq_false_iff_eq.mpr c15
   clear c15
   obtain rfl := Option.some.inj H
   have hnb16 := NB324_326.1
   have hnc16 := NB326_324.1
   have z17 := cf3 BK324.1
   obtain ⟨p328, q328, ad328, e328, hx328_0, hx328_1, hx328_2⟩ := bT46 HR0_1.1 HB.1 x6_1
   obtain rfl : ad325 = ad328 := (by injection e328)
   have z18 := cf3 BK326.1
   go_wp2
   repeat (go_quiet (fail); try go_wp2)
   go_ret
   exact ⟨per, pbg⟩
  rw [if_neg c15] at H
  have c15b0 : (((rd_T46 l0_1 x6_1).f0).toList == ((rd_T46 l0_1 a1).f0).toList) = false := beq_eq_false_iff_ne.mpr c15
  have c15b1 : (((rd_T46 l0_1 x6_1).f0).toList != ((rd_T46 l0_1 a1).f0).toList) = true := bne_iff_ne.mpr c15
  have H' := am H
  clear H
  have hnb19 := NB324_326.1
  have hnc19 := NB326_324.1
  have z20 := cf3 BK324.1
  obtain ⟨p328, q328, ad328, e328, hx328_0, hx328_1, hx328_2⟩ := bT46 HR0_1.1 HB.1 x6_1
  obtain rfl : ad325 = ad328 := (by injection e328)
  have z21 := cf3 BK326.1
  go_wp2
  repeat (go_quiet (fail); try go_wp2)
  go_roundg k1
  case measure => have := HK1.1; omega
  case rel => exact ⟨(wrap64 (x6_1 + 1)), prs, H', ⟨by have := HK1.1; omega⟩, ⟨pbk BK324.1⟩, ⟨pbk BK326.1⟩, ⟨pbg⟩⟩
 rw [if_neg c12] at H
 have c12b0 : decide (x6_1 < a1) = false := decide_eq_false c12
 clear c12
 have HC22 := am H
 clear H
 go_upto_region 9 with (fail)
 repeat (go_quiet (fail); go_upto_region 9 with (fail))
 go_cut [37] (fun v37 wc => ∃ (kq : Nat) (x37_21 : Bool), v37 = .bool x37_21 ∧ Aside0 (r09_place.j1 kq x37_21 ((rd_T46 l0_1 a1).f0) ((rd_T46 l0_1 a1).f1) ((rd_T46 l0_1 a1).f2) = some r) ∧ Aside0 (kq ≤ k1) ∧ Aside0 (wc.heap[gb324]? = some (.cells #[.string a0_0, (.slice (some ad325) l0_1.length c0_1), (.slice A0_2 l0_2.length c0_2)] 25 (0, 0))) ∧ Aside0 (wc.heap[gb326]? = some (.cells #[.string ((rd_T46 l0_1 a1).f0), .int .i64 ((rd_T46 l0_1 a1).f1), .int .i64 ((rd_T46 l0_1 a1).f2)] 46 (0, 0))) ∧ Aside0 (Below w.heap.size w wc))
 case first =>
  have H := HC22.1
  clear HC22
  by_cases c23 : ((rd_T46 l0_1 a1).f2) < 0
  ·rw [if_pos c23] at H
   have c23b0 : decide (((rd_T46 l0_1 a1).f2) < 0) = true := decide_eq_true c23
   clear c23
   (first | rw [c23b0] | (simp only [i64_w, i32_w]; rw [c23b0]) | skip)
   have H' := am H
   clear H
   have hnb24 := NB326_324.1
   have hnc24 := NB324_326.1
   have z25 := cf3 BK326.1
   go_wp2
   repeat (go_quiet (fail); try go_wp2)
   go_meet
   case rel => exact ⟨_, (true), prs, H', ⟨by have := HK1.1; first | omega | exact Nat.le_refl _⟩, ⟨pbk BK324.1⟩, ⟨pbk BK326.1⟩, ⟨pbg⟩⟩
  rw [if_neg c23] at H
  have c23b0 : decide (((rd_T46 l0_1 a1).f2) < 0) = false := decide_eq_false c23
  clear c23
  (first | rw [c23b0] | (simp only [i64_w, i32_w]; rw [c23b0]) | skip)
  have H' := am H
  clear H
  have hnb26 := NB326_324.1
  have hnc26 := NB324_326.1
  have z27 := cf3 BK326.1
  go_wp2
  repeat (go_quiet (fail); try go_wp2)
  go_meet
  case rel => exact ⟨_, (decide (((rd_T46 l0_1 a1).f2) > 1048576)), prs, H', ⟨by have := HK1.1; first | omega | exact Nat.le_refl _⟩, ⟨pbk BK324.1⟩, ⟨pbk BK326.1⟩, ⟨pbg⟩⟩
 clear HC22
 try clear c3 c3b0 c4 c4b0 c6 c12 c12b0 c13 c13b0 c14 c14b0 c15 c15b0 c15b1 c23 c23b0 z11 z17 z18 z20 z21 z25 z27 z8 hx325_0 hx325_1 hx325_2 hx328_0 hx328_1 hx328_2 p325 p328 q325 q328
 obtain ⟨kq, x37_21, rfl, HA, HJ21, BK324, BK326, HB⟩ := hcut
 obtain _ | kj21 := kq
 ·exact absurd HA.1 (by simp [r09_place.j1])
 have H := HA.1
 clear HA
 simp only [r09_place.j1] at H
 by_cases c28 : x37_21 = true
 ·subst c28
  rw [if_pos rfl] at H
  obtain rfl := Option.some.inj H
  go_wp2
  repeat (go_quiet (fail); try go_wp2)
  go_ret
  exact ⟨per, pbg⟩
 replace c28 := Bool.eq_false_iff.mpr c28
 subst c28
 rw [if_neg Bool.false_ne_true] at H
 by_cases c29 : ((rd_T46 l0_1 a1).f1) < 0
 ·rw [if_pos c29] at H
  have c29b0 : decide (((rd_T46 l0_1 a1).f1) < 0) = true := decide_eq_true c29
  clear c29
  obtain rfl := Option.some.inj H
  have hnb30 := NB326_324.1
  have hnc30 := NB324_326.1
  have z31 := cf3 BK326.1
  go_wp2
  repeat (go_quiet (fail); try go_wp2)
  go_ret
  exact ⟨per, pbg⟩
 rw [if_neg c29] at H
 have c29b0 : decide (((rd_T46 l0_1 a1).f1) < 0) = false := decide_eq_false c29
 clear c29
 by_cases c32 : ((rd_T46 l0_1 a1).f1) > 1048576
 ·rw [if_pos c32] at H
  have c32b0 : decide (1048576 < ((rd_T46 l0_1 a1).f1)) = true := decide_eq_true c32
  clear c32
  obtain rfl := Option.some.inj H
  have hnb33 := NB326_324.1
  have hnc33 := NB324_326.1
  have z34 := cf3 BK326.1
  go_wp2
  repeat (go_quiet (fail); try go_wp2)
  go_ret
  exact ⟨per, pbg⟩
 rw [if_neg c32] at H
 have c32b0 : decide (1048576 < ((rd_T46 l0_1 a1).f1)) = false := decide_eq_false c32
 clear c32
 by_cases c35 : ((rd_T46 l0_1 a1).f2) = 0
 ·rw [if_pos c35] at H
  have c35b0 : (((rd_T46 l0_1 a1).f2) == 0) = true := beq_iff_eq.mpr c35
  have c35b1 : (((rd_T46 l0_1 a1).f2) != 0) = false := bne_eq_false_iff_eq.mpr c35
  clear c35
  obtain rfl := Option.some.inj H
  have hnb36 := NB326_324.1
  have hnc36 := NB324_326.1
  have z37 := cf3 BK326.1
  go_wp2
  repeat (go_quiet (fail); try go_wp2)
  go_ret
  exact ⟨per, pbg⟩
 rw [if_neg c35] at H
 have c35b0 : (((rd_T46 l0_1 a1).f2) == 0) = false := beq_eq_false_iff_ne.mpr c35
 have c35b1 : (((rd_T46 l0_1 a1).f2) != 0) = true := bne_iff_ne.mpr c35
 by_cases c38 : ((rd_T46 l0_1 a1).f1) > ((rd_T46 l0_1 a1).f2)
 ·rw [if_pos c38] at H
  have c38b0 : decide (((rd_T46 l0_1 a1).f2) < ((rd_T46 l0_1 a1).f1)) = true := decide_eq_true c38
  clear c38
  obtain rfl := Option.some.inj H
  have hnb39 := NB326_324.1
  have hnc39 := NB324_326.1
  have z40 := cf3 BK326.1
  go_wp2
  repeat (go_quiet (fail); try go_wp2)
  go_ret
  exact ⟨per, pbg⟩
 rw [if_neg c38] at H
 have c38b0 : decide (((rd_T46 l0_1 a1).f2) < ((rd_T46 l0_1 a1).f1)) = false := decide_eq_false c38
 clear c38
 obtain rfl := Option.some.inj H
 have hnb41 := NB326_324.1
 have hnc41 := NB324_326.1
 have z42 := cf3 BK326.1
 go_wp2
 repeat (go_quiet (fail); try go_wp2)
 go_ret
 exact ⟨per, pbg⟩

/-! ### r09_arcs: function 94 -/
mutual
def r09_arcs.l0 : Nat → List (S43) → Int → ByteArray → List (S46) → List (S41) → Option (Int)
 | 0, _, _, _, _, _ => none
 | k + 1, x1, x5, x330000, x330001, x330002 => if x5 < (x1.length : Int) then (if 0 ≤ x5 then (if ((rd_T43 x1 x5).f0) < 0 then (r09_arcs.j1 k x1 x5 true x330000 x330001 x330002) else (r09_arcs.j1 k x1 x5 (decide (((rd_T43 x1 x5).f0) ≥ (x330001.length : Int))) x330000 x330001 x330002)) else (none)) else (some 0)
def r09_arcs.j1 : Nat → List (S43) → Int → Bool → ByteArray → List (S46) → List (S41) → Option (Int)
 | 0, _, _, _, _, _, _ => none
 | k + 1, x1, x5, x28, x330000, x330001, x330002 => if x28 = true then (some 7) else (if x5 > 0 then (if 0 ≤ x5 then (if x5 < (x1.length : Int) then (if 0 ≤ (wrap64 (x5 - 1)) then (if (wrap64 (x5 - 1)) < (x1.length : Int) then (r09_arcs.j2 k x1 x5 (decide (((rd_T43 x1 x5).f0) ≤ ((rd_T43 x1 (wrap64 (x5 - 1))).f0))) x330000 x330001 x330002) else (none)) else (none)) else (none)) else (none)) else (r09_arcs.j2 k x1 x5 false x330000 x330001 x330002))
def r09_arcs.j2 : Nat → List (S43) → Int → Bool → ByteArray → List (S46) → List (S41) → Option (Int)
 | 0, _, _, _, _, _, _ => none
 | k + 1, x1, x5, x44, x330000, x330001, x330002 => if x44 = true then (some 8) else (if 0 ≤ x5 then (if x5 < (x1.length : Int) then (if ((rd_T43 x1 x5).f1) < 1 then (some 9) else (if ((rd_T43 x1 x5).f1) > 99 then (some 9) else (r09_arcs.l0 k x1 (wrap64 (x5 + 1)) x330000 x330001 x330002))) else (none)) else (none))
end
def r09_arcs.f (k : Nat) (a0_0 : ByteArray) (l0_1 : List (S46)) (l0_2 : List (S41)) (l1 : List (S43)) : Option (Int) := r09_arcs.l0 k l1 0 a0_0 l0_1 l0_2
theorem r09_arcs.mono_l : ∀ k, M5 r09_arcs.l0 k ∧ M6 r09_arcs.j1 k ∧ M6 r09_arcs.j2 k
 | 0 => ⟨fun _ _ _ _ _ r h => by simp [r09_arcs.l0] at h, fun _ _ _ _ _ _ r h => by simp [r09_arcs.j1] at h, fun _ _ _ _ _ _ r h => by simp [r09_arcs.j2] at h⟩
 | k + 1 => by
  obtain ⟨ih0, ih1, ih2⟩ := r09_arcs.mono_l k
  refine ⟨?_, ?_, ?_⟩ <;> dsimp only [M5, M6] <;> intros <;> (first | unfold r09_arcs.l0 | unfold r09_arcs.j1 | unfold r09_arcs.j2) <;> repeat' first | (with_reducible first | apply ih0 | apply ih1 | apply ih2 | apply lr | apply ln | apply li | refine lb ?_ fun _ => ?_)
theorem r09_arcs.mono : ∀ a0 a1 a2 a3 k, LeO (r09_arcs.f k a0 a1 a2 a3) (r09_arcs.f (k + 1) a0 a1 a2 a3) := by
 intro a0 a1 a2 a3 k
 obtain ⟨ih0, ih1, ih2⟩ := r09_arcs.mono_l k
 unfold r09_arcs.f
 repeat' first | (with_reducible first | apply ih0 | apply ih1 | apply ih2 | apply lr | apply ln | apply li | refine lb ?_ fun _ => ?_)
set_option maxHeartbeats 8000000 in
set_option maxRecDepth 100000 in
theorem r09_arcs.calls (k : Nat) (a0_0 : ByteArray) (A0_1 : Option Addr) (c0_1 : Nat) (l0_1 : List (S46)) (A0_2 : Option Addr) (c0_2 : Nat) (l0_2 : List (S41)) (A1 : Option Addr) (c1 : Nat) (l1 : List (S43)) (r : Int) (w : World) (hr0_1 : Kd.C k46 w A0_1 l0_1.length l0_1) (hc0_1 : l0_1.length ≤ c0_1) (hr0_2 : Kd.C k41 w A0_2 l0_2.length l0_2) (hc0_2 : l0_2.length ≤ c0_2) (hr1 : Kd.C k43 w A1 l1.length l1) (hc1 : l1.length ≤ c1) (h : r09_arcs.f k a0_0 l0_1 l0_2 l1 = some r) :
  Calls Try.prog 94 #[.agg #[.string a0_0, .slice A0_1 l0_1.length c0_1, .slice A0_2 l0_2.length c0_2], .slice A1 l1.length c1] w fun e w' => e = .returned (.int .i64 r) ∧ Below w.heap.size w w' := by
 have hu25 := Try.underlying25
 have HR0_1 := am hr0_1
 have HC0_1 := am hc0_1
 clear hr0_1 hc0_1
 have HR0_2 := am hr0_2
 have HC0_2 := am hc0_2
 clear hr0_2 hc0_2
 have HR1 := am hr1
 have HC1 := am hc1
 clear hr1 hc1
 have HB := am (Below.refl w.heap.size w)
 have H : (r09_arcs.l0 k l1 0 a0_0 l0_1 l0_2) = some r := h
 clear h
 have H' := am H
 clear H
 go_enter Try.func94, Try.ntmps94
 iterate 4 (try go_wp2_with (first | ((with_reducible refine gate_dst (N := 2) rfl ?_); (try (refine gate_guard (by rfl) ?_; dsimp only)); refine box_ev (N := 2) (cs := #[.string a0_0, .slice A0_1 l0_1.length c0_1, .slice A0_2 l0_2.length c0_2]) (t := 25) ?_; intro gb329 hg w3 hbox hb; have BK329 := am hbox; have GW329 := gwl hg; have GE329 := GW329; replace HB := bsl hb; clear hb hbox hg)); try go_quiet (fail))
 go_loopg [5] k (fun kq v5 w' => ∃ (x5_1 : Int), v5 = .int .i64 x5_1 ∧ Aside0 (r09_arcs.l0 kq l1 x5_1 a0_0 l0_1 l0_2 = some r) ∧ Aside0 (kq ≤ k) ∧ Aside0 (w'.heap[gb329]? = some (.cells #[.string a0_0, (.slice A0_1 l0_1.length c0_1), (.slice A0_2 l0_2.length c0_2)] 25 (0, 0))) ∧ Aside0 (Below w.heap.size w w'))
 case atStart => exact ⟨(0), prs, H', ⟨Nat.le_refl _⟩, ⟨pbk BK329.1⟩, ⟨pbg⟩⟩
 clear H'
 try clear c1
 obtain ⟨x5_1, rfl, HA, HK1, BK329, HB⟩ := hrel
 obtain _ | k1 := gk
 ·exact absurd HA.1 (by simp [r09_arcs.l0])
 have H := HA.1
 clear HA
 simp only [r09_arcs.l0] at H
 by_cases c4 : x5_1 < (l1.length : Int)
 rotate_left
 ·rw [if_neg c4] at H
  have c4b0 : decide (x5_1 < (l1.length : Int)) = false := decide_eq_false c4
  clear c4
  obtain rfl := Option.some.inj H
  go_wp2
  repeat (go_quiet (fail); try go_wp2)
  go_ret
  exact ⟨per, pbg⟩
 rw [if_pos c4] at H
 have c4b0 : decide (x5_1 < (l1.length : Int)) = true := decide_eq_true c4
 clear c4
 have HC5 := am H
 clear H
 go_upto_region 4 with (fail)
 repeat (go_quiet (fail); go_upto_region 4 with (fail))
 go_cut [28] (fun v28 wc => ∃ (kq : Nat) (x28_4 : Bool), v28 = .bool x28_4 ∧ Aside0 (r09_arcs.j1 kq l1 x5_1 x28_4 a0_0 l0_1 l0_2 = some r) ∧ Aside0 (kq ≤ k1) ∧ Aside0 (wc.heap[gb329]? = some (.cells #[.string a0_0, (.slice A0_1 l0_1.length c0_1), (.slice A0_2 l0_2.length c0_2)] 25 (0, 0))) ∧ Aside0 (Below w.heap.size w wc))
 case first =>
  have H := HC5.1
  clear HC5
  replace H := ifp H
  obtain ⟨c6, H⟩ := H
  have c6b0 := decide_eq_true c6
  clear c6
  (first | rw [c6b0] | (simp only [i64_w, i32_w]; rw [c6b0]) | skip)
  by_cases c7 : ((rd_T43 l1 x5_1).f0) < 0
  ·rw [if_pos c7] at H
   have c7b0 : decide (((rd_T43 l1 x5_1).f0) < 0) = true := decide_eq_true c7
   clear c7
   have H' := am H
   clear H
   obtain ⟨p330, q330, ad330, e330, hx330_0, hx330_1⟩ := bT43 HR1.1 HB.1 x5_1
   cases e330
   go_wp2
   repeat (go_quiet (fail); try go_wp2)
   go_meet
   case rel => exact ⟨_, (true), prs, H', ⟨by have := HK1.1; first | omega | exact Nat.le_refl _⟩, ⟨pbk BK329.1⟩, ⟨pbg⟩⟩
  rw [if_neg c7] at H
  have c7b0 : decide (((rd_T43 l1 x5_1).f0) < 0) = false := decide_eq_false c7
  clear c7
  have H' := am H
  clear H
  obtain ⟨p330, q330, ad330, e330, hx330_0, hx330_1⟩ := bT43 HR1.1 HB.1 x5_1
  cases e330
  obtain ⟨p331, q331, ad331, e331, hx331_0, hx331_1⟩ := bT43 HR1.1 HB.1 x5_1
  obtain rfl : ad330 = ad331 := (by injection e331)
  have z8 := cf3 BK329.1
  go_wp2
  repeat (go_quiet (fail); try go_wp2)
  go_meet
  case rel => exact ⟨_, (decide (((rd_T43 l1 x5_1).f0) ≥ (l0_1.length : Int))), prs, H', ⟨by have := HK1.1; first | omega | exact Nat.le_refl _⟩, ⟨pbk BK329.1⟩, ⟨pbg⟩⟩
 clear HC5
 try clear c1 c4 c4b0 c6 c6b0 c7 c7b0 z8 hx330_0 hx330_1 hx331_0 hx331_1 p330 p331 q330 q331
 obtain ⟨kq, x28_4, rfl, HA, HJ4, BK329, HB⟩ := hcut
 obtain _ | kj4 := kq
 ·exact absurd HA.1 (by simp [r09_arcs.j1])
 have H := HA.1
 clear HA
 simp only [r09_arcs.j1] at H
 by_cases c9 : x28_4 = true
 ·subst c9
  rw [if_pos rfl] at H
  obtain rfl := Option.some.inj H
  go_wp2
  repeat (go_quiet (fail); try go_wp2)
  go_ret
  exact ⟨per, pbg⟩
 replace c9 := Bool.eq_false_iff.mpr c9
 subst c9
 rw [if_neg Bool.false_ne_true] at H
 have HC10 := am H
 clear H
 go_upto_region 6 with (fail)
 repeat (go_quiet (fail); go_upto_region 6 with (fail))
 go_cut [44] (fun v44 wc => ∃ (kq : Nat) (x44_9 : Bool), v44 = .bool x44_9 ∧ Aside0 (r09_arcs.j2 kq l1 x5_1 x44_9 a0_0 l0_1 l0_2 = some r) ∧ Aside0 (kq ≤ kj4) ∧ Aside0 (wc.heap[gb329]? = some (.cells #[.string a0_0, (.slice A0_1 l0_1.length c0_1), (.slice A0_2 l0_2.length c0_2)] 25 (0, 0))) ∧ Aside0 (Below w.heap.size w wc))
 case first =>
  have H := HC10.1
  clear HC10
  by_cases c11 : x5_1 > 0
  rotate_left
  ·rw [if_neg c11] at H
   have c11b0 : decide (0 < x5_1) = false := decide_eq_false c11
   clear c11
   (first | rw [c11b0] | (simp only [i64_w, i32_w]; rw [c11b0]) | skip)
   have H' := am H
   clear H
   go_wp2
   repeat (go_quiet (fail); try go_wp2)
   go_meet
   case rel => exact ⟨_, (false), prs, H', ⟨by have := HK1.1; have := HJ4.1; first | omega | exact Nat.le_refl _⟩, ⟨pbk BK329.1⟩, ⟨pbg⟩⟩
  rw [if_pos c11] at H
  have c11b0 : decide (0 < x5_1) = true := decide_eq_true c11
  clear c11
  (first | rw [c11b0] | (simp only [i64_w, i32_w]; rw [c11b0]) | skip)
  replace H := ifp H
  obtain ⟨c12, H⟩ := H
  have c12b0 := decide_eq_true c12
  clear c12
  replace H := ifp H
  obtain ⟨c13, H⟩ := H
  have c13b0 := decide_eq_true c13
  clear c13
  obtain ⟨ji14, hji14⟩ : ∃ j_ : Int, (wrap64 (x5_1 - 1)) = j_ := ⟨_, rfl⟩
  replace H : (if 0 ≤ (ji14) then (if (ji14) < (l1.length : Int) then (r09_arcs.j2 kj4 l1 x5_1 (decide (((rd_T43 l1 x5_1).f0) ≤ ((rd_T43 l1 (ji14)).f0))) a0_0 l0_1 l0_2) else (none)) else (none)) = some r := by first | (rw [hji14] at H; exact H) | (simp only [hji14] at H ⊢; exact H)
  have hji14w : (IntKind.i64.wrap (x5_1 - 1)) = ji14 := (i64_w _).trans hji14
  replace H := ifp H
  obtain ⟨c15, H⟩ := H
  have c15b0 := decide_eq_true c15
  clear c15
  replace H := ifp H
  obtain ⟨c16, H⟩ := H
  have c16b0 := decide_eq_true c16
  clear c16
  have H' := am H
  clear H
  obtain ⟨p332, q332, ad332, e332, hx332_0, hx332_1⟩ := bT43 HR1.1 HB.1 x5_1
  cases e332
  obtain ⟨p333, q333, ad333, e333, hx333_0, hx333_1⟩ := bT43 HR1.1 HB.1 (ji14)
  obtain rfl : ad332 = ad333 := (by injection e333)
  go_wp2
  repeat (go_quiet (fail); try go_wp2)
  go_meet
  case rel => exact ⟨_, (decide (((rd_T43 l1 x5_1).f0) ≤ ((rd_T43 l1 (ji14)).f0))), (by first | rfl | (simp; done) | (simp only [← hji14] <;> (first | rfl | simp)) | (simp [*]; done)), H', ⟨by have := HK1.1; have := HJ4.1; first | omega | exact Nat.le_refl _⟩, ⟨pbk BK329.1⟩, ⟨pbg⟩⟩
 clear HC10
 try clear c1 c4 c4b0 c6 c6b0 c7 c7b0 c9 c11 c11b0 c12 c12b0 c13 c13b0 c15 c15b0 c16 c16b0 z8 hx330_0 hx330_1 hx331_0 hx331_1 hx332_0 hx332_1 hx333_0 hx333_1 p330 p331 p332 p333 q330 q331 q332 q333
 obtain ⟨kq, x44_9, rfl, HA, HJ9, BK329, HB⟩ := hcut
 obtain _ | kj9 := kq
 ·exact absurd HA.1 (by simp [r09_arcs.j2])
 have H := HA.1
 clear HA
 simp only [r09_arcs.j2] at H
 by_cases c17 : x44_9 = true
 ·subst c17
  rw [if_pos rfl] at H
  obtain rfl := Option.some.inj H
  go_wp2
  repeat (go_quiet (fail); try go_wp2)
  go_ret
  exact ⟨per, pbg⟩
 replace c17 := Bool.eq_false_iff.mpr c17
 subst c17
 rw [if_neg Bool.false_ne_true] at H
 replace H := ifp H
 obtain ⟨c18, H⟩ := H
 have c18b0 := decide_eq_true c18
 clear c18
 replace H := ifp H
 obtain ⟨c19, H⟩ := H
 have c19b0 := decide_eq_true c19
 clear c19
 by_cases c20 : ((rd_T43 l1 x5_1).f1) < 1
 ·rw [if_pos c20] at H
  have c20b0 : decide (((rd_T43 l1 x5_1).f1) < 1) = true := decide_eq_true c20
  clear c20
  obtain rfl := Option.some.inj H
  obtain ⟨p334, q334, ad334, e334, hx334_0, hx334_1⟩ := bT43 HR1.1 HB.1 x5_1
  cases e334
  go_wp2
  repeat (go_quiet (fail); try go_wp2)
  go_ret
  exact ⟨per, pbg⟩
 rw [if_neg c20] at H
 have c20b0 : decide (((rd_T43 l1 x5_1).f1) < 1) = false := decide_eq_false c20
 clear c20
 by_cases c21 : ((rd_T43 l1 x5_1).f1) > 99
 ·rw [if_pos c21] at H
  have c21b0 : decide (99 < ((rd_T43 l1 x5_1).f1)) = true := decide_eq_true c21
  clear c21
  obtain rfl := Option.some.inj H
  obtain ⟨p334, q334, ad334, e334, hx334_0, hx334_1⟩ := bT43 HR1.1 HB.1 x5_1
  cases e334
  obtain ⟨p335, q335, ad335, e335, hx335_0, hx335_1⟩ := bT43 HR1.1 HB.1 x5_1
  obtain rfl : ad334 = ad335 := (by injection e335)
  go_wp2
  repeat (go_quiet (fail); try go_wp2)
  go_ret
  exact ⟨per, pbg⟩
 rw [if_neg c21] at H
 have c21b0 : decide (99 < ((rd_T43 l1 x5_1).f1)) = false := decide_eq_false c21
 clear c21
 have H' := am H
 clear H
 obtain ⟨p334, q334, ad334, e334, hx334_0, hx334_1⟩ := bT43 HR1.1 HB.1 x5_1
 cases e334
 obtain ⟨p335, q335, ad335, e335, hx335_0, hx335_1⟩ := bT43 HR1.1 HB.1 x5_1
 obtain rfl : ad334 = ad335 := (by injection e335)
 go_wp2
 repeat (go_quiet (fail); try go_wp2)
 go_roundg kj9
 case measure => have := HK1.1; have := HJ4.1; have := HJ9.1; omega
 case rel => exact ⟨(wrap64 (x5_1 + 1)), prs, H', ⟨by have := HK1.1; have := HJ4.1; have := HJ9.1; omega⟩, ⟨pbk BK329.1⟩, ⟨pbg⟩⟩

/-! ### r09_trans: function 87 -/
mutual
def r09_trans.l0 : Nat → Int → Int → ByteArray → List (S46) → List (S41) → ByteArray → List (S43) → List (S43) → List (S43) → Int → Option (Int)
 | 0, _, _, _, _, _, _, _, _, _, _ => none
 | k + 1, x1, x6, x337000, x337001, x337002, x339000, x339001, x339002, x339003, x339004 => if x6 < (x337001.length : Int) then (if 0 ≤ x6 then (if ((rd_T46 x337001 x6).f0).toList = x339000.toList then (some 6) else (r09_trans.l0 k x1 (wrap64 (x6 + 1)) x337000 x337001 x337002 x339000 x339001 x339002 x339003 x339004)) else (none)) else (r09_trans.l1 k x1 0 x337000 x337001 x337002 x339000 x339001 x339002 x339003 x339004)
def r09_trans.l1 : Nat → Int → Int → ByteArray → List (S46) → List (S41) → ByteArray → List (S43) → List (S43) → List (S43) → Int → Option (Int)
 | 0, _, _, _, _, _, _, _, _, _, _ => none
 | k + 1, x1, x7, x337000, x337001, x337002, x339000, x339001, x339002, x339003, x339004 => if x7 < x1 then (if 0 ≤ x7 then (if x7 < (x337002.length : Int) then (if ((rd_T41 x337002 x7).f0).toList = x339000.toList then (some 6) else (r09_trans.l1 k x1 (wrap64 (x7 + 1)) x337000 x337001 x337002 x339000 x339001 x339002 x339003 x339004)) else (none)) else (none)) else (if x339004 < 0 then (r09_trans.j2 k true x337000 x337001 x337002 x339000 x339001 x339002 x339003 x339004) else (r09_trans.j2 k (decide (x339004 > 9)) x337000 x337001 x337002 x339000 x339001 x339002 x339003 x339004))
def r09_trans.j2 : Nat → Bool → ByteArray → List (S46) → List (S41) → ByteArray → List (S43) → List (S43) → List (S43) → Int → Option (Int)
 | 0, _, _, _, _, _, _, _, _, _ => none
 | k + 1, x56, x337000, x337001, x337002, x339000, x339001, x339002, x339003, x339004 => if x56 = true then (some 1) else ((r09_arcs.f k x337000 x337001 x337002 x339001).bind fun t342 => (if t342 = 0 then ((r09_arcs.f k x337000 x337001 x337002 x339002).bind fun t343 => (if t343 = 0 then ((r09_arcs.f k x337000 x337001 x337002 x339003).bind fun t344 => (some t344)) else (some t343))) else (some t342)))
end
def r09_trans.f (k : Nat) (a0_0 : ByteArray) (l0_1 : List (S46)) (l0_2 : List (S41)) (a1 : Int) : Option (Int) := if 0 ≤ a1 then (if a1 < (l0_2.length : Int) then ((r09_Name.f k ((rd_T41 l0_2 a1).f0)).bind fun t339 => (if t339 = true then (r09_trans.l0 k a1 0 a0_0 l0_1 l0_2 ((rd_T41 l0_2 a1).f0) ((rd_T41 l0_2 a1).f1) ((rd_T41 l0_2 a1).f2) ((rd_T41 l0_2 a1).f3) ((rd_T41 l0_2 a1).f4)) else (some 5))) else (none)) else (none)
theorem r09_trans.mono_l : ∀ k, M10 r09_trans.l0 k ∧ M10 r09_trans.l1 k ∧ M9 r09_trans.j2 k
 | 0 => ⟨fun _ _ _ _ _ _ _ _ _ _ r h => by simp [r09_trans.l0] at h, fun _ _ _ _ _ _ _ _ _ _ r h => by simp [r09_trans.l1] at h, fun _ _ _ _ _ _ _ _ _ r h => by simp [r09_trans.j2] at h⟩
 | k + 1 => by
  obtain ⟨ih0, ih1, ih2⟩ := r09_trans.mono_l k
  refine ⟨?_, ?_, ?_⟩ <;> dsimp only [M9, M10] <;> intros <;> (first | unfold r09_trans.l0 | unfold r09_trans.l1 | unfold r09_trans.j2) <;> repeat' first | (with_reducible first | apply ih0 | apply ih1 | apply ih2 | apply r09_Name.mono | apply r09_arcs.mono | apply lr | apply ln | apply li | refine lb ?_ fun _ => ?_)
theorem r09_trans.mono : ∀ a0 a1 a2 a3 k, LeO (r09_trans.f k a0 a1 a2 a3) (r09_trans.f (k + 1) a0 a1 a2 a3) := by
 intro a0 a1 a2 a3 k
 obtain ⟨ih0, ih1, ih2⟩ := r09_trans.mono_l k
 unfold r09_trans.f
 repeat' first | (with_reducible first | apply ih0 | apply ih1 | apply ih2 | apply r09_Name.mono | apply r09_arcs.mono | apply lr | apply ln | apply li | refine lb ?_ fun _ => ?_)
set_option maxHeartbeats 8000000 in
set_option maxRecDepth 100000 in
theorem r09_trans.calls (k : Nat) (a0_0 : ByteArray) (A0_1 : Option Addr) (c0_1 : Nat) (l0_1 : List (S46)) (A0_2 : Option Addr) (c0_2 : Nat) (l0_2 : List (S41)) (a1 : Int) (r : Int) (w : World) (hr0_1 : Kd.C k46 w A0_1 l0_1.length l0_1) (hc0_1 : l0_1.length ≤ c0_1) (hr0_2 : Kd.C k41 w A0_2 l0_2.length l0_2) (hc0_2 : l0_2.length ≤ c0_2) (h : r09_trans.f k a0_0 l0_1 l0_2 a1 = some r) :
  Calls Try.prog 87 #[.agg #[.string a0_0, .slice A0_1 l0_1.length c0_1, .slice A0_2 l0_2.length c0_2], .int .i64 a1] w fun e w' => e = .returned (.int .i64 r) ∧ Below w.heap.size w w' := by
 have hu25 := Try.underlying25
 have hu41 := Try.underlying41
 have HR0_1 := am hr0_1
 have HC0_1 := am hc0_1
 clear hr0_1 hc0_1
 have HR0_2 := am hr0_2
 have HC0_2 := am hc0_2
 clear hr0_2 hc0_2
 have HB := am (Below.refl w.heap.size w)
 have H : (if 0 ≤ a1 then (if a1 < (l0_2.length : Int) then ((r09_Name.f k ((rd_T41 l0_2 a1).f0)).bind fun t339 => (if t339 = true then (r09_trans.l0 k a1 0 a0_0 l0_1 l0_2 ((rd_T41 l0_2 a1).f0) ((rd_T41 l0_2 a1).f1) ((rd_T41 l0_2 a1).f2) ((rd_T41 l0_2 a1).f3) ((rd_T41 l0_2 a1).f4)) else (some 5))) else (none)) else (none)) = some r := h
 clear h
 replace H := ifp H
 obtain ⟨c3, H⟩ := H
 have c3b0 := decide_eq_true c3
 clear c3
 replace H := ifp H
 obtain ⟨c4, H⟩ := H
 have c4b0 := decide_eq_true c4
 clear c4
 replace H := bnd H
 obtain ⟨t339, A5, H⟩ := H
 (try dsimp only at H)
 by_cases c6 : t339 = true
 rotate_left
 ·replace c6 := Bool.eq_false_iff.mpr c6
  subst c6
  rw [if_neg Bool.false_ne_true] at H
  obtain rfl := Option.some.inj H
  go_enter Try.func87, Try.ntmps87
  iterate 4 (try go_wp2_with (first | ((with_reducible refine gate_dst (N := 2) rfl ?_); refine box_ev (N := 2) (cs := #[.string a0_0, .slice A0_1 l0_1.length c0_1, .slice A0_2 l0_2.length c0_2]) (t := 25) ?_; intro gb336 hg w66 hbox hb; have BK336 := am hbox; have GW336 := gwl hg; have GE336 := GW336; replace HB := bsl hb; clear hb hbox hg; have z67 := cf3 BK336.1; have p337 : 0 ≤ (a1 : Int) := dq; have q337 : a1 < (l0_2.length : Int) := dq; obtain ⟨ad337, A337_1, c337_1, A337_2, c337_2, A337_3, c337_3, e337, hx337_0, hx337_1, hx337_2, hx337_3, hx337_4, hl337_1, hi337_1, hl337_2, hi337_2, hl337_3, hi337_3⟩ := at_T41 HR0_2.1 a1 p337 q337; cases e337; replace hx337_0 := cbl HB.1 hx337_0; replace hx337_1 := cbl HB.1 hx337_1; replace hx337_2 := cbl HB.1 hx337_2; replace hx337_3 := cbl HB.1 hx337_3; replace hx337_4 := cbl HB.1 hx337_4; have HR337_1 := am hi337_1; have HC337_1 := am hl337_1; clear hi337_1 hl337_1; have HR337_2 := am hi337_2; have HC337_2 := am hl337_2; clear hi337_2 hl337_2; have HR337_3 := am hi337_3; have HC337_3 := am hl337_3; clear hi337_3 hl337_3; replace p337 := eq_true p337; replace q337 := eq_true q337) | ((with_reducible refine gate_dst (N := 5) rfl ?_); refine box_ev (N := 5) (cs := #[.string (⟨#[]⟩ : ByteArray), .slice none 0 0, .slice none 0 0, .slice none 0 0, .int .i64 0]) (t := 41) ?_; intro gb338 hg w68 hbox hb; have BK338 := am hbox; have GW338 := gwb hg; have GE338 := GW338; have NB336_338 := nlt hg BK336; have NB338_336 := ngt hg BK336; replace BK336 := bbh BK336 hb; replace HB := bst hb; clear hb hbox hg; have hnb69 := NB338_336.1; have hnc69 := NB336_338.1; have z70 := cf5 BK338.1) | (go_at_call 85; (with_reducible refine (r09_Name.calls k ((rd_T41 l0_2 a1).f0) false _ A5.1).mono ?_); rintro e w' ⟨rfl, ⟨nd, rfl⟩⟩; (try first | exact ⟨rfl, _, World.drewN_drewN _ _ _⟩ | exact ⟨rfl, _, Eq.trans (World.drewN_drewN _ _ _) (congrArg (World.drewN _) (Nat.add_assoc _ _ _))⟩))); try go_quiet (first | (go_at_call 85; (with_reducible refine (r09_Name.calls k ((rd_T41 l0_2 a1).f0) false _ A5.1).mono ?_); rintro e w' ⟨rfl, ⟨nd, rfl⟩⟩; (try first | exact ⟨rfl, _, World.drewN_drewN _ _ _⟩ | exact ⟨rfl, _, Eq.trans (World.drewN_drewN _ _ _) (congrArg (World.drewN _) (Nat.add_assoc _ _ _))⟩))))
  go_ret
  exact ⟨per, pbg⟩
 subst c6
 rw [if_pos rfl] at H
 have H' := am H
 clear H
 go_enter Try.func87, Try.ntmps87
 iterate 4 (try go_wp2_with (first | ((with_reducible refine gate_dst (N := 2) rfl ?_); refine box_ev (N := 2) (cs := #[.string a0_0, .slice A0_1 l0_1.length c0_1, .slice A0_2 l0_2.length c0_2]) (t := 25) ?_; intro gb336 hg w7 hbox hb; have BK336 := am hbox; have GW336 := gwl hg; have GE336 := GW336; replace HB := bsl hb; clear hb hbox hg; have z8 := cf3 BK336.1; have p337 : 0 ≤ (a1 : Int) := dq; have q337 : a1 < (l0_2.length : Int) := dq; obtain ⟨ad337, A337_1, c337_1, A337_2, c337_2, A337_3, c337_3, e337, hx337_0, hx337_1, hx337_2, hx337_3, hx337_4, hl337_1, hi337_1, hl337_2, hi337_2, hl337_3, hi337_3⟩ := at_T41 HR0_2.1 a1 p337 q337; cases e337; replace hx337_0 := cbl HB.1 hx337_0; replace hx337_1 := cbl HB.1 hx337_1; replace hx337_2 := cbl HB.1 hx337_2; replace hx337_3 := cbl HB.1 hx337_3; replace hx337_4 := cbl HB.1 hx337_4; have HR337_1 := am hi337_1; have HC337_1 := am hl337_1; clear hi337_1 hl337_1; have HR337_2 := am hi337_2; have HC337_2 := am hl337_2; clear hi337_2 hl337_2; have HR337_3 := am hi337_3; have HC337_3 := am hl337_3; clear hi337_3 hl337_3; replace p337 := eq_true p337; replace q337 := eq_true q337) | ((with_reducible refine gate_dst (N := 5) rfl ?_); refine box_ev (N := 5) (cs := #[.string (⟨#[]⟩ : ByteArray), .slice none 0 0, .slice none 0 0, .slice none 0 0, .int .i64 0]) (t := 41) ?_; intro gb338 hg w9 hbox hb; have BK338 := am hbox; have GW338 := gwb hg; have GE338 := GW338; have NB336_338 := nlt hg BK336; have NB338_336 := ngt hg BK336; replace BK336 := bbh BK336 hb; replace HB := bst hb; clear hb hbox hg; have hnb10 := NB338_336.1; have hnc10 := NB336_338.1; have z11 := cf5 BK338.1) | (go_at_call 85; (with_reducible refine (r09_Name.calls k ((rd_T41 l0_2 a1).f0) true _ A5.1).mono ?_); rintro e w' ⟨rfl, ⟨nd, rfl⟩⟩; (try first | exact ⟨rfl, _, World.drewN_drewN _ _ _⟩ | exact ⟨rfl, _, Eq.trans (World.drewN_drewN _ _ _) (congrArg (World.drewN _) (Nat.add_assoc _ _ _))⟩))); try go_quiet (first | (go_at_call 85; (with_reducible refine (r09_Name.calls k ((rd_T41 l0_2 a1).f0) true _ A5.1).mono ?_); rintro e w' ⟨rfl, ⟨nd, rfl⟩⟩; (try first | exact ⟨rfl, _, World.drewN_drewN _ _ _⟩ | exact ⟨rfl, _, Eq.trans (World.drewN_drewN _ _ _) (congrArg (World.drewN _) (Nat.add_assoc _ _ _))⟩))))
 go_loopg [6] k (fun kq v6 w' => ∃ (x6_1 : Int), v6 = .int .i64 x6_1 ∧ Aside0 (r09_trans.l0 kq a1 x6_1 a0_0 l0_1 l0_2 ((rd_T41 l0_2 a1).f0) ((rd_T41 l0_2 a1).f1) ((rd_T41 l0_2 a1).f2) ((rd_T41 l0_2 a1).f3) ((rd_T41 l0_2 a1).f4) = some r) ∧ Aside0 (kq ≤ k) ∧ Aside0 (w'.heap[gb336]? = some (.cells #[.string a0_0, (.slice A0_1 l0_1.length c0_1), (.slice (some ad337) l0_2.length c0_2)] 25 (0, 0))) ∧ Aside0 (w'.heap[gb338]? = some (.cells #[.string ((rd_T41 l0_2 a1).f0), (.slice A337_1 ((rd_T41 l0_2 a1).f1).length c337_1), (.slice A337_2 ((rd_T41 l0_2 a1).f2).length c337_2), (.slice A337_3 ((rd_T41 l0_2 a1).f3).length c337_3), .int .i64 ((rd_T41 l0_2 a1).f4)] 41 (0, 0))) ∧ Aside0 (Below w.heap.size w w'))
 case atStart => exact ⟨(0), prs, H', ⟨Nat.le_refl _⟩, ⟨by (with_reducible repeat (first | refine blk_drewN ?_ _ | refine blk_drew ?_ | refine blk_alloc ?_ _)); refine bf5 ?_ NB336_338.1; exact pbk BK336.1⟩, ⟨by (with_reducible repeat (first | refine blk_drewN ?_ _ | refine blk_drew ?_ | refine blk_alloc ?_ _)); exact bp5 (pbk BK338.1)⟩, ⟨pbg⟩⟩
 clear H'
 try clear c3 c3b0 c4 c4b0 c6 z11 z8 hx337_0 hx337_1 hx337_2 hx337_3 hx337_4 p337 q337
 obtain ⟨x6_1, rfl, HA, HK1, BK336, BK338, HB⟩ := hrel
 obtain _ | k1 := gk
 ·exact absurd HA.1 (by simp [r09_trans.l0])
 have H := HA.1
 clear HA
 simp only [r09_trans.l0] at H
 by_cases c12 : x6_1 < (l0_1.length : Int)
 ·rw [if_pos c12] at H
  have c12b0 : decide (x6_1 < (l0_1.length : Int)) = true := decide_eq_true c12
  clear c12
  replace H := ifp H
  obtain ⟨c13, H⟩ := H
  have c13b0 := decide_eq_true c13
  clear c13
  by_cases c14 : ((rd_T46 l0_1 x6_1).f0).toList = ((rd_T41 l0_2 a1).f0).toList
  ·rw [if_pos c14] at H
   have c14b0 : (((rd_T46 l0_1 x6_1).f0).toList == ((rd_T41 l0_2 a1).f0).toList) = true := beq_iff_eq.mpr c14
   have c14b1 : (((rd_T46 l0_1 x6_1).f0).toList != ((rd_T41 l0_2 a1).f0).toList) = false := bne_eq_false_iff_eq.mpr c14
   clear c14
   obtain rfl := Option.some.inj H
   have hnb15 := NB336_338.1
   have hnc15 := NB338_336.1
   have z16 := cf3 BK336.1
   obtain ⟨p340, q340, ad340, e340, hx340_0, hx340_1, hx340_2⟩ := bT46 HR0_1.1 HB.1 x6_1
   cases e340
   have z17 := cf5 BK338.1
   go_wp2
   repeat (go_quiet (fail); try go_wp2)
   go_ret
   exact ⟨per, pbg⟩
  rw [if_neg c14] at H
  have c14b0 : (((rd_T46 l0_1 x6_1).f0).toList == ((rd_T41 l0_2 a1).f0).toList) = false := beq_eq_false_iff_ne.mpr c14
  have c14b1 : (((rd_T46 l0_1 x6_1).f0).toList != ((rd_T41 l0_2 a1).f0).toList) = true := bne_iff_ne.mpr c14
  have H' := am H
  clear H
  have hnb18 := NB336_338.1
  have hnc18 := NB338_336.1
  have z19 := cf3 BK336.1
  obtain ⟨p340, q340, ad340, e340, hx340_0, hx340_1, hx340_2⟩ := bT46 HR0_1.1 HB.1 x6_1
  cases e340
  have z20 := cf5 BK338.1
  go_wp2
  repeat (go_quiet (fail); try go_wp2)
  go_roundg k1
  case measure => have := HK1.1; omega
  case rel => exact ⟨(wrap64 (x6_1 + 1)), prs, H', ⟨by have := HK1.1; omega⟩, ⟨pbk BK336.1⟩, ⟨pbk BK338.1⟩, ⟨pbg⟩⟩
 rw [if_neg c12] at H
 have c12b0 : decide (x6_1 < (l0_1.length : Int)) = false := decide_eq_false c12
 clear c12
 have H' := am H
 clear H
 have hnb21 := NB336_338.1
 have hnc21 := NB338_336.1
 have z22 := cf3 BK336.1
 go_wp2
 repeat (go_quiet (fail); try go_wp2)
 go_loopg [7] k1 (fun kq v7 w' => ∃ (x7_2 : Int), v7 = .int .i64 x7_2 ∧ Aside0 (r09_trans.l1 kq a1 x7_2 a0_0 l0_1 l0_2 ((rd_T41 l0_2 a1).f0) ((rd_T41 l0_2 a1).f1) ((rd_T41 l0_2 a1).f2) ((rd_T41 l0_2 a1).f3) ((rd_T41 l0_2 a1).f4) = some r) ∧ Aside0 (kq ≤ k1) ∧ Aside0 (w'.heap[gb336]? = some (.cells #[.string a0_0, (.slice A0_1 l0_1.length c0_1), (.slice (some ad337) l0_2.length c0_2)] 25 (0, 0))) ∧ Aside0 (w'.heap[gb338]? = some (.cells #[.string ((rd_T41 l0_2 a1).f0), (.slice A337_1 ((rd_T41 l0_2 a1).f1).length c337_1), (.slice A337_2 ((rd_T41 l0_2 a1).f2).length c337_2), (.slice A337_3 ((rd_T41 l0_2 a1).f3).length c337_3), .int .i64 ((rd_T41 l0_2 a1).f4)] 41 (0, 0))) ∧ Aside0 (Below w.heap.size w w'))
 case atStart => exact ⟨(0), prs, H', ⟨Nat.le_refl _⟩, ⟨pbk BK336.1⟩, ⟨pbk BK338.1⟩, ⟨pbg⟩⟩
 clear H'
 try clear c3 c3b0 c4 c4b0 c6 c12 c12b0 c13 c13b0 c14 c14b0 c14b1 z11 z16 z17 z19 z20 z22 z8 hx337_0 hx337_1 hx337_2 hx337_3 hx337_4 hx340_0 hx340_1 hx340_2 p337 p340 q337 q340
 obtain ⟨x7_2, rfl, HA, HK2, BK336, BK338, HB⟩ := hrel
 obtain _ | k2 := gk
 ·exact absurd HA.1 (by simp [r09_trans.l1])
 have H := HA.1
 clear HA
 simp only [r09_trans.l1] at H
 by_cases c23 : x7_2 < a1
 ·rw [if_pos c23] at H
  have c23b0 : decide (x7_2 < a1) = true := decide_eq_true c23
  clear c23
  replace H := ifp H
  obtain ⟨c24, H⟩ := H
  have c24b0 := decide_eq_true c24
  clear c24
  replace H := ifp H
  obtain ⟨c25, H⟩ := H
  have c25b0 := decide_eq_true c25
  clear c25
  by_cases c26 : ((rd_T41 l0_2 x7_2).f0).toList = ((rd_T41 l0_2 a1).f0).toList
  ·rw [if_pos c26] at H
   have c26b0 : (((rd_T41 l0_2 x7_2).f0).toList == ((rd_T41 l0_2 a1).f0).toList) = true := beq_iff_eq.mpr c26
   have c26b1 : (((rd_T41 l0_2 x7_2).f0).toList != ((rd_T41 l0_2 a1).f0).toList) = false := bne_eq_false_iff_eq.mpr c26
   clear c26
   obtain rfl := Option.some.inj H
   have hnb27 := NB336_338.1
   have hnc27 := NB338_336.1
   have z28 := cf3 BK336.1
   obtain ⟨p341, q341, ad341, A341_1, c341_1, A341_2, c341_2, A341_3, c341_3, e341, hx341_0, hx341_1, hx341_2, hx341_3, hx341_4, HC341_1, HR341_1, HC341_2, HR341_2, HC341_3, HR341_3⟩ := bT41 HR0_2.1 HB.1 x7_2
   obtain rfl : ad337 = ad341 := (by injection e341)
   have z29 := cf5 BK338.1
   go_wp2
   repeat (go_quiet (fail); try go_wp2)
   go_ret
   exact ⟨per, pbg⟩
  rw [if_neg c26] at H
  have c26b0 : (((rd_T41 l0_2 x7_2).f0).toList == ((rd_T41 l0_2 a1).f0).toList) = false := beq_eq_false_iff_ne.mpr c26
  have c26b1 : (((rd_T41 l0_2 x7_2).f0).toList != ((rd_T41 l0_2 a1).f0).toList) = true := bne_iff_ne.mpr c26
  have H' := am H
  clear H
  have hnb30 := NB336_338.1
  have hnc30 := NB338_336.1
  have z31 := cf3 BK336.1
  obtain ⟨p341, q341, ad341, A341_1, c341_1, A341_2, c341_2, A341_3, c341_3, e341, hx341_0, hx341_1, hx341_2, hx341_3, hx341_4, HC341_1, HR341_1, HC341_2, HR341_2, HC341_3, HR341_3⟩ := bT41 HR0_2.1 HB.1 x7_2
  obtain rfl : ad337 = ad341 := (by injection e341)
  have z32 := cf5 BK338.1
  go_wp2
  repeat (go_quiet (fail); try go_wp2)
  go_roundg k2
  case measure => have := HK1.1; have := HK2.1; omega
  case rel => exact ⟨(wrap64 (x7_2 + 1)), prs, H', ⟨by have := HK1.1; have := HK2.1; omega⟩, ⟨pbk BK336.1⟩, ⟨pbk BK338.1⟩, ⟨pbg⟩⟩
 rw [if_neg c23] at H
 have c23b0 : decide (x7_2 < a1) = false := decide_eq_false c23
 clear c23
 have HC33 := am H
 clear H
 go_upto_region 14 with (fail)
 repeat (go_quiet (fail); go_upto_region 14 with (fail))
 go_cut [56] (fun v56 wc => ∃ (kq : Nat) (x56_32 : Bool), v56 = .bool x56_32 ∧ Aside0 (r09_trans.j2 kq x56_32 a0_0 l0_1 l0_2 ((rd_T41 l0_2 a1).f0) ((rd_T41 l0_2 a1).f1) ((rd_T41 l0_2 a1).f2) ((rd_T41 l0_2 a1).f3) ((rd_T41 l0_2 a1).f4) = some r) ∧ Aside0 (kq ≤ k2) ∧ Aside0 (wc.heap[gb336]? = some (.cells #[.string a0_0, (.slice A0_1 l0_1.length c0_1), (.slice (some ad337) l0_2.length c0_2)] 25 (0, 0))) ∧ Aside0 (wc.heap[gb338]? = some (.cells #[.string ((rd_T41 l0_2 a1).f0), (.slice A337_1 ((rd_T41 l0_2 a1).f1).length c337_1), (.slice A337_2 ((rd_T41 l0_2 a1).f2).length c337_2), (.slice A337_3 ((rd_T41 l0_2 a1).f3).length c337_3), .int .i64 ((rd_T41 l0_2 a1).f4)] 41 (0, 0))) ∧ Aside0 (Below w.heap.size w wc))
 case first =>
  have H := HC33.1
  clear HC33
  by_cases c34 : ((rd_T41 l0_2 a1).f4) < 0
  ·rw [if_pos c34] at H
   have c34b0 : decide (((rd_T41 l0_2 a1).f4) < 0) = true := decide_eq_true c34
   clear c34
   (first | rw [c34b0] | (simp only [i64_w, i32_w]; rw [c34b0]) | skip)
   have H' := am H
   clear H
   have hnb35 := NB338_336.1
   have hnc35 := NB336_338.1
   have z36 := cf5 BK338.1
   go_wp2
   repeat (go_quiet (fail); try go_wp2)
   go_meet
   case rel => exact ⟨_, (true), prs, H', ⟨by have := HK1.1; have := HK2.1; first | omega | exact Nat.le_refl _⟩, ⟨pbk BK336.1⟩, ⟨pbk BK338.1⟩, ⟨pbg⟩⟩
  rw [if_neg c34] at H
  have c34b0 : decide (((rd_T41 l0_2 a1).f4) < 0) = false := decide_eq_false c34
  clear c34
  (first | rw [c34b0] | (simp only [i64_w, i32_w]; rw [c34b0]) | skip)
  have H' := am H
  clear H
  have hnb37 := NB338_336.1
  have hnc37 := NB336_338.1
  have z38 := cf5 BK338.1
  go_wp2
  repeat (go_quiet (fail); try go_wp2)
  go_meet
  case rel => exact ⟨_, (decide (((rd_T41 l0_2 a1).f4) > 9)), prs, H', ⟨by have := HK1.1; have := HK2.1; first | omega | exact Nat.le_refl _⟩, ⟨pbk BK336.1⟩, ⟨pbk BK338.1⟩, ⟨pbg⟩⟩
 clear HC33
 try clear c3 c3b0 c4 c4b0 c6 c12 c12b0 c13 c13b0 c14 c14b0 c14b1 c23 c23b0 c24 c24b0 c25 c25b0 c26 c26b0 c26b1 c34 c34b0 z11 z16 z17 z19 z20 z22 z28 z29 z31 z32 z36 z38 z8 hx337_0 hx337_1 hx337_2 hx337_3 hx337_4 hx340_0 hx340_1 hx340_2 hx341_0 hx341_1 hx341_2 hx341_3 hx341_4 p337 p340 p341 q337 q340 q341
 obtain ⟨kq, x56_32, rfl, HA, HJ32, BK336, BK338, HB⟩ := hcut
 obtain _ | kj32 := kq
 ·exact absurd HA.1 (by simp [r09_trans.j2])
 have H := HA.1
 clear HA
 simp only [r09_trans.j2] at H
 by_cases c39 : x56_32 = true
 ·subst c39
  rw [if_pos rfl] at H
  obtain rfl := Option.some.inj H
  go_wp2
  repeat (go_quiet (fail); try go_wp2)
  go_ret
  exact ⟨per, pbg⟩
 replace c39 := Bool.eq_false_iff.mpr c39
 subst c39
 rw [if_neg Bool.false_ne_true] at H
 replace H := bnd H
 obtain ⟨t342, A40, H⟩ := H
 (try dsimp only at H)
 by_cases c41 : t342 = 0
 rotate_left
 ·rw [if_neg c41] at H
  have c41b0 : (t342 == 0) = false := beq_eq_false_iff_ne.mpr c41
  have c41b1 : (t342 != 0) = true := bne_iff_ne.mpr c41
  obtain rfl := Option.some.inj H
  have hnb62 := NB336_338.1
  have hnc62 := NB338_336.1
  have z63 := cf3 BK336.1
  have z64 := cf5 BK338.1
  iterate 4 (try go_wp2_with (first | (go_at_call 94; (with_reducible refine (r09_arcs.calls kj32 a0_0 _ _ l0_1 _ _ l0_2 _ _ ((rd_T41 l0_2 a1).f1) t342 _ ?side1 ?side2 ?side3 ?side4 ?side5 ?side6 A40.1).mono ?_); (case side1 => exact csb HR0_1 HB); (case side2 => exact HC0_1.1); (case side3 => exact csb HR0_2 HB); (case side4 => exact HC0_2.1); (case side5 => exact csb HR337_1 HB); (case side6 => exact HC337_1.1); rintro e w65 ⟨rfl, hb⟩; replace BK336 := bbh BK336 hb; replace BK338 := bbh BK338 hb; replace HB := bst hb; (try clear hb))); try go_quiet (first | (go_at_call 94; (with_reducible refine (r09_arcs.calls kj32 a0_0 _ _ l0_1 _ _ l0_2 _ _ ((rd_T41 l0_2 a1).f1) t342 _ ?side1 ?side2 ?side3 ?side4 ?side5 ?side6 A40.1).mono ?_); (case side1 => exact csb HR0_1 HB); (case side2 => exact HC0_1.1); (case side3 => exact csb HR0_2 HB); (case side4 => exact HC0_2.1); (case side5 => exact csb HR337_1 HB); (case side6 => exact HC337_1.1); rintro e w65 ⟨rfl, hb⟩; replace BK336 := bbh BK336 hb; replace BK338 := bbh BK338 hb; replace HB := bst hb; (try clear hb))))
  go_ret
  exact ⟨per, pbg⟩
 rw [if_pos c41] at H
 have c41b0 : (t342 == 0) = true := beq_iff_eq.mpr c41
 have c41b1 : (t342 != 0) = false := bne_eq_false_iff_eq.mpr c41
 clear c41
 replace H := bnd H
 obtain ⟨t343, A42, H⟩ := H
 (try dsimp only at H)
 by_cases c43 : t343 = 0
 rotate_left
 ·rw [if_neg c43] at H
  have c43b0 : (t343 == 0) = false := beq_eq_false_iff_ne.mpr c43
  have c43b1 : (t343 != 0) = true := bne_iff_ne.mpr c43
  obtain rfl := Option.some.inj H
  have hnb55 := NB336_338.1
  have hnc55 := NB338_336.1
  have z56 := cf3 BK336.1
  have z57 := cf5 BK338.1
  iterate 4 (try go_wp2_with (first | (go_at_call 94; (with_reducible refine (r09_arcs.calls kj32 a0_0 _ _ l0_1 _ _ l0_2 _ _ ((rd_T41 l0_2 a1).f1) t342 _ ?side1 ?side2 ?side3 ?side4 ?side5 ?side6 A40.1).mono ?_); (case side1 => exact csb HR0_1 HB); (case side2 => exact HC0_1.1); (case side3 => exact csb HR0_2 HB); (case side4 => exact HC0_2.1); (case side5 => exact csb HR337_1 HB); (case side6 => exact HC337_1.1); rintro e w58 ⟨rfl, hb⟩; replace BK336 := bbh BK336 hb; replace BK338 := bbh BK338 hb; replace HB := bst hb; (try clear hb); have z59 := cf3 BK336.1; have z60 := cf5 BK338.1) | (go_at_call 94; (with_reducible refine (r09_arcs.calls kj32 a0_0 _ _ l0_1 _ _ l0_2 _ _ ((rd_T41 l0_2 a1).f2) t343 _ ?side1 ?side2 ?side3 ?side4 ?side5 ?side6 A42.1).mono ?_); (case side1 => exact csb HR0_1 HB); (case side2 => exact HC0_1.1); (case side3 => exact csb HR0_2 HB); (case side4 => exact HC0_2.1); (case side5 => exact csb HR337_2 HB); (case side6 => exact HC337_2.1); rintro e w61 ⟨rfl, hb⟩; replace BK336 := bbh BK336 hb; replace BK338 := bbh BK338 hb; replace HB := bst hb; (try clear hb))); try go_quiet (first | (go_at_call 94; (with_reducible refine (r09_arcs.calls kj32 a0_0 _ _ l0_1 _ _ l0_2 _ _ ((rd_T41 l0_2 a1).f1) t342 _ ?side1 ?side2 ?side3 ?side4 ?side5 ?side6 A40.1).mono ?_); (case side1 => exact csb HR0_1 HB); (case side2 => exact HC0_1.1); (case side3 => exact csb HR0_2 HB); (case side4 => exact HC0_2.1); (case side5 => exact csb HR337_1 HB); (case side6 => exact HC337_1.1); rintro e w58 ⟨rfl, hb⟩; replace BK336 := bbh BK336 hb; replace BK338 := bbh BK338 hb; replace HB := bst hb; (try clear hb); have z59 := cf3 BK336.1; have z60 := cf5 BK338.1) | (go_at_call 94; (with_reducible refine (r09_arcs.calls kj32 a0_0 _ _ l0_1 _ _ l0_2 _ _ ((rd_T41 l0_2 a1).f2) t343 _ ?side1 ?side2 ?side3 ?side4 ?side5 ?side6 A42.1).mono ?_); (case side1 => exact csb HR0_1 HB); (case side2 => exact HC0_1.1); (case side3 => exact csb HR0_2 HB); (case side4 => exact HC0_2.1); (case side5 => exact csb HR337_2 HB); (case side6 => exact HC337_2.1); rintro e w61 ⟨rfl, hb⟩; replace BK336 := bbh BK336 hb; replace BK338 := bbh BK338 hb; replace HB := bst hb; (try clear hb))))
  go_ret
  exact ⟨per, pbg⟩
 rw [if_pos c43] at H
 have c43b0 : (t343 == 0) = true := beq_iff_eq.mpr c43
 have c43b1 : (t343 != 0) = false := bne_eq_false_iff_eq.mpr c43
 clear c43
 replace H := bnd H
 obtain ⟨t344, A44, H⟩ := H
 (try dsimp only at H)
 obtain rfl := Option.some.inj H
 have hnb45 := NB336_338.1
 have hnc45 := NB338_336.1
 have z46 := cf3 BK336.1
 have z47 := cf5 BK338.1
 iterate 4 (try go_wp2_with (first | (go_at_call 94; (with_reducible refine (r09_arcs.calls kj32 a0_0 _ _ l0_1 _ _ l0_2 _ _ ((rd_T41 l0_2 a1).f1) t342 _ ?side1 ?side2 ?side3 ?side4 ?side5 ?side6 A40.1).mono ?_); (case side1 => exact csb HR0_1 HB); (case side2 => exact HC0_1.1); (case side3 => exact csb HR0_2 HB); (case side4 => exact HC0_2.1); (case side5 => exact csb HR337_1 HB); (case side6 => exact HC337_1.1); rintro e w48 ⟨rfl, hb⟩; replace BK336 := bbh BK336 hb; replace BK338 := bbh BK338 hb; replace HB := bst hb; (try clear hb); have z49 := cf3 BK336.1; have z50 := cf5 BK338.1) | (go_at_call 94; (with_reducible refine (r09_arcs.calls kj32 a0_0 _ _ l0_1 _ _ l0_2 _ _ ((rd_T41 l0_2 a1).f2) t343 _ ?side1 ?side2 ?side3 ?side4 ?side5 ?side6 A42.1).mono ?_); (case side1 => exact csb HR0_1 HB); (case side2 => exact HC0_1.1); (case side3 => exact csb HR0_2 HB); (case side4 => exact HC0_2.1); (case side5 => exact csb HR337_2 HB); (case side6 => exact HC337_2.1); rintro e w51 ⟨rfl, hb⟩; replace BK336 := bbh BK336 hb; replace BK338 := bbh BK338 hb; replace HB := bst hb; (try clear hb); have z52 := cf3 BK336.1; have z53 := cf5 BK338.1) | (go_at_call 94; (with_reducible refine (r09_arcs.calls kj32 a0_0 _ _ l0_1 _ _ l0_2 _ _ ((rd_T41 l0_2 a1).f3) t344 _ ?side1 ?side2 ?side3 ?side4 ?side5 ?side6 A44.1).mono ?_); (case side1 => exact csb HR0_1 HB); (case side2 => exact HC0_1.1); (case side3 => exact csb HR0_2 HB); (case side4 => exact HC0_2.1); (case side5 => exact csb HR337_3 HB); (case side6 => exact HC337_3.1); rintro e w54 ⟨rfl, hb⟩; replace BK336 := bbh BK336 hb; replace BK338 := bbh BK338 hb; replace HB := bst hb; (try clear hb))); try go_quiet (first | (go_at_call 94; (with_reducible refine (r09_arcs.calls kj32 a0_0 _ _ l0_1 _ _ l0_2 _ _ ((rd_T41 l0_2 a1).f1) t342 _ ?side1 ?side2 ?side3 ?side4 ?side5 ?side6 A40.1).mono ?_); (case side1 => exact csb HR0_1 HB); (case side2 => exact HC0_1.1); (case side3 => exact csb HR0_2 HB); (case side4 => exact HC0_2.1); (case side5 => exact csb HR337_1 HB); (case side6 => exact HC337_1.1); rintro e w48 ⟨rfl, hb⟩; replace BK336 := bbh BK336 hb; replace BK338 := bbh BK338 hb; replace HB := bst hb; (try clear hb); have z49 := cf3 BK336.1; have z50 := cf5 BK338.1) | (go_at_call 94; (with_reducible refine (r09_arcs.calls kj32 a0_0 _ _ l0_1 _ _ l0_2 _ _ ((rd_T41 l0_2 a1).f2) t343 _ ?side1 ?side2 ?side3 ?side4 ?side5 ?side6 A42.1).mono ?_); (case side1 => exact csb HR0_1 HB); (case side2 => exact HC0_1.1); (case side3 => exact csb HR0_2 HB); (case side4 => exact HC0_2.1); (case side5 => exact csb HR337_2 HB); (case side6 => exact HC337_2.1); rintro e w51 ⟨rfl, hb⟩; replace BK336 := bbh BK336 hb; replace BK338 := bbh BK338 hb; replace HB := bst hb; (try clear hb); have z52 := cf3 BK336.1; have z53 := cf5 BK338.1) | (go_at_call 94; (with_reducible refine (r09_arcs.calls kj32 a0_0 _ _ l0_1 _ _ l0_2 _ _ ((rd_T41 l0_2 a1).f3) t344 _ ?side1 ?side2 ?side3 ?side4 ?side5 ?side6 A44.1).mono ?_); (case side1 => exact csb HR0_1 HB); (case side2 => exact HC0_1.1); (case side3 => exact csb HR0_2 HB); (case side4 => exact HC0_2.1); (case side5 => exact csb HR337_3 HB); (case side6 => exact HC337_3.1); rintro e w54 ⟨rfl, hb⟩; replace BK336 := bbh BK336 hb; replace BK338 := bbh BK338 hb; replace HB := bst hb; (try clear hb))))
 go_ret
 exact ⟨per, pbg⟩

/-! ### r09_Check: function 67 -/
mutual
def r09_Check.j0 : Nat → Bool → ByteArray → List (S46) → List (S41) → Option (Int × Int)
 | 0, _, _, _, _ => none
 | k + 1, x27, x346000, x346001, x346002 => if x27 = true then (some (2, 0)) else (r09_Check.l0 k 0 x346000 x346001 x346002)
def r09_Check.l0 : Nat → Int → ByteArray → List (S46) → List (S41) → Option (Int × Int)
 | 0, _, _, _, _ => none
 | k + 1, x3, x346000, x346001, x346002 => if x3 < (x346001.length : Int) then ((r09_place.f k x346000 x346001 x346002 x3).bind fun t348 => (if t348 = 0 then (r09_Check.l0 k (wrap64 (x3 + 1)) x346000 x346001 x346002) else (some (t348, x3)))) else (r09_Check.l1 k 0 x346000 x346001 x346002)
def r09_Check.l1 : Nat → Int → ByteArray → List (S46) → List (S41) → Option (Int × Int)
 | 0, _, _, _, _ => none
 | k + 1, x5, x346000, x346001, x346002 => if x5 < (x346002.length : Int) then ((r09_trans.f k x346000 x346001 x346002 x5).bind fun t349 => (if t349 = 0 then (r09_Check.l1 k (wrap64 (x5 + 1)) x346000 x346001 x346002) else (some (t349, wrap64 ((x346001.length : Int) + x5))))) else (some (0, 0))
end
def r09_Check.f (k : Nat) (a0_0 : ByteArray) (l0_1 : List (S46)) (l0_2 : List (S41)) : Option (Int × Int) := (r09_Name.f k a0_0).bind fun t347 => (if t347 = true then (if (l0_1.length : Int) < 1 then (r09_Check.j0 k true a0_0 l0_1 l0_2) else (if (l0_1.length : Int) > 24 then (r09_Check.j0 k true a0_0 l0_1 l0_2) else (r09_Check.j0 k (decide ((l0_2.length : Int) > 24)) a0_0 l0_1 l0_2))) else (some (5, 0)))
theorem r09_Check.mono_l : ∀ k, M4 r09_Check.j0 k ∧ M4 r09_Check.l0 k ∧ M4 r09_Check.l1 k
 | 0 => ⟨fun _ _ _ _ r h => by simp [r09_Check.j0] at h, fun _ _ _ _ r h => by simp [r09_Check.l0] at h, fun _ _ _ _ r h => by simp [r09_Check.l1] at h⟩
 | k + 1 => by
  obtain ⟨ih0, ih1, ih2⟩ := r09_Check.mono_l k
  refine ⟨?_, ?_, ?_⟩ <;> dsimp only [M4] <;> intros <;> (first | unfold r09_Check.j0 | unfold r09_Check.l0 | unfold r09_Check.l1) <;> repeat' first | (with_reducible first | apply ih0 | apply ih1 | apply ih2 | apply r09_Name.mono | apply r09_place.mono | apply r09_trans.mono | apply lr | apply ln | apply li | refine lb ?_ fun _ => ?_)
theorem r09_Check.mono : ∀ a0 a1 a2 k, LeO (r09_Check.f k a0 a1 a2) (r09_Check.f (k + 1) a0 a1 a2) := by
 intro a0 a1 a2 k
 obtain ⟨ih0, ih1, ih2⟩ := r09_Check.mono_l k
 unfold r09_Check.f
 repeat' first | (with_reducible first | apply ih0 | apply ih1 | apply ih2 | apply r09_Name.mono | apply r09_place.mono | apply r09_trans.mono | apply lr | apply ln | apply li | refine lb ?_ fun _ => ?_)
set_option maxHeartbeats 8000000 in
set_option maxRecDepth 100000 in
theorem r09_Check.calls (k : Nat) (a0_0 : ByteArray) (A0_1 : Option Addr) (c0_1 : Nat) (l0_1 : List (S46)) (A0_2 : Option Addr) (c0_2 : Nat) (l0_2 : List (S41)) (r1 : Int) (r2 : Int) (w : World) (hr0_1 : Kd.C k46 w A0_1 l0_1.length l0_1) (hc0_1 : l0_1.length ≤ c0_1) (hr0_2 : Kd.C k41 w A0_2 l0_2.length l0_2) (hc0_2 : l0_2.length ≤ c0_2) (h : r09_Check.f k a0_0 l0_1 l0_2 = some (r1, r2)) :
  Calls Try.prog 67 #[.agg #[.string a0_0, .slice A0_1 l0_1.length c0_1, .slice A0_2 l0_2.length c0_2]] w fun e w' => e = .returned (.agg #[.int .i64 r1, .int .i64 r2]) ∧ Below w.heap.size w w' := by
 have hu25 := Try.underlying25
 have hu61 := Try.underlying61
 have HR0_1 := am hr0_1
 have HC0_1 := am hc0_1
 clear hr0_1 hc0_1
 have HR0_2 := am hr0_2
 have HC0_2 := am hc0_2
 clear hr0_2 hc0_2
 have HB := am (Below.refl w.heap.size w)
 have H : ((r09_Name.f k a0_0).bind fun t347 => (if t347 = true then (if (l0_1.length : Int) < 1 then (r09_Check.j0 k true a0_0 l0_1 l0_2) else (if (l0_1.length : Int) > 24 then (r09_Check.j0 k true a0_0 l0_1 l0_2) else (r09_Check.j0 k (decide ((l0_2.length : Int) > 24)) a0_0 l0_1 l0_2))) else (some (5, 0)))) = some (r1, r2) := h
 clear h
 replace H := bnd H
 obtain ⟨t347, A2, H⟩ := H
 (try dsimp only at H)
 by_cases c3 : t347 = true
 rotate_left
 ·replace c3 := Bool.eq_false_iff.mpr c3
  subst c3
  rw [if_neg Bool.false_ne_true] at H
  simp only [Option.some.injEq, Prod.mk.injEq] at H
  obtain ⟨rfl, rfl⟩ := H
  go_enter Try.func67, Try.ntmps67
  go_wp2_with (first | ((with_reducible refine gate_dst (N := 1) rfl ?_); (try (refine gate_guard (by rfl) ?_; dsimp only)); refine box_ev (N := 1) (cs := #[.string a0_0, .slice A0_1 l0_1.length c0_1, .slice A0_2 l0_2.length c0_2]) (t := 25) ?_; intro gb345 hg w46 hbox hb; have BK345 := am hbox; have GW345 := gwl hg; have GE345 := GW345; replace HB := bsl hb; clear hb hbox hg) | ((with_reducible refine gate_dst (N := 2) rfl ?_); (try (refine gate_guard (by rfl) ?_; dsimp only)); refine box_ev (N := 2) (cs := #[.int .i64 0, .int .i64 0]) (t := 61) ?_; intro gb346 hg w47 hbox hb; have BK346 := am hbox; have GW346 := gwb hg; have GE346 := GW346; have NB345_346 := nlt hg BK345; have NB346_345 := ngt hg BK345; replace BK345 := bbh BK345 hb; replace HB := bst hb; clear hb hbox hg; have hnb48 := NB345_346.1; have hnc48 := NB346_345.1; have z49 := cf3 BK345.1) | ((with_reducible refine gate_callee (f := 85) rfl ?_); refine gC 9 Try.func85 _ (r09_Name.calls k a0_0 false _ A2.1) ?_; rintro e w' ⟨rfl, ⟨nd, rfl⟩⟩; refine ⟨_, rfl, ?_⟩; (try (rw [drewN_self w47]; generalize hq_ : World.drewN w47 _ = w47; replace BK345 : Aside0 (w47.heap[gb345]? = some (.cells #[.string a0_0, .slice A0_1 l0_1.length c0_1, .slice A0_2 l0_2.length c0_2] 25 (0, 0))) := ⟨by rw [← hq_]; exact (by exact pbk BK345.1)⟩; replace BK346 : Aside0 (w47.heap[gb346]? = some (.cells #[.int .i64 0, .int .i64 0] 61 (0, 0))) := ⟨by rw [← hq_]; exact (by exact pbk BK346.1)⟩; replace HB : Aside0 (Below w.heap.size w w47) := ⟨by rw [← hq_]; exact pbg⟩; clear hq_)); have z50 := cf2 BK346.1))
  refine bodyPost_ret (results_cell_row rfl _ _ gb346 61 #[.int .i64 5, .int .i64 0] (0, 0) _ rfl (by (with_reducible repeat (first | refine blk_drewN ?_ _ | refine blk_drew ?_ | refine blk_alloc ?_ _)); exact bp2 (pbk BK346.1)) Try.underlying61 rfl (by kernel_rfl)) rfl ?_
  exact ⟨per, pbg⟩
 subst c3
 rw [if_pos rfl] at H
 have HC4 := am H
 clear H
 go_enter Try.func67, Try.ntmps67
 go_upto_region 3 with (first | ((with_reducible refine gate_dst (N := 1) rfl ?_); (try (refine gate_guard (by rfl) ?_; dsimp only)); refine box_ev (N := 1) (cs := #[.string a0_0, .slice A0_1 l0_1.length c0_1, .slice A0_2 l0_2.length c0_2]) (t := 25) ?_; intro gb345 hg w5 hbox hb; have BK345 := am hbox; have GW345 := gwl hg; have GE345 := GW345; replace HB := bsl hb; clear hb hbox hg) | ((with_reducible refine gate_dst (N := 2) rfl ?_); (try (refine gate_guard (by rfl) ?_; dsimp only)); refine box_ev (N := 2) (cs := #[.int .i64 0, .int .i64 0]) (t := 61) ?_; intro gb346 hg w6 hbox hb; have BK346 := am hbox; have GW346 := gwb hg; have GE346 := GW346; have NB345_346 := nlt hg BK345; have NB346_345 := ngt hg BK345; replace BK345 := bbh BK345 hb; replace HB := bst hb; clear hb hbox hg; have hnb7 := NB345_346.1; have hnc7 := NB346_345.1; have z8 := cf3 BK345.1) | ((with_reducible refine gate_callee (f := 85) rfl ?_); refine gC 9 Try.func85 _ (r09_Name.calls k a0_0 true _ A2.1) ?_; rintro e w' ⟨rfl, ⟨nd, rfl⟩⟩; refine ⟨_, rfl, ?_⟩))
 (try simp only [Act.put, List.setIfInBounds_toArray, List.set_cons_zero, List.set_cons_succ])
 go_cut [27] (fun v27 wc => ∃ (kq : Nat) (x27_3 : Bool), v27 = .bool x27_3 ∧ Aside0 (r09_Check.j0 kq x27_3 a0_0 l0_1 l0_2 = some (r1, r2)) ∧ Aside0 (kq ≤ k) ∧ Aside0 (wc.heap[gb345]? = some (.cells #[.string a0_0, (.slice A0_1 l0_1.length c0_1), (.slice A0_2 l0_2.length c0_2)] 25 (0, 0))) ∧ Aside0 (wc.heap[gb346]? = some (.cells #[.int .i64 0, .int .i64 0] 61 (0, 0))) ∧ Aside0 (Below w.heap.size w wc))
 case first =>
  have H := HC4.1
  clear HC4
  by_cases c9 : (l0_1.length : Int) < 1
  ·rw [if_pos c9] at H
   have c9b0 : decide ((l0_1.length : Int) < 1) = true := decide_eq_true c9
   have c9b1 : decide (l0_1.length < 1) = true := decide_eq_true (by omega)
   clear c9
   (first | rw [c9b0] | (simp only [i64_w, i32_w]; rw [c9b0]) | skip)
   have H' := am H
   clear H
   have hnb10 := NB345_346.1
   have hnc10 := NB346_345.1
   have z11 := cf3 BK345.1
   go_wp2
   go_meet
   case rel => exact ⟨_, (true), prs, H', ⟨by first | omega | exact Nat.le_refl _⟩, ⟨pbk BK345.1⟩, ⟨pbk BK346.1⟩, ⟨pbg⟩⟩
  rw [if_neg c9] at H
  have c9b0 : decide ((l0_1.length : Int) < 1) = false := decide_eq_false c9
  have c9b1 : decide (l0_1.length < 1) = false := decide_eq_false (by omega)
  clear c9
  (first | rw [c9b0] | (simp only [i64_w, i32_w]; rw [c9b0]) | skip)
  by_cases c12 : (l0_1.length : Int) > 24
  ·rw [if_pos c12] at H
   have c12b0 : decide (24 < (l0_1.length : Int)) = true := decide_eq_true c12
   have c12b1 : decide (24 < l0_1.length) = true := decide_eq_true (by omega)
   clear c12
   have H' := am H
   clear H
   have hnb13 := NB345_346.1
   have hnc13 := NB346_345.1
   have z14 := cf3 BK345.1
   go_wp2
   go_meet
   case rel => exact ⟨_, (true), prs, H', ⟨by first | omega | exact Nat.le_refl _⟩, ⟨pbk BK345.1⟩, ⟨pbk BK346.1⟩, ⟨pbg⟩⟩
  rw [if_neg c12] at H
  have c12b0 : decide (24 < (l0_1.length : Int)) = false := decide_eq_false c12
  have c12b1 : decide (24 < l0_1.length) = false := decide_eq_false (by omega)
  clear c12
  have H' := am H
  clear H
  have hnb15 := NB345_346.1
  have hnc15 := NB346_345.1
  have z16 := cf3 BK345.1
  go_wp2
  go_meet
  case rel => exact ⟨_, (decide ((l0_2.length : Int) > 24)), prs, H', ⟨by first | omega | exact Nat.le_refl _⟩, ⟨pbk BK345.1⟩, ⟨pbk BK346.1⟩, ⟨pbg⟩⟩
 clear HC4
 try clear c3 c9 c9b0 c9b1 c12 c12b0 c12b1 z11 z14 z16 z8
 obtain ⟨kq, x27_3, rfl, HA, HJ3, BK345, BK346, HB⟩ := hcut
 obtain _ | kj3 := kq
 ·exact absurd HA.1 (by simp [r09_Check.j0])
 have H := HA.1
 clear HA
 simp only [r09_Check.j0] at H
 by_cases c17 : x27_3 = true
 ·subst c17
  rw [if_pos rfl] at H
  simp only [Option.some.injEq, Prod.mk.injEq] at H
  obtain ⟨rfl, rfl⟩ := H
  have hnb18 := NB346_345.1
  have hnc18 := NB345_346.1
  have z19 := cf2 BK346.1
  go_wp2
  refine bodyPost_ret (results_cell_row rfl _ _ gb346 61 #[.int .i64 2, .int .i64 0] (0, 0) _ rfl (by (with_reducible repeat (first | refine blk_drewN ?_ _ | refine blk_drew ?_ | refine blk_alloc ?_ _)); exact bp2 (pbk BK346.1)) Try.underlying61 rfl (by kernel_rfl)) rfl ?_
  exact ⟨per, pbg⟩
 replace c17 := Bool.eq_false_iff.mpr c17
 subst c17
 rw [if_neg Bool.false_ne_true] at H
 have H' := am H
 clear H
 go_wp2
 go_loopg [3] kj3 (fun kq v3 w' => ∃ (x3_2 : Int) (x347000_2 : Int) (x347001_2 : Int), v3 = .int .i64 x3_2 ∧ Aside0 (r09_Check.l0 kq x3_2 a0_0 l0_1 l0_2 = some (r1, r2)) ∧ Aside0 (kq ≤ kj3) ∧ Aside0 (w'.heap[gb345]? = some (.cells #[.string a0_0, (.slice A0_1 l0_1.length c0_1), (.slice A0_2 l0_2.length c0_2)] 25 (0, 0))) ∧ Aside0 (w'.heap[gb346]? = some (.cells #[.int .i64 x347000_2, .int .i64 x347001_2] 61 (0, 0))) ∧ Aside0 (Below w.heap.size w w'))
 case atStart => exact ⟨(0), (0), (0), prs, H', ⟨Nat.le_refl _⟩, ⟨pbk BK345.1⟩, ⟨pbk BK346.1⟩, ⟨pbg⟩⟩
 clear H'
 try clear c3 c9 c9b0 c9b1 c12 c12b0 c12b1 c17 z11 z14 z16 z19 z8
 obtain ⟨x3_2, x347000_2, x347001_2, rfl, HA, HK2, BK345, BK346, HB⟩ := hrel
 obtain _ | k2 := gk
 ·exact absurd HA.1 (by simp [r09_Check.l0])
 have H := HA.1
 clear HA
 simp only [r09_Check.l0] at H
 by_cases c20 : x3_2 < (l0_1.length : Int)
 ·rw [if_pos c20] at H
  have c20b0 : decide (x3_2 < (l0_1.length : Int)) = true := decide_eq_true c20
  clear c20
  replace H := bnd H
  obtain ⟨t348, A21, H⟩ := H
  (try dsimp only at H)
  by_cases c22 : t348 = 0
  ·rw [if_pos c22] at H
   have c22b0 : (t348 == 0) = true := beq_iff_eq.mpr c22
   have c22b1 : (t348 != 0) = false := bne_eq_false_iff_eq.mpr c22
   clear c22
   have H' := am H
   clear H
   have hnb23 := NB345_346.1
   have hnc23 := NB346_345.1
   have z24 := cf3 BK345.1
   go_wp2_with (first | ((with_reducible refine gate_callee (f := 86) rfl ?_); refine gC 38 Try.func86 _ (r09_place.calls k2 a0_0 _ _ l0_1 _ _ l0_2 x3_2 t348 _ (csb HR0_1 HB) HC0_1.1 (csb HR0_2 HB) HC0_2.1 A21.1) ?_; rintro e w25 ⟨rfl, hb⟩; refine ⟨_, rfl, ?_⟩; replace BK345 := bbh BK345 hb; replace BK346 := bbh BK346 hb; replace HB := bst hb; (try clear hb)))
   go_roundg k2
   case measure => have := HJ3.1; have := HK2.1; omega
   case rel => exact ⟨(wrap64 (x3_2 + 1)), (x347000_2), (x347001_2), prs, H', ⟨by have := HJ3.1; have := HK2.1; omega⟩, ⟨pbk BK345.1⟩, ⟨pbk BK346.1⟩, ⟨pbg⟩⟩
  rw [if_neg c22] at H
  have c22b0 : (t348 == 0) = false := beq_eq_false_iff_ne.mpr c22
  have c22b1 : (t348 != 0) = true := bne_iff_ne.mpr c22
  simp only [Option.some.injEq, Prod.mk.injEq] at H
  obtain ⟨rfl, rfl⟩ := H
  have hnb26 := NB345_346.1
  have hnc26 := NB346_345.1
  have z27 := cf3 BK345.1
  go_wp2_with (first | ((with_reducible refine gate_callee (f := 86) rfl ?_); refine gC 38 Try.func86 _ (r09_place.calls k2 a0_0 _ _ l0_1 _ _ l0_2 x3_2 t348 _ (csb HR0_1 HB) HC0_1.1 (csb HR0_2 HB) HC0_2.1 A21.1) ?_; rintro e w28 ⟨rfl, hb⟩; refine ⟨_, rfl, ?_⟩; replace BK345 := bbh BK345 hb; replace BK346 := bbh BK346 hb; replace HB := bst hb; (try clear hb); have z29 := cf2 BK346.1))
  refine bodyPost_ret (results_cell_row rfl _ _ gb346 61 #[.int .i64 t348, .int .i64 x3_2] (0, 0) _ rfl (by (with_reducible repeat (first | refine blk_drewN ?_ _ | refine blk_drew ?_ | refine blk_alloc ?_ _)); exact bp2 (pbk BK346.1)) Try.underlying61 rfl (by kernel_rfl)) rfl ?_
  exact ⟨per, pbg⟩
 rw [if_neg c20] at H
 have c20b0 : decide (x3_2 < (l0_1.length : Int)) = false := decide_eq_false c20
 clear c20
 have H' := am H
 clear H
 have hnb30 := NB345_346.1
 have hnc30 := NB346_345.1
 have z31 := cf3 BK345.1
 go_wp2
 go_loopg [5] k2 (fun kq v5 w' => ∃ (x5_3 : Int) (x347000_3 : Int) (x347001_3 : Int), v5 = .int .i64 x5_3 ∧ Aside0 (r09_Check.l1 kq x5_3 a0_0 l0_1 l0_2 = some (r1, r2)) ∧ Aside0 (kq ≤ k2) ∧ Aside0 (w'.heap[gb345]? = some (.cells #[.string a0_0, (.slice A0_1 l0_1.length c0_1), (.slice A0_2 l0_2.length c0_2)] 25 (0, 0))) ∧ Aside0 (w'.heap[gb346]? = some (.cells #[.int .i64 x347000_3, .int .i64 x347001_3] 61 (0, 0))) ∧ Aside0 (Below w.heap.size w w'))
 case atStart => exact ⟨(0), (x347000_2), (x347001_2), prs, H', ⟨Nat.le_refl _⟩, ⟨pbk BK345.1⟩, ⟨pbk BK346.1⟩, ⟨pbg⟩⟩
 clear H'
 try clear c3 c9 c9b0 c9b1 c12 c12b0 c12b1 c17 c20 c20b0 c22 c22b0 c22b1 z11 z14 z16 z19 z24 z27 z29 z31 z8
 obtain ⟨x5_3, x347000_3, x347001_3, rfl, HA, HK3, BK345, BK346, HB⟩ := hrel
 obtain _ | k3 := gk
 ·exact absurd HA.1 (by simp [r09_Check.l1])
 have H := HA.1
 clear HA
 simp only [r09_Check.l1] at H
 by_cases c32 : x5_3 < (l0_2.length : Int)
 rotate_left
 ·rw [if_neg c32] at H
  have c32b0 : decide (x5_3 < (l0_2.length : Int)) = false := decide_eq_false c32
  clear c32
  simp only [Option.some.injEq, Prod.mk.injEq] at H
  obtain ⟨rfl, rfl⟩ := H
  have hnb43 := NB345_346.1
  have hnc43 := NB346_345.1
  have z44 := cf3 BK345.1
  have z45 := cf2 BK346.1
  go_wp2
  refine bodyPost_ret (results_cell_row rfl _ _ gb346 61 #[.int .i64 0, .int .i64 0] (0, 0) _ rfl (by (with_reducible repeat (first | refine blk_drewN ?_ _ | refine blk_drew ?_ | refine blk_alloc ?_ _)); exact bp2 (pbk BK346.1)) Try.underlying61 rfl (by kernel_rfl)) rfl ?_
  exact ⟨per, pbg⟩
 rw [if_pos c32] at H
 have c32b0 : decide (x5_3 < (l0_2.length : Int)) = true := decide_eq_true c32
 clear c32
 replace H := bnd H
 obtain ⟨t349, A33, H⟩ := H
 (try dsimp only at H)
 by_cases c34 : t349 = 0
 ·rw [if_pos c34] at H
  have c34b0 : (t349 == 0) = true := beq_iff_eq.mpr c34
  have c34b1 : (t349 != 0) = false := bne_eq_false_iff_eq.mpr c34
  clear c34
  have H' := am H
  clear H
  have hnb35 := NB345_346.1
  have hnc35 := NB346_345.1
  have z36 := cf3 BK345.1
  go_wp2_with (first | ((with_reducible refine gate_callee (f := 87) rfl ?_); refine gC 53 Try.func87 _ (r09_trans.calls k3 a0_0 _ _ l0_1 _ _ l0_2 x5_3 t349 _ (csb HR0_1 HB) HC0_1.1 (csb HR0_2 HB) HC0_2.1 A33.1) ?_; rintro e w37 ⟨rfl, hb⟩; refine ⟨_, rfl, ?_⟩; replace BK345 := bbh BK345 hb; replace BK346 := bbh BK346 hb; replace HB := bst hb; (try clear hb)))
  go_roundg k3
  case measure => have := HJ3.1; have := HK2.1; have := HK3.1; omega
  case rel => exact ⟨(wrap64 (x5_3 + 1)), (x347000_3), (x347001_3), prs, H', ⟨by have := HJ3.1; have := HK2.1; have := HK3.1; omega⟩, ⟨pbk BK345.1⟩, ⟨pbk BK346.1⟩, ⟨pbg⟩⟩
 rw [if_neg c34] at H
 have c34b0 : (t349 == 0) = false := beq_eq_false_iff_ne.mpr c34
 have c34b1 : (t349 != 0) = true := bne_iff_ne.mpr c34
 simp only [Option.some.injEq, Prod.mk.injEq] at H
 obtain ⟨rfl, rfl⟩ := H
 have hnb38 := NB345_346.1
 have hnc38 := NB346_345.1
 have z39 := cf3 BK345.1
 go_wp2_with (first | ((with_reducible refine gate_callee (f := 87) rfl ?_); refine gC 53 Try.func87 _ (r09_trans.calls k3 a0_0 _ _ l0_1 _ _ l0_2 x5_3 t349 _ (csb HR0_1 HB) HC0_1.1 (csb HR0_2 HB) HC0_2.1 A33.1) ?_; rintro e w40 ⟨rfl, hb⟩; refine ⟨_, rfl, ?_⟩; replace BK345 := bbh BK345 hb; replace BK346 := bbh BK346 hb; replace HB := bst hb; (try clear hb); have z41 := cf3 BK345.1; have z42 := cf2 BK346.1))
 refine bodyPost_ret (results_cell_row rfl _ _ gb346 61 #[.int .i64 t349, .int .i64 (wrap64 ((l0_1.length : Int) + x5_3))] (0, 0) _ rfl (by (with_reducible repeat (first | refine blk_drewN ?_ _ | refine blk_drew ?_ | refine blk_alloc ?_ _)); exact bp2 (pbk BK346.1)) Try.underlying61 rfl (by kernel_rfl)) rfl ?_
 exact ⟨per, pbg⟩

/-! ### r09_Valid: function 34 -/
def r09_Valid.f (k : Nat) (a0_0 : ByteArray) (l0_1 : List (S46)) (l0_2 : List (S41)) : Option (Bool) := (r09_Check.f k a0_0 l0_1 l0_2).bind fun bt351 => (some (bt351.1 == 0))
theorem r09_Valid.mono : ∀ a0 a1 a2 k, LeO (r09_Valid.f k a0 a1 a2) (r09_Valid.f (k + 1) a0 a1 a2) := by
 intro a0 a1 a2 k
 unfold r09_Valid.f
 repeat' first | (with_reducible first | apply r09_Check.mono | apply lr | apply ln | apply li | refine lb ?_ fun _ => ?_)
set_option maxHeartbeats 8000000 in
set_option maxRecDepth 100000 in
theorem r09_Valid.calls (k : Nat) (a0_0 : ByteArray) (A0_1 : Option Addr) (c0_1 : Nat) (l0_1 : List (S46)) (A0_2 : Option Addr) (c0_2 : Nat) (l0_2 : List (S41)) (r : Bool) (w : World) (hr0_1 : Kd.C k46 w A0_1 l0_1.length l0_1) (hc0_1 : l0_1.length ≤ c0_1) (hr0_2 : Kd.C k41 w A0_2 l0_2.length l0_2) (hc0_2 : l0_2.length ≤ c0_2) (h : r09_Valid.f k a0_0 l0_1 l0_2 = some r) :
  Calls Try.prog 34 #[.agg #[.string a0_0, .slice A0_1 l0_1.length c0_1, .slice A0_2 l0_2.length c0_2]] w fun e w' => e = .returned (.bool r) ∧ Below w.heap.size w w' := by
 have hf61_0 : ∀ (x0 x1 : Value) (W : World), (Instr.field 61 (.agg #[x0, x1]) 0).run Try.prog W = .ok x0 W := fun x0 x1 W => by kernel_rfl
 have hu25 := Try.underlying25
 have HR0_1 := am hr0_1
 have HC0_1 := am hc0_1
 clear hr0_1 hc0_1
 have HR0_2 := am hr0_2
 have HC0_2 := am hc0_2
 clear hr0_2 hc0_2
 have HB := am (Below.refl w.heap.size w)
 have H : ((r09_Check.f k a0_0 l0_1 l0_2).bind fun bt351 => (some (bt351.1 == 0))) = some r := h
 clear h
 replace H := bnd H
 obtain ⟨⟨t351, t352⟩, A2, H⟩ := H
 (try dsimp only at H)
 obtain rfl := Option.some.inj H
 go_enter Try.func34, Try.ntmps34
 go_wp2_with (first | ((with_reducible refine gate_dst (N := 1) rfl ?_); refine box_ev (N := 1) (cs := #[.string a0_0, .slice A0_1 l0_1.length c0_1, .slice A0_2 l0_2.length c0_2]) (t := 25) ?_; intro gb350 hg w3 hbox hb; have BK350 := am hbox; have GW350 := gwl hg; have GE350 := GW350; replace HB := bsl hb; clear hb hbox hg; have z4 := cf3 BK350.1) | ((with_reducible refine gate_callee (f := 67) rfl ?_); refine gC 4 Try.func67 _ (r09_Check.calls k a0_0 _ _ l0_1 _ _ l0_2 t351 t352 _ (csb HR0_1 HB) HC0_1.1 (csb HR0_2 HB) HC0_2.1 A2.1) ?_; rintro e w5 ⟨rfl, hb⟩; refine ⟨_, rfl, ?_⟩; replace BK350 := bbh BK350 hb; replace HB := bst hb; (try clear hb)))
 go_ret
 exact ⟨per, pbg⟩

end Go.Proofs.Ytplljicodflagaa.P
