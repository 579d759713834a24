-- LAID BY OUR PROGRAM OVER THE PRINT (xprint.py, part.py): Lean checks it.
import Derived.Test.YteknagfpiadaiaaPx0
namespace Go.Proofs.Yteknagfpiadaiaa.P
open Go.RowKit Go.Proofs.YteknagfpiadaiaaW.PrintWords Go.Proofs.YteknagfpiadaiaaW.PrintLast Go.Proofs.YteknagfpiadaiaaW.PrintMore
attribute [local go_sem] max2_int min2_int max_two min_two max_three min_three max_four min_four   -- for this text's walks alone
set_option linter.unusedVariables false
set_option linter.unusedSimpArgs false

/-! ### petrinetlaw22_few: function 22 -/
mutual
def petrinetlaw22_few.l0 : Nat → List (S48) → Int → Option (Bool)
 | 0, _, _ => none
 | k + 1, x0, x3 => if x3 < (x0.length : Int) then (petrinetlaw22_few.j1 k x0 x3 (decide (x3 < 321))) else (petrinetlaw22_few.j1 k x0 x3 false)
def petrinetlaw22_few.j1 : Nat → List (S48) → Int → Bool → Option (Bool)
 | 0, _, _, _ => none
 | k + 1, x0, x3, x11 => if x11 = true then (if 0 ≤ x3 then (if x3 < (x0.length : Int) then (if (((rd_T48 x0 x3).f2).length : Int) > 30 then (some false) else (petrinetlaw22_few.l0 k x0 (wrap64 (x3 + 1)))) else (none)) else (none)) else (some (decide ((x0.length : Int) ≤ 320)))
end
def petrinetlaw22_few.f (k : Nat) (l0 : List (S48)) : Option (Bool) := petrinetlaw22_few.l0 k l0 0
theorem petrinetlaw22_few.mono_l : ∀ k, M2 petrinetlaw22_few.l0 k ∧ M3 petrinetlaw22_few.j1 k
 | 0 => ⟨fun _ _ r h => by simp [petrinetlaw22_few.l0] at h, fun _ _ _ r h => by simp [petrinetlaw22_few.j1] at h⟩
 | k + 1 => by
  obtain ⟨aw, ax⟩ := petrinetlaw22_few.mono_l k
  refine ⟨?_, ?_⟩ <;> dsimp only [M2, M3] <;> intros <;> (first | unfold petrinetlaw22_few.l0 | unfold petrinetlaw22_few.j1) <;> repeat' first | (with_reducible first | apply aw | apply ax | apply lr | apply ln | apply li | refine lb ?_ fun _ => ?_)
theorem petrinetlaw22_few.mono : ∀ a0 k, LeO (petrinetlaw22_few.f k a0) (petrinetlaw22_few.f (k + 1) a0) := by
 intro a0 k
 obtain ⟨aw, ax⟩ := petrinetlaw22_few.mono_l k
 unfold petrinetlaw22_few.f
 repeat' first | (with_reducible first | apply aw | apply ax | apply lr | apply ln | apply li | refine lb ?_ fun _ => ?_)
set_option maxHeartbeats 8000000 in
set_option maxRecDepth 100000 in
theorem petrinetlaw22_few.calls (k : Nat) (A0 : Option Addr) (c0 : Nat) (l0 : List (S48)) (r : Bool) (w : World) (aC : Kd.C k48 w A0 l0.length l0) (hc0 : l0.length ≤ c0) (h : petrinetlaw22_few.f k l0 = some r) :
  Calls Try.prog 22 #[.slice A0 l0.length c0] w fun e w' => e = .returned (.bool r) ∧ Drawn0 w w' := by
 have aB := am aC
 have aH := am hc0
 clear aC hc0
 have H : (petrinetlaw22_few.l0 k l0 0) = some r := h
 clear h
 have H' := am H
 clear H
 go_enter Try.func22, Try.ntmps22
 go_wp2
 go_loopg [3] k (fun kq v3 w' => ∃ (aa : Int), v3 = .int .i64 aa ∧ Aside0 (petrinetlaw22_few.l0 kq l0 aa = some r) ∧ Aside0 (kq ≤ k) ∧ Drawn0 w w')
 case atStart => exact ⟨(0), prs, H', ⟨Nat.le_refl _⟩, pdr⟩
 clear H'
 obtain ⟨aa, rfl, HA, aq, ⟨m1, rfl⟩⟩ := hrel
 obtain _ | k1 := gk
 ·exact absurd HA.1 (by simp [petrinetlaw22_few.l0])
 have H := HA.1
 clear HA
 simp only [petrinetlaw22_few.l0] at H
 have ar := am H
 clear H
 go_upto_region 2 with (fail)
 go_cut [11] (fun aG wc => ∃ (kq : Nat) (ab : Bool), aG = .bool ab ∧ Aside0 (petrinetlaw22_few.j1 kq l0 aa ab = some r) ∧ Aside0 (kq ≤ k1) ∧ Drawn0 w wc)
 case first =>
  have H := ar.1
  clear ar
  replace H := ifl H
  rcases H with ⟨ac, H⟩ | ⟨ac, H⟩
  rotate_left
  ·(first | rw [ac] | (simp only [i64_w, i32_w]; rw [ac]) | skip)
   have H' := am H
   clear H
   go_wp2
   go_meet
   case rel => exact ⟨_, (false), prs, H', ⟨by have := aq.1; first | omega | exact Nat.le_refl _⟩, pdr⟩
  (first | rw [ac] | (simp only [i64_w, i32_w]; rw [ac]) | skip)
  have H' := am H
  clear H
  go_wp2
  go_meet
  case rel => exact ⟨_, (decide (aa < 321)), prs, H', ⟨by have := aq.1; first | omega | exact Nat.le_refl _⟩, pdr⟩
 clear ar
 try clear c3 ac
 obtain ⟨kq, ab, rfl, HA, aA, ⟨aI, rfl⟩⟩ := hcut
 obtain _ | aF := kq
 ·exact absurd HA.1 (by simp [petrinetlaw22_few.j1])
 have H := HA.1
 clear HA
 simp only [petrinetlaw22_few.j1] at H
 cases ab
 ·rw [if_neg Bool.false_ne_true] at H
  obtain rfl := Option.some.inj H
  go_wp2
  go_ret
  exact ⟨prs, pdr⟩
 rw [if_pos rfl] at H
 replace H := ifp H
 obtain ⟨c5, H⟩ := H
 have aD := decide_eq_true c5
 clear c5
 replace H := ifp H
 obtain ⟨c6, H⟩ := H
 have aE := decide_eq_true c6
 clear c6
 by_cases c7 : (((rd_T48 l0 aa).f2).length : Int) > 30
 ·rw [if_pos c7] at H
  have au : decide (30 < (((rd_T48 l0 aa).f2).length : Int)) = true := decide_eq_true c7
  have av : decide (30 < ((rd_T48 l0 aa).f2).length) = true := decide_eq_true (by omega)
  clear c7
  obtain rfl := Option.some.inj H
  obtain ⟨ay, az, ap, ak, al, ao, ag, ah, ai, aj, ae, af⟩ := dT48 aB.1 aa
  cases ao
  go_wp2
  go_ret
  exact ⟨prs, pdr⟩
 rw [if_neg c7] at H
 have au : decide (30 < (((rd_T48 l0 aa).f2).length : Int)) = false := decide_eq_false c7
 have av : decide (30 < ((rd_T48 l0 aa).f2).length) = false := decide_eq_false (by omega)
 clear c7
 have H' := am H
 clear H
 obtain ⟨ay, az, ap, ak, al, ao, ag, ah, ai, aj, ae, af⟩ := dT48 aB.1 aa
 cases ao
 go_wp2
 go_roundg aF
 case measure => have := aq.1; have := aA.1; omega
 case rel => exact ⟨(wrap64 (aa + 1)), prs, H', ⟨by have := aq.1; have := aA.1; omega⟩, pdr⟩

end Go.Proofs.Yteknagfpiadaiaa.P
