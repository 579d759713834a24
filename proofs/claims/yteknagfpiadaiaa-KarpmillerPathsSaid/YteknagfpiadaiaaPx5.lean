-- LAID BY OUR PROGRAM OVER THE PRINT (xprint.py, part.py): Lean checks it.
import Derived.Test.YteknagfpiadaiaaPx0
namespace Go.Proofs.Yteknagfpiadaiaa.P
open Go.RowKit Go.Proofs.YteknagfpiadaiaaW.PrintWords Go.Proofs.YteknagfpiadaiaaW.PrintLast Go.Proofs.YteknagfpiadaiaaW.PrintMore
attribute [local go_sem] max2_int min2_int max_two min_two max_three min_three max_four min_four   -- for this text's walks alone
set_option linter.unusedVariables false
set_option linter.unusedSimpArgs false

/-! ### r05_Valid: function 59 -/
def r05_Valid.l0 : Nat → List Int → Int → Option (Bool)
 | 0, _, _ => none
 | k + 1, x0, x5 => if x5 < (x0.length : Int) then (if 0 ≤ x5 then (if (rd x0 x5) = (-1) then (r05_Valid.l0 k x0 (wrap64 (x5 + 1))) else (if (rd x0 x5) < 0 then (some false) else (if (rd x0 x5) > 1048576 then (some false) else (r05_Valid.l0 k x0 (wrap64 (x5 + 1)))))) else (none)) else (some true)
def r05_Valid.f (k : Nat) (l0 : List Int) (a1 : Int) : Option (Bool) := if (l0.length : Int) = a1 then (r05_Valid.l0 k l0 0) else (some false)
theorem r05_Valid.mono_l : ∀ k, M2 r05_Valid.l0 k
 | 0 => fun _ _ r h => by simp [r05_Valid.l0] at h
 | k + 1 => by
  have aC := r05_Valid.mono_l k
  ·intro y0 y1
   unfold r05_Valid.l0
   repeat' first | (with_reducible first | apply aC | apply lr | apply ln | apply li | refine lb ?_ fun _ => ?_)
theorem r05_Valid.mono : ∀ a0 a1 k, LeO (r05_Valid.f k a0 a1) (r05_Valid.f (k + 1) a0 a1) := by
 intro a0 a1 k
 have aC := r05_Valid.mono_l k
 unfold r05_Valid.f
 repeat' first | (with_reducible first | apply aC | apply lr | apply ln | apply li | refine lb ?_ fun _ => ?_)
set_option maxHeartbeats 8000000 in
set_option maxRecDepth 100000 in
theorem r05_Valid.calls (k : Nat) (A0 : Option Addr) (c0 : Nat) (l0 : List Int) (a1 : Int) (r : Bool) (w : World) (aF : Kd.C (Kd.int .i64) w A0 l0.length l0) (hc0 : l0.length ≤ c0) (h : r05_Valid.f k l0 a1 = some r) :
  Calls Try.prog 59 #[.slice A0 l0.length c0, .int .i64 a1] w fun e w' => e = .returned (.bool r) ∧ Drawn0 w w' := by
 have aj := am aF
 have aH := am hc0
 clear aF hc0
 have H := h
 unfold r05_Valid.f at H
 clear h
 replace H := ife H
 rcases H with ⟨aq, ar, H⟩ | ⟨aq, ar, H⟩
 rotate_left
 ·obtain rfl := Option.some.inj H
  go_enter Try.func59, Try.ntmps59
  go_wp2
  go_ret
  exact ⟨prs, pdr⟩
 have H' := am H
 clear H
 go_enter Try.func59, Try.ntmps59
 go_wp2
 go_loopg [5] k (fun kq v5 w' => ∃ (aa : Int), v5 = .int .i64 aa ∧ Aside0 (r05_Valid.l0 kq l0 aa = some r) ∧ Aside0 (kq ≤ k) ∧ Drawn0 w w')
 case atStart => exact ⟨(0), prs, H', ⟨Nat.le_refl _⟩, pdr⟩
 clear H'
 try clear aq ar
 obtain ⟨aa, rfl, HA, aw, ⟨m1, rfl⟩⟩ := hrel
 obtain _ | k1 := gk
 ·exact absurd HA.1 (by simp [r05_Valid.l0])
 have H := HA.1
 clear HA
 simp only [r05_Valid.l0] at H
 replace H := ifl H
 rcases H with ⟨ax, H⟩ | ⟨ax, H⟩
 rotate_left
 ·obtain rfl := Option.some.inj H
  go_wp2
  go_ret
  exact ⟨prs, pdr⟩
 replace H := ifp H
 obtain ⟨c5, H⟩ := H
 have aG := decide_eq_true c5
 clear c5
 replace H := ife H
 rcases H with ⟨ay, az, H⟩ | ⟨ay, az, H⟩
 ·have H' := am H
  clear H
  obtain ⟨ao, ap, ab, af, ac⟩ := dint aj.1 aa
  cases af
  go_wp2
  go_roundg k1
  case measure => have := aw.1; omega
  case rel => exact ⟨(wrap64 (aa + 1)), prs, H', ⟨by have := aw.1; omega⟩, pdr⟩
 replace H := ifl H
 rcases H with ⟨aA, H⟩ | ⟨aA, H⟩
 ·obtain rfl := Option.some.inj H
  obtain ⟨ao, ap, ab, af, ac⟩ := dint aj.1 aa
  cases af
  obtain ⟨au, av, ae, ai, ag⟩ := dint aj.1 aa
  obtain rfl : ab = ae := (by injection ai)
  go_wp2
  go_ret
  exact ⟨prs, pdr⟩
 replace H := ifg H
 rcases H with ⟨aB, H⟩ | ⟨aB, H⟩
 ·obtain rfl := Option.some.inj H
  obtain ⟨ao, ap, ab, af, ac⟩ := dint aj.1 aa
  cases af
  obtain ⟨au, av, ae, ai, ag⟩ := dint aj.1 aa
  obtain rfl : ab = ae := (by injection ai)
  obtain ⟨aD, aE, ah, al, ak⟩ := dint aj.1 aa
  obtain rfl : ab = ah := (by injection al)
  go_wp2
  go_ret
  exact ⟨prs, pdr⟩
 have H' := am H
 clear H
 obtain ⟨ao, ap, ab, af, ac⟩ := dint aj.1 aa
 cases af
 obtain ⟨au, av, ae, ai, ag⟩ := dint aj.1 aa
 obtain rfl : ab = ae := (by injection ai)
 obtain ⟨aD, aE, ah, al, ak⟩ := dint aj.1 aa
 obtain rfl : ab = ah := (by injection al)
 go_wp2
 go_roundg k1
 case measure => have := aw.1; omega
 case rel => exact ⟨(wrap64 (aa + 1)), prs, H', ⟨by have := aw.1; omega⟩, pdr⟩

end Go.Proofs.Yteknagfpiadaiaa.P
