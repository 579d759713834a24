-- LAID BY OUR PROGRAM OVER THE PRINT (xprint.py, part.py): Lean checks it.
import Derived.Test.YtnoebjmhimehcaaPx0
import Derived.BigRegion
import Derived.RegionTactic
namespace Go.Proofs.Ytnoebjmhimehcaa.P
open Go.RowKit Go.Proofs.YtnoebjmhimehcaaW.PrintWords Go.Proofs.YtnoebjmhimehcaaW.PrintLast Go.Proofs.YtnoebjmhimehcaaW.PrintMore
attribute [local go_sem] max2_int min2_int max_two min_two max_three min_three max_four min_four   -- for this text's walks alone
set_option linter.unusedVariables false
set_option linter.unusedSimpArgs false

/-! ### r09_Name: function 65 -/
mutual
def r09_Name.j0 : Nat → ByteArray → Bool → Option (Bool)
 | 0, _, _ => none
 | k + 1, x0, x14 => if x14 = true then (some false) else (r09_Name.l0 k x0 0)
def r09_Name.l0 : Nat → ByteArray → Int → Option (Bool)
 | 0, _, _ => none
 | k + 1, x0, x3 => if x3 < (x0.size : Int) then (if 0 ≤ x3 then (if (bt x0 x3) ≥ 97 then (if (bt x0 x3) ≤ 122 then (if (bt x0 x3) ≥ 48 then (if (bt x0 x3) ≤ 57 then (r09_Name.l0 k x0 (wrap64 (x3 + 1))) else (r09_Name.l0 k x0 (wrap64 (x3 + 1)))) else (r09_Name.l0 k x0 (wrap64 (x3 + 1)))) else (if (bt x0 x3) ≥ 48 then (if (bt x0 x3) ≤ 57 then (if ((bt x0 x3) = 95) then (r09_Name.l0 k x0 (wrap64 (x3 + 1))) else (if x3 = 0 then (some false) else (r09_Name.l0 k x0 (wrap64 (x3 + 1))))) else (if ((bt x0 x3) = 95) then (r09_Name.l0 k x0 (wrap64 (x3 + 1))) else (if ((bt x0 x3) = 46) then (if x3 = 0 then (some false) else (r09_Name.l0 k x0 (wrap64 (x3 + 1)))) else (some false)))) else (if ((bt x0 x3) = 95) then (r09_Name.l0 k x0 (wrap64 (x3 + 1))) else (if ((bt x0 x3) = 46) then (if x3 = 0 then (some false) else (r09_Name.l0 k x0 (wrap64 (x3 + 1)))) else (some false))))) else (if (bt x0 x3) ≥ 48 then (if (bt x0 x3) ≤ 57 then (if ((bt x0 x3) = 95) then (r09_Name.l0 k x0 (wrap64 (x3 + 1))) else (if x3 = 0 then (some false) else (r09_Name.l0 k x0 (wrap64 (x3 + 1))))) else (if ((bt x0 x3) = 95) then (r09_Name.l0 k x0 (wrap64 (x3 + 1))) else (if ((bt x0 x3) = 46) then (if x3 = 0 then (some false) else (r09_Name.l0 k x0 (wrap64 (x3 + 1)))) else (some false)))) else (if ((bt x0 x3) = 95) then (r09_Name.l0 k x0 (wrap64 (x3 + 1))) else (if ((bt x0 x3) = 46) then (if x3 = 0 then (some false) else (r09_Name.l0 k x0 (wrap64 (x3 + 1)))) else (some false))))) else (none)) else (some true)
end
def r09_Name.f (k : Nat) (a0 : ByteArray) : Option (Bool) := if (a0.size : Int) < 1 then (r09_Name.j0 k a0 true) else (r09_Name.j0 k a0 (decide ((a0.size : Int) > 16)))
theorem r09_Name.mono_l : ∀ k, M2 r09_Name.j0 k ∧ M2 r09_Name.l0 k
 | 0 => ⟨fun _ _ r h => by simp [r09_Name.j0] at h, fun _ _ r h => by simp [r09_Name.l0] at h⟩
 | k + 1 => by
  obtain ⟨a3, a4⟩ := r09_Name.mono_l k
  refine ⟨?_, ?_⟩ <;> dsimp only [M2] <;> intros <;> (first | unfold r09_Name.j0 | unfold r09_Name.l0) <;> repeat' first | (with_reducible first | apply a3 | apply a4 | apply lr | apply ln | apply li | refine lb ?_ fun _ => ?_)
theorem r09_Name.mono : ∀ a0 k, LeO (r09_Name.f k a0) (r09_Name.f (k + 1) a0) := by
 intro a0 k
 obtain ⟨a3, a4⟩ := r09_Name.mono_l k
 unfold r09_Name.f
 repeat' first | (with_reducible first | apply a3 | apply a4 | apply lr | apply ln | apply li | refine lb ?_ fun _ => ?_)
set_option maxHeartbeats 8000000 in
set_option maxRecDepth 100000 in
theorem r09_Name.calls (k : Nat) (a0 : ByteArray) (r : Bool) (w : World) (h : r09_Name.f k a0 = some r) :
  Calls Try.prog 65 #[.string a0] w fun e w' => e = .returned (.bool r) ∧ Drawn0 w w' := by
 have H := h
 unfold r09_Name.f at H
 clear h
 have aY := am H
 clear H
 go_enter Try.func65, Try.ntmps65
 go_upto_region 1 with (fail)
 go_cut [14] (fun a7 wc => ∃ (kq : Nat) (ag : Bool), a7 = .bool ag ∧ Aside0 (r09_Name.j0 kq a0 ag = some r) ∧ Aside0 (kq ≤ k) ∧ Drawn0 w wc)
 case first =>
  have H := aY.1
  clear aY
  by_cases c3 : (a0.size : Int) < 1
  ·rw [if_pos c3] at H
   have af : decide ((a0.size : Int) < 1) = true := decide_eq_true c3
   have ah : decide (a0.size < 1) = true := decide_eq_true (by omega)
   clear c3
   (first | rw [af] | (simp only [i64_w, i32_w]; rw [af]) | skip)
   have H' := am H
   clear H
   go_wp2
   go_meet
   case rel => exact ⟨_, (true), prs, H', ⟨by first | omega | exact Nat.le_refl _⟩, pdr⟩
  rw [if_neg c3] at H
  have af : decide ((a0.size : Int) < 1) = false := decide_eq_false c3
  have ah : decide (a0.size < 1) = false := decide_eq_false (by omega)
  clear c3
  (first | rw [af] | (simp only [i64_w, i32_w]; rw [af]) | skip)
  have H' := am H
  clear H
  go_wp2
  go_meet
  case rel => exact ⟨_, (decide ((a0.size : Int) > 16)), prs, H', ⟨by first | omega | exact Nat.le_refl _⟩, pdr⟩
 clear aY
 try clear c3 af ah
 obtain ⟨kq, ag, rfl, HA, ab, ⟨a8, rfl⟩⟩ := hcut
 obtain _ | a5 := kq
 ·exact absurd HA.1 (by simp [r09_Name.j0])
 have H := HA.1
 clear HA
 simp only [r09_Name.j0] at H
 cases ag
 rotate_left
 ·rw [if_pos rfl] at H
  obtain rfl := Option.some.inj H
  go_wp2
  go_ret
  exact ⟨prs, pdr⟩
 rw [if_neg Bool.false_ne_true] at H
 have H' := am H
 clear H
 go_wp2
 go_loopg [3] a5 (fun kq v3 w' => ∃ (aa : Int), v3 = .int .i64 aa ∧ Aside0 (r09_Name.l0 kq a0 aa = some r) ∧ Aside0 (kq ≤ a5) ∧ Drawn0 w w')
 case atStart => exact ⟨(0), prs, H', ⟨Nat.le_refl _⟩, pdr⟩
 clear H'
 try clear c3 af ah
 obtain ⟨aa, rfl, HA, ac, ⟨m2, rfl⟩⟩ := hrel
 obtain _ | k2 := gk
 ·exact absurd HA.1 (by simp [r09_Name.l0])
 have H := HA.1
 clear HA
 simp only [r09_Name.l0] at H
 replace H := ifl H
 rcases H with ⟨aZ, H⟩ | ⟨aZ, H⟩
 rotate_left
 ·obtain rfl := Option.some.inj H
  go_wp2
  go_ret
  exact ⟨prs, pdr⟩
 replace H := ifp H
 obtain ⟨c6, H⟩ := H
 have a6 := decide_eq_true c6
 clear c6
 replace H := ifh H
 rcases H with ⟨a1, H⟩ | ⟨a1, H⟩
 rotate_left
 ·replace H := ifh H
  rcases H with ⟨aG, H⟩ | ⟨aG, H⟩
  rotate_left
  ·replace H := ife H
   rcases H with ⟨aS, aT, H⟩ | ⟨aS, aT, H⟩
   ·have H' := am H
    clear H
    obtain ⟨p7, q7, ae⟩ := dbt a0 aa
    go_wp2
    go_roundg k2
    case measure => have := ab.1; have := ac.1; omega
    case rel => exact ⟨(wrap64 (aa + 1)), prs, H', ⟨by have := ab.1; have := ac.1; omega⟩, pdr⟩
   replace H := ife H
   rcases H with ⟨aU, aV, H⟩ | ⟨aU, aV, H⟩
   rotate_left
   ·obtain rfl := Option.some.inj H
    obtain ⟨p7, q7, ae⟩ := dbt a0 aa
    go_wp2
    go_ret
    exact ⟨prs, pdr⟩
   replace H := ife H
   rcases H with ⟨aW, aX, H⟩ | ⟨aW, aX, H⟩
   ·obtain rfl := Option.some.inj H
    obtain ⟨p7, q7, ae⟩ := dbt a0 aa
    go_wp2
    go_ret
    exact ⟨prs, pdr⟩
   have H' := am H
   clear H
   obtain ⟨p7, q7, ae⟩ := dbt a0 aa
   go_wp2
   go_roundg k2
   case measure => have := ab.1; have := ac.1; omega
   case rel => exact ⟨(wrap64 (aa + 1)), prs, H', ⟨by have := ab.1; have := ac.1; omega⟩, pdr⟩
  replace H := ifl H
  rcases H with ⟨aH, H⟩ | ⟨aH, H⟩
  ·replace H := ife H
   rcases H with ⟨aI, aJ, H⟩ | ⟨aI, aJ, H⟩
   ·have H' := am H
    clear H
    obtain ⟨p7, q7, ae⟩ := dbt a0 aa
    go_wp2
    go_roundg k2
    case measure => have := ab.1; have := ac.1; omega
    case rel => exact ⟨(wrap64 (aa + 1)), prs, H', ⟨by have := ab.1; have := ac.1; omega⟩, pdr⟩
   replace H := ife H
   rcases H with ⟨aK, aL, H⟩ | ⟨aK, aL, H⟩
   ·obtain rfl := Option.some.inj H
    obtain ⟨p7, q7, ae⟩ := dbt a0 aa
    go_wp2
    go_ret
    exact ⟨prs, pdr⟩
   have H' := am H
   clear H
   obtain ⟨p7, q7, ae⟩ := dbt a0 aa
   go_wp2
   go_roundg k2
   case measure => have := ab.1; have := ac.1; omega
   case rel => exact ⟨(wrap64 (aa + 1)), prs, H', ⟨by have := ab.1; have := ac.1; omega⟩, pdr⟩
  replace H := ife H
  rcases H with ⟨aM, aN, H⟩ | ⟨aM, aN, H⟩
  ·have H' := am H
   clear H
   obtain ⟨p7, q7, ae⟩ := dbt a0 aa
   go_wp2
   go_roundg k2
   case measure => have := ab.1; have := ac.1; omega
   case rel => exact ⟨(wrap64 (aa + 1)), prs, H', ⟨by have := ab.1; have := ac.1; omega⟩, pdr⟩
  replace H := ife H
  rcases H with ⟨aO, aP, H⟩ | ⟨aO, aP, H⟩
  rotate_left
  ·obtain rfl := Option.some.inj H
   obtain ⟨p7, q7, ae⟩ := dbt a0 aa
   go_wp2
   go_ret
   exact ⟨prs, pdr⟩
  replace H := ife H
  rcases H with ⟨aQ, aR, H⟩ | ⟨aQ, aR, H⟩
  ·obtain rfl := Option.some.inj H
   obtain ⟨p7, q7, ae⟩ := dbt a0 aa
   go_wp2
   go_ret
   exact ⟨prs, pdr⟩
  have H' := am H
  clear H
  obtain ⟨p7, q7, ae⟩ := dbt a0 aa
  go_wp2
  go_roundg k2
  case measure => have := ab.1; have := ac.1; omega
  case rel => exact ⟨(wrap64 (aa + 1)), prs, H', ⟨by have := ab.1; have := ac.1; omega⟩, pdr⟩
 replace H := ifl H
 rcases H with ⟨a2, H⟩ | ⟨a2, H⟩
 ·replace H := ifh H
  rcases H with ⟨ai, H⟩ | ⟨ai, H⟩
  rotate_left
  ·have H' := am H
   clear H
   obtain ⟨p7, q7, ae⟩ := dbt a0 aa
   go_wp2
   go_roundg k2
   case measure => have := ab.1; have := ac.1; omega
   case rel => exact ⟨(wrap64 (aa + 1)), prs, H', ⟨by have := ab.1; have := ac.1; omega⟩, pdr⟩
  replace H := ifl H
  rcases H with ⟨aj, H⟩ | ⟨aj, H⟩
  ·have H' := am H
   clear H
   obtain ⟨p7, q7, ae⟩ := dbt a0 aa
   go_wp2
   go_roundg k2
   case measure => have := ab.1; have := ac.1; omega
   case rel => exact ⟨(wrap64 (aa + 1)), prs, H', ⟨by have := ab.1; have := ac.1; omega⟩, pdr⟩
  have H' := am H
  clear H
  obtain ⟨p7, q7, ae⟩ := dbt a0 aa
  go_wp2
  go_roundg k2
  case measure => have := ab.1; have := ac.1; omega
  case rel => exact ⟨(wrap64 (aa + 1)), prs, H', ⟨by have := ab.1; have := ac.1; omega⟩, pdr⟩
 replace H := ifh H
 rcases H with ⟨ak, H⟩ | ⟨ak, H⟩
 rotate_left
 ·replace H := ife H
  rcases H with ⟨aA, aB, H⟩ | ⟨aA, aB, H⟩
  ·have H' := am H
   clear H
   obtain ⟨p7, q7, ae⟩ := dbt a0 aa
   go_wp2
   go_roundg k2
   case measure => have := ab.1; have := ac.1; omega
   case rel => exact ⟨(wrap64 (aa + 1)), prs, H', ⟨by have := ab.1; have := ac.1; omega⟩, pdr⟩
  replace H := ife H
  rcases H with ⟨aC, aD, H⟩ | ⟨aC, aD, H⟩
  rotate_left
  ·obtain rfl := Option.some.inj H
   obtain ⟨p7, q7, ae⟩ := dbt a0 aa
   go_wp2
   go_ret
   exact ⟨prs, pdr⟩
  replace H := ife H
  rcases H with ⟨aE, aF, H⟩ | ⟨aE, aF, H⟩
  ·obtain rfl := Option.some.inj H
   obtain ⟨p7, q7, ae⟩ := dbt a0 aa
   go_wp2
   go_ret
   exact ⟨prs, pdr⟩
  have H' := am H
  clear H
  obtain ⟨p7, q7, ae⟩ := dbt a0 aa
  go_wp2
  go_roundg k2
  case measure => have := ab.1; have := ac.1; omega
  case rel => exact ⟨(wrap64 (aa + 1)), prs, H', ⟨by have := ab.1; have := ac.1; omega⟩, pdr⟩
 replace H := ifl H
 rcases H with ⟨al, H⟩ | ⟨al, H⟩
 ·replace H := ife H
  rcases H with ⟨ao, ap, H⟩ | ⟨ao, ap, H⟩
  ·have H' := am H
   clear H
   obtain ⟨p7, q7, ae⟩ := dbt a0 aa
   go_wp2
   go_roundg k2
   case measure => have := ab.1; have := ac.1; omega
   case rel => exact ⟨(wrap64 (aa + 1)), prs, H', ⟨by have := ab.1; have := ac.1; omega⟩, pdr⟩
  replace H := ife H
  rcases H with ⟨aq, ar, H⟩ | ⟨aq, ar, H⟩
  ·obtain rfl := Option.some.inj H
   obtain ⟨p7, q7, ae⟩ := dbt a0 aa
   go_wp2
   go_ret
   exact ⟨prs, pdr⟩
  have H' := am H
  clear H
  obtain ⟨p7, q7, ae⟩ := dbt a0 aa
  go_wp2
  go_roundg k2
  case measure => have := ab.1; have := ac.1; omega
  case rel => exact ⟨(wrap64 (aa + 1)), prs, H', ⟨by have := ab.1; have := ac.1; omega⟩, pdr⟩
 replace H := ife H
 rcases H with ⟨au, av, H⟩ | ⟨au, av, H⟩
 ·have H' := am H
  clear H
  obtain ⟨p7, q7, ae⟩ := dbt a0 aa
  go_wp2
  go_roundg k2
  case measure => have := ab.1; have := ac.1; omega
  case rel => exact ⟨(wrap64 (aa + 1)), prs, H', ⟨by have := ab.1; have := ac.1; omega⟩, pdr⟩
 replace H := ife H
 rcases H with ⟨aw, ax, H⟩ | ⟨aw, ax, H⟩
 rotate_left
 ·obtain rfl := Option.some.inj H
  obtain ⟨p7, q7, ae⟩ := dbt a0 aa
  go_wp2
  go_ret
  exact ⟨prs, pdr⟩
 replace H := ife H
 rcases H with ⟨ay, az, H⟩ | ⟨ay, az, H⟩
 ·obtain rfl := Option.some.inj H
  obtain ⟨p7, q7, ae⟩ := dbt a0 aa
  go_wp2
  go_ret
  exact ⟨prs, pdr⟩
 have H' := am H
 clear H
 obtain ⟨p7, q7, ae⟩ := dbt a0 aa
 go_wp2
 go_roundg k2
 case measure => have := ab.1; have := ac.1; omega
 case rel => exact ⟨(wrap64 (aa + 1)), prs, H', ⟨by have := ab.1; have := ac.1; omega⟩, pdr⟩

/-! ### r09_place: function 66 -/
mutual
def r09_place.l0 : Nat → Int → Int → ByteArray → List (S52) → List (S48) → ByteArray → Int → Int → Option (Int)
 | 0, _, _, _, _, _, _, _, _ => none
 | k + 1, x1, x6, aL, av, aM, al, ak, ag => if x6 < x1 then (if 0 ≤ x6 then (if x6 < (av.length : Int) then (if ((rd_T52 av x6).f0).toList = al.toList then (some 6) else (r09_place.l0 k x1 (wrap64 (x6 + 1)) aL av aM al ak ag)) else (none)) else (none)) else (if ag < 0 then (r09_place.j1 k true al ak ag) else (r09_place.j1 k (decide (ag > 1048576)) al ak ag))
def r09_place.j1 : Nat → Bool → ByteArray → Int → Int → Option (Int)
 | 0, _, _, _, _ => none
 | k + 1, bU, al, ak, ag => if bU = true then (some 1) else (if ak < 0 then (some 10) else (if ak > 1048576 then (some 10) else (if ag = 0 then (some 0) else (if ak > ag then (some 10) else (some 0)))))
end
def r09_place.f (k : Nat) (ay : ByteArray) (ac : List (S52)) (ap : List (S48)) (a1 : Int) : Option (Int) := if 0 ≤ a1 then (if a1 < (ac.length : Int) then ((r09_Name.f k ((rd_T52 ac a1).f0)).bind fun aY => (if aY = true then (r09_place.l0 k a1 0 ay ac ap ((rd_T52 ac a1).f0) ((rd_T52 ac a1).f1) ((rd_T52 ac a1).f2)) else (some 5))) else (none)) else (none)
theorem r09_place.mono_l : ∀ k, M8 r09_place.l0 k ∧ M4 r09_place.j1 k
 | 0 => ⟨fun _ _ _ _ _ _ _ _ r h => by simp [r09_place.l0] at h, fun _ _ _ _ r h => by simp [r09_place.j1] at h⟩
 | k + 1 => by
  obtain ⟨bl, bm⟩ := r09_place.mono_l k
  refine ⟨?_, ?_⟩ <;> dsimp only [M4, M8] <;> intros <;> (first | unfold r09_place.l0 | unfold r09_place.j1) <;> repeat' first | (with_reducible first | apply bl | apply bm | apply r09_Name.mono | apply lr | apply ln | apply li | refine lb ?_ fun _ => ?_)
theorem r09_place.mono : ∀ a0 a1 a2 a3 k, LeO (r09_place.f k a0 a1 a2 a3) (r09_place.f (k + 1) a0 a1 a2 a3) := by
 intro a0 a1 a2 a3 k
 obtain ⟨bl, bm⟩ := r09_place.mono_l k
 unfold r09_place.f
 repeat' first | (with_reducible first | apply bl | apply bm | apply r09_Name.mono | apply lr | apply ln | apply li | refine lb ?_ fun _ => ?_)
set_option maxHeartbeats 8000000 in
set_option maxRecDepth 100000 in
theorem r09_place.calls (k : Nat) (ay : ByteArray) (aZ : Option Addr) (aJ : Nat) (ac : List (S52)) (aI : Option Addr) (aK : Nat) (ap : List (S48)) (a1 : Int) (r : Int) (w : World) (aT : Kd.C k52 w aZ ac.length ac) (aR : ac.length ≤ aJ) (aU : Kd.C k48 w aI ap.length ap) (aS : ap.length ≤ aK) (h : r09_place.f k ay ac ap a1 = some r) :
  Calls Try.prog 66 #[.agg #[.string ay, .slice aZ ac.length aJ, .slice aI ap.length aK], .int .i64 a1] w fun e w' => e = .returned (.int .i64 r) ∧ Below w.heap.size w w' := by
 have bQ := Try.underlying25
 have bR := Try.underlying52
 have az := am aT
 have bn := am aR
 clear aT aR
 have bp := am aU
 have bo := am aS
 clear aU aS
 have HB := am (Below.refl w.heap.size w)
 have H := h
 unfold r09_place.f at H
 clear h
 replace H := ifp H
 obtain ⟨c3, H⟩ := H
 have bd := decide_eq_true c3
 clear c3
 replace H := ifp H
 obtain ⟨c4, H⟩ := H
 have bf := decide_eq_true c4
 clear c4
 replace H := bnd H
 obtain ⟨aY, A5, H⟩ := H
 (try dsimp only at H)
 cases aY
 ·rw [if_neg Bool.false_ne_true] at H
  obtain rfl := Option.some.inj H
  go_enter Try.func66, Try.ntmps66
  iterate 4 (try go_wp2_with (first | ((with_reducible refine gate_dst (N := 2) rfl ?_); refine box_ev ?_; intro aG hg b1 hbox hb; have ae := am hbox; have aD := gwl hg; have a4 := aD; replace HB := bsl hb; clear hb hbox hg; have b8 := cf3 ae.1; have ar : 0 ≤ (a1 : Int) := dq; have au : a1 < (ac.length : Int) := dq; obtain ⟨ax, aW, ah, ai, aj⟩ := at_T52 az.1 a1 ar au; cases aW; replace ah := cbl HB.1 ah; replace ai := cbl HB.1 ai; replace aj := cbl HB.1 aj; replace ar := eq_true ar; replace au := eq_true au) | ((with_reducible refine gate_dst (N := 5) rfl ?_); refine box_ev (N := 5) (cs := #[.string (⟨#[]⟩ : ByteArray), .int .i64 0, .int .i64 0]) (t := 52) ?_; intro aH hg b2 hbox hb; have af := am hbox; have aE := gwb hg; have a5 := aE; have aa := nlt hg ae; have ab := ngt hg ae; replace ae := bbh ae hb; replace HB := bst hb; clear hb hbox hg; have bC := ab.1; have bN := aa.1; have b9 := cf3 af.1) | (go_at_call 65; (with_reducible refine (r09_Name.calls k ((rd_T52 ac a1).f0) false _ A5.1).mono ?_); rintro e w' ⟨rfl, ⟨nd, rfl⟩⟩; (try first | exact ⟨rfl, _, World.drewN_drewN _ _ _⟩ | exact ⟨rfl, _, Eq.trans (World.drewN_drewN _ _ _) (congrArg (World.drewN _) (Nat.add_assoc _ _ _))⟩))); try go_quiet (first | (go_at_call 65; (with_reducible refine (r09_Name.calls k ((rd_T52 ac a1).f0) false _ A5.1).mono ?_); rintro e w' ⟨rfl, ⟨nd, rfl⟩⟩; (try first | exact ⟨rfl, _, World.drewN_drewN _ _ _⟩ | exact ⟨rfl, _, Eq.trans (World.drewN_drewN _ _ _) (congrArg (World.drewN _) (Nat.add_assoc _ _ _))⟩))))
  go_ret
  exact ⟨per, pbg⟩
 rw [if_pos rfl] at H
 have H' := am H
 clear H
 go_enter Try.func66, Try.ntmps66
 iterate 4 (try go_wp2_with (first | ((with_reducible refine gate_dst (N := 2) rfl ?_); refine box_ev ?_; intro aG hg w7 hbox hb; have ae := am hbox; have aD := gwl hg; have a4 := aD; replace HB := bsl hb; clear hb hbox hg; have z8 := cf3 ae.1; have ar : 0 ≤ (a1 : Int) := dq; have au : a1 < (ac.length : Int) := dq; obtain ⟨ax, aW, ah, ai, aj⟩ := at_T52 az.1 a1 ar au; cases aW; replace ah := cbl HB.1 ah; replace ai := cbl HB.1 ai; replace aj := cbl HB.1 aj; replace ar := eq_true ar; replace au := eq_true au) | ((with_reducible refine gate_dst (N := 5) rfl ?_); refine box_ev (N := 5) (cs := #[.string (⟨#[]⟩ : ByteArray), .int .i64 0, .int .i64 0]) (t := 52) ?_; intro aH hg w9 hbox hb; have af := am hbox; have aE := gwb hg; have a5 := aE; have aa := nlt hg ae; have ab := ngt hg ae; replace ae := bbh ae hb; replace HB := bst hb; clear hb hbox hg; have bq := ab.1; have bD := aa.1; have bO := cf3 af.1) | (go_at_call 65; (with_reducible refine (r09_Name.calls k ((rd_T52 ac a1).f0) true _ A5.1).mono ?_); rintro e w' ⟨rfl, ⟨nd, rfl⟩⟩; (try first | exact ⟨rfl, _, World.drewN_drewN _ _ _⟩ | exact ⟨rfl, _, Eq.trans (World.drewN_drewN _ _ _) (congrArg (World.drewN _) (Nat.add_assoc _ _ _))⟩))); try go_quiet (first | (go_at_call 65; (with_reducible refine (r09_Name.calls k ((rd_T52 ac a1).f0) true _ A5.1).mono ?_); rintro e w' ⟨rfl, ⟨nd, rfl⟩⟩; (try first | exact ⟨rfl, _, World.drewN_drewN _ _ _⟩ | exact ⟨rfl, _, Eq.trans (World.drewN_drewN _ _ _) (congrArg (World.drewN _) (Nat.add_assoc _ _ _))⟩))))
 go_loopg [6] k (fun kq v6 w' => ∃ (ao : Int), v6 = .int .i64 ao ∧ Aside0 (r09_place.l0 kq a1 ao ay ac ap ((rd_T52 ac a1).f0) ((rd_T52 ac a1).f1) ((rd_T52 ac a1).f2) = some r) ∧ Aside0 (kq ≤ k) ∧ Aside0 (w'.heap[aG]? = some (.cells #[.string ay, (.slice (some ax) ac.length aJ), (.slice aI ap.length aK)] 25 (0, 0))) ∧ Aside0 (w'.heap[aH]? = some (.cells #[.string ((rd_T52 ac a1).f0), .int .i64 ((rd_T52 ac a1).f1), .int .i64 ((rd_T52 ac a1).f2)] 52 (0, 0))) ∧ Aside0 (Below w.heap.size w w'))
 case atStart => exact ⟨(0), prs, H', ⟨Nat.le_refl _⟩, ⟨by (with_reducible repeat (first | refine blk_drewN ?_ _ | refine blk_drew ?_ | refine blk_alloc ?_ _)); refine bf3 ?_ aa.1; exact pbk ae.1⟩, ⟨by (with_reducible repeat (first | refine blk_drewN ?_ _ | refine blk_drew ?_ | refine blk_alloc ?_ _)); exact bp3 (pbk af.1)⟩, ⟨pbg⟩⟩
 clear H'
 try clear c3 bd c4 bf bO z8 ah ai aj ar au
 obtain ⟨ao, rfl, HA, bi, ae, af, HB⟩ := hrel
 obtain _ | k1 := gk
 ·exact absurd HA.1 (by simp [r09_place.l0])
 have H := HA.1
 clear HA
 simp only [r09_place.l0] at H
 replace H := ifl H
 rcases H with ⟨aN, H⟩ | ⟨aN, H⟩
 ·replace H := ifp H
  obtain ⟨bj, H⟩ := H
  have a6 := decide_eq_true bj
  clear bj
  replace H := ifp H
  obtain ⟨bk, H⟩ := H
  have a7 := decide_eq_true bk
  clear bk
  by_cases aO : ((rd_T52 ac ao).f0).toList = ((rd_T52 ac a1).f0).toList
  ·rw [if_pos aO] at H
   have aP : (((rd_T52 ac ao).f0).toList == ((rd_T52 ac a1).f0).toList) = true := beq_iff_eq.mpr aO
   have aQ : (((rd_T52 ac ao).f0).toList != ((rd_T52 ac a1).f0).toList) = false := bne_eq_false_iff_eq.mpr aO
   clear aO
   obtain rfl := Option.some.inj H
   have br := aa.1
   have bE := ab.1
   have bV := cf3 ae.1
   obtain ⟨bg, bh, aF, aX, aA, aB, aC⟩ := bT52 az.1 HB.1 ao
   obtain rfl : ax = aF := (by injection aX)
   have bW := cf3 af.1
   go_wp2
   repeat (go_quiet (fail); try go_wp2)
   go_ret
   exact ⟨per, pbg⟩
  rw [if_neg aO] at H
  have aP : (((rd_T52 ac ao).f0).toList == ((rd_T52 ac a1).f0).toList) = false := beq_eq_false_iff_ne.mpr aO
  have aQ : (((rd_T52 ac ao).f0).toList != ((rd_T52 ac a1).f0).toList) = true := bne_iff_ne.mpr aO
  have H' := am H
  clear H
  have bs := aa.1
  have bF := ab.1
  have bX := cf3 ae.1
  obtain ⟨bg, bh, aF, aX, aA, aB, aC⟩ := bT52 az.1 HB.1 ao
  obtain rfl : ax = aF := (by injection aX)
  have bY := cf3 af.1
  go_wp2
  repeat (go_quiet (fail); try go_wp2)
  go_roundg k1
  case measure => have := bi.1; omega
  case rel => exact ⟨(wrap64 (ao + 1)), prs, H', ⟨by have := bi.1; omega⟩, ⟨pbk ae.1⟩, ⟨pbk af.1⟩, ⟨pbg⟩⟩
 have aV := am H
 clear H
 go_upto_region 9 with (fail)
 repeat (go_quiet (fail); go_upto_region 9 with (fail))
 go_cut [37] (fun bT wc => ∃ (kq : Nat) (aw : Bool), bT = .bool aw ∧ Aside0 (r09_place.j1 kq aw ((rd_T52 ac a1).f0) ((rd_T52 ac a1).f1) ((rd_T52 ac a1).f2) = some r) ∧ Aside0 (kq ≤ k1) ∧ Aside0 (wc.heap[aG]? = some (.cells #[.string ay, (.slice (some ax) ac.length aJ), (.slice aI ap.length aK)] 25 (0, 0))) ∧ Aside0 (wc.heap[aH]? = some (.cells #[.string ((rd_T52 ac a1).f0), .int .i64 ((rd_T52 ac a1).f1), .int .i64 ((rd_T52 ac a1).f2)] 52 (0, 0))) ∧ Aside0 (Below w.heap.size w wc))
 case first =>
  have H := aV.1
  clear aV
  replace H := ifl H
  rcases H with ⟨aq, H⟩ | ⟨aq, H⟩
  ·(first | rw [aq] | (simp only [i64_w, i32_w]; rw [aq]) | skip)
   have H' := am H
   clear H
   have bu := ab.1
   have bG := aa.1
   have z25 := cf3 af.1
   go_wp2
   repeat (go_quiet (fail); try go_wp2)
   go_meet
   case rel => exact ⟨_, (true), prs, H', ⟨by have := bi.1; first | omega | exact Nat.le_refl _⟩, ⟨pbk ae.1⟩, ⟨pbk af.1⟩, ⟨pbg⟩⟩
  (first | rw [aq] | (simp only [i64_w, i32_w]; rw [aq]) | skip)
  have H' := am H
  clear H
  have bv := ab.1
  have bH := aa.1
  have bZ := cf3 af.1
  go_wp2
  repeat (go_quiet (fail); try go_wp2)
  go_meet
  case rel => exact ⟨_, (decide (((rd_T52 ac a1).f2) > 1048576)), prs, H', ⟨by have := bi.1; first | omega | exact Nat.le_refl _⟩, ⟨pbk ae.1⟩, ⟨pbk af.1⟩, ⟨pbg⟩⟩
 clear aV
 try clear c3 bd c4 bf c6 aN bj a6 bk a7 aO aP aQ b0 aq bO bV bW bX bY z25 bZ z8 ah ai aj aA aB aC ar bg au bh
 obtain ⟨kq, aw, rfl, HA, bP, ae, af, HB⟩ := hcut
 obtain _ | bS := kq
 ·exact absurd HA.1 (by simp [r09_place.j1])
 have H := HA.1
 clear HA
 simp only [r09_place.j1] at H
 cases aw
 rotate_left
 ·rw [if_pos rfl] at H
  obtain rfl := Option.some.inj H
  go_wp2
  repeat (go_quiet (fail); try go_wp2)
  go_ret
  exact ⟨per, pbg⟩
 rw [if_neg Bool.false_ne_true] at H
 replace H := ifl H
 rcases H with ⟨a8, H⟩ | ⟨a8, H⟩
 ·obtain rfl := Option.some.inj H
  have bw := ab.1
  have bI := aa.1
  have b3 := cf3 af.1
  go_wp2
  repeat (go_quiet (fail); try go_wp2)
  go_ret
  exact ⟨per, pbg⟩
 replace H := ifg H
 rcases H with ⟨a9, H⟩ | ⟨a9, H⟩
 ·obtain rfl := Option.some.inj H
  have bx := ab.1
  have bJ := aa.1
  have b4 := cf3 af.1
  go_wp2
  repeat (go_quiet (fail); try go_wp2)
  go_ret
  exact ⟨per, pbg⟩
 replace H := ife H
 rcases H with ⟨ba, bb, H⟩ | ⟨ba, bb, H⟩
 ·obtain rfl := Option.some.inj H
  have bz := ab.1
  have bK := aa.1
  have b5 := cf3 af.1
  go_wp2
  repeat (go_quiet (fail); try go_wp2)
  go_ret
  exact ⟨per, pbg⟩
 replace H := ifg H
 rcases H with ⟨bc, H⟩ | ⟨bc, H⟩
 ·obtain rfl := Option.some.inj H
  have bA := ab.1
  have bL := aa.1
  have b6 := cf3 af.1
  go_wp2
  repeat (go_quiet (fail); try go_wp2)
  go_ret
  exact ⟨per, pbg⟩
 obtain rfl := Option.some.inj H
 have bB := ab.1
 have bM := aa.1
 have b7 := cf3 af.1
 go_wp2
 repeat (go_quiet (fail); try go_wp2)
 go_ret
 exact ⟨per, pbg⟩

/-! ### r09_arcs: function 78 -/
mutual
def r09_arcs.l0 : Nat → List (S55) → Int → ByteArray → List (S52) → List (S48) → Option (Int)
 | 0, _, _, _, _, _ => none
 | k + 1, x1, x5, ac, aa, ae => if x5 < (x1.length : Int) then (if 0 ≤ x5 then (if ((rd_T55 x1 x5).f0) < 0 then (r09_arcs.j1 k x1 x5 true ac aa ae) else (r09_arcs.j1 k x1 x5 (decide (((rd_T55 x1 x5).f0) ≥ (aa.length : Int))) ac aa ae)) else (none)) else (some 0)
def r09_arcs.j1 : Nat → List (S55) → Int → Bool → ByteArray → List (S52) → List (S48) → Option (Int)
 | 0, _, _, _, _, _, _ => none
 | k + 1, x1, x5, bU, ac, aa, ae => if bU = true then (some 7) else (if x5 > 0 then (if 0 ≤ x5 then (if x5 < (x1.length : Int) then (if 0 ≤ (wrap64 (x5 - 1)) then (if (wrap64 (x5 - 1)) < (x1.length : Int) then (r09_arcs.j2 k x1 x5 (decide (((rd_T55 x1 x5).f0) ≤ ((rd_T55 x1 (wrap64 (x5 - 1))).f0))) ac aa ae) else (none)) else (none)) else (none)) else (none)) else (r09_arcs.j2 k x1 x5 false ac aa ae))
def r09_arcs.j2 : Nat → List (S55) → Int → Bool → ByteArray → List (S52) → List (S48) → Option (Int)
 | 0, _, _, _, _, _, _ => none
 | k + 1, x1, x5, bV, ac, aa, ae => if bV = true then (some 8) else (if 0 ≤ x5 then (if x5 < (x1.length : Int) then (if ((rd_T55 x1 x5).f1) < 1 then (some 9) else (if ((rd_T55 x1 x5).f1) > 99 then (some 9) else (r09_arcs.l0 k x1 (wrap64 (x5 + 1)) ac aa ae))) else (none)) else (none))
end
def r09_arcs.f (k : Nat) (ai : ByteArray) (af : List (S52)) (ah : List (S48)) (l1 : List (S55)) : Option (Int) := r09_arcs.l0 k l1 0 ai af ah
theorem r09_arcs.mono_l : ∀ k, M5 r09_arcs.l0 k ∧ M6 r09_arcs.j1 k ∧ M6 r09_arcs.j2 k
 | 0 => ⟨fun _ _ _ _ _ r h => by simp [r09_arcs.l0] at h, fun _ _ _ _ _ _ r h => by simp [r09_arcs.j1] at h, fun _ _ _ _ _ _ r h => by simp [r09_arcs.j2] at h⟩
 | k + 1 => by
  obtain ⟨bu, bv, bw⟩ := r09_arcs.mono_l k
  refine ⟨?_, ?_, ?_⟩ <;> dsimp only [M5, M6] <;> intros <;> (first | unfold r09_arcs.l0 | unfold r09_arcs.j1 | unfold r09_arcs.j2) <;> repeat' first | (with_reducible first | apply bu | apply bv | apply bw | apply lr | apply ln | apply li | refine lb ?_ fun _ => ?_)
theorem r09_arcs.mono : ∀ a0 a1 a2 a3 k, LeO (r09_arcs.f k a0 a1 a2 a3) (r09_arcs.f (k + 1) a0 a1 a2 a3) := by
 intro a0 a1 a2 a3 k
 obtain ⟨bu, bv, bw⟩ := r09_arcs.mono_l k
 unfold r09_arcs.f
 repeat' first | (with_reducible first | apply bu | apply bv | apply bw | apply lr | apply ln | apply li | refine lb ?_ fun _ => ?_)
set_option maxHeartbeats 8000000 in
set_option maxRecDepth 100000 in
theorem r09_arcs.calls (k : Nat) (ai : ByteArray) (az : Option Addr) (aC : Nat) (af : List (S52)) (aA : Option Addr) (aD : Nat) (ah : List (S48)) (A1 : Option Addr) (c1 : Nat) (l1 : List (S55)) (r : Int) (w : World) (aR : Kd.C k52 w az af.length af) (aP : af.length ≤ aC) (aS : Kd.C k48 w aA ah.length ah) (aQ : ah.length ≤ aD) (hr1 : Kd.C k55 w A1 l1.length l1) (bO : l1.length ≤ c1) (h : r09_arcs.f k ai af ah l1 = some r) :
  Calls Try.prog 78 #[.agg #[.string ai, .slice az af.length aC, .slice aA ah.length aD], .slice A1 l1.length c1] w fun e w' => e = .returned (.int .i64 r) ∧ Below w.heap.size w w' := by
 have bQ := Try.underlying25
 have bI := am aR
 have bF := am aP
 clear aR aP
 have bJ := am aS
 have bG := am aQ
 clear aS aQ
 have aG := am hr1
 have bW := am bO
 clear hr1 bO
 have HB := am (Below.refl w.heap.size w)
 have H : (r09_arcs.l0 k l1 0 ai af ah) = some r := h
 clear h
 have H' := am H
 clear H
 go_enter Try.func78, Try.ntmps78
 iterate 4 (try go_wp2_with (first | ((with_reducible refine gate_dst (N := 2) rfl ?_); (try (refine gate_guard (by rfl) ?_; dsimp only)); refine box_ev ?_; intro aF hg w3 hbox hb; have ag := am hbox; have a5 := gwl hg; have bE := a5; replace HB := bsl hb; clear hb hbox hg)); try go_quiet (fail))
 go_loopg [5] k (fun kq v5 w' => ∃ (ab : Int), v5 = .int .i64 ab ∧ Aside0 (r09_arcs.l0 kq l1 ab ai af ah = some r) ∧ Aside0 (kq ≤ k) ∧ Aside0 (w'.heap[aF]? = some (.cells #[.string ai, (.slice az af.length aC), (.slice aA ah.length aD)] 25 (0, 0))) ∧ Aside0 (Below w.heap.size w w'))
 case atStart => exact ⟨(0), prs, H', ⟨Nat.le_refl _⟩, ⟨pbk ag.1⟩, ⟨pbg⟩⟩
 clear H'
 try clear c1
 obtain ⟨ab, rfl, HA, a4, ag, HB⟩ := hrel
 obtain _ | k1 := gk
 ·exact absurd HA.1 (by simp [r09_arcs.l0])
 have H := HA.1
 clear HA
 simp only [r09_arcs.l0] at H
 replace H := ifl H
 rcases H with ⟨aU, H⟩ | ⟨aU, H⟩
 rotate_left
 ·obtain rfl := Option.some.inj H
  go_wp2
  repeat (go_quiet (fail); try go_wp2)
  go_ret
  exact ⟨per, pbg⟩
 have bl := am H
 clear H
 go_upto_region 4 with (fail)
 repeat (go_quiet (fail); go_upto_region 4 with (fail))
 go_cut [28] (fun bS wc => ∃ (kq : Nat) (aw : Bool), bS = .bool aw ∧ Aside0 (r09_arcs.j1 kq l1 ab aw ai af ah = some r) ∧ Aside0 (kq ≤ k1) ∧ Aside0 (wc.heap[aF]? = some (.cells #[.string ai, (.slice az af.length aC), (.slice aA ah.length aD)] 25 (0, 0))) ∧ Aside0 (Below w.heap.size w wc))
 case first =>
  have H := bl.1
  clear bl
  replace H := ifp H
  obtain ⟨c6, H⟩ := H
  have aH := decide_eq_true c6
  clear c6
  (first | rw [aH] | (simp only [i64_w, i32_w]; rw [aH]) | skip)
  replace H := ifl H
  rcases H with ⟨aV, H⟩ | ⟨aV, H⟩
  ·have H' := am H
   clear H
   obtain ⟨aY, aZ, aO, aW, ak, al⟩ := bT55 aG.1 HB.1 ab
   cases aW
   go_wp2
   repeat (go_quiet (fail); try go_wp2)
   go_meet
   case rel => exact ⟨_, (true), prs, H', ⟨by have := a4.1; first | omega | exact Nat.le_refl _⟩, ⟨pbk ag.1⟩, ⟨pbg⟩⟩
  have H' := am H
  clear H
  obtain ⟨aY, aZ, aO, aW, ak, al⟩ := bT55 aG.1 HB.1 ab
  cases aW
  obtain ⟨bg, bi, a6, bq, aq, ar⟩ := bT55 aG.1 HB.1 ab
  obtain rfl : aO = a6 := (by injection bq)
  have z8 := cf3 ag.1
  go_wp2
  repeat (go_quiet (fail); try go_wp2)
  go_meet
  case rel => exact ⟨_, (decide (((rd_T55 l1 ab).f0) ≥ (af.length : Int))), prs, H', ⟨by have := a4.1; first | omega | exact Nat.le_refl _⟩, ⟨pbk ag.1⟩, ⟨pbg⟩⟩
 clear bl
 try clear c1 aU c6 aH c7 aV z8 ak al aq ar aY bg aZ bi
 obtain ⟨kq, aw, rfl, HA, bk, ag, HB⟩ := hcut
 obtain _ | bP := kq
 ·exact absurd HA.1 (by simp [r09_arcs.j1])
 have H := HA.1
 clear HA
 simp only [r09_arcs.j1] at H
 cases aw
 rotate_left
 ·rw [if_pos rfl] at H
  obtain rfl := Option.some.inj H
  go_wp2
  repeat (go_quiet (fail); try go_wp2)
  go_ret
  exact ⟨per, pbg⟩
 rw [if_neg Bool.false_ne_true] at H
 have aT := am H
 clear H
 go_upto_region 6 with (fail)
 repeat (go_quiet (fail); go_upto_region 6 with (fail))
 go_cut [44] (fun bT wc => ∃ (kq : Nat) (ax : Bool), bT = .bool ax ∧ Aside0 (r09_arcs.j2 kq l1 ab ax ai af ah = some r) ∧ Aside0 (kq ≤ bP) ∧ Aside0 (wc.heap[aF]? = some (.cells #[.string ai, (.slice az af.length aC), (.slice aA ah.length aD)] 25 (0, 0))) ∧ Aside0 (Below w.heap.size w wc))
 case first =>
  have H := aT.1
  clear aT
  replace H := ifg H
  rcases H with ⟨aj, H⟩ | ⟨aj, H⟩
  rotate_left
  ·(first | rw [aj] | (simp only [i64_w, i32_w]; rw [aj]) | skip)
   have H' := am H
   clear H
   go_wp2
   repeat (go_quiet (fail); try go_wp2)
   go_meet
   case rel => exact ⟨_, (false), prs, H', ⟨by have := a4.1; have := bk.1; first | omega | exact Nat.le_refl _⟩, ⟨pbk ag.1⟩, ⟨pbg⟩⟩
  (first | rw [aj] | (simp only [i64_w, i32_w]; rw [aj]) | skip)
  replace H := ifp H
  obtain ⟨bm, H⟩ := H
  have a9 := decide_eq_true bm
  clear bm
  replace H := ifp H
  obtain ⟨bn, H⟩ := H
  have ba := decide_eq_true bn
  clear bn
  obtain ⟨ay, ap⟩ : ∃ j_ : Int, (wrap64 (ab - 1)) = j_ := ⟨_, rfl⟩
  replace H : (if 0 ≤ (ay) then (if (ay) < (l1.length : Int) then (r09_arcs.j2 bP l1 ab (decide (((rd_T55 l1 ab).f0) ≤ ((rd_T55 l1 (ay)).f0))) ai af ah) else (none)) else (none)) = some r := by first | (rw [ap] at H; exact H) | (simp only [ap] at H ⊢; exact H)
  have hji14w : (IntKind.i64.wrap (ab - 1)) = ay := (i64_w _).trans ap
  replace H := ifp H
  obtain ⟨bo, H⟩ := H
  have bb := decide_eq_true bo
  clear bo
  replace H := ifp H
  obtain ⟨bp, H⟩ := H
  have bc := decide_eq_true bp
  clear bp
  have H' := am H
  clear H
  obtain ⟨bx, bB, a7, br, aI, aJ⟩ := bT55 aG.1 HB.1 ab
  cases br
  obtain ⟨bz, bC, a8, bs, aK, aL⟩ := bT55 aG.1 HB.1 (ay)
  obtain rfl : a7 = a8 := (by injection bs)
  go_wp2
  repeat (go_quiet (fail); try go_wp2)
  go_meet
  case rel => exact ⟨_, (decide (((rd_T55 l1 ab).f0) ≤ ((rd_T55 l1 (ay)).f0))), (by first | rfl | (simp; done) | (simp only [← ap] <;> (first | rfl | simp)) | (simp [*]; done)), H', ⟨by have := a4.1; have := bk.1; first | omega | exact Nat.le_refl _⟩, ⟨pbk ag.1⟩, ⟨pbg⟩⟩
 clear aT
 try clear c1 c4 aU c6 aH c7 aV bX aj bm a9 bn ba bo bb bp bc z8 ak al aq ar aI aJ aK aL aY bg bx bz aZ bi bB bC
 obtain ⟨kq, ax, rfl, HA, bH, ag, HB⟩ := hcut
 obtain _ | bR := kq
 ·exact absurd HA.1 (by simp [r09_arcs.j2])
 have H := HA.1
 clear HA
 simp only [r09_arcs.j2] at H
 cases ax
 rotate_left
 ·rw [if_pos rfl] at H
  obtain rfl := Option.some.inj H
  go_wp2
  repeat (go_quiet (fail); try go_wp2)
  go_ret
  exact ⟨per, pbg⟩
 rw [if_neg Bool.false_ne_true] at H
 replace H := ifp H
 obtain ⟨bK, H⟩ := H
 have bL := decide_eq_true bK
 clear bK
 replace H := ifp H
 obtain ⟨bM, H⟩ := H
 have bN := decide_eq_true bM
 clear bM
 replace H := ifl H
 rcases H with ⟨bd, H⟩ | ⟨bd, H⟩
 ·obtain rfl := Option.some.inj H
  obtain ⟨bh, bj, ao, aE, au, av⟩ := bT55 aG.1 HB.1 ab
  cases aE
  go_wp2
  repeat (go_quiet (fail); try go_wp2)
  go_ret
  exact ⟨per, pbg⟩
 replace H := ifg H
 rcases H with ⟨bf, H⟩ | ⟨bf, H⟩
 ·obtain rfl := Option.some.inj H
  obtain ⟨bh, bj, ao, aE, au, av⟩ := bT55 aG.1 HB.1 ab
  cases aE
  obtain ⟨bA, bD, aB, aX, aM, aN⟩ := bT55 aG.1 HB.1 ab
  obtain rfl : ao = aB := (by injection aX)
  go_wp2
  repeat (go_quiet (fail); try go_wp2)
  go_ret
  exact ⟨per, pbg⟩
 have H' := am H
 clear H
 obtain ⟨bh, bj, ao, aE, au, av⟩ := bT55 aG.1 HB.1 ab
 cases aE
 obtain ⟨bA, bD, aB, aX, aM, aN⟩ := bT55 aG.1 HB.1 ab
 obtain rfl : ao = aB := (by injection aX)
 go_wp2
 repeat (go_quiet (fail); try go_wp2)
 go_roundg bR
 case measure => have := a4.1; have := bk.1; have := bH.1; omega
 case rel => exact ⟨(wrap64 (ab + 1)), prs, H', ⟨by have := a4.1; have := bk.1; have := bH.1; omega⟩, ⟨pbk ag.1⟩, ⟨pbg⟩⟩

/-! ### r09_trans: function 67 -/
mutual
def r09_trans.l0 : Nat → Int → Int → ByteArray → List (S52) → List (S48) → ByteArray → List (S55) → List (S55) → List (S55) → Int → Option (Int)
 | 0, _, _, _, _, _, _, _, _, _, _ => none
 | k + 1, x1, x6, aj, ag, ah, al, ay, az, aA, ao => if x6 < (ag.length : Int) then (if 0 ≤ x6 then (if ((rd_T52 ag x6).f0).toList = al.toList then (some 6) else (r09_trans.l0 k x1 (wrap64 (x6 + 1)) aj ag ah al ay az aA ao)) else (none)) else (r09_trans.l1 k x1 0 aj ag ah al ay az aA ao)
def r09_trans.l1 : Nat → Int → Int → ByteArray → List (S52) → List (S48) → ByteArray → List (S55) → List (S55) → List (S55) → Int → Option (Int)
 | 0, _, _, _, _, _, _, _, _, _, _ => none
 | k + 1, x1, x7, aj, ag, ah, al, ay, az, aA, ao => if x7 < x1 then (if 0 ≤ x7 then (if x7 < (ah.length : Int) then (if ((rd_T48 ah x7).f0).toList = al.toList then (some 6) else (r09_trans.l1 k x1 (wrap64 (x7 + 1)) aj ag ah al ay az aA ao)) else (none)) else (none)) else (if ao < 0 then (r09_trans.j2 k true aj ag ah al ay az aA ao) else (r09_trans.j2 k (decide (ao > 9)) aj ag ah al ay az aA ao))
def r09_trans.j2 : Nat → Bool → ByteArray → List (S52) → List (S48) → ByteArray → List (S55) → List (S55) → List (S55) → Int → Option (Int)
 | 0, _, _, _, _, _, _, _, _, _ => none
 | k + 1, dh, aj, ag, ah, al, ay, az, aA, ao => if dh = true then (some 1) else ((r09_arcs.f k aj ag ah ay).bind fun a9 => (if a9 = 0 then ((r09_arcs.f k aj ag ah az).bind fun bb => (if bb = 0 then ((r09_arcs.f k aj ag ah aA).bind fun bC => (some bC)) else (some bb))) else (some a9)))
end
def r09_trans.f (k : Nat) (ap : ByteArray) (ai : List (S52)) (aa : List (S48)) (a1 : Int) : Option (Int) := if 0 ≤ a1 then (if a1 < (aa.length : Int) then ((r09_Name.f k ((rd_T48 aa a1).f0)).bind fun b0 => (if b0 = true then (r09_trans.l0 k a1 0 ap ai aa ((rd_T48 aa a1).f0) ((rd_T48 aa a1).f1) ((rd_T48 aa a1).f2) ((rd_T48 aa a1).f3) ((rd_T48 aa a1).f4)) else (some 5))) else (none)) else (none)
theorem r09_trans.mono_l : ∀ k, M10 r09_trans.l0 k ∧ M10 r09_trans.l1 k ∧ M9 r09_trans.j2 k
 | 0 => ⟨fun _ _ _ _ _ _ _ _ _ _ r h => by simp [r09_trans.l0] at h, fun _ _ _ _ _ _ _ _ _ _ r h => by simp [r09_trans.l1] at h, fun _ _ _ _ _ _ _ _ _ r h => by simp [r09_trans.j2] at h⟩
 | k + 1 => by
  obtain ⟨cm, cn, co⟩ := r09_trans.mono_l k
  refine ⟨?_, ?_, ?_⟩ <;> dsimp only [M9, M10] <;> intros <;> (first | unfold r09_trans.l0 | unfold r09_trans.l1 | unfold r09_trans.j2) <;> repeat' first | (with_reducible first | apply cm | apply cn | apply co | apply r09_Name.mono | apply r09_arcs.mono | apply lr | apply ln | apply li | refine lb ?_ fun _ => ?_)
theorem r09_trans.mono : ∀ a0 a1 a2 a3 k, LeO (r09_trans.f k a0 a1 a2 a3) (r09_trans.f (k + 1) a0 a1 a2 a3) := by
 intro a0 a1 a2 a3 k
 obtain ⟨cm, cn, co⟩ := r09_trans.mono_l k
 unfold r09_trans.f
 repeat' first | (with_reducible first | apply cm | apply cn | apply co | apply r09_Name.mono | apply r09_arcs.mono | apply lr | apply ln | apply li | refine lb ?_ fun _ => ?_)
set_option maxHeartbeats 8000000 in
set_option maxRecDepth 100000 in
theorem r09_trans.calls (k : Nat) (ap : ByteArray) (bk : Option Addr) (bo : Nat) (ai : List (S52)) (b3 : Option Addr) (bp : Nat) (aa : List (S48)) (a1 : Int) (r : Int) (w : World) (bK : Kd.C k52 w bk ai.length ai) (bI : ai.length ≤ bo) (bL : Kd.C k48 w b3 aa.length aa) (bJ : aa.length ≤ bp) (h : r09_trans.f k ap ai aa a1 = some r) :
  Calls Try.prog 67 #[.agg #[.string ap, .slice bk ai.length bo, .slice b3 aa.length bp], .int .i64 a1] w fun e w' => e = .returned (.int .i64 r) ∧ Below w.heap.size w w' := by
 have cX := Try.underlying25
 have cY := Try.underlying48
 have aq := am bK
 have aD := am bI
 clear bK bI
 have ak := am bL
 have aE := am bJ
 clear bL bJ
 have HB := am (Below.refl w.heap.size w)
 have H := h
 unfold r09_trans.f at H
 clear h
 replace H := ifp H
 obtain ⟨c3, H⟩ := H
 have bT := decide_eq_true c3
 clear c3
 replace H := ifp H
 obtain ⟨c4, H⟩ := H
 have bU := decide_eq_true c4
 clear c4
 replace H := bnd H
 obtain ⟨b0, A5, H⟩ := H
 (try dsimp only at H)
 cases b0
 ·rw [if_neg Bool.false_ne_true] at H
  obtain rfl := Option.some.inj H
  go_enter Try.func67, Try.ntmps67
  iterate 4 (try go_wp2_with (first | ((with_reducible refine gate_dst (N := 2) rfl ?_); refine box_ev ?_; intro bc hg dw hbox hb; have ab := am hbox; have bl := gwl hg; have b4 := bl; replace HB := bsl hb; clear hb hbox hg; have dE := cf3 ab.1; have aQ : 0 ≤ (a1 : Int) := dq; have aR : a1 < (aa.length : Int) := dq; obtain ⟨aS, aU, aZ, aV, a4, aW, a5, bV, ar, au, av, aw, ax, aK, aH, aL, aI, aM, aJ⟩ := at_T48 ak.1 a1 aQ aR; cases bV; replace ar := cbl HB.1 ar; replace au := cbl HB.1 au; replace av := cbl HB.1 av; replace aw := cbl HB.1 aw; replace ax := cbl HB.1 ax; have aC := am aH; have aB := am aK; clear aH aK; have aG := am aI; have aF := am aL; clear aI aL; have aY := am aJ; have aX := am aM; clear aJ aM; replace aQ := eq_true aQ; replace aR := eq_true aR) | ((with_reducible refine gate_dst (N := 5) rfl ?_); refine box_ev (N := 5) (cs := #[.string (⟨#[]⟩ : ByteArray), .slice none 0 0, .slice none 0 0, .slice none 0 0, .int .i64 0]) (t := 48) ?_; intro bd hg dx hbox hb; have ac := am hbox; have bm := gwb hg; have b5 := bm; have ae := nlt hg ab; have af := ngt hg ab; replace ab := bbh ab hb; replace HB := bst hb; clear hb hbox hg; have cE := af.1; have cQ := ae.1; have dF := cf5 ac.1) | (go_at_call 65; (with_reducible refine (r09_Name.calls k ((rd_T48 aa a1).f0) false _ A5.1).mono ?_); rintro e w' ⟨rfl, ⟨nd, rfl⟩⟩; (try first | exact ⟨rfl, _, World.drewN_drewN _ _ _⟩ | exact ⟨rfl, _, Eq.trans (World.drewN_drewN _ _ _) (congrArg (World.drewN _) (Nat.add_assoc _ _ _))⟩))); try go_quiet (first | (go_at_call 65; (with_reducible refine (r09_Name.calls k ((rd_T48 aa a1).f0) false _ A5.1).mono ?_); rintro e w' ⟨rfl, ⟨nd, rfl⟩⟩; (try first | exact ⟨rfl, _, World.drewN_drewN _ _ _⟩ | exact ⟨rfl, _, Eq.trans (World.drewN_drewN _ _ _) (congrArg (World.drewN _) (Nat.add_assoc _ _ _))⟩))))
  go_ret
  exact ⟨per, pbg⟩
 rw [if_pos rfl] at H
 have H' := am H
 clear H
 go_enter Try.func67, Try.ntmps67
 iterate 4 (try go_wp2_with (first | ((with_reducible refine gate_dst (N := 2) rfl ?_); refine box_ev ?_; intro bc hg w7 hbox hb; have ab := am hbox; have bl := gwl hg; have b4 := bl; replace HB := bsl hb; clear hb hbox hg; have z8 := cf3 ab.1; have aQ : 0 ≤ (a1 : Int) := dq; have aR : a1 < (aa.length : Int) := dq; obtain ⟨aS, aU, aZ, aV, a4, aW, a5, bV, ar, au, av, aw, ax, aK, aH, aL, aI, aM, aJ⟩ := at_T48 ak.1 a1 aQ aR; cases bV; replace ar := cbl HB.1 ar; replace au := cbl HB.1 au; replace av := cbl HB.1 av; replace aw := cbl HB.1 aw; replace ax := cbl HB.1 ax; have aC := am aH; have aB := am aK; clear aH aK; have aG := am aI; have aF := am aL; clear aI aL; have aY := am aJ; have aX := am aM; clear aJ aM; replace aQ := eq_true aQ; replace aR := eq_true aR) | ((with_reducible refine gate_dst (N := 5) rfl ?_); refine box_ev (N := 5) (cs := #[.string (⟨#[]⟩ : ByteArray), .slice none 0 0, .slice none 0 0, .slice none 0 0, .int .i64 0]) (t := 48) ?_; intro bd hg w9 hbox hb; have ac := am hbox; have bm := gwb hg; have b5 := bm; have ae := nlt hg ab; have af := ngt hg ab; replace ab := bbh ab hb; replace HB := bst hb; clear hb hbox hg; have cr := af.1; have cF := ae.1; have cp := cf5 ac.1) | (go_at_call 65; (with_reducible refine (r09_Name.calls k ((rd_T48 aa a1).f0) true _ A5.1).mono ?_); rintro e w' ⟨rfl, ⟨nd, rfl⟩⟩; (try first | exact ⟨rfl, _, World.drewN_drewN _ _ _⟩ | exact ⟨rfl, _, Eq.trans (World.drewN_drewN _ _ _) (congrArg (World.drewN _) (Nat.add_assoc _ _ _))⟩))); try go_quiet (first | (go_at_call 65; (with_reducible refine (r09_Name.calls k ((rd_T48 aa a1).f0) true _ A5.1).mono ?_); rintro e w' ⟨rfl, ⟨nd, rfl⟩⟩; (try first | exact ⟨rfl, _, World.drewN_drewN _ _ _⟩ | exact ⟨rfl, _, Eq.trans (World.drewN_drewN _ _ _) (congrArg (World.drewN _) (Nat.add_assoc _ _ _))⟩))))
 go_loopg [6] k (fun kq v6 w' => ∃ (aO : Int), v6 = .int .i64 aO ∧ Aside0 (r09_trans.l0 kq a1 aO ap ai aa ((rd_T48 aa a1).f0) ((rd_T48 aa a1).f1) ((rd_T48 aa a1).f2) ((rd_T48 aa a1).f3) ((rd_T48 aa a1).f4) = some r) ∧ Aside0 (kq ≤ k) ∧ Aside0 (w'.heap[bc]? = some (.cells #[.string ap, (.slice bk ai.length bo), (.slice (some aS) aa.length bp)] 25 (0, 0))) ∧ Aside0 (w'.heap[bd]? = some (.cells #[.string ((rd_T48 aa a1).f0), (.slice aU ((rd_T48 aa a1).f1).length aZ), (.slice aV ((rd_T48 aa a1).f2).length a4), (.slice aW ((rd_T48 aa a1).f3).length a5), .int .i64 ((rd_T48 aa a1).f4)] 48 (0, 0))) ∧ Aside0 (Below w.heap.size w w'))
 case atStart => exact ⟨(0), prs, H', ⟨Nat.le_refl _⟩, ⟨by (with_reducible repeat (first | refine blk_drewN ?_ _ | refine blk_drew ?_ | refine blk_alloc ?_ _)); refine bf5 ?_ ae.1; exact pbk ab.1⟩, ⟨by (with_reducible repeat (first | refine blk_drewN ?_ _ | refine blk_drew ?_ | refine blk_alloc ?_ _)); exact bp5 (pbk ac.1)⟩, ⟨pbg⟩⟩
 clear H'
 try clear c3 bT c4 bU cp z8 ar au av aw ax aQ aR
 obtain ⟨aO, rfl, HA, b2, ab, ac, HB⟩ := hrel
 obtain _ | k1 := gk
 ·exact absurd HA.1 (by simp [r09_trans.l0])
 have H := HA.1
 clear HA
 simp only [r09_trans.l0] at H
 replace H := ifl H
 rcases H with ⟨bq, H⟩ | ⟨bq, H⟩
 ·replace H := ifp H
  obtain ⟨ci, H⟩ := H
  have bD := decide_eq_true ci
  clear ci
  by_cases bB : ((rd_T52 ai aO).f0).toList = ((rd_T48 aa a1).f0).toList
  ·rw [if_pos bB] at H
   have br : (((rd_T52 ai aO).f0).toList == ((rd_T48 aa a1).f0).toList) = true := beq_iff_eq.mpr bB
   have bs : (((rd_T52 ai aO).f0).toList != ((rd_T48 aa a1).f0).toList) = false := bne_eq_false_iff_eq.mpr bB
   clear bB
   obtain rfl := Option.some.inj H
   have cu := ae.1
   have cG := af.1
   have cR := cf3 ab.1
   obtain ⟨bY, bZ, b6, bW, a6, a7, a8⟩ := bT52 aq.1 HB.1 aO
   cases bW
   have cS := cf5 ac.1
   go_wp2
   repeat (go_quiet (fail); try go_wp2)
   go_ret
   exact ⟨per, pbg⟩
  rw [if_neg bB] at H
  have br : (((rd_T52 ai aO).f0).toList == ((rd_T48 aa a1).f0).toList) = false := beq_eq_false_iff_ne.mpr bB
  have bs : (((rd_T52 ai aO).f0).toList != ((rd_T48 aa a1).f0).toList) = true := bne_iff_ne.mpr bB
  have H' := am H
  clear H
  have cv := ae.1
  have cH := af.1
  have cT := cf3 ab.1
  obtain ⟨bY, bZ, b6, bW, a6, a7, a8⟩ := bT52 aq.1 HB.1 aO
  cases bW
  have cU := cf5 ac.1
  go_wp2
  repeat (go_quiet (fail); try go_wp2)
  go_roundg k1
  case measure => have := b2.1; omega
  case rel => exact ⟨(wrap64 (aO + 1)), prs, H', ⟨by have := b2.1; omega⟩, ⟨pbk ab.1⟩, ⟨pbk ac.1⟩, ⟨pbg⟩⟩
 have H' := am H
 clear H
 have cw := ae.1
 have cI := af.1
 have cV := cf3 ab.1
 go_wp2
 repeat (go_quiet (fail); try go_wp2)
 go_loopg [7] k1 (fun kq v7 w' => ∃ (aP : Int), v7 = .int .i64 aP ∧ Aside0 (r09_trans.l1 kq a1 aP ap ai aa ((rd_T48 aa a1).f0) ((rd_T48 aa a1).f1) ((rd_T48 aa a1).f2) ((rd_T48 aa a1).f3) ((rd_T48 aa a1).f4) = some r) ∧ Aside0 (kq ≤ k1) ∧ Aside0 (w'.heap[bc]? = some (.cells #[.string ap, (.slice bk ai.length bo), (.slice (some aS) aa.length bp)] 25 (0, 0))) ∧ Aside0 (w'.heap[bd]? = some (.cells #[.string ((rd_T48 aa a1).f0), (.slice aU ((rd_T48 aa a1).f1).length aZ), (.slice aV ((rd_T48 aa a1).f2).length a4), (.slice aW ((rd_T48 aa a1).f3).length a5), .int .i64 ((rd_T48 aa a1).f4)] 48 (0, 0))) ∧ Aside0 (Below w.heap.size w w'))
 case atStart => exact ⟨(0), prs, H', ⟨Nat.le_refl _⟩, ⟨pbk ab.1⟩, ⟨pbk ac.1⟩, ⟨pbg⟩⟩
 clear H'
 try clear c3 bT c4 bU c6 bq ci bD bB br bs cp cR cS cT cU cV z8 ar au av aw ax a6 a7 a8 aQ bY aR bZ
 obtain ⟨aP, rfl, HA, ch, ab, ac, HB⟩ := hrel
 obtain _ | k2 := gk
 ·exact absurd HA.1 (by simp [r09_trans.l1])
 have H := HA.1
 clear HA
 simp only [r09_trans.l1] at H
 replace H := ifl H
 rcases H with ⟨bE, H⟩ | ⟨bE, H⟩
 ·replace H := ifp H
  obtain ⟨cj, H⟩ := H
  have b7 := decide_eq_true cj
  clear cj
  replace H := ifp H
  obtain ⟨ck, H⟩ := H
  have b8 := decide_eq_true ck
  clear ck
  by_cases bF : ((rd_T48 aa aP).f0).toList = ((rd_T48 aa a1).f0).toList
  ·rw [if_pos bF] at H
   have bG : (((rd_T48 aa aP).f0).toList == ((rd_T48 aa a1).f0).toList) = true := beq_iff_eq.mpr bF
   have bH : (((rd_T48 aa aP).f0).toList != ((rd_T48 aa a1).f0).toList) = false := bne_eq_false_iff_eq.mpr bF
   clear bF
   obtain rfl := Option.some.inj H
   have cx := ae.1
   have cJ := af.1
   have di := cf3 ab.1
   obtain ⟨ce, cf, bn, bM, bQ, bN, bR, bO, bS, bX, bf, bg, bh, bi, bj, bu, bx, bv, bz, bw, bA⟩ := bT48 ak.1 HB.1 aP
   obtain rfl : aS = bn := (by injection bX)
   have dj := cf5 ac.1
   go_wp2
   repeat (go_quiet (fail); try go_wp2)
   go_ret
   exact ⟨per, pbg⟩
  rw [if_neg bF] at H
  have bG : (((rd_T48 aa aP).f0).toList == ((rd_T48 aa a1).f0).toList) = false := beq_eq_false_iff_ne.mpr bF
  have bH : (((rd_T48 aa aP).f0).toList != ((rd_T48 aa a1).f0).toList) = true := bne_iff_ne.mpr bF
  have H' := am H
  clear H
  have cy := ae.1
  have cK := af.1
  have dk := cf3 ab.1
  obtain ⟨ce, cf, bn, bM, bQ, bN, bR, bO, bS, bX, bf, bg, bh, bi, bj, bu, bx, bv, bz, bw, bA⟩ := bT48 ak.1 HB.1 aP
  obtain rfl : aS = bn := (by injection bX)
  have dl := cf5 ac.1
  go_wp2
  repeat (go_quiet (fail); try go_wp2)
  go_roundg k2
  case measure => have := b2.1; have := ch.1; omega
  case rel => exact ⟨(wrap64 (aP + 1)), prs, H', ⟨by have := b2.1; have := ch.1; omega⟩, ⟨pbk ab.1⟩, ⟨pbk ac.1⟩, ⟨pbg⟩⟩
 have bP := am H
 clear H
 go_upto_region 14 with (fail)
 repeat (go_quiet (fail); go_upto_region 14 with (fail))
 go_cut [56] (fun cZ wc => ∃ (kq : Nat) (ba : Bool), cZ = .bool ba ∧ Aside0 (r09_trans.j2 kq ba ap ai aa ((rd_T48 aa a1).f0) ((rd_T48 aa a1).f1) ((rd_T48 aa a1).f2) ((rd_T48 aa a1).f3) ((rd_T48 aa a1).f4) = some r) ∧ Aside0 (kq ≤ k2) ∧ Aside0 (wc.heap[bc]? = some (.cells #[.string ap, (.slice bk ai.length bo), (.slice (some aS) aa.length bp)] 25 (0, 0))) ∧ Aside0 (wc.heap[bd]? = some (.cells #[.string ((rd_T48 aa a1).f0), (.slice aU ((rd_T48 aa a1).f1).length aZ), (.slice aV ((rd_T48 aa a1).f2).length a4), (.slice aW ((rd_T48 aa a1).f3).length a5), .int .i64 ((rd_T48 aa a1).f4)] 48 (0, 0))) ∧ Aside0 (Below w.heap.size w wc))
 case first =>
  have H := bP.1
  clear bP
  replace H := ifl H
  rcases H with ⟨aT, H⟩ | ⟨aT, H⟩
  ·(first | rw [aT] | (simp only [i64_w, i32_w]; rw [aT]) | skip)
   have H' := am H
   clear H
   have cz := af.1
   have cL := ae.1
   have dm := cf5 ac.1
   go_wp2
   repeat (go_quiet (fail); try go_wp2)
   go_meet
   case rel => exact ⟨_, (true), prs, H', ⟨by have := b2.1; have := ch.1; first | omega | exact Nat.le_refl _⟩, ⟨pbk ab.1⟩, ⟨pbk ac.1⟩, ⟨pbg⟩⟩
  (first | rw [aT] | (simp only [i64_w, i32_w]; rw [aT]) | skip)
  have H' := am H
  clear H
  have cA := af.1
  have cM := ae.1
  have dn := cf5 ac.1
  go_wp2
  repeat (go_quiet (fail); try go_wp2)
  go_meet
  case rel => exact ⟨_, (decide (((rd_T48 aa a1).f4) > 9)), prs, H', ⟨by have := b2.1; have := ch.1; first | omega | exact Nat.le_refl _⟩, ⟨pbk ab.1⟩, ⟨pbk ac.1⟩, ⟨pbg⟩⟩
 clear bP
 try clear c3 bT c4 bU c6 du bq ci bD bB br bs bE cj b7 ck b8 bF bG bH dv aT cp cR cS cT cU cV di dj dk dl dm dn z8 ar au av aw ax a6 a7 a8 bf bg bh bi bj aQ bY ce aR bZ cf
 obtain ⟨kq, ba, rfl, HA, cW, ab, ac, HB⟩ := hcut
 obtain _ | aN := kq
 ·exact absurd HA.1 (by simp [r09_trans.j2])
 have H := HA.1
 clear HA
 simp only [r09_trans.j2] at H
 cases ba
 rotate_left
 ·rw [if_pos rfl] at H
  obtain rfl := Option.some.inj H
  go_wp2
  repeat (go_quiet (fail); try go_wp2)
  go_ret
  exact ⟨per, pbg⟩
 rw [if_neg Bool.false_ne_true] at H
 replace H := bnd H
 obtain ⟨a9, b1, H⟩ := H
 (try dsimp only at H)
 replace H := ife H
 rcases H with ⟨b9, ca, H⟩ | ⟨b9, ca, H⟩
 rotate_left
 ·obtain rfl := Option.some.inj H
  have cD := ae.1
  have cP := af.1
  have dC := cf3 ab.1
  have dD := cf5 ac.1
  iterate 4 (try go_wp2_with (first | (go_at_call 78; (with_reducible refine (r09_arcs.calls aN ap _ _ ai _ _ aa _ _ ((rd_T48 aa a1).f1) a9 _ ?side1 ?side2 ?side3 ?side4 ?side5 ?side6 b1.1).mono ?_); (case side1 => exact csb aq HB); (case side2 => exact aD.1); (case side3 => exact csb ak HB); (case side4 => exact aE.1); (case side5 => exact csb aC HB); (case side6 => exact aB.1); rintro e dg ⟨rfl, hb⟩; replace ab := bbh ab hb; replace ac := bbh ac hb; replace HB := bst hb; (try clear hb))); try go_quiet (first | (go_at_call 78; (with_reducible refine (r09_arcs.calls aN ap _ _ ai _ _ aa _ _ ((rd_T48 aa a1).f1) a9 _ ?side1 ?side2 ?side3 ?side4 ?side5 ?side6 b1.1).mono ?_); (case side1 => exact csb aq HB); (case side2 => exact aD.1); (case side3 => exact csb ak HB); (case side4 => exact aE.1); (case side5 => exact csb aC HB); (case side6 => exact aB.1); rintro e dg ⟨rfl, hb⟩; replace ab := bbh ab hb; replace ac := bbh ac hb; replace HB := bst hb; (try clear hb))))
  go_ret
  exact ⟨per, pbg⟩
 replace H := bnd H
 obtain ⟨bb, cg, H⟩ := H
 (try dsimp only at H)
 replace H := ife H
 rcases H with ⟨cb, cd, H⟩ | ⟨cb, cd, H⟩
 rotate_left
 ·obtain rfl := Option.some.inj H
  have cC := ae.1
  have cO := af.1
  have dA := cf3 ab.1
  have dB := cf5 ac.1
  iterate 4 (try go_wp2_with (first | (go_at_call 78; (with_reducible refine (r09_arcs.calls aN ap _ _ ai _ _ aa _ _ ((rd_T48 aa a1).f1) a9 _ ?side1 ?side2 ?side3 ?side4 ?side5 ?side6 b1.1).mono ?_); (case side1 => exact csb aq HB); (case side2 => exact aD.1); (case side3 => exact csb ak HB); (case side4 => exact aE.1); (case side5 => exact csb aC HB); (case side6 => exact aB.1); rintro e de ⟨rfl, hb⟩; replace ab := bbh ab hb; replace ac := bbh ac hb; replace HB := bst hb; (try clear hb); have dt := cf3 ab.1; have z60 := cf5 ac.1) | (go_at_call 78; (with_reducible refine (r09_arcs.calls aN ap _ _ ai _ _ aa _ _ ((rd_T48 aa a1).f2) bb _ ?side1 ?side2 ?side3 ?side4 ?side5 ?side6 cg.1).mono ?_); (case side1 => exact csb aq HB); (case side2 => exact aD.1); (case side3 => exact csb ak HB); (case side4 => exact aE.1); (case side5 => exact csb aG HB); (case side6 => exact aF.1); rintro e df ⟨rfl, hb⟩; replace ab := bbh ab hb; replace ac := bbh ac hb; replace HB := bst hb; (try clear hb))); try go_quiet (first | (go_at_call 78; (with_reducible refine (r09_arcs.calls aN ap _ _ ai _ _ aa _ _ ((rd_T48 aa a1).f1) a9 _ ?side1 ?side2 ?side3 ?side4 ?side5 ?side6 b1.1).mono ?_); (case side1 => exact csb aq HB); (case side2 => exact aD.1); (case side3 => exact csb ak HB); (case side4 => exact aE.1); (case side5 => exact csb aC HB); (case side6 => exact aB.1); rintro e de ⟨rfl, hb⟩; replace ab := bbh ab hb; replace ac := bbh ac hb; replace HB := bst hb; (try clear hb); have dt := cf3 ab.1; have z60 := cf5 ac.1) | (go_at_call 78; (with_reducible refine (r09_arcs.calls aN ap _ _ ai _ _ aa _ _ ((rd_T48 aa a1).f2) bb _ ?side1 ?side2 ?side3 ?side4 ?side5 ?side6 cg.1).mono ?_); (case side1 => exact csb aq HB); (case side2 => exact aD.1); (case side3 => exact csb ak HB); (case side4 => exact aE.1); (case side5 => exact csb aG HB); (case side6 => exact aF.1); rintro e df ⟨rfl, hb⟩; replace ab := bbh ab hb; replace ac := bbh ac hb; replace HB := bst hb; (try clear hb))))
  go_ret
  exact ⟨per, pbg⟩
 replace H := bnd H
 obtain ⟨bC, cq, H⟩ := H
 (try dsimp only at H)
 obtain rfl := Option.some.inj H
 have cB := ae.1
 have cN := af.1
 have dy := cf3 ab.1
 have dz := cf5 ac.1
 iterate 4 (try go_wp2_with (first | (go_at_call 78; (with_reducible refine (r09_arcs.calls aN ap _ _ ai _ _ aa _ _ ((rd_T48 aa a1).f1) a9 _ ?side1 ?side2 ?side3 ?side4 ?side5 ?side6 b1.1).mono ?_); (case side1 => exact csb aq HB); (case side2 => exact aD.1); (case side3 => exact csb ak HB); (case side4 => exact aE.1); (case side5 => exact csb aC HB); (case side6 => exact aB.1); rintro e da ⟨rfl, hb⟩; replace ab := bbh ab hb; replace ac := bbh ac hb; replace HB := bst hb; (try clear hb); have dp := cf3 ab.1; have z50 := cf5 ac.1) | (go_at_call 78; (with_reducible refine (r09_arcs.calls aN ap _ _ ai _ _ aa _ _ ((rd_T48 aa a1).f2) bb _ ?side1 ?side2 ?side3 ?side4 ?side5 ?side6 cg.1).mono ?_); (case side1 => exact csb aq HB); (case side2 => exact aD.1); (case side3 => exact csb ak HB); (case side4 => exact aE.1); (case side5 => exact csb aG HB); (case side6 => exact aF.1); rintro e db ⟨rfl, hb⟩; replace ab := bbh ab hb; replace ac := bbh ac hb; replace HB := bst hb; (try clear hb); have z52 := cf3 ab.1; have dr := cf5 ac.1) | (go_at_call 78; (with_reducible refine (r09_arcs.calls aN ap _ _ ai _ _ aa _ _ ((rd_T48 aa a1).f3) bC _ ?side1 ?side2 ?side3 ?side4 ?side5 ?side6 cq.1).mono ?_); (case side1 => exact csb aq HB); (case side2 => exact aD.1); (case side3 => exact csb ak HB); (case side4 => exact aE.1); (case side5 => exact csb aY HB); (case side6 => exact aX.1); rintro e dc ⟨rfl, hb⟩; replace ab := bbh ab hb; replace ac := bbh ac hb; replace HB := bst hb; (try clear hb))); try go_quiet (first | (go_at_call 78; (with_reducible refine (r09_arcs.calls aN ap _ _ ai _ _ aa _ _ ((rd_T48 aa a1).f1) a9 _ ?side1 ?side2 ?side3 ?side4 ?side5 ?side6 b1.1).mono ?_); (case side1 => exact csb aq HB); (case side2 => exact aD.1); (case side3 => exact csb ak HB); (case side4 => exact aE.1); (case side5 => exact csb aC HB); (case side6 => exact aB.1); rintro e da ⟨rfl, hb⟩; replace ab := bbh ab hb; replace ac := bbh ac hb; replace HB := bst hb; (try clear hb); have dp := cf3 ab.1; have z50 := cf5 ac.1) | (go_at_call 78; (with_reducible refine (r09_arcs.calls aN ap _ _ ai _ _ aa _ _ ((rd_T48 aa a1).f2) bb _ ?side1 ?side2 ?side3 ?side4 ?side5 ?side6 cg.1).mono ?_); (case side1 => exact csb aq HB); (case side2 => exact aD.1); (case side3 => exact csb ak HB); (case side4 => exact aE.1); (case side5 => exact csb aG HB); (case side6 => exact aF.1); rintro e db ⟨rfl, hb⟩; replace ab := bbh ab hb; replace ac := bbh ac hb; replace HB := bst hb; (try clear hb); have z52 := cf3 ab.1; have dr := cf5 ac.1) | (go_at_call 78; (with_reducible refine (r09_arcs.calls aN ap _ _ ai _ _ aa _ _ ((rd_T48 aa a1).f3) bC _ ?side1 ?side2 ?side3 ?side4 ?side5 ?side6 cq.1).mono ?_); (case side1 => exact csb aq HB); (case side2 => exact aD.1); (case side3 => exact csb ak HB); (case side4 => exact aE.1); (case side5 => exact csb aY HB); (case side6 => exact aX.1); rintro e dc ⟨rfl, hb⟩; replace ab := bbh ab hb; replace ac := bbh ac hb; replace HB := bst hb; (try clear hb))))
 go_ret
 exact ⟨per, pbg⟩

/-! ### r09_Check: function 41 -/
mutual
def r09_Check.j0 : Nat → Bool → ByteArray → List (S52) → List (S48) → Option (Int × Int)
 | 0, _, _, _, _ => none
 | k + 1, bO, aj, ag, ah => if bO = true then (some (2, 0)) else (r09_Check.l0 k 0 aj ag ah)
def r09_Check.l0 : Nat → Int → ByteArray → List (S52) → List (S48) → Option (Int × Int)
 | 0, _, _, _, _ => none
 | k + 1, x3, aj, ag, ah => if x3 < (ag.length : Int) then ((r09_place.f k aj ag ah x3).bind fun aJ => (if aJ = 0 then (r09_Check.l0 k (wrap64 (x3 + 1)) aj ag ah) else (some (aJ, x3)))) else (r09_Check.l1 k 0 aj ag ah)
def r09_Check.l1 : Nat → Int → ByteArray → List (S52) → List (S48) → Option (Int × Int)
 | 0, _, _, _, _ => none
 | k + 1, x5, aj, ag, ah => if x5 < (ah.length : Int) then ((r09_trans.f k aj ag ah x5).bind fun aK => (if aK = 0 then (r09_Check.l1 k (wrap64 (x5 + 1)) aj ag ah) else (some (aK, wrap64 ((ag.length : Int) + x5))))) else (some (0, 0))
end
def r09_Check.f (k : Nat) (ak : ByteArray) (af : List (S52)) (ai : List (S48)) : Option (Int × Int) := (r09_Name.f k ak).bind fun aW => (if aW = true then (if (af.length : Int) < 1 then (r09_Check.j0 k true ak af ai) else (if (af.length : Int) > 24 then (r09_Check.j0 k true ak af ai) else (r09_Check.j0 k (decide ((ai.length : Int) > 24)) ak af ai))) else (some (5, 0)))
theorem r09_Check.mono_l : ∀ k, M4 r09_Check.j0 k ∧ M4 r09_Check.l0 k ∧ M4 r09_Check.l1 k
 | 0 => ⟨fun _ _ _ _ r h => by simp [r09_Check.j0] at h, fun _ _ _ _ r h => by simp [r09_Check.l0] at h, fun _ _ _ _ r h => by simp [r09_Check.l1] at h⟩
 | k + 1 => by
  obtain ⟨a9, ba, bb⟩ := r09_Check.mono_l k
  refine ⟨?_, ?_, ?_⟩ <;> dsimp only [M4] <;> intros <;> (first | unfold r09_Check.j0 | unfold r09_Check.l0 | unfold r09_Check.l1) <;> repeat' first | (with_reducible first | apply a9 | apply ba | apply bb | apply r09_Name.mono | apply r09_place.mono | apply r09_trans.mono | apply lr | apply ln | apply li | refine lb ?_ fun _ => ?_)
theorem r09_Check.mono : ∀ a0 a1 a2 k, LeO (r09_Check.f k a0 a1 a2) (r09_Check.f (k + 1) a0 a1 a2) := by
 intro a0 a1 a2 k
 obtain ⟨a9, ba, bb⟩ := r09_Check.mono_l k
 unfold r09_Check.f
 repeat' first | (with_reducible first | apply a9 | apply ba | apply bb | apply r09_Name.mono | apply r09_place.mono | apply r09_trans.mono | apply lr | apply ln | apply li | refine lb ?_ fun _ => ?_)
set_option maxHeartbeats 8000000 in
set_option maxRecDepth 100000 in
theorem r09_Check.calls (k : Nat) (ak : ByteArray) (aF : Option Addr) (aH : Nat) (af : List (S52)) (aG : Option Addr) (aI : Nat) (ai : List (S48)) (r1 : Int) (r2 : Int) (w : World) (aU : Kd.C k52 w aF af.length af) (aS : af.length ≤ aH) (aV : Kd.C k48 w aG ai.length ai) (aT : ai.length ≤ aI) (h : r09_Check.f k ak af ai = some (r1, r2)) :
  Calls Try.prog 41 #[.agg #[.string ak, .slice aF af.length aH, .slice aG ai.length aI]] w fun e w' => e = .returned (.agg #[.int .i64 r1, .int .i64 r2]) ∧ Below w.heap.size w w' := by
 have bL := Try.underlying25
 have bM := Try.underlying60
 have aA := am aU
 have ay := am aS
 clear aU aS
 have aB := am aV
 have az := am aT
 clear aV aT
 have HB := am (Below.refl w.heap.size w)
 have H := h
 unfold r09_Check.f at H
 clear h
 replace H := bnd H
 obtain ⟨aW, A2, H⟩ := H
 (try dsimp only at H)
 cases aW
 ·rw [if_neg Bool.false_ne_true] at H
  simp only [Option.some.injEq, Prod.mk.injEq] at H
  obtain ⟨rfl, rfl⟩ := H
  go_enter Try.func41, Try.ntmps41
  go_wp2_with (first | ((with_reducible refine gate_dst (N := 1) rfl ?_); (try (refine gate_guard (by rfl) ?_; dsimp only)); refine box_ev ?_; intro av hg bZ hbox hb; have aa := am hbox; have aL := gwl hg; have aY := aL; replace HB := bsl hb; clear hb hbox hg) | ((with_reducible refine gate_dst (N := 2) rfl ?_); (try (refine gate_guard (by rfl) ?_; dsimp only)); refine box_ev ?_; intro ap hg aX hbox hb; have ae := am hbox; have aM := gwb hg; have aZ := aM; have ab := nlt hg aa; have ac := ngt hg aa; replace aa := bbh aa hb; replace HB := bst hb; clear hb hbox hg; have bu := ab.1; have bG := ac.1; have b6 := cf3 aa.1) | ((with_reducible refine gate_callee (f := 65) rfl ?_); refine gC 9 Try.func65 _ (r09_Name.calls k ak false _ A2.1) ?_; rintro e w' ⟨rfl, ⟨nd, rfl⟩⟩; refine ⟨_, rfl, ?_⟩; (try (rw [drewN_self aX]; generalize hq_ : World.drewN aX _ = aX; replace aa : Aside0 (aX.heap[av]? = some (.cells #[.string ak, .slice aF af.length aH, .slice aG ai.length aI] 25 (0, 0))) := ⟨by rw [← hq_]; exact (by exact pbk aa.1)⟩; replace ae : Aside0 (aX.heap[ap]? = some (.cells #[.int .i64 0, .int .i64 0] 60 (0, 0))) := ⟨by rw [← hq_]; exact (by exact pbk ae.1)⟩; replace HB : Aside0 (Below w.heap.size w aX) := ⟨by rw [← hq_]; exact pbg⟩; clear hq_)); have z50 := cf2 ae.1))
  refine bodyPost_ret (results_cell_row rfl _ _ ap 60 #[.int .i64 5, .int .i64 0] (0, 0) _ rfl (by (with_reducible repeat (first | refine blk_drewN ?_ _ | refine blk_drew ?_ | refine blk_alloc ?_ _)); exact bp2 (pbk ae.1)) Try.underlying60 rfl (by kernel_rfl)) rfl ?_
  exact ⟨per, pbg⟩
 rw [if_pos rfl] at H
 have a8 := am H
 clear H
 go_enter Try.func41, Try.ntmps41
 go_upto_region 3 with (first | ((with_reducible refine gate_dst (N := 1) rfl ?_); (try (refine gate_guard (by rfl) ?_; dsimp only)); refine box_ev ?_; intro av hg w5 hbox hb; have aa := am hbox; have aL := gwl hg; have aY := aL; replace HB := bsl hb; clear hb hbox hg) | ((with_reducible refine gate_dst (N := 2) rfl ?_); (try (refine gate_guard (by rfl) ?_; dsimp only)); refine box_ev ?_; intro ap hg w6 hbox hb; have ae := am hbox; have aM := gwb hg; have aZ := aM; have ab := nlt hg aa; have ac := ngt hg aa; replace aa := bbh aa hb; replace HB := bst hb; clear hb hbox hg; have bJ := ab.1; have bK := ac.1; have z8 := cf3 aa.1) | ((with_reducible refine gate_callee (f := 65) rfl ?_); refine gC 9 Try.func65 _ (r09_Name.calls k ak true _ A2.1) ?_; rintro e w' ⟨rfl, ⟨nd, rfl⟩⟩; refine ⟨_, rfl, ?_⟩))
 (try simp only [Act.put, List.setIfInBounds_toArray, List.set_cons_zero, List.set_cons_succ])
 go_cut [27] (fun bN wc => ∃ (kq : Nat) (aE : Bool), bN = .bool aE ∧ Aside0 (r09_Check.j0 kq aE ak af ai = some (r1, r2)) ∧ Aside0 (kq ≤ k) ∧ Aside0 (wc.heap[av]? = some (.cells #[.string ak, (.slice aF af.length aH), (.slice aG ai.length aI)] 25 (0, 0))) ∧ Aside0 (wc.heap[ap]? = some (.cells #[.int .i64 0, .int .i64 0] 60 (0, 0))) ∧ Aside0 (Below w.heap.size w wc))
 case first =>
  have H := a8.1
  clear a8
  by_cases c9 : (af.length : Int) < 1
  ·rw [if_pos c9] at H
   have au : decide ((af.length : Int) < 1) = true := decide_eq_true c9
   have aO : decide (af.length < 1) = true := decide_eq_true (by omega)
   clear c9
   (first | rw [au] | (simp only [i64_w, i32_w]; rw [au]) | skip)
   have H' := am H
   clear H
   have bj := ab.1
   have bv := ac.1
   have bc := cf3 aa.1
   go_wp2
   go_meet
   case rel => exact ⟨_, (true), prs, H', ⟨by first | omega | exact Nat.le_refl _⟩, ⟨pbk aa.1⟩, ⟨pbk ae.1⟩, ⟨pbg⟩⟩
  rw [if_neg c9] at H
  have au : decide ((af.length : Int) < 1) = false := decide_eq_false c9
  have aO : decide (af.length < 1) = false := decide_eq_false (by omega)
  clear c9
  (first | rw [au] | (simp only [i64_w, i32_w]; rw [au]) | skip)
  by_cases aN : (af.length : Int) > 24
  ·rw [if_pos aN] at H
   have aC : decide (24 < (af.length : Int)) = true := decide_eq_true aN
   have aD : decide (24 < af.length) = true := decide_eq_true (by omega)
   clear aN
   have H' := am H
   clear H
   have bk := ab.1
   have bw := ac.1
   have bd := cf3 aa.1
   go_wp2
   go_meet
   case rel => exact ⟨_, (true), prs, H', ⟨by first | omega | exact Nat.le_refl _⟩, ⟨pbk aa.1⟩, ⟨pbk ae.1⟩, ⟨pbg⟩⟩
  rw [if_neg aN] at H
  have aC : decide (24 < (af.length : Int)) = false := decide_eq_false aN
  have aD : decide (24 < af.length) = false := decide_eq_false (by omega)
  clear aN
  have H' := am H
  clear H
  have bl := ab.1
  have bx := ac.1
  have bf := cf3 aa.1
  go_wp2
  go_meet
  case rel => exact ⟨_, (decide ((ai.length : Int) > 24)), prs, H', ⟨by first | omega | exact Nat.le_refl _⟩, ⟨pbk aa.1⟩, ⟨pbk ae.1⟩, ⟨pbg⟩⟩
 clear a8
 try clear c9 au aO aN aC aD bc bd bf z8
 obtain ⟨kq, aE, rfl, HA, a6, aa, ae, HB⟩ := hcut
 obtain _ | bH := kq
 ·exact absurd HA.1 (by simp [r09_Check.j0])
 have H := HA.1
 clear HA
 simp only [r09_Check.j0] at H
 cases aE
 rotate_left
 ·rw [if_pos rfl] at H
  simp only [Option.some.injEq, Prod.mk.injEq] at H
  obtain ⟨rfl, rfl⟩ := H
  have bm := ac.1
  have bz := ab.1
  have bI := cf2 ae.1
  go_wp2
  refine bodyPost_ret (results_cell_row rfl _ _ ap 60 #[.int .i64 2, .int .i64 0] (0, 0) _ rfl (by (with_reducible repeat (first | refine blk_drewN ?_ _ | refine blk_drew ?_ | refine blk_alloc ?_ _)); exact bp2 (pbk ae.1)) Try.underlying60 rfl (by kernel_rfl)) rfl ?_
  exact ⟨per, pbg⟩
 rw [if_neg Bool.false_ne_true] at H
 have H' := am H
 clear H
 go_wp2
 go_loopg [3] bH (fun kq v3 w' => ∃ (aw : Int) (al : Int) (ao : Int), v3 = .int .i64 aw ∧ Aside0 (r09_Check.l0 kq aw ak af ai = some (r1, r2)) ∧ Aside0 (kq ≤ bH) ∧ Aside0 (w'.heap[av]? = some (.cells #[.string ak, (.slice aF af.length aH), (.slice aG ai.length aI)] 25 (0, 0))) ∧ Aside0 (w'.heap[ap]? = some (.cells #[.int .i64 al, .int .i64 ao] 60 (0, 0))) ∧ Aside0 (Below w.heap.size w w'))
 case atStart => exact ⟨(0), (0), (0), prs, H', ⟨Nat.le_refl _⟩, ⟨pbk aa.1⟩, ⟨pbk ae.1⟩, ⟨pbg⟩⟩
 clear H'
 try clear c3 c9 au aO aN aC aD bc bd bf bI z8
 obtain ⟨aw, al, ao, rfl, HA, a7, aa, ae, HB⟩ := hrel
 obtain _ | k2 := gk
 ·exact absurd HA.1 (by simp [r09_Check.l0])
 have H := HA.1
 clear HA
 simp only [r09_Check.l0] at H
 replace H := ifl H
 rcases H with ⟨aP, H⟩ | ⟨aP, H⟩
 ·replace H := bnd H
  obtain ⟨aJ, bg, H⟩ := H
  (try dsimp only at H)
  replace H := ife H
  rcases H with ⟨aQ, aR, H⟩ | ⟨aQ, aR, H⟩
  ·have H' := am H
   clear H
   have bn := ab.1
   have bA := ac.1
   have bP := cf3 aa.1
   go_wp2_with (first | ((with_reducible refine gate_callee (f := 66) rfl ?_); refine gC 38 Try.func66 _ (r09_place.calls k2 ak _ _ af _ _ ai aw aJ _ (csb aA HB) ay.1 (csb aB HB) az.1 bg.1) ?_; rintro e bV ⟨rfl, hb⟩; refine ⟨_, rfl, ?_⟩; replace aa := bbh aa hb; replace ae := bbh ae hb; replace HB := bst hb; (try clear hb)))
   go_roundg k2
   case measure => have := a6.1; have := a7.1; omega
   case rel => exact ⟨(wrap64 (aw + 1)), (al), (ao), prs, H', ⟨by have := a6.1; have := a7.1; omega⟩, ⟨pbk aa.1⟩, ⟨pbk ae.1⟩, ⟨pbg⟩⟩
  simp only [Option.some.injEq, Prod.mk.injEq] at H
  obtain ⟨rfl, rfl⟩ := H
  have bo := ab.1
  have bB := ac.1
  have bQ := cf3 aa.1
  go_wp2_with (first | ((with_reducible refine gate_callee (f := 66) rfl ?_); refine gC 38 Try.func66 _ (r09_place.calls k2 ak _ _ af _ _ ai aw aJ _ (csb aA HB) ay.1 (csb aB HB) az.1 bg.1) ?_; rintro e bW ⟨rfl, hb⟩; refine ⟨_, rfl, ?_⟩; replace aa := bbh aa hb; replace ae := bbh ae hb; replace HB := bst hb; (try clear hb); have bR := cf2 ae.1))
  refine bodyPost_ret (results_cell_row rfl _ _ ap 60 #[.int .i64 aJ, .int .i64 aw] (0, 0) _ rfl (by (with_reducible repeat (first | refine blk_drewN ?_ _ | refine blk_drew ?_ | refine blk_alloc ?_ _)); exact bp2 (pbk ae.1)) Try.underlying60 rfl (by kernel_rfl)) rfl ?_
  exact ⟨per, pbg⟩
 have H' := am H
 clear H
 have bp := ab.1
 have bC := ac.1
 have bS := cf3 aa.1
 go_wp2
 go_loopg [5] k2 (fun kq v5 w' => ∃ (ax : Int) (aq : Int) (ar : Int), v5 = .int .i64 ax ∧ Aside0 (r09_Check.l1 kq ax ak af ai = some (r1, r2)) ∧ Aside0 (kq ≤ k2) ∧ Aside0 (w'.heap[av]? = some (.cells #[.string ak, (.slice aF af.length aH), (.slice aG ai.length aI)] 25 (0, 0))) ∧ Aside0 (w'.heap[ap]? = some (.cells #[.int .i64 aq, .int .i64 ar] 60 (0, 0))) ∧ Aside0 (Below w.heap.size w w'))
 case atStart => exact ⟨(0), (al), (ao), prs, H', ⟨Nat.le_refl _⟩, ⟨pbk aa.1⟩, ⟨pbk ae.1⟩, ⟨pbg⟩⟩
 clear H'
 try clear c3 c9 au aO aN aC aD bT aP bU aQ aR bc bd bf bI bP bQ bR bS z8
 obtain ⟨ax, aq, ar, rfl, HA, bi, aa, ae, HB⟩ := hrel
 obtain _ | k3 := gk
 ·exact absurd HA.1 (by simp [r09_Check.l1])
 have H := HA.1
 clear HA
 simp only [r09_Check.l1] at H
 replace H := ifl H
 rcases H with ⟨a3, H⟩ | ⟨a3, H⟩
 rotate_left
 ·simp only [Option.some.injEq, Prod.mk.injEq] at H
  obtain ⟨rfl, rfl⟩ := H
  have bs := ab.1
  have bF := ac.1
  have b4 := cf3 aa.1
  have b5 := cf2 ae.1
  go_wp2
  refine bodyPost_ret (results_cell_row rfl _ _ ap 60 #[.int .i64 0, .int .i64 0] (0, 0) _ rfl (by (with_reducible repeat (first | refine blk_drewN ?_ _ | refine blk_drew ?_ | refine blk_alloc ?_ _)); exact bp2 (pbk ae.1)) Try.underlying60 rfl (by kernel_rfl)) rfl ?_
  exact ⟨per, pbg⟩
 replace H := bnd H
 obtain ⟨aK, bh, H⟩ := H
 (try dsimp only at H)
 replace H := ife H
 rcases H with ⟨a4, a5, H⟩ | ⟨a4, a5, H⟩
 ·have H' := am H
  clear H
  have bq := ab.1
  have bD := ac.1
  have b0 := cf3 aa.1
  go_wp2_with (first | ((with_reducible refine gate_callee (f := 67) rfl ?_); refine gC 53 Try.func67 _ (r09_trans.calls k3 ak _ _ af _ _ ai ax aK _ (csb aA HB) ay.1 (csb aB HB) az.1 bh.1) ?_; rintro e bX ⟨rfl, hb⟩; refine ⟨_, rfl, ?_⟩; replace aa := bbh aa hb; replace ae := bbh ae hb; replace HB := bst hb; (try clear hb)))
  go_roundg k3
  case measure => have := a6.1; have := a7.1; have := bi.1; omega
  case rel => exact ⟨(wrap64 (ax + 1)), (aq), (ar), prs, H', ⟨by have := a6.1; have := a7.1; have := bi.1; omega⟩, ⟨pbk aa.1⟩, ⟨pbk ae.1⟩, ⟨pbg⟩⟩
 simp only [Option.some.injEq, Prod.mk.injEq] at H
 obtain ⟨rfl, rfl⟩ := H
 have br := ab.1
 have bE := ac.1
 have b1 := cf3 aa.1
 go_wp2_with (first | ((with_reducible refine gate_callee (f := 67) rfl ?_); refine gC 53 Try.func67 _ (r09_trans.calls k3 ak _ _ af _ _ ai ax aK _ (csb aA HB) ay.1 (csb aB HB) az.1 bh.1) ?_; rintro e bY ⟨rfl, hb⟩; refine ⟨_, rfl, ?_⟩; replace aa := bbh aa hb; replace ae := bbh ae hb; replace HB := bst hb; (try clear hb); have b2 := cf3 aa.1; have b3 := cf2 ae.1))
 refine bodyPost_ret (results_cell_row rfl _ _ ap 60 #[.int .i64 aK, .int .i64 (wrap64 ((af.length : Int) + ax))] (0, 0) _ rfl (by (with_reducible repeat (first | refine blk_drewN ?_ _ | refine blk_drew ?_ | refine blk_alloc ?_ _)); exact bp2 (pbk ae.1)) Try.underlying60 rfl (by kernel_rfl)) rfl ?_
 exact ⟨per, pbg⟩

/-! ### r09_Valid: function 56 -/
def r09_Valid.f (k : Nat) (ae : ByteArray) (aa : List (S52)) (ab : List (S48)) : Option (Bool) := (r09_Check.f k ae aa ab).bind fun au => (some (au.1 == 0))
theorem r09_Valid.mono : ∀ a0 a1 a2 k, LeO (r09_Valid.f k a0 a1 a2) (r09_Valid.f (k + 1) a0 a1 a2) := by
 intro a0 a1 a2 k
 unfold r09_Valid.f
 repeat' first | (with_reducible first | apply r09_Check.mono | apply lr | apply ln | apply li | refine lb ?_ fun _ => ?_)
set_option maxHeartbeats 8000000 in
set_option maxRecDepth 100000 in
theorem r09_Valid.calls (k : Nat) (ae : ByteArray) (aj : Option Addr) (av : Nat) (aa : List (S52)) (ak : Option Addr) (aw : Nat) (ab : List (S48)) (r : Bool) (w : World) (ah : Kd.C k52 w aj aa.length aa) (af : aa.length ≤ av) (ai : Kd.C k48 w ak ab.length ab) (ag : ab.length ≤ aw) (h : r09_Valid.f k ae aa ab = some r) :
  Calls Try.prog 56 #[.agg #[.string ae, .slice aj aa.length av, .slice ak ab.length aw]] w fun e w' => e = .returned (.bool r) ∧ Below w.heap.size w w' := by
 have ax : ∀ (x0 x1 : Value) (W : World), (Instr.field 60 (.agg #[x0, x1]) 0).run Try.prog W = .ok x0 W := fun x0 x1 W => by kernel_rfl
 have aC := Try.underlying25
 have aq := am ah
 have ao := am af
 clear ah af
 have ar := am ai
 have ap := am ag
 clear ai ag
 have HB := am (Below.refl w.heap.size w)
 have H := h
 unfold r09_Valid.f at H
 clear h
 replace H := bnd H
 obtain ⟨⟨ay, az⟩, A2, H⟩ := H
 (try dsimp only at H)
 obtain rfl := Option.some.inj H
 go_enter Try.func56, Try.ntmps56
 go_wp2_with (first | ((with_reducible refine gate_dst (N := 1) rfl ?_); refine box_ev ?_; intro aB hg w3 hbox hb; have ac := am hbox; have al := gwl hg; have aA := al; replace HB := bsl hb; clear hb hbox hg; have z4 := cf3 ac.1) | ((with_reducible refine gate_callee (f := 41) rfl ?_); refine gC 4 Try.func41 _ (r09_Check.calls k ae _ _ aa _ _ ab ay az _ (csb aq HB) ao.1 (csb ar HB) ap.1 A2.1) ?_; rintro e w5 ⟨rfl, hb⟩; refine ⟨_, rfl, ?_⟩; replace ac := bbh ac hb; replace HB := bst hb; (try clear hb)))
 go_ret
 exact ⟨per, pbg⟩

/-! ### r09_Weight: function 74 -/
def r09_Weight.l0 : Nat → List (S55) → Int → Int → Option (Int)
 | 0, _, _, _ => none
 | k + 1, x0, x1, x5 => if x5 < (x0.length : Int) then (if 0 ≤ x5 then (if ((rd_T55 x0 x5).f0) = x1 then (some ((rd_T55 x0 x5).f1)) else (r09_Weight.l0 k x0 x1 (wrap64 (x5 + 1)))) else (none)) else (some 0)
def r09_Weight.f (k : Nat) (l0 : List (S55)) (a1 : Int) : Option (Int) := r09_Weight.l0 k l0 a1 0
theorem r09_Weight.mono_l : ∀ k, M3 r09_Weight.l0 k
 | 0 => fun _ _ _ r h => by simp [r09_Weight.l0] at h
 | k + 1 => by
  have aq := r09_Weight.mono_l k
  ·intro y0 y1 y2
   unfold r09_Weight.l0
   repeat' first | (with_reducible first | apply aq | apply lr | apply ln | apply li | refine lb ?_ fun _ => ?_)
theorem r09_Weight.mono : ∀ a0 a1 k, LeO (r09_Weight.f k a0 a1) (r09_Weight.f (k + 1) a0 a1) := by
 intro a0 a1 k
 have aq := r09_Weight.mono_l k
 unfold r09_Weight.f
 repeat' first | (with_reducible first | apply aq | apply lr | apply ln | apply li | refine lb ?_ fun _ => ?_)
set_option maxHeartbeats 8000000 in
set_option maxRecDepth 100000 in
theorem r09_Weight.calls (k : Nat) (A0 : Option Addr) (c0 : Nat) (l0 : List (S55)) (a1 : Int) (r : Int) (w : World) (aw : Kd.C k55 w A0 l0.length l0) (hc0 : l0.length ≤ c0) (h : r09_Weight.f k l0 a1 = some r) :
  Calls Try.prog 74 #[.slice A0 l0.length c0, .int .i64 a1] w fun e w' => e = .returned (.int .i64 r) ∧ Drawn0 w w' := by
 have aj := am aw
 have aA := am hc0
 clear aw hc0
 have H : (r09_Weight.l0 k l0 a1 0) = some r := h
 clear h
 have H' := am H
 clear H
 go_enter Try.func74, Try.ntmps74
 go_wp2
 go_loopg [5] k (fun kq v5 w' => ∃ (aa : Int), v5 = .int .i64 aa ∧ Aside0 (r09_Weight.l0 kq l0 a1 aa = some r) ∧ Aside0 (kq ≤ k) ∧ Drawn0 w w')
 case atStart => exact ⟨(0), prs, H', ⟨Nat.le_refl _⟩, pdr⟩
 clear H'
 obtain ⟨aa, rfl, HA, av, ⟨m1, rfl⟩⟩ := hrel
 obtain _ | k1 := gk
 ·exact absurd HA.1 (by simp [r09_Weight.l0])
 have H := HA.1
 clear HA
 simp only [r09_Weight.l0] at H
 replace H := ifl H
 rcases H with ⟨ak, H⟩ | ⟨ak, H⟩
 rotate_left
 ·obtain rfl := Option.some.inj H
  go_wp2
  go_ret
  exact ⟨prs, pdr⟩
 replace H := ifp H
 obtain ⟨c4, H⟩ := H
 have ax := decide_eq_true c4
 clear c4
 replace H := ife H
 rcases H with ⟨al, ao, H⟩ | ⟨al, ao, H⟩
 rotate_left
 ·have H' := am H
  clear H
  obtain ⟨ar, au, ae, af, ab, ac⟩ := dT55 aj.1 aa
  cases af
  go_wp2
  go_roundg k1
  case measure => have := av.1; omega
  case rel => exact ⟨(wrap64 (aa + 1)), prs, H', ⟨by have := av.1; omega⟩, pdr⟩
 obtain rfl := Option.some.inj H
 obtain ⟨ar, au, ae, af, ab, ac⟩ := dT55 aj.1 aa
 cases af
 obtain ⟨ay, az, ag, ap, ah, ai⟩ := dT55 aj.1 aa
 obtain rfl : ae = ag := (by injection ap)
 go_wp2
 go_ret
 exact ⟨prs, pdr⟩

/-! ### r09_Producers: function 57 -/
mutual
def r09_Producers.l0 : Nat → Int → List Int → Int → ByteArray → List (S52) → List (S48) → Option (List Int)
 | 0, _, _, _, _, _, _ => none
 | k + 1, x1, x5, x6, ac, ae, ab => if x6 < (ab.length : Int) then ((r09_Valid.f k ac ae ab).bind fun aK => (r09_Producers.j1 k x1 x5 x6 aK ac ae ab)) else (r09_Producers.j1 k x1 x5 x6 false ac ae ab)
def r09_Producers.j1 : Nat → Int → List Int → Int → Bool → ByteArray → List (S52) → List (S48) → Option (List Int)
 | 0, _, _, _, _, _, _, _ => none
 | k + 1, x1, x5, x6, x15, ac, ae, ab => if x15 = true then (if 0 ≤ x6 then (if x6 < (ab.length : Int) then ((r09_Weight.f k ((rd_T48 ab x6).f2) x1).bind fun aM => (if aM > 0 then (if x5.length < 17592186044416 then (r09_Producers.l0 k x1 (x5 ++ [x6]) (wrap64 (x6 + 1)) ac ae ab) else (none)) else (r09_Producers.l0 k x1 x5 (wrap64 (x6 + 1)) ac ae ab))) else (none)) else (none)) else (some x5)
end
def r09_Producers.f (k : Nat) (aj : ByteArray) (ah : List (S52)) (af : List (S48)) (a1 : Int) : Option (List Int) := r09_Producers.l0 k a1 ([] : List Int) 0 aj ah af
theorem r09_Producers.mono_l : ∀ k, M6 r09_Producers.l0 k ∧ M7 r09_Producers.j1 k
 | 0 => ⟨fun _ _ _ _ _ _ r h => by simp [r09_Producers.l0] at h, fun _ _ _ _ _ _ _ r h => by simp [r09_Producers.j1] at h⟩
 | k + 1 => by
  obtain ⟨bl, bm⟩ := r09_Producers.mono_l k
  refine ⟨?_, ?_⟩ <;> dsimp only [M6, M7] <;> intros <;> (first | unfold r09_Producers.l0 | unfold r09_Producers.j1) <;> repeat' first | (with_reducible first | apply bl | apply bm | apply r09_Valid.mono | apply r09_Weight.mono | apply lr | apply ln | apply li | refine lb ?_ fun _ => ?_)
theorem r09_Producers.mono : ∀ a0 a1 a2 a3 k, LeO (r09_Producers.f k a0 a1 a2 a3) (r09_Producers.f (k + 1) a0 a1 a2 a3) := by
 intro a0 a1 a2 a3 k
 obtain ⟨bl, bm⟩ := r09_Producers.mono_l k
 unfold r09_Producers.f
 repeat' first | (with_reducible first | apply bl | apply bm | apply r09_Valid.mono | apply r09_Weight.mono | apply lr | apply ln | apply li | refine lb ?_ fun _ => ?_)
set_option maxHeartbeats 8000000 in
set_option maxRecDepth 100000 in
theorem r09_Producers.calls (k : Nat) (aj : ByteArray) (av : Option Addr) (aC : Nat) (ah : List (S52)) (aw : Option Addr) (aD : Nat) (af : List (S48)) (a1 : Int) (r : List Int) (w : World) (aT : Kd.C k52 w av ah.length ah) (aQ : ah.length ≤ aC) (aU : Kd.C k48 w aw af.length af) (aR : af.length ≤ aD) (h : r09_Producers.f k aj ah af a1 = some r) :
  Calls Try.prog 57 #[.agg #[.string aj, .slice av ah.length aC, .slice aw af.length aD], .int .i64 a1] w fun e w' => ∃ v0_ : Value, e = .returned (v0_) ∧ Kd.R (Kd.int .i64) 3 w' w.heap.size (fun _ => True) v0_ r ∧ Below w.heap.size w w' := by
 have bw := Try.underlying25
 have bb := am aT
 have a8 := am aQ
 clear aT aQ
 have ar := am aU
 have a9 := am aR
 clear aU aR
 have HB := am (Below.refl w.heap.size w)
 have H := h
 unfold r09_Producers.f at H
 clear h
 have H' := am H
 clear H
 go_enter Try.func57, Try.ntmps57
 go_wp2_with (first | ((with_reducible refine gate_dst (N := 2) rfl ?_); refine box_ev ?_; intro aN hg w3 hbox hb; have aa := am hbox; have a7 := gwl hg; have bp := a7; replace HB := bsl hb; clear hb hbox hg))
 go_loopg [5, 6] k (fun kq v5 v6 w' => ∃ (ao : List Int) (ag : Int), v6 = .int .i64 ag ∧ Aside0 (r09_Producers.l0 kq a1 ao ag aj ah af = some r) ∧ Aside0 (kq ≤ k) ∧ Aside0 (Kd.R (Kd.int .i64) 3 w' w.heap.size (fun _ => True) v5 ao) ∧ Aside0 (w'.heap[aN]? = some (.cells #[.string aj, (.slice av ah.length aC), (.slice aw af.length aD)] 25 (0, 0))) ∧ Aside0 (Below w.heap.size w w'))
 case atStart => exact ⟨(([] : List Int)), (0), prs, H', ⟨Nat.le_refl _⟩, ⟨knl⟩, ⟨pbk aa.1⟩, ⟨pbg⟩⟩
 clear H'
 obtain ⟨ao, ag, rfl, HA, a6, ai, aa, HB⟩ := hrel
 obtain _ | k1 := gk
 ·exact absurd HA.1 (by simp [r09_Producers.l0])
 have H := HA.1
 clear HA
 simp only [r09_Producers.l0] at H
 have bk := am H
 clear H
 go_upto_region 3 with (fail)
 go_cut [15] (fun bx wc => ∃ (kq : Nat) (ap : Bool), bx = .bool ap ∧ Aside0 (r09_Producers.j1 kq a1 ao ag ap aj ah af = some r) ∧ Aside0 (kq ≤ k1) ∧ Aside0 (Kd.R (Kd.int .i64) 3 wc w.heap.size (fun _ => True) u5 ao) ∧ Aside0 (wc.heap[aN]? = some (.cells #[.string aj, (.slice av ah.length aC), (.slice aw af.length aD)] 25 (0, 0))) ∧ Aside0 (Below w.heap.size w wc))
 case first =>
  have H := bk.1
  clear bk
  replace H := ifl H
  rcases H with ⟨aq, H⟩ | ⟨aq, H⟩
  rotate_left
  ·(first | rw [aq] | (simp only [i64_w, i32_w]; rw [aq]) | skip)
   have H' := am H
   clear H
   have z9 := cf3 aa.1
   go_wp2
   go_meet
   case rel => exact ⟨_, (false), prs, H', ⟨by have := a6.1; first | omega | exact Nat.le_refl _⟩, ⟨pkr ai.1⟩, ⟨pbk aa.1⟩, ⟨pbg⟩⟩
  (first | rw [aq] | (simp only [i64_w, i32_w]; rw [aq]) | skip)
  replace H := bnd H
  obtain ⟨aK, A6, H⟩ := H
  (try dsimp only at H)
  have H' := am H
  clear H
  have z7 := cf3 aa.1
  go_wp2_with (first | (go_at_call 56; (with_reducible refine (r09_Valid.calls k1 aj _ _ ah _ _ af aK _ ?side1 ?side2 ?side3 ?side4 A6.1).mono ?_); (case side1 => exact csb bb HB); (case side2 => exact a8.1); (case side3 => exact csb ar HB); (case side4 => exact a9.1); rintro e w8 ⟨rfl, hb⟩; replace ai := rbw ai hb; replace aa := bbh aa hb; replace HB := bst hb; (try clear hb)))
  go_meet
  case rel => exact ⟨_, (aK), prs, H', ⟨by have := a6.1; first | omega | exact Nat.le_refl _⟩, ⟨pkr ai.1⟩, ⟨pbk aa.1⟩, ⟨pbg⟩⟩
 clear bk
 try clear c5 aq z7 z9
 obtain ⟨kq, ap, rfl, HA, bj, ai, aa, HB⟩ := hcut
 obtain _ | bh := kq
 ·exact absurd HA.1 (by simp [r09_Producers.j1])
 have H := HA.1
 clear HA
 simp only [r09_Producers.j1] at H
 cases ap
 ·rw [if_neg Bool.false_ne_true] at H
  obtain rfl := Option.some.inj H
  go_wp2
  go_ret
  exact ⟨_, per, by (with_reducible repeat (first | apply Kd.R_alloc | apply Kd.R_drewN | apply Kd.R_drew)); exact ai.1, pbg⟩
 rw [if_pos rfl] at H
 replace H := ifp H
 obtain ⟨bq, H⟩ := H
 have br := decide_eq_true bq
 clear bq
 replace H := ifp H
 obtain ⟨bs, H⟩ := H
 have bu := decide_eq_true bs
 clear bs
 replace H := bnd H
 obtain ⟨aM, A13, H⟩ := H
 (try dsimp only at H)
 replace H := ifg H
 rcases H with ⟨bg, H⟩ | ⟨bg, H⟩
 rotate_left
 ·have H' := am H
  clear H
  have bC := cf3 aa.1
  obtain ⟨bn, bo, bf, aV, aY, aW, aZ, aX, a4, a5, aE, aG, aH, aI, aJ, ax, az, ak, al, ay, aA⟩ := bT48 ar.1 HB.1 ag
  cases a5
  go_wp2_with (first | ((with_reducible refine gate_callee (f := 74) rfl ?_); refine gC 25 Try.func74 _ (r09_Weight.calls bh _ _ ((rd_T48 af ag).f2) a1 aM _ (csb al HB) ak.1 A13.1) ?_; rintro e w' ⟨rfl, ⟨nd, rfl⟩⟩; refine ⟨_, rfl, ?_⟩))
  go_roundg bh
  case measure => have := a6.1; have := bj.1; omega
  case rel => exact ⟨(ao), (wrap64 (ag + 1)), prs, H', ⟨by have := a6.1; have := bj.1; omega⟩, ⟨pkr ai.1⟩, ⟨pbk aa.1⟩, ⟨pbg⟩⟩
 replace H := ifp H
 obtain ⟨bv, H⟩ := H
 have bc := am bv
 clear bv
 obtain ⟨bi, au⟩ : ∃ y_ : List Int, y_ = (ao ++ [ag]) := ⟨_, rfl⟩
 replace H : (r09_Producers.l0 bh a1 bi (wrap64 (ag + 1)) aj ah af) = some r := hrp au H
 have bd := am au
 clear au
 have H' := am H
 clear H
 have bB := cf3 aa.1
 obtain ⟨bn, bo, bf, aV, aY, aW, aZ, aX, a4, a5, aE, aG, aH, aI, aJ, ax, az, ak, al, ay, aA⟩ := bT48 ar.1 HB.1 ag
 cases a5
 go_wp2_with (first | ((with_reducible refine gate_callee (f := 74) rfl ?_); refine gC 25 Try.func74 _ (r09_Weight.calls bh _ _ ((rd_T48 af ag).f2) a1 aM _ (csb al HB) ak.1 A13.1) ?_; rintro e w' ⟨rfl, ⟨nd, rfl⟩⟩; refine ⟨_, rfl, ?_⟩) | ((with_reducible refine gate_builtin (b := .append) (xs := #[.tmp 27, .tmp 29]) rfl ?_); at_builtin; refine Kd.R_append (Kd.int .i64) (w0 := w) w.heap.size rfl (.tmp 27) (.tmp 29) 39 3 (.int .i64 0) 8 rfl Try.underlying39 info3 rfl (by decide) (by omega) u5 ao ag [.int .i64 ag] (fun _ => True) (fun _ => False) rfl rfl ?aP (fun _ hk => hk.elim) ?aF ?aO ?aB ?aS ?aL ?_; (case aP => exact rfl); (case aB => exact pbg); (case aF => exact (fun _ _ => trivial)); (case aO => exact (pkr ai.1)); (case aS => exact (below_size pbg)); (case aL => have := bc.1; omega); intro bz bA ho hb hg hat; rw [← bd.1] at ho; have ba := am ho; replace aa := (bgr aa hg (Kd.R_ne ai.1 aa.1 (by decide))); replace HB := am hb; clear ai; clear ho hb hg hat))
 go_roundg bh
 case measure => have := a6.1; have := bj.1; omega
 case rel => exact ⟨(bi), (wrap64 (ag + 1)), prs, H', ⟨by have := a6.1; have := bj.1; omega⟩, ⟨pkr ba.1⟩, ⟨pbk aa.1⟩, ⟨pbg⟩⟩

/-! ### r09_Consumers: function 58 -/
mutual
def r09_Consumers.l0 : Nat → Int → List Int → Int → ByteArray → List (S52) → List (S48) → Option (List Int)
 | 0, _, _, _, _, _, _ => none
 | k + 1, x1, x5, x6, ac, ae, ab => if x6 < (ab.length : Int) then ((r09_Valid.f k ac ae ab).bind fun aK => (r09_Consumers.j1 k x1 x5 x6 aK ac ae ab)) else (r09_Consumers.j1 k x1 x5 x6 false ac ae ab)
def r09_Consumers.j1 : Nat → Int → List Int → Int → Bool → ByteArray → List (S52) → List (S48) → Option (List Int)
 | 0, _, _, _, _, _, _, _ => none
 | k + 1, x1, x5, x6, x15, ac, ae, ab => if x15 = true then (if 0 ≤ x6 then (if x6 < (ab.length : Int) then ((r09_Weight.f k ((rd_T48 ab x6).f1) x1).bind fun aM => (if aM > 0 then (if x5.length < 17592186044416 then (r09_Consumers.l0 k x1 (x5 ++ [x6]) (wrap64 (x6 + 1)) ac ae ab) else (none)) else (r09_Consumers.l0 k x1 x5 (wrap64 (x6 + 1)) ac ae ab))) else (none)) else (none)) else (some x5)
end
def r09_Consumers.f (k : Nat) (aj : ByteArray) (ah : List (S52)) (af : List (S48)) (a1 : Int) : Option (List Int) := r09_Consumers.l0 k a1 ([] : List Int) 0 aj ah af
theorem r09_Consumers.mono_l : ∀ k, M6 r09_Consumers.l0 k ∧ M7 r09_Consumers.j1 k
 | 0 => ⟨fun _ _ _ _ _ _ r h => by simp [r09_Consumers.l0] at h, fun _ _ _ _ _ _ _ r h => by simp [r09_Consumers.j1] at h⟩
 | k + 1 => by
  obtain ⟨bl, bm⟩ := r09_Consumers.mono_l k
  refine ⟨?_, ?_⟩ <;> dsimp only [M6, M7] <;> intros <;> (first | unfold r09_Consumers.l0 | unfold r09_Consumers.j1) <;> repeat' first | (with_reducible first | apply bl | apply bm | apply r09_Valid.mono | apply r09_Weight.mono | apply lr | apply ln | apply li | refine lb ?_ fun _ => ?_)
theorem r09_Consumers.mono : ∀ a0 a1 a2 a3 k, LeO (r09_Consumers.f k a0 a1 a2 a3) (r09_Consumers.f (k + 1) a0 a1 a2 a3) := by
 intro a0 a1 a2 a3 k
 obtain ⟨bl, bm⟩ := r09_Consumers.mono_l k
 unfold r09_Consumers.f
 repeat' first | (with_reducible first | apply bl | apply bm | apply r09_Valid.mono | apply r09_Weight.mono | apply lr | apply ln | apply li | refine lb ?_ fun _ => ?_)
set_option maxHeartbeats 8000000 in
set_option maxRecDepth 100000 in
theorem r09_Consumers.calls (k : Nat) (aj : ByteArray) (av : Option Addr) (aC : Nat) (ah : List (S52)) (aw : Option Addr) (aD : Nat) (af : List (S48)) (a1 : Int) (r : List Int) (w : World) (aT : Kd.C k52 w av ah.length ah) (aQ : ah.length ≤ aC) (aU : Kd.C k48 w aw af.length af) (aR : af.length ≤ aD) (h : r09_Consumers.f k aj ah af a1 = some r) :
  Calls Try.prog 58 #[.agg #[.string aj, .slice av ah.length aC, .slice aw af.length aD], .int .i64 a1] w fun e w' => ∃ v0_ : Value, e = .returned (v0_) ∧ Kd.R (Kd.int .i64) 3 w' w.heap.size (fun _ => True) v0_ r ∧ Below w.heap.size w w' := by
 have bw := Try.underlying25
 have bb := am aT
 have a8 := am aQ
 clear aT aQ
 have ar := am aU
 have a9 := am aR
 clear aU aR
 have HB := am (Below.refl w.heap.size w)
 have H := h
 unfold r09_Consumers.f at H
 clear h
 have H' := am H
 clear H
 go_enter Try.func58, Try.ntmps58
 go_wp2_with (first | ((with_reducible refine gate_dst (N := 2) rfl ?_); refine box_ev ?_; intro aN hg w3 hbox hb; have aa := am hbox; have a7 := gwl hg; have bp := a7; replace HB := bsl hb; clear hb hbox hg))
 go_loopg [5, 6] k (fun kq v5 v6 w' => ∃ (ao : List Int) (ag : Int), v6 = .int .i64 ag ∧ Aside0 (r09_Consumers.l0 kq a1 ao ag aj ah af = some r) ∧ Aside0 (kq ≤ k) ∧ Aside0 (Kd.R (Kd.int .i64) 3 w' w.heap.size (fun _ => True) v5 ao) ∧ Aside0 (w'.heap[aN]? = some (.cells #[.string aj, (.slice av ah.length aC), (.slice aw af.length aD)] 25 (0, 0))) ∧ Aside0 (Below w.heap.size w w'))
 case atStart => exact ⟨(([] : List Int)), (0), prs, H', ⟨Nat.le_refl _⟩, ⟨knl⟩, ⟨pbk aa.1⟩, ⟨pbg⟩⟩
 clear H'
 obtain ⟨ao, ag, rfl, HA, a6, ai, aa, HB⟩ := hrel
 obtain _ | k1 := gk
 ·exact absurd HA.1 (by simp [r09_Consumers.l0])
 have H := HA.1
 clear HA
 simp only [r09_Consumers.l0] at H
 have bk := am H
 clear H
 go_upto_region 3 with (fail)
 go_cut [15] (fun bx wc => ∃ (kq : Nat) (ap : Bool), bx = .bool ap ∧ Aside0 (r09_Consumers.j1 kq a1 ao ag ap aj ah af = some r) ∧ Aside0 (kq ≤ k1) ∧ Aside0 (Kd.R (Kd.int .i64) 3 wc w.heap.size (fun _ => True) u5 ao) ∧ Aside0 (wc.heap[aN]? = some (.cells #[.string aj, (.slice av ah.length aC), (.slice aw af.length aD)] 25 (0, 0))) ∧ Aside0 (Below w.heap.size w wc))
 case first =>
  have H := bk.1
  clear bk
  replace H := ifl H
  rcases H with ⟨aq, H⟩ | ⟨aq, H⟩
  rotate_left
  ·(first | rw [aq] | (simp only [i64_w, i32_w]; rw [aq]) | skip)
   have H' := am H
   clear H
   have z9 := cf3 aa.1
   go_wp2
   go_meet
   case rel => exact ⟨_, (false), prs, H', ⟨by have := a6.1; first | omega | exact Nat.le_refl _⟩, ⟨pkr ai.1⟩, ⟨pbk aa.1⟩, ⟨pbg⟩⟩
  (first | rw [aq] | (simp only [i64_w, i32_w]; rw [aq]) | skip)
  replace H := bnd H
  obtain ⟨aK, A6, H⟩ := H
  (try dsimp only at H)
  have H' := am H
  clear H
  have z7 := cf3 aa.1
  go_wp2_with (first | (go_at_call 56; (with_reducible refine (r09_Valid.calls k1 aj _ _ ah _ _ af aK _ ?side1 ?side2 ?side3 ?side4 A6.1).mono ?_); (case side1 => exact csb bb HB); (case side2 => exact a8.1); (case side3 => exact csb ar HB); (case side4 => exact a9.1); rintro e w8 ⟨rfl, hb⟩; replace ai := rbw ai hb; replace aa := bbh aa hb; replace HB := bst hb; (try clear hb)))
  go_meet
  case rel => exact ⟨_, (aK), prs, H', ⟨by have := a6.1; first | omega | exact Nat.le_refl _⟩, ⟨pkr ai.1⟩, ⟨pbk aa.1⟩, ⟨pbg⟩⟩
 clear bk
 try clear c5 aq z7 z9
 obtain ⟨kq, ap, rfl, HA, bj, ai, aa, HB⟩ := hcut
 obtain _ | bh := kq
 ·exact absurd HA.1 (by simp [r09_Consumers.j1])
 have H := HA.1
 clear HA
 simp only [r09_Consumers.j1] at H
 cases ap
 ·rw [if_neg Bool.false_ne_true] at H
  obtain rfl := Option.some.inj H
  go_wp2
  go_ret
  exact ⟨_, per, by (with_reducible repeat (first | apply Kd.R_alloc | apply Kd.R_drewN | apply Kd.R_drew)); exact ai.1, pbg⟩
 rw [if_pos rfl] at H
 replace H := ifp H
 obtain ⟨bq, H⟩ := H
 have br := decide_eq_true bq
 clear bq
 replace H := ifp H
 obtain ⟨bs, H⟩ := H
 have bu := decide_eq_true bs
 clear bs
 replace H := bnd H
 obtain ⟨aM, A13, H⟩ := H
 (try dsimp only at H)
 replace H := ifg H
 rcases H with ⟨bg, H⟩ | ⟨bg, H⟩
 rotate_left
 ·have H' := am H
  clear H
  have bC := cf3 aa.1
  obtain ⟨bn, bo, bf, aV, aY, aW, aZ, aX, a4, a5, aE, aG, aH, aI, aJ, ak, al, ax, az, ay, aA⟩ := bT48 ar.1 HB.1 ag
  cases a5
  go_wp2_with (first | ((with_reducible refine gate_callee (f := 74) rfl ?_); refine gC 25 Try.func74 _ (r09_Weight.calls bh _ _ ((rd_T48 af ag).f1) a1 aM _ (csb al HB) ak.1 A13.1) ?_; rintro e w' ⟨rfl, ⟨nd, rfl⟩⟩; refine ⟨_, rfl, ?_⟩))
  go_roundg bh
  case measure => have := a6.1; have := bj.1; omega
  case rel => exact ⟨(ao), (wrap64 (ag + 1)), prs, H', ⟨by have := a6.1; have := bj.1; omega⟩, ⟨pkr ai.1⟩, ⟨pbk aa.1⟩, ⟨pbg⟩⟩
 replace H := ifp H
 obtain ⟨bv, H⟩ := H
 have bc := am bv
 clear bv
 obtain ⟨bi, au⟩ : ∃ y_ : List Int, y_ = (ao ++ [ag]) := ⟨_, rfl⟩
 replace H : (r09_Consumers.l0 bh a1 bi (wrap64 (ag + 1)) aj ah af) = some r := hrp au H
 have bd := am au
 clear au
 have H' := am H
 clear H
 have bB := cf3 aa.1
 obtain ⟨bn, bo, bf, aV, aY, aW, aZ, aX, a4, a5, aE, aG, aH, aI, aJ, ak, al, ax, az, ay, aA⟩ := bT48 ar.1 HB.1 ag
 cases a5
 go_wp2_with (first | ((with_reducible refine gate_callee (f := 74) rfl ?_); refine gC 25 Try.func74 _ (r09_Weight.calls bh _ _ ((rd_T48 af ag).f1) a1 aM _ (csb al HB) ak.1 A13.1) ?_; rintro e w' ⟨rfl, ⟨nd, rfl⟩⟩; refine ⟨_, rfl, ?_⟩) | ((with_reducible refine gate_builtin (b := .append) (xs := #[.tmp 27, .tmp 29]) rfl ?_); at_builtin; refine Kd.R_append (Kd.int .i64) (w0 := w) w.heap.size rfl (.tmp 27) (.tmp 29) 39 3 (.int .i64 0) 8 rfl Try.underlying39 info3 rfl (by decide) (by omega) u5 ao ag [.int .i64 ag] (fun _ => True) (fun _ => False) rfl rfl ?aP (fun _ hk => hk.elim) ?aF ?aO ?aB ?aS ?aL ?_; (case aP => exact rfl); (case aB => exact pbg); (case aF => exact (fun _ _ => trivial)); (case aO => exact (pkr ai.1)); (case aS => exact (below_size pbg)); (case aL => have := bc.1; omega); intro bz bA ho hb hg hat; rw [← bd.1] at ho; have ba := am ho; replace aa := (bgr aa hg (Kd.R_ne ai.1 aa.1 (by decide))); replace HB := am hb; clear ai; clear ho hb hg hat))
 go_roundg bh
 case measure => have := a6.1; have := bj.1; omega
 case rel => exact ⟨(bi), (wrap64 (ag + 1)), prs, H', ⟨by have := a6.1; have := bj.1; omega⟩, ⟨pkr ba.1⟩, ⟨pbk aa.1⟩, ⟨pbg⟩⟩

/-! ### r43_ends: function 36 -/
mutual
def r43_ends.l0 : Nat → Bool → List Int → Int → ByteArray → List (S52) → List (S48) → Option (List Int)
 | 0, _, _, _, _, _, _ => none
 | k + 1, x1, x5, x6, ae, ac, af => if x6 < (ac.length : Int) then ((r09_Valid.f k ae ac af).bind fun aM => (r43_ends.j1 k x1 x5 x6 aM ae ac af)) else (r43_ends.j1 k x1 x5 x6 false ae ac af)
def r43_ends.j1 : Nat → Bool → List Int → Int → Bool → ByteArray → List (S52) → List (S48) → Option (List Int)
 | 0, _, _, _, _, _, _, _ => none
 | k + 1, x1, x5, x6, bI, ae, ac, af => if bI = true then ((r09_Producers.f k ae ac af x6).bind fun al => (if x1 = true then ((r09_Consumers.f k ae ac af x6).bind fun ap => (if (ap.length : Int) = 0 then (if x5.length < 17592186044416 then (r43_ends.l0 k x1 (x5 ++ [x6]) (wrap64 (x6 + 1)) ae ac af) else (none)) else (r43_ends.l0 k x1 x5 (wrap64 (x6 + 1)) ae ac af))) else (if (al.length : Int) = 0 then (if x5.length < 17592186044416 then (r43_ends.l0 k x1 (x5 ++ [x6]) (wrap64 (x6 + 1)) ae ac af) else (none)) else (r43_ends.l0 k x1 x5 (wrap64 (x6 + 1)) ae ac af)))) else (some x5)
end
def r43_ends.f (k : Nat) (ak : ByteArray) (ai : List (S52)) (aj : List (S48)) (a1 : Bool) : Option (List Int) := r43_ends.l0 k a1 ([] : List Int) 0 ak ai aj
theorem r43_ends.mono_l : ∀ k, M6 r43_ends.l0 k ∧ M7 r43_ends.j1 k
 | 0 => ⟨fun _ _ _ _ _ _ r h => by simp [r43_ends.l0] at h, fun _ _ _ _ _ _ _ r h => by simp [r43_ends.j1] at h⟩
 | k + 1 => by
  obtain ⟨bq, br⟩ := r43_ends.mono_l k
  refine ⟨?_, ?_⟩ <;> dsimp only [M6, M7] <;> intros <;> (first | unfold r43_ends.l0 | unfold r43_ends.j1) <;> repeat' first | (with_reducible first | apply bq | apply br | apply r09_Consumers.mono | apply r09_Producers.mono | apply r09_Valid.mono | apply lr | apply ln | apply li | refine lb ?_ fun _ => ?_)
theorem r43_ends.mono : ∀ a0 a1 a2 a3 k, LeO (r43_ends.f k a0 a1 a2 a3) (r43_ends.f (k + 1) a0 a1 a2 a3) := by
 intro a0 a1 a2 a3 k
 obtain ⟨bq, br⟩ := r43_ends.mono_l k
 unfold r43_ends.f
 repeat' first | (with_reducible first | apply bq | apply br | apply r09_Consumers.mono | apply r09_Producers.mono | apply r09_Valid.mono | apply lr | apply ln | apply li | refine lb ?_ fun _ => ?_)
set_option maxHeartbeats 8000000 in
set_option maxRecDepth 100000 in
theorem r43_ends.calls (k : Nat) (ak : ByteArray) (aH : Option Addr) (aJ : Nat) (ai : List (S52)) (aI : Option Addr) (aK : Nat) (aj : List (S48)) (a1 : Bool) (r : List Int) (w : World) (aW : Kd.C k52 w aH ai.length ai) (aU : ai.length ≤ aJ) (aX : Kd.C k48 w aI aj.length aj) (aV : aj.length ≤ aK) (h : r43_ends.f k ak ai aj a1 = some r) :
  Calls Try.prog 36 #[.agg #[.string ak, .slice aH ai.length aJ, .slice aI aj.length aK], .bool a1] w fun e w' => ∃ v0_ : Value, e = .returned (v0_) ∧ Kd.R (Kd.int .i64) 3 w' w.heap.size (fun _ => True) v0_ r ∧ Below w.heap.size w w' := by
 have bE := Try.underlying25
 have au := am aW
 have aq := am aU
 clear aW aU
 have av := am aX
 have ar := am aV
 clear aX aV
 have HB := am (Below.refl w.heap.size w)
 have H := h
 unfold r43_ends.f at H
 clear h
 have H' := am H
 clear H
 go_enter Try.func36, Try.ntmps36
 go_wp2_with (first | ((with_reducible refine gate_dst (N := 2) rfl ?_); refine box_ev ?_; intro aT hg w3 hbox hb; have aa := am hbox; have aZ := gwl hg; have bu := aZ; replace HB := bsl hb; clear hb hbox hg))
 go_loopg [5, 6] k (fun kq v5 v6 w' => ∃ (aw : List Int) (ah : Int), v6 = .int .i64 ah ∧ Aside0 (r43_ends.l0 kq a1 aw ah ak ai aj = some r) ∧ Aside0 (kq ≤ k) ∧ Aside0 (Kd.R (Kd.int .i64) 3 w' w.heap.size (fun _ => True) v5 aw) ∧ Aside0 (w'.heap[aT]? = some (.cells #[.string ak, (.slice aH ai.length aJ), (.slice aI aj.length aK)] 25 (0, 0))) ∧ Aside0 (Below w.heap.size w w'))
 case atStart => exact ⟨(([] : List Int)), (0), prs, H', ⟨Nat.le_refl _⟩, ⟨knl⟩, ⟨pbk aa.1⟩, ⟨pbg⟩⟩
 clear H'
 obtain ⟨aw, ah, rfl, HA, aG, ab, aa, HB⟩ := hrel
 obtain _ | k1 := gk
 ·exact absurd HA.1 (by simp [r43_ends.l0])
 have H := HA.1
 clear HA
 simp only [r43_ends.l0] at H
 have bk := am H
 clear H
 go_upto_region 3 with (fail)
 go_cut [16] (fun bF wc => ∃ (kq : Nat) (ay : Bool), bF = .bool ay ∧ Aside0 (r43_ends.j1 kq a1 aw ah ay ak ai aj = some r) ∧ Aside0 (kq ≤ k1) ∧ Aside0 (Kd.R (Kd.int .i64) 3 wc w.heap.size (fun _ => True) u5 aw) ∧ Aside0 (wc.heap[aT]? = some (.cells #[.string ak, (.slice aH ai.length aJ), (.slice aI aj.length aK)] 25 (0, 0))) ∧ Aside0 (Below w.heap.size w wc))
 case first =>
  have H := bk.1
  clear bk
  replace H := ifl H
  rcases H with ⟨az, H⟩ | ⟨az, H⟩
  rotate_left
  ·(first | rw [az] | (simp only [i64_w, i32_w]; rw [az]) | skip)
   have H' := am H
   clear H
   have z9 := cf3 aa.1
   go_wp2
   go_meet
   case rel => exact ⟨_, (false), prs, H', ⟨by have := aG.1; first | omega | exact Nat.le_refl _⟩, ⟨pkr ab.1⟩, ⟨pbk aa.1⟩, ⟨pbg⟩⟩
  (first | rw [az] | (simp only [i64_w, i32_w]; rw [az]) | skip)
  replace H := bnd H
  obtain ⟨aM, A6, H⟩ := H
  (try dsimp only at H)
  have H' := am H
  clear H
  have z7 := cf3 aa.1
  go_wp2_with (first | (go_at_call 56; (with_reducible refine (r09_Valid.calls k1 ak _ _ ai _ _ aj aM _ ?side1 ?side2 ?side3 ?side4 A6.1).mono ?_); (case side1 => exact csb au HB); (case side2 => exact aq.1); (case side3 => exact csb av HB); (case side4 => exact ar.1); rintro e w8 ⟨rfl, hb⟩; replace ab := rbw ab hb; replace aa := bbh aa hb; replace HB := bst hb; (try clear hb)))
  go_meet
  case rel => exact ⟨_, (aM), prs, H', ⟨by have := aG.1; first | omega | exact Nat.le_refl _⟩, ⟨pkr ab.1⟩, ⟨pbk aa.1⟩, ⟨pbg⟩⟩
 clear bk
 try clear c5 az z7 z9
 obtain ⟨kq, ay, rfl, HA, aN, ab, aa, HB⟩ := hcut
 obtain _ | aA := kq
 ·exact absurd HA.1 (by simp [r43_ends.j1])
 have H := HA.1
 clear HA
 simp only [r43_ends.j1] at H
 cases ay
 ·rw [if_neg Bool.false_ne_true] at H
  obtain rfl := Option.some.inj H
  go_wp2
  go_ret
  exact ⟨_, per, by (with_reducible repeat (first | apply Kd.R_alloc | apply Kd.R_drewN | apply Kd.R_drew)); exact ab.1, pbg⟩
 rw [if_pos rfl] at H
 replace H := bnd H
 obtain ⟨al, A11, H⟩ := H
 (try dsimp only at H)
 by_cases bi : a1 = true
 rotate_left
 ·replace bi := Bool.eq_false_iff.mpr bi
  subst bi
  rw [if_neg Bool.false_ne_true] at H
  by_cases aR : (al.length : Int) = 0
  rotate_left
  ·rw [if_neg aR] at H
   have bc : ((al.length : Int) == 0) = false := beq_eq_false_iff_ne.mpr aR
   have bd : ((al.length : Int) != 0) = true := bne_iff_ne.mpr aR
   have bx : ¬ (al = []) := fun h_ => aR (by rw [h_]; rfl)
   have H' := am H
   clear H
   have bW := cf3 aa.1
   go_wp2_with (first | ((with_reducible refine gate_callee (f := 57) rfl ?_); refine gC 21 Try.func57 _ (r09_Producers.calls aA ak _ _ ai _ _ aj ah al _ (csb au HB) aq.1 (csb av HB) ar.1 A11.1) ?_; rintro e bQ ⟨aE, rfl, ao, hb⟩; refine ⟨_, rfl, ?_⟩; have ag := am (Kd.R_lower (Kd.R_new' ao (Kd.R_lt (pkr ab.1))) (below_size pbg)); replace ab := am (Kd.R_elder' (pkr ab.1) (Kd.R_base ao) hb); replace aa := bbh aa hb; replace HB := bst hb; (try clear hb); (try clear ao); obtain ⟨bB, bD, bp⟩ := Kd.R_slice ag.1; subst bp))
   go_roundg aA
   case measure => have := aG.1; have := aN.1; omega
   case rel => exact ⟨(aw), (wrap64 (ah + 1)), prs, H', ⟨by have := aG.1; have := aN.1; omega⟩, ⟨by (with_reducible repeat (first | apply Kd.R_alloc | apply Kd.R_drewN | apply Kd.R_drew)); exact Kd.R_mono ab.1 (fun _ hk => trivial)⟩, ⟨pbk aa.1⟩, ⟨pbg⟩⟩
  rw [if_pos aR] at H
  have bc : ((al.length : Int) == 0) = true := beq_iff_eq.mpr aR
  have bd : ((al.length : Int) != 0) = false := bne_eq_false_iff_eq.mpr aR
  clear aR
  replace H := ifp H
  obtain ⟨bz, H⟩ := H
  have a7 := am bz
  clear bz
  obtain ⟨bh, aD⟩ : ∃ y_ : List Int, y_ = (aw ++ [ah]) := ⟨_, rfl⟩
  replace H : (r43_ends.l0 aA false bh (wrap64 (ah + 1)) ak ai aj) = some r := hrp aD H
  have a9 := am aD
  clear aD
  have H' := am H
  clear H
  have bV := cf3 aa.1
  go_wp2_with (first | ((with_reducible refine gate_callee (f := 57) rfl ?_); refine gC 21 Try.func57 _ (r09_Producers.calls aA ak _ _ ai _ _ aj ah al _ (csb au HB) aq.1 (csb av HB) ar.1 A11.1) ?_; rintro e bO ⟨aE, rfl, ao, hb⟩; refine ⟨_, rfl, ?_⟩; have ag := am (Kd.R_lower (Kd.R_new' ao (Kd.R_lt (pkr ab.1))) (below_size pbg)); replace ab := am (Kd.R_elder' (pkr ab.1) (Kd.R_base ao) hb); replace aa := bbh aa hb; replace HB := bst hb; (try clear hb); (try clear ao); obtain ⟨bj, bl, bo⟩ := Kd.R_slice ag.1; subst bo) | ((with_reducible refine gate_builtin (b := .append) (xs := #[.tmp 29, .tmp 31]) rfl ?_); at_builtin; refine Kd.R_append (Kd.int .i64) (w0 := w) w.heap.size rfl (.tmp 29) (.tmp 31) 39 3 (.int .i64 0) 8 rfl Try.underlying39 info3 rfl (by decide) (by omega) u5 aw ah [.int .i64 ah] (fun k_ => some k_ ≠ (.slice bj al.length bl : Value).ownBlock) (fun _ => False) rfl rfl ?aP (fun _ hk => hk.elim) ?aF ?aO ?aB ?aS ?aL ?_; (case aP => exact rfl); (case aB => exact pbg); (case aF => exact (fun k_ hk => Kd.fresh' (Kd.R_lt (pkr ag.1)) k_ hk)); (case aO => exact (by (with_reducible repeat (first | apply Kd.R_alloc | apply Kd.R_drewN | apply Kd.R_drew)); exact Kd.R_mono ab.1 (fun _ hk => hk.2))); (case aS => exact (below_size pbg)); (case aL => have := a7.1; omega); intro bH bP ho hb hg hat; rw [← a9.1] at ho; have a5 := am ho; replace aa := (bgr aa hg (Kd.R_ne ab.1 aa.1 (by decide))); replace ag := am (Kd.R_after (ok := (fun _ => True)) (pkr ag.1) hg hat); replace HB := am hb; clear ab; clear ho hb hg hat))
  go_roundg aA
  case measure => have := aG.1; have := aN.1; omega
  case rel => exact ⟨(bh), (wrap64 (ah + 1)), prs, H', ⟨by have := aG.1; have := aN.1; omega⟩, ⟨by (with_reducible repeat (first | apply Kd.R_alloc | apply Kd.R_drewN | apply Kd.R_drew)); exact Kd.R_mono a5.1 (fun _ hk => trivial)⟩, ⟨pbk aa.1⟩, ⟨pbg⟩⟩
 subst bi
 rw [if_pos rfl] at H
 replace H := bnd H
 obtain ⟨ap, A13, H⟩ := H
 (try dsimp only at H)
 by_cases aQ : (ap.length : Int) = 0
 rotate_left
 ·rw [if_neg aQ] at H
  have ba : ((ap.length : Int) == 0) = false := beq_eq_false_iff_ne.mpr aQ
  have bb : ((ap.length : Int) != 0) = true := bne_iff_ne.mpr aQ
  have bv : ¬ (ap = []) := fun h_ => aQ (by rw [h_]; rfl)
  have H' := am H
  clear H
  have bT := cf3 aa.1
  go_wp2_with (first | ((with_reducible refine gate_callee (f := 57) rfl ?_); refine gC 21 Try.func57 _ (r09_Producers.calls aA ak _ _ ai _ _ aj ah al _ (csb au HB) aq.1 (csb av HB) ar.1 A11.1) ?_; rintro e bM ⟨aE, rfl, ao, hb⟩; refine ⟨_, rfl, ?_⟩; have ag := am (Kd.R_lower (Kd.R_new' ao (Kd.R_lt (pkr ab.1))) (below_size pbg)); replace ab := am (Kd.R_elder' (pkr ab.1) (Kd.R_base ao) hb); replace aa := bbh aa hb; replace HB := bst hb; (try clear hb); (try clear ao); have bU := cf3 aa.1) | ((with_reducible refine gate_callee (f := 58) rfl ?_); refine gC 25 Try.func58 _ (r09_Consumers.calls aA ak _ _ ai _ _ aj ah ap _ (csb au HB) aq.1 (csb av HB) ar.1 A13.1) ?_; rintro e bN ⟨bs, rfl, ao, hb⟩; refine ⟨_, rfl, ?_⟩; have ax := am (Kd.R_lower (Kd.R_new' (Kd.R_new' ao (Kd.R_lt (pkr ab.1))) (Kd.R_lt (pkr ag.1))) (below_size pbg)); replace ab := am (Kd.R_elder' (pkr ab.1) (Kd.R_base ao) hb); replace ag := am (Kd.R_elder' (pkr ag.1) (Kd.R_base ao) hb); replace aa := bbh aa hb; replace HB := bst hb; (try clear hb); (try clear ao); obtain ⟨bA, bC, bn⟩ := Kd.R_slice ax.1; subst bn))
  go_roundg aA
  case measure => have := aG.1; have := aN.1; omega
  case rel => exact ⟨(aw), (wrap64 (ah + 1)), prs, H', ⟨by have := aG.1; have := aN.1; omega⟩, ⟨by (with_reducible repeat (first | apply Kd.R_alloc | apply Kd.R_drewN | apply Kd.R_drew)); exact Kd.R_mono ab.1 (fun _ hk => trivial)⟩, ⟨pbk aa.1⟩, ⟨pbg⟩⟩
 rw [if_pos aQ] at H
 have ba : ((ap.length : Int) == 0) = true := beq_iff_eq.mpr aQ
 have bb : ((ap.length : Int) != 0) = false := bne_eq_false_iff_eq.mpr aQ
 clear aQ
 replace H := ifp H
 obtain ⟨bw, H⟩ := H
 have a6 := am bw
 clear bw
 obtain ⟨bg, aC⟩ : ∃ y_ : List Int, y_ = (aw ++ [ah]) := ⟨_, rfl⟩
 replace H : (r43_ends.l0 aA true bg (wrap64 (ah + 1)) ak ai aj) = some r := hrp aC H
 have a8 := am aC
 clear aC
 have H' := am H
 clear H
 have bR := cf3 aa.1
 go_wp2_with (first | ((with_reducible refine gate_callee (f := 57) rfl ?_); refine gC 21 Try.func57 _ (r09_Producers.calls aA ak _ _ ai _ _ aj ah al _ (csb au HB) aq.1 (csb av HB) ar.1 A11.1) ?_; rintro e bJ ⟨aE, rfl, ao, hb⟩; refine ⟨_, rfl, ?_⟩; have ag := am (Kd.R_lower (Kd.R_new' ao (Kd.R_lt (pkr ab.1))) (below_size pbg)); replace ab := am (Kd.R_elder' (pkr ab.1) (Kd.R_base ao) hb); replace aa := bbh aa hb; replace HB := bst hb; (try clear hb); (try clear ao); have bS := cf3 aa.1) | ((with_reducible refine gate_callee (f := 58) rfl ?_); refine gC 25 Try.func58 _ (r09_Consumers.calls aA ak _ _ ai _ _ aj ah ap _ (csb au HB) aq.1 (csb av HB) ar.1 A13.1) ?_; rintro e bK ⟨bs, rfl, ao, hb⟩; refine ⟨_, rfl, ?_⟩; have ax := am (Kd.R_lower (Kd.R_new' (Kd.R_new' ao (Kd.R_lt (pkr ab.1))) (Kd.R_lt (pkr ag.1))) (below_size pbg)); replace ab := am (Kd.R_elder' (pkr ab.1) (Kd.R_base ao) hb); replace ag := am (Kd.R_elder' (pkr ag.1) (Kd.R_base ao) hb); replace aa := bbh aa hb; replace HB := bst hb; (try clear hb); (try clear ao); obtain ⟨aY, bf, bm⟩ := Kd.R_slice ax.1; subst bm) | ((with_reducible refine gate_builtin (b := .append) (xs := #[.tmp 29, .tmp 31]) rfl ?_); at_builtin; refine Kd.R_append (Kd.int .i64) (w0 := w) w.heap.size rfl (.tmp 29) (.tmp 31) 39 3 (.int .i64 0) 8 rfl Try.underlying39 info3 rfl (by decide) (by omega) u5 aw ah [.int .i64 ah] (fun k_ => some k_ ≠ (aE : Value).ownBlock ∧ some k_ ≠ (.slice aY ap.length bf : Value).ownBlock) (fun _ => False) rfl rfl ?aP (fun _ hk => hk.elim) ?aF ?aO ?aB ?aS ?aL ?_; (case aP => exact rfl); (case aB => exact pbg); (case aF => exact (fun k_ hk => ⟨Kd.fresh' (Kd.R_lt (pkr ag.1)) k_ hk, Kd.fresh' (Kd.R_lt (pkr ax.1)) k_ hk⟩)); (case aO => exact (by (with_reducible repeat (first | apply Kd.R_alloc | apply Kd.R_drewN | apply Kd.R_drew)); exact Kd.R_mono ab.1 (fun _ hk => ⟨hk.1.2, hk.2⟩))); (case aS => exact (below_size pbg)); (case aL => have := a6.1; omega); intro bG bL ho hb hg hat; rw [← a8.1] at ho; have a4 := am ho; replace aa := (bgr aa hg (Kd.R_ne ab.1 aa.1 (by decide))); replace ag := am (Kd.R_after (ok := (fun k_ => some k_ ≠ (.slice aY ap.length bf : Value).ownBlock)) (by (with_reducible repeat (first | apply Kd.R_alloc | apply Kd.R_drewN | apply Kd.R_drew)); exact Kd.R_mono ag.1 (fun _ hk => ⟨hk.2, hk.1.2⟩)) hg hat); replace ax := am (Kd.R_after (ok := (fun k_ => some k_ ≠ (aE : Value).ownBlock)) (by (with_reducible repeat (first | apply Kd.R_alloc | apply Kd.R_drewN | apply Kd.R_drew)); exact Kd.R_mono ax.1 (fun _ hk => ⟨hk.2, hk.1.2⟩)) hg hat); replace HB := am hb; clear ab; clear ho hb hg hat))
 go_roundg aA
 case measure => have := aG.1; have := aN.1; omega
 case rel => exact ⟨(bg), (wrap64 (ah + 1)), prs, H', ⟨by have := aG.1; have := aN.1; omega⟩, ⟨by (with_reducible repeat (first | apply Kd.R_alloc | apply Kd.R_drewN | apply Kd.R_drew)); exact Kd.R_mono a4.1 (fun _ hk => trivial)⟩, ⟨pbk aa.1⟩, ⟨pbg⟩⟩

/-! ### r43_Source: function 13 -/
def r43_Source.f (k : Nat) (ah : ByteArray) (ab : List (S52)) (ac : List (S48)) : Option (Int × Bool) := (r43_ends.f k ah ab ac false).bind fun ae => (if (ae.length : Int) = 1 then (if 0 < (ae.length : Int) then (some (rd ae 0, true)) else (none)) else (some ((-1), false)))
theorem r43_Source.mono : ∀ a0 a1 a2 k, LeO (r43_Source.f k a0 a1 a2) (r43_Source.f (k + 1) a0 a1 a2) := by
 intro a0 a1 a2 k
 unfold r43_Source.f
 repeat' first | (with_reducible first | apply r43_ends.mono | apply lr | apply ln | apply li | refine lb ?_ fun _ => ?_)
set_option maxHeartbeats 8000000 in
set_option maxRecDepth 100000 in
theorem r43_Source.calls (k : Nat) (ah : ByteArray) (ax : Option Addr) (aA : Nat) (ab : List (S52)) (ay : Option Addr) (aB : Nat) (ac : List (S48)) (r1 : Int) (r2 : Bool) (w : World) (ar : Kd.C k52 w ax ab.length ab) (ap : ab.length ≤ aA) (au : Kd.C k48 w ay ac.length ac) (aq : ac.length ≤ aB) (h : r43_Source.f k ah ab ac = some (r1, r2)) :
  Calls Try.prog 13 #[.agg #[.string ah, .slice ax ab.length aA, .slice ay ac.length aB]] w fun e w' => e = .returned (.tuple #[.int .i64 r1, .bool r2]) ∧ Below w.heap.size w w' := by
 have aQ := Try.underlying25
 have al := am ar
 have aj := am ap
 clear ar ap
 have ao := am au
 have ak := am aq
 clear au aq
 have HB := am (Below.refl w.heap.size w)
 have H := h
 unfold r43_Source.f at H
 clear h
 replace H := bnd H
 obtain ⟨ae, A2, H⟩ := H
 (try dsimp only at H)
 replace H := ife H
 rcases H with ⟨aE, aF, H⟩ | ⟨aE, aF, H⟩
 rotate_left
 ·simp only [Option.some.injEq, Prod.mk.injEq] at H
  obtain ⟨rfl, rfl⟩ := H
  go_enter Try.func13, Try.ntmps13
  go_wp2_with (first | ((with_reducible refine gate_dst (N := 1) rfl ?_); refine box_ev ?_; intro aC hg w9 hbox hb; have aa := am hbox; have ai := gwl hg; have az := ai; replace HB := bsl hb; clear hb hbox hg; have aU := cf3 aa.1) | ((with_reducible refine gate_callee (f := 36) rfl ?_); refine gC 6 Try.func36 _ (r43_ends.calls k ah _ _ ab _ _ ac false ae _ (csb al HB) aj.1 (csb ao HB) ak.1 A2.1) ?_; rintro e aT ⟨aI, rfl, aD, hb⟩; refine ⟨_, rfl, ?_⟩; have af := am (Kd.R_lower aD (below_size pbg)); replace aa := bbh aa hb; replace HB := bst hb; (try clear hb); (try clear aD); obtain ⟨aL, aO, aH⟩ := Kd.R_slice af.1; subst aH))
  go_ret2
  exact ⟨per, pbg⟩
 replace H := ifp H
 obtain ⟨c4, H⟩ := H
 have aM := decide_eq_true c4
 have aN : decide (0 < ae.length) = true := decide_eq_true (by omega)
 clear c4
 simp only [Option.some.injEq, Prod.mk.injEq] at H
 obtain ⟨rfl, rfl⟩ := H
 go_enter Try.func13, Try.ntmps13
 go_wp2_with (first | ((with_reducible refine gate_dst (N := 1) rfl ?_); refine box_ev ?_; intro aC hg w5 hbox hb; have aa := am hbox; have ai := gwl hg; have az := ai; replace HB := bsl hb; clear hb hbox hg; have z6 := cf3 aa.1) | ((with_reducible refine gate_callee (f := 36) rfl ?_); refine gC 6 Try.func36 _ (r43_ends.calls k ah _ _ ab _ _ ac false ae _ (csb al HB) aj.1 (csb ao HB) ak.1 A2.1) ?_; rintro e w7 ⟨aI, rfl, aD, hb⟩; refine ⟨_, rfl, ?_⟩; have af := am (Kd.R_lower aD (below_size pbg)); replace aa := bbh aa hb; replace HB := bst hb; (try clear hb); (try clear aD); obtain ⟨aR, aS, aP⟩ := Kd.R_slice af.1; subst aP; have av : 0 ≤ (0 : Int) := (by omega); have aw : 0 < (ae.length : Int) := dq; obtain ⟨aJ, aG, ag⟩ := Kd.at_int (Kd.R_reads' af.1).2.2 0 av aw; cases aG; have aK : (0 < ae.length) = True := eq_true (by omega); (try rw [show ((0 : Int)).toNat = 0 from rfl] at ag); (try rw [Addr.add_zero'] at ag); replace av := eq_true av; replace aw := eq_true aw))
 go_ret2
 exact ⟨per, pbg⟩

/-! ### r43_Sink: function 15 -/
def r43_Sink.f (k : Nat) (ah : ByteArray) (ab : List (S52)) (ac : List (S48)) : Option (Int × Bool) := (r43_ends.f k ah ab ac true).bind fun ae => (if (ae.length : Int) = 1 then (if 0 < (ae.length : Int) then (some (rd ae 0, true)) else (none)) else (some ((-1), false)))
theorem r43_Sink.mono : ∀ a0 a1 a2 k, LeO (r43_Sink.f k a0 a1 a2) (r43_Sink.f (k + 1) a0 a1 a2) := by
 intro a0 a1 a2 k
 unfold r43_Sink.f
 repeat' first | (with_reducible first | apply r43_ends.mono | apply lr | apply ln | apply li | refine lb ?_ fun _ => ?_)
set_option maxHeartbeats 8000000 in
set_option maxRecDepth 100000 in
theorem r43_Sink.calls (k : Nat) (ah : ByteArray) (ax : Option Addr) (aA : Nat) (ab : List (S52)) (ay : Option Addr) (aB : Nat) (ac : List (S48)) (r1 : Int) (r2 : Bool) (w : World) (ar : Kd.C k52 w ax ab.length ab) (ap : ab.length ≤ aA) (au : Kd.C k48 w ay ac.length ac) (aq : ac.length ≤ aB) (h : r43_Sink.f k ah ab ac = some (r1, r2)) :
  Calls Try.prog 15 #[.agg #[.string ah, .slice ax ab.length aA, .slice ay ac.length aB]] w fun e w' => e = .returned (.tuple #[.int .i64 r1, .bool r2]) ∧ Below w.heap.size w w' := by
 have aQ := Try.underlying25
 have al := am ar
 have aj := am ap
 clear ar ap
 have ao := am au
 have ak := am aq
 clear au aq
 have HB := am (Below.refl w.heap.size w)
 have H := h
 unfold r43_Sink.f at H
 clear h
 replace H := bnd H
 obtain ⟨ae, A2, H⟩ := H
 (try dsimp only at H)
 replace H := ife H
 rcases H with ⟨aE, aF, H⟩ | ⟨aE, aF, H⟩
 rotate_left
 ·simp only [Option.some.injEq, Prod.mk.injEq] at H
  obtain ⟨rfl, rfl⟩ := H
  go_enter Try.func15, Try.ntmps15
  go_wp2_with (first | ((with_reducible refine gate_dst (N := 1) rfl ?_); refine box_ev ?_; intro aC hg w9 hbox hb; have aa := am hbox; have ai := gwl hg; have az := ai; replace HB := bsl hb; clear hb hbox hg; have aU := cf3 aa.1) | ((with_reducible refine gate_callee (f := 36) rfl ?_); refine gC 6 Try.func36 _ (r43_ends.calls k ah _ _ ab _ _ ac true ae _ (csb al HB) aj.1 (csb ao HB) ak.1 A2.1) ?_; rintro e aT ⟨aI, rfl, aD, hb⟩; refine ⟨_, rfl, ?_⟩; have af := am (Kd.R_lower aD (below_size pbg)); replace aa := bbh aa hb; replace HB := bst hb; (try clear hb); (try clear aD); obtain ⟨aL, aO, aH⟩ := Kd.R_slice af.1; subst aH))
  go_ret2
  exact ⟨per, pbg⟩
 replace H := ifp H
 obtain ⟨c4, H⟩ := H
 have aM := decide_eq_true c4
 have aN : decide (0 < ae.length) = true := decide_eq_true (by omega)
 clear c4
 simp only [Option.some.injEq, Prod.mk.injEq] at H
 obtain ⟨rfl, rfl⟩ := H
 go_enter Try.func15, Try.ntmps15
 go_wp2_with (first | ((with_reducible refine gate_dst (N := 1) rfl ?_); refine box_ev ?_; intro aC hg w5 hbox hb; have aa := am hbox; have ai := gwl hg; have az := ai; replace HB := bsl hb; clear hb hbox hg; have z6 := cf3 aa.1) | ((with_reducible refine gate_callee (f := 36) rfl ?_); refine gC 6 Try.func36 _ (r43_ends.calls k ah _ _ ab _ _ ac true ae _ (csb al HB) aj.1 (csb ao HB) ak.1 A2.1) ?_; rintro e w7 ⟨aI, rfl, aD, hb⟩; refine ⟨_, rfl, ?_⟩; have af := am (Kd.R_lower aD (below_size pbg)); replace aa := bbh aa hb; replace HB := bst hb; (try clear hb); (try clear aD); obtain ⟨aR, aS, aP⟩ := Kd.R_slice af.1; subst aP; have av : 0 ≤ (0 : Int) := (by omega); have aw : 0 < (ae.length : Int) := dq; obtain ⟨aJ, aG, ag⟩ := Kd.at_int (Kd.R_reads' af.1).2.2 0 av aw; cases aG; have aK : (0 < ae.length) = True := eq_true (by omega); (try rw [show ((0 : Int)).toNat = 0 from rfl] at ag); (try rw [Addr.add_zero'] at ag); replace av := eq_true av; replace aw := eq_true aw))
 go_ret2
 exact ⟨per, pbg⟩

/-! ### r09_Plain: function 42 -/
mutual
def r09_Plain.l0 : Nat → Int → ByteArray → List (S52) → List (S48) → Option (Bool)
 | 0, _, _, _, _ => none
 | k + 1, x3, ak, ae, ac => if x3 < (ae.length : Int) then (if 0 ≤ x3 then (if ((rd_T52 ae x3).f2) = 0 then (r09_Plain.l0 k (wrap64 (x3 + 1)) ak ae ac) else (some false)) else (none)) else (r09_Plain.l1 k 0 ak ae ac)
def r09_Plain.l1 : Nat → Int → ByteArray → List (S52) → List (S48) → Option (Bool)
 | 0, _, _, _, _ => none
 | k + 1, x4, ak, ae, ac => if x4 < (ac.length : Int) then (if 0 ≤ x4 then (if (((rd_T48 ac x4).f3).length : Int) > 0 then (some false) else (if ((rd_T48 ac x4).f4) = 0 then (r09_Plain.l1 k (wrap64 (x4 + 1)) ak ae ac) else (some false))) else (none)) else (some true)
end
def r09_Plain.f (k : Nat) (ao : ByteArray) (af : List (S52)) (ab : List (S48)) : Option (Bool) := (r09_Valid.f k ao af ab).bind fun bm => (if bm = true then (r09_Plain.l0 k 0 ao af ab) else (some false))
theorem r09_Plain.mono_l : ∀ k, M4 r09_Plain.l0 k ∧ M4 r09_Plain.l1 k
 | 0 => ⟨fun _ _ _ _ r h => by simp [r09_Plain.l0] at h, fun _ _ _ _ r h => by simp [r09_Plain.l1] at h⟩
 | k + 1 => by
  obtain ⟨bG, bH⟩ := r09_Plain.mono_l k
  refine ⟨?_, ?_⟩ <;> dsimp only [M4] <;> intros <;> (first | unfold r09_Plain.l0 | unfold r09_Plain.l1) <;> repeat' first | (with_reducible first | apply bG | apply bH | apply r09_Valid.mono | apply lr | apply ln | apply li | refine lb ?_ fun _ => ?_)
theorem r09_Plain.mono : ∀ a0 a1 a2 k, LeO (r09_Plain.f k a0 a1 a2) (r09_Plain.f (k + 1) a0 a1 a2) := by
 intro a0 a1 a2 k
 obtain ⟨bG, bH⟩ := r09_Plain.mono_l k
 unfold r09_Plain.f
 repeat' first | (with_reducible first | apply bG | apply bH | apply r09_Valid.mono | apply lr | apply ln | apply li | refine lb ?_ fun _ => ?_)
set_option maxHeartbeats 8000000 in
set_option maxRecDepth 100000 in
theorem r09_Plain.calls (k : Nat) (ao : ByteArray) (aS : Option Addr) (a3 : Nat) (af : List (S52)) (aT : Option Addr) (a4 : Nat) (ab : List (S48)) (r : Bool) (w : World) (bb : Kd.C k52 w aS af.length af) (a9 : af.length ≤ a3) (bc : Kd.C k48 w aT ab.length ab) (ba : ab.length ≤ a4) (h : r09_Plain.f k ao af ab = some r) :
  Calls Try.prog 42 #[.agg #[.string ao, .slice aS af.length a3, .slice aT ab.length a4]] w fun e w' => e = .returned (.bool r) ∧ Below w.heap.size w w' := by
 have bN := Try.underlying25
 have ax := am bb
 have a7 := am a9
 clear bb a9
 have al := am bc
 have a8 := am ba
 clear bc ba
 have HB := am (Below.refl w.heap.size w)
 have H := h
 unfold r09_Plain.f at H
 clear h
 replace H := bnd H
 obtain ⟨bm, A2, H⟩ := H
 (try dsimp only at H)
 cases bm
 ·rw [if_neg Bool.false_ne_true] at H
  obtain rfl := Option.some.inj H
  go_enter Try.func42, Try.ntmps42
  go_wp2_with (first | ((with_reducible refine gate_dst (N := 1) rfl ?_); refine box_ev ?_; intro aR hg bR hbox hb; have aa := am hbox; have aL := gwl hg; have bo := aL; replace HB := bsl hb; clear hb hbox hg; have bX := cf3 aa.1) | ((with_reducible refine gate_callee (f := 56) rfl ?_); refine gC 6 Try.func56 _ (r09_Valid.calls k ao _ _ af _ _ ab false _ (csb ax HB) a7.1 (csb al HB) a8.1 A2.1) ?_; rintro e bS ⟨rfl, hb⟩; refine ⟨_, rfl, ?_⟩; replace aa := bbh aa hb; replace HB := bst hb; (try clear hb)))
  go_ret
  exact ⟨per, pbg⟩
 rw [if_pos rfl] at H
 have H' := am H
 clear H
 go_enter Try.func42, Try.ntmps42
 go_wp2_with (first | ((with_reducible refine gate_dst (N := 1) rfl ?_); refine box_ev ?_; intro aR hg w4 hbox hb; have aa := am hbox; have aL := gwl hg; have bo := aL; replace HB := bsl hb; clear hb hbox hg; have z5 := cf3 aa.1) | ((with_reducible refine gate_callee (f := 56) rfl ?_); refine gC 6 Try.func56 _ (r09_Valid.calls k ao _ _ af _ _ ab true _ (csb ax HB) a7.1 (csb al HB) a8.1 A2.1) ?_; rintro e w6 ⟨rfl, hb⟩; refine ⟨_, rfl, ?_⟩; replace aa := bbh aa hb; replace HB := bst hb; (try clear hb)))
 go_loopg [3] k (fun kq v3 w' => ∃ (aH : Int), v3 = .int .i64 aH ∧ Aside0 (r09_Plain.l0 kq aH ao af ab = some r) ∧ Aside0 (kq ≤ k) ∧ Aside0 (w'.heap[aR]? = some (.cells #[.string ao, (.slice aS af.length a3), (.slice aT ab.length a4)] 25 (0, 0))) ∧ Aside0 (Below w.heap.size w w'))
 case atStart => exact ⟨(0), prs, H', ⟨Nat.le_refl _⟩, ⟨pbk aa.1⟩, ⟨pbg⟩⟩
 clear H'
 try clear z5
 obtain ⟨aH, rfl, HA, bE, aa, HB⟩ := hrel
 obtain _ | k1 := gk
 ·exact absurd HA.1 (by simp [r09_Plain.l0])
 have H := HA.1
 clear HA
 simp only [r09_Plain.l0] at H
 replace H := ifl H
 rcases H with ⟨bw, H⟩ | ⟨bw, H⟩
 ·replace H := ifp H
  obtain ⟨c8, H⟩ := H
  have bF := decide_eq_true c8
  clear c8
  replace H := ife H
  rcases H with ⟨bx, bz, H⟩ | ⟨bx, bz, H⟩
  rotate_left
  ·obtain rfl := Option.some.inj H
   have bP := cf3 aa.1
   obtain ⟨bA, bC, bp, bk, aC, aD, aE⟩ := bT52 ax.1 HB.1 aH
   cases bk
   go_wp2
   go_ret
   exact ⟨per, pbg⟩
  have H' := am H
  clear H
  have bO := cf3 aa.1
  obtain ⟨bA, bC, bp, bk, aC, aD, aE⟩ := bT52 ax.1 HB.1 aH
  cases bk
  go_wp2
  go_roundg k1
  case measure => have := bE.1; omega
  case rel => exact ⟨(wrap64 (aH + 1)), prs, H', ⟨by have := bE.1; omega⟩, ⟨pbk aa.1⟩, ⟨pbg⟩⟩
 have H' := am H
 clear H
 have bQ := cf3 aa.1
 go_wp2
 go_loopg [4] k1 (fun kq v4 w' => ∃ (ag : Int), v4 = .int .i64 ag ∧ Aside0 (r09_Plain.l1 kq ag ao af ab = some r) ∧ Aside0 (kq ≤ k1) ∧ Aside0 (w'.heap[aR]? = some (.cells #[.string ao, (.slice aS af.length a3), (.slice aT ab.length a4)] 25 (0, 0))) ∧ Aside0 (Below w.heap.size w w'))
 case atStart => exact ⟨(0), prs, H', ⟨Nat.le_refl _⟩, ⟨pbk aa.1⟩, ⟨pbg⟩⟩
 clear H'
 try clear c3 bw c8 bF c9 bx bz bO bP bQ z5 aC aD aE bA bC
 obtain ⟨ag, rfl, HA, bK, aa, HB⟩ := hrel
 obtain _ | k2 := gk
 ·exact absurd HA.1 (by simp [r09_Plain.l1])
 have H := HA.1
 clear HA
 simp only [r09_Plain.l1] at H
 replace H := ifl H
 rcases H with ⟨bq, H⟩ | ⟨bq, H⟩
 rotate_left
 ·obtain rfl := Option.some.inj H
  have bW := cf3 aa.1
  go_wp2
  go_ret
  exact ⟨per, pbg⟩
 replace H := ifp H
 obtain ⟨bL, H⟩ := H
 have bM := decide_eq_true bL
 clear bL
 by_cases bn : (((rd_T48 ab ag).f3).length : Int) > 0
 ·rw [if_pos bn] at H
  have br : decide (0 < (((rd_T48 ab ag).f3).length : Int)) = true := decide_eq_true bn
  have bs : decide (0 < ((rd_T48 ab ag).f3).length) = true := decide_eq_true (by omega)
  clear bn
  obtain rfl := Option.some.inj H
  have bT := cf3 aa.1
  obtain ⟨bB, bD, aB, aI, aN, aJ, aO, aK, aP, aQ, aF, ah, ai, aj, aG, au, ay, av, az, aw, aA⟩ := bT48 al.1 HB.1 ag
  cases aQ
  go_wp2
  go_ret
  exact ⟨per, pbg⟩
 rw [if_neg bn] at H
 have br : decide (0 < (((rd_T48 ab ag).f3).length : Int)) = false := decide_eq_false bn
 have bs : decide (0 < ((rd_T48 ab ag).f3).length) = false := decide_eq_false (by omega)
 clear bn
 replace H := ife H
 rcases H with ⟨bu, bv, H⟩ | ⟨bu, bv, H⟩
 rotate_left
 ·obtain rfl := Option.some.inj H
  have bV := cf3 aa.1
  obtain ⟨bB, bD, aB, aI, aN, aJ, aO, aK, aP, aQ, aF, ah, ai, aj, aG, au, ay, av, az, aw, aA⟩ := bT48 al.1 HB.1 ag
  cases aQ
  obtain ⟨bI, bJ, aM, bd, bh, bf, bi, bg, bj, bl, a5, ap, aq, ar, a6, aU, aX, aV, aY, aW, aZ⟩ := bT48 al.1 HB.1 ag
  obtain rfl : aB = aM := (by injection bl)
  have ea_ := Option.some.inj (ah.symm.trans ap)
  injection ea_ with ea_ en_ ec_
  subst ea_
  subst ec_
  clear en_
  have ea_ := Option.some.inj (ai.symm.trans aq)
  injection ea_ with ea_ en_ ec_
  subst ea_
  subst ec_
  clear en_
  have ea_ := Option.some.inj (aj.symm.trans ar)
  injection ea_ with ea_ en_ ec_
  subst ea_
  subst ec_
  clear en_
  go_wp2
  go_ret
  exact ⟨per, pbg⟩
 have H' := am H
 clear H
 have bU := cf3 aa.1
 obtain ⟨bB, bD, aB, aI, aN, aJ, aO, aK, aP, aQ, aF, ah, ai, aj, aG, au, ay, av, az, aw, aA⟩ := bT48 al.1 HB.1 ag
 cases aQ
 obtain ⟨bI, bJ, aM, bd, bh, bf, bi, bg, bj, bl, a5, ap, aq, ar, a6, aU, aX, aV, aY, aW, aZ⟩ := bT48 al.1 HB.1 ag
 obtain rfl : aB = aM := (by injection bl)
 have ea_ := Option.some.inj (ah.symm.trans ap)
 injection ea_ with ea_ en_ ec_
 subst ea_
 subst ec_
 clear en_
 have ea_ := Option.some.inj (ai.symm.trans aq)
 injection ea_ with ea_ en_ ec_
 subst ea_
 subst ec_
 clear en_
 have ea_ := Option.some.inj (aj.symm.trans ar)
 injection ea_ with ea_ en_ ec_
 subst ea_
 subst ec_
 clear en_
 go_wp2
 go_roundg k2
 case measure => have := bE.1; have := bK.1; omega
 case rel => exact ⟨(wrap64 (ag + 1)), prs, H', ⟨by have := bE.1; have := bK.1; omega⟩, ⟨pbk aa.1⟩, ⟨pbg⟩⟩

/-! ### r09_Targets: function 79 -/
def r09_Targets.l0 : Nat → List (S55) → List Int → Int → Option (List Int)
 | 0, _, _, _ => none
 | k + 1, x0, x3, x4 => if x4 < (x0.length : Int) then (if 0 ≤ x4 then (if x3.length < 17592186044416 then (r09_Targets.l0 k x0 (x3 ++ [(rd_T55 x0 x4).f0]) (wrap64 (x4 + 1))) else (none)) else (none)) else (some x3)
def r09_Targets.f (k : Nat) (l0 : List (S55)) : Option (List Int) := r09_Targets.l0 k l0 ([] : List Int) 0
theorem r09_Targets.mono_l : ∀ k, M3 r09_Targets.l0 k
 | 0 => fun _ _ _ r h => by simp [r09_Targets.l0] at h
 | k + 1 => by
  have ap := r09_Targets.mono_l k
  ·intro y0 y1 y2
   unfold r09_Targets.l0
   repeat' first | (with_reducible first | apply ap | apply lr | apply ln | apply li | refine lb ?_ fun _ => ?_)
theorem r09_Targets.mono : ∀ a0 k, LeO (r09_Targets.f k a0) (r09_Targets.f (k + 1) a0) := by
 intro a0 k
 have ap := r09_Targets.mono_l k
 unfold r09_Targets.f
 repeat' first | (with_reducible first | apply ap | apply lr | apply ln | apply li | refine lb ?_ fun _ => ?_)
set_option maxHeartbeats 8000000 in
set_option maxRecDepth 100000 in
theorem r09_Targets.calls (k : Nat) (A0 : Option Addr) (c0 : Nat) (l0 : List (S55)) (r : List Int) (w : World) (au : Kd.C k55 w A0 l0.length l0) (hc0 : l0.length ≤ c0) (h : r09_Targets.f k l0 = some r) :
  Calls Try.prog 79 #[.slice A0 l0.length c0] w fun e w' => ∃ v0_ : Value, e = .returned (v0_) ∧ Kd.R (Kd.int .i64) 3 w' w.heap.size (fun _ => True) v0_ r ∧ Below w.heap.size w w' := by
 have av := am au
 have aA := am hc0
 clear au hc0
 have HB := am (Below.refl w.heap.size w)
 have H := h
 unfold r09_Targets.f at H
 clear h
 have H' := am H
 clear H
 go_enter Try.func79, Try.ntmps79
 go_wp2
 go_loopg [3, 4] k (fun kq v3 v4 w' => ∃ (ac : List Int) (aa : Int), v4 = .int .i64 aa ∧ Aside0 (r09_Targets.l0 kq l0 ac aa = some r) ∧ Aside0 (kq ≤ k) ∧ Aside0 (Kd.R (Kd.int .i64) 3 w' w.heap.size (fun _ => True) v3 ac) ∧ Aside0 (Below w.heap.size w w'))
 case atStart => exact ⟨(([] : List Int)), (0), prs, H', ⟨Nat.le_refl _⟩, ⟨knl⟩, ⟨pbg⟩⟩
 clear H'
 obtain ⟨ac, aa, rfl, HA, aq, ae, HB⟩ := hrel
 obtain _ | k1 := gk
 ·exact absurd HA.1 (by simp [r09_Targets.l0])
 have H := HA.1
 clear HA
 simp only [r09_Targets.l0] at H
 replace H := ifl H
 rcases H with ⟨al, H⟩ | ⟨al, H⟩
 rotate_left
 ·obtain rfl := Option.some.inj H
  go_wp2
  go_ret
  exact ⟨_, per, by (with_reducible repeat (first | apply Kd.R_alloc | apply Kd.R_drewN | apply Kd.R_drew)); exact ae.1, pbg⟩
 replace H := ifp H
 obtain ⟨c3, H⟩ := H
 have aw := decide_eq_true c3
 clear c3
 replace H := ifp H
 obtain ⟨c4, H⟩ := H
 have ak := am c4
 clear c4
 obtain ⟨ah, ab⟩ : ∃ y_ : List Int, y_ = (ac ++ [(rd_T55 l0 aa).f0]) := ⟨_, rfl⟩
 replace H : (r09_Targets.l0 k1 l0 ah (wrap64 (aa + 1))) = some r := hrp ab H
 have ag := am ab
 clear ab
 have H' := am H
 clear H
 obtain ⟨ax, ay, ar, ao, ai, aj⟩ := bT55 av.1 HB.1 aa
 cases ao
 go_wp2_with (first | ((with_reducible refine gate_builtin (b := .append) (xs := #[.tmp 11, .tmp 17]) rfl ?_); at_builtin; refine Kd.R_append (Kd.int .i64) (w0 := w) w.heap.size rfl (.tmp 11) (.tmp 17) 39 3 (.int .i64 0) 8 rfl Try.underlying39 info3 rfl (by decide) (by omega) u3 ac ((rd_T55 l0 aa).f0) [.int .i64 ((rd_T55 l0 aa).f0)] (fun _ => True) (fun _ => False) rfl rfl ?aP (fun _ hk => hk.elim) ?aF ?aO ?aB ?aS ?aL ?_; (case aP => exact rfl); (case aB => exact pbl); (case aF => exact (fun _ _ => trivial)); (case aO => exact (pkr ae.1)); (case aS => exact (below_size pbl)); (case aL => have := ak.1; omega); intro az w5 ho hb hg hat; rw [← ag.1] at ho; have af := am ho; replace HB := am hb; clear ae; clear ho hb hg hat))
 go_roundg k1
 case measure => have := aq.1; omega
 case rel => exact ⟨(ah), (wrap64 (aa + 1)), prs, H', ⟨by have := aq.1; omega⟩, ⟨pkr af.1⟩, ⟨pbg⟩⟩

/-! ### r13_Flow: function 68 -/
mutual
def r13_Flow.l0 : Nat → List (List Int) → Int → ByteArray → List (S52) → List (S48) → Option ((List (List Int)))
 | 0, _, _, _, _, _ => none
 | k + 1, x3, x4, ag, ac, ab => if x4 < (ac.length : Int) then (r13_Flow.l1 k x3 x4 ([] : List Int) 0 ag ac ab) else (r13_Flow.l2 k x3 0 ag ac ab)
def r13_Flow.l1 : Nat → List (List Int) → Int → List Int → Int → ByteArray → List (S52) → List (S48) → Option ((List (List Int)))
 | 0, _, _, _, _, _, _, _ => none
 | k + 1, x3, x4, x5, x6, ag, ac, ab => if x6 < (ab.length : Int) then (if 0 ≤ x6 then ((r09_Weight.f k ((rd_T48 ab x6).f1) x4).bind fun a3 => (if a3 > 0 then (if x5.length < 17592186044416 then (r13_Flow.l1 k x3 x4 (x5 ++ [wrap64 ((ac.length : Int) + x6)]) (wrap64 (x6 + 1)) ag ac ab) else (none)) else (r13_Flow.l1 k x3 x4 x5 (wrap64 (x6 + 1)) ag ac ab))) else (none)) else (if x3.length < 5864062014805 then (r13_Flow.l0 k (x3 ++ [x5]) (wrap64 (x4 + 1)) ag ac ab) else (none))
def r13_Flow.l2 : Nat → List (List Int) → Int → ByteArray → List (S52) → List (S48) → Option ((List (List Int)))
 | 0, _, _, _, _, _ => none
 | k + 1, x3, x7, ag, ac, ab => if x7 < (ab.length : Int) then (if 0 ≤ x7 then ((r09_Targets.f k ((rd_T48 ab x7).f2)).bind fun av => (if x3.length < 5864062014805 then (r13_Flow.l2 k (x3 ++ [av]) (wrap64 (x7 + 1)) ag ac ab) else (none))) else (none)) else (some x3)
end
def r13_Flow.f (k : Nat) (ai : ByteArray) (ae : List (S52)) (af : List (S48)) : Option ((List (List Int))) := (r09_Valid.f k ai ae af).bind fun bm => (if bm = true then (r13_Flow.l0 k ([] : List (List Int)) 0 ai ae af) else (some ([] : List (List Int))))
theorem r13_Flow.mono_l : ∀ k, M5 r13_Flow.l0 k ∧ M7 r13_Flow.l1 k ∧ M5 r13_Flow.l2 k
 | 0 => ⟨fun _ _ _ _ _ r h => by simp [r13_Flow.l0] at h, fun _ _ _ _ _ _ _ r h => by simp [r13_Flow.l1] at h, fun _ _ _ _ _ r h => by simp [r13_Flow.l2] at h⟩
 | k + 1 => by
  obtain ⟨b7, b8, b9⟩ := r13_Flow.mono_l k
  refine ⟨?_, ?_, ?_⟩ <;> dsimp only [M5, M7] <;> intros <;> (first | unfold r13_Flow.l0 | unfold r13_Flow.l1 | unfold r13_Flow.l2) <;> repeat' first | (with_reducible first | apply b7 | apply b8 | apply b9 | apply r09_Targets.mono | apply r09_Valid.mono | apply r09_Weight.mono | apply lr | apply ln | apply li | refine lb ?_ fun _ => ?_)
theorem r13_Flow.mono : ∀ a0 a1 a2 k, LeO (r13_Flow.f k a0 a1 a2) (r13_Flow.f (k + 1) a0 a1 a2) := by
 intro a0 a1 a2 k
 obtain ⟨b7, b8, b9⟩ := r13_Flow.mono_l k
 unfold r13_Flow.f
 repeat' first | (with_reducible first | apply b7 | apply b8 | apply b9 | apply r09_Targets.mono | apply r09_Valid.mono | apply r09_Weight.mono | apply lr | apply ln | apply li | refine lb ?_ fun _ => ?_)
set_option maxHeartbeats 8000000 in
set_option maxRecDepth 100000 in
theorem r13_Flow.calls (k : Nat) (ai : ByteArray) (aG : Option Addr) (aJ : Nat) (ae : List (S52)) (aH : Option Addr) (aK : Nat) (af : List (S48)) (r : List (List Int)) (w : World) (bb : Kd.C k52 w aG ae.length ae) (a9 : ae.length ≤ aJ) (bc : Kd.C k48 w aH af.length af) (ba : af.length ≤ aK) (h : r13_Flow.f k ai ae af = some r) :
  Calls Try.prog 68 #[.agg #[.string ai, .slice aG ae.length aJ, .slice aH af.length aK]] w fun e w' => ∃ v0_ : Value, e = .returned (v0_) ∧ Kd.S (Kd.slice 3 (Kd.int .i64)) 39 w' w.heap.size (fun _ => True) v0_ r ∧ Below w.heap.size w w' := by
 have cg := Try.underlying25
 have a7 := am bb
 have a4 := am a9
 clear bb a9
 have au := am bc
 have a5 := am ba
 clear bc ba
 have HB := am (Below.refl w.heap.size w)
 have H := h
 unfold r13_Flow.f at H
 clear h
 replace H := bnd H
 obtain ⟨bm, A2, H⟩ := H
 (try dsimp only at H)
 cases bm
 ·rw [if_neg Bool.false_ne_true] at H
  obtain rfl := Option.some.inj H
  go_enter Try.func68, Try.ntmps68
  go_wp2_with (first | ((with_reducible refine gate_dst (N := 1) rfl ?_); refine box_ev ?_; intro ay hg cz hbox hb; have aa := am hbox; have aI := gwl hg; have bp := aI; replace HB := bsl hb; clear hb hbox hg; have cD := cf3 aa.1) | ((with_reducible refine gate_callee (f := 56) rfl ?_); refine gC 9 Try.func56 _ (r09_Valid.calls k ai _ _ ae _ _ af false _ (csb a7 HB) a4.1 (csb au HB) a5.1 A2.1) ?_; rintro e cA ⟨rfl, hb⟩; refine ⟨_, rfl, ?_⟩; replace aa := bbh aa hb; replace HB := bst hb; (try clear hb)))
  go_ret
  exact ⟨_, per, knl, pbg⟩
 rw [if_pos rfl] at H
 have H' := am H
 clear H
 go_enter Try.func68, Try.ntmps68
 go_wp2_with (first | ((with_reducible refine gate_dst (N := 1) rfl ?_); refine box_ev ?_; intro ay hg w4 hbox hb; have aa := am hbox; have aI := gwl hg; have bp := aI; replace HB := bsl hb; clear hb hbox hg; have z5 := cf3 aa.1) | ((with_reducible refine gate_callee (f := 56) rfl ?_); refine gC 9 Try.func56 _ (r09_Valid.calls k ai _ _ ae _ _ af true _ (csb a7 HB) a4.1 (csb au HB) a5.1 A2.1) ?_; rintro e w6 ⟨rfl, hb⟩; refine ⟨_, rfl, ?_⟩; replace aa := bbh aa hb; replace HB := bst hb; (try clear hb)))
 go_loopg [3, 4] k (fun kq v3 v4 w' => ∃ (ap : List (List Int)) (aq : Int), v4 = .int .i64 aq ∧ Aside0 (r13_Flow.l0 kq ap aq ai ae af = some r) ∧ Aside0 (kq ≤ k) ∧ Aside0 (Kd.S (Kd.slice 3 (Kd.int .i64)) 39 w' w.heap.size (fun _ => True) v3 ap) ∧ Aside0 (w'.heap[ay]? = some (.cells #[.string ai, (.slice aG ae.length aJ), (.slice aH af.length aK)] 25 (0, 0))) ∧ Aside0 (Below w.heap.size w w'))
 case atStart => exact ⟨(([] : List (List Int))), (0), prs, H', ⟨Nat.le_refl _⟩, ⟨knl⟩, ⟨pbk aa.1⟩, ⟨pbg⟩⟩
 clear H'
 try clear z5
 obtain ⟨ap, aq, rfl, HA, a6, ah, aa, HB⟩ := hrel
 obtain _ | k1 := gk
 ·exact absurd HA.1 (by simp [r13_Flow.l0])
 have H := HA.1
 clear HA
 simp only [r13_Flow.l0] at H
 replace H := ifl H
 rcases H with ⟨bk, H⟩ | ⟨bk, H⟩
 rotate_left
 ·have H' := am H
  clear H
  have cr := cf3 aa.1
  go_wp2
  go_loopg [3, 7] k1 (fun kq v3 v7 w' => ∃ (aR : List (List Int)) (aw : Int), v7 = .int .i64 aw ∧ Aside0 (r13_Flow.l2 kq aR aw ai ae af = some r) ∧ Aside0 (kq ≤ k1) ∧ Aside0 (Kd.S (Kd.slice 3 (Kd.int .i64)) 39 w' w.heap.size (fun _ => True) v3 aR) ∧ Aside0 (w'.heap[ay]? = some (.cells #[.string ai, (.slice aG ae.length aJ), (.slice aH af.length aK)] 25 (0, 0))) ∧ Aside0 (Below w.heap.size w w'))
  case atStart => exact ⟨(ap), (0), prs, H', ⟨Nat.le_refl _⟩, ⟨pks ah.1⟩, ⟨pbk aa.1⟩, ⟨pbg⟩⟩
  clear H'
  try clear c3 bk c9 bE c10 bC cu a8 bY bZ co cp cq cr z5 z8 az aA aC aD aE bH bI
  obtain ⟨aR, aw, rfl, HA, aW, ah, aa, HB⟩ := hrel
  obtain _ | k2 := gk
  ·exact absurd HA.1 (by simp [r13_Flow.l2])
  have H := HA.1
  clear HA
  simp only [r13_Flow.l2] at H
  replace H := ifl H
  rcases H with ⟨bD, H⟩ | ⟨bD, H⟩
  rotate_left
  ·obtain rfl := Option.some.inj H
   have cC := cf3 aa.1
   go_wp2
   go_ret
   exact ⟨_, per, by (with_reducible repeat (first | apply Kd.S_alloc | apply Kd.S_drewN | apply Kd.S_drew)); exact ah.1, pbg⟩
  replace H := ifp H
  obtain ⟨cb, H⟩ := H
  have cd := decide_eq_true cb
  clear cb
  replace H := bnd H
  obtain ⟨av, cf, H⟩ := H
  (try dsimp only at H)
  replace H := ifp H
  obtain ⟨ce, H⟩ := H
  have bw := am ce
  clear ce
  obtain ⟨bL, aQ⟩ : ∃ y_ : List (List Int), y_ = (aR ++ [av]) := ⟨_, rfl⟩
  replace H : (r13_Flow.l2 k2 bL (wrap64 (aw + 1)) ai ae af) = some r := hrp aQ H
  have bA := am aQ
  clear aQ
  have H' := am H
  clear H
  have cB := cf3 aa.1
  obtain ⟨ch, ci, ca, bV, b0, bW, b1, bX, b2, b3, bQ, bR, bS, bT, bU, bM, bO, aV, aZ, bN, bP⟩ := bT48 au.1 HB.1 aw
  cases b3
  go_wp2_with (first | ((with_reducible refine gate_callee (f := 79) rfl ?_); refine gC 60 Try.func79 _ (r09_Targets.calls k2 _ _ ((rd_T48 af aw).f2) av _ (csb aZ HB) aV.1 cf.1) ?_; rintro e cx ⟨cm, rfl, b6, hb⟩; refine ⟨_, rfl, ?_⟩; have ax := am (Kd.R_lower b6 (below_size pbg)); replace ah := am (Kd.S_elder' (pks ah.1) (Kd.R_base b6) hb); replace aa := bbh aa hb; replace HB := bst hb; (try clear hb); (try clear b6); obtain ⟨bo, bG, b5⟩ := Kd.R_slice ax.1; subst b5) | ((with_reducible refine gate_builtin (b := .append) (xs := #[.tmp 53, .tmp 61]) rfl ?_); at_builtin; refine Kd.S_append (Kd.slice 3 (Kd.int .i64)) (w0 := w) w.heap.size rfl (.tmp 53) (.tmp 61) 72 39 (.slice none 0 0) 24 rfl Try.underlying72 info39 rfl (by decide) (by omega) u3 aR av [.slice bo av.length bG] (fun _ => True) (fun k_ => some k_ = (.slice bo av.length bG : Value).ownBlock) rfl rfl ?aP (fun k_ hk_ => ((Kd.R_mono (ok' := fun k_ => ((fun _ => True)) k_ ∧ some k_ ≠ (u3 : Value).ownBlock) (Kd.R_apart' (ax.1) (Kd.S_typed ah.1) (by decide)) (fun k_ hk => ⟨trivial, hk.2⟩))).1 k_ hk_.symm) ?aF ?aO ?aB ?aS ?aL ?_; (case aP => exact Kd.M_row (Kd.R_mono (Kd.R_tight rfl (Kd.R_mono (ok' := fun k_ => ((fun _ => True)) k_ ∧ some k_ ≠ (u3 : Value).ownBlock) (Kd.R_apart' (ax.1) (Kd.S_typed ah.1) (by decide)) (fun k_ hk => ⟨trivial, hk.2⟩))) (fun _ h_ => h_))); (case aB => exact pbg); (case aF => exact (fun _ _ => trivial)); (case aO => exact (by (with_reducible repeat (first | apply Kd.S_alloc | apply Kd.S_drewN | apply Kd.S_drew)); exact Kd.S_mono ah.1 (fun k_ hk => ⟨trivial, fun e_ => hk.2 e_⟩))); (case aS => exact (below_size pbg)); (case aL => have := bw.1; omega); intro cn cy ho hb hg hat; rw [← bA.1] at ho; have bs := am ho; replace aa := (bgr aa hg (Kd.S_ne ah.1 aa.1 (by decide))); replace HB := am hb; (try clear ah ax); clear ho hb hg hat))
  go_roundg k2
  case measure => have := a6.1; have := aW.1; omega
  case rel => exact ⟨(bL), (wrap64 (aw + 1)), prs, H', ⟨by have := a6.1; have := aW.1; omega⟩, ⟨pks bs.1⟩, ⟨pbk aa.1⟩, ⟨pbg⟩⟩
 have H' := am H
 clear H
 have z8 := cf3 aa.1
 go_wp2
 go_loopg [5, 6] k1 (fun kq v5 v6 w' => ∃ (ak : List Int) (aj : Int), v6 = .int .i64 aj ∧ Aside0 (r13_Flow.l1 kq ap aq ak aj ai ae af = some r) ∧ Aside0 (kq ≤ k1) ∧ Aside0 (Kd.S (Kd.slice 3 (Kd.int .i64)) 39 w' w.heap.size (fun k_ => some k_ ≠ (v5 : Value).ownBlock) u3 ap) ∧ Aside0 (Kd.R (Kd.int .i64) 3 w' w.heap.size (fun _ => True) v5 ak) ∧ Aside0 (w'.heap[ay]? = some (.cells #[.string ai, (.slice aG ae.length aJ), (.slice aH af.length aK)] 25 (0, 0))) ∧ Aside0 (Below w.heap.size w w'))
 case atStart => exact ⟨(([] : List Int)), (0), prs, H', ⟨Nat.le_refl _⟩, ⟨by (with_reducible repeat (first | apply Kd.S_alloc | apply Kd.S_drewN | apply Kd.S_drew)); exact Kd.S_mono ah.1 (fun _ hk => (by simp [Value.ownBlock]))⟩, ⟨knl⟩, ⟨pbk aa.1⟩, ⟨pbg⟩⟩
 clear H'
 try clear c3 bk z5 z8
 obtain ⟨ak, aj, rfl, HA, aW, ah, ar, aa, HB⟩ := hrel
 obtain _ | k2 := gk
 ·exact absurd HA.1 (by simp [r13_Flow.l1])
 have H := HA.1
 clear HA
 simp only [r13_Flow.l1] at H
 replace H := ifl H
 rcases H with ⟨bE, H⟩ | ⟨bE, H⟩
 rotate_left
 ·replace H := ifp H
  obtain ⟨bZ, H⟩ := H
  have bv := am bZ
  clear bZ
  obtain ⟨bK, aN⟩ : ∃ y_ : List (List Int), y_ = (ap ++ [ak]) := ⟨_, rfl⟩
  replace H : (r13_Flow.l0 k2 bK (wrap64 (aq + 1)) ai ae af) = some r := hrp aN H
  have bz := am aN
  clear aN
  have H' := am H
  clear H
  have cq := cf3 aa.1
  obtain ⟨bn, bF, b4⟩ := Kd.R_slice ar.1
  subst b4
  go_wp2_with (first | ((with_reducible refine gate_builtin (b := .append) (xs := #[.tmp 42, .tmp 44]) rfl ?_); at_builtin; refine Kd.S_append (Kd.slice 3 (Kd.int .i64)) (w0 := w) w.heap.size rfl (.tmp 42) (.tmp 44) 72 39 (.slice none 0 0) 24 rfl Try.underlying72 info39 rfl (by decide) (by omega) u3 ap ak [.slice bn ak.length bF] (fun _ => True) (fun k_ => some k_ = (.slice bn ak.length bF : Value).ownBlock) rfl rfl ?aP (fun k_ hk_ => ((Kd.R_mono (ok' := fun k_ => ((fun _ => True)) k_ ∧ some k_ ≠ (u3 : Value).ownBlock) (Kd.R_apart' (ar.1) (Kd.S_typed ah.1) (by decide)) (fun k_ hk => ⟨trivial, hk.2⟩))).1 k_ hk_.symm) ?aF ?aO ?aB ?aS ?aL ?_; (case aP => exact Kd.M_row (Kd.R_mono (Kd.R_tight rfl (Kd.R_mono (ok' := fun k_ => ((fun _ => True)) k_ ∧ some k_ ≠ (u3 : Value).ownBlock) (Kd.R_apart' (ar.1) (Kd.S_typed ah.1) (by decide)) (fun k_ hk => ⟨trivial, hk.2⟩))) (fun _ h_ => h_))); (case aB => exact pbg); (case aF => exact (fun _ _ => trivial)); (case aO => exact (by (with_reducible repeat (first | apply Kd.S_alloc | apply Kd.S_drewN | apply Kd.S_drew)); exact Kd.S_mono ah.1 (fun k_ hk => ⟨trivial, fun e_ => hk e_⟩))); (case aS => exact (below_size pbg)); (case aL => have := bv.1; omega); intro ck cw ho hb hg hat; rw [← bz.1] at ho; have br := am ho; replace aa := (bgr aa hg (Kd.S_ne ah.1 aa.1 (by decide))); replace HB := am hb; (try clear ah ar); clear ho hb hg hat))
  go_roundg k2
  case measure => have := a6.1; have := aW.1; omega
  case rel => exact ⟨(bK), (wrap64 (aq + 1)), prs, H', ⟨by have := a6.1; have := aW.1; omega⟩, ⟨pks br.1⟩, ⟨pbk aa.1⟩, ⟨pbg⟩⟩
 replace H := ifp H
 obtain ⟨c10, H⟩ := H
 have bC := decide_eq_true c10
 clear c10
 replace H := bnd H
 obtain ⟨a3, A11, H⟩ := H
 (try dsimp only at H)
 replace H := ifg H
 rcases H with ⟨a8, H⟩ | ⟨a8, H⟩
 rotate_left
 ·have H' := am H
  clear H
  have cp := cf3 aa.1
  obtain ⟨bH, bI, bB, bd, bh, bf, bi, bg, bj, bl, az, aA, aC, aD, aE, al, ao, aT, aX, aU, aY⟩ := bT48 au.1 HB.1 aj
  cases bl
  go_wp2_with (first | ((with_reducible refine gate_callee (f := 74) rfl ?_); refine gC 32 Try.func74 _ (r09_Weight.calls k2 _ _ ((rd_T48 af aj).f1) aq a3 _ (csb ao HB) al.1 A11.1) ?_; rintro e w' ⟨rfl, ⟨nd, rfl⟩⟩; refine ⟨_, rfl, ?_⟩))
  go_roundg k2
  case measure => have := a6.1; have := aW.1; omega
  case rel => exact ⟨(ak), (wrap64 (aj + 1)), prs, H', ⟨by have := a6.1; have := aW.1; omega⟩, ⟨pks ah.1⟩, ⟨pkr ar.1⟩, ⟨pbk aa.1⟩, ⟨pbg⟩⟩
 replace H := ifp H
 obtain ⟨bY, H⟩ := H
 have bu := am bY
 clear bY
 obtain ⟨bJ, aM⟩ : ∃ y_ : List Int, y_ = (ak ++ [wrap64 ((ae.length : Int) + aj)]) := ⟨_, rfl⟩
 replace H : (r13_Flow.l1 k2 ap aq bJ (wrap64 (aj + 1)) ai ae af) = some r := hrp aM H
 have bx := am aM
 clear aM
 have H' := am H
 clear H
 have co := cf3 aa.1
 obtain ⟨bH, bI, bB, bd, bh, bf, bi, bg, bj, bl, az, aA, aC, aD, aE, al, ao, aT, aX, aU, aY⟩ := bT48 au.1 HB.1 aj
 cases bl
 go_wp2_with (first | ((with_reducible refine gate_callee (f := 74) rfl ?_); refine gC 32 Try.func74 _ (r09_Weight.calls k2 _ _ ((rd_T48 af aj).f1) aq a3 _ (csb ao HB) al.1 A11.1) ?_; rintro e w' ⟨rfl, ⟨nd, rfl⟩⟩; refine ⟨_, rfl, ?_⟩) | ((with_reducible refine gate_builtin (b := .append) (xs := #[.tmp 34, .tmp 40]) rfl ?_); at_builtin; refine Kd.R_append (Kd.int .i64) (w0 := w) w.heap.size rfl (.tmp 34) (.tmp 40) 39 3 (.int .i64 0) 8 rfl Try.underlying39 info3 rfl (by decide) (by omega) u5 ak (wrap64 ((ae.length : Int) + aj)) [.int .i64 (wrap64 ((ae.length : Int) + aj))] (fun _ => True) (fun _ => False) rfl rfl ?aP (fun _ hk => hk.elim) ?aF ?aO ?aB ?aS ?aL ?_; (case aP => exact rfl); (case aB => exact pbg); (case aF => exact (fun _ _ => trivial)); (case aO => exact (pkr ar.1)); (case aS => exact (below_size pbg)); (case aL => have := bu.1; omega); intro cj cv ho hb hg hat; rw [← bx.1] at ho; have bq := am ho; replace ah := am (Kd.S_after (ok := (fun _ => True)) (by (with_reducible repeat (first | apply Kd.S_alloc | apply Kd.S_drewN | apply Kd.S_drew)); exact Kd.S_mono ah.1 (fun _ hk => ⟨trivial, hk⟩)) hg hat); replace aa := (bgr aa hg (Kd.R_ne ar.1 aa.1 (by decide))); replace HB := am hb; clear ar; clear ho hb hg hat))
 go_roundg k2
 case measure => have := a6.1; have := aW.1; omega
 case rel => exact ⟨(bJ), (wrap64 (aj + 1)), prs, H', ⟨by have := a6.1; have := aW.1; omega⟩, ⟨by (with_reducible repeat (first | apply Kd.S_alloc | apply Kd.S_drewN | apply Kd.S_drew)); exact Kd.S_mono ah.1 (fun _ hk => hk.2)⟩, ⟨pkr bq.1⟩, ⟨pbk aa.1⟩, ⟨pbg⟩⟩

/-! ### r07_Table: function 81 -/
mutual
def r07_Table.l0 : Nat → List (List Int) → List (List Bool) → Int → Option ((List (List Bool)))
 | 0, _, _, _ => none
 | k + 1, x0, x3, x4 => if x4 < (x0.length : Int) then (if 0 ≤ (x0.length : Int) then (if ((x0.length : Int) : Int).toNat ≤ 281474976710656 then (r07_Table.l1 k x0 x3 x4 (List.replicate ((x0.length : Int) : Int).toNat false) 0) else (none)) else (none)) else (some x3)
def r07_Table.l1 : Nat → List (List Int) → List (List Bool) → Int → List Bool → Int → Option ((List (List Bool)))
 | 0, _, _, _, _, _ => none
 | k + 1, x0, x3, x4, x5, x6 => if 0 ≤ x4 then (if x4 < (x0.length : Int) then (if x6 < ((rd_L11 x0 x4).length : Int) then (if 0 ≤ x6 then (if (rd (rd_L11 x0 x4) x6) ≥ 0 then (if (rd (rd_L11 x0 x4) x6) < (x0.length : Int) then (if 0 ≤ (rd (rd_L11 x0 x4) x6) then (if (rd (rd_L11 x0 x4) x6) < (x5.length : Int) then (r07_Table.l1 k x0 x3 x4 (x5.set ((rd (rd_L11 x0 x4) x6) : Int).toNat true) (wrap64 (x6 + 1))) else (none)) else (none)) else (r07_Table.l1 k x0 x3 x4 x5 (wrap64 (x6 + 1)))) else (r07_Table.l1 k x0 x3 x4 x5 (wrap64 (x6 + 1)))) else (none)) else (if x3.length < 5864062014805 then (r07_Table.l0 k x0 (x3 ++ [x5]) (wrap64 (x4 + 1))) else (none))) else (none)) else (none)
end
def r07_Table.f (k : Nat) (l0 : List (List Int)) : Option ((List (List Bool))) := r07_Table.l0 k l0 ([] : List (List Bool)) 0
theorem r07_Table.mono_l : ∀ k, M3 r07_Table.l0 k ∧ M5 r07_Table.l1 k
 | 0 => ⟨fun _ _ _ r h => by simp [r07_Table.l0] at h, fun _ _ _ _ _ r h => by simp [r07_Table.l1] at h⟩
 | k + 1 => by
  obtain ⟨bN, bO⟩ := r07_Table.mono_l k
  refine ⟨?_, ?_⟩ <;> dsimp only [M3, M5] <;> intros <;> (first | unfold r07_Table.l0 | unfold r07_Table.l1) <;> repeat' first | (with_reducible first | apply bN | apply bO | apply lr | apply ln | apply li | refine lb ?_ fun _ => ?_)
theorem r07_Table.mono : ∀ a0 k, LeO (r07_Table.f k a0) (r07_Table.f (k + 1) a0) := by
 intro a0 k
 obtain ⟨bN, bO⟩ := r07_Table.mono_l k
 unfold r07_Table.f
 repeat' first | (with_reducible first | apply bN | apply bO | apply lr | apply ln | apply li | refine lb ?_ fun _ => ?_)
set_option maxHeartbeats 8000000 in
set_option maxRecDepth 100000 in
theorem r07_Table.calls (k : Nat) (A0 : Option Addr) (c0 : Nat) (l0 : List (List Int)) (r : List (List Bool)) (w : World) (b3 : Kd.C (Kd.slice 3 (Kd.int .i64)) w A0 l0.length l0) (hc0 : l0.length ≤ c0) (h : r07_Table.f k l0 = some r) :
  Calls Try.prog 81 #[.slice A0 l0.length c0] w fun e w' => ∃ v0_ : Value, e = .returned (v0_) ∧ Kd.S (Kd.slice 4 Kd.bool) 63 w' w.heap.size (fun _ => True) v0_ r ∧ Below w.heap.size w w' := by
 have aK := am b3
 have ce := am hc0
 clear b3 hc0
 have HB := am (Below.refl w.heap.size w)
 have H := h
 unfold r07_Table.f at H
 clear h
 have H' := am H
 clear H
 go_enter Try.func81, Try.ntmps81
 go_wp2
 go_loopg [3, 4] k (fun kq v3 v4 w' => ∃ (aq : List (List Bool)) (ab : Int), v4 = .int .i64 ab ∧ Aside0 (r07_Table.l0 kq l0 aq ab = some r) ∧ Aside0 (kq ≤ k) ∧ Aside0 (Kd.S (Kd.slice 4 Kd.bool) 63 w' w.heap.size (fun _ => True) v3 aq) ∧ Aside0 (Below w.heap.size w w'))
 case atStart => exact ⟨(([] : List (List Bool))), (0), prs, H', ⟨Nat.le_refl _⟩, ⟨knl⟩, ⟨pbg⟩⟩
 clear H'
 obtain ⟨aq, ab, rfl, HA, aT, ae, HB⟩ := hrel
 obtain _ | k1 := gk
 ·exact absurd HA.1 (by simp [r07_Table.l0])
 have H := HA.1
 clear HA
 simp only [r07_Table.l0] at H
 replace H := ifl H
 rcases H with ⟨bk, H⟩ | ⟨bk, H⟩
 rotate_left
 ·obtain rfl := Option.some.inj H
  go_wp2
  go_ret
  exact ⟨_, per, by (with_reducible repeat (first | apply Kd.S_alloc | apply Kd.S_drewN | apply Kd.S_drew)); exact ae.1, pbg⟩
 replace H := ifp H
 obtain ⟨c3, H⟩ := H
 have bB := eq_true c3
 have bC : decide (0 ≤ (l0.length : Int)) = true := decide_eq_true c3
 clear c3
 replace H := ifp H
 obtain ⟨c4, H⟩ := H
 have bE := eq_true c4
 have bF : decide (((l0.length : Int) : Int).toNat ≤ 281474976710656) = true := decide_eq_true c4
 clear c4
 obtain ⟨bu, aH⟩ : ∃ y_ : List Bool, y_ = (List.replicate ((l0.length : Int) : Int).toNat false) := ⟨_, rfl⟩
 replace H : (r07_Table.l1 k1 l0 aq ab bu 0) = some r := hrp aH H
 have aV := am aH
 clear aH
 have H' := am H
 clear H
 go_wp2_with (first | ((with_reducible refine gate_dst (N := 15) rfl ?_); (try (refine gate_guard (by rfl) ?_; dsimp only)); refine Kd.R_make Kd.bool _ 4 rfl (N := 15) rfl 63 _ _ rfl (l0.length : Int) rfl rfl Try.underlying63 (.bool false) 1 info4 rfl (by decide) (by omega) false (ok := fun _ => True) (okp := fun _ => True) rfl (fun _ hk => hk) trivial (dq) (Nat.le_trans (Nat.mul_le_mul_right _ (dq : (l0.length : Int).toNat ≤ 281474976710656)) (by omega)) (Below.refl _ _) (Nat.le_refl _) ?_; intro bs w5 a7 hb hg_ hnew_; clear hg_ hnew_; (first | rw [← aV.1] at a7 | (simp only [Int.reduceToNat] at a7; rw [← aV.1] at a7)); have ba := am (Kd.R_lower a7 (below_size pbl)); replace ae := am (Kd.S_elder' (pks ae.1) (Kd.R_base a7) hb); replace HB := bsl hb; clear hb a7))
 go_loopg [6] k1 (fun kq v6 w' => ∃ (ai : List Bool) (ac : Int), v6 = .int .i64 ac ∧ Aside0 (r07_Table.l1 kq l0 aq ab ai ac = some r) ∧ Aside0 (kq ≤ k1) ∧ Aside0 (Kd.S (Kd.slice 4 Kd.bool) 63 w' w.heap.size (fun k_ => some k_ ≠ (bs : Value).ownBlock) u3 aq) ∧ Aside0 (Kd.R Kd.bool 4 w' w.heap.size (fun _ => True) bs ai) ∧ Aside0 (Below w.heap.size w w'))
 case atStart => exact ⟨(bu), (0), prs, H', ⟨Nat.le_refl _⟩, ⟨by (with_reducible repeat (first | apply Kd.S_alloc | apply Kd.S_drewN | apply Kd.S_drew)); exact Kd.S_mono ae.1 (fun _ hk => hk.2)⟩, ⟨pkr ba.1⟩, ⟨pbg⟩⟩
 clear H'
 try clear bk c3 bB bC c4 bE bF
 obtain ⟨ai, ac, rfl, HA, aU, ae, aj, HB⟩ := hrel
 obtain _ | k2 := gk
 ·exact absurd HA.1 (by simp [r07_Table.l1])
 have H := HA.1
 clear HA
 simp only [r07_Table.l1] at H
 replace H := ifp H
 obtain ⟨c7, H⟩ := H
 have b5 := decide_eq_true c7
 clear c7
 replace H := ifp H
 obtain ⟨c8, H⟩ := H
 have b6 := decide_eq_true c8
 clear c8
 replace H := ifl H
 rcases H with ⟨bG, H⟩ | ⟨bG, H⟩
 rotate_left
 ·replace H := ifp H
  obtain ⟨b2, H⟩ := H
  have bc := am b2
  clear b2
  obtain ⟨bv, aJ⟩ : ∃ y_ : List (List Bool), y_ = (aq ++ [ai]) := ⟨_, rfl⟩
  replace H : (r07_Table.l0 k2 l0 bv (wrap64 (ab + 1))) = some r := hrp aJ H
  have bf := am aJ
  clear aJ
  have H' := am H
  clear H
  obtain ⟨a4, a5, ag, au, av, aw, aa, ak, al⟩ := bL11 aK.1 HB.1 ab
  cases aw
  obtain ⟨a8, bl, bJ⟩ := Kd.R_slice aj.1
  subst bJ
  go_wp2_with (first | ((with_reducible refine gate_builtin (b := .append) (xs := #[.tmp 54, .tmp 56]) rfl ?_); (try (refine gate_guard (by rfl) ?_; dsimp only)); at_builtin; refine Kd.S_append (Kd.slice 4 Kd.bool) (w0 := w) w.heap.size rfl (.tmp 54) (.tmp 56) 91 63 (.slice none 0 0) 24 rfl Try.underlying91 info63 rfl (by decide) (by omega) u3 aq ai [.slice a8 ai.length bl] (fun _ => True) (fun k_ => some k_ = (.slice a8 ai.length bl : Value).ownBlock) rfl rfl ?aP (fun k_ hk_ => ((Kd.R_mono (ok' := fun k_ => ((fun _ => True)) k_ ∧ some k_ ≠ (u3 : Value).ownBlock) (Kd.R_apart' (aj.1) (Kd.S_typed ae.1) (by decide)) (fun k_ hk => ⟨trivial, hk.2⟩))).1 k_ hk_.symm) ?aF ?aO ?aB ?aS ?aL ?_; (case aP => exact Kd.M_row (Kd.R_mono (Kd.R_tight rfl (Kd.R_mono (ok' := fun k_ => ((fun _ => True)) k_ ∧ some k_ ≠ (u3 : Value).ownBlock) (Kd.R_apart' (aj.1) (Kd.S_typed ae.1) (by decide)) (fun k_ hk => ⟨trivial, hk.2⟩))) (fun _ h_ => h_))); (case aB => exact pbl); (case aF => exact (fun _ _ => trivial)); (case aO => exact (by (with_reducible repeat (first | apply Kd.S_alloc | apply Kd.S_drewN | apply Kd.S_drew)); exact Kd.S_mono ae.1 (fun k_ hk => ⟨trivial, fun e_ => hk e_⟩))); (case aS => exact (below_size pbl)); (case aL => have := bc.1; omega); intro cd cf ho hb hg hat; rw [← bf.1] at ho; have bb := am ho; replace HB := am hb; (try clear ae aj); clear ho hb hg hat))
  go_roundg k2
  case measure => have := aT.1; have := aU.1; omega
  case rel => exact ⟨(bv), (wrap64 (ab + 1)), prs, H', ⟨by have := aT.1; have := aU.1; omega⟩, ⟨pks bb.1⟩, ⟨pbg⟩⟩
 replace H := ifp H
 obtain ⟨c10, H⟩ := H
 have bX := decide_eq_true c10
 clear c10
 replace H := ifh H
 rcases H with ⟨bi, H⟩ | ⟨bi, H⟩
 rotate_left
 ·have H' := am H
  clear H
  obtain ⟨a4, a5, ag, au, av, aw, aa, ak, al⟩ := bL11 aK.1 HB.1 ab
  cases aw
  obtain ⟨bo, bq, ar, az, aC, aD, ah, ax, af⟩ := bL11 aK.1 HB.1 ab
  obtain rfl : ag = ar := (by injection aD)
  have ea_ := Option.some.inj (aa.symm.trans ah)
  injection ea_ with ea_ en_ ec_
  subst ea_
  subst ec_
  clear en_
  obtain ⟨bp, br, aW, aE, ay⟩ := bint af.1 HB.1 ac
  cases aE
  go_wp2
  go_roundg k2
  case measure => have := aT.1; have := aU.1; omega
  case rel => exact ⟨(ai), (wrap64 (ac + 1)), prs, H', ⟨by have := aT.1; have := aU.1; omega⟩, ⟨pks ae.1⟩, ⟨pkr aj.1⟩, ⟨pbg⟩⟩
 replace H := ifl H
 rcases H with ⟨bj, H⟩ | ⟨bj, H⟩
 rotate_left
 ·have H' := am H
  clear H
  obtain ⟨a4, a5, ag, au, av, aw, aa, ak, al⟩ := bL11 aK.1 HB.1 ab
  cases aw
  obtain ⟨bo, bq, ar, az, aC, aD, ah, ax, af⟩ := bL11 aK.1 HB.1 ab
  obtain rfl : ag = ar := (by injection aD)
  have ea_ := Option.some.inj (aa.symm.trans ah)
  injection ea_ with ea_ en_ ec_
  subst ea_
  subst ec_
  clear en_
  obtain ⟨bp, br, aW, aE, ay⟩ := bint af.1 HB.1 ac
  cases aE
  obtain ⟨bQ, bT, aA, aX, aZ, a2, ap, aM, ao⟩ := bL11 aK.1 HB.1 ab
  obtain rfl : ag = aA := (by injection a2)
  have ea_ := Option.some.inj (aa.symm.trans ap)
  injection ea_ with ea_ en_ ec_
  subst ea_
  subst ec_
  clear en_
  obtain ⟨bR, bU, bg, a3, aQ⟩ := bint ao.1 HB.1 ac
  cases a3
  go_wp2
  go_roundg k2
  case measure => have := aT.1; have := aU.1; omega
  case rel => exact ⟨(ai), (wrap64 (ac + 1)), prs, H', ⟨by have := aT.1; have := aU.1; omega⟩, ⟨pks ae.1⟩, ⟨pkr aj.1⟩, ⟨pbg⟩⟩
 replace H := ifp H
 obtain ⟨bY, H⟩ := H
 have bZ := decide_eq_true bY
 clear bY
 replace H := ifp H
 obtain ⟨b0, H⟩ := H
 have b1 := decide_eq_true b0
 clear b0
 obtain ⟨a6, aI⟩ : ∃ y_ : List Bool, y_ = (ai.set ((rd (rd_L11 l0 ab) ac) : Int).toNat true) := ⟨_, rfl⟩
 replace H : (r07_Table.l1 k2 l0 aq ab a6 (wrap64 (ac + 1))) = some r := hrp aI H
 have bd := am aI
 clear aI
 have H' := am H
 clear H
 obtain ⟨a4, a5, ag, au, av, aw, aa, ak, al⟩ := bL11 aK.1 HB.1 ab
 cases aw
 obtain ⟨bo, bq, ar, az, aC, aD, ah, ax, af⟩ := bL11 aK.1 HB.1 ab
 obtain rfl : ag = ar := (by injection aD)
 have ea_ := Option.some.inj (aa.symm.trans ah)
 injection ea_ with ea_ en_ ec_
 subst ea_
 subst ec_
 clear en_
 obtain ⟨bp, br, aW, aE, ay⟩ := bint af.1 HB.1 ac
 cases aE
 obtain ⟨bQ, bT, aA, aX, aZ, a2, ap, aM, ao⟩ := bL11 aK.1 HB.1 ab
 obtain rfl : ag = aA := (by injection a2)
 have ea_ := Option.some.inj (aa.symm.trans ap)
 injection ea_ with ea_ en_ ec_
 subst ea_
 subst ec_
 clear en_
 obtain ⟨bR, bU, bg, a3, aQ⟩ := bint ao.1 HB.1 ac
 cases a3
 obtain ⟨b8, ca, bh, bz, bD, bH, aR, bw, aN⟩ := bL11 aK.1 HB.1 ab
 obtain rfl : ag = bh := (by injection bH)
 have ea_ := Option.some.inj (aa.symm.trans aR)
 injection ea_ with ea_ en_ ec_
 subst ea_
 subst ec_
 clear en_
 obtain ⟨b9, cb, bW, bI, bx⟩ := bint aN.1 HB.1 ac
 cases bI
 have bP : 0 ≤ ((rd (rd_L11 l0 ab) ac) : Int) := dq
 have bS : ((rd (rd_L11 l0 ab) ac) : Int) < ((ai.length : Int) : Int) := dq
 obtain ⟨aG, a1, bm, bn, bK, b7, a9⟩ := Kd.R_form aj.1 (by omega)
 (first | cases bm | (injection bm with ea_ en_ ec_; (first | subst ea_ | (injection ea_ with ea_; subst ea_)); subst ec_; clear en_))
 have bA := am bn
 have b4 := am a9
 clear bn bK a9
 obtain ⟨bM, bL⟩ := Kd.R_celln false aj.1 ((rd (rd_L11 l0 ab) ac) : Int) bP bS
 replace bP := eq_true bP
 replace bS := eq_true bS
 have aY := Kd.R_putg aj.1 ((rd (rd_L11 l0 ab) ac) : Int) true
 go_wp2_with (first | ((with_reducible refine gate_store (t := 4) (p := 53) rfl ?_); refine store_event (t := 4) (p := 53) (v := ?vo_w17) (w1 := (wr.setCell ⟨aG, ((rd (rd_L11 l0 ab) ac) : Int).toNat, none⟩ (.bool true))) ?hg ?ho ?hn ?hr ?_; (case ho => rfl); (case hg => rfl); (case hn => rfl); (case hr => first | (go_simp; done) | (go_simp; rfl)); intro bV hw; have hg : wr.grownBy bV (some aG) := (by rw [hw]; exact aY.2); have hp_ : Kd.R Kd.bool 4 bV w.heap.size (fun _ => True) (.slice (some ⟨aG, 0, none⟩) ai.length a1) a6 := (by rw [hw, bd.1]; exact aY.1); clear aY; replace ae := am (Kd.S_after (v := (.slice (some ⟨aG, 0, none⟩) ai.length a1)) (v1 := (.slice (some ⟨aG, 0, none⟩) ai.length a1)) (ok := (fun _ => True)) (by (with_reducible repeat (first | apply Kd.S_alloc | apply Kd.S_drewN | apply Kd.S_drew)); exact Kd.S_mono ae.1 (fun _ hk => ⟨trivial, hk⟩)) hg (.inl rfl)); replace aj := am hp_; replace HB := am ((by rw [hw]; exact below_set (HB.1) bA.1 : Below w.heap.size w bV)); clear hg hw hp_))
 go_roundg k2
 case measure => have := aT.1; have := aU.1; omega
 case rel => exact ⟨(a6), (wrap64 (ac + 1)), prs, H', ⟨by have := aT.1; have := aU.1; omega⟩, ⟨by (with_reducible repeat (first | apply Kd.S_alloc | apply Kd.S_drewN | apply Kd.S_drew)); exact Kd.S_mono ae.1 (fun _ hk => hk.2)⟩, ⟨pkr aj.1⟩, ⟨pbg⟩⟩

/-! ### r07_Reverse: function 70 -/
mutual
def r07_Reverse.l0 : Nat → List (List Int) → List (List Bool) → List (List Int) → Int → Option ((List (List Int)))
 | 0, _, _, _, _ => none
 | k + 1, x0, x3, x4, x5 => if x5 < (x0.length : Int) then (r07_Reverse.l1 k x0 x3 x4 x5 ([] : List Int) 0) else (some x4)
def r07_Reverse.l1 : Nat → List (List Int) → List (List Bool) → List (List Int) → Int → List Int → Int → Option ((List (List Int)))
 | 0, _, _, _, _, _, _ => none
 | k + 1, x0, x3, x4, x5, x6, x7 => if x7 < (x0.length : Int) then (if 0 ≤ x7 then (if x7 < (x3.length : Int) then (if 0 ≤ x5 then (if x5 < ((rd_L13 x3 x7).length : Int) then (if rdOf false (rd_L13 x3 x7) x5 = true then (if x6.length < 17592186044416 then (r07_Reverse.l1 k x0 x3 x4 x5 (x6 ++ [x7]) (wrap64 (x7 + 1))) else (none)) else (r07_Reverse.l1 k x0 x3 x4 x5 x6 (wrap64 (x7 + 1)))) else (none)) else (none)) else (none)) else (none)) else (if x4.length < 5864062014805 then (r07_Reverse.l0 k x0 x3 (x4 ++ [x6]) (wrap64 (x5 + 1))) else (none))
end
def r07_Reverse.f (k : Nat) (l0 : List (List Int)) : Option ((List (List Int))) := (r07_Table.f k l0).bind fun af => (r07_Reverse.l0 k l0 af ([] : List (List Int)) 0)
theorem r07_Reverse.mono_l : ∀ k, M4 r07_Reverse.l0 k ∧ M6 r07_Reverse.l1 k
 | 0 => ⟨fun _ _ _ _ r h => by simp [r07_Reverse.l0] at h, fun _ _ _ _ _ _ r h => by simp [r07_Reverse.l1] at h⟩
 | k + 1 => by
  obtain ⟨bg, bh⟩ := r07_Reverse.mono_l k
  refine ⟨?_, ?_⟩ <;> dsimp only [M4, M6] <;> intros <;> (first | unfold r07_Reverse.l0 | unfold r07_Reverse.l1) <;> repeat' first | (with_reducible first | apply bg | apply bh | apply r07_Table.mono | apply lr | apply ln | apply li | refine lb ?_ fun _ => ?_)
theorem r07_Reverse.mono : ∀ a0 k, LeO (r07_Reverse.f k a0) (r07_Reverse.f (k + 1) a0) := by
 intro a0 k
 obtain ⟨bg, bh⟩ := r07_Reverse.mono_l k
 unfold r07_Reverse.f
 repeat' first | (with_reducible first | apply bg | apply bh | apply r07_Table.mono | apply lr | apply ln | apply li | refine lb ?_ fun _ => ?_)
set_option maxHeartbeats 8000000 in
set_option maxRecDepth 100000 in
theorem r07_Reverse.calls (k : Nat) (A0 : Option Addr) (c0 : Nat) (l0 : List (List Int)) (r : List (List Int)) (w : World) (bn : Kd.C (Kd.slice 3 (Kd.int .i64)) w A0 l0.length l0) (hc0 : l0.length ≤ c0) (h : r07_Reverse.f k l0 = some r) :
  Calls Try.prog 70 #[.slice A0 l0.length c0] w fun e w' => ∃ v0_ : Value, e = .returned (v0_) ∧ Kd.S (Kd.slice 3 (Kd.int .i64)) 39 w' w.heap.size (fun _ => True) v0_ r ∧ Below w.heap.size w w' := by
 have br := am bn
 have bq := am hc0
 clear bn hc0
 have HB := am (Below.refl w.heap.size w)
 have H := h
 unfold r07_Reverse.f at H
 clear h
 replace H := bnd H
 obtain ⟨af, A2, H⟩ := H
 (try dsimp only at H)
 have H' := am H
 clear H
 go_enter Try.func70, Try.ntmps70
 go_wp2_with (first | ((with_reducible refine gate_callee (f := 81) rfl ?_); refine gC 9 Try.func81 _ (r07_Table.calls k _ _ l0 af _ (csd br.1) bq.1 A2.1) ?_; rintro e w3 ⟨a7, rfl, bm, hb⟩; refine ⟨_, rfl, ?_⟩; have aT := am (Kd.S_lower bm (below_size pbl)); replace HB := bsl hb; (try clear hb); (try clear bm)))
 go_loopg [4, 5] k (fun kq v4 v5 w' => ∃ (ap : List (List Int)) (al : Int), v5 = .int .i64 al ∧ Aside0 (r07_Reverse.l0 kq l0 af ap al = some r) ∧ Aside0 (kq ≤ k) ∧ Aside0 (Kd.S (Kd.slice 4 Kd.bool) 63 w' w.heap.size (fun _ => True) a7 af) ∧ Aside0 (Kd.S (Kd.slice 3 (Kd.int .i64)) 39 w' w.heap.size (fun _ => True) v4 ap) ∧ Aside0 (Below w.heap.size w w'))
 case atStart => exact ⟨(([] : List (List Int))), (0), prs, H', ⟨Nat.le_refl _⟩, ⟨pks aT.1⟩, ⟨knl⟩, ⟨pbg⟩⟩
 clear H'
 obtain ⟨ap, al, rfl, HA, aN, ae, ak, HB⟩ := hrel
 obtain _ | k1 := gk
 ·exact absurd HA.1 (by simp [r07_Reverse.l0])
 have H := HA.1
 clear HA
 simp only [r07_Reverse.l0] at H
 replace H := ifl H
 rcases H with ⟨a4, H⟩ | ⟨a4, H⟩
 rotate_left
 ·obtain rfl := Option.some.inj H
  go_wp2
  go_ret
  exact ⟨_, per, by (with_reducible repeat (first | apply Kd.S_alloc | apply Kd.S_drewN | apply Kd.S_drew)); exact ak.1, pbg⟩
 have H' := am H
 clear H
 go_wp2
 go_loopg [6, 7] k1 (fun kq v6 v7 w' => ∃ (aj : List Int) (ab : Int), v7 = .int .i64 ab ∧ Aside0 (r07_Reverse.l1 kq l0 af ap al aj ab = some r) ∧ Aside0 (kq ≤ k1) ∧ Aside0 (Kd.S (Kd.slice 4 Kd.bool) 63 w' w.heap.size (fun _ => True) a7 af) ∧ Aside0 (Kd.S (Kd.slice 3 (Kd.int .i64)) 39 w' w.heap.size (fun k_ => some k_ ≠ (v6 : Value).ownBlock) u4 ap) ∧ Aside0 (Kd.R (Kd.int .i64) 3 w' w.heap.size (fun _ => True) v6 aj) ∧ Aside0 (Below w.heap.size w w'))
 case atStart => exact ⟨(([] : List Int)), (0), prs, H', ⟨Nat.le_refl _⟩, ⟨pks ae.1⟩, ⟨by (with_reducible repeat (first | apply Kd.S_alloc | apply Kd.S_drewN | apply Kd.S_drew)); exact Kd.S_mono ak.1 (fun _ hk => (by simp [Value.ownBlock]))⟩, ⟨knl⟩, ⟨pbg⟩⟩
 clear H'
 try clear a4
 obtain ⟨aj, ab, rfl, HA, aQ, ae, ak, ar, HB⟩ := hrel
 obtain _ | k2 := gk
 ·exact absurd HA.1 (by simp [r07_Reverse.l1])
 have H := HA.1
 clear HA
 simp only [r07_Reverse.l1] at H
 replace H := ifl H
 rcases H with ⟨bb, H⟩ | ⟨bb, H⟩
 rotate_left
 ·replace H := ifp H
  obtain ⟨bl, H⟩ := H
  have aX := am bl
  clear bl
  obtain ⟨a9, aD⟩ : ∃ y_ : List (List Int), y_ = (ap ++ [aj]) := ⟨_, rfl⟩
  replace H : (r07_Reverse.l0 k2 l0 af a9 (wrap64 (al + 1))) = some r := hrp aD H
  have aZ := am aD
  clear aD
  have H' := am H
  clear H
  obtain ⟨aR, a6, bf⟩ := Kd.R_slice ar.1
  subst bf
  go_wp2_with (first | ((with_reducible refine gate_builtin (b := .append) (xs := #[.tmp 33, .tmp 35]) rfl ?_); at_builtin; refine Kd.S_append (Kd.slice 3 (Kd.int .i64)) (w0 := w) w.heap.size rfl (.tmp 33) (.tmp 35) 72 39 (.slice none 0 0) 24 rfl Try.underlying72 info39 rfl (by decide) (by omega) u4 ap aj [.slice aR aj.length a6] (fun _ => True) (fun k_ => some k_ = (.slice aR aj.length a6 : Value).ownBlock) rfl rfl ?aP (fun k_ hk_ => ((Kd.R_mono (ok' := fun k_ => ((fun _ => True)) k_ ∧ some k_ ≠ (u4 : Value).ownBlock) (Kd.R_apart' (ar.1) (Kd.S_typed ak.1) (by decide)) (fun k_ hk => ⟨trivial, hk.2⟩))).1 k_ hk_.symm) ?aF ?aO ?aB ?aS ?aL ?_; (case aP => exact Kd.M_row (Kd.R_mono (Kd.R_tight rfl (Kd.R_mono (ok' := fun k_ => ((fun _ => True)) k_ ∧ some k_ ≠ (u4 : Value).ownBlock) (Kd.R_apart' (ar.1) (Kd.S_typed ak.1) (by decide)) (fun k_ hk => ⟨trivial, hk.2⟩))) (fun _ h_ => h_))); (case aB => exact pbl); (case aF => exact (fun _ _ => trivial)); (case aO => exact (by (with_reducible repeat (first | apply Kd.S_alloc | apply Kd.S_drewN | apply Kd.S_drew)); exact Kd.S_mono ak.1 (fun k_ hk => ⟨trivial, fun e_ => hk e_⟩))); (case aS => exact (below_size pbl)); (case aL => have := aX.1; omega); intro bB bD ho hb hg hat; rw [← aZ.1] at ho; have aV := am ho; replace ae := am (Kd.S_over' (pks ae.1) (Kd.S_typed (pks ak.1)) (by decide) hg); replace HB := am hb; (try clear ak ar); clear ho hb hg hat))
  go_roundg k2
  case measure => have := aN.1; have := aQ.1; omega
  case rel => exact ⟨(a9), (wrap64 (al + 1)), prs, H', ⟨by have := aN.1; have := aQ.1; omega⟩, ⟨pks ae.1⟩, ⟨pks aV.1⟩, ⟨pbg⟩⟩
 replace H := ifp H
 obtain ⟨c6, H⟩ := H
 have bs := decide_eq_true c6
 clear c6
 replace H := ifp H
 obtain ⟨c7, H⟩ := H
 have bu := decide_eq_true c7
 clear c7
 replace H := ifp H
 obtain ⟨c8, H⟩ := H
 have bv := decide_eq_true c8
 clear c8
 replace H := ifp H
 obtain ⟨c9, H⟩ := H
 have bw := decide_eq_true c9
 clear c9
 obtain ⟨a3, aA⟩ : ∃ b_ : Bool, b_ = (rdOf false (rd_L13 af ab) al) := ⟨_, rfl⟩
 replace H : (if a3 = true then (if aj.length < 17592186044416 then (r07_Reverse.l1 k2 l0 af ap al (aj ++ [ab]) (wrap64 (ab + 1))) else (none)) else (r07_Reverse.l1 k2 l0 af ap al aj (wrap64 (ab + 1)))) = some r := by rw [← aA] at H; exact H
 have aH := am aA
 clear aA
 by_cases ba : a3 = true
 rotate_left
 ·replace ba := Bool.eq_false_iff.mpr ba
  subst ba
  rw [if_neg Bool.false_ne_true] at H
  have H' := am H
  clear H
  obtain ⟨bp, bz, bd⟩ := Kd.S_slice ae.1
  subst bd
  have aw : 0 ≤ (ab : Int) := dq
  have ax : ab < (af.length : Int) := dq
  obtain ⟨a1, aI, aJ, aK, au, ai, ah⟩ := at_L13 (Kd.S_reads' ae.1).2.2 ab aw ax
  cases aK
  obtain ⟨a5, az, ay, ao⟩ := Kd.S_get ae.1 [] ab aw (by first | exact ax | exact dq | (have e_ := (Kd.S_reads' ae.1).1; omega))
  obtain ⟨aG, rfl, ac⟩ := ay
  have aa := ao 0 _ rfl
  rw [Nat.add_zero, show ((Kd.slice 4 Kd.bool)).sz = 1 from rfl, Nat.mul_one] at aa
  replace aa := Option.some.inj (aa.symm.trans au)
  rw [aa] at ac
  have aq := am (show Kd.R Kd.bool 4 _ _ _ _ (rd_L13 af ab) from ac)
  clear aa ac ao az
  have ag := am ah
  have aE := am ai
  clear ah ai
  replace aw := eq_true aw
  replace ax := eq_true ax
  obtain ⟨bi, bj, a2, aM, av⟩ := dbool (by repeat (first | (with_reducible exact ag.1) | (with_reducible refine Kd.C_alloc ?_ _) | (with_reducible refine Kd.C_drewN ?_ _) | (with_reducible refine Kd.C_drew ?_) | exact ag.1)) al
  (try rw [← aH.1] at av)
  cases aM
  go_wp2
  go_roundg k2
  case measure => have := aN.1; have := aQ.1; omega
  case rel => exact ⟨(aj), (wrap64 (ab + 1)), prs, H', ⟨by have := aN.1; have := aQ.1; omega⟩, ⟨pks ae.1⟩, ⟨pks ak.1⟩, ⟨pkr ar.1⟩, ⟨pbg⟩⟩
 subst ba
 rw [if_pos rfl] at H
 replace H := ifp H
 obtain ⟨bk, H⟩ := H
 have aW := am bk
 clear bk
 obtain ⟨a8, aC⟩ : ∃ y_ : List Int, y_ = (aj ++ [ab]) := ⟨_, rfl⟩
 replace H : (r07_Reverse.l1 k2 l0 af ap al a8 (wrap64 (ab + 1))) = some r := hrp aC H
 have aY := am aC
 clear aC
 have H' := am H
 clear H
 obtain ⟨bo, bx, bc⟩ := Kd.S_slice ae.1
 subst bc
 have aw : 0 ≤ (ab : Int) := dq
 have ax : ab < (af.length : Int) := dq
 obtain ⟨a1, aI, aJ, aK, au, ai, ah⟩ := at_L13 (Kd.S_reads' ae.1).2.2 ab aw ax
 cases aK
 obtain ⟨a5, az, ay, ao⟩ := Kd.S_get ae.1 [] ab aw (by first | exact ax | exact dq | (have e_ := (Kd.S_reads' ae.1).1; omega))
 obtain ⟨aG, rfl, ac⟩ := ay
 have aa := ao 0 _ rfl
 rw [Nat.add_zero, show ((Kd.slice 4 Kd.bool)).sz = 1 from rfl, Nat.mul_one] at aa
 replace aa := Option.some.inj (aa.symm.trans au)
 rw [aa] at ac
 have aq := am (show Kd.R Kd.bool 4 _ _ _ _ (rd_L13 af ab) from ac)
 clear aa ac ao az
 have ag := am ah
 have aE := am ai
 clear ah ai
 replace aw := eq_true aw
 replace ax := eq_true ax
 obtain ⟨bi, bj, a2, aM, av⟩ := dbool (by repeat (first | (with_reducible exact ag.1) | (with_reducible refine Kd.C_alloc ?_ _) | (with_reducible refine Kd.C_drewN ?_ _) | (with_reducible refine Kd.C_drew ?_) | exact ag.1)) al
 (try rw [← aH.1] at av)
 cases aM
 go_wp2_with (first | ((with_reducible refine gate_builtin (b := .append) (xs := #[.tmp 29, .tmp 31]) rfl ?_); at_builtin; refine Kd.R_append (Kd.int .i64) (w0 := w) w.heap.size rfl (.tmp 29) (.tmp 31) 39 3 (.int .i64 0) 8 rfl Try.underlying39 info3 rfl (by decide) (by omega) u6 aj ab [.int .i64 ab] (fun _ => True) (fun _ => False) rfl rfl ?aP (fun _ hk => hk.elim) ?aF ?aO ?aB ?aS ?aL ?_; (case aP => exact rfl); (case aB => exact pbl); (case aF => exact (fun _ _ => trivial)); (case aO => exact (pkr ar.1)); (case aS => exact (below_size pbl)); (case aL => have := aW.1; omega); intro bA bC ho hb hg hat; rw [← aY.1] at ho; have aU := am ho; replace ae := am (Kd.S_over' (pks ae.1) (Kd.R_typed (pkr ar.1)) (by decide) hg); replace ak := am (Kd.S_after (ok := (fun _ => True)) (by (with_reducible repeat (first | apply Kd.S_alloc | apply Kd.S_drewN | apply Kd.S_drew)); exact Kd.S_mono ak.1 (fun _ hk => ⟨trivial, hk⟩)) hg hat); replace aq := am (Kd.R_over' (pkr aq.1) (Kd.R_typed (pkr ar.1)) (by decide) hg); replace HB := am hb; clear ar; clear ho hb hg hat))
 go_roundg k2
 case measure => have := aN.1; have := aQ.1; omega
 case rel => exact ⟨(a8), (wrap64 (ab + 1)), prs, H', ⟨by have := aN.1; have := aQ.1; omega⟩, ⟨pks ae.1⟩, ⟨by (with_reducible repeat (first | apply Kd.S_alloc | apply Kd.S_drewN | apply Kd.S_drew)); exact Kd.S_mono ak.1 (fun _ hk => hk.2)⟩, ⟨pkr aU.1⟩, ⟨pbg⟩⟩

/-! ### r07_Paths: function 80 -/
-- IMPORTS Derived.RegionTactic,Derived.BigRegion
mutual
def r07_Paths.l0 : Nat → List (List Int) → List (List Bool) → Int → Option ((List (List Bool)))
 | 0, _, _, _ => none
 | k + 1, x0, x3, x4 => if x4 < (x0.length : Int) then (r07_Paths.l1 k x0 x3 x4 0) else (some x3)
def r07_Paths.l1 : Nat → List (List Int) → List (List Bool) → Int → Int → Option ((List (List Bool)))
 | 0, _, _, _, _ => none
 | k + 1, x0, x3, x4, x5 => if x5 < (x0.length : Int) then (r07_Paths.l2 k x0 x3 x4 x5 0) else (r07_Paths.l0 k x0 x3 (wrap64 (x4 + 1)))
def r07_Paths.l2 : Nat → List (List Int) → List (List Bool) → Int → Int → Int → Option ((List (List Bool)))
 | 0, _, _, _, _, _ => none
 | k + 1, x0, x3, x4, x5, x6 => if x6 < (x0.length : Int) then (if 0 ≤ x5 then (if x5 < (x3.length : Int) then (if 0 ≤ x6 then (if x6 < ((rd_L13 x3 x5).length : Int) then (if rdOf false (rd_L13 x3 x5) x6 = true then (r07_Paths.l2 k x0 (x3.set (x5 : Int).toNat ((rd_L13 x3 x5).set (x6 : Int).toNat true)) x4 x5 (wrap64 (x6 + 1))) else (if 0 ≤ x4 then (if x4 < ((rd_L13 x3 x5).length : Int) then (if rdOf false (rd_L13 x3 x5) x4 = true then (if x4 < (x3.length : Int) then (if x6 < ((rd_L13 x3 x4).length : Int) then (r07_Paths.l2 k x0 (x3.set (x5 : Int).toNat ((rd_L13 x3 x5).set (x6 : Int).toNat (rdOf false (rd_L13 x3 x4) x6))) x4 x5 (wrap64 (x6 + 1))) else (none)) else (none)) else (r07_Paths.l2 k x0 (x3.set (x5 : Int).toNat ((rd_L13 x3 x5).set (x6 : Int).toNat false)) x4 x5 (wrap64 (x6 + 1)))) else (none)) else (none))) else (none)) else (none)) else (none)) else (none)) else (r07_Paths.l1 k x0 x3 x4 (wrap64 (x5 + 1)))
end
def r07_Paths.f (k : Nat) (l0 : List (List Int)) : Option ((List (List Bool))) := (r07_Table.f k l0).bind fun ai => (r07_Paths.l0 k l0 ai 0)
theorem r07_Paths.mono_l : ∀ k, (∀ y0 y1 y2, LeO (r07_Paths.l0 k y0 y1 y2) (r07_Paths.l0 (k + 1) y0 y1 y2)) ∧ (∀ y0 y1 y2 y3, LeO (r07_Paths.l1 k y0 y1 y2 y3) (r07_Paths.l1 (k + 1) y0 y1 y2 y3)) ∧ (∀ y0 y1 y2 y3 y4, LeO (r07_Paths.l2 k y0 y1 y2 y3 y4) (r07_Paths.l2 (k + 1) y0 y1 y2 y3 y4))
 | 0 => ⟨fun _ _ _ r h => by simp [r07_Paths.l0] at h, fun _ _ _ _ r h => by simp [r07_Paths.l1] at h, fun _ _ _ _ _ r h => by simp [r07_Paths.l2] at h⟩
 | k + 1 => by
  obtain ⟨ab, ac, ae⟩ := r07_Paths.mono_l k
  refine ⟨?_, ?_, ?_⟩
  ·intro y0 y1 y2
   unfold r07_Paths.l0
   repeat' first
   | (with_reducible exact ab _ _ _)
   | (with_reducible exact ac _ _ _ _)
   | (with_reducible exact ae _ _ _ _ _)
   | (with_reducible exact r07_Table.mono _ _)
   | (with_reducible exact LeO.refl _)
   | (with_reducible exact LeO.none _)
   | (with_reducible refine LeO.ite ?_ ?_)
   | (with_reducible refine LeO.bind ?_ (fun _ => ?_))
   | exact ab _ _ _
   | exact ac _ _ _ _
   | exact ae _ _ _ _ _
   | exact r07_Table.mono _ _
   | exact LeO.none _
   | refine LeO.ite ?_ ?_
   | refine LeO.bind ?_ (fun _ => ?_)
  ·intro y0 y1 y2 y3
   unfold r07_Paths.l1
   repeat' first
   | (with_reducible exact ab _ _ _)
   | (with_reducible exact ac _ _ _ _)
   | (with_reducible exact ae _ _ _ _ _)
   | (with_reducible exact r07_Table.mono _ _)
   | (with_reducible exact LeO.refl _)
   | (with_reducible exact LeO.none _)
   | (with_reducible refine LeO.ite ?_ ?_)
   | (with_reducible refine LeO.bind ?_ (fun _ => ?_))
   | exact ab _ _ _
   | exact ac _ _ _ _
   | exact ae _ _ _ _ _
   | exact r07_Table.mono _ _
   | exact LeO.none _
   | refine LeO.ite ?_ ?_
   | refine LeO.bind ?_ (fun _ => ?_)
  ·intro y0 y1 y2 y3 y4
   unfold r07_Paths.l2
   repeat' first
   | (with_reducible exact ab _ _ _)
   | (with_reducible exact ac _ _ _ _)
   | (with_reducible exact ae _ _ _ _ _)
   | (with_reducible exact r07_Table.mono _ _)
   | (with_reducible exact LeO.refl _)
   | (with_reducible exact LeO.none _)
   | (with_reducible refine LeO.ite ?_ ?_)
   | (with_reducible refine LeO.bind ?_ (fun _ => ?_))
   | exact ab _ _ _
   | exact ac _ _ _ _
   | exact ae _ _ _ _ _
   | exact r07_Table.mono _ _
   | exact LeO.none _
   | refine LeO.ite ?_ ?_
   | refine LeO.bind ?_ (fun _ => ?_)
theorem r07_Paths.mono : ∀ a0 k, LeO (r07_Paths.f k a0) (r07_Paths.f (k + 1) a0) := by
 intro a0 k
 obtain ⟨ab, ac, ae⟩ := r07_Paths.mono_l k
 unfold r07_Paths.f
 repeat' first
   | (with_reducible exact ab _ _ _)
   | (with_reducible exact ac _ _ _ _)
   | (with_reducible exact ae _ _ _ _ _)
   | (with_reducible exact r07_Table.mono _ _)
   | (with_reducible exact LeO.refl _)
   | (with_reducible exact LeO.none _)
   | (with_reducible refine LeO.ite ?_ ?_)
   | (with_reducible refine LeO.bind ?_ (fun _ => ?_))
   | exact ab _ _ _
   | exact ac _ _ _ _
   | exact ae _ _ _ _ _
   | exact r07_Table.mono _ _
   | exact LeO.none _
   | refine LeO.ite ?_ ?_
   | refine LeO.bind ?_ (fun _ => ?_)
/-- The row that a vertex has in the table, and its cells. -/
theorem tab_row {w : World} {base n cap gt : Nat} {xs : List (List Bool)} (h : Kd.S (Kd.slice 4 Kd.bool) 63 w base (fun _ => True) (.slice (some ⟨gt, 0, none⟩) n cap) xs) (i : Int) (h0 : 0 ≤ i) (hi : i < n) :
  ∃ A c, w.cell? ⟨gt, i.toNat, none⟩ = some (.slice A (rd_L13 xs i).length c) ∧ (rd_L13 xs i).length ≤ c ∧
   ∀ j : Int, 0 ≤ j → j < (rd_L13 xs i).length → ∃ g, A = some ⟨g, 0, none⟩ ∧ base ≤ g ∧ w.cell? ⟨g, j.toNat, none⟩ = some (.bool (rdOf false (rd_L13 xs i) j)) ∧ w.frozen? ⟨g, j.toNat, none⟩ = false ∧
    ∀ x, Kd.S (Kd.slice 4 Kd.bool) 63 (w.setCell ⟨g, j.toNat, none⟩ (.bool x)) base (fun _ => True) (.slice (some ⟨gt, 0, none⟩) n cap) (xs.set i.toNat ((rd_L13 xs i).set j.toNat x)) := S_row h false i h0 hi

set_option maxHeartbeats 4000000 in
set_option maxRecDepth 100000 in
theorem r07_Paths.calls (k : Nat) (A0 : Option Addr) (c0 : Nat) (l0 : List (List Int)) (r : List (List Bool)) (w : World) (ak : Kd.C (Kd.slice 3 (Kd.int .i64)) w A0 l0.length l0) (hc0 : l0.length ≤ c0) (h : r07_Paths.f k l0 = some r) :
  Calls Try.prog 80 #[.slice A0 l0.length c0] w fun e w' => ∃ v0_ : Value, e = .returned (v0_) ∧ Kd.S (Kd.slice 4 Kd.bool) 63 w' w.heap.size (fun _ => True) v0_ r ∧ Below w.heap.size w w' := by
 have aq := Aside0.mk ak
 have ap := Aside0.mk hc0
 clear ak hc0
 unfold r07_Paths.f at h
 obtain ⟨t, ht, h⟩ := Option.bind_eq_some_iff.mp h
 have HT := Aside0.mk ht
 have H := Aside0.mk h
 clear ht h
 go_enter Try.func80, Try.ntmps80
 go_wp2_with (first | (go_at_call 81; refine (r07_Table.calls k _ _ _ _ _ aq.out ap.out HT.out).mono ?_; rintro e w1 ⟨vt, rfl, ho, hb⟩; have HO := Aside0.mk ho; have HB := Aside0.mk hb; clear ho hb))
 go_loopg [4] k (fun kq v4 w' => ∃ (x3 : List (List Bool)) (x4 : Int), v4 = .int .i64 x4 ∧ Aside0 (r07_Paths.l0 kq l0 x3 x4 = some r) ∧ Aside0 (kq ≤ k) ∧ Aside0 (Kd.S (Kd.slice 4 Kd.bool) 63 w' w.heap.size (fun _ => True) vt x3) ∧ Aside0 (Below w.heap.size w w'))
 case atStart => exact ⟨_, 0, rfl, H, ⟨Nat.le_refl _⟩, HO, HB⟩
 case round =>
  clear H HO HB
  obtain ⟨x3, x4, rfl, HA, ah, HO, HB⟩ := hrel
  cases gk with
  | zero => exact absurd HA.out (by simp [r07_Paths.l0])
  | succ k1 =>
  have H := HA.out
  clear HA
  simp only [r07_Paths.l0] at H
  by_cases c1 : x4 < (l0.length : Int)
  case neg =>
   rw [if_neg c1] at H
   have c1b : decide (x4 < (l0.length : Int)) = false := decide_eq_false c1
   obtain rfl := Option.some.inj H
   clear H
   obtain ⟨A5, k5, rfl⟩ := Kd.S_slice HO.out
   go_wp2
   go_ret
   exact ⟨_, rfl, HO.out, HB.out⟩
  rw [if_pos c1] at H
  have c1b : decide (x4 < (l0.length : Int)) = true := decide_eq_true c1
  have H' := Aside0.mk H
  clear H
  go_wp2
  go_loopg [5] k1 (fun kq v5 w' => ∃ (x3 : List (List Bool)) (x5 : Int), v5 = .int .i64 x5 ∧ Aside0 (r07_Paths.l1 kq l0 x3 x4 x5 = some r) ∧ Aside0 (kq ≤ k1) ∧ Aside0 (Kd.S (Kd.slice 4 Kd.bool) 63 w' w.heap.size (fun _ => True) vt x3) ∧ Aside0 (Below w.heap.size w w'))
  case atStart => exact ⟨_, 0, rfl, H', ⟨Nat.le_refl _⟩, HO, HB⟩
  case round =>
   clear H' HO HB
   obtain ⟨x3, x5, rfl, HA, af, HO, HB⟩ := hrel
   cases gk with
   | zero => exact absurd HA.out (by simp [r07_Paths.l1])
   | succ k2 =>
   have H := HA.out
   clear HA
   simp only [r07_Paths.l1] at H
   by_cases c2 : x5 < (l0.length : Int)
   case neg =>
    rw [if_neg c2] at H
    have c2b : decide (x5 < (l0.length : Int)) = false := decide_eq_false c2
    have H' := Aside0.mk H
    clear H
    go_wp2
    go_roundg k2
    case measure => have := ah.out; have := af.out; omega
    case rel => exact ⟨_, _, rfl, H', ⟨by have := ah.out; have := af.out; omega⟩, HO, HB⟩
   rw [if_pos c2] at H
   have c2b : decide (x5 < (l0.length : Int)) = true := decide_eq_true c2
   have H' := Aside0.mk H
   clear H
   go_wp2
   go_loopg [6] k2 (fun kq v6 w' => ∃ (x3 : List (List Bool)) (x6 : Int), v6 = .int .i64 x6 ∧ Aside0 (r07_Paths.l2 kq l0 x3 x4 x5 x6 = some r) ∧ Aside0 (kq ≤ k2) ∧ Aside0 (Kd.S (Kd.slice 4 Kd.bool) 63 w' w.heap.size (fun _ => True) vt x3) ∧ Aside0 (Below w.heap.size w w'))
   case atStart => exact ⟨_, 0, rfl, H', ⟨Nat.le_refl _⟩, HO, HB⟩
   case round =>
    clear H' HO HB
    obtain ⟨x3, x6, rfl, HA, aa, HO, HB⟩ := hrel
    cases gk with
    | zero => exact absurd HA.out (by simp [r07_Paths.l2])
    | succ k3 =>
    have H := HA.out
    clear HA
    simp only [r07_Paths.l2] at H
    by_cases c3 : x6 < (l0.length : Int)
    case neg =>
     rw [if_neg c3] at H
     have c3b : decide (x6 < (l0.length : Int)) = false := decide_eq_false c3
     have H' := Aside0.mk H
     clear H
     go_wp2
     go_roundg k3
     case measure => have := ah.out; have := af.out; have := aa.out; omega
     case rel => exact ⟨_, _, rfl, H', ⟨by have := aa.out; have := af.out; omega⟩, HO, HB⟩
    rw [if_pos c3] at H
    have c3b : decide (x6 < (l0.length : Int)) = true := decide_eq_true c3
    by_cases d1 : 0 ≤ x5
    case neg => rw [if_neg d1] at H; cases H
    rw [if_pos d1] at H
    by_cases d2 : x5 < (x3.length : Int)
    case neg => rw [if_neg d2] at H; cases H
    rw [if_pos d2] at H
    by_cases d3 : 0 ≤ x6
    case neg => rw [if_neg d3] at H; cases H
    rw [if_pos d3] at H
    by_cases d4 : x6 < ((rd_L13 x3 x5).length : Int)
    case neg => rw [if_neg d4] at H; cases H
    rw [if_pos d4] at H
    obtain ⟨gt, ct, rfl, _, _, _⟩ := Kd.S_form HO.out (by omega)
    obtain ⟨A1, k1', ax, _, hrow⟩ := tab_row HO.out x5 d1 d2
    obtain ⟨gr, rfl, hgr, al, hf2, hput⟩ := hrow x6 d3 d4
    have hput' := Aside0.mk hput
    by_cases e1 : rdOf false (rd_L13 x3 x5) x6 = true
    ·rw [if_pos e1] at H
     rw [e1] at al
     have H' := Aside0.mk H
     clear H hput hrow e1
     go_wp2
     go_region
     go_wp2
     go_roundg k3
     case measure => have := ah.out; have := af.out; have := aa.out; omega
     case rel => exact ⟨_, _, rfl, H', ⟨by have := aa.out; omega⟩, ⟨Kd.S_drew (hput'.out true)⟩, ⟨below_drew (below_set HB.out hgr)⟩⟩
    ·rw [if_neg e1] at H
     have e1' : rdOf false (rd_L13 x3 x5) x6 = false := Bool.eq_false_iff.mpr e1
     rw [e1'] at al
     by_cases d5 : 0 ≤ x4
     case neg => rw [if_neg d5] at H; cases H
     rw [if_pos d5] at H
     by_cases d6 : x4 < ((rd_L13 x3 x5).length : Int)
     case neg => rw [if_neg d6] at H; cases H
     rw [if_pos d6] at H
     obtain ⟨au, eg, _, ao, av, _⟩ := hrow x4 d5 d6
     injection eg with eg
     injection eg with eg _ _
     subst eg
     by_cases e2 : rdOf false (rd_L13 x3 x5) x4 = true
     ·rw [if_pos e2] at H
      rw [e2] at ao
      by_cases d7 : x4 < (x3.length : Int)
      case neg => rw [if_neg d7] at H; cases H
      rw [if_pos d7] at H
      by_cases d8 : x6 < ((rd_L13 x3 x4).length : Int)
      case neg => rw [if_neg d8] at H; cases H
      rw [if_pos d8] at H
      obtain ⟨A3, k3', ay, _, ag⟩ := tab_row HO.out x4 d5 d7
      obtain ⟨gq, rfl, _, ar, aw, _⟩ := ag x6 d3 d8
      obtain ⟨b3, aj⟩ : ∃ b3, b3 = rdOf false (rd_L13 x3 x4) x6 := ⟨_, rfl⟩
      rw [← aj] at H ar
      have H' := Aside0.mk H
      clear H hput hrow ag e1' e2 aj
      cases b3 with
      | true =>
       go_wp2
       go_region
       go_wp2
       go_roundg k3
       case measure => have := ah.out; have := af.out; have := aa.out; omega
       case rel => exact ⟨_, _, rfl, H', ⟨by have := aa.out; omega⟩, ⟨Kd.S_drew (hput'.out true)⟩, ⟨below_drew (below_set HB.out hgr)⟩⟩
      | false =>
       go_wp2
       go_region
       go_wp2
       go_roundg k3
       case measure => have := ah.out; have := af.out; have := aa.out; omega
       case rel => exact ⟨_, _, rfl, H', ⟨by have := aa.out; omega⟩, ⟨Kd.S_drew (hput'.out false)⟩, ⟨below_drew (below_set HB.out hgr)⟩⟩
     ·rw [if_neg e2] at H
      have e2' : rdOf false (rd_L13 x3 x5) x4 = false := Bool.eq_false_iff.mpr e2
      rw [e2'] at ao
      have H' := Aside0.mk H
      clear H hput hrow e1' e2 e2'
      go_wp2
      go_region
      go_wp2
      go_roundg k3
      case measure => have := ah.out; have := af.out; have := aa.out; omega
      case rel => exact ⟨_, _, rfl, H', ⟨by have := aa.out; omega⟩, ⟨Kd.S_drew (hput'.out false)⟩, ⟨below_drew (below_set HB.out hgr)⟩⟩

end Go.Proofs.Ytnoebjmhimehcaa.P
