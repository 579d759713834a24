-- LAID BY OUR PROGRAM OVER THE PRINT (xprint.py, part.py): Lean checks it.
import Derived.Test.YtaoogghpadifiaaPx0
namespace Go.Proofs.Ytaoogghpadifiaa.P
open Go.RowKit Go.Proofs.YtaoogghpadifiaaW.PrintWords Go.Proofs.YtaoogghpadifiaaW.PrintLast Go.Proofs.YtaoogghpadifiaaW.PrintMore
attribute [local go_sem] max2_int min2_int max_two min_two max_three min_three max_four min_four   -- for this text's walks alone
set_option maxHeartbeats 8000000
set_option maxRecDepth 100000
set_option linter.unusedVariables false
set_option linter.unusedSimpArgs false

/-! ### r09_Name: function 59 -/
mutual
def r09_Name.j0 : Nat → ByteArray → Bool → Option (Bool)
 | 0, _, _ => none
 | k + 1, x0, x14 => if x14 = true then (some false) else (r09_Name.l0 k x0 0)
def r09_Name.l0 : Nat → ByteArray → Int → Option (Bool)
 | 0, _, _ => none
 | k + 1, x0, x3 => if x3 < (x0.size : Int) then (if 0 ≤ x3 then (if (bt x0 x3) ≥ 97 then (if (bt x0 x3) ≤ 122 then (if (bt x0 x3) ≥ 48 then (if (bt x0 x3) ≤ 57 then (r09_Name.l0 k x0 (wrap64 (x3 + 1))) else (r09_Name.l0 k x0 (wrap64 (x3 + 1)))) else (r09_Name.l0 k x0 (wrap64 (x3 + 1)))) else (if (bt x0 x3) ≥ 48 then (if (bt x0 x3) ≤ 57 then (if ((bt x0 x3) = 95) then (r09_Name.l0 k x0 (wrap64 (x3 + 1))) else (if x3 = 0 then (some false) else (r09_Name.l0 k x0 (wrap64 (x3 + 1))))) else (if ((bt x0 x3) = 95) then (r09_Name.l0 k x0 (wrap64 (x3 + 1))) else (if ((bt x0 x3) = 46) then (if x3 = 0 then (some false) else (r09_Name.l0 k x0 (wrap64 (x3 + 1)))) else (some false)))) else (if ((bt x0 x3) = 95) then (r09_Name.l0 k x0 (wrap64 (x3 + 1))) else (if ((bt x0 x3) = 46) then (if x3 = 0 then (some false) else (r09_Name.l0 k x0 (wrap64 (x3 + 1)))) else (some false))))) else (if (bt x0 x3) ≥ 48 then (if (bt x0 x3) ≤ 57 then (if ((bt x0 x3) = 95) then (r09_Name.l0 k x0 (wrap64 (x3 + 1))) else (if x3 = 0 then (some false) else (r09_Name.l0 k x0 (wrap64 (x3 + 1))))) else (if ((bt x0 x3) = 95) then (r09_Name.l0 k x0 (wrap64 (x3 + 1))) else (if ((bt x0 x3) = 46) then (if x3 = 0 then (some false) else (r09_Name.l0 k x0 (wrap64 (x3 + 1)))) else (some false)))) else (if ((bt x0 x3) = 95) then (r09_Name.l0 k x0 (wrap64 (x3 + 1))) else (if ((bt x0 x3) = 46) then (if x3 = 0 then (some false) else (r09_Name.l0 k x0 (wrap64 (x3 + 1)))) else (some false))))) else (none)) else (some true)
end
def r09_Name.f (k : Nat) (a0 : ByteArray) : Option (Bool) := if (a0.size : Int) < 1 then (r09_Name.j0 k a0 true) else (r09_Name.j0 k a0 (decide ((a0.size : Int) > 16)))
theorem r09_Name.calls (k : Nat) (a0 : ByteArray) (r : Bool) (w : World) (h : r09_Name.f k a0 = some r) :
  Calls Try.prog 59 #[.string a0] w fun e w' => e = .returned (.bool r) ∧ Drawn0 w w' := by
 have H := h
 unfold r09_Name.f at H
 clear h
 have aY := am H
 clear H
 go_enter Try.func59, Try.ntmps59
 go_upto_region 1 with (fail)
 go_cut [14] (fun a7 wc => ∃ (kq : Nat) (ag : Bool), a7 = .bool ag ∧ Aside0 (r09_Name.j0 kq a0 ag = some r) ∧ Aside0 (kq ≤ k) ∧ Drawn0 w wc)
 case first =>
  have H := aY.1
  clear aY
  by_cases c3 : (a0.size : Int) < 1
  ·rw [if_pos c3] at H
   have af : decide ((a0.size : Int) < 1) = true := decide_eq_true c3
   have ah : decide (a0.size < 1) = true := decide_eq_true (by omega)
   clear c3
   (first | rw [af] | (simp only [i64_w, i32_w]; rw [af]) | skip)
   have H' := am H
   clear H
   go_wp2
   go_meet
   case rel => exact ⟨_, (true), prs, H', ⟨by first | omega | exact Nat.le_refl _⟩, pdr⟩
  rw [if_neg c3] at H
  have af : decide ((a0.size : Int) < 1) = false := decide_eq_false c3
  have ah : decide (a0.size < 1) = false := decide_eq_false (by omega)
  clear c3
  (first | rw [af] | (simp only [i64_w, i32_w]; rw [af]) | skip)
  have H' := am H
  clear H
  go_wp2
  go_meet
  case rel => exact ⟨_, (decide ((a0.size : Int) > 16)), prs, H', ⟨by first | omega | exact Nat.le_refl _⟩, pdr⟩
 clear aY
 try clear c3 af ah
 obtain ⟨kq, ag, rfl, HA, ab, ⟨a8, rfl⟩⟩ := hcut
 obtain _ | a5 := kq
 ·exact absurd HA.1 (by simp [r09_Name.j0])
 have H := HA.1
 clear HA
 simp only [r09_Name.j0] at H
 cases ag
 rotate_left
 ·rw [if_pos rfl] at H
  obtain rfl := Option.some.inj H
  go_wp2
  go_ret
  exact ⟨prs, pdr⟩
 rw [if_neg Bool.false_ne_true] at H
 have H' := am H
 clear H
 go_wp2
 go_loopg [3] a5 (fun kq v3 w' => ∃ (aa : Int), v3 = .int .i64 aa ∧ Aside0 (r09_Name.l0 kq a0 aa = some r) ∧ Aside0 (kq ≤ a5) ∧ Drawn0 w w')
 case atStart => exact ⟨(0), prs, H', ⟨Nat.le_refl _⟩, pdr⟩
 clear H'
 try clear c3 af ah
 obtain ⟨aa, rfl, HA, ac, ⟨m2, rfl⟩⟩ := hrel
 obtain _ | k2 := gk
 ·exact absurd HA.1 (by simp [r09_Name.l0])
 have H := HA.1
 clear HA
 simp only [r09_Name.l0] at H
 replace H := ifl H
 rcases H with ⟨aZ, H⟩ | ⟨aZ, H⟩
 rotate_left
 ·obtain rfl := Option.some.inj H
  go_wp2
  go_ret
  exact ⟨prs, pdr⟩
 replace H := ifd H
 obtain ⟨a6, H⟩ := H
 replace H := ifh H
 rcases H with ⟨a1, H⟩ | ⟨a1, H⟩
 rotate_left
 ·replace H := ifh H
  rcases H with ⟨aG, H⟩ | ⟨aG, H⟩
  rotate_left
  ·replace H := ife H
   rcases H with ⟨aS, aT, H⟩ | ⟨aS, aT, H⟩
   ·have H' := am H
    clear H
    obtain ⟨p7, q7, ae⟩ := dbt a0 aa
    go_wp2
    go_roundg k2
    case measure => have := ab.1; have := ac.1; omega
    case rel => exact ⟨(wrap64 (aa + 1)), prs, H', ⟨by have := ab.1; have := ac.1; omega⟩, pdr⟩
   replace H := ife H
   rcases H with ⟨aU, aV, H⟩ | ⟨aU, aV, H⟩
   rotate_left
   ·obtain rfl := Option.some.inj H
    obtain ⟨p7, q7, ae⟩ := dbt a0 aa
    go_wp2
    go_ret
    exact ⟨prs, pdr⟩
   replace H := ife H
   rcases H with ⟨aW, aX, H⟩ | ⟨aW, aX, H⟩
   ·obtain rfl := Option.some.inj H
    obtain ⟨p7, q7, ae⟩ := dbt a0 aa
    go_wp2
    go_ret
    exact ⟨prs, pdr⟩
   have H' := am H
   clear H
   obtain ⟨p7, q7, ae⟩ := dbt a0 aa
   go_wp2
   go_roundg k2
   case measure => have := ab.1; have := ac.1; omega
   case rel => exact ⟨(wrap64 (aa + 1)), prs, H', ⟨by have := ab.1; have := ac.1; omega⟩, pdr⟩
  replace H := ifl H
  rcases H with ⟨aH, H⟩ | ⟨aH, H⟩
  ·replace H := ife H
   rcases H with ⟨aI, aJ, H⟩ | ⟨aI, aJ, H⟩
   ·have H' := am H
    clear H
    obtain ⟨p7, q7, ae⟩ := dbt a0 aa
    go_wp2
    go_roundg k2
    case measure => have := ab.1; have := ac.1; omega
    case rel => exact ⟨(wrap64 (aa + 1)), prs, H', ⟨by have := ab.1; have := ac.1; omega⟩, pdr⟩
   replace H := ife H
   rcases H with ⟨aK, aL, H⟩ | ⟨aK, aL, H⟩
   ·obtain rfl := Option.some.inj H
    obtain ⟨p7, q7, ae⟩ := dbt a0 aa
    go_wp2
    go_ret
    exact ⟨prs, pdr⟩
   have H' := am H
   clear H
   obtain ⟨p7, q7, ae⟩ := dbt a0 aa
   go_wp2
   go_roundg k2
   case measure => have := ab.1; have := ac.1; omega
   case rel => exact ⟨(wrap64 (aa + 1)), prs, H', ⟨by have := ab.1; have := ac.1; omega⟩, pdr⟩
  replace H := ife H
  rcases H with ⟨aM, aN, H⟩ | ⟨aM, aN, H⟩
  ·have H' := am H
   clear H
   obtain ⟨p7, q7, ae⟩ := dbt a0 aa
   go_wp2
   go_roundg k2
   case measure => have := ab.1; have := ac.1; omega
   case rel => exact ⟨(wrap64 (aa + 1)), prs, H', ⟨by have := ab.1; have := ac.1; omega⟩, pdr⟩
  replace H := ife H
  rcases H with ⟨aO, aP, H⟩ | ⟨aO, aP, H⟩
  rotate_left
  ·obtain rfl := Option.some.inj H
   obtain ⟨p7, q7, ae⟩ := dbt a0 aa
   go_wp2
   go_ret
   exact ⟨prs, pdr⟩
  replace H := ife H
  rcases H with ⟨aQ, aR, H⟩ | ⟨aQ, aR, H⟩
  ·obtain rfl := Option.some.inj H
   obtain ⟨p7, q7, ae⟩ := dbt a0 aa
   go_wp2
   go_ret
   exact ⟨prs, pdr⟩
  have H' := am H
  clear H
  obtain ⟨p7, q7, ae⟩ := dbt a0 aa
  go_wp2
  go_roundg k2
  case measure => have := ab.1; have := ac.1; omega
  case rel => exact ⟨(wrap64 (aa + 1)), prs, H', ⟨by have := ab.1; have := ac.1; omega⟩, pdr⟩
 replace H := ifl H
 rcases H with ⟨a2, H⟩ | ⟨a2, H⟩
 ·replace H := ifh H
  rcases H with ⟨ai, H⟩ | ⟨ai, H⟩
  rotate_left
  ·have H' := am H
   clear H
   obtain ⟨p7, q7, ae⟩ := dbt a0 aa
   go_wp2
   go_roundg k2
   case measure => have := ab.1; have := ac.1; omega
   case rel => exact ⟨(wrap64 (aa + 1)), prs, H', ⟨by have := ab.1; have := ac.1; omega⟩, pdr⟩
  replace H := ifl H
  rcases H with ⟨aj, H⟩ | ⟨aj, H⟩
  ·have H' := am H
   clear H
   obtain ⟨p7, q7, ae⟩ := dbt a0 aa
   go_wp2
   go_roundg k2
   case measure => have := ab.1; have := ac.1; omega
   case rel => exact ⟨(wrap64 (aa + 1)), prs, H', ⟨by have := ab.1; have := ac.1; omega⟩, pdr⟩
  have H' := am H
  clear H
  obtain ⟨p7, q7, ae⟩ := dbt a0 aa
  go_wp2
  go_roundg k2
  case measure => have := ab.1; have := ac.1; omega
  case rel => exact ⟨(wrap64 (aa + 1)), prs, H', ⟨by have := ab.1; have := ac.1; omega⟩, pdr⟩
 replace H := ifh H
 rcases H with ⟨ak, H⟩ | ⟨ak, H⟩
 rotate_left
 ·replace H := ife H
  rcases H with ⟨aA, aB, H⟩ | ⟨aA, aB, H⟩
  ·have H' := am H
   clear H
   obtain ⟨p7, q7, ae⟩ := dbt a0 aa
   go_wp2
   go_roundg k2
   case measure => have := ab.1; have := ac.1; omega
   case rel => exact ⟨(wrap64 (aa + 1)), prs, H', ⟨by have := ab.1; have := ac.1; omega⟩, pdr⟩
  replace H := ife H
  rcases H with ⟨aC, aD, H⟩ | ⟨aC, aD, H⟩
  rotate_left
  ·obtain rfl := Option.some.inj H
   obtain ⟨p7, q7, ae⟩ := dbt a0 aa
   go_wp2
   go_ret
   exact ⟨prs, pdr⟩
  replace H := ife H
  rcases H with ⟨aE, aF, H⟩ | ⟨aE, aF, H⟩
  ·obtain rfl := Option.some.inj H
   obtain ⟨p7, q7, ae⟩ := dbt a0 aa
   go_wp2
   go_ret
   exact ⟨prs, pdr⟩
  have H' := am H
  clear H
  obtain ⟨p7, q7, ae⟩ := dbt a0 aa
  go_wp2
  go_roundg k2
  case measure => have := ab.1; have := ac.1; omega
  case rel => exact ⟨(wrap64 (aa + 1)), prs, H', ⟨by have := ab.1; have := ac.1; omega⟩, pdr⟩
 replace H := ifl H
 rcases H with ⟨al, H⟩ | ⟨al, H⟩
 ·replace H := ife H
  rcases H with ⟨ao, ap, H⟩ | ⟨ao, ap, H⟩
  ·have H' := am H
   clear H
   obtain ⟨p7, q7, ae⟩ := dbt a0 aa
   go_wp2
   go_roundg k2
   case measure => have := ab.1; have := ac.1; omega
   case rel => exact ⟨(wrap64 (aa + 1)), prs, H', ⟨by have := ab.1; have := ac.1; omega⟩, pdr⟩
  replace H := ife H
  rcases H with ⟨aq, ar, H⟩ | ⟨aq, ar, H⟩
  ·obtain rfl := Option.some.inj H
   obtain ⟨p7, q7, ae⟩ := dbt a0 aa
   go_wp2
   go_ret
   exact ⟨prs, pdr⟩
  have H' := am H
  clear H
  obtain ⟨p7, q7, ae⟩ := dbt a0 aa
  go_wp2
  go_roundg k2
  case measure => have := ab.1; have := ac.1; omega
  case rel => exact ⟨(wrap64 (aa + 1)), prs, H', ⟨by have := ab.1; have := ac.1; omega⟩, pdr⟩
 replace H := ife H
 rcases H with ⟨au, av, H⟩ | ⟨au, av, H⟩
 ·have H' := am H
  clear H
  obtain ⟨p7, q7, ae⟩ := dbt a0 aa
  go_wp2
  go_roundg k2
  case measure => have := ab.1; have := ac.1; omega
  case rel => exact ⟨(wrap64 (aa + 1)), prs, H', ⟨by have := ab.1; have := ac.1; omega⟩, pdr⟩
 replace H := ife H
 rcases H with ⟨aw, ax, H⟩ | ⟨aw, ax, H⟩
 rotate_left
 ·obtain rfl := Option.some.inj H
  obtain ⟨p7, q7, ae⟩ := dbt a0 aa
  go_wp2
  go_ret
  exact ⟨prs, pdr⟩
 replace H := ife H
 rcases H with ⟨ay, az, H⟩ | ⟨ay, az, H⟩
 ·obtain rfl := Option.some.inj H
  obtain ⟨p7, q7, ae⟩ := dbt a0 aa
  go_wp2
  go_ret
  exact ⟨prs, pdr⟩
 have H' := am H
 clear H
 obtain ⟨p7, q7, ae⟩ := dbt a0 aa
 go_wp2
 go_roundg k2
 case measure => have := ab.1; have := ac.1; omega
 case rel => exact ⟨(wrap64 (aa + 1)), prs, H', ⟨by have := ab.1; have := ac.1; omega⟩, pdr⟩

/-! ### r09_place: function 60 -/
mutual
def r09_place.l0 : Nat → Int → Int → ByteArray → List (S64) → List (S38) → ByteArray → Int → Int → Option (Int)
 | 0, _, _, _, _, _, _, _, _ => none
 | k + 1, x1, x6, aL, av, aM, al, ak, ag => if x6 < x1 then (if 0 ≤ x6 then (if x6 < (av.length : Int) then (if ((rd_T64 av x6).f0).toList = al.toList then (some 6) else (r09_place.l0 k x1 (wrap64 (x6 + 1)) aL av aM al ak ag)) else (none)) else (none)) else (if ag < 0 then (r09_place.j1 k true al ak ag) else (r09_place.j1 k (decide (ag > 1048576)) al ak ag))
def r09_place.j1 : Nat → Bool → ByteArray → Int → Int → Option (Int)
 | 0, _, _, _, _ => none
 | k + 1, b1, al, ak, ag => if b1 = true then (some 1) else (if ak < 0 then (some 10) else (if ak > 1048576 then (some 10) else (if ag = 0 then (some 0) else (if ak > ag then (some 10) else (some 0)))))
end
def r09_place.f (k : Nat) (ay : ByteArray) (ac : List (S64)) (ap : List (S38)) (a1 : Int) : Option (Int) := if 0 ≤ a1 then (if a1 < (ac.length : Int) then ((r09_Name.f k ((rd_T64 ac a1).f0)).bind fun aY => (if aY = true then (r09_place.l0 k a1 0 ay ac ap ((rd_T64 ac a1).f0) ((rd_T64 ac a1).f1) ((rd_T64 ac a1).f2)) else (some 5))) else (none)) else (none)
theorem r09_place.calls (k : Nat) (ay : ByteArray) (aZ : Option Addr) (aJ : Nat) (ac : List (S64)) (aI : Option Addr) (aK : Nat) (ap : List (S38)) (a1 : Int) (r : Int) (w : World) (aT : Kd.C k64 w aZ ac.length ac) (aR : ac.length ≤ aJ) (aU : Kd.C k38 w aI ap.length ap) (aS : ap.length ≤ aK) (h : r09_place.f k ay ac ap a1 = some r) :
  Calls Try.prog 60 #[.agg #[.string ay, .slice aZ ac.length aJ, .slice aI ap.length aK], .int .i64 a1] w fun e w' => e = .returned (.int .i64 r) ∧ Below w.heap.size w w' := by
 have bX := Try.underlying25
 have bY := Try.underlying64
 have az := am aT
 have bv := am aR
 clear aT aR
 have bx := am aU
 have bw := am aS
 clear aU aS
 have HB := am (Below.refl w.heap.size w)
 have H := h
 unfold r09_place.f at H
 clear h
 replace H := ifd H
 obtain ⟨bd, H⟩ := H
 replace H := ifd H
 obtain ⟨bf, H⟩ := H
 replace H := bnd H
 obtain ⟨aY, A5, H⟩ := H
 (try dsimp only at H)
 cases aY
 ·rw [if_neg Bool.false_ne_true] at H
  obtain rfl := Option.some.inj H
  go_enter Try.func60, Try.ntmps60
  iterate 4 (try go_wp2_with (first | ((with_reducible refine qBN (N := 2) rfl ?_); refine box_ev ?_; intro aG hg ca hbox hb; have ae := am hbox; have aD := gwl hg; have a4 := aD; replace HB := bsl hb; clear hb hbox hg; have b7 := cf3 ae.1; have ar : 0 ≤ (a1 : Int) := dq; have au : a1 < (ac.length : Int) := dq; obtain ⟨ax, aW, ah, ai, aj⟩ := at_T64 az.1 a1 ar au; cases aW; replace ah := cbl HB.1 ah; replace ai := cbl HB.1 ai; replace aj := cbl HB.1 aj; replace ar := eq_true ar; replace au := eq_true au) | ((with_reducible refine qBN (N := 5) rfl ?_); refine box_ev (N := 5) (cs := #[.string (⟨#[]⟩ : ByteArray), .int .i64 0, .int .i64 0]) (t := 64) ?_; intro aH hg cb hbox hb; have af := am hbox; have aE := gwb hg; have a5 := aE; have aa := nlt hg ae; have ab := ngt hg ae; replace ae := bbh ae hb; replace HB := bst hb; clear hb hbox hg; have bJ := ab.1; have bU := aa.1; have b8 := cf3 af.1) | (go_at_call 59; (with_reducible refine (r09_Name.calls k ((rd_T64 ac a1).f0) false _ A5.1).mono ?_); rintro e w' ⟨rfl, ⟨nd, rfl⟩⟩; (try first | exact dw1 | exact dw2))); try go_quiet (first | (go_at_call 59; (with_reducible refine (r09_Name.calls k ((rd_T64 ac a1).f0) false _ A5.1).mono ?_); rintro e w' ⟨rfl, ⟨nd, rfl⟩⟩; (try first | exact dw1 | exact dw2))))
  go_ret
  exact ⟨per, pbg⟩
 rw [if_pos rfl] at H
 have H' := am H
 clear H
 go_enter Try.func60, Try.ntmps60
 iterate 4 (try go_wp2_with (first | ((with_reducible refine qBN (N := 2) rfl ?_); refine box_ev ?_; intro aG hg w7 hbox hb; have ae := am hbox; have aD := gwl hg; have a4 := aD; replace HB := bsl hb; clear hb hbox hg; have bV := cf3 ae.1; have ar : 0 ≤ (a1 : Int) := dq; have au : a1 < (ac.length : Int) := dq; obtain ⟨ax, aW, ah, ai, aj⟩ := at_T64 az.1 a1 ar au; cases aW; replace ah := cbl HB.1 ah; replace ai := cbl HB.1 ai; replace aj := cbl HB.1 aj; replace ar := eq_true ar; replace au := eq_true au) | ((with_reducible refine qBN (N := 5) rfl ?_); refine box_ev (N := 5) (cs := #[.string (⟨#[]⟩ : ByteArray), .int .i64 0, .int .i64 0]) (t := 64) ?_; intro aH hg w9 hbox hb; have af := am hbox; have aE := gwb hg; have a5 := aE; have aa := nlt hg ae; have ab := ngt hg ae; replace ae := bbh ae hb; replace HB := bst hb; clear hb hbox hg; have bz := ab.1; have bK := aa.1; have bi := cf3 af.1) | (go_at_call 59; (with_reducible refine (r09_Name.calls k ((rd_T64 ac a1).f0) true _ A5.1).mono ?_); rintro e w' ⟨rfl, ⟨nd, rfl⟩⟩; (try first | exact dw1 | exact dw2))); try go_quiet (first | (go_at_call 59; (with_reducible refine (r09_Name.calls k ((rd_T64 ac a1).f0) true _ A5.1).mono ?_); rintro e w' ⟨rfl, ⟨nd, rfl⟩⟩; (try first | exact dw1 | exact dw2))))
 go_loopg [6] k (fun kq v6 w' => ∃ (ao : Int), v6 = .int .i64 ao ∧ Aside0 (r09_place.l0 kq a1 ao ay ac ap ((rd_T64 ac a1).f0) ((rd_T64 ac a1).f1) ((rd_T64 ac a1).f2) = some r) ∧ Aside0 (kq ≤ k) ∧ Aside0 (w'.heap[aG]? = some (.cells #[.string ay, (.slice (some ax) ac.length aJ), (.slice aI ap.length aK)] 25 (0, 0))) ∧ Aside0 (w'.heap[aH]? = some (.cells #[.string ((rd_T64 ac a1).f0), .int .i64 ((rd_T64 ac a1).f1), .int .i64 ((rd_T64 ac a1).f2)] 64 (0, 0))) ∧ Aside0 (Below w.heap.size w w'))
 case atStart => exact ⟨(0), prs, H', ⟨Nat.le_refl _⟩, ⟨by (with_reducible repeat (first | refine qBK ?_ _ | refine qBM ?_ | refine qBL ?_ _)); refine bf3 ?_ aa.1; exact pbk ae.1⟩, ⟨by (with_reducible repeat (first | refine qBK ?_ _ | refine qBM ?_ | refine qBL ?_ _)); exact bp3 (pbk af.1)⟩, ⟨pbg⟩⟩
 clear H'
 try clear c3 bd c4 bf bi bV ah ai aj ar au
 obtain ⟨ao, rfl, HA, bj, ae, af, HB⟩ := hrel
 obtain _ | k1 := gk
 ·exact absurd HA.1 (by simp [r09_place.l0])
 have H := HA.1
 clear HA
 simp only [r09_place.l0] at H
 replace H := ifl H
 rcases H with ⟨aN, H⟩ | ⟨aN, H⟩
 ·replace H := ifp H
  obtain ⟨bk, H⟩ := H
  have a6 := decide_eq_true bk
  clear bk
  replace H := ifd H
  obtain ⟨a7, H⟩ := H
  by_cases aO : ((rd_T64 ac ao).f0).toList = ((rd_T64 ac a1).f0).toList
  ·rw [if_pos aO] at H
   have aP : (((rd_T64 ac ao).f0).toList == ((rd_T64 ac a1).f0).toList) = true := beq_iff_eq.mpr aO
   have aQ : (((rd_T64 ac ao).f0).toList != ((rd_T64 ac a1).f0).toList) = false := bne_eq_false_iff_eq.mpr aO
   clear aO
   obtain rfl := Option.some.inj H
   have bA := aa.1
   have bL := ab.1
   have bo := cf3 ae.1
   obtain ⟨bg, bh, aF, aX, aA, aB, aC⟩ := bT64 az.1 HB.1 ao
   obtain rfl : ax = aF := (by injection aX)
   have bp := cf3 af.1
   go_wp2
   repeat (go_quiet (fail); try go_wp2)
   go_ret
   exact ⟨per, pbg⟩
  rw [if_neg aO] at H
  have aP : (((rd_T64 ac ao).f0).toList == ((rd_T64 ac a1).f0).toList) = false := beq_eq_false_iff_ne.mpr aO
  have aQ : (((rd_T64 ac ao).f0).toList != ((rd_T64 ac a1).f0).toList) = true := bne_iff_ne.mpr aO
  have H' := am H
  clear H
  have bB := aa.1
  have bM := ab.1
  have bq := cf3 ae.1
  obtain ⟨bg, bh, aF, aX, aA, aB, aC⟩ := bT64 az.1 HB.1 ao
  obtain rfl : ax = aF := (by injection aX)
  have br := cf3 af.1
  go_wp2
  repeat (go_quiet (fail); try go_wp2)
  go_roundg k1
  case measure => have := bj.1; omega
  case rel => exact ⟨(wrap64 (ao + 1)), prs, H', ⟨by have := bj.1; omega⟩, ⟨pbk ae.1⟩, ⟨pbk af.1⟩, ⟨pbg⟩⟩
 have aV := am H
 clear H
 go_upto_region 9 with (fail)
 repeat (go_quiet (fail); go_upto_region 9 with (fail))
 go_cut [37] (fun b0 wc => ∃ (kq : Nat) (aw : Bool), b0 = .bool aw ∧ Aside0 (r09_place.j1 kq aw ((rd_T64 ac a1).f0) ((rd_T64 ac a1).f1) ((rd_T64 ac a1).f2) = some r) ∧ Aside0 (kq ≤ k1) ∧ Aside0 (wc.heap[aG]? = some (.cells #[.string ay, (.slice (some ax) ac.length aJ), (.slice aI ap.length aK)] 25 (0, 0))) ∧ Aside0 (wc.heap[aH]? = some (.cells #[.string ((rd_T64 ac a1).f0), .int .i64 ((rd_T64 ac a1).f1), .int .i64 ((rd_T64 ac a1).f2)] 64 (0, 0))) ∧ Aside0 (Below w.heap.size w wc))
 case first =>
  have H := aV.1
  clear aV
  replace H := ifl H
  rcases H with ⟨aq, H⟩ | ⟨aq, H⟩
  ·(first | rw [aq] | (simp only [i64_w, i32_w]; rw [aq]) | skip)
   have H' := am H
   clear H
   have bC := ab.1
   have bN := aa.1
   have bs := cf3 af.1
   go_wp2
   repeat (go_quiet (fail); try go_wp2)
   go_meet
   case rel => exact ⟨_, (true), prs, H', ⟨by have := bj.1; first | omega | exact Nat.le_refl _⟩, ⟨pbk ae.1⟩, ⟨pbk af.1⟩, ⟨pbg⟩⟩
  (first | rw [aq] | (simp only [i64_w, i32_w]; rw [aq]) | skip)
  have H' := am H
  clear H
  have bD := ab.1
  have bO := aa.1
  have bu := cf3 af.1
  go_wp2
  repeat (go_quiet (fail); try go_wp2)
  go_meet
  case rel => exact ⟨_, (decide (((rd_T64 ac a1).f2) > 1048576)), prs, H', ⟨by have := bj.1; first | omega | exact Nat.le_refl _⟩, ⟨pbk ae.1⟩, ⟨pbk af.1⟩, ⟨pbg⟩⟩
 clear aV
 try clear c3 bd c4 bf c6 aN bk a6 bl a7 aO aP aQ b9 aq bi bo bp bq br bs bu bV ah ai aj aA aB aC ar bg au bh
 obtain ⟨kq, aw, rfl, HA, bW, ae, af, HB⟩ := hcut
 obtain _ | bZ := kq
 ·exact absurd HA.1 (by simp [r09_place.j1])
 have H := HA.1
 clear HA
 simp only [r09_place.j1] at H
 cases aw
 rotate_left
 ·rw [if_pos rfl] at H
  obtain rfl := Option.some.inj H
  go_wp2
  repeat (go_quiet (fail); try go_wp2)
  go_ret
  exact ⟨per, pbg⟩
 rw [if_neg Bool.false_ne_true] at H
 replace H := ifl H
 rcases H with ⟨a8, H⟩ | ⟨a8, H⟩
 ·obtain rfl := Option.some.inj H
  have bE := ab.1
  have bP := aa.1
  have b2 := cf3 af.1
  go_wp2
  repeat (go_quiet (fail); try go_wp2)
  go_ret
  exact ⟨per, pbg⟩
 replace H := ifg H
 rcases H with ⟨a9, H⟩ | ⟨a9, H⟩
 ·obtain rfl := Option.some.inj H
  have bF := ab.1
  have bQ := aa.1
  have b3 := cf3 af.1
  go_wp2
  repeat (go_quiet (fail); try go_wp2)
  go_ret
  exact ⟨per, pbg⟩
 replace H := ife H
 rcases H with ⟨ba, bb, H⟩ | ⟨ba, bb, H⟩
 ·obtain rfl := Option.some.inj H
  have bG := ab.1
  have bR := aa.1
  have b4 := cf3 af.1
  go_wp2
  repeat (go_quiet (fail); try go_wp2)
  go_ret
  exact ⟨per, pbg⟩
 replace H := ifg H
 rcases H with ⟨bc, H⟩ | ⟨bc, H⟩
 ·obtain rfl := Option.some.inj H
  have bH := ab.1
  have bS := aa.1
  have b5 := cf3 af.1
  go_wp2
  repeat (go_quiet (fail); try go_wp2)
  go_ret
  exact ⟨per, pbg⟩
 obtain rfl := Option.some.inj H
 have bI := ab.1
 have bT := aa.1
 have b6 := cf3 af.1
 go_wp2
 repeat (go_quiet (fail); try go_wp2)
 go_ret
 exact ⟨per, pbg⟩

/-! ### r09_arcs: function 91 -/
mutual
def r09_arcs.l0 : Nat → List (S68) → Int → ByteArray → List (S64) → List (S38) → Option (Int)
 | 0, _, _, _, _, _ => none
 | k + 1, x1, x5, ac, aa, ae => if x5 < (x1.length : Int) then (if 0 ≤ x5 then (if ((rd_T68 x1 x5).f0) < 0 then (r09_arcs.j1 k x1 x5 true ac aa ae) else (r09_arcs.j1 k x1 x5 (decide (((rd_T68 x1 x5).f0) ≥ (aa.length : Int))) ac aa ae)) else (none)) else (some 0)
def r09_arcs.j1 : Nat → List (S68) → Int → Bool → ByteArray → List (S64) → List (S38) → Option (Int)
 | 0, _, _, _, _, _, _ => none
 | k + 1, x1, x5, bV, ac, aa, ae => if bV = true then (some 7) else (if x5 > 0 then (if 0 ≤ x5 then (if x5 < (x1.length : Int) then (if 0 ≤ (wrap64 (x5 - 1)) then (if (wrap64 (x5 - 1)) < (x1.length : Int) then (r09_arcs.j2 k x1 x5 (decide (((rd_T68 x1 x5).f0) ≤ ((rd_T68 x1 (wrap64 (x5 - 1))).f0))) ac aa ae) else (none)) else (none)) else (none)) else (none)) else (r09_arcs.j2 k x1 x5 false ac aa ae))
def r09_arcs.j2 : Nat → List (S68) → Int → Bool → ByteArray → List (S64) → List (S38) → Option (Int)
 | 0, _, _, _, _, _, _ => none
 | k + 1, x1, x5, bW, ac, aa, ae => if bW = true then (some 8) else (if 0 ≤ x5 then (if x5 < (x1.length : Int) then (if ((rd_T68 x1 x5).f1) < 1 then (some 9) else (if ((rd_T68 x1 x5).f1) > 99 then (some 9) else (r09_arcs.l0 k x1 (wrap64 (x5 + 1)) ac aa ae))) else (none)) else (none))
end
def r09_arcs.f (k : Nat) (ai : ByteArray) (af : List (S64)) (ah : List (S38)) (l1 : List (S68)) : Option (Int) := r09_arcs.l0 k l1 0 ai af ah
theorem r09_arcs.calls (k : Nat) (ai : ByteArray) (az : Option Addr) (aC : Nat) (af : List (S64)) (aA : Option Addr) (aD : Nat) (ah : List (S38)) (A1 : Option Addr) (c1 : Nat) (l1 : List (S68)) (r : Int) (w : World) (aR : Kd.C k64 w az af.length af) (aP : af.length ≤ aC) (aS : Kd.C k38 w aA ah.length ah) (aQ : ah.length ≤ aD) (hr1 : Kd.C k68 w A1 l1.length l1) (bO : l1.length ≤ c1) (h : r09_arcs.f k ai af ah l1 = some r) :
  Calls Try.prog 91 #[.agg #[.string ai, .slice az af.length aC, .slice aA ah.length aD], .slice A1 l1.length c1] w fun e w' => e = .returned (.int .i64 r) ∧ Below w.heap.size w w' := by
 have bR := Try.underlying25
 have bI := am aR
 have bF := am aP
 clear aR aP
 have bJ := am aS
 have bG := am aQ
 clear aS aQ
 have aG := am hr1
 have bX := am bO
 clear hr1 bO
 have HB := am (Below.refl w.heap.size w)
 have H : (r09_arcs.l0 k l1 0 ai af ah) = some r := h
 clear h
 have H' := am H
 clear H
 go_enter Try.func91, Try.ntmps91
 iterate 4 (try go_wp2_with (first | ((with_reducible refine qBN (N := 2) rfl ?_); (try (refine qBP (by rfl) ?_; dsimp only)); refine box_ev ?_; intro aF hg w3 hbox hb; have ag := am hbox; have a5 := gwl hg; have bE := a5; replace HB := bsl hb; clear hb hbox hg)); try go_quiet (fail))
 go_loopg [5] k (fun kq v5 w' => ∃ (ab : Int), v5 = .int .i64 ab ∧ Aside0 (r09_arcs.l0 kq l1 ab ai af ah = some r) ∧ Aside0 (kq ≤ k) ∧ Aside0 (w'.heap[aF]? = some (.cells #[.string ai, (.slice az af.length aC), (.slice aA ah.length aD)] 25 (0, 0))) ∧ Aside0 (Below w.heap.size w w'))
 case atStart => exact ⟨(0), prs, H', ⟨Nat.le_refl _⟩, ⟨pbk ag.1⟩, ⟨pbg⟩⟩
 clear H'
 try clear c1
 obtain ⟨ab, rfl, HA, a4, ag, HB⟩ := hrel
 obtain _ | k1 := gk
 ·exact absurd HA.1 (by simp [r09_arcs.l0])
 have H := HA.1
 clear HA
 simp only [r09_arcs.l0] at H
 replace H := ifl H
 rcases H with ⟨aU, H⟩ | ⟨aU, H⟩
 rotate_left
 ·obtain rfl := Option.some.inj H
  go_wp2
  repeat (go_quiet (fail); try go_wp2)
  go_ret
  exact ⟨per, pbg⟩
 have bl := am H
 clear H
 go_upto_region 4 with (fail)
 repeat (go_quiet (fail); go_upto_region 4 with (fail))
 go_cut [28] (fun bT wc => ∃ (kq : Nat) (aw : Bool), bT = .bool aw ∧ Aside0 (r09_arcs.j1 kq l1 ab aw ai af ah = some r) ∧ Aside0 (kq ≤ k1) ∧ Aside0 (wc.heap[aF]? = some (.cells #[.string ai, (.slice az af.length aC), (.slice aA ah.length aD)] 25 (0, 0))) ∧ Aside0 (Below w.heap.size w wc))
 case first =>
  have H := bl.1
  clear bl
  replace H := ifd H
  obtain ⟨aH, H⟩ := H
  (first | rw [aH] | (simp only [i64_w, i32_w]; rw [aH]) | skip)
  replace H := ifl H
  rcases H with ⟨aV, H⟩ | ⟨aV, H⟩
  ·have H' := am H
   clear H
   obtain ⟨aY, aZ, aO, aW, ak, al⟩ := bT68 aG.1 HB.1 ab
   cases aW
   go_wp2
   repeat (go_quiet (fail); try go_wp2)
   go_meet
   case rel => exact ⟨_, (true), prs, H', ⟨by have := a4.1; first | omega | exact Nat.le_refl _⟩, ⟨pbk ag.1⟩, ⟨pbg⟩⟩
  have H' := am H
  clear H
  obtain ⟨aY, aZ, aO, aW, ak, al⟩ := bT68 aG.1 HB.1 ab
  cases aW
  obtain ⟨bg, bi, a6, bq, aq, ar⟩ := bT68 aG.1 HB.1 ab
  obtain rfl : aO = a6 := (by injection bq)
  have bQ := cf3 ag.1
  go_wp2
  repeat (go_quiet (fail); try go_wp2)
  go_meet
  case rel => exact ⟨_, (decide (((rd_T68 l1 ab).f0) ≥ (af.length : Int))), prs, H', ⟨by have := a4.1; first | omega | exact Nat.le_refl _⟩, ⟨pbk ag.1⟩, ⟨pbg⟩⟩
 clear bl
 try clear c1 aU c6 aH c7 aV bQ ak al aq ar aY bg aZ bi
 obtain ⟨kq, aw, rfl, HA, bk, ag, HB⟩ := hcut
 obtain _ | bP := kq
 ·exact absurd HA.1 (by simp [r09_arcs.j1])
 have H := HA.1
 clear HA
 simp only [r09_arcs.j1] at H
 cases aw
 rotate_left
 ·rw [if_pos rfl] at H
  obtain rfl := Option.some.inj H
  go_wp2
  repeat (go_quiet (fail); try go_wp2)
  go_ret
  exact ⟨per, pbg⟩
 rw [if_neg Bool.false_ne_true] at H
 have aT := am H
 clear H
 go_upto_region 6 with (fail)
 repeat (go_quiet (fail); go_upto_region 6 with (fail))
 go_cut [44] (fun bU wc => ∃ (kq : Nat) (ax : Bool), bU = .bool ax ∧ Aside0 (r09_arcs.j2 kq l1 ab ax ai af ah = some r) ∧ Aside0 (kq ≤ bP) ∧ Aside0 (wc.heap[aF]? = some (.cells #[.string ai, (.slice az af.length aC), (.slice aA ah.length aD)] 25 (0, 0))) ∧ Aside0 (Below w.heap.size w wc))
 case first =>
  have H := aT.1
  clear aT
  replace H := ifg H
  rcases H with ⟨aj, H⟩ | ⟨aj, H⟩
  rotate_left
  ·(first | rw [aj] | (simp only [i64_w, i32_w]; rw [aj]) | skip)
   have H' := am H
   clear H
   go_wp2
   repeat (go_quiet (fail); try go_wp2)
   go_meet
   case rel => exact ⟨_, (false), prs, H', ⟨by have := a4.1; have := bk.1; first | omega | exact Nat.le_refl _⟩, ⟨pbk ag.1⟩, ⟨pbg⟩⟩
  (first | rw [aj] | (simp only [i64_w, i32_w]; rw [aj]) | skip)
  replace H := ifd H
  obtain ⟨a9, H⟩ := H
  replace H := ifd H
  obtain ⟨ba, H⟩ := H
  obtain ⟨ay, ap⟩ : ∃ j_ : Int, (wrap64 (ab - 1)) = j_ := ⟨_, rfl⟩
  replace H : (if 0 ≤ (ay) then (if (ay) < (l1.length : Int) then (r09_arcs.j2 bP l1 ab (decide (((rd_T68 l1 ab).f0) ≤ ((rd_T68 l1 (ay)).f0))) ai af ah) else (none)) else (none)) = some r := by first | (rw [ap] at H; exact H) | (simp only [ap] at H ⊢; exact H)
  have hji14w : (IntKind.i64.wrap (ab - 1)) = ay := (i64_w _).trans ap
  replace H := ifd H
  obtain ⟨bb, H⟩ := H
  replace H := ifd H
  obtain ⟨bc, H⟩ := H
  have H' := am H
  clear H
  obtain ⟨bx, bB, a7, br, aI, aJ⟩ := bT68 aG.1 HB.1 ab
  cases br
  obtain ⟨bz, bC, a8, bs, aK, aL⟩ := bT68 aG.1 HB.1 (ay)
  obtain rfl : a7 = a8 := (by injection bs)
  go_wp2
  repeat (go_quiet (fail); try go_wp2)
  go_meet
  case rel => exact ⟨_, (decide (((rd_T68 l1 ab).f0) ≤ ((rd_T68 l1 (ay)).f0))), (by first | rfl | (simp; done) | (simp only [← ap] <;> (first | rfl | simp)) | (simp [*]; done)), H', ⟨by have := a4.1; have := bk.1; first | omega | exact Nat.le_refl _⟩, ⟨pbk ag.1⟩, ⟨pbg⟩⟩
 clear aT
 try clear c1 c4 aU c6 aH c7 aV bY aj bm a9 bn ba bo bb bp bc bQ ak al aq ar aI aJ aK aL aY bg bx bz aZ bi bB bC
 obtain ⟨kq, ax, rfl, HA, bH, ag, HB⟩ := hcut
 obtain _ | bS := kq
 ·exact absurd HA.1 (by simp [r09_arcs.j2])
 have H := HA.1
 clear HA
 simp only [r09_arcs.j2] at H
 cases ax
 rotate_left
 ·rw [if_pos rfl] at H
  obtain rfl := Option.some.inj H
  go_wp2
  repeat (go_quiet (fail); try go_wp2)
  go_ret
  exact ⟨per, pbg⟩
 rw [if_neg Bool.false_ne_true] at H
 replace H := ifd H
 obtain ⟨bL, H⟩ := H
 replace H := ifd H
 obtain ⟨bN, H⟩ := H
 replace H := ifl H
 rcases H with ⟨bd, H⟩ | ⟨bd, H⟩
 ·obtain rfl := Option.some.inj H
  obtain ⟨bh, bj, ao, aE, au, av⟩ := bT68 aG.1 HB.1 ab
  cases aE
  go_wp2
  repeat (go_quiet (fail); try go_wp2)
  go_ret
  exact ⟨per, pbg⟩
 replace H := ifg H
 rcases H with ⟨bf, H⟩ | ⟨bf, H⟩
 ·obtain rfl := Option.some.inj H
  obtain ⟨bh, bj, ao, aE, au, av⟩ := bT68 aG.1 HB.1 ab
  cases aE
  obtain ⟨bA, bD, aB, aX, aM, aN⟩ := bT68 aG.1 HB.1 ab
  obtain rfl : ao = aB := (by injection aX)
  go_wp2
  repeat (go_quiet (fail); try go_wp2)
  go_ret
  exact ⟨per, pbg⟩
 have H' := am H
 clear H
 obtain ⟨bh, bj, ao, aE, au, av⟩ := bT68 aG.1 HB.1 ab
 cases aE
 obtain ⟨bA, bD, aB, aX, aM, aN⟩ := bT68 aG.1 HB.1 ab
 obtain rfl : ao = aB := (by injection aX)
 go_wp2
 repeat (go_quiet (fail); try go_wp2)
 go_roundg bS
 case measure => have := a4.1; have := bk.1; have := bH.1; omega
 case rel => exact ⟨(wrap64 (ab + 1)), prs, H', ⟨by have := a4.1; have := bk.1; have := bH.1; omega⟩, ⟨pbk ag.1⟩, ⟨pbg⟩⟩

/-! ### r09_trans: function 61 -/
mutual
def r09_trans.l0 : Nat → Int → Int → ByteArray → List (S64) → List (S38) → ByteArray → List (S68) → List (S68) → List (S68) → Int → Option (Int)
 | 0, _, _, _, _, _, _, _, _, _, _ => none
 | k + 1, x1, x6, aj, ag, ah, al, ay, az, aA, ao => if x6 < (ag.length : Int) then (if 0 ≤ x6 then (if ((rd_T64 ag x6).f0).toList = al.toList then (some 6) else (r09_trans.l0 k x1 (wrap64 (x6 + 1)) aj ag ah al ay az aA ao)) else (none)) else (r09_trans.l1 k x1 0 aj ag ah al ay az aA ao)
def r09_trans.l1 : Nat → Int → Int → ByteArray → List (S64) → List (S38) → ByteArray → List (S68) → List (S68) → List (S68) → Int → Option (Int)
 | 0, _, _, _, _, _, _, _, _, _, _ => none
 | k + 1, x1, x7, aj, ag, ah, al, ay, az, aA, ao => if x7 < x1 then (if 0 ≤ x7 then (if x7 < (ah.length : Int) then (if ((rd_T38 ah x7).f0).toList = al.toList then (some 6) else (r09_trans.l1 k x1 (wrap64 (x7 + 1)) aj ag ah al ay az aA ao)) else (none)) else (none)) else (if ao < 0 then (r09_trans.j2 k true aj ag ah al ay az aA ao) else (r09_trans.j2 k (decide (ao > 9)) aj ag ah al ay az aA ao))
def r09_trans.j2 : Nat → Bool → ByteArray → List (S64) → List (S38) → ByteArray → List (S68) → List (S68) → List (S68) → Int → Option (Int)
 | 0, _, _, _, _, _, _, _, _, _ => none
 | k + 1, dx, aj, ag, ah, al, ay, az, aA, ao => if dx = true then (some 1) else ((r09_arcs.f k aj ag ah ay).bind fun a9 => (if a9 = 0 then ((r09_arcs.f k aj ag ah az).bind fun bb => (if bb = 0 then ((r09_arcs.f k aj ag ah aA).bind fun bC => (some bC)) else (some bb))) else (some a9)))
end
def r09_trans.f (k : Nat) (ap : ByteArray) (ai : List (S64)) (aa : List (S38)) (a1 : Int) : Option (Int) := if 0 ≤ a1 then (if a1 < (aa.length : Int) then ((r09_Name.f k ((rd_T38 aa a1).f0)).bind fun b0 => (if b0 = true then (r09_trans.l0 k a1 0 ap ai aa ((rd_T38 aa a1).f0) ((rd_T38 aa a1).f1) ((rd_T38 aa a1).f2) ((rd_T38 aa a1).f3) ((rd_T38 aa a1).f4)) else (some 5))) else (none)) else (none)
theorem r09_trans.calls (k : Nat) (ap : ByteArray) (bk : Option Addr) (bo : Nat) (ai : List (S64)) (b4 : Option Addr) (bp : Nat) (aa : List (S38)) (a1 : Int) (r : Int) (w : World) (bK : Kd.C k64 w bk ai.length ai) (bI : ai.length ≤ bo) (bL : Kd.C k38 w b4 aa.length aa) (bJ : aa.length ≤ bp) (h : r09_trans.f k ap ai aa a1 = some r) :
  Calls Try.prog 61 #[.agg #[.string ap, .slice bk ai.length bo, .slice b4 aa.length bp], .int .i64 a1] w fun e w' => e = .returned (.int .i64 r) ∧ Below w.heap.size w w' := by
 have dl := Try.underlying25
 have dm := Try.underlying38
 have aq := am bK
 have aD := am bI
 clear bK bI
 have ak := am bL
 have aE := am bJ
 clear bL bJ
 have HB := am (Below.refl w.heap.size w)
 have H := h
 unfold r09_trans.f at H
 clear h
 replace H := ifd H
 obtain ⟨bT, H⟩ := H
 replace H := ifd H
 obtain ⟨bU, H⟩ := H
 replace H := bnd H
 obtain ⟨b0, A5, H⟩ := H
 (try dsimp only at H)
 cases b0
 ·rw [if_neg Bool.false_ne_true] at H
  obtain rfl := Option.some.inj H
  go_enter Try.func61, Try.ntmps61
  iterate 4 (try go_wp2_with (first | ((with_reducible refine qBN (N := 2) rfl ?_); refine box_ev ?_; intro bc hg dJ hbox hb; have ab := am hbox; have bl := gwl hg; have b5 := bl; replace HB := bsl hb; clear hb hbox hg; have dF := cf3 ab.1; have aQ : 0 ≤ (a1 : Int) := dq; have aR : a1 < (aa.length : Int) := dq; obtain ⟨aS, aU, aZ, aV, a4, aW, a5, bV, ar, au, av, aw, ax, aK, aH, aL, aI, aM, aJ⟩ := at_T38 ak.1 a1 aQ aR; cases bV; replace ar := cbl HB.1 ar; replace au := cbl HB.1 au; replace av := cbl HB.1 av; replace aw := cbl HB.1 aw; replace ax := cbl HB.1 ax; have aC := am aH; have aB := am aK; clear aH aK; have aG := am aI; have aF := am aL; clear aI aL; have aY := am aJ; have aX := am aM; clear aJ aM; replace aQ := eq_true aQ; replace aR := eq_true aR) | ((with_reducible refine qBN (N := 5) rfl ?_); refine box_ev (N := 5) (cs := #[.string (⟨#[]⟩ : ByteArray), .slice none 0 0, .slice none 0 0, .slice none 0 0, .int .i64 0]) (t := 38) ?_; intro bd hg dK hbox hb; have ac := am hbox; have bm := gwb hg; have b6 := bm; have ae := nlt hg ab; have af := ngt hg ab; replace ab := bbh ab hb; replace HB := bst hb; clear hb hbox hg; have cW := af.1; have dj := ae.1; have dG := cf5 ac.1) | (go_at_call 59; (with_reducible refine (r09_Name.calls k ((rd_T38 aa a1).f0) false _ A5.1).mono ?_); rintro e w' ⟨rfl, ⟨nd, rfl⟩⟩; (try first | exact dw1 | exact dw2))); try go_quiet (first | (go_at_call 59; (with_reducible refine (r09_Name.calls k ((rd_T38 aa a1).f0) false _ A5.1).mono ?_); rintro e w' ⟨rfl, ⟨nd, rfl⟩⟩; (try first | exact dw1 | exact dw2))))
  go_ret
  exact ⟨per, pbg⟩
 rw [if_pos rfl] at H
 have H' := am H
 clear H
 go_enter Try.func61, Try.ntmps61
 iterate 4 (try go_wp2_with (first | ((with_reducible refine qBN (N := 2) rfl ?_); refine box_ev ?_; intro bc hg w7 hbox hb; have ab := am hbox; have bl := gwl hg; have b5 := bl; replace HB := bsl hb; clear hb hbox hg; have cJ := cf3 ab.1; have aQ : 0 ≤ (a1 : Int) := dq; have aR : a1 < (aa.length : Int) := dq; obtain ⟨aS, aU, aZ, aV, a4, aW, a5, bV, ar, au, av, aw, ax, aK, aH, aL, aI, aM, aJ⟩ := at_T38 ak.1 a1 aQ aR; cases bV; replace ar := cbl HB.1 ar; replace au := cbl HB.1 au; replace av := cbl HB.1 av; replace aw := cbl HB.1 aw; replace ax := cbl HB.1 ax; have aC := am aH; have aB := am aK; clear aH aK; have aG := am aI; have aF := am aL; clear aI aL; have aY := am aJ; have aX := am aM; clear aJ aM; replace aQ := eq_true aQ; replace aR := eq_true aR) | ((with_reducible refine qBN (N := 5) rfl ?_); refine box_ev (N := 5) (cs := #[.string (⟨#[]⟩ : ByteArray), .slice none 0 0, .slice none 0 0, .slice none 0 0, .int .i64 0]) (t := 38) ?_; intro bd hg w9 hbox hb; have ac := am hbox; have bm := gwb hg; have b6 := bm; have ae := nlt hg ab; have af := ngt hg ab; replace ab := bbh ab hb; replace HB := bst hb; clear hb hbox hg; have cL := af.1; have cX := ae.1; have b1 := cf5 ac.1) | (go_at_call 59; (with_reducible refine (r09_Name.calls k ((rd_T38 aa a1).f0) true _ A5.1).mono ?_); rintro e w' ⟨rfl, ⟨nd, rfl⟩⟩; (try first | exact dw1 | exact dw2))); try go_quiet (first | (go_at_call 59; (with_reducible refine (r09_Name.calls k ((rd_T38 aa a1).f0) true _ A5.1).mono ?_); rintro e w' ⟨rfl, ⟨nd, rfl⟩⟩; (try first | exact dw1 | exact dw2))))
 go_loopg [6] k (fun kq v6 w' => ∃ (aO : Int), v6 = .int .i64 aO ∧ Aside0 (r09_trans.l0 kq a1 aO ap ai aa ((rd_T38 aa a1).f0) ((rd_T38 aa a1).f1) ((rd_T38 aa a1).f2) ((rd_T38 aa a1).f3) ((rd_T38 aa a1).f4) = some r) ∧ Aside0 (kq ≤ k) ∧ Aside0 (w'.heap[bc]? = some (.cells #[.string ap, (.slice bk ai.length bo), (.slice (some aS) aa.length bp)] 25 (0, 0))) ∧ Aside0 (w'.heap[bd]? = some (.cells #[.string ((rd_T38 aa a1).f0), (.slice aU ((rd_T38 aa a1).f1).length aZ), (.slice aV ((rd_T38 aa a1).f2).length a4), (.slice aW ((rd_T38 aa a1).f3).length a5), .int .i64 ((rd_T38 aa a1).f4)] 38 (0, 0))) ∧ Aside0 (Below w.heap.size w w'))
 case atStart => exact ⟨(0), prs, H', ⟨Nat.le_refl _⟩, ⟨by (with_reducible repeat (first | refine qBK ?_ _ | refine qBM ?_ | refine qBL ?_ _)); refine bf5 ?_ ae.1; exact pbk ab.1⟩, ⟨by (with_reducible repeat (first | refine qBK ?_ _ | refine qBM ?_ | refine qBL ?_ _)); exact bp5 (pbk ac.1)⟩, ⟨pbg⟩⟩
 clear H'
 try clear c3 bT c4 bU b1 cJ ar au av aw ax aQ aR
 obtain ⟨aO, rfl, HA, b3, ab, ac, HB⟩ := hrel
 obtain _ | k1 := gk
 ·exact absurd HA.1 (by simp [r09_trans.l0])
 have H := HA.1
 clear HA
 simp only [r09_trans.l0] at H
 replace H := ifl H
 rcases H with ⟨bq, H⟩ | ⟨bq, H⟩
 ·replace H := ifp H
  obtain ⟨cp, H⟩ := H
  have bD := decide_eq_true cp
  clear cp
  by_cases bB : ((rd_T64 ai aO).f0).toList = ((rd_T38 aa a1).f0).toList
  ·rw [if_pos bB] at H
   have br : (((rd_T64 ai aO).f0).toList == ((rd_T38 aa a1).f0).toList) = true := beq_iff_eq.mpr bB
   have bs : (((rd_T64 ai aO).f0).toList != ((rd_T38 aa a1).f0).toList) = false := bne_eq_false_iff_eq.mpr bB
   clear bB
   obtain rfl := Option.some.inj H
   have cM := ae.1
   have cY := af.1
   have ch := cf3 ab.1
   obtain ⟨bY, bZ, b7, bW, a6, a7, a8⟩ := bT64 aq.1 HB.1 aO
   cases bW
   have ci := cf5 ac.1
   go_wp2
   repeat (go_quiet (fail); try go_wp2)
   go_ret
   exact ⟨per, pbg⟩
  rw [if_neg bB] at H
  have br : (((rd_T64 ai aO).f0).toList == ((rd_T38 aa a1).f0).toList) = false := beq_eq_false_iff_ne.mpr bB
  have bs : (((rd_T64 ai aO).f0).toList != ((rd_T38 aa a1).f0).toList) = true := bne_iff_ne.mpr bB
  have H' := am H
  clear H
  have cN := ae.1
  have cZ := af.1
  have cj := cf3 ab.1
  obtain ⟨bY, bZ, b7, bW, a6, a7, a8⟩ := bT64 aq.1 HB.1 aO
  cases bW
  have ck := cf5 ac.1
  go_wp2
  repeat (go_quiet (fail); try go_wp2)
  go_roundg k1
  case measure => have := b3.1; omega
  case rel => exact ⟨(wrap64 (aO + 1)), prs, H', ⟨by have := b3.1; omega⟩, ⟨pbk ab.1⟩, ⟨pbk ac.1⟩, ⟨pbg⟩⟩
 have H' := am H
 clear H
 have cO := ae.1
 have da := af.1
 have cm := cf3 ab.1
 go_wp2
 repeat (go_quiet (fail); try go_wp2)
 go_loopg [7] k1 (fun kq v7 w' => ∃ (aP : Int), v7 = .int .i64 aP ∧ Aside0 (r09_trans.l1 kq a1 aP ap ai aa ((rd_T38 aa a1).f0) ((rd_T38 aa a1).f1) ((rd_T38 aa a1).f2) ((rd_T38 aa a1).f3) ((rd_T38 aa a1).f4) = some r) ∧ Aside0 (kq ≤ k1) ∧ Aside0 (w'.heap[bc]? = some (.cells #[.string ap, (.slice bk ai.length bo), (.slice (some aS) aa.length bp)] 25 (0, 0))) ∧ Aside0 (w'.heap[bd]? = some (.cells #[.string ((rd_T38 aa a1).f0), (.slice aU ((rd_T38 aa a1).f1).length aZ), (.slice aV ((rd_T38 aa a1).f2).length a4), (.slice aW ((rd_T38 aa a1).f3).length a5), .int .i64 ((rd_T38 aa a1).f4)] 38 (0, 0))) ∧ Aside0 (Below w.heap.size w w'))
 case atStart => exact ⟨(0), prs, H', ⟨Nat.le_refl _⟩, ⟨pbk ab.1⟩, ⟨pbk ac.1⟩, ⟨pbg⟩⟩
 clear H'
 try clear c3 bT c4 bU c6 bq cp bD bB br bs b1 ch ci cj ck cm cJ ar au av aw ax a6 a7 a8 aQ bY aR bZ
 obtain ⟨aP, rfl, HA, co, ab, ac, HB⟩ := hrel
 obtain _ | k2 := gk
 ·exact absurd HA.1 (by simp [r09_trans.l1])
 have H := HA.1
 clear HA
 simp only [r09_trans.l1] at H
 replace H := ifl H
 rcases H with ⟨bE, H⟩ | ⟨bE, H⟩
 ·replace H := ifp H
  obtain ⟨cq, H⟩ := H
  have b8 := decide_eq_true cq
  clear cq
  replace H := ifd H
  obtain ⟨b9, H⟩ := H
  by_cases bF : ((rd_T38 aa aP).f0).toList = ((rd_T38 aa a1).f0).toList
  ·rw [if_pos bF] at H
   have bG : (((rd_T38 aa aP).f0).toList == ((rd_T38 aa a1).f0).toList) = true := beq_iff_eq.mpr bF
   have bH : (((rd_T38 aa aP).f0).toList != ((rd_T38 aa a1).f0).toList) = false := bne_eq_false_iff_eq.mpr bF
   clear bF
   obtain rfl := Option.some.inj H
   have cP := ae.1
   have db := af.1
   have cx := cf3 ab.1
   obtain ⟨cf, cg, bn, bM, bQ, bN, bR, bO, bS, bX, bf, bg, bh, bi, bj, bu, bx, bv, bz, bw, bA⟩ := bT38 ak.1 HB.1 aP
   obtain rfl : aS = bn := (by injection bX)
   have cy := cf5 ac.1
   go_wp2
   repeat (go_quiet (fail); try go_wp2)
   go_ret
   exact ⟨per, pbg⟩
  rw [if_neg bF] at H
  have bG : (((rd_T38 aa aP).f0).toList == ((rd_T38 aa a1).f0).toList) = false := beq_eq_false_iff_ne.mpr bF
  have bH : (((rd_T38 aa aP).f0).toList != ((rd_T38 aa a1).f0).toList) = true := bne_iff_ne.mpr bF
  have H' := am H
  clear H
  have cQ := ae.1
  have dc := af.1
  have cz := cf3 ab.1
  obtain ⟨cf, cg, bn, bM, bQ, bN, bR, bO, bS, bX, bf, bg, bh, bi, bj, bu, bx, bv, bz, bw, bA⟩ := bT38 ak.1 HB.1 aP
  obtain rfl : aS = bn := (by injection bX)
  have cA := cf5 ac.1
  go_wp2
  repeat (go_quiet (fail); try go_wp2)
  go_roundg k2
  case measure => have := b3.1; have := co.1; omega
  case rel => exact ⟨(wrap64 (aP + 1)), prs, H', ⟨by have := b3.1; have := co.1; omega⟩, ⟨pbk ab.1⟩, ⟨pbk ac.1⟩, ⟨pbg⟩⟩
 have bP := am H
 clear H
 go_upto_region 14 with (fail)
 repeat (go_quiet (fail); go_upto_region 14 with (fail))
 go_cut [56] (fun dn wc => ∃ (kq : Nat) (ba : Bool), dn = .bool ba ∧ Aside0 (r09_trans.j2 kq ba ap ai aa ((rd_T38 aa a1).f0) ((rd_T38 aa a1).f1) ((rd_T38 aa a1).f2) ((rd_T38 aa a1).f3) ((rd_T38 aa a1).f4) = some r) ∧ Aside0 (kq ≤ k2) ∧ Aside0 (wc.heap[bc]? = some (.cells #[.string ap, (.slice bk ai.length bo), (.slice (some aS) aa.length bp)] 25 (0, 0))) ∧ Aside0 (wc.heap[bd]? = some (.cells #[.string ((rd_T38 aa a1).f0), (.slice aU ((rd_T38 aa a1).f1).length aZ), (.slice aV ((rd_T38 aa a1).f2).length a4), (.slice aW ((rd_T38 aa a1).f3).length a5), .int .i64 ((rd_T38 aa a1).f4)] 38 (0, 0))) ∧ Aside0 (Below w.heap.size w wc))
 case first =>
  have H := bP.1
  clear bP
  replace H := ifl H
  rcases H with ⟨aT, H⟩ | ⟨aT, H⟩
  ·(first | rw [aT] | (simp only [i64_w, i32_w]; rw [aT]) | skip)
   have H' := am H
   clear H
   have cR := af.1
   have de := ae.1
   have cB := cf5 ac.1
   go_wp2
   repeat (go_quiet (fail); try go_wp2)
   go_meet
   case rel => exact ⟨_, (true), prs, H', ⟨by have := b3.1; have := co.1; first | omega | exact Nat.le_refl _⟩, ⟨pbk ab.1⟩, ⟨pbk ac.1⟩, ⟨pbg⟩⟩
  (first | rw [aT] | (simp only [i64_w, i32_w]; rw [aT]) | skip)
  have H' := am H
  clear H
  have cS := af.1
  have df := ae.1
  have cC := cf5 ac.1
  go_wp2
  repeat (go_quiet (fail); try go_wp2)
  go_meet
  case rel => exact ⟨_, (decide (((rd_T38 aa a1).f4) > 9)), prs, H', ⟨by have := b3.1; have := co.1; first | omega | exact Nat.le_refl _⟩, ⟨pbk ab.1⟩, ⟨pbk ac.1⟩, ⟨pbg⟩⟩
 clear bP
 try clear c3 bT c4 bU c6 dH bq cp bD bB br bs bE cq b8 cr b9 bF bG bH dI aT b1 ch ci cj ck cm cx cy cz cA cB cC cJ ar au av aw ax a6 a7 a8 bf bg bh bi bj aQ bY cf aR bZ cg
 obtain ⟨kq, ba, rfl, HA, dk, ab, ac, HB⟩ := hcut
 obtain _ | aN := kq
 ·exact absurd HA.1 (by simp [r09_trans.j2])
 have H := HA.1
 clear HA
 simp only [r09_trans.j2] at H
 cases ba
 rotate_left
 ·rw [if_pos rfl] at H
  obtain rfl := Option.some.inj H
  go_wp2
  repeat (go_quiet (fail); try go_wp2)
  go_ret
  exact ⟨per, pbg⟩
 rw [if_neg Bool.false_ne_true] at H
 replace H := bnd H
 obtain ⟨a9, b2, H⟩ := H
 (try dsimp only at H)
 replace H := ife H
 rcases H with ⟨ca, cb, H⟩ | ⟨ca, cb, H⟩
 rotate_left
 ·obtain rfl := Option.some.inj H
  have cV := ae.1
  have di := af.1
  have dD := cf3 ab.1
  have dE := cf5 ac.1
  iterate 4 (try go_wp2_with (first | (go_at_call 91; (with_reducible refine (r09_arcs.calls aN ap _ _ ai _ _ aa _ _ ((rd_T38 aa a1).f1) a9 _ ?side1 ?side2 ?side3 ?side4 ?side5 ?side6 b2.1).mono ?_); (case side1 => exact csb aq HB); (case side2 => exact aD.1); (case side3 => exact csb ak HB); (case side4 => exact aE.1); (case side5 => exact csb aC HB); (case side6 => exact aB.1); rintro e dw ⟨rfl, hb⟩; replace ab := bbh ab hb; replace ac := bbh ac hb; replace HB := bst hb; (try clear hb))); try go_quiet (first | (go_at_call 91; (with_reducible refine (r09_arcs.calls aN ap _ _ ai _ _ aa _ _ ((rd_T38 aa a1).f1) a9 _ ?side1 ?side2 ?side3 ?side4 ?side5 ?side6 b2.1).mono ?_); (case side1 => exact csb aq HB); (case side2 => exact aD.1); (case side3 => exact csb ak HB); (case side4 => exact aE.1); (case side5 => exact csb aC HB); (case side6 => exact aB.1); rintro e dw ⟨rfl, hb⟩; replace ab := bbh ab hb; replace ac := bbh ac hb; replace HB := bst hb; (try clear hb))))
  go_ret
  exact ⟨per, pbg⟩
 replace H := bnd H
 obtain ⟨bb, cn, H⟩ := H
 (try dsimp only at H)
 replace H := ife H
 rcases H with ⟨cd, ce, H⟩ | ⟨cd, ce, H⟩
 rotate_left
 ·obtain rfl := Option.some.inj H
  have cU := ae.1
  have dh := af.1
  have dB := cf3 ab.1
  have dC := cf5 ac.1
  iterate 4 (try go_wp2_with (first | (go_at_call 91; (with_reducible refine (r09_arcs.calls aN ap _ _ ai _ _ aa _ _ ((rd_T38 aa a1).f1) a9 _ ?side1 ?side2 ?side3 ?side4 ?side5 ?side6 b2.1).mono ?_); (case side1 => exact csb aq HB); (case side2 => exact aD.1); (case side3 => exact csb ak HB); (case side4 => exact aE.1); (case side5 => exact csb aC HB); (case side6 => exact aB.1); rintro e du ⟨rfl, hb⟩; replace ab := bbh ab hb; replace ac := bbh ac hb; replace HB := bst hb; (try clear hb); have cH := cf3 ab.1; have cI := cf5 ac.1) | (go_at_call 91; (with_reducible refine (r09_arcs.calls aN ap _ _ ai _ _ aa _ _ ((rd_T38 aa a1).f2) bb _ ?side1 ?side2 ?side3 ?side4 ?side5 ?side6 cn.1).mono ?_); (case side1 => exact csb aq HB); (case side2 => exact aD.1); (case side3 => exact csb ak HB); (case side4 => exact aE.1); (case side5 => exact csb aG HB); (case side6 => exact aF.1); rintro e dv ⟨rfl, hb⟩; replace ab := bbh ab hb; replace ac := bbh ac hb; replace HB := bst hb; (try clear hb))); try go_quiet (first | (go_at_call 91; (with_reducible refine (r09_arcs.calls aN ap _ _ ai _ _ aa _ _ ((rd_T38 aa a1).f1) a9 _ ?side1 ?side2 ?side3 ?side4 ?side5 ?side6 b2.1).mono ?_); (case side1 => exact csb aq HB); (case side2 => exact aD.1); (case side3 => exact csb ak HB); (case side4 => exact aE.1); (case side5 => exact csb aC HB); (case side6 => exact aB.1); rintro e du ⟨rfl, hb⟩; replace ab := bbh ab hb; replace ac := bbh ac hb; replace HB := bst hb; (try clear hb); have cH := cf3 ab.1; have cI := cf5 ac.1) | (go_at_call 91; (with_reducible refine (r09_arcs.calls aN ap _ _ ai _ _ aa _ _ ((rd_T38 aa a1).f2) bb _ ?side1 ?side2 ?side3 ?side4 ?side5 ?side6 cn.1).mono ?_); (case side1 => exact csb aq HB); (case side2 => exact aD.1); (case side3 => exact csb ak HB); (case side4 => exact aE.1); (case side5 => exact csb aG HB); (case side6 => exact aF.1); rintro e dv ⟨rfl, hb⟩; replace ab := bbh ab hb; replace ac := bbh ac hb; replace HB := bst hb; (try clear hb))))
  go_ret
  exact ⟨per, pbg⟩
 replace H := bnd H
 obtain ⟨bC, cK, H⟩ := H
 (try dsimp only at H)
 obtain rfl := Option.some.inj H
 have cT := ae.1
 have dg := af.1
 have dy := cf3 ab.1
 have dz := cf5 ac.1
 iterate 4 (try go_wp2_with (first | (go_at_call 91; (with_reducible refine (r09_arcs.calls aN ap _ _ ai _ _ aa _ _ ((rd_T38 aa a1).f1) a9 _ ?side1 ?side2 ?side3 ?side4 ?side5 ?side6 b2.1).mono ?_); (case side1 => exact csb aq HB); (case side2 => exact aD.1); (case side3 => exact csb ak HB); (case side4 => exact aE.1); (case side5 => exact csb aC HB); (case side6 => exact aB.1); rintro e dp ⟨rfl, hb⟩; replace ab := bbh ab hb; replace ac := bbh ac hb; replace HB := bst hb; (try clear hb); have cD := cf3 ab.1; have cE := cf5 ac.1) | (go_at_call 91; (with_reducible refine (r09_arcs.calls aN ap _ _ ai _ _ aa _ _ ((rd_T38 aa a1).f2) bb _ ?side1 ?side2 ?side3 ?side4 ?side5 ?side6 cn.1).mono ?_); (case side1 => exact csb aq HB); (case side2 => exact aD.1); (case side3 => exact csb ak HB); (case side4 => exact aE.1); (case side5 => exact csb aG HB); (case side6 => exact aF.1); rintro e dr ⟨rfl, hb⟩; replace ab := bbh ab hb; replace ac := bbh ac hb; replace HB := bst hb; (try clear hb); have cF := cf3 ab.1; have cG := cf5 ac.1) | (go_at_call 91; (with_reducible refine (r09_arcs.calls aN ap _ _ ai _ _ aa _ _ ((rd_T38 aa a1).f3) bC _ ?side1 ?side2 ?side3 ?side4 ?side5 ?side6 cK.1).mono ?_); (case side1 => exact csb aq HB); (case side2 => exact aD.1); (case side3 => exact csb ak HB); (case side4 => exact aE.1); (case side5 => exact csb aY HB); (case side6 => exact aX.1); rintro e dt ⟨rfl, hb⟩; replace ab := bbh ab hb; replace ac := bbh ac hb; replace HB := bst hb; (try clear hb))); try go_quiet (first | (go_at_call 91; (with_reducible refine (r09_arcs.calls aN ap _ _ ai _ _ aa _ _ ((rd_T38 aa a1).f1) a9 _ ?side1 ?side2 ?side3 ?side4 ?side5 ?side6 b2.1).mono ?_); (case side1 => exact csb aq HB); (case side2 => exact aD.1); (case side3 => exact csb ak HB); (case side4 => exact aE.1); (case side5 => exact csb aC HB); (case side6 => exact aB.1); rintro e dp ⟨rfl, hb⟩; replace ab := bbh ab hb; replace ac := bbh ac hb; replace HB := bst hb; (try clear hb); have cD := cf3 ab.1; have cE := cf5 ac.1) | (go_at_call 91; (with_reducible refine (r09_arcs.calls aN ap _ _ ai _ _ aa _ _ ((rd_T38 aa a1).f2) bb _ ?side1 ?side2 ?side3 ?side4 ?side5 ?side6 cn.1).mono ?_); (case side1 => exact csb aq HB); (case side2 => exact aD.1); (case side3 => exact csb ak HB); (case side4 => exact aE.1); (case side5 => exact csb aG HB); (case side6 => exact aF.1); rintro e dr ⟨rfl, hb⟩; replace ab := bbh ab hb; replace ac := bbh ac hb; replace HB := bst hb; (try clear hb); have cF := cf3 ab.1; have cG := cf5 ac.1) | (go_at_call 91; (with_reducible refine (r09_arcs.calls aN ap _ _ ai _ _ aa _ _ ((rd_T38 aa a1).f3) bC _ ?side1 ?side2 ?side3 ?side4 ?side5 ?side6 cK.1).mono ?_); (case side1 => exact csb aq HB); (case side2 => exact aD.1); (case side3 => exact csb ak HB); (case side4 => exact aE.1); (case side5 => exact csb aY HB); (case side6 => exact aX.1); rintro e dt ⟨rfl, hb⟩; replace ab := bbh ab hb; replace ac := bbh ac hb; replace HB := bst hb; (try clear hb))))
 go_ret
 exact ⟨per, pbg⟩

/-! ### r09_Check: function 34 -/
mutual
def r09_Check.j0 : Nat → Bool → ByteArray → List (S64) → List (S38) → Option (Int × Int)
 | 0, _, _, _, _ => none
 | k + 1, bT, aj, ag, ah => if bT = true then (some (2, 0)) else (r09_Check.l0 k 0 aj ag ah)
def r09_Check.l0 : Nat → Int → ByteArray → List (S64) → List (S38) → Option (Int × Int)
 | 0, _, _, _, _ => none
 | k + 1, x3, aj, ag, ah => if x3 < (ag.length : Int) then ((r09_place.f k aj ag ah x3).bind fun aJ => (if aJ = 0 then (r09_Check.l0 k (wrap64 (x3 + 1)) aj ag ah) else (some (aJ, x3)))) else (r09_Check.l1 k 0 aj ag ah)
def r09_Check.l1 : Nat → Int → ByteArray → List (S64) → List (S38) → Option (Int × Int)
 | 0, _, _, _, _ => none
 | k + 1, x5, aj, ag, ah => if x5 < (ah.length : Int) then ((r09_trans.f k aj ag ah x5).bind fun aK => (if aK = 0 then (r09_Check.l1 k (wrap64 (x5 + 1)) aj ag ah) else (some (aK, wrap64 ((ag.length : Int) + x5))))) else (some (0, 0))
end
def r09_Check.f (k : Nat) (ak : ByteArray) (af : List (S64)) (ai : List (S38)) : Option (Int × Int) := (r09_Name.f k ak).bind fun aW => (if aW = true then (if (af.length : Int) < 1 then (r09_Check.j0 k true ak af ai) else (if (af.length : Int) > 24 then (r09_Check.j0 k true ak af ai) else (r09_Check.j0 k (decide ((ai.length : Int) > 24)) ak af ai))) else (some (5, 0)))
theorem r09_Check.calls (k : Nat) (ak : ByteArray) (aF : Option Addr) (aH : Nat) (af : List (S64)) (aG : Option Addr) (aI : Nat) (ai : List (S38)) (r1 : Int) (r2 : Int) (w : World) (aU : Kd.C k64 w aF af.length af) (aS : af.length ≤ aH) (aV : Kd.C k38 w aG ai.length ai) (aT : ai.length ≤ aI) (h : r09_Check.f k ak af ai = some (r1, r2)) :
  Calls Try.prog 34 #[.agg #[.string ak, .slice aF af.length aH, .slice aG ai.length aI]] w fun e w' => e = .returned (.agg #[.int .i64 r1, .int .i64 r2]) ∧ Below w.heap.size w w' := by
 have bQ := Try.underlying25
 have bR := Try.underlying48
 have aA := am aU
 have ay := am aS
 clear aU aS
 have aB := am aV
 have az := am aT
 clear aV aT
 have HB := am (Below.refl w.heap.size w)
 have H := h
 unfold r09_Check.f at H
 clear h
 replace H := bnd H
 obtain ⟨aW, A2, H⟩ := H
 (try dsimp only at H)
 cases aW
 ·rw [if_neg Bool.false_ne_true] at H
  simp only [Option.some.injEq, Prod.mk.injEq] at H
  obtain ⟨rfl, rfl⟩ := H
  go_enter Try.func34, Try.ntmps34
  go_wp2_with (first | ((with_reducible refine qBN (N := 1) rfl ?_); (try (refine qBP (by rfl) ?_; dsimp only)); refine box_ev ?_; intro av hg b8 hbox hb; have aa := am hbox; have aL := gwl hg; have a4 := aL; replace HB := bsl hb; clear hb hbox hg) | ((with_reducible refine qBN (N := 2) rfl ?_); (try (refine qBP (by rfl) ?_; dsimp only)); refine box_ev ?_; intro ap hg a3 hbox hb; have ae := am hbox; have aM := gwb hg; have a5 := aM; have ab := nlt hg aa; have ac := ngt hg aa; replace aa := bbh aa hb; replace HB := bst hb; clear hb hbox hg; have bB := ab.1; have bM := ac.1; have b0 := cf3 aa.1) | ((with_reducible refine qBO (f := 59) rfl ?_); refine gC 9 Try.func59 _ (r09_Name.calls k ak false _ A2.1) ?_; rintro e w' ⟨rfl, ⟨nd, rfl⟩⟩; refine ⟨_, rfl, ?_⟩; (try (rw [drewN_self a3]; generalize hq_ : World.drewN a3 _ = a3; replace aa : Aside0 (a3.heap[av]? = some (.cells #[.string ak, .slice aF af.length aH, .slice aG ai.length aI] 25 (0, 0))) := ⟨by rw [← hq_]; exact (by exact pbk aa.1)⟩; replace ae : Aside0 (a3.heap[ap]? = some (.cells #[.int .i64 0, .int .i64 0] 48 (0, 0))) := ⟨by rw [← hq_]; exact (by exact pbk ae.1)⟩; replace HB : Aside0 (Below w.heap.size w a3) := ⟨by rw [← hq_]; exact pbg⟩; clear hq_)); have b1 := cf2 ae.1))
  refine bodyPost_ret (results_cell_row rfl _ _ ap 48 #[.int .i64 5, .int .i64 0] (0, 0) _ rfl (by (with_reducible repeat (first | refine qBK ?_ _ | refine qBM ?_ | refine qBL ?_ _)); exact bp2 (pbk ae.1)) Try.underlying48 rfl (by kernel_rfl)) rfl ?_
  exact ⟨per, pbg⟩
 rw [if_pos rfl] at H
 have bc := am H
 clear H
 go_enter Try.func34, Try.ntmps34
 go_upto_region 3 with (first | ((with_reducible refine qBN (N := 1) rfl ?_); (try (refine qBP (by rfl) ?_; dsimp only)); refine box_ev ?_; intro av hg w5 hbox hb; have aa := am hbox; have aL := gwl hg; have a4 := aL; replace HB := bsl hb; clear hb hbox hg) | ((with_reducible refine qBN (N := 2) rfl ?_); (try (refine qBP (by rfl) ?_; dsimp only)); refine box_ev ?_; intro ap hg w6 hbox hb; have ae := am hbox; have aM := gwb hg; have a5 := aM; have ab := nlt hg aa; have ac := ngt hg aa; replace aa := bbh aa hb; replace HB := bst hb; clear hb hbox hg; have bO := ab.1; have bP := ac.1; have bl := cf3 aa.1) | ((with_reducible refine qBO (f := 59) rfl ?_); refine gC 9 Try.func59 _ (r09_Name.calls k ak true _ A2.1) ?_; rintro e w' ⟨rfl, ⟨nd, rfl⟩⟩; refine ⟨_, rfl, ?_⟩))
 (try simp only [Act.put, List.setIfInBounds_toArray, List.set_cons_zero, List.set_cons_succ])
 go_cut [27] (fun bS wc => ∃ (kq : Nat) (aE : Bool), bS = .bool aE ∧ Aside0 (r09_Check.j0 kq aE ak af ai = some (r1, r2)) ∧ Aside0 (kq ≤ k) ∧ Aside0 (wc.heap[av]? = some (.cells #[.string ak, (.slice aF af.length aH), (.slice aG ai.length aI)] 25 (0, 0))) ∧ Aside0 (wc.heap[ap]? = some (.cells #[.int .i64 0, .int .i64 0] 48 (0, 0))) ∧ Aside0 (Below w.heap.size w wc))
 case first =>
  have H := bc.1
  clear bc
  by_cases c9 : (af.length : Int) < 1
  ·rw [if_pos c9] at H
   have au : decide ((af.length : Int) < 1) = true := decide_eq_true c9
   have aO : decide (af.length < 1) = true := decide_eq_true (by omega)
   clear c9
   (first | rw [au] | (simp only [i64_w, i32_w]; rw [au]) | skip)
   have H' := am H
   clear H
   have bp := ab.1
   have bC := ac.1
   have aX := cf3 aa.1
   go_wp2
   go_meet
   case rel => exact ⟨_, (true), prs, H', ⟨by first | omega | exact Nat.le_refl _⟩, ⟨pbk aa.1⟩, ⟨pbk ae.1⟩, ⟨pbg⟩⟩
  rw [if_neg c9] at H
  have au : decide ((af.length : Int) < 1) = false := decide_eq_false c9
  have aO : decide (af.length < 1) = false := decide_eq_false (by omega)
  clear c9
  (first | rw [au] | (simp only [i64_w, i32_w]; rw [au]) | skip)
  by_cases aN : (af.length : Int) > 24
  ·rw [if_pos aN] at H
   have aC : decide (24 < (af.length : Int)) = true := decide_eq_true aN
   have aD : decide (24 < af.length) = true := decide_eq_true (by omega)
   clear aN
   have H' := am H
   clear H
   have bq := ab.1
   have bD := ac.1
   have aY := cf3 aa.1
   go_wp2
   go_meet
   case rel => exact ⟨_, (true), prs, H', ⟨by first | omega | exact Nat.le_refl _⟩, ⟨pbk aa.1⟩, ⟨pbk ae.1⟩, ⟨pbg⟩⟩
  rw [if_neg aN] at H
  have aC : decide (24 < (af.length : Int)) = false := decide_eq_false aN
  have aD : decide (24 < af.length) = false := decide_eq_false (by omega)
  clear aN
  have H' := am H
  clear H
  have br := ab.1
  have bE := ac.1
  have aZ := cf3 aa.1
  go_wp2
  go_meet
  case rel => exact ⟨_, (decide ((ai.length : Int) > 24)), prs, H', ⟨by first | omega | exact Nat.le_refl _⟩, ⟨pbk aa.1⟩, ⟨pbk ae.1⟩, ⟨pbg⟩⟩
 clear bc
 try clear c9 au aO aN aC aD aX aY aZ bl
 obtain ⟨kq, aE, rfl, HA, ba, aa, ae, HB⟩ := hcut
 obtain _ | bN := kq
 ·exact absurd HA.1 (by simp [r09_Check.j0])
 have H := HA.1
 clear HA
 simp only [r09_Check.j0] at H
 cases aE
 rotate_left
 ·rw [if_pos rfl] at H
  simp only [Option.some.injEq, Prod.mk.injEq] at H
  obtain ⟨rfl, rfl⟩ := H
  have bs := ac.1
  have bF := ab.1
  have a9 := cf2 ae.1
  go_wp2
  refine bodyPost_ret (results_cell_row rfl _ _ ap 48 #[.int .i64 2, .int .i64 0] (0, 0) _ rfl (by (with_reducible repeat (first | refine qBK ?_ _ | refine qBM ?_ | refine qBL ?_ _)); exact bp2 (pbk ae.1)) Try.underlying48 rfl (by kernel_rfl)) rfl ?_
  exact ⟨per, pbg⟩
 rw [if_neg Bool.false_ne_true] at H
 have H' := am H
 clear H
 go_wp2
 go_loopg [3] bN (fun kq v3 w' => ∃ (aw : Int) (al : Int) (ao : Int), v3 = .int .i64 aw ∧ Aside0 (r09_Check.l0 kq aw ak af ai = some (r1, r2)) ∧ Aside0 (kq ≤ bN) ∧ Aside0 (w'.heap[av]? = some (.cells #[.string ak, (.slice aF af.length aH), (.slice aG ai.length aI)] 25 (0, 0))) ∧ Aside0 (w'.heap[ap]? = some (.cells #[.int .i64 al, .int .i64 ao] 48 (0, 0))) ∧ Aside0 (Below w.heap.size w w'))
 case atStart => exact ⟨(0), (0), (0), prs, H', ⟨Nat.le_refl _⟩, ⟨pbk aa.1⟩, ⟨pbk ae.1⟩, ⟨pbg⟩⟩
 clear H'
 try clear c3 c9 au aO aN aC aD aX aY aZ a9 bl
 obtain ⟨aw, al, ao, rfl, HA, bb, aa, ae, HB⟩ := hrel
 obtain _ | k2 := gk
 ·exact absurd HA.1 (by simp [r09_Check.l0])
 have H := HA.1
 clear HA
 simp only [r09_Check.l0] at H
 replace H := ifl H
 rcases H with ⟨aP, H⟩ | ⟨aP, H⟩
 ·replace H := bnd H
  obtain ⟨aJ, bm, H⟩ := H
  (try dsimp only at H)
  replace H := ife H
  rcases H with ⟨aQ, aR, H⟩ | ⟨aQ, aR, H⟩
  ·have H' := am H
   clear H
   have bu := ab.1
   have bG := ac.1
   have bh := cf3 aa.1
   go_wp2_with (first | ((with_reducible refine qBO (f := 60) rfl ?_); refine gC 38 Try.func60 _ (r09_place.calls k2 ak _ _ af _ _ ai aw aJ _ (csb aA HB) ay.1 (csb aB HB) az.1 bm.1) ?_; rintro e b4 ⟨rfl, hb⟩; refine ⟨_, rfl, ?_⟩; replace aa := bbh aa hb; replace ae := bbh ae hb; replace HB := bst hb; (try clear hb)))
   go_roundg k2
   case measure => have := ba.1; have := bb.1; omega
   case rel => exact ⟨(wrap64 (aw + 1)), (al), (ao), prs, H', ⟨by have := ba.1; have := bb.1; omega⟩, ⟨pbk aa.1⟩, ⟨pbk ae.1⟩, ⟨pbg⟩⟩
  simp only [Option.some.injEq, Prod.mk.injEq] at H
  obtain ⟨rfl, rfl⟩ := H
  have bv := ab.1
  have bH := ac.1
  have bi := cf3 aa.1
  go_wp2_with (first | ((with_reducible refine qBO (f := 60) rfl ?_); refine gC 38 Try.func60 _ (r09_place.calls k2 ak _ _ af _ _ ai aw aJ _ (csb aA HB) ay.1 (csb aB HB) az.1 bm.1) ?_; rintro e b5 ⟨rfl, hb⟩; refine ⟨_, rfl, ?_⟩; replace aa := bbh aa hb; replace ae := bbh ae hb; replace HB := bst hb; (try clear hb); have bj := cf2 ae.1))
  refine bodyPost_ret (results_cell_row rfl _ _ ap 48 #[.int .i64 aJ, .int .i64 aw] (0, 0) _ rfl (by (with_reducible repeat (first | refine qBK ?_ _ | refine qBM ?_ | refine qBL ?_ _)); exact bp2 (pbk ae.1)) Try.underlying48 rfl (by kernel_rfl)) rfl ?_
  exact ⟨per, pbg⟩
 have H' := am H
 clear H
 have bw := ab.1
 have bI := ac.1
 have bk := cf3 aa.1
 go_wp2
 go_loopg [5] k2 (fun kq v5 w' => ∃ (ax : Int) (aq : Int) (ar : Int), v5 = .int .i64 ax ∧ Aside0 (r09_Check.l1 kq ax ak af ai = some (r1, r2)) ∧ Aside0 (kq ≤ k2) ∧ Aside0 (w'.heap[av]? = some (.cells #[.string ak, (.slice aF af.length aH), (.slice aG ai.length aI)] 25 (0, 0))) ∧ Aside0 (w'.heap[ap]? = some (.cells #[.int .i64 aq, .int .i64 ar] 48 (0, 0))) ∧ Aside0 (Below w.heap.size w w'))
 case atStart => exact ⟨(0), (al), (ao), prs, H', ⟨Nat.le_refl _⟩, ⟨pbk aa.1⟩, ⟨pbk ae.1⟩, ⟨pbg⟩⟩
 clear H'
 try clear c3 c9 au aO aN aC aD b2 aP b3 aQ aR aX aY aZ a9 bh bi bj bk bl
 obtain ⟨ax, aq, ar, rfl, HA, bo, aa, ae, HB⟩ := hrel
 obtain _ | k3 := gk
 ·exact absurd HA.1 (by simp [r09_Check.l1])
 have H := HA.1
 clear HA
 simp only [r09_Check.l1] at H
 replace H := ifl H
 rcases H with ⟨a6, H⟩ | ⟨a6, H⟩
 rotate_left
 ·simp only [Option.some.injEq, Prod.mk.injEq] at H
  obtain ⟨rfl, rfl⟩ := H
  have bA := ab.1
  have bL := ac.1
  have bY := cf3 aa.1
  have bZ := cf2 ae.1
  go_wp2
  refine bodyPost_ret (results_cell_row rfl _ _ ap 48 #[.int .i64 0, .int .i64 0] (0, 0) _ rfl (by (with_reducible repeat (first | refine qBK ?_ _ | refine qBM ?_ | refine qBL ?_ _)); exact bp2 (pbk ae.1)) Try.underlying48 rfl (by kernel_rfl)) rfl ?_
  exact ⟨per, pbg⟩
 replace H := bnd H
 obtain ⟨aK, bn, H⟩ := H
 (try dsimp only at H)
 replace H := ife H
 rcases H with ⟨a7, a8, H⟩ | ⟨a7, a8, H⟩
 ·have H' := am H
  clear H
  have bx := ab.1
  have bJ := ac.1
  have bU := cf3 aa.1
  go_wp2_with (first | ((with_reducible refine qBO (f := 61) rfl ?_); refine gC 53 Try.func61 _ (r09_trans.calls k3 ak _ _ af _ _ ai ax aK _ (csb aA HB) ay.1 (csb aB HB) az.1 bn.1) ?_; rintro e b6 ⟨rfl, hb⟩; refine ⟨_, rfl, ?_⟩; replace aa := bbh aa hb; replace ae := bbh ae hb; replace HB := bst hb; (try clear hb)))
  go_roundg k3
  case measure => have := ba.1; have := bb.1; have := bo.1; omega
  case rel => exact ⟨(wrap64 (ax + 1)), (aq), (ar), prs, H', ⟨by have := ba.1; have := bb.1; have := bo.1; omega⟩, ⟨pbk aa.1⟩, ⟨pbk ae.1⟩, ⟨pbg⟩⟩
 simp only [Option.some.injEq, Prod.mk.injEq] at H
 obtain ⟨rfl, rfl⟩ := H
 have bz := ab.1
 have bK := ac.1
 have bV := cf3 aa.1
 go_wp2_with (first | ((with_reducible refine qBO (f := 61) rfl ?_); refine gC 53 Try.func61 _ (r09_trans.calls k3 ak _ _ af _ _ ai ax aK _ (csb aA HB) ay.1 (csb aB HB) az.1 bn.1) ?_; rintro e b7 ⟨rfl, hb⟩; refine ⟨_, rfl, ?_⟩; replace aa := bbh aa hb; replace ae := bbh ae hb; replace HB := bst hb; (try clear hb); have bW := cf3 aa.1; have bX := cf2 ae.1))
 refine bodyPost_ret (results_cell_row rfl _ _ ap 48 #[.int .i64 aK, .int .i64 (wrap64 ((af.length : Int) + ax))] (0, 0) _ rfl (by (with_reducible repeat (first | refine qBK ?_ _ | refine qBM ?_ | refine qBL ?_ _)); exact bp2 (pbk ae.1)) Try.underlying48 rfl (by kernel_rfl)) rfl ?_
 exact ⟨per, pbg⟩

/-! ### r09_Valid: function 12 -/
def r09_Valid.f (k : Nat) (ae : ByteArray) (aa : List (S64)) (ab : List (S38)) : Option (Bool) := (r09_Check.f k ae aa ab).bind fun au => (some (au.1 == 0))
theorem r09_Valid.calls (k : Nat) (ae : ByteArray) (aj : Option Addr) (av : Nat) (aa : List (S64)) (ak : Option Addr) (aw : Nat) (ab : List (S38)) (r : Bool) (w : World) (ah : Kd.C k64 w aj aa.length aa) (af : aa.length ≤ av) (ai : Kd.C k38 w ak ab.length ab) (ag : ab.length ≤ aw) (h : r09_Valid.f k ae aa ab = some r) :
  Calls Try.prog 12 #[.agg #[.string ae, .slice aj aa.length av, .slice ak ab.length aw]] w fun e w' => e = .returned (.bool r) ∧ Below w.heap.size w w' := by
 have ax : ∀ (x0 x1 : Value) (W : World), (Instr.field 48 (.agg #[x0, x1]) 0).run Try.prog W = .ok x0 W := fun x0 x1 W => by kernel_rfl
 have aC := Try.underlying25
 have aq := am ah
 have ao := am af
 clear ah af
 have ar := am ai
 have ap := am ag
 clear ai ag
 have HB := am (Below.refl w.heap.size w)
 have H := h
 unfold r09_Valid.f at H
 clear h
 replace H := bnd H
 obtain ⟨⟨ay, az⟩, A2, H⟩ := H
 (try dsimp only at H)
 obtain rfl := Option.some.inj H
 go_enter Try.func12, Try.ntmps12
 go_wp2_with (first | ((with_reducible refine qBN (N := 1) rfl ?_); refine box_ev ?_; intro aB hg w3 hbox hb; have ac := am hbox; have al := gwl hg; have aA := al; replace HB := bsl hb; clear hb hbox hg; have aD := cf3 ac.1) | ((with_reducible refine qBO (f := 34) rfl ?_); refine gC 4 Try.func34 _ (r09_Check.calls k ae _ _ aa _ _ ab ay az _ (csb aq HB) ao.1 (csb ar HB) ap.1 A2.1) ?_; rintro e w5 ⟨rfl, hb⟩; refine ⟨_, rfl, ?_⟩; replace ac := bbh ac hb; replace HB := bst hb; (try clear hb)))
 go_ret
 exact ⟨per, pbg⟩

end Go.Proofs.Ytaoogghpadifiaa.P
