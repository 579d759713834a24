-- LAID BY OUR PROGRAM OVER THE PRINT (xprint.py, part.py): Lean checks it.
import Derived.Test.YteknagfpiadaiaaPx0
import Derived.Test.YteknagfpiadaiaaPx1
import Derived.Test.YteknagfpiadaiaaPx3
import Derived.Test.YteknagfpiadaiaaPx4
import Derived.Test.YteknagfpiadaiaaPx8
import Derived.Test.YteknagfpiadaiaaPx9
import Derived.Test.YteknagfpiadaiaaPx10
import Derived.Test.YteknagfpiadaiaaPx15
namespace Go.Proofs.Yteknagfpiadaiaa.P
open Go.RowKit Go.Proofs.YteknagfpiadaiaaW.PrintWords Go.Proofs.YteknagfpiadaiaaW.PrintLast Go.Proofs.YteknagfpiadaiaaW.PrintMore
attribute [local go_sem] max2_int min2_int max_two min_two max_three min_three max_four min_four   -- for this text's walks alone
set_option linter.unusedVariables false
set_option linter.unusedSimpArgs false

/-! ### r04_Valid: function 54 -/
def r04_Valid.l0 : Nat → List Int → Int → Int → Option (Bool)
 | 0, _, _, _ => none
 | k + 1, x0, x1, x5 => if x5 < (x0.length : Int) then (if 0 ≤ x5 then (if (rd x0 x5) < 0 then (some false) else (if (rd x0 x5) > 1048576 then (some false) else (r04_Valid.l0 k x0 x1 (wrap64 (x5 + 1))))) else (none)) else (some ((x0.length : Int) == x1))
def r04_Valid.f (k : Nat) (l0 : List Int) (a1 : Int) : Option (Bool) := r04_Valid.l0 k l0 a1 0
theorem r04_Valid.mono_l : ∀ k, M3 r04_Valid.l0 k
 | 0 => fun _ _ _ r h => by simp [r04_Valid.l0] at h
 | k + 1 => by
  have aq := r04_Valid.mono_l k
  ·intro y0 y1 y2
   unfold r04_Valid.l0
   repeat' first | (with_reducible first | apply aq | apply lr | apply ln | apply li | refine lb ?_ fun _ => ?_)
theorem r04_Valid.mono : ∀ a0 a1 k, LeO (r04_Valid.f k a0 a1) (r04_Valid.f (k + 1) a0 a1) := by
 intro a0 a1 k
 have aq := r04_Valid.mono_l k
 unfold r04_Valid.f
 repeat' first | (with_reducible first | apply aq | apply lr | apply ln | apply li | refine lb ?_ fun _ => ?_)
set_option maxHeartbeats 8000000 in
set_option maxRecDepth 100000 in
theorem r04_Valid.calls (k : Nat) (A0 : Option Addr) (c0 : Nat) (l0 : List Int) (a1 : Int) (r : Bool) (w : World) (aw : Kd.C (Kd.int .i64) w A0 l0.length l0) (hc0 : l0.length ≤ c0) (h : r04_Valid.f k l0 a1 = some r) :
  Calls Try.prog 54 #[.slice A0 l0.length c0, .int .i64 a1] w fun e w' => e = .returned (.bool r) ∧ Drawn0 w w' := by
 have ai := am aw
 have ay := am hc0
 clear aw hc0
 have H : (r04_Valid.l0 k l0 a1 0) = some r := h
 clear h
 have H' := am H
 clear H
 go_enter Try.func54, Try.ntmps54
 go_wp2
 go_loopg [5] k (fun kq v5 w' => ∃ (aa : Int), v5 = .int .i64 aa ∧ Aside0 (r04_Valid.l0 kq l0 a1 aa = some r) ∧ Aside0 (kq ≤ k) ∧ Drawn0 w w')
 case atStart => exact ⟨(0), prs, H', ⟨Nat.le_refl _⟩, pdr⟩
 clear H'
 obtain ⟨aa, rfl, HA, av, ⟨m1, rfl⟩⟩ := hrel
 obtain _ | k1 := gk
 ·exact absurd HA.1 (by simp [r04_Valid.l0])
 have H := HA.1
 clear HA
 simp only [r04_Valid.l0] at H
 replace H := ifl H
 rcases H with ⟨al, H⟩ | ⟨al, H⟩
 rotate_left
 ·obtain rfl := Option.some.inj H
  go_wp2
  go_ret
  exact ⟨prs, pdr⟩
 replace H := ifp H
 obtain ⟨c4, H⟩ := H
 have ax := decide_eq_true c4
 clear c4
 replace H := ifl H
 rcases H with ⟨ao, H⟩ | ⟨ao, H⟩
 ·obtain rfl := Option.some.inj H
  obtain ⟨aj, ak, ab, af, ac⟩ := dint ai.1 aa
  cases af
  go_wp2
  go_ret
  exact ⟨prs, pdr⟩
 replace H := ifg H
 rcases H with ⟨ap, H⟩ | ⟨ap, H⟩
 ·obtain rfl := Option.some.inj H
  obtain ⟨aj, ak, ab, af, ac⟩ := dint ai.1 aa
  cases af
  obtain ⟨ar, au, ae, ah, ag⟩ := dint ai.1 aa
  obtain rfl : ab = ae := (by injection ah)
  go_wp2
  go_ret
  exact ⟨prs, pdr⟩
 have H' := am H
 clear H
 obtain ⟨aj, ak, ab, af, ac⟩ := dint ai.1 aa
 cases af
 obtain ⟨ar, au, ae, ah, ag⟩ := dint ai.1 aa
 obtain rfl : ab = ae := (by injection ah)
 go_wp2
 go_roundg k1
 case measure => have := av.1; omega
 case rel => exact ⟨(wrap64 (aa + 1)), prs, H', ⟨by have := av.1; omega⟩, pdr⟩

/-! ### r11_has: function 55 -/
def r11_has.l0 : Nat → List Int → Int → Int → Option (Bool)
 | 0, _, _, _ => none
 | k + 1, x0, x1, x5 => if x5 < (x0.length : Int) then (if 0 ≤ x5 then (if (rd x0 x5) = x1 then (some true) else (r11_has.l0 k x0 x1 (wrap64 (x5 + 1)))) else (none)) else (some false)
def r11_has.f (k : Nat) (l0 : List Int) (a1 : Int) : Option (Bool) := r11_has.l0 k l0 a1 0
theorem r11_has.mono_l : ∀ k, M3 r11_has.l0 k
 | 0 => fun _ _ _ r h => by simp [r11_has.l0] at h
 | k + 1 => by
  have ai := r11_has.mono_l k
  ·intro y0 y1 y2
   unfold r11_has.l0
   repeat' first | (with_reducible first | apply ai | apply lr | apply ln | apply li | refine lb ?_ fun _ => ?_)
theorem r11_has.mono : ∀ a0 a1 k, LeO (r11_has.f k a0 a1) (r11_has.f (k + 1) a0 a1) := by
 intro a0 a1 k
 have ai := r11_has.mono_l k
 unfold r11_has.f
 repeat' first | (with_reducible first | apply ai | apply lr | apply ln | apply li | refine lb ?_ fun _ => ?_)
set_option maxHeartbeats 8000000 in
set_option maxRecDepth 100000 in
theorem r11_has.calls (k : Nat) (A0 : Option Addr) (c0 : Nat) (l0 : List Int) (a1 : Int) (r : Bool) (w : World) (ap : Kd.C (Kd.int .i64) w A0 l0.length l0) (hc0 : l0.length ≤ c0) (h : r11_has.f k l0 a1 = some r) :
  Calls Try.prog 55 #[.slice A0 l0.length c0, .int .i64 a1] w fun e w' => e = .returned (.bool r) ∧ Drawn0 w w' := by
 have ao := am ap
 have ar := am hc0
 clear ap hc0
 have H : (r11_has.l0 k l0 a1 0) = some r := h
 clear h
 have H' := am H
 clear H
 go_enter Try.func55, Try.ntmps55
 go_wp2
 go_loopg [5] k (fun kq v5 w' => ∃ (aa : Int), v5 = .int .i64 aa ∧ Aside0 (r11_has.l0 kq l0 a1 aa = some r) ∧ Aside0 (kq ≤ k) ∧ Drawn0 w w')
 case atStart => exact ⟨(0), prs, H', ⟨Nat.le_refl _⟩, pdr⟩
 clear H'
 obtain ⟨aa, rfl, HA, al, ⟨m1, rfl⟩⟩ := hrel
 obtain _ | k1 := gk
 ·exact absurd HA.1 (by simp [r11_has.l0])
 have H := HA.1
 clear HA
 simp only [r11_has.l0] at H
 replace H := ifl H
 rcases H with ⟨af, H⟩ | ⟨af, H⟩
 rotate_left
 ·obtain rfl := Option.some.inj H
  go_wp2
  go_ret
  exact ⟨prs, pdr⟩
 replace H := ifp H
 obtain ⟨c4, H⟩ := H
 have aq := decide_eq_true c4
 clear c4
 replace H := ife H
 rcases H with ⟨ag, ah, H⟩ | ⟨ag, ah, H⟩
 ·obtain rfl := Option.some.inj H
  obtain ⟨aj, ak, ae, ac, ab⟩ := dint ao.1 aa
  cases ac
  go_wp2
  go_ret
  exact ⟨prs, pdr⟩
 have H' := am H
 clear H
 obtain ⟨aj, ak, ae, ac, ab⟩ := dint ao.1 aa
 cases ac
 go_wp2
 go_roundg k1
 case measure => have := al.1; omega
 case rel => exact ⟨(wrap64 (aa + 1)), prs, H', ⟨by have := al.1; omega⟩, pdr⟩

/-! ### r11_Fire: function 27 -/
def r11_Fire.j0 : Nat → List Int → Int → Bool → ByteArray → List (S57) → List (S60) → Option (List Int × Int)
 | 0, _, _, _, _, _, _ => none
 | k + 1, x1, x2, bT, aH, aI, aJ => if bT = true then (some (([] : List Int), 1)) else ((r11_Fires.f k aH aI aJ x1).bind fun au => ((r11_has.f k au x2).bind fun a7 => (if a7 = true then ((r11_After.f k aH aI aJ x1 x2).bind fun aN => (if aN.2 = true then (some (aN.1, 0)) else (some (([] : List Int), 3)))) else (some (([] : List Int), 13)))))
def r11_Fire.f (k : Nat) (ao : ByteArray) (ag : List (S57)) (ah : List (S60)) (l1 : List Int) (a2 : Int) : Option (List Int × Int) := (r09_Check.f k ao ag ah).bind fun aM => (if aM.1 = 0 then ((r04_Valid.f k l1 (ag.length : Int)).bind fun a6 => (if a6 = true then (if a2 < 0 then (r11_Fire.j0 k l1 a2 true ao ag ah) else (r11_Fire.j0 k l1 a2 (decide (a2 ≥ (ah.length : Int))) ao ag ah)) else (some (([] : List Int), 2)))) else (some (([] : List Int), aM.1)))
theorem r11_Fire.mono_l : ∀ k, M6 r11_Fire.j0 k
 | 0 => fun _ _ _ _ _ _ r h => by simp [r11_Fire.j0] at h
 | k + 1 => by
  have bm := r11_Fire.mono_l k
  ·intro y0 y1 y2 y3 y4 y5
   unfold r11_Fire.j0
   repeat' first | (with_reducible first | apply bm | apply r04_Valid.mono | apply r09_Check.mono | apply r11_After.mono | apply r11_Fires.mono | apply r11_has.mono | apply lr | apply ln | apply li | refine lb ?_ fun _ => ?_)
theorem r11_Fire.mono : ∀ a0 a1 a2 a3 a4 k, LeO (r11_Fire.f k a0 a1 a2 a3 a4) (r11_Fire.f (k + 1) a0 a1 a2 a3 a4) := by
 intro a0 a1 a2 a3 a4 k
 have bm := r11_Fire.mono_l k
 unfold r11_Fire.f
 repeat' first | (with_reducible first | apply bm | apply r04_Valid.mono | apply r09_Check.mono | apply r11_After.mono | apply r11_Fires.mono | apply r11_has.mono | apply lr | apply ln | apply li | refine lb ?_ fun _ => ?_)
set_option maxHeartbeats 8000000 in
set_option maxRecDepth 100000 in
theorem r11_Fire.calls (k : Nat) (ao : ByteArray) (aU : Option Addr) (aW : Nat) (ag : List (S57)) (aV : Option Addr) (aX : Nat) (ah : List (S60)) (A1 : Option Addr) (c1 : Nat) (l1 : List Int) (a2 : Int) (r1 : List Int) (r2 : Int) (w : World) (aS : Kd.C k57 w aU ag.length ag) (aO : ag.length ≤ aW) (aT : Kd.C k60 w aV ah.length ah) (aP : ah.length ≤ aX) (bG : Kd.C (Kd.int .i64) w A1 l1.length l1) (br : l1.length ≤ c1) (h : r11_Fire.f k ao ag ah l1 a2 = some (r1, r2)) :
  Calls Try.prog 27 #[.agg #[.string ao, .slice aU ag.length aW, .slice aV ah.length aX], .slice A1 l1.length c1, .int .i64 a2] w fun e w' => ∃ v0_ : Value, e = .returned (.tuple #[v0_, .int .i64 r2]) ∧ Kd.R (Kd.int .i64) 3 w' w.heap.size (fun _ => True) v0_ r1 ∧ Below w.heap.size w w' := by
 have bJ := Try.underlying25
 have bK := Try.underlying66
 have ak := am aS
 have ai := am aO
 clear aS aO
 have al := am aT
 have aj := am aP
 clear aT aP
 have aC := am bG
 have aB := am br
 clear bG br
 have HB := am (Below.refl w.heap.size w)
 have H := h
 unfold r11_Fire.f at H
 clear h
 replace H := bnd H
 obtain ⟨⟨ay, az⟩, A4, H⟩ := H
 (try dsimp only at H)
 replace H := ife H
 rcases H with ⟨bb, bc, H⟩ | ⟨bb, bc, H⟩
 rotate_left
 ·simp only [Option.some.injEq, Prod.mk.injEq] at H
  obtain ⟨rfl, rfl⟩ := H
  go_enter Try.func27, Try.ntmps27
  iterate 4 (try go_wp2_with (first | ((with_reducible refine gate_dst (N := 3) rfl ?_); (try (refine gate_guard (by rfl) ?_; dsimp only)); refine box_ev ?_; intro aw hg b1 hbox hb; have aa := am hbox; have aq := gwl hg; have aD := aq; replace HB := bsl hb; clear hb hbox hg; have b9 := cf3 aa.1) | (go_at_call 48; (with_reducible refine (r09_Check.calls k ao _ _ ag _ _ ah ay az _ ?side1 ?side2 ?side3 ?side4 A4.1).mono ?_); (case side1 => exact csb ak HB); (case side2 => exact ai.1); (case side3 => exact csb al HB); (case side4 => exact aj.1); rintro e bS ⟨rfl, hb⟩; replace aa := bbh aa hb; replace HB := bst hb; (try clear hb)) | ((with_reducible refine gate_dst (N := 8) rfl ?_); (try (refine gate_guard (by rfl) ?_; dsimp only)); refine box_ev ?_; intro ax hg b2 hbox hb; have ae := am hbox; have ar := gwb hg; have aE := ar; have ab := nlt hg aa; have af := ngt hg aa; replace aa := bbh aa hb; replace HB := bst hb; clear hb hbox hg; have bz := af.1; have bF := ab.1; have ca := cf2 ae.1)); try go_quiet (first | (go_at_call 48; (with_reducible refine (r09_Check.calls k ao _ _ ag _ _ ah ay az _ ?side1 ?side2 ?side3 ?side4 A4.1).mono ?_); (case side1 => exact csb ak HB); (case side2 => exact ai.1); (case side3 => exact csb al HB); (case side4 => exact aj.1); rintro e bS ⟨rfl, hb⟩; replace aa := bbh aa hb; replace HB := bst hb; (try clear hb))))
  go_ret2
  exact ⟨_, per, knl, pbg⟩
 replace H := bnd H
 obtain ⟨a6, A6, H⟩ := H
 (try dsimp only at H)
 cases a6
 ·rw [if_neg Bool.false_ne_true] at H
  simp only [Option.some.injEq, Prod.mk.injEq] at H
  obtain ⟨rfl, rfl⟩ := H
  go_enter Try.func27, Try.ntmps27
  iterate 4 (try go_wp2_with (first | ((with_reducible refine gate_dst (N := 3) rfl ?_); (try (refine gate_guard (by rfl) ?_; dsimp only)); refine box_ev ?_; intro aw hg bZ hbox hb; have aa := am hbox; have aq := gwl hg; have aD := aq; replace HB := bsl hb; clear hb hbox hg; have b6 := cf3 aa.1) | (go_at_call 48; (with_reducible refine (r09_Check.calls k ao _ _ ag _ _ ah ay az _ ?side1 ?side2 ?side3 ?side4 A4.1).mono ?_); (case side1 => exact csb ak HB); (case side2 => exact ai.1); (case side3 => exact csb al HB); (case side4 => exact aj.1); rintro e bR ⟨rfl, hb⟩; replace aa := bbh aa hb; replace HB := bst hb; (try clear hb)) | ((with_reducible refine gate_dst (N := 8) rfl ?_); (try (refine gate_guard (by rfl) ?_; dsimp only)); refine box_ev ?_; intro ax hg b0 hbox hb; have ae := am hbox; have ar := gwb hg; have aE := ar; have ab := nlt hg aa; have af := ngt hg aa; replace aa := bbh aa hb; replace HB := bst hb; clear hb hbox hg; have bx := af.1; have bE := ab.1; have b7 := cf2 ae.1; have b8 := cf3 aa.1) | (go_at_call 54; (with_reducible refine (r04_Valid.calls k _ _ l1 (ag.length : Int) false _ ?side1 ?side2 A6.1).mono ?_); (case side1 => exact Kd.C_below aC.1 pbg); (case side2 => exact aB.1); rintro e w' ⟨rfl, ⟨nd, rfl⟩⟩; (try first | exact ⟨rfl, _, World.drewN_drewN _ _ _⟩ | exact ⟨rfl, _, Eq.trans (World.drewN_drewN _ _ _) (congrArg (World.drewN _) (Nat.add_assoc _ _ _))⟩))); try go_quiet (first | (go_at_call 48; (with_reducible refine (r09_Check.calls k ao _ _ ag _ _ ah ay az _ ?side1 ?side2 ?side3 ?side4 A4.1).mono ?_); (case side1 => exact csb ak HB); (case side2 => exact ai.1); (case side3 => exact csb al HB); (case side4 => exact aj.1); rintro e bR ⟨rfl, hb⟩; replace aa := bbh aa hb; replace HB := bst hb; (try clear hb)) | (go_at_call 54; (with_reducible refine (r04_Valid.calls k _ _ l1 (ag.length : Int) false _ ?side1 ?side2 A6.1).mono ?_); (case side1 => exact Kd.C_below aC.1 pbg); (case side2 => exact aB.1); rintro e w' ⟨rfl, ⟨nd, rfl⟩⟩; (try first | exact ⟨rfl, _, World.drewN_drewN _ _ _⟩ | exact ⟨rfl, _, Eq.trans (World.drewN_drewN _ _ _) (congrArg (World.drewN _) (Nat.add_assoc _ _ _))⟩))))
  go_ret2
  exact ⟨_, per, knl, pbg⟩
 rw [if_pos rfl] at H
 have bi := am H
 clear H
 go_enter Try.func27, Try.ntmps27
 go_upto_region 6 with (first | ((with_reducible refine gate_dst (N := 3) rfl ?_); (try (refine gate_guard (by rfl) ?_; dsimp only)); refine box_ev ?_; intro aw hg w9 hbox hb; have aa := am hbox; have aq := gwl hg; have aD := aq; replace HB := bsl hb; clear hb hbox hg; have bo := cf3 aa.1) | (go_at_call 48; (with_reducible refine (r09_Check.calls k ao _ _ ag _ _ ah ay az _ ?side1 ?side2 ?side3 ?side4 A4.1).mono ?_); (case side1 => exact csb ak HB); (case side2 => exact ai.1); (case side3 => exact csb al HB); (case side4 => exact aj.1); rintro e bH ⟨rfl, hb⟩; replace aa := bbh aa hb; replace HB := bst hb; (try clear hb)) | ((with_reducible refine gate_dst (N := 8) rfl ?_); (try (refine gate_guard (by rfl) ?_; dsimp only)); refine box_ev ?_; intro ax hg bI hbox hb; have ae := am hbox; have ar := gwb hg; have aE := ar; have ab := nlt hg aa; have af := ngt hg aa; replace aa := bbh aa hb; replace HB := bst hb; clear hb hbox hg; have aQ := af.1; have aR := ab.1; have bp := cf2 ae.1; have bq := cf3 aa.1) | (go_at_call 54; (with_reducible refine (r04_Valid.calls k _ _ l1 (ag.length : Int) true _ ?side1 ?side2 A6.1).mono ?_); (case side1 => exact Kd.C_below aC.1 pbg); (case side2 => exact aB.1); rintro e w' ⟨rfl, ⟨nd, rfl⟩⟩; (try first | exact ⟨rfl, _, World.drewN_drewN _ _ _⟩ | exact ⟨rfl, _, Eq.trans (World.drewN_drewN _ _ _) (congrArg (World.drewN _) (Nat.add_assoc _ _ _))⟩)))
 repeat (go_quiet (first | ((with_reducible refine gate_dst (N := 3) rfl ?_); (try (refine gate_guard (by rfl) ?_; dsimp only)); refine box_ev ?_; intro aw hg w9 hbox hb; have aa := am hbox; have aq := gwl hg; have aD := aq; replace HB := bsl hb; clear hb hbox hg; have bo := cf3 aa.1) | (go_at_call 48; (with_reducible refine (r09_Check.calls k ao _ _ ag _ _ ah ay az _ ?side1 ?side2 ?side3 ?side4 A4.1).mono ?_); (case side1 => exact csb ak HB); (case side2 => exact ai.1); (case side3 => exact csb al HB); (case side4 => exact aj.1); rintro e bH ⟨rfl, hb⟩; replace aa := bbh aa hb; replace HB := bst hb; (try clear hb)) | ((with_reducible refine gate_dst (N := 8) rfl ?_); (try (refine gate_guard (by rfl) ?_; dsimp only)); refine box_ev ?_; intro ax hg bI hbox hb; have ae := am hbox; have ar := gwb hg; have aE := ar; have ab := nlt hg aa; have af := ngt hg aa; replace aa := bbh aa hb; replace HB := bst hb; clear hb hbox hg; have aQ := af.1; have aR := ab.1; have bp := cf2 ae.1; have bq := cf3 aa.1) | (go_at_call 54; (with_reducible refine (r04_Valid.calls k _ _ l1 (ag.length : Int) true _ ?side1 ?side2 A6.1).mono ?_); (case side1 => exact Kd.C_below aC.1 pbg); (case side2 => exact aB.1); rintro e w' ⟨rfl, ⟨nd, rfl⟩⟩; (try first | exact ⟨rfl, _, World.drewN_drewN _ _ _⟩ | exact ⟨rfl, _, Eq.trans (World.drewN_drewN _ _ _) (congrArg (World.drewN _) (Nat.add_assoc _ _ _))⟩))); go_upto_region 6 with (first | ((with_reducible refine gate_dst (N := 3) rfl ?_); (try (refine gate_guard (by rfl) ?_; dsimp only)); refine box_ev ?_; intro aw hg w9 hbox hb; have aa := am hbox; have aq := gwl hg; have aD := aq; replace HB := bsl hb; clear hb hbox hg; have bo := cf3 aa.1) | (go_at_call 48; (with_reducible refine (r09_Check.calls k ao _ _ ag _ _ ah ay az _ ?side1 ?side2 ?side3 ?side4 A4.1).mono ?_); (case side1 => exact csb ak HB); (case side2 => exact ai.1); (case side3 => exact csb al HB); (case side4 => exact aj.1); rintro e bH ⟨rfl, hb⟩; replace aa := bbh aa hb; replace HB := bst hb; (try clear hb)) | ((with_reducible refine gate_dst (N := 8) rfl ?_); (try (refine gate_guard (by rfl) ?_; dsimp only)); refine box_ev ?_; intro ax hg bI hbox hb; have ae := am hbox; have ar := gwb hg; have aE := ar; have ab := nlt hg aa; have af := ngt hg aa; replace aa := bbh aa hb; replace HB := bst hb; clear hb hbox hg; have aQ := af.1; have aR := ab.1; have bp := cf2 ae.1; have bq := cf3 aa.1) | (go_at_call 54; (with_reducible refine (r04_Valid.calls k _ _ l1 (ag.length : Int) true _ ?side1 ?side2 A6.1).mono ?_); (case side1 => exact Kd.C_below aC.1 pbg); (case side2 => exact aB.1); rintro e w' ⟨rfl, ⟨nd, rfl⟩⟩; (try first | exact ⟨rfl, _, World.drewN_drewN _ _ _⟩ | exact ⟨rfl, _, Eq.trans (World.drewN_drewN _ _ _) (congrArg (World.drewN _) (Nat.add_assoc _ _ _))⟩))))
 (try simp only [Act.put, List.setIfInBounds_toArray, List.set_cons_zero, List.set_cons_succ])
 go_cut [32] (fun bL wc => ∃ (kq : Nat) (aG : Bool), bL = .bool aG ∧ Aside0 (r11_Fire.j0 kq l1 a2 aG ao ag ah = some (r1, r2)) ∧ Aside0 (kq ≤ k) ∧ Aside0 (wc.heap[aw]? = some (.cells #[.string ao, (.slice aU ag.length aW), (.slice aV ah.length aX)] 25 (0, 0))) ∧ Aside0 (wc.heap[ax]? = some (.cells #[.int .i64 ay, .int .i64 az] 66 (0, 0))) ∧ Aside0 (Below w.heap.size w wc))
 case first =>
  have H := bi.1
  clear bi
  replace H := ifl H
  rcases H with ⟨av, H⟩ | ⟨av, H⟩
  ·(first | rw [av] | (simp only [i64_w, i32_w]; rw [av]) | skip)
   have H' := am H
   clear H
   go_wp2
   repeat (go_quiet (fail); try go_wp2)
   go_meet
   case rel => exact ⟨_, (true), prs, H', ⟨by first | omega | exact Nat.le_refl _⟩, ⟨by (with_reducible repeat (first | refine blk_drewN ?_ _ | refine blk_drew ?_ | refine blk_alloc ?_ _)); refine bf2 ?_ ab.1; exact pbk aa.1⟩, ⟨by (with_reducible repeat (first | refine blk_drewN ?_ _ | refine blk_drew ?_ | refine blk_alloc ?_ _)); exact bp2 (pbk ae.1)⟩, ⟨pbg⟩⟩
  (first | rw [av] | (simp only [i64_w, i32_w]; rw [av]) | skip)
  have H' := am H
  clear H
  have bs := ab.1
  have bA := af.1
  have bU := cf3 aa.1
  go_wp2
  repeat (go_quiet (fail); try go_wp2)
  go_meet
  case rel => exact ⟨_, (decide (a2 ≥ (ah.length : Int))), prs, H', ⟨by first | omega | exact Nat.le_refl _⟩, ⟨by (with_reducible repeat (first | refine blk_drewN ?_ _ | refine blk_drew ?_ | refine blk_alloc ?_ _)); refine bf2 ?_ ab.1; exact pbk aa.1⟩, ⟨by (with_reducible repeat (first | refine blk_drewN ?_ _ | refine blk_drew ?_ | refine blk_alloc ?_ _)); exact bp2 (pbk ae.1)⟩, ⟨pbg⟩⟩
 clear bi
 try clear c1 c5 bb bc bY av bo bp bq bU
 obtain ⟨kq, aG, rfl, HA, bX, aa, ae, HB⟩ := hcut
 obtain _ | aA := kq
 ·exact absurd HA.1 (by simp [r11_Fire.j0])
 have H := HA.1
 clear HA
 simp only [r11_Fire.j0] at H
 cases aG
 rotate_left
 ·rw [if_pos rfl] at H
  simp only [Option.some.injEq, Prod.mk.injEq] at H
  obtain ⟨rfl, rfl⟩ := H
  go_wp2
  repeat (go_quiet (fail); try go_wp2)
  go_ret2
  exact ⟨_, per, knl, pbg⟩
 rw [if_neg Bool.false_ne_true] at H
 replace H := bnd H
 obtain ⟨au, a9, H⟩ := H
 (try dsimp only at H)
 replace H := bnd H
 obtain ⟨a7, ba, H⟩ := H
 (try dsimp only at H)
 cases a7
 ·rw [if_neg Bool.false_ne_true] at H
  simp only [Option.some.injEq, Prod.mk.injEq] at H
  obtain ⟨rfl, rfl⟩ := H
  have bw := ab.1
  have bD := af.1
  have b5 := cf3 aa.1
  iterate 4 (try go_wp2_with (first | (go_at_call 56; (with_reducible refine (r11_Fires.calls aA ao _ _ ag _ _ ah _ _ l1 au _ ?side1 ?side2 ?side3 ?side4 ?side5 ?side6 a9.1).mono ?_); (case side1 => exact csb ak HB); (case side2 => exact ai.1); (case side3 => exact csb al HB); (case side4 => exact aj.1); (case side5 => exact csb aC HB); (case side6 => exact aB.1); rintro e bQ ⟨aK, rfl, ap, hb⟩; have ac := am (Kd.R_lower ap (below_size pbg)); replace aa := bbh aa hb; replace ae := bbh ae hb; replace HB := bst hb; (try clear hb); (try clear ap); obtain ⟨bh, bl, a5⟩ := Kd.R_slice ac.1; subst a5) | (go_at_call 55; (with_reducible refine (r11_has.calls aA _ _ au a2 false _ ?side1 ?side2 ba.1).mono ?_); (case side1 => exact csd ((Kd.R_reads' ac.1).2.2)); (case side2 => exact (Kd.R_reads' ac.1).2.1); rintro e w' ⟨rfl, ⟨nd, rfl⟩⟩; (try first | exact ⟨rfl, _, World.drewN_drewN _ _ _⟩ | exact ⟨rfl, _, Eq.trans (World.drewN_drewN _ _ _) (congrArg (World.drewN _) (Nat.add_assoc _ _ _))⟩))); try go_quiet (first | (go_at_call 56; (with_reducible refine (r11_Fires.calls aA ao _ _ ag _ _ ah _ _ l1 au _ ?side1 ?side2 ?side3 ?side4 ?side5 ?side6 a9.1).mono ?_); (case side1 => exact csb ak HB); (case side2 => exact ai.1); (case side3 => exact csb al HB); (case side4 => exact aj.1); (case side5 => exact csb aC HB); (case side6 => exact aB.1); rintro e bQ ⟨aK, rfl, ap, hb⟩; have ac := am (Kd.R_lower ap (below_size pbg)); replace aa := bbh aa hb; replace ae := bbh ae hb; replace HB := bst hb; (try clear hb); (try clear ap); obtain ⟨bh, bl, a5⟩ := Kd.R_slice ac.1; subst a5) | (go_at_call 55; (with_reducible refine (r11_has.calls aA _ _ au a2 false _ ?side1 ?side2 ba.1).mono ?_); (case side1 => exact csd ((Kd.R_reads' ac.1).2.2)); (case side2 => exact (Kd.R_reads' ac.1).2.1); rintro e w' ⟨rfl, ⟨nd, rfl⟩⟩; (try first | exact ⟨rfl, _, World.drewN_drewN _ _ _⟩ | exact ⟨rfl, _, Eq.trans (World.drewN_drewN _ _ _) (congrArg (World.drewN _) (Nat.add_assoc _ _ _))⟩))))
  go_ret2
  exact ⟨_, per, knl, pbg⟩
 rw [if_pos rfl] at H
 replace H := bnd H
 obtain ⟨⟨aL, bn⟩, bd, H⟩ := H
 (try dsimp only at H)
 cases bn
 rotate_left
 ·rw [if_pos rfl] at H
  simp only [Option.some.injEq, Prod.mk.injEq] at H
  obtain ⟨rfl, rfl⟩ := H
  have bu := ab.1
  have bB := af.1
  have b3 := cf3 aa.1
  iterate 4 (try go_wp2_with (first | (go_at_call 56; (with_reducible refine (r11_Fires.calls aA ao _ _ ag _ _ ah _ _ l1 au _ ?side1 ?side2 ?side3 ?side4 ?side5 ?side6 a9.1).mono ?_); (case side1 => exact csb ak HB); (case side2 => exact ai.1); (case side3 => exact csb al HB); (case side4 => exact aj.1); (case side5 => exact csb aC HB); (case side6 => exact aB.1); rintro e bM ⟨aK, rfl, ap, hb⟩; have ac := am (Kd.R_lower ap (below_size pbg)); replace aa := bbh aa hb; replace ae := bbh ae hb; replace HB := bst hb; (try clear hb); (try clear ap); obtain ⟨bf, bj, aY⟩ := Kd.R_slice ac.1; subst aY) | (go_at_call 55; (with_reducible refine (r11_has.calls aA _ _ au a2 true _ ?side1 ?side2 ba.1).mono ?_); (case side1 => exact csd ((Kd.R_reads' ac.1).2.2)); (case side2 => exact (Kd.R_reads' ac.1).2.1); rintro e w' ⟨rfl, ⟨nd, rfl⟩⟩; (try first | exact ⟨rfl, _, World.drewN_drewN _ _ _⟩ | exact ⟨rfl, _, Eq.trans (World.drewN_drewN _ _ _) (congrArg (World.drewN _) (Nat.add_assoc _ _ _))⟩); have bV := cf3 aa.1) | (go_at_call 57; (with_reducible refine (r11_After.calls aA ao _ _ ag _ _ ah _ _ l1 a2 aL true _ ?side1 ?side2 ?side3 ?side4 ?side5 ?side6 bd.1).mono ?_); (case side1 => exact csd ((Kd.C_below ak.1 pbg))); (case side2 => exact ai.1); (case side3 => exact csd ((Kd.C_below al.1 pbg))); (case side4 => exact aj.1); (case side5 => exact csd ((Kd.C_below aC.1 pbg))); (case side6 => exact aB.1); rintro e bN ⟨a8, rfl, ap, hb⟩; have aF := am (Kd.R_lower (Kd.R_new' ap (Kd.R_lt (pkr ac.1))) (below_size pbg)); replace ac := am (Kd.R_elder' (pkr ac.1) (Kd.R_base ap) hb); replace aa := bbh aa hb; replace ae := bbh ae hb; replace HB := bst hb; (try clear hb); (try clear ap))); try go_quiet (first | (go_at_call 56; (with_reducible refine (r11_Fires.calls aA ao _ _ ag _ _ ah _ _ l1 au _ ?side1 ?side2 ?side3 ?side4 ?side5 ?side6 a9.1).mono ?_); (case side1 => exact csb ak HB); (case side2 => exact ai.1); (case side3 => exact csb al HB); (case side4 => exact aj.1); (case side5 => exact csb aC HB); (case side6 => exact aB.1); rintro e bM ⟨aK, rfl, ap, hb⟩; have ac := am (Kd.R_lower ap (below_size pbg)); replace aa := bbh aa hb; replace ae := bbh ae hb; replace HB := bst hb; (try clear hb); (try clear ap); obtain ⟨bf, bj, aY⟩ := Kd.R_slice ac.1; subst aY) | (go_at_call 55; (with_reducible refine (r11_has.calls aA _ _ au a2 true _ ?side1 ?side2 ba.1).mono ?_); (case side1 => exact csd ((Kd.R_reads' ac.1).2.2)); (case side2 => exact (Kd.R_reads' ac.1).2.1); rintro e w' ⟨rfl, ⟨nd, rfl⟩⟩; (try first | exact ⟨rfl, _, World.drewN_drewN _ _ _⟩ | exact ⟨rfl, _, Eq.trans (World.drewN_drewN _ _ _) (congrArg (World.drewN _) (Nat.add_assoc _ _ _))⟩); have bV := cf3 aa.1) | (go_at_call 57; (with_reducible refine (r11_After.calls aA ao _ _ ag _ _ ah _ _ l1 a2 aL true _ ?side1 ?side2 ?side3 ?side4 ?side5 ?side6 bd.1).mono ?_); (case side1 => exact csd ((Kd.C_below ak.1 pbg))); (case side2 => exact ai.1); (case side3 => exact csd ((Kd.C_below al.1 pbg))); (case side4 => exact aj.1); (case side5 => exact csd ((Kd.C_below aC.1 pbg))); (case side6 => exact aB.1); rintro e bN ⟨a8, rfl, ap, hb⟩; have aF := am (Kd.R_lower (Kd.R_new' ap (Kd.R_lt (pkr ac.1))) (below_size pbg)); replace ac := am (Kd.R_elder' (pkr ac.1) (Kd.R_base ap) hb); replace aa := bbh aa hb; replace ae := bbh ae hb; replace HB := bst hb; (try clear hb); (try clear ap))))
  go_ret2
  exact ⟨_, per, by (with_reducible repeat (first | apply Kd.R_alloc | apply Kd.R_drewN | apply Kd.R_drew)); exact Kd.R_mono aF.1 (fun _ hk => trivial), pbg⟩
 rw [if_neg Bool.false_ne_true] at H
 simp only [Option.some.injEq, Prod.mk.injEq] at H
 obtain ⟨rfl, rfl⟩ := H
 have bv := ab.1
 have bC := af.1
 have b4 := cf3 aa.1
 iterate 4 (try go_wp2_with (first | (go_at_call 56; (with_reducible refine (r11_Fires.calls aA ao _ _ ag _ _ ah _ _ l1 au _ ?side1 ?side2 ?side3 ?side4 ?side5 ?side6 a9.1).mono ?_); (case side1 => exact csb ak HB); (case side2 => exact ai.1); (case side3 => exact csb al HB); (case side4 => exact aj.1); (case side5 => exact csb aC HB); (case side6 => exact aB.1); rintro e bO ⟨aK, rfl, ap, hb⟩; have ac := am (Kd.R_lower ap (below_size pbg)); replace aa := bbh aa hb; replace ae := bbh ae hb; replace HB := bst hb; (try clear hb); (try clear ap); obtain ⟨bg, bk, aZ⟩ := Kd.R_slice ac.1; subst aZ) | (go_at_call 55; (with_reducible refine (r11_has.calls aA _ _ au a2 true _ ?side1 ?side2 ba.1).mono ?_); (case side1 => exact csd ((Kd.R_reads' ac.1).2.2)); (case side2 => exact (Kd.R_reads' ac.1).2.1); rintro e w' ⟨rfl, ⟨nd, rfl⟩⟩; (try first | exact ⟨rfl, _, World.drewN_drewN _ _ _⟩ | exact ⟨rfl, _, Eq.trans (World.drewN_drewN _ _ _) (congrArg (World.drewN _) (Nat.add_assoc _ _ _))⟩); have bW := cf3 aa.1) | (go_at_call 57; (with_reducible refine (r11_After.calls aA ao _ _ ag _ _ ah _ _ l1 a2 aL false _ ?side1 ?side2 ?side3 ?side4 ?side5 ?side6 bd.1).mono ?_); (case side1 => exact csd ((Kd.C_below ak.1 pbg))); (case side2 => exact ai.1); (case side3 => exact csd ((Kd.C_below al.1 pbg))); (case side4 => exact aj.1); (case side5 => exact csd ((Kd.C_below aC.1 pbg))); (case side6 => exact aB.1); rintro e bP ⟨a8, rfl, ap, hb⟩; have aF := am (Kd.R_lower (Kd.R_new' ap (Kd.R_lt (pkr ac.1))) (below_size pbg)); replace ac := am (Kd.R_elder' (pkr ac.1) (Kd.R_base ap) hb); replace aa := bbh aa hb; replace ae := bbh ae hb; replace HB := bst hb; (try clear hb); (try clear ap))); try go_quiet (first | (go_at_call 56; (with_reducible refine (r11_Fires.calls aA ao _ _ ag _ _ ah _ _ l1 au _ ?side1 ?side2 ?side3 ?side4 ?side5 ?side6 a9.1).mono ?_); (case side1 => exact csb ak HB); (case side2 => exact ai.1); (case side3 => exact csb al HB); (case side4 => exact aj.1); (case side5 => exact csb aC HB); (case side6 => exact aB.1); rintro e bO ⟨aK, rfl, ap, hb⟩; have ac := am (Kd.R_lower ap (below_size pbg)); replace aa := bbh aa hb; replace ae := bbh ae hb; replace HB := bst hb; (try clear hb); (try clear ap); obtain ⟨bg, bk, aZ⟩ := Kd.R_slice ac.1; subst aZ) | (go_at_call 55; (with_reducible refine (r11_has.calls aA _ _ au a2 true _ ?side1 ?side2 ba.1).mono ?_); (case side1 => exact csd ((Kd.R_reads' ac.1).2.2)); (case side2 => exact (Kd.R_reads' ac.1).2.1); rintro e w' ⟨rfl, ⟨nd, rfl⟩⟩; (try first | exact ⟨rfl, _, World.drewN_drewN _ _ _⟩ | exact ⟨rfl, _, Eq.trans (World.drewN_drewN _ _ _) (congrArg (World.drewN _) (Nat.add_assoc _ _ _))⟩); have bW := cf3 aa.1) | (go_at_call 57; (with_reducible refine (r11_After.calls aA ao _ _ ag _ _ ah _ _ l1 a2 aL false _ ?side1 ?side2 ?side3 ?side4 ?side5 ?side6 bd.1).mono ?_); (case side1 => exact csd ((Kd.C_below ak.1 pbg))); (case side2 => exact ai.1); (case side3 => exact csd ((Kd.C_below al.1 pbg))); (case side4 => exact aj.1); (case side5 => exact csd ((Kd.C_below aC.1 pbg))); (case side6 => exact aB.1); rintro e bP ⟨a8, rfl, ap, hb⟩; have aF := am (Kd.R_lower (Kd.R_new' ap (Kd.R_lt (pkr ac.1))) (below_size pbg)); replace ac := am (Kd.R_elder' (pkr ac.1) (Kd.R_base ap) hb); replace aa := bbh aa hb; replace ae := bbh ae hb; replace HB := bst hb; (try clear hb); (try clear ap))))
 go_ret2
 exact ⟨_, per, knl, pbg⟩

/-! ### r05_Finite: function 58 -/
def r05_Finite.l0 : Nat → List Int → List Int → Int → Option (List Int)
 | 0, _, _, _ => none
 | k + 1, x0, x3, x4 => if x4 < (x0.length : Int) then (if 0 ≤ x4 then (if (rd x0 x4) = (-1) then (r05_Finite.l0 k x0 x3 (wrap64 (x4 + 1))) else (if x3.length < 17592186044416 then (r05_Finite.l0 k x0 (x3 ++ [x4]) (wrap64 (x4 + 1))) else (none))) else (none)) else (some x3)
def r05_Finite.f (k : Nat) (l0 : List Int) : Option (List Int) := r05_Finite.l0 k l0 ([] : List Int) 0
theorem r05_Finite.mono_l : ∀ k, M3 r05_Finite.l0 k
 | 0 => fun _ _ _ r h => by simp [r05_Finite.l0] at h
 | k + 1 => by
  have au := r05_Finite.mono_l k
  ·intro y0 y1 y2
   unfold r05_Finite.l0
   repeat' first | (with_reducible first | apply au | apply lr | apply ln | apply li | refine lb ?_ fun _ => ?_)
theorem r05_Finite.mono : ∀ a0 k, LeO (r05_Finite.f k a0) (r05_Finite.f (k + 1) a0) := by
 intro a0 k
 have au := r05_Finite.mono_l k
 unfold r05_Finite.f
 repeat' first | (with_reducible first | apply au | apply lr | apply ln | apply li | refine lb ?_ fun _ => ?_)
set_option maxHeartbeats 8000000 in
set_option maxRecDepth 100000 in
theorem r05_Finite.calls (k : Nat) (A0 : Option Addr) (c0 : Nat) (l0 : List Int) (r : List Int) (w : World) (ay : Kd.C (Kd.int .i64) w A0 l0.length l0) (hc0 : l0.length ≤ c0) (h : r05_Finite.f k l0 = some r) :
  Calls Try.prog 58 #[.slice A0 l0.length c0] w fun e w' => ∃ v0_ : Value, e = .returned (v0_) ∧ Kd.R (Kd.int .i64) 3 w' w.heap.size (fun _ => True) v0_ r ∧ Below w.heap.size w w' := by
 have ax := am ay
 have aC := am hc0
 clear ay hc0
 have HB := am (Below.refl w.heap.size w)
 have H := h
 unfold r05_Finite.f at H
 clear h
 have H' := am H
 clear H
 go_enter Try.func58, Try.ntmps58
 go_wp2
 go_loopg [3, 4] k (fun kq v3 v4 w' => ∃ (ab : List Int) (aa : Int), v4 = .int .i64 aa ∧ Aside0 (r05_Finite.l0 kq l0 ab aa = some r) ∧ Aside0 (kq ≤ k) ∧ Aside0 (Kd.R (Kd.int .i64) 3 w' w.heap.size (fun _ => True) v3 ab) ∧ Aside0 (Below w.heap.size w w'))
 case atStart => exact ⟨(([] : List Int)), (0), prs, H', ⟨Nat.le_refl _⟩, ⟨knl⟩, ⟨pbg⟩⟩
 clear H'
 obtain ⟨ab, aa, rfl, HA, al, ae, HB⟩ := hrel
 obtain _ | k1 := gk
 ·exact absurd HA.1 (by simp [r05_Finite.l0])
 have H := HA.1
 clear HA
 simp only [r05_Finite.l0] at H
 replace H := ifl H
 rcases H with ⟨ap, H⟩ | ⟨ap, H⟩
 rotate_left
 ·obtain rfl := Option.some.inj H
  go_wp2
  go_ret
  exact ⟨_, per, by (with_reducible repeat (first | apply Kd.R_alloc | apply Kd.R_drewN | apply Kd.R_drew)); exact ae.1, pbg⟩
 replace H := ifp H
 obtain ⟨c3, H⟩ := H
 have az := decide_eq_true c3
 clear c3
 replace H := ife H
 rcases H with ⟨aq, ar, H⟩ | ⟨aq, ar, H⟩
 ·have H' := am H
  clear H
  obtain ⟨av, aw, aj, ag, af⟩ := bint ax.1 HB.1 aa
  cases ag
  go_wp2
  go_roundg k1
  case measure => have := al.1; omega
  case rel => exact ⟨(ab), (wrap64 (aa + 1)), prs, H', ⟨by have := al.1; omega⟩, ⟨pkr ae.1⟩, ⟨pbg⟩⟩
 replace H := ifp H
 obtain ⟨c5, H⟩ := H
 have ao := am c5
 clear c5
 obtain ⟨ak, ac⟩ : ∃ y_ : List Int, y_ = (ab ++ [aa]) := ⟨_, rfl⟩
 replace H : (r05_Finite.l0 k1 l0 ak (wrap64 (aa + 1))) = some r := hrp ac H
 have ai := am ac
 clear ac
 have H' := am H
 clear H
 obtain ⟨av, aw, aj, ag, af⟩ := bint ax.1 HB.1 aa
 cases ag
 go_wp2_with (first | ((with_reducible refine gate_builtin (b := .append) (xs := #[.tmp 16, .tmp 18]) rfl ?_); at_builtin; refine Kd.R_append (Kd.int .i64) (w0 := w) w.heap.size rfl (.tmp 16) (.tmp 18) 26 3 (.int .i64 0) 8 rfl Try.underlying26 info3 rfl (by decide) (by omega) u3 ab aa [.int .i64 aa] (fun _ => True) (fun _ => False) rfl rfl ?aP (fun _ hk => hk.elim) ?aF ?aO ?aB ?aS ?aL ?_; (case aP => exact rfl); (case aB => exact pbl); (case aF => exact (fun _ _ => trivial)); (case aO => exact (pkr ae.1)); (case aS => exact (below_size pbl)); (case aL => have := ao.1; omega); intro aA w6 ho hb hg hat; rw [← ai.1] at ho; have ah := am ho; replace HB := am hb; clear ae; clear ho hb hg hat))
 go_roundg k1
 case measure => have := al.1; omega
 case rel => exact ⟨(ak), (wrap64 (aa + 1)), prs, H', ⟨by have := al.1; omega⟩, ⟨pkr ah.1⟩, ⟨pbg⟩⟩

/-! ### r05_Covers: function 28 -/
def r05_Covers.f (k : Nat) (l0 : List Int) (l1 : List Int) : Option (Bool) := (r05_Finite.f k l1).bind fun aa => (if (aa.length : Int) = (l1.length : Int) then ((r05_Leq.f k l1 l0).bind fun ac => (some ac)) else (some false))
theorem r05_Covers.mono : ∀ a0 a1 k, LeO (r05_Covers.f k a0 a1) (r05_Covers.f (k + 1) a0 a1) := by
 intro a0 a1 k
 unfold r05_Covers.f
 repeat' first | (with_reducible first | apply r05_Finite.mono | apply r05_Leq.mono | apply lr | apply ln | apply li | refine lb ?_ fun _ => ?_)
set_option maxHeartbeats 8000000 in
set_option maxRecDepth 100000 in
theorem r05_Covers.calls (k : Nat) (A0 : Option Addr) (c0 : Nat) (l0 : List Int) (A1 : Option Addr) (c1 : Nat) (l1 : List Int) (r : Bool) (w : World) (ao : Kd.C (Kd.int .i64) w A0 l0.length l0) (hc0 : l0.length ≤ c0) (ap : Kd.C (Kd.int .i64) w A1 l1.length l1) (al : l1.length ≤ c1) (h : r05_Covers.f k l0 l1 = some r) :
  Calls Try.prog 28 #[.slice A0 l0.length c0, .slice A1 l1.length c1] w fun e w' => e = .returned (.bool r) ∧ Below w.heap.size w w' := by
 have ar := am ao
 have aq := am hc0
 clear ao hc0
 have ag := am ap
 have af := am al
 clear ap al
 have HB := am (Below.refl w.heap.size w)
 have H := h
 unfold r05_Covers.f at H
 clear h
 replace H := bnd H
 obtain ⟨aa, A3, H⟩ := H
 (try dsimp only at H)
 by_cases c4 : (aa.length : Int) = (l1.length : Int)
 rotate_left
 ·rw [if_neg c4] at H
  have ah : ((aa.length : Int) == (l1.length : Int)) = false := beq_eq_false_iff_ne.mpr c4
  have ai : ((aa.length : Int) != (l1.length : Int)) = true := bne_iff_ne.mpr c4
  have aj : (aa.length == l1.length) = false := by first | simpa using c4 | (simp at c4 ⊢; omega)
  obtain rfl := Option.some.inj H
  go_enter Try.func28, Try.ntmps28
  go_wp2_with (first | ((with_reducible refine gate_callee (f := 58) rfl ?_); refine gC 6 Try.func58 _ (r05_Finite.calls k _ _ l1 aa _ (csd ag.1) af.1 A3.1) ?_; rintro e w8 ⟨ak, rfl, ae, hb⟩; refine ⟨_, rfl, ?_⟩; have ab := am (Kd.R_lower ae (below_size pbl)); replace HB := bsl hb; (try clear hb); (try clear ae); obtain ⟨ax, az, av⟩ := Kd.R_slice ab.1; subst av))
  go_ret
  exact ⟨per, pbg⟩
 rw [if_pos c4] at H
 have ah : ((aa.length : Int) == (l1.length : Int)) = true := beq_iff_eq.mpr c4
 have ai : ((aa.length : Int) != (l1.length : Int)) = false := bne_eq_false_iff_eq.mpr c4
 have aj : (aa.length == l1.length) = true := by first | simpa using c4 | (simp at c4 ⊢; omega)
 clear c4
 replace H := bnd H
 obtain ⟨ac, A5, H⟩ := H
 (try dsimp only at H)
 obtain rfl := Option.some.inj H
 go_enter Try.func28, Try.ntmps28
 go_wp2_with (first | ((with_reducible refine gate_callee (f := 58) rfl ?_); refine gC 6 Try.func58 _ (r05_Finite.calls k _ _ l1 aa _ (csd ag.1) af.1 A3.1) ?_; rintro e w6 ⟨ak, rfl, ae, hb⟩; refine ⟨_, rfl, ?_⟩; have ab := am (Kd.R_lower ae (below_size pbl)); replace HB := bsl hb; (try clear hb); (try clear ae); obtain ⟨aw, ay, au⟩ := Kd.R_slice ab.1; subst au) | (go_at_call 34; (with_reducible refine (r05_Leq.calls k _ _ l1 _ _ l0 ac _ ?side1 ?side2 ?side3 ?side4 A5.1).mono ?_); (case side1 => exact csb ag HB); (case side2 => exact af.1); (case side3 => exact csb ar HB); (case side4 => exact aq.1); rintro e w' ⟨rfl, ⟨nd, rfl⟩⟩))
 go_ret
 exact ⟨per, pbg⟩

/-! ### petrinetlaw22_KarpmillerCovers: function 6 -/
mutual
def petrinetlaw22_KarpmillerCovers.j0 : Nat → List Int → Bool → ByteArray → List (S57) → List (S60) → Option (Bool)
 | 0, _, _, _, _, _ => none
 | k + 1, x1, cH, af, ag, ah => if cH = true then ((petrinetlaw22_alive.f k).bind fun bn => (some bn)) else ((karpmiller_Tree.f k af ag ah 300).bind fun aL => (if aL.2.2 = 0 then (petrinetlaw22_KarpmillerCovers.j1 k x1 aL.1 (!aL.2.1) af ag ah) else (petrinetlaw22_KarpmillerCovers.j1 k x1 aL.1 true af ag ah)))
def petrinetlaw22_KarpmillerCovers.j1 : Nat → List Int → List (S48) → Bool → ByteArray → List (S57) → List (S60) → Option (Bool)
 | 0, _, _, _, _, _, _ => none
 | k + 1, x1, x5, cI, af, ag, ah => if cI = true then ((petrinetlaw22_alive.f k).bind fun bo => (some bo)) else ((r09_Initial.f k af ag ah).bind fun a5 => (petrinetlaw22_KarpmillerCovers.l0 k x1 x5 a5 0 af ag ah))
def petrinetlaw22_KarpmillerCovers.l0 : Nat → List Int → List (S48) → List Int → Int → ByteArray → List (S57) → List (S60) → Option (Bool)
 | 0, _, _, _, _, _, _, _ => none
 | k + 1, x1, x5, x8, x9, af, ag, ah => if x9 < (x1.length : Int) then (if 0 ≤ x9 then ((r11_Fire.f k af ag ah x8 (rd x1 x9)).bind fun a9 => (if a9.2 = 0 then (petrinetlaw22_KarpmillerCovers.l0 k x1 x5 a9.1 (wrap64 (x9 + 1)) af ag ah) else (petrinetlaw22_KarpmillerCovers.l0 k x1 x5 x8 (wrap64 (x9 + 1)) af ag ah))) else (none)) else (petrinetlaw22_KarpmillerCovers.l1 k x5 x8 false 0)
def petrinetlaw22_KarpmillerCovers.l1 : Nat → List (S48) → List Int → Bool → Int → Option (Bool)
 | 0, _, _, _, _ => none
 | k + 1, x5, x8, x12, x13 => if x13 < (x5.length : Int) then (if x12 = true then (petrinetlaw22_KarpmillerCovers.l1 k x5 x8 true (wrap64 (x13 + 1))) else (if 0 ≤ x13 then ((r05_Covers.f k ((rd_T48 x5 x13).f2) x8).bind fun a6 => (petrinetlaw22_KarpmillerCovers.l1 k x5 x8 a6 (wrap64 (x13 + 1)))) else (none))) else (if x12 = true then ((petrinetlaw22_alive.f k).bind fun bp => (some bp)) else (none))
end
def petrinetlaw22_KarpmillerCovers.f (k : Nat) (ai : ByteArray) (ab : List (S57)) (ac : List (S60)) (l1 : List Int) : Option (Bool) := (r09_Light.f k ai ab ac).bind fun bl => (if bl = true then ((r09_Valid.f k ai ab ac).bind fun bm => (if bm = true then (petrinetlaw22_KarpmillerCovers.j0 k l1 (decide ((l1.length : Int) > 40)) ai ab ac) else (petrinetlaw22_KarpmillerCovers.j0 k l1 true ai ab ac))) else (petrinetlaw22_KarpmillerCovers.j0 k l1 true ai ab ac))
theorem petrinetlaw22_KarpmillerCovers.mono_l : ∀ k, M5 petrinetlaw22_KarpmillerCovers.j0 k ∧ M6 petrinetlaw22_KarpmillerCovers.j1 k ∧ M7 petrinetlaw22_KarpmillerCovers.l0 k ∧ M4 petrinetlaw22_KarpmillerCovers.l1 k
 | 0 => ⟨fun _ _ _ _ _ r h => by simp [petrinetlaw22_KarpmillerCovers.j0] at h, fun _ _ _ _ _ _ r h => by simp [petrinetlaw22_KarpmillerCovers.j1] at h, fun _ _ _ _ _ _ _ r h => by simp [petrinetlaw22_KarpmillerCovers.l0] at h, fun _ _ _ _ r h => by simp [petrinetlaw22_KarpmillerCovers.l1] at h⟩
 | k + 1 => by
  obtain ⟨bY, bZ, b0, b1⟩ := petrinetlaw22_KarpmillerCovers.mono_l k
  refine ⟨?_, ?_, ?_, ?_⟩ <;> dsimp only [M4, M5, M6, M7] <;> intros <;> (first | unfold petrinetlaw22_KarpmillerCovers.j0 | unfold petrinetlaw22_KarpmillerCovers.j1 | unfold petrinetlaw22_KarpmillerCovers.l0 | unfold petrinetlaw22_KarpmillerCovers.l1) <;> repeat' first | (with_reducible first | apply bY | apply bZ | apply b0 | apply b1 | apply karpmiller_Tree.mono | apply petrinetlaw22_alive.mono | apply r05_Covers.mono | apply r09_Initial.mono | apply r09_Light.mono | apply r09_Valid.mono | apply r11_Fire.mono | apply lr | apply ln | apply li | refine lb ?_ fun _ => ?_)
theorem petrinetlaw22_KarpmillerCovers.mono : ∀ a0 a1 a2 a3 k, LeO (petrinetlaw22_KarpmillerCovers.f k a0 a1 a2 a3) (petrinetlaw22_KarpmillerCovers.f (k + 1) a0 a1 a2 a3) := by
 intro a0 a1 a2 a3 k
 obtain ⟨bY, bZ, b0, b1⟩ := petrinetlaw22_KarpmillerCovers.mono_l k
 unfold petrinetlaw22_KarpmillerCovers.f
 repeat' first | (with_reducible first | apply bY | apply bZ | apply b0 | apply b1 | apply karpmiller_Tree.mono | apply petrinetlaw22_alive.mono | apply r05_Covers.mono | apply r09_Initial.mono | apply r09_Light.mono | apply r09_Valid.mono | apply r11_Fire.mono | apply lr | apply ln | apply li | refine lb ?_ fun _ => ?_)
def petrinetlaw22_KarpmillerCovers.T10 : Bool × List (List Nat × List Nat) := (true, [([], []), ([], []), ([], []), ([], []), ([2, 3], [2, 3]), ([4], [4]), ([0, 1, 5], [0, 1, 5]), ([6], [6]), ([7], [7]), ([7], [7]), ([8, 6, 0, 1, 2, 3, 4, 5, 6, 7, 8], [8]), ([9, 10, 0, 1, 2, 3, 4, 5, 6, 7, 8, 9, 10], [9])])
def petrinetlaw22_KarpmillerCovers.B10 : List Nat := [0, 0, 0, 0, 12, 28, 63, 127, 255, 255, 511, 2047]
theorem petrinetlaw22_KarpmillerCovers.tab10 : rtab .any (opsOf Try.f6 10) = petrinetlaw22_KarpmillerCovers.T10 := by kernel_rfl
theorem petrinetlaw22_KarpmillerCovers.bits10 : waitsOk petrinetlaw22_KarpmillerCovers.T10.2 petrinetlaw22_KarpmillerCovers.B10 = true := by kernel_rfl
set_option maxHeartbeats 8000000 in
set_option maxRecDepth 100000 in
theorem petrinetlaw22_KarpmillerCovers.calls (k : Nat) (ai : ByteArray) (aA : Option Addr) (aC : Nat) (ab : List (S57)) (aB : Option Addr) (aD : Nat) (ac : List (S60)) (A1 : Option Addr) (c1 : Nat) (l1 : List Int) (r : Bool) (w : World) (bg : Kd.C k57 w aA ab.length ab) (bd : ab.length ≤ aC) (bh : Kd.C k60 w aB ac.length ac) (bf : ac.length ≤ aD) (ce : Kd.C (Kd.int .i64) w A1 l1.length l1) (cd : l1.length ≤ c1) (h : petrinetlaw22_KarpmillerCovers.f k ai ab ac l1 = some r) :
  Calls Try.prog 6 #[.agg #[.string ai, .slice aA ab.length aC, .slice aB ac.length aD], .slice A1 l1.length c1] w fun e w' => e = .returned (.bool r) ∧ Below w.heap.size w w' := by
 have cA := Try.underlying25
 have ar := am bg
 have ap := am bd
 clear bg bd
 have au := am bh
 have aq := am bf
 clear bh bf
 have cu := am ce
 have cJ := am cd
 clear ce cd
 have HB := am (Below.refl w.heap.size w)
 have H := h
 unfold petrinetlaw22_KarpmillerCovers.f at H
 clear h
 have bO := am H
 clear H
 go_enter Try.func6, Try.ntmps6
 go_upto_region 1 with (first | ((with_reducible refine gate_dst (N := 2) rfl ?_); (try (refine gate_guard (by rfl) ?_; dsimp only)); refine box_ev ?_; intro ak hg w4 hbox hb; have aa := am hbox; have br := gwl hg; have b6 := br; replace HB := bsl hb; clear hb hbox hg))
 (try simp only [Act.put, List.setIfInBounds_toArray, List.set_cons_zero, List.set_cons_succ])
 go_cut [26] (fun cD wc => ∃ (kq : Nat) (aQ : Bool), cD = .bool aQ ∧ Aside0 (petrinetlaw22_KarpmillerCovers.j0 kq l1 aQ ai ab ac = some r) ∧ Aside0 (kq ≤ k) ∧ Aside0 (wc.heap[ak]? = some (.cells #[.string ai, (.slice aA ab.length aC), (.slice aB ac.length aD)] 25 (0, 0))) ∧ Aside0 (Below w.heap.size w wc))
 case first =>
  have H := bO.1
  clear bO
  replace H := bnd H
  obtain ⟨bl, A5, H⟩ := H
  (try dsimp only at H)
  cases bl
  ·rw [if_neg Bool.false_ne_true] at H
   have H' := am H
   clear H
   have bL := cf3 aa.1
   go_wp2_with (first | ((with_reducible refine gate_callee (f := 21) rfl ?_); refine gC 15 Try.func21 _ (r09_Light.calls k ai _ _ ab _ _ ac false _ (csb ar HB) ap.1 (csb au HB) aq.1 A5.1) ?_; rintro e cR ⟨rfl, hb⟩; refine ⟨_, rfl, ?_⟩; replace aa := bbh aa hb; replace HB := bst hb; (try clear hb)))
   go_meet
   case rel => exact ⟨_, (true), prs, H', ⟨by first | omega | exact Nat.le_refl _⟩, ⟨pbk aa.1⟩, ⟨pbg⟩⟩
  rw [if_pos rfl] at H
  replace H := bnd H
  obtain ⟨bm, A7, H⟩ := H
  (try dsimp only at H)
  cases bm
  rotate_left
  ·rw [if_pos rfl] at H
   have H' := am H
   clear H
   have z9 := cf3 aa.1
   go_wp2_with (first | ((with_reducible refine gate_callee (f := 21) rfl ?_); refine gC 15 Try.func21 _ (r09_Light.calls k ai _ _ ab _ _ ac true _ (csb ar HB) ap.1 (csb au HB) aq.1 A5.1) ?_; rintro e cN ⟨rfl, hb⟩; refine ⟨_, rfl, ?_⟩; replace aa := bbh aa hb; replace HB := bst hb; (try clear hb); have bI := cf3 aa.1) | (go_at_call 25; (with_reducible refine (r09_Valid.calls k ai _ _ ab _ _ ac true _ ?side1 ?side2 ?side3 ?side4 A7.1).mono ?_); (case side1 => exact csb ar HB); (case side2 => exact ap.1); (case side3 => exact csb au HB); (case side4 => exact aq.1); rintro e cO ⟨rfl, hb⟩; replace aa := bbh aa hb; replace HB := bst hb; (try clear hb)))
   go_meet
   case rel => exact ⟨_, (decide ((l1.length : Int) > 40)), prs, H', ⟨by first | omega | exact Nat.le_refl _⟩, ⟨pbk aa.1⟩, ⟨pbg⟩⟩
  rw [if_neg Bool.false_ne_true] at H
  have H' := am H
  clear H
  have bJ := cf3 aa.1
  go_wp2_with (first | ((with_reducible refine gate_callee (f := 21) rfl ?_); refine gC 15 Try.func21 _ (r09_Light.calls k ai _ _ ab _ _ ac true _ (csb ar HB) ap.1 (csb au HB) aq.1 A5.1) ?_; rintro e cP ⟨rfl, hb⟩; refine ⟨_, rfl, ?_⟩; replace aa := bbh aa hb; replace HB := bst hb; (try clear hb); have bK := cf3 aa.1) | (go_at_call 25; (with_reducible refine (r09_Valid.calls k ai _ _ ab _ _ ac false _ ?side1 ?side2 ?side3 ?side4 A7.1).mono ?_); (case side1 => exact csb ar HB); (case side2 => exact ap.1); (case side3 => exact csb au HB); (case side4 => exact aq.1); rintro e cQ ⟨rfl, hb⟩; replace aa := bbh aa hb; replace HB := bst hb; (try clear hb)))
  go_meet
  case rel => exact ⟨_, (true), prs, H', ⟨by first | omega | exact Nat.le_refl _⟩, ⟨pbk aa.1⟩, ⟨pbg⟩⟩
 clear bO
 try clear c1 c6 c8 bI bJ bK bL z9
 obtain ⟨kq, aQ, rfl, HA, aT, aa, HB⟩ := hcut
 obtain _ | b2 := kq
 ·exact absurd HA.1 (by simp [petrinetlaw22_KarpmillerCovers.j0])
 have H := HA.1
 clear HA
 simp only [petrinetlaw22_KarpmillerCovers.j0] at H
 cases aQ
 rotate_left
 ·rw [if_pos rfl] at H
  replace H := bnd H
  obtain ⟨bn, cg, H⟩ := H
  (try dsimp only at H)
  obtain rfl := Option.some.inj H
  go_wp2_with (first | ((with_reducible refine gate_callee (f := 11) rfl ?_); refine gC 27 Try.func11 _ (petrinetlaw22_alive.calls b2  bn _ cg.1) ?_; rintro e cS ⟨rfl, hb⟩; refine ⟨_, rfl, ?_⟩; replace aa := bbh aa hb; replace HB := bst hb; (try clear hb)))
  go_ret
  exact ⟨per, pbg⟩
 rw [if_neg Bool.false_ne_true] at H
 replace H := bnd H
 obtain ⟨⟨az, bA, b3⟩, ch, H⟩ := H
 (try dsimp only at H)
 have bi := am H
 clear H
 have b5 := cf3 aa.1
 go_upto_region 4 with (first | ((with_reducible refine gate_callee (f := 18) rfl ?_); refine gC 30 Try.func18 _ (karpmiller_Tree.calls b2 ai _ _ ab _ _ ac 300 az bA b3 _ (csb ar HB) ap.1 (csb au HB) aq.1 ch.1) ?_; rintro e cT ⟨bq, rfl, aS, hb⟩; refine ⟨_, rfl, ?_⟩; have a8 := am (Kd.N_lower (Kd.N_mono (ok' := fun k_ => k_ ≠ ak) aS (fun k_ hk_ => (Kd.freshB (g := ak) (o := .cells #[.string ai, .slice aA ab.length aC, .slice aB ac.length aD] 25 (0, 0)) (by exact pbk aa.1) k_ hk_))) (below_size pbg)); replace aa := bbh aa hb; replace HB := bst hb; (try clear hb); (try clear aS)))
 (try simp only [Act.put, List.setIfInBounds_toArray, List.set_cons_zero, List.set_cons_succ])
 go_cut [39] (fun cE wc => ∃ (kq : Nat) (aG : Bool), cE = .bool aG ∧ Aside0 (petrinetlaw22_KarpmillerCovers.j1 kq l1 az aG ai ab ac = some r) ∧ Aside0 (kq ≤ b2) ∧ Aside0 (Kd.N k48 48 wc w.heap.size (fun k_ => k_ ≠ ak) bq az) ∧ Aside0 (wc.heap[ak]? = some (.cells #[.string ai, (.slice aA ab.length aC), (.slice aB ac.length aD)] 25 (0, 0))) ∧ Aside0 (Below w.heap.size w wc))
 case first =>
  have H := bi.1
  clear bi
  replace H := ife H
  rcases H with ⟨av, aM, H⟩ | ⟨av, aM, H⟩
  rotate_left
  ·(first | rw [av] | (simp only [i64_w, i32_w]; rw [av]) | skip)
   have H' := am H
   clear H
   go_wp2
   go_meet
   case rel => exact ⟨_, (true), prs, H', ⟨by have := aT.1; first | omega | exact Nat.le_refl _⟩, ⟨pkn a8.1⟩, ⟨pbk aa.1⟩, ⟨pbg⟩⟩
  (first | rw [av] | (simp only [i64_w, i32_w]; rw [av]) | skip)
  have H' := am H
  clear H
  go_wp2
  go_meet
  case rel => exact ⟨_, (!bA), prs, H', ⟨by have := aT.1; first | omega | exact Nat.le_refl _⟩, ⟨pkn a8.1⟩, ⟨pbk aa.1⟩, ⟨pbg⟩⟩
 clear bi
 try clear c1 c6 c8 b8 av aM bI bJ bK bL b5 z9
 obtain ⟨kq, aG, rfl, HA, aI, ae, aa, HB⟩ := hcut
 obtain _ | aW := kq
 ·exact absurd HA.1 (by simp [petrinetlaw22_KarpmillerCovers.j1])
 have H := HA.1
 clear HA
 simp only [petrinetlaw22_KarpmillerCovers.j1] at H
 cases aG
 rotate_left
 ·rw [if_pos rfl] at H
  replace H := bnd H
  obtain ⟨bo, ci, H⟩ := H
  (try dsimp only at H)
  obtain rfl := Option.some.inj H
  go_wp2_with (first | ((with_reducible refine gate_callee (f := 11) rfl ?_); refine gC 40 Try.func11 _ (petrinetlaw22_alive.calls aW  bo _ ci.1) ?_; rintro e cU ⟨rfl, hb⟩; refine ⟨_, rfl, ?_⟩; replace ae := nbw ae hb; replace aa := bbh aa hb; replace HB := bst hb; (try clear hb)))
  go_ret
  exact ⟨per, pbg⟩
 rw [if_neg Bool.false_ne_true] at H
 replace H := bnd H
 obtain ⟨a5, cj, H⟩ := H
 (try dsimp only at H)
 have H' := am H
 clear H
 have cf := cf3 aa.1
 go_wp2_with (first | ((with_reducible refine gate_callee (f := 26) rfl ?_); refine gC 42 Try.func26 _ (r09_Initial.calls aW ai _ _ ab _ _ ac a5 _ (csb ar HB) ap.1 (csb au HB) aq.1 cj.1) ?_; rintro e cV ⟨cF, rfl, aS, hb⟩; refine ⟨_, rfl, ?_⟩; have bs := am (Kd.R_lower aS (below_size pbg)); replace ae := am (Kd.N_elder' (pkn ae.1) (Kd.R_base aS) hb); replace aa := bbh aa hb; replace HB := bst hb; (try clear hb); (try clear aS)))
 go_loopg [8, 9] aW (fun kq v8 v9 w' => ∃ (aH : List Int) (aw : Int), v9 = .int .i64 aw ∧ Aside0 (petrinetlaw22_KarpmillerCovers.l0 kq l1 az aH aw ai ab ac = some r) ∧ Aside0 (kq ≤ aW) ∧ Aside0 (Kd.N k48 48 w' w.heap.size (fun k_ => some k_ ≠ (v8 : Value).ownBlock ∧ k_ ≠ ak) bq az) ∧ Aside0 (Kd.R (Kd.int .i64) 3 w' w.heap.size (fun _ => True) v8 aH) ∧ Aside0 (w'.heap[ak]? = some (.cells #[.string ai, (.slice aA ab.length aC), (.slice aB ac.length aD)] 25 (0, 0))) ∧ Aside0 (Below w.heap.size w w'))
 case atStart => exact ⟨(a5), (0), prs, H', ⟨Nat.le_refl _⟩, ⟨by (with_reducible repeat (first | apply Kd.N_alloc | apply Kd.N_drewN | apply Kd.N_drew)); exact Kd.N_mono ae.1 (fun _ hk => ⟨hk.2, hk.1⟩)⟩, ⟨pkr bs.1⟩, ⟨pbk aa.1⟩, ⟨pbg⟩⟩
 clear H'
 try clear c1 c6 c8 cv b8 av aM bI bJ bK bL b5 cf z9
 obtain ⟨aH, aw, rfl, HA, a7, ae, aj, aa, HB⟩ := hrel
 obtain _ | k3 := gk
 ·exact absurd HA.1 (by simp [petrinetlaw22_KarpmillerCovers.l0])
 have H := HA.1
 clear HA
 simp only [petrinetlaw22_KarpmillerCovers.l0] at H
 replace H := ifl H
 rcases H with ⟨ba, H⟩ | ⟨ba, H⟩
 rotate_left
 ·have H' := am H
  clear H
  go_wp2
  go_loopg [12, 13] k3 (fun kq cB cC w' => ∃ (aJ : Bool) (al : Int), cB = .bool aJ ∧ cC = .int .i64 al ∧ Aside0 (petrinetlaw22_KarpmillerCovers.l1 kq az aH aJ al = some r) ∧ Aside0 (kq ≤ k3) ∧ Aside0 (Kd.N k48 48 w' w.heap.size (fun k_ => some k_ ≠ (u8 : Value).ownBlock ∧ k_ ≠ ak) bq az) ∧ Aside0 (Kd.R (Kd.int .i64) 3 w' w.heap.size (fun _ => True) u8 aH) ∧ Aside0 (w'.heap[ak]? = some (.cells #[.string ai, (.slice aA ab.length aC), (.slice aB ac.length aD)] 25 (0, 0))) ∧ Aside0 (Below w.heap.size w w'))
  case atStart => exact ⟨(false), (0), prs, prs, H', ⟨Nat.le_refl _⟩, ⟨pkn ae.1⟩, ⟨pkr aj.1⟩, ⟨pbk aa.1⟩, ⟨pbg⟩⟩
  clear H'
  try clear c1 c6 c8 cv b8 av aM cK ba bP bw cL bb bc bI bJ bK bL b5 cf z9 ao aX aZ
  obtain ⟨aJ, al, rfl, rfl, HA, bC, ae, aj, aa, HB⟩ := hrel
  obtain _ | k4 := gk
  ·exact absurd HA.1 (by simp [petrinetlaw22_KarpmillerCovers.l1])
  have H := HA.1
  clear HA
  simp only [petrinetlaw22_KarpmillerCovers.l1] at H
  replace H := ifl H
  rcases H with ⟨bx, H⟩ | ⟨bx, H⟩
  rotate_left
  ·cases aJ
   ·rw [if_neg Bool.false_ne_true] at H
    exact absurd H (by simp)
   rw [if_pos rfl] at H
   replace H := bnd H
   obtain ⟨bp, cn, H⟩ := H
   (try dsimp only at H)
   obtain rfl := Option.some.inj H
   obtain ⟨cr, cz, bX⟩ := Kd.N_slice ae.1
   subst bX
   go_wp2_with (first | (go_at_call 11; (with_reducible refine (petrinetlaw22_alive.calls k4  bp _ cn.1).mono ?_); rintro e cZ ⟨rfl, hb⟩; replace ae := nbw ae hb; replace aj := rbw aj hb; replace aa := bbh aa hb; replace HB := bst hb; (try clear hb)))
   go_ret
   exact ⟨per, pbg⟩
  cases aJ
  rotate_left
  ·rw [if_pos rfl] at H
   have H' := am H
   clear H
   obtain ⟨co, cw, bU⟩ := Kd.N_slice ae.1
   subst bU
   go_wp2
   go_roundg k4
   case measure => have := aT.1; have := aI.1; have := a7.1; have := bC.1; omega
   case rel => exact ⟨(true), (wrap64 (al + 1)), prs, prs, H', ⟨by have := aT.1; have := aI.1; have := a7.1; have := bC.1; omega⟩, ⟨pkn ae.1⟩, ⟨pkr aj.1⟩, ⟨pbk aa.1⟩, ⟨pbg⟩⟩
  rw [if_neg Bool.false_ne_true] at H
  replace H := ifp H
  obtain ⟨b9, H⟩ := H
  have ca := decide_eq_true b9
  clear b9
  replace H := bnd H
  obtain ⟨a6, cm, H⟩ := H
  (try dsimp only at H)
  have H' := am H
  clear H
  obtain ⟨cp, cx, bV⟩ := Kd.N_slice ae.1
  subst bV
  have aY : 0 ≤ (al : Int) := dq
  have a4 : al < (az.length : Int) := dq
  obtain ⟨b7, bM, bQ, bT, bD, bE, aV, bF, aO, aN⟩ := at_T48 (Kd.N_reads' ae.1).2.2 al aY a4
  cases bT
  obtain ⟨cb, bk, bj, aR⟩ := Kd.N_get ae.1 z48 al aY (by first | exact a4 | exact dq | (have e_ := (Kd.N_reads' ae.1).1; omega))
  obtain ⟨bG, bH, rfl, aF, aE⟩ := k48_openF bj
  have ay := aR 2 _ rfl
  rw [add_field _ _ 2 (by omega)] at ay
  replace ay := Option.some.inj (ay.symm.trans aV)
  injection ay with hva_ hvn_ hvc_
  rw [hva_] at aE
  rw [hvc_] at aF
  have aK := am (show Kd.V (Kd.int .i64) 3 _ w.heap.size _ _ ((rd_T48 az al).f2) from Kd.V_mk aF aE)
  clear hva_ hvn_ hvc_ aE aF aR bk
  have ax := am aN
  have aU := am aO
  clear aN aO
  replace aY := eq_true aY
  replace a4 := eq_true a4
  obtain ⟨cq, cy, bW⟩ := Kd.R_slice aj.1
  subst bW
  go_wp2_with (first | (go_at_call 28; (with_reducible refine (r05_Covers.calls k4 _ _ ((rd_T48 az al).f2) _ _ aH a6 _ ?side1 ?side2 ?side3 ?side4 cm.1).mono ?_); (case side1 => repeat (first | exact (by repeat (first | (with_reducible exact ax.1) | (with_reducible refine Kd.C_alloc ?_ _) | (with_reducible refine Kd.C_drewN ?_ _) | (with_reducible refine Kd.C_drew ?_) | exact ax.1)) | (with_reducible refine Kd.C_alloc ?_ _) | (with_reducible refine Kd.C_drewN ?_ _) | (with_reducible refine Kd.C_drew ?_))); (case side2 => exact aU.1); (case side3 => exact csd ((Kd.R_reads' aj.1).2.2)); (case side4 => exact (Kd.R_reads' aj.1).2.1); rintro e cY ⟨rfl, hb⟩; replace ae := nbw ae hb; replace aj := rbw aj hb; replace aK := vbw aK hb; replace aa := bbh aa hb; replace ax := cbb ax hb; replace HB := bst hb; (try clear hb)))
  go_roundg k4
  case measure => have := aT.1; have := aI.1; have := a7.1; have := bC.1; omega
  case rel => exact ⟨(a6), (wrap64 (al + 1)), prs, prs, H', ⟨by have := aT.1; have := aI.1; have := a7.1; have := bC.1; omega⟩, ⟨pkn ae.1⟩, ⟨pkr aj.1⟩, ⟨pbk aa.1⟩, ⟨pbg⟩⟩
 replace H := ifp H
 obtain ⟨bP, H⟩ := H
 have bw := decide_eq_true bP
 clear bP
 replace H := bnd H
 obtain ⟨⟨bB, b4⟩, ck, H⟩ := H
 (try dsimp only at H)
 have HZ_ := am H
 clear H
 try go_wp2
 replace ae := am (Kd.N_drew ae.1)
 replace aj := am (Kd.R_drew aj.1)
 replace aa := am (blk_drew aa.1)
 replace HB := am (below_drew1 HB.1)
 have aX : 0 ≤ (aw : Int) := dq
 have aZ : aw < (l1.length : Int) := dq
 obtain ⟨bv, bS, ao⟩ := Kd.at_int cu.1 aw aX aZ
 have aP := ao
 cases bS
 replace ao := cbl HB.1 ao
 replace aX := eq_true aX
 replace aZ := eq_true aZ
 obtain ⟨bN, bR, bz⟩ := Kd.R_slice aj.1
 (first | subst bz | (injection bz with f1_ f2_ f3_; have f4_ := f1_.symm; have f5_ := f3_.symm; clear f1_ f2_ f3_; subst f4_; subst f5_))
 refine start_ (n := 12) (S := fun w' => w'.cell? ⟨ak, 0, none⟩ = some (.string ai) ∧ w'.cell? ⟨ak, 1, none⟩ = some (.slice aA ab.length aC) ∧ w'.cell? ⟨ak, 2, none⟩ = some (.slice aB ac.length aD) ∧ w'.cell? (bv.add (aw).toNat) = some (.int .i64 (rd l1 aw))) (ds := []) #[false, false, false, false, false, false, false, false, false, false, false, false] (by kernel_rfl) rfl rfl ⟨(blk_cell aa.1 0).trans rfl, (blk_cell aa.1 1).trans rfl, (blk_cell aa.1 2).trans rfl, (cbl HB.1 aP)⟩ (fun hHeld => ?_); refine with_tabW petrinetlaw22_KarpmillerCovers.tab10 petrinetlaw22_KarpmillerCovers.bits10 (fun HT_ HW_ => ?_)
 generalize wr.drew = cW at ae aj aa HB ao hHeld ⊢
 refine pu HT_.1 1 51 ?_
 refine pu HT_.1 2 52 ?_
 refine pu HT_.1 3 53 ?_
 refine pu HT_.1 4 54 ?_
 refine tk HT_.1 HW_.1 hHeld 0 50 ?_
 refine tk HT_.1 HW_.1 hHeld 5 55 ?_
 refine on HT_.1 6 (some 56) rfl fun K hK => ?_
 refine goes_ Try.func27 (by kernel_rfl) rfl #[.agg #[.string ai, .slice aA ab.length aC, .slice aB ac.length aD], .slice bN aH.length bR, .int .i64 (rd l1 aw)] (by rfl) rfl rfl pgz ?_
 with_reducible refine (r11_Fire.calls k3 ai _ _ ab _ _ ac _ _ aH (rd l1 aw) bB b4 _ ?side1 ?side2 ?side3 ?side4 ?side5 ?side6 ck.1).mono ?_
 (case side1 => exact csb ar HB)
 (case side2 => exact ap.1)
 (case side3 => exact csb au HB)
 (case side4 => exact aq.1)
 (case side5 => exact csd ((Kd.R_reads' aj.1).2.2))
 (case side6 => exact (Kd.R_reads' aj.1).2.1)
 rintro e cX ⟨cG, rfl, aS, hb⟩
 refine ⟨_, rfl, ?_⟩
 have bu := am (Kd.R_lower (Kd.R_new' aS (Kd.R_lt (pkr aj.1))) (below_size pbg))
 replace ae := am (Kd.N_elder' (pkn ae.1) (Kd.R_base aS) hb)
 replace aj := am (Kd.R_elder' (pkr aj.1) (Kd.R_base aS) hb)
 replace aa := bbh aa hb
 replace HB := bst hb
 (try clear hb)
 (try clear cM)
 (try clear hk)
 (try clear hi)
 (try clear aS)
 refine hK.out _ _ ⟨(blk_cell aa.1 0).trans rfl, (blk_cell aa.1 1).trans rfl, (blk_cell aa.1 2).trans rfl, (cbl HB.1 aP)⟩ (fun hHeld => ?_)
 clear hK K
 refine nm_ 56 ?_
 refine pu HT_.1 7 49 ?_
 refine pu HT_.1 8 57 ?_
 refine pu HT_.1 9 58 ?_
 refine pu HT_.1 10 10 ?_
 refine pu HT_.1 11 11 ?_
 refine done_ (done_of HT_.1 (by kernel_rfl)) ?_
 have H := HZ_.1
 clear HZ_
 replace H := ife H
 rcases H with ⟨bb, bc, H⟩ | ⟨bb, bc, H⟩
 rotate_left
 ·have H' := am H
  clear H
  try go_wp2
  go_roundg k3
  case measure => have := aT.1; have := aI.1; have := a7.1; omega
  case rel => exact ⟨(aH), (wrap64 (aw + 1)), prs, H', ⟨by have := aT.1; have := aI.1; have := a7.1; omega⟩, ⟨by (with_reducible repeat (first | apply Kd.N_alloc | apply Kd.N_drewN | apply Kd.N_drew)); exact Kd.N_mono ae.1 (fun _ hk => ⟨hk.1.1, hk.1.2⟩)⟩, ⟨by (with_reducible repeat (first | apply Kd.R_alloc | apply Kd.R_drewN | apply Kd.R_drew)); exact Kd.R_mono aj.1 (fun _ hk => trivial)⟩, ⟨pbk aa.1⟩, ⟨pbg⟩⟩
 have H' := am H
 clear H
 try go_wp2
 go_roundg k3
 case measure => have := aT.1; have := aI.1; have := a7.1; omega
 case rel => exact ⟨(bB), (wrap64 (aw + 1)), prs, H', ⟨by have := aT.1; have := aI.1; have := a7.1; omega⟩, ⟨by (with_reducible repeat (first | apply Kd.N_alloc | apply Kd.N_drewN | apply Kd.N_drew)); exact Kd.N_mono ae.1 (fun _ hk => ⟨hk.2, hk.1.2⟩)⟩, ⟨by (with_reducible repeat (first | apply Kd.R_alloc | apply Kd.R_drewN | apply Kd.R_drew)); exact Kd.R_mono bu.1 (fun _ hk => trivial)⟩, ⟨pbk aa.1⟩, ⟨pbg⟩⟩

end Go.Proofs.Yteknagfpiadaiaa.P
