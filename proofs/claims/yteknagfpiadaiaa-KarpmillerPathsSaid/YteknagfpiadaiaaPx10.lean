-- LAID BY OUR PROGRAM OVER THE PRINT (xprint.py, part.py): Lean checks it.
import Derived.Test.YteknagfpiadaiaaPx0
import Derived.Test.YteknagfpiadaiaaPx5
namespace Go.Proofs.Yteknagfpiadaiaa.P
open Go.RowKit Go.Proofs.YteknagfpiadaiaaW.PrintWords Go.Proofs.YteknagfpiadaiaaW.PrintLast Go.Proofs.YteknagfpiadaiaaW.PrintMore
attribute [local go_sem] max2_int min2_int max_two min_two max_three min_three max_four min_four   -- for this text's walks alone
set_option linter.unusedVariables false
set_option linter.unusedSimpArgs false

/-! ### r05_more: function 60 -/
def r05_more.f (a0 : Int) (a1 : Int) : Option (Bool) := if a0 = (-1) then (some (a1 != (-1))) else (if a1 = (-1) then (some false) else (some (decide (a0 > a1))))
set_option maxHeartbeats 8000000 in
set_option maxRecDepth 100000 in
theorem r05_more.calls (a0 : Int) (a1 : Int) (r : Bool) (w : World) (h : r05_more.f a0 a1 = some r) :
  Calls Try.prog 60 #[.int .i64 a0, .int .i64 a1] w fun e w' => e = .returned (.bool r) ∧ Drawn0 w w' := by
 have H := h
 unfold r05_more.f at H
 clear h
 replace H := ife H
 rcases H with ⟨aa, ab, H⟩ | ⟨aa, ab, H⟩
 ·obtain rfl := Option.some.inj H
  go_enter Try.func60, Try.ntmps60
  go_wp2
  go_ret
  exact ⟨prs, pdr⟩
 replace H := ife H
 rcases H with ⟨ac, ae, H⟩ | ⟨ac, ae, H⟩
 rotate_left
 ·obtain rfl := Option.some.inj H
  go_enter Try.func60, Try.ntmps60
  go_wp2
  go_ret
  exact ⟨prs, pdr⟩
 obtain rfl := Option.some.inj H
 go_enter Try.func60, Try.ntmps60
 go_wp2
 go_ret
 exact ⟨prs, pdr⟩

/-! ### r05_Leq: function 34 -/
mutual
def r05_Leq.j0 : Nat → List Int → List Int → Bool → Option (Bool)
 | 0, _, _, _ => none
 | k + 1, x0, x1, aL => if aL = true then (some false) else (r05_Leq.l0 k x0 x1 0)
def r05_Leq.l0 : Nat → List Int → List Int → Int → Option (Bool)
 | 0, _, _, _ => none
 | k + 1, x0, x1, x5 => if x5 < (x0.length : Int) then (if 0 ≤ x5 then (if x5 < (x1.length : Int) then ((r05_more.f (rd x0 x5) (rd x1 x5)).bind fun aj => (if aj = true then (some false) else (r05_Leq.l0 k x0 x1 (wrap64 (x5 + 1))))) else (none)) else (none)) else (some true)
end
def r05_Leq.f (k : Nat) (l0 : List Int) (l1 : List Int) : Option (Bool) := (r05_Valid.f k l0 (l1.length : Int)).bind fun ai => (if ai = true then ((r05_Valid.f k l1 (l1.length : Int)).bind fun ac => (r05_Leq.j0 k l0 l1 (!ac))) else (r05_Leq.j0 k l0 l1 true))
theorem r05_Leq.mono_l : ∀ k, M3 r05_Leq.j0 k ∧ M3 r05_Leq.l0 k
 | 0 => ⟨fun _ _ _ r h => by simp [r05_Leq.j0] at h, fun _ _ _ r h => by simp [r05_Leq.l0] at h⟩
 | k + 1 => by
  obtain ⟨av, aw⟩ := r05_Leq.mono_l k
  refine ⟨?_, ?_⟩ <;> dsimp only [M3] <;> intros <;> (first | unfold r05_Leq.j0 | unfold r05_Leq.l0) <;> repeat' first | (with_reducible first | apply av | apply aw | apply r05_Valid.mono | apply lr | apply ln | apply li | refine lb ?_ fun _ => ?_)
theorem r05_Leq.mono : ∀ a0 a1 k, LeO (r05_Leq.f k a0 a1) (r05_Leq.f (k + 1) a0 a1) := by
 intro a0 a1 k
 obtain ⟨av, aw⟩ := r05_Leq.mono_l k
 unfold r05_Leq.f
 repeat' first | (with_reducible first | apply av | apply aw | apply r05_Valid.mono | apply lr | apply ln | apply li | refine lb ?_ fun _ => ?_)
set_option maxHeartbeats 8000000 in
set_option maxRecDepth 100000 in
theorem r05_Leq.calls (k : Nat) (A0 : Option Addr) (c0 : Nat) (l0 : List Int) (A1 : Option Addr) (c1 : Nat) (l1 : List Int) (r : Bool) (w : World) (aG : Kd.C (Kd.int .i64) w A0 l0.length l0) (hc0 : l0.length ≤ c0) (aH : Kd.C (Kd.int .i64) w A1 l1.length l1) (aF : l1.length ≤ c1) (h : r05_Leq.f k l0 l1 = some r) :
  Calls Try.prog 34 #[.slice A0 l0.length c0, .slice A1 l1.length c1] w fun e w' => e = .returned (.bool r) ∧ Drawn0 w w' := by
 have ak := am aG
 have ap := am hc0
 clear aG hc0
 have aq := am aH
 have aB := am aF
 clear aH aF
 have H := h
 unfold r05_Leq.f at H
 clear h
 have ar := am H
 clear H
 go_enter Try.func34, Try.ntmps34
 go_upto_region 1 with (fail)
 repeat (go_quiet (fail); go_upto_region 1 with (fail))
 go_cut [17] (fun aK wc => ∃ (kq : Nat) (ab : Bool), aK = .bool ab ∧ Aside0 (r05_Leq.j0 kq l0 l1 ab = some r) ∧ Aside0 (kq ≤ k) ∧ Drawn0 w wc)
 case first =>
  have H := ar.1
  clear ar
  replace H := bnd H
  obtain ⟨ai, A4, H⟩ := H
  (try dsimp only at H)
  cases ai
  ·rw [if_neg Bool.false_ne_true] at H
   have H' := am H
   clear H
   iterate 4 (try go_wp2_with (first | (go_at_call 59; (with_reducible refine (r05_Valid.calls k _ _ l0 (l1.length : Int) false _ ?side1 ?side2 A4.1).mono ?_); (case side1 => exact csd ak.1); (case side2 => exact ap.1); rintro e w' ⟨rfl, ⟨nd, rfl⟩⟩; (try first | exact ⟨rfl, _, World.drewN_drewN _ _ _⟩ | exact ⟨rfl, _, Eq.trans (World.drewN_drewN _ _ _) (congrArg (World.drewN _) (Nat.add_assoc _ _ _))⟩))); try go_quiet (first | (go_at_call 59; (with_reducible refine (r05_Valid.calls k _ _ l0 (l1.length : Int) false _ ?side1 ?side2 A4.1).mono ?_); (case side1 => exact csd ak.1); (case side2 => exact ap.1); rintro e w' ⟨rfl, ⟨nd, rfl⟩⟩; (try first | exact ⟨rfl, _, World.drewN_drewN _ _ _⟩ | exact ⟨rfl, _, Eq.trans (World.drewN_drewN _ _ _) (congrArg (World.drewN _) (Nat.add_assoc _ _ _))⟩))))
   go_meet
   case rel => exact ⟨_, (true), prs, H', ⟨by first | omega | exact Nat.le_refl _⟩, pdr⟩
  rw [if_pos rfl] at H
  replace H := bnd H
  obtain ⟨ac, A6, H⟩ := H
  (try dsimp only at H)
  have H' := am H
  clear H
  iterate 4 (try go_wp2_with (first | (go_at_call 59; (with_reducible refine (r05_Valid.calls k _ _ l0 (l1.length : Int) true _ ?side1 ?side2 A4.1).mono ?_); (case side1 => exact csd ak.1); (case side2 => exact ap.1); rintro e w' ⟨rfl, ⟨nd, rfl⟩⟩; (try first | exact ⟨rfl, _, World.drewN_drewN _ _ _⟩ | exact ⟨rfl, _, Eq.trans (World.drewN_drewN _ _ _) (congrArg (World.drewN _) (Nat.add_assoc _ _ _))⟩)) | (go_at_call 59; (with_reducible refine (r05_Valid.calls k _ _ l1 (l1.length : Int) ac _ ?side1 ?side2 A6.1).mono ?_); (case side1 => exact csd aq.1); (case side2 => exact aB.1); rintro e w' ⟨rfl, ⟨nd, rfl⟩⟩; (try first | exact ⟨rfl, _, World.drewN_drewN _ _ _⟩ | exact ⟨rfl, _, Eq.trans (World.drewN_drewN _ _ _) (congrArg (World.drewN _) (Nat.add_assoc _ _ _))⟩))); try go_quiet (first | (go_at_call 59; (with_reducible refine (r05_Valid.calls k _ _ l0 (l1.length : Int) true _ ?side1 ?side2 A4.1).mono ?_); (case side1 => exact csd ak.1); (case side2 => exact ap.1); rintro e w' ⟨rfl, ⟨nd, rfl⟩⟩; (try first | exact ⟨rfl, _, World.drewN_drewN _ _ _⟩ | exact ⟨rfl, _, Eq.trans (World.drewN_drewN _ _ _) (congrArg (World.drewN _) (Nat.add_assoc _ _ _))⟩)) | (go_at_call 59; (with_reducible refine (r05_Valid.calls k _ _ l1 (l1.length : Int) ac _ ?side1 ?side2 A6.1).mono ?_); (case side1 => exact csd aq.1); (case side2 => exact aB.1); rintro e w' ⟨rfl, ⟨nd, rfl⟩⟩; (try first | exact ⟨rfl, _, World.drewN_drewN _ _ _⟩ | exact ⟨rfl, _, Eq.trans (World.drewN_drewN _ _ _) (congrArg (World.drewN _) (Nat.add_assoc _ _ _))⟩))))
  go_meet
  case rel => exact ⟨_, (!ac), prs, H', ⟨by first | omega | exact Nat.le_refl _⟩, pdr⟩
 clear ar
 try clear c1 c5
 obtain ⟨kq, ab, rfl, HA, aC, ⟨aM, rfl⟩⟩ := hcut
 obtain _ | aI := kq
 ·exact absurd HA.1 (by simp [r05_Leq.j0])
 have H := HA.1
 clear HA
 simp only [r05_Leq.j0] at H
 cases ab
 rotate_left
 ·rw [if_pos rfl] at H
  obtain rfl := Option.some.inj H
  go_wp2
  repeat (go_quiet (fail); try go_wp2)
  go_ret
  exact ⟨prs, pdr⟩
 rw [if_neg Bool.false_ne_true] at H
 have H' := am H
 clear H
 go_wp2
 repeat (go_quiet (fail); try go_wp2)
 go_loopg [5] aI (fun kq v5 w' => ∃ (aa : Int), v5 = .int .i64 aa ∧ Aside0 (r05_Leq.l0 kq l0 l1 aa = some r) ∧ Aside0 (kq ≤ aI) ∧ Drawn0 w w')
 case atStart => exact ⟨(0), prs, H', ⟨Nat.le_refl _⟩, pdr⟩
 clear H'
 try clear c1 c5
 obtain ⟨aa, rfl, HA, aD, ⟨m2, rfl⟩⟩ := hrel
 obtain _ | k2 := gk
 ·exact absurd HA.1 (by simp [r05_Leq.l0])
 have H := HA.1
 clear HA
 simp only [r05_Leq.l0] at H
 replace H := ifl H
 rcases H with ⟨au, H⟩ | ⟨au, H⟩
 rotate_left
 ·obtain rfl := Option.some.inj H
  go_wp2
  repeat (go_quiet (fail); try go_wp2)
  go_ret
  exact ⟨prs, pdr⟩
 replace H := ifp H
 obtain ⟨c9, H⟩ := H
 have aJ := decide_eq_true c9
 clear c9
 replace H := ifp H
 obtain ⟨c10, H⟩ := H
 have aE := decide_eq_true c10
 clear c10
 replace H := bnd H
 obtain ⟨aj, A11, H⟩ := H
 (try dsimp only at H)
 cases aj
 rotate_left
 ·rw [if_pos rfl] at H
  obtain rfl := Option.some.inj H
  obtain ⟨ax, az, al, ag, ae⟩ := dint ak.1 aa
  cases ag
  obtain ⟨ay, aA, ao, ah, af⟩ := dint aq.1 aa
  cases ah
  iterate 4 (try go_wp2_with (first | (go_at_call 60; (with_reducible refine (r05_more.calls (rd l0 aa) (rd l1 aa) true _ A11.1).mono ?_); rintro e w' ⟨rfl, ⟨nd, rfl⟩⟩; (try first | exact ⟨rfl, _, World.drewN_drewN _ _ _⟩ | exact ⟨rfl, _, Eq.trans (World.drewN_drewN _ _ _) (congrArg (World.drewN _) (Nat.add_assoc _ _ _))⟩))); try go_quiet (first | (go_at_call 60; (with_reducible refine (r05_more.calls (rd l0 aa) (rd l1 aa) true _ A11.1).mono ?_); rintro e w' ⟨rfl, ⟨nd, rfl⟩⟩; (try first | exact ⟨rfl, _, World.drewN_drewN _ _ _⟩ | exact ⟨rfl, _, Eq.trans (World.drewN_drewN _ _ _) (congrArg (World.drewN _) (Nat.add_assoc _ _ _))⟩))))
  go_ret
  exact ⟨prs, pdr⟩
 rw [if_neg Bool.false_ne_true] at H
 have H' := am H
 clear H
 obtain ⟨ax, az, al, ag, ae⟩ := dint ak.1 aa
 cases ag
 obtain ⟨ay, aA, ao, ah, af⟩ := dint aq.1 aa
 cases ah
 iterate 4 (try go_wp2_with (first | (go_at_call 60; (with_reducible refine (r05_more.calls (rd l0 aa) (rd l1 aa) false _ A11.1).mono ?_); rintro e w' ⟨rfl, ⟨nd, rfl⟩⟩; (try first | exact ⟨rfl, _, World.drewN_drewN _ _ _⟩ | exact ⟨rfl, _, Eq.trans (World.drewN_drewN _ _ _) (congrArg (World.drewN _) (Nat.add_assoc _ _ _))⟩))); try go_quiet (first | (go_at_call 60; (with_reducible refine (r05_more.calls (rd l0 aa) (rd l1 aa) false _ A11.1).mono ?_); rintro e w' ⟨rfl, ⟨nd, rfl⟩⟩; (try first | exact ⟨rfl, _, World.drewN_drewN _ _ _⟩ | exact ⟨rfl, _, Eq.trans (World.drewN_drewN _ _ _) (congrArg (World.drewN _) (Nat.add_assoc _ _ _))⟩))))
 go_roundg k2
 case measure => have := aC.1; have := aD.1; omega
 case rel => exact ⟨(wrap64 (aa + 1)), prs, H', ⟨by have := aC.1; have := aD.1; omega⟩, pdr⟩

end Go.Proofs.Yteknagfpiadaiaa.P
