-- LAID BY OUR PROGRAM OVER THE PRINT (xprint.py): Lean checks it.
import Derived.Test.YtboonibkibhmhaaPx0
import Derived.Test.YtboonibkibhmhaaPx4
import Derived.Test.YtboonibkibhmhaaPx7
import Derived.Test.YtboonibkibhmhaaPx8
import Derived.Test.YtboonibkibhmhaaPx11
import Derived.Test.YtboonibkibhmhaaPx12
import Derived.Test.YtboonibkibhmhaaPx14
import Derived.Test.YtboonibkibhmhaaPx28
namespace Go.Proofs.Ytboonibkibhmhaa.P
open Go.RowKit Go.Proofs.YtboonibkibhmhaaW.PrintWords Go.Proofs.YtboonibkibhmhaaW.PrintLast Go.Proofs.YtboonibkibhmhaaW.PrintMore
attribute [local go_sem] max2_int min2_int max_two min_two max_three min_three max_four min_four   -- for this text's walks alone
set_option linter.unusedVariables false
set_option linter.unusedSimpArgs false

/-! ### petrinetlaw09_NetOpposites: function 8 -/
mutual
def petrinetlaw09_NetOpposites.j0 : Nat → Bool → ByteArray → List (S50) → List (S53) → Option (Bool)
  | 0, _, _, _, _ => none
  | k + 1, x26, x528000, x528001, x528002 => if x26 = true then (some true) else ((net_Incidence.f k x528000 x528001 x528002).bind fun t530 => (if (x528002.length : Int) > 0 then (petrinetlaw09_NetOpposites.j1 k t530 ((t530.length : Int) != (x528001.length : Int)) x528000 x528001 x528002) else (petrinetlaw09_NetOpposites.j1 k t530 false x528000 x528001 x528002)))
def petrinetlaw09_NetOpposites.j1 : Nat → List (List Int) → Bool → ByteArray → List (S50) → List (S53) → Option (Bool)
  | 0, _, _, _, _, _ => none
  | k + 1, x5, x40, x528000, x528001, x528002 => if x40 = true then (none) else (petrinetlaw09_NetOpposites.l0 k x5 0 x528000 x528001 x528002)
def petrinetlaw09_NetOpposites.l0 : Nat → List (List Int) → Int → ByteArray → List (S50) → List (S53) → Option (Bool)
  | 0, _, _, _, _, _ => none
  | k + 1, x5, x6, x528000, x528001, x528002 => if x6 < (x528002.length : Int) then ((net_Inputs.f k x528000 x528001 x528002 x6).bind fun t533 => ((net_Outputs.f k x528000 x528001 x528002 x6).bind fun t536 => (petrinetlaw09_NetOpposites.l1 k x5 x6 t533 t536 0 x528000 x528001 x528002))) else (some true)
def petrinetlaw09_NetOpposites.l1 : Nat → List (List Int) → Int → List Int → List Int → Int → ByteArray → List (S50) → List (S53) → Option (Bool)
  | 0, _, _, _, _, _, _, _, _ => none
  | k + 1, x5, x6, x7, x8, x9, x528000, x528001, x528002 => if x9 < (x528001.length : Int) then ((net_Pre.f k x528000 x528001 x528002 x6 x9).bind fun t539 => ((net_Post.f k x528000 x528001 x528002 x6 x9).bind fun t540 => ((petrinetlaw09_contains.f k x7 x9).bind fun t541 => (if (t541 != (decide (t539 > 0))) = true then (none) else ((net_Consumers.f k x528000 x528001 x528002 x9).bind fun t542 => ((petrinetlaw09_contains.f k t542 x6).bind fun t545 => (petrinetlaw09_NetOpposites.j4 k x5 x6 x7 x8 x9 t539 t540 (t545 != (decide (t539 > 0))) x528000 x528001 x528002))))))) else (petrinetlaw09_NetOpposites.l0 k x5 (wrap64 (x6 + 1)) x528000 x528001 x528002)
def petrinetlaw09_NetOpposites.j4 : Nat → List (List Int) → Int → List Int → List Int → Int → Int → Int → Bool → ByteArray → List (S50) → List (S53) → Option (Bool)
  | 0, _, _, _, _, _, _, _, _, _, _, _ => none
  | k + 1, x5, x6, x7, x8, x9, x10, x11, x84, x528000, x528001, x528002 => if x84 = true then (none) else ((petrinetlaw09_contains.f k x8 x9).bind fun t546 => (if (t546 != (decide (x11 > 0))) = true then (none) else ((net_Producers.f k x528000 x528001 x528002 x9).bind fun t547 => ((petrinetlaw09_contains.f k t547 x6).bind fun t550 => (petrinetlaw09_NetOpposites.j5 k x5 x6 x7 x8 x9 x10 x11 (t550 != (decide (x11 > 0))) x528000 x528001 x528002)))))
def petrinetlaw09_NetOpposites.j5 : Nat → List (List Int) → Int → List Int → List Int → Int → Int → Int → Bool → ByteArray → List (S50) → List (S53) → Option (Bool)
  | 0, _, _, _, _, _, _, _, _, _, _, _ => none
  | k + 1, x5, x6, x7, x8, x9, x10, x11, x100, x528000, x528001, x528002 => if x100 = true then (none) else (if 0 ≤ x9 then (if x9 < (x5.length : Int) then (if ((rd_L11 x5 x9).length : Int) = (x528002.length : Int) then (if 0 ≤ x6 then (if x6 < ((rd_L11 x5 x9).length : Int) then (if (rd (rd_L11 x5 x9) x6) = (wrap64 (x11 - x10)) then (petrinetlaw09_NetOpposites.l1 k x5 x6 x7 x8 (wrap64 (x9 + 1)) x528000 x528001 x528002) else (none)) else (none)) else (none)) else (none)) else (none)) else (none))
end
def petrinetlaw09_NetOpposites.f (k : Nat) (a0_0 : ByteArray) (l0_1 : List (S50)) (l0_2 : List (S53)) : Option (Bool) := (petrinetlaw09_lives.f k).bind fun t518 => (if t518 = true then ((petrinetref09_Small.f k a0_0 l0_1 l0_2).bind fun bt519 => (if bt519.2.2.2 = true then ((net_Check.f k bt519.1 bt519.2.1 bt519.2.2.1).bind fun bt528 => (petrinetlaw09_NetOpposites.j0 k (bt528.1 != 0) bt519.1 bt519.2.1 bt519.2.2.1)) else (petrinetlaw09_NetOpposites.j0 k true bt519.1 bt519.2.1 bt519.2.2.1))) else (none))
theorem petrinetlaw09_NetOpposites.mono_l : ∀ k, (∀ y0 y1 y2 y3, LeO (petrinetlaw09_NetOpposites.j0 k y0 y1 y2 y3) (petrinetlaw09_NetOpposites.j0 (k + 1) y0 y1 y2 y3)) ∧ (∀ y0 y1 y2 y3 y4, LeO (petrinetlaw09_NetOpposites.j1 k y0 y1 y2 y3 y4) (petrinetlaw09_NetOpposites.j1 (k + 1) y0 y1 y2 y3 y4)) ∧ (∀ y0 y1 y2 y3 y4, LeO (petrinetlaw09_NetOpposites.l0 k y0 y1 y2 y3 y4) (petrinetlaw09_NetOpposites.l0 (k + 1) y0 y1 y2 y3 y4)) ∧ (∀ y0 y1 y2 y3 y4 y5 y6 y7, LeO (petrinetlaw09_NetOpposites.l1 k y0 y1 y2 y3 y4 y5 y6 y7) (petrinetlaw09_NetOpposites.l1 (k + 1) y0 y1 y2 y3 y4 y5 y6 y7)) ∧ (∀ y0 y1 y2 y3 y4 y5 y6 y7 y8 y9 y10, LeO (petrinetlaw09_NetOpposites.j4 k y0 y1 y2 y3 y4 y5 y6 y7 y8 y9 y10) (petrinetlaw09_NetOpposites.j4 (k + 1) y0 y1 y2 y3 y4 y5 y6 y7 y8 y9 y10)) ∧ (∀ y0 y1 y2 y3 y4 y5 y6 y7 y8 y9 y10, LeO (petrinetlaw09_NetOpposites.j5 k y0 y1 y2 y3 y4 y5 y6 y7 y8 y9 y10) (petrinetlaw09_NetOpposites.j5 (k + 1) y0 y1 y2 y3 y4 y5 y6 y7 y8 y9 y10))
  | 0 => ⟨fun _ _ _ _ r h => by simp [petrinetlaw09_NetOpposites.j0] at h, fun _ _ _ _ _ r h => by simp [petrinetlaw09_NetOpposites.j1] at h, fun _ _ _ _ _ r h => by simp [petrinetlaw09_NetOpposites.l0] at h, fun _ _ _ _ _ _ _ _ r h => by simp [petrinetlaw09_NetOpposites.l1] at h, fun _ _ _ _ _ _ _ _ _ _ _ r h => by simp [petrinetlaw09_NetOpposites.j4] at h, fun _ _ _ _ _ _ _ _ _ _ _ r h => by simp [petrinetlaw09_NetOpposites.j5] at h⟩
  | k + 1 => by
    obtain ⟨ih0, ih1, ih2, ih3, ih4, ih5⟩ := petrinetlaw09_NetOpposites.mono_l k
    refine ⟨?_, ?_, ?_, ?_, ?_, ?_⟩
    · intro y0 y1 y2 y3
      unfold petrinetlaw09_NetOpposites.j0
      repeat' first | (with_reducible first | exact ih0 _ _ _ _ | exact ih1 _ _ _ _ _ | exact ih2 _ _ _ _ _ | exact ih3 _ _ _ _ _ _ _ _ | exact ih4 _ _ _ _ _ _ _ _ _ _ _ | exact ih5 _ _ _ _ _ _ _ _ _ _ _ | exact net_Check.mono _ _ _ _ | exact net_Consumers.mono _ _ _ _ _ | exact net_Incidence.mono _ _ _ _ | exact net_Inputs.mono _ _ _ _ _ | exact net_Outputs.mono _ _ _ _ _ | exact net_Post.mono _ _ _ _ _ _ | exact net_Pre.mono _ _ _ _ _ _ | exact net_Producers.mono _ _ _ _ _ | exact petrinetlaw09_contains.mono _ _ _ | exact petrinetlaw09_lives.mono _ | exact petrinetref09_Small.mono _ _ _ _ | exact LeO.refl _ | exact LeO.none _ | refine LeO.ite ?_ ?_ | refine LeO.bind ?_ (fun _ => ?_)) | exact ih0 _ _ _ _ | exact ih1 _ _ _ _ _ | exact ih2 _ _ _ _ _ | exact ih3 _ _ _ _ _ _ _ _ | exact ih4 _ _ _ _ _ _ _ _ _ _ _ | exact ih5 _ _ _ _ _ _ _ _ _ _ _ | exact net_Check.mono _ _ _ _ | exact net_Consumers.mono _ _ _ _ _ | exact net_Incidence.mono _ _ _ _ | exact net_Inputs.mono _ _ _ _ _ | exact net_Outputs.mono _ _ _ _ _ | exact net_Post.mono _ _ _ _ _ _ | exact net_Pre.mono _ _ _ _ _ _ | exact net_Producers.mono _ _ _ _ _ | exact petrinetlaw09_contains.mono _ _ _ | exact petrinetlaw09_lives.mono _ | exact petrinetref09_Small.mono _ _ _ _ | exact LeO.none _ | refine LeO.ite ?_ ?_ | refine LeO.bind ?_ (fun _ => ?_)
    · intro y0 y1 y2 y3 y4
      unfold petrinetlaw09_NetOpposites.j1
      repeat' first | (with_reducible first | exact ih0 _ _ _ _ | exact ih1 _ _ _ _ _ | exact ih2 _ _ _ _ _ | exact ih3 _ _ _ _ _ _ _ _ | exact ih4 _ _ _ _ _ _ _ _ _ _ _ | exact ih5 _ _ _ _ _ _ _ _ _ _ _ | exact net_Check.mono _ _ _ _ | exact net_Consumers.mono _ _ _ _ _ | exact net_Incidence.mono _ _ _ _ | exact net_Inputs.mono _ _ _ _ _ | exact net_Outputs.mono _ _ _ _ _ | exact net_Post.mono _ _ _ _ _ _ | exact net_Pre.mono _ _ _ _ _ _ | exact net_Producers.mono _ _ _ _ _ | exact petrinetlaw09_contains.mono _ _ _ | exact petrinetlaw09_lives.mono _ | exact petrinetref09_Small.mono _ _ _ _ | exact LeO.refl _ | exact LeO.none _ | refine LeO.ite ?_ ?_ | refine LeO.bind ?_ (fun _ => ?_)) | exact ih0 _ _ _ _ | exact ih1 _ _ _ _ _ | exact ih2 _ _ _ _ _ | exact ih3 _ _ _ _ _ _ _ _ | exact ih4 _ _ _ _ _ _ _ _ _ _ _ | exact ih5 _ _ _ _ _ _ _ _ _ _ _ | exact net_Check.mono _ _ _ _ | exact net_Consumers.mono _ _ _ _ _ | exact net_Incidence.mono _ _ _ _ | exact net_Inputs.mono _ _ _ _ _ | exact net_Outputs.mono _ _ _ _ _ | exact net_Post.mono _ _ _ _ _ _ | exact net_Pre.mono _ _ _ _ _ _ | exact net_Producers.mono _ _ _ _ _ | exact petrinetlaw09_contains.mono _ _ _ | exact petrinetlaw09_lives.mono _ | exact petrinetref09_Small.mono _ _ _ _ | exact LeO.none _ | refine LeO.ite ?_ ?_ | refine LeO.bind ?_ (fun _ => ?_)
    · intro y0 y1 y2 y3 y4
      unfold petrinetlaw09_NetOpposites.l0
      repeat' first | (with_reducible first | exact ih0 _ _ _ _ | exact ih1 _ _ _ _ _ | exact ih2 _ _ _ _ _ | exact ih3 _ _ _ _ _ _ _ _ | exact ih4 _ _ _ _ _ _ _ _ _ _ _ | exact ih5 _ _ _ _ _ _ _ _ _ _ _ | exact net_Check.mono _ _ _ _ | exact net_Consumers.mono _ _ _ _ _ | exact net_Incidence.mono _ _ _ _ | exact net_Inputs.mono _ _ _ _ _ | exact net_Outputs.mono _ _ _ _ _ | exact net_Post.mono _ _ _ _ _ _ | exact net_Pre.mono _ _ _ _ _ _ | exact net_Producers.mono _ _ _ _ _ | exact petrinetlaw09_contains.mono _ _ _ | exact petrinetlaw09_lives.mono _ | exact petrinetref09_Small.mono _ _ _ _ | exact LeO.refl _ | exact LeO.none _ | refine LeO.ite ?_ ?_ | refine LeO.bind ?_ (fun _ => ?_)) | exact ih0 _ _ _ _ | exact ih1 _ _ _ _ _ | exact ih2 _ _ _ _ _ | exact ih3 _ _ _ _ _ _ _ _ | exact ih4 _ _ _ _ _ _ _ _ _ _ _ | exact ih5 _ _ _ _ _ _ _ _ _ _ _ | exact net_Check.mono _ _ _ _ | exact net_Consumers.mono _ _ _ _ _ | exact net_Incidence.mono _ _ _ _ | exact net_Inputs.mono _ _ _ _ _ | exact net_Outputs.mono _ _ _ _ _ | exact net_Post.mono _ _ _ _ _ _ | exact net_Pre.mono _ _ _ _ _ _ | exact net_Producers.mono _ _ _ _ _ | exact petrinetlaw09_contains.mono _ _ _ | exact petrinetlaw09_lives.mono _ | exact petrinetref09_Small.mono _ _ _ _ | exact LeO.none _ | refine LeO.ite ?_ ?_ | refine LeO.bind ?_ (fun _ => ?_)
    · intro y0 y1 y2 y3 y4 y5 y6 y7
      unfold petrinetlaw09_NetOpposites.l1
      repeat' first | (with_reducible first | exact ih0 _ _ _ _ | exact ih1 _ _ _ _ _ | exact ih2 _ _ _ _ _ | exact ih3 _ _ _ _ _ _ _ _ | exact ih4 _ _ _ _ _ _ _ _ _ _ _ | exact ih5 _ _ _ _ _ _ _ _ _ _ _ | exact net_Check.mono _ _ _ _ | exact net_Consumers.mono _ _ _ _ _ | exact net_Incidence.mono _ _ _ _ | exact net_Inputs.mono _ _ _ _ _ | exact net_Outputs.mono _ _ _ _ _ | exact net_Post.mono _ _ _ _ _ _ | exact net_Pre.mono _ _ _ _ _ _ | exact net_Producers.mono _ _ _ _ _ | exact petrinetlaw09_contains.mono _ _ _ | exact petrinetlaw09_lives.mono _ | exact petrinetref09_Small.mono _ _ _ _ | exact LeO.refl _ | exact LeO.none _ | refine LeO.ite ?_ ?_ | refine LeO.bind ?_ (fun _ => ?_)) | exact ih0 _ _ _ _ | exact ih1 _ _ _ _ _ | exact ih2 _ _ _ _ _ | exact ih3 _ _ _ _ _ _ _ _ | exact ih4 _ _ _ _ _ _ _ _ _ _ _ | exact ih5 _ _ _ _ _ _ _ _ _ _ _ | exact net_Check.mono _ _ _ _ | exact net_Consumers.mono _ _ _ _ _ | exact net_Incidence.mono _ _ _ _ | exact net_Inputs.mono _ _ _ _ _ | exact net_Outputs.mono _ _ _ _ _ | exact net_Post.mono _ _ _ _ _ _ | exact net_Pre.mono _ _ _ _ _ _ | exact net_Producers.mono _ _ _ _ _ | exact petrinetlaw09_contains.mono _ _ _ | exact petrinetlaw09_lives.mono _ | exact petrinetref09_Small.mono _ _ _ _ | exact LeO.none _ | refine LeO.ite ?_ ?_ | refine LeO.bind ?_ (fun _ => ?_)
    · intro y0 y1 y2 y3 y4 y5 y6 y7 y8 y9 y10
      unfold petrinetlaw09_NetOpposites.j4
      repeat' first | (with_reducible first | exact ih0 _ _ _ _ | exact ih1 _ _ _ _ _ | exact ih2 _ _ _ _ _ | exact ih3 _ _ _ _ _ _ _ _ | exact ih4 _ _ _ _ _ _ _ _ _ _ _ | exact ih5 _ _ _ _ _ _ _ _ _ _ _ | exact net_Check.mono _ _ _ _ | exact net_Consumers.mono _ _ _ _ _ | exact net_Incidence.mono _ _ _ _ | exact net_Inputs.mono _ _ _ _ _ | exact net_Outputs.mono _ _ _ _ _ | exact net_Post.mono _ _ _ _ _ _ | exact net_Pre.mono _ _ _ _ _ _ | exact net_Producers.mono _ _ _ _ _ | exact petrinetlaw09_contains.mono _ _ _ | exact petrinetlaw09_lives.mono _ | exact petrinetref09_Small.mono _ _ _ _ | exact LeO.refl _ | exact LeO.none _ | refine LeO.ite ?_ ?_ | refine LeO.bind ?_ (fun _ => ?_)) | exact ih0 _ _ _ _ | exact ih1 _ _ _ _ _ | exact ih2 _ _ _ _ _ | exact ih3 _ _ _ _ _ _ _ _ | exact ih4 _ _ _ _ _ _ _ _ _ _ _ | exact ih5 _ _ _ _ _ _ _ _ _ _ _ | exact net_Check.mono _ _ _ _ | exact net_Consumers.mono _ _ _ _ _ | exact net_Incidence.mono _ _ _ _ | exact net_Inputs.mono _ _ _ _ _ | exact net_Outputs.mono _ _ _ _ _ | exact net_Post.mono _ _ _ _ _ _ | exact net_Pre.mono _ _ _ _ _ _ | exact net_Producers.mono _ _ _ _ _ | exact petrinetlaw09_contains.mono _ _ _ | exact petrinetlaw09_lives.mono _ | exact petrinetref09_Small.mono _ _ _ _ | exact LeO.none _ | refine LeO.ite ?_ ?_ | refine LeO.bind ?_ (fun _ => ?_)
    · intro y0 y1 y2 y3 y4 y5 y6 y7 y8 y9 y10
      unfold petrinetlaw09_NetOpposites.j5
      repeat' first | (with_reducible first | exact ih0 _ _ _ _ | exact ih1 _ _ _ _ _ | exact ih2 _ _ _ _ _ | exact ih3 _ _ _ _ _ _ _ _ | exact ih4 _ _ _ _ _ _ _ _ _ _ _ | exact ih5 _ _ _ _ _ _ _ _ _ _ _ | exact net_Check.mono _ _ _ _ | exact net_Consumers.mono _ _ _ _ _ | exact net_Incidence.mono _ _ _ _ | exact net_Inputs.mono _ _ _ _ _ | exact net_Outputs.mono _ _ _ _ _ | exact net_Post.mono _ _ _ _ _ _ | exact net_Pre.mono _ _ _ _ _ _ | exact net_Producers.mono _ _ _ _ _ | exact petrinetlaw09_contains.mono _ _ _ | exact petrinetlaw09_lives.mono _ | exact petrinetref09_Small.mono _ _ _ _ | exact LeO.refl _ | exact LeO.none _ | refine LeO.ite ?_ ?_ | refine LeO.bind ?_ (fun _ => ?_)) | exact ih0 _ _ _ _ | exact ih1 _ _ _ _ _ | exact ih2 _ _ _ _ _ | exact ih3 _ _ _ _ _ _ _ _ | exact ih4 _ _ _ _ _ _ _ _ _ _ _ | exact ih5 _ _ _ _ _ _ _ _ _ _ _ | exact net_Check.mono _ _ _ _ | exact net_Consumers.mono _ _ _ _ _ | exact net_Incidence.mono _ _ _ _ | exact net_Inputs.mono _ _ _ _ _ | exact net_Outputs.mono _ _ _ _ _ | exact net_Post.mono _ _ _ _ _ _ | exact net_Pre.mono _ _ _ _ _ _ | exact net_Producers.mono _ _ _ _ _ | exact petrinetlaw09_contains.mono _ _ _ | exact petrinetlaw09_lives.mono _ | exact petrinetref09_Small.mono _ _ _ _ | exact LeO.none _ | refine LeO.ite ?_ ?_ | refine LeO.bind ?_ (fun _ => ?_)
theorem petrinetlaw09_NetOpposites.mono : ∀ a0 a1 a2 k, LeO (petrinetlaw09_NetOpposites.f k a0 a1 a2) (petrinetlaw09_NetOpposites.f (k + 1) a0 a1 a2) := by
  intro a0 a1 a2 k
  obtain ⟨ih0, ih1, ih2, ih3, ih4, ih5⟩ := petrinetlaw09_NetOpposites.mono_l k
  unfold petrinetlaw09_NetOpposites.f
  repeat' first | (with_reducible first | exact ih0 _ _ _ _ | exact ih1 _ _ _ _ _ | exact ih2 _ _ _ _ _ | exact ih3 _ _ _ _ _ _ _ _ | exact ih4 _ _ _ _ _ _ _ _ _ _ _ | exact ih5 _ _ _ _ _ _ _ _ _ _ _ | exact net_Check.mono _ _ _ _ | exact net_Consumers.mono _ _ _ _ _ | exact net_Incidence.mono _ _ _ _ | exact net_Inputs.mono _ _ _ _ _ | exact net_Outputs.mono _ _ _ _ _ | exact net_Post.mono _ _ _ _ _ _ | exact net_Pre.mono _ _ _ _ _ _ | exact net_Producers.mono _ _ _ _ _ | exact petrinetlaw09_contains.mono _ _ _ | exact petrinetlaw09_lives.mono _ | exact petrinetref09_Small.mono _ _ _ _ | exact LeO.refl _ | exact LeO.none _ | refine LeO.ite ?_ ?_ | refine LeO.bind ?_ (fun _ => ?_)) | exact ih0 _ _ _ _ | exact ih1 _ _ _ _ _ | exact ih2 _ _ _ _ _ | exact ih3 _ _ _ _ _ _ _ _ | exact ih4 _ _ _ _ _ _ _ _ _ _ _ | exact ih5 _ _ _ _ _ _ _ _ _ _ _ | exact net_Check.mono _ _ _ _ | exact net_Consumers.mono _ _ _ _ _ | exact net_Incidence.mono _ _ _ _ | exact net_Inputs.mono _ _ _ _ _ | exact net_Outputs.mono _ _ _ _ _ | exact net_Post.mono _ _ _ _ _ _ | exact net_Pre.mono _ _ _ _ _ _ | exact net_Producers.mono _ _ _ _ _ | exact petrinetlaw09_contains.mono _ _ _ | exact petrinetlaw09_lives.mono _ | exact petrinetref09_Small.mono _ _ _ _ | exact LeO.none _ | refine LeO.ite ?_ ?_ | refine LeO.bind ?_ (fun _ => ?_)
def petrinetlaw09_NetOpposites.T12 : Bool × List (List Nat × List Nat) := (true, [([], []), ([], []), ([0, 1], [0, 1]), ([], []), ([], []), ([3, 4, 2], [3, 4]), ([2, 5, 0, 1, 2], [2]), ([5, 6, 0, 1, 2, 3, 4, 5, 6], [5])])
def petrinetlaw09_NetOpposites.B12 : List Nat := [0, 0, 3, 0, 0, 31, 63, 127]
theorem petrinetlaw09_NetOpposites.tab12 : rtab .any (opsOf Try.f8 12) = petrinetlaw09_NetOpposites.T12 := by kernel_rfl
theorem petrinetlaw09_NetOpposites.bits12 : waitsOk petrinetlaw09_NetOpposites.T12.2 petrinetlaw09_NetOpposites.B12 = true := by kernel_rfl
def petrinetlaw09_NetOpposites.T16 : Bool × List (List Nat × List Nat) := (true, [([], []), ([], []), ([], []), ([0, 1, 2], [0, 1, 2]), ([], []), ([], []), ([], []), ([4, 5, 6, 3], [4, 5, 6]), ([3, 7, 0, 1, 2, 3], [3]), ([7, 8, 0, 1, 2, 3, 4, 5, 6, 7, 8], [7])])
def petrinetlaw09_NetOpposites.B16 : List Nat := [0, 0, 0, 7, 0, 0, 0, 127, 255, 511]
theorem petrinetlaw09_NetOpposites.tab16 : rtab .any (opsOf Try.f8 16) = petrinetlaw09_NetOpposites.T16 := by kernel_rfl
theorem petrinetlaw09_NetOpposites.bits16 : waitsOk petrinetlaw09_NetOpposites.T16.2 petrinetlaw09_NetOpposites.B16 = true := by kernel_rfl
def petrinetlaw09_NetOpposites.T21 : Bool × List (List Nat × List Nat) := (true, [([], []), ([], []), ([0, 1], [0, 1]), ([2], [2]), ([3], [3]), ([], []), ([5], [5]), ([6], [6]), ([4, 7], [4, 7]), ([8], [8]), ([9], [9]), ([9], [9]), ([10, 11, 9], [9, 10, 11]), ([12, 9], [9, 12]), ([9], [9]), ([13, 14, 9], [9, 13, 14]), ([15, 9], [9, 15]), ([9], [9]), ([9], [9]), ([17, 18, 9], [9, 17, 18]), ([16, 19, 9], [9, 16, 19]), ([9, 20], [9, 20])])
def petrinetlaw09_NetOpposites.B21 : List Nat := [0, 0, 3, 7, 15, 0, 32, 96, 255, 511, 1023, 1023, 4095, 8191, 1023, 32767, 65535, 1023, 1023, 394239, 1048575, 2097151]
theorem petrinetlaw09_NetOpposites.tab21 : rtab .any (opsOf Try.f8 21) = petrinetlaw09_NetOpposites.T21 := by kernel_rfl
theorem petrinetlaw09_NetOpposites.bits21 : waitsOk petrinetlaw09_NetOpposites.T21.2 petrinetlaw09_NetOpposites.B21 = true := by kernel_rfl
set_option maxHeartbeats 8000000 in
set_option maxRecDepth 100000 in
theorem petrinetlaw09_NetOpposites.calls (k : Nat) (a0_0 : ByteArray) (A0_1 : Option Addr) (c0_1 : Nat) (l0_1 : List (S50)) (A0_2 : Option Addr) (c0_2 : Nat) (l0_2 : List (S53)) (r : Bool) (w : World) (hr0_1 : Kd.C k50 w A0_1 l0_1.length l0_1) (hc0_1 : l0_1.length ≤ c0_1) (hr0_2 : Kd.C k53 w A0_2 l0_2.length l0_2) (hc0_2 : l0_2.length ≤ c0_2) (h : petrinetlaw09_NetOpposites.f k a0_0 l0_1 l0_2 = some r) :
    Calls Try.prog 8 #[.agg #[.string a0_0, .slice A0_1 l0_1.length c0_1, .slice A0_2 l0_2.length c0_2]] w fun e w' => e = .returned (.bool r) ∧ Below w.heap.size w w' := by
  have hf31_0 : ∀ (x0 x1 : Value) (W : World), (Instr.field 31 (.agg #[x0, x1]) 0).run Try.prog W = .ok x0 W := fun x0 x1 W => by kernel_rfl
  have hu25 := Try.underlying25
  have HR0_1 := Aside0.mk hr0_1
  have HC0_1 := Aside0.mk hc0_1
  clear hr0_1 hc0_1
  have HR0_2 := Aside0.mk hr0_2
  have HC0_2 := Aside0.mk hc0_2
  clear hr0_2 hc0_2
  have HB := Aside0.mk (Below.refl w.heap.size w)
  have H : ((petrinetlaw09_lives.f k).bind fun t518 => (if t518 = true then ((petrinetref09_Small.f k a0_0 l0_1 l0_2).bind fun bt519 => (if bt519.2.2.2 = true then ((net_Check.f k bt519.1 bt519.2.1 bt519.2.2.1).bind fun bt528 => (petrinetlaw09_NetOpposites.j0 k (bt528.1 != 0) bt519.1 bt519.2.1 bt519.2.2.1)) else (petrinetlaw09_NetOpposites.j0 k true bt519.1 bt519.2.1 bt519.2.2.1))) else (none))) = some r := h
  clear h
  replace H := Option.bind_eq_some_iff.mp H
  obtain ⟨t518, A20, H⟩ := H
  replace H : (if t518 = true then ((petrinetref09_Small.f k a0_0 l0_1 l0_2).bind fun bt519 => (if bt519.2.2.2 = true then ((net_Check.f k bt519.1 bt519.2.1 bt519.2.2.1).bind fun bt528 => (petrinetlaw09_NetOpposites.j0 k (bt528.1 != 0) bt519.1 bt519.2.1 bt519.2.2.1)) else (petrinetlaw09_NetOpposites.j0 k true bt519.1 bt519.2.1 bt519.2.2.1))) else (none)) = some r := H
  have A2 := Aside0.mk A20
  clear A20
  by_cases c3 : t518 = true
  rotate_left
  · replace c3 := Bool.eq_false_iff.mpr c3
    subst c3
    have H1 : (none) = some r := by rw [if_neg (show ¬ (false = true) by decide)] at H; exact H
    clear H
    have H := H1
    clear H1
    exact absurd H (by simp)
  subst c3
  have H1 : ((petrinetref09_Small.f k a0_0 l0_1 l0_2).bind fun bt519 => (if bt519.2.2.2 = true then ((net_Check.f k bt519.1 bt519.2.1 bt519.2.2.1).bind fun bt528 => (petrinetlaw09_NetOpposites.j0 k (bt528.1 != 0) bt519.1 bt519.2.1 bt519.2.2.1)) else (petrinetlaw09_NetOpposites.j0 k true bt519.1 bt519.2.1 bt519.2.2.1))) = some r := by rw [if_pos rfl] at H; exact H
  clear H
  have H := H1
  clear H1
  replace H := Option.bind_eq_some_iff.mp H
  obtain ⟨⟨t519, t520, t523, t526⟩, A40, H⟩ := H
  replace H : (if t526 = true then ((net_Check.f k t519 t520 t523).bind fun bt528 => (petrinetlaw09_NetOpposites.j0 k (bt528.1 != 0) t519 t520 t523)) else (petrinetlaw09_NetOpposites.j0 k true t519 t520 t523)) = some r := H
  have A4 := Aside0.mk A40
  clear A40
  have HC5 := Aside0.mk H
  clear H
  go_enter Try.func8, Try.ntmps8
  go_upto_region 4 with (first | ((with_reducible refine gate_dst (N := 1) rfl ?_); (try (refine gate_guard (by rfl) ?_; dsimp only)); refine box_event ?hg (N := 1) ?hd (cs := #[.string a0_0, .slice A0_1 l0_1.length c0_1, .slice A0_2 l0_2.length c0_2]) (t := 25) ?hr ?_; (case hd => rfl); (case hg => rfl); (case hr => first | (go_simp; done) | (go_simp; rfl)); intro gb517 hg w6 hbox hb; have n0_ := Aside0.mk (below_step pbl hb); have n1_ := Aside0.mk (hbox); have n2_ := Aside0.mk ((by rw [hg]; exact (below_size pbl) : w.heap.size ≤ gb517)); have n3_ := n2_; clear HB; have HB := n0_; have BK517 := n1_; have GW517 := n2_; have GE517 := n3_; clear n0_ n1_ n2_ n3_; clear hb hbox hg) | ((with_reducible refine gate_callee (f := 12) rfl ?_); refine goesL_ (some 12) rfl rfl Try.func12 (by kernel_rfl) rfl #[] rfl pgz ?_; (with_reducible refine (petrinetlaw09_lives.calls k  true _ A2.out).mono ?_); rintro e w7 ⟨rfl, hb⟩; refine ⟨_, rfl, ?_⟩; have n0_ := Aside0.mk (blk_below (g := gb517) (o := .cells #[.string a0_0, .slice A0_1 l0_1.length c0_1, .slice A0_2 l0_2.length c0_2] 25 (0, 0)) (by (with_reducible repeat (first | refine blk_drewN ?_ _ | refine blk_drew ?_ | refine blk_alloc ?_ _)); exact BK517.out) hb); have n1_ := Aside0.mk (below_step (by repeat (first | (with_reducible first | exact HB.out | apply below_alloc | apply pw_below_drewN | apply below_drew1 | refine below_set ?_ GE517.out) | exact HB.out)) hb); clear BK517; clear HB; have BK517 := n0_; have HB := n1_; clear n0_ n1_; (try clear hb); (try clear hb2); (try clear hk); (try clear hi); obtain ⟨hcz8_0, hcz8_1, hcz8_2, hfz8_0, hfz8_1, hfz8_2⟩ := cf3 BK517.out) | ((with_reducible refine gate_callee (f := 11) rfl ?_); refine goesL_ (some 16) rfl rfl Try.func11 (by kernel_rfl) rfl #[.agg #[.string a0_0, .slice A0_1 l0_1.length c0_1, .slice A0_2 l0_2.length c0_2]] rfl pgz ?_; (with_reducible refine (petrinetref09_Small.calls k a0_0 (fun k_ => k_ < w.heap.size) _ _ l0_1 (fun k_ => k_ < w.heap.size) _ _ l0_2 t519 t520 t523 t526 _ ?side1 ?side2 A4.out).mono ?_); (case side1 => exact Kd.V_mk HC0_1.out (Kd.F_below (Kd.C_F k50_heap HR0_1.out) (by repeat (first | (with_reducible first | exact HB.out | apply below_alloc | apply pw_below_drewN | apply below_drew1 | refine below_set ?_ GE517.out) | exact HB.out)))); (case side2 => exact Kd.V_mk HC0_2.out (Kd.F_below (Kd.C_F k53_heap HR0_2.out) (by repeat (first | (with_reducible first | exact HB.out | apply below_alloc | apply pw_below_drewN | apply below_drew1 | refine below_set ?_ GE517.out) | exact HB.out)))); rintro e w9 ⟨v521, v524, rfl, ho0, ho1, hb⟩; refine ⟨_, rfl, ?_⟩; have n0_ := Aside0.mk (Kd.V_lower (Kd.V_mono (ok' := fun k_ => k_ ≠ gb517) ho0 (fun k_ hk_ => Or.elim hk_ (fun hs_ => Or.elim hs_ (fun hs_ => fun e_ => Nat.not_le.2 hs_ (by rw [e_]; exact GW517.out)) (fun hs_ => fun e_ => Nat.not_le.2 hs_ (by rw [e_]; exact GW517.out))) (fun hn_ => (Kd.freshB (g := gb517) (o := .cells #[.string a0_0, .slice A0_1 l0_1.length c0_1, .slice A0_2 l0_2.length c0_2] 25 (0, 0)) (by (with_reducible repeat (first | refine blk_drewN ?_ _ | refine blk_drew ?_ | refine blk_alloc ?_ _)); exact BK517.out) k_ hn_)))) (below_size (by repeat (first | (with_reducible first | exact HB.out | apply below_alloc | apply pw_below_drewN | apply below_drew1 | refine below_set ?_ GE517.out) | exact HB.out)))); have n1_ := Aside0.mk (Kd.V_lower (Kd.V_mono (ok' := fun k_ => k_ ≠ gb517) ho1 (fun k_ hk_ => Or.elim hk_ (fun hs_ => Or.elim hs_ (fun hs_ => fun e_ => Nat.not_le.2 hs_ (by rw [e_]; exact GW517.out)) (fun hs_ => fun e_ => Nat.not_le.2 hs_ (by rw [e_]; exact GW517.out))) (fun hn_ => (Kd.freshB (g := gb517) (o := .cells #[.string a0_0, .slice A0_1 l0_1.length c0_1, .slice A0_2 l0_2.length c0_2] 25 (0, 0)) (by (with_reducible repeat (first | refine blk_drewN ?_ _ | refine blk_drew ?_ | refine blk_alloc ?_ _)); exact BK517.out) k_ hn_)))) (below_size (by repeat (first | (with_reducible first | exact HB.out | apply below_alloc | apply pw_below_drewN | apply below_drew1 | refine below_set ?_ GE517.out) | exact HB.out)))); have n2_ := Aside0.mk (blk_below (g := gb517) (o := .cells #[.string a0_0, .slice A0_1 l0_1.length c0_1, .slice A0_2 l0_2.length c0_2] 25 (0, 0)) (by (with_reducible repeat (first | refine blk_drewN ?_ _ | refine blk_drew ?_ | refine blk_alloc ?_ _)); exact BK517.out) hb); have n3_ := Aside0.mk (below_step (by repeat (first | (with_reducible first | exact HB.out | apply below_alloc | apply pw_below_drewN | apply below_drew1 | refine below_set ?_ GE517.out) | exact HB.out)) hb); clear BK517; clear HB; have HO522 := n0_; have HO525 := n1_; have BK517 := n2_; have HB := n3_; clear n0_ n1_ n2_ n3_; (try clear hb); (try clear hb2); (try clear hk); (try clear hi); (try clear ho0); (try clear ho1)) | ((with_reducible refine gate_dst (N := 3) rfl ?_); (try (refine gate_guard (by rfl) ?_; dsimp only)); refine box_event ?hg (N := 3) ?hd (cs := #[.string (⟨#[]⟩ : ByteArray), .slice none 0 0, .slice none 0 0]) (t := 25) ?hr ?_; (case hd => rfl); (case hg => rfl); (case hr => first | (go_simp; done) | (go_simp; rfl)); intro gb527 hg w10 hbox hb; have n0_ := Aside0.mk (Kd.V_below (Kd.V_elderB (by (with_reducible repeat (first | apply Kd.V_alloc | apply Kd.V_drewN | apply Kd.V_drew)); exact HO522.out) gb527 (Nat.le_of_eq hg.symm)) hb); have n1_ := Aside0.mk (Kd.V_below (Kd.V_elderB (by (with_reducible repeat (first | apply Kd.V_alloc | apply Kd.V_drewN | apply Kd.V_drew)); exact HO525.out) gb527 (Nat.le_of_eq hg.symm)) hb); have n2_ := Aside0.mk (blk_below (g := gb517) (o := .cells #[.string a0_0, .slice A0_1 l0_1.length c0_1, .slice A0_2 l0_2.length c0_2] 25 (0, 0)) (by (with_reducible repeat (first | refine blk_drewN ?_ _ | refine blk_drew ?_ | refine blk_alloc ?_ _)); exact BK517.out) hb); have n3_ := Aside0.mk (below_step (by repeat (first | (with_reducible first | exact HB.out | apply below_alloc | apply pw_below_drewN | apply below_drew1 | refine below_set ?_ GE517.out) | exact HB.out)) hb); have n4_ := Aside0.mk (hbox); have n5_ := Aside0.mk ((by rw [hg]; exact (below_size (by repeat (first | (with_reducible first | exact HB.out | apply below_alloc | apply pw_below_drewN | apply below_drew1 | refine below_set ?_ GE517.out) | exact HB.out))) : w.heap.size ≤ gb527)); have n6_ := n5_; have n7_ := Aside0.mk ((by rw [hg]; exact Nat.ne_of_lt (blk_lt (g := gb517) (o := .cells #[.string a0_0, .slice A0_1 l0_1.length c0_1, .slice A0_2 l0_2.length c0_2] 25 (0, 0)) (by (with_reducible repeat (first | refine blk_drewN ?_ _ | refine blk_drew ?_ | refine blk_alloc ?_ _)); exact BK517.out)) : gb517 ≠ gb527)); have n8_ := Aside0.mk ((by rw [hg]; exact Nat.ne_of_gt (blk_lt (g := gb517) (o := .cells #[.string a0_0, .slice A0_1 l0_1.length c0_1, .slice A0_2 l0_2.length c0_2] 25 (0, 0)) (by (with_reducible repeat (first | refine blk_drewN ?_ _ | refine blk_drew ?_ | refine blk_alloc ?_ _)); exact BK517.out)) : gb527 ≠ gb517)); clear HO522; clear HO525; clear BK517; clear HB; have HO522 := n0_; have HO525 := n1_; have BK517 := n2_; have HB := n3_; have BK527 := n4_; have GW527 := n5_; have GE527 := n6_; have NB517_527 := n7_; have NB527_517 := n8_; clear n0_ n1_ n2_ n3_ n4_ n5_ n6_ n7_ n8_; clear hb hbox hg; have hnb11 := NB527_517.out; have hnc11 := NB517_527.out; obtain ⟨hcz12_0, hcz12_1, hcz12_2, hfz12_0, hfz12_1, hfz12_2⟩ := cf3 BK527.out; obtain ⟨Ao13, co13, eo13⟩ := Kd.V_slice HO522.out; subst eo13; obtain ⟨Ao14, co14, eo14⟩ := Kd.V_slice HO525.out; subst eo14))
  (try simp only [Act.put, List.setIfInBounds_toArray, List.set_cons_zero, List.set_cons_succ])
  go_cut [26] (fun v26 wc => ∃ (kq : Nat) (x26_4 : Bool), v26 = .bool x26_4 ∧ Aside0 (petrinetlaw09_NetOpposites.j0 kq x26_4 t519 t520 t523 = some r) ∧ Aside0 (kq ≤ k) ∧ Aside0 (Kd.V k50 50 wc w.heap.size (fun k_ => k_ ≠ gb517 ∧ k_ ≠ gb527) (.slice Ao13 t520.length co13) t520) ∧ Aside0 (Kd.V k53 53 wc w.heap.size (fun k_ => k_ ≠ gb517 ∧ k_ ≠ gb527) (.slice Ao14 t523.length co14) t523) ∧ Aside0 (wc.heap[gb517]? = some (.cells #[.string a0_0, (.slice A0_1 l0_1.length c0_1), (.slice A0_2 l0_2.length c0_2)] 25 (0, 0))) ∧ Aside0 (wc.heap[gb527]? = some (.cells #[.string t519, (.slice Ao13 t520.length co13), (.slice Ao14 t523.length co14)] 25 (0, 0))) ∧ Aside0 (Below w.heap.size w wc))
  case first =>
    have H := HC5.out
    clear HC5
    by_cases c15 : t526 = true
    rotate_left
    · replace c15 := Bool.eq_false_iff.mpr c15
      subst c15
      have H1 : (petrinetlaw09_NetOpposites.j0 k true t519 t520 t523) = some r := by rw [if_neg (show ¬ (false = true) by decide)] at H; exact H
      clear H
      have H := H1
      clear H1
      have H' := Aside0.mk H
      clear H
      go_wp2
      go_meet
      case rel => exact ⟨_, (true), prs, H', ⟨by first | omega | exact Nat.le_refl _⟩, ⟨by (with_reducible repeat (first | apply Kd.V_alloc | apply Kd.V_drewN | apply Kd.V_drew)); exact Kd.V_mono (Kd.V_far (p := ⟨gb527, 2, none⟩) (Kd.V_far (p := ⟨gb527, 1, none⟩) (Kd.V_far (p := ⟨gb527, 0, none⟩) (Kd.V_mono HO522.out (fun k_ hk => (⟨hk, hk.2⟩ : _ ∧ k_ ≠ gb527))) (fun _ hk => hk.2) (.string t519)) (fun _ hk => hk.2) (.slice Ao13 t520.length co13)) (fun _ hk => hk.2) (.slice Ao14 t523.length co14)) (fun _ hk => ⟨hk.1.1, hk.1.2⟩)⟩, ⟨by (with_reducible repeat (first | apply Kd.V_alloc | apply Kd.V_drewN | apply Kd.V_drew)); exact Kd.V_mono (Kd.V_far (p := ⟨gb527, 2, none⟩) (Kd.V_far (p := ⟨gb527, 1, none⟩) (Kd.V_far (p := ⟨gb527, 0, none⟩) (Kd.V_mono HO525.out (fun k_ hk => (⟨hk, hk.2⟩ : _ ∧ k_ ≠ gb527))) (fun _ hk => hk.2) (.string t519)) (fun _ hk => hk.2) (.slice Ao13 t520.length co13)) (fun _ hk => hk.2) (.slice Ao14 t523.length co14)) (fun _ hk => ⟨hk.1.1, hk.1.2⟩)⟩, ⟨by (with_reducible repeat (first | refine blk_drewN ?_ _ | refine blk_drew ?_ | refine blk_alloc ?_ _)); refine blk_far ?_ NB517_527.out _; (with_reducible repeat (first | refine blk_drewN ?_ _ | refine blk_drew ?_ | refine blk_alloc ?_ _)); refine blk_far ?_ NB517_527.out _; (with_reducible repeat (first | refine blk_drewN ?_ _ | refine blk_drew ?_ | refine blk_alloc ?_ _)); refine blk_far ?_ NB517_527.out _; (with_reducible repeat (first | refine blk_drewN ?_ _ | refine blk_drew ?_ | refine blk_alloc ?_ _)); exact BK517.out⟩, ⟨by (with_reducible repeat (first | refine blk_drewN ?_ _ | refine blk_drew ?_ | refine blk_alloc ?_ _)); refine blk_put (cs := #[.string t519, .slice Ao13 t520.length co13, .slice none 0 0]) ?_ 2 _ rfl; (with_reducible repeat (first | refine blk_drewN ?_ _ | refine blk_drew ?_ | refine blk_alloc ?_ _)); refine blk_put (cs := #[.string t519, .slice none 0 0, .slice none 0 0]) ?_ 1 _ rfl; (with_reducible repeat (first | refine blk_drewN ?_ _ | refine blk_drew ?_ | refine blk_alloc ?_ _)); refine blk_put (cs := #[.string (⟨#[]⟩ : ByteArray), .slice none 0 0, .slice none 0 0]) ?_ 0 _ rfl; (with_reducible repeat (first | refine blk_drewN ?_ _ | refine blk_drew ?_ | refine blk_alloc ?_ _)); exact BK527.out⟩, ⟨by repeat (first | (with_reducible first | exact HB.out | apply below_alloc | apply pw_below_drewN | apply below_drew1 | refine below_set ?_ GE517.out | refine below_set ?_ GE527.out) | exact HB.out)⟩⟩
    subst c15
    have H1 : ((net_Check.f k t519 t520 t523).bind fun bt528 => (petrinetlaw09_NetOpposites.j0 k (bt528.1 != 0) t519 t520 t523)) = some r := by rw [if_pos rfl] at H; exact H
    clear H
    have H := H1
    clear H1
    replace H := Option.bind_eq_some_iff.mp H
    obtain ⟨⟨t528, t529⟩, A160, H⟩ := H
    replace H : (petrinetlaw09_NetOpposites.j0 k (t528 != 0) t519 t520 t523) = some r := H
    have A16 := Aside0.mk A160
    clear A160
    have H' := Aside0.mk H
    clear H
    have hnb17 := NB527_517.out
    have hnc17 := NB517_527.out
    obtain ⟨hcz18_0, hcz18_1, hcz18_2, hfz18_0, hfz18_1, hfz18_2⟩ := cf3 BK527.out
    go_wp2_with (first | (go_at_call 13; (with_reducible refine (net_Check.calls k t519 _ _ t520 _ _ t523 t528 t529 _ ?side1 ?side2 ?side3 ?side4 A16.out).mono ?_); (case side1 => refine (Kd.V_reads' (e := 50) (base := w.heap.size) (ok := fun k_ => (k_ ≠ gb517 ∧ k_ ≠ gb527)) (n := t520.length) (c := co13) ?_).2.2; exact (by (with_reducible repeat (first | apply Kd.V_alloc | apply Kd.V_drewN | apply Kd.V_drew)); exact (Kd.V_mono (Kd.V_far (p := ⟨gb527, 2, none⟩) (Kd.V_far (p := ⟨gb527, 1, none⟩) (Kd.V_far (p := ⟨gb527, 0, none⟩) (Kd.V_mono HO522.out (fun k_ hk => (⟨hk, hk.2⟩ : _ ∧ k_ ≠ gb527))) (fun _ hk => hk.2) (.string t519)) (fun _ hk => hk.2) (.slice Ao13 t520.length co13)) (fun _ hk => hk.2) (.slice Ao14 t523.length co14)) (fun _ h_ => h_.1)))); (case side2 => exact (Kd.V_reads' HO522.out).2.1); (case side3 => refine (Kd.V_reads' (e := 53) (base := w.heap.size) (ok := fun k_ => (k_ ≠ gb517 ∧ k_ ≠ gb527)) (n := t523.length) (c := co14) ?_).2.2; exact (by (with_reducible repeat (first | apply Kd.V_alloc | apply Kd.V_drewN | apply Kd.V_drew)); exact (Kd.V_mono (Kd.V_far (p := ⟨gb527, 2, none⟩) (Kd.V_far (p := ⟨gb527, 1, none⟩) (Kd.V_far (p := ⟨gb527, 0, none⟩) (Kd.V_mono HO525.out (fun k_ hk => (⟨hk, hk.2⟩ : _ ∧ k_ ≠ gb527))) (fun _ hk => hk.2) (.string t519)) (fun _ hk => hk.2) (.slice Ao13 t520.length co13)) (fun _ hk => hk.2) (.slice Ao14 t523.length co14)) (fun _ h_ => h_.1)))); (case side4 => exact (Kd.V_reads' HO525.out).2.1); rintro e w19 ⟨rfl, hb⟩; have n0_ := Aside0.mk (Kd.V_below (by (with_reducible repeat (first | apply Kd.V_alloc | apply Kd.V_drewN | apply Kd.V_drew)); exact (Kd.V_mono (Kd.V_far (p := ⟨gb527, 2, none⟩) (Kd.V_far (p := ⟨gb527, 1, none⟩) (Kd.V_far (p := ⟨gb527, 0, none⟩) (Kd.V_mono HO522.out (fun k_ hk => (⟨hk, hk.2⟩ : _ ∧ k_ ≠ gb527))) (fun _ hk => hk.2) (.string t519)) (fun _ hk => hk.2) (.slice Ao13 t520.length co13)) (fun _ hk => hk.2) (.slice Ao14 t523.length co14)) (fun _ h_ => h_.1))) hb); have n1_ := Aside0.mk (Kd.V_below (by (with_reducible repeat (first | apply Kd.V_alloc | apply Kd.V_drewN | apply Kd.V_drew)); exact (Kd.V_mono (Kd.V_far (p := ⟨gb527, 2, none⟩) (Kd.V_far (p := ⟨gb527, 1, none⟩) (Kd.V_far (p := ⟨gb527, 0, none⟩) (Kd.V_mono HO525.out (fun k_ hk => (⟨hk, hk.2⟩ : _ ∧ k_ ≠ gb527))) (fun _ hk => hk.2) (.string t519)) (fun _ hk => hk.2) (.slice Ao13 t520.length co13)) (fun _ hk => hk.2) (.slice Ao14 t523.length co14)) (fun _ h_ => h_.1))) hb); have n2_ := Aside0.mk (blk_below (g := gb517) (o := .cells #[.string a0_0, .slice A0_1 l0_1.length c0_1, .slice A0_2 l0_2.length c0_2] 25 (0, 0)) (by (with_reducible repeat (first | refine blk_drewN ?_ _ | refine blk_drew ?_ | refine blk_alloc ?_ _)); refine blk_far ?_ NB517_527.out _; (with_reducible repeat (first | refine blk_drewN ?_ _ | refine blk_drew ?_ | refine blk_alloc ?_ _)); refine blk_far ?_ NB517_527.out _; (with_reducible repeat (first | refine blk_drewN ?_ _ | refine blk_drew ?_ | refine blk_alloc ?_ _)); refine blk_far ?_ NB517_527.out _; (with_reducible repeat (first | refine blk_drewN ?_ _ | refine blk_drew ?_ | refine blk_alloc ?_ _)); exact BK517.out) hb); have n3_ := Aside0.mk (blk_below (g := gb527) (o := .cells #[.string t519, .slice Ao13 t520.length co13, .slice Ao14 t523.length co14] 25 (0, 0)) (by (with_reducible repeat (first | refine blk_drewN ?_ _ | refine blk_drew ?_ | refine blk_alloc ?_ _)); refine blk_put (cs := #[.string t519, .slice Ao13 t520.length co13, .slice none 0 0]) ?_ 2 _ rfl; (with_reducible repeat (first | refine blk_drewN ?_ _ | refine blk_drew ?_ | refine blk_alloc ?_ _)); refine blk_put (cs := #[.string t519, .slice none 0 0, .slice none 0 0]) ?_ 1 _ rfl; (with_reducible repeat (first | refine blk_drewN ?_ _ | refine blk_drew ?_ | refine blk_alloc ?_ _)); refine blk_put (cs := #[.string (⟨#[]⟩ : ByteArray), .slice none 0 0, .slice none 0 0]) ?_ 0 _ rfl; (with_reducible repeat (first | refine blk_drewN ?_ _ | refine blk_drew ?_ | refine blk_alloc ?_ _)); exact BK527.out) hb); have n4_ := Aside0.mk (below_step (by repeat (first | (with_reducible first | exact HB.out | apply below_alloc | apply pw_below_drewN | apply below_drew1 | refine below_set ?_ GE517.out | refine below_set ?_ GE527.out) | exact HB.out)) hb); clear HO522; clear HO525; clear BK517; clear BK527; clear HB; have HO522 := n0_; have HO525 := n1_; have BK517 := n2_; have BK527 := n3_; have HB := n4_; clear n0_ n1_ n2_ n3_ n4_; (try clear hb); (try clear hb2); (try clear hk); (try clear hi)))
    go_meet
    case rel => exact ⟨_, ((t528 != 0)), prs, H', ⟨by first | omega | exact Nat.le_refl _⟩, ⟨by (with_reducible repeat (first | apply Kd.V_alloc | apply Kd.V_drewN | apply Kd.V_drew)); exact HO522.out⟩, ⟨by (with_reducible repeat (first | apply Kd.V_alloc | apply Kd.V_drewN | apply Kd.V_drew)); exact HO525.out⟩, ⟨by (with_reducible repeat (first | refine blk_drewN ?_ _ | refine blk_drew ?_ | refine blk_alloc ?_ _)); exact BK517.out⟩, ⟨by (with_reducible repeat (first | refine blk_drewN ?_ _ | refine blk_drew ?_ | refine blk_alloc ?_ _)); exact BK527.out⟩, ⟨by repeat (first | (with_reducible first | exact HB.out | apply below_alloc | apply pw_below_drewN | apply below_drew1 | refine below_set ?_ GE517.out | refine below_set ?_ GE527.out) | exact HB.out)⟩⟩
  clear HC5
  try clear c3
  try clear c15
  try clear hcz12_0
  try clear hcz12_1
  try clear hcz12_2
  try clear hcz18_0
  try clear hcz18_1
  try clear hcz18_2
  try clear hcz8_0
  try clear hcz8_1
  try clear hcz8_2
  try clear hfz12_0
  try clear hfz12_1
  try clear hfz12_2
  try clear hfz18_0
  try clear hfz18_1
  try clear hfz18_2
  try clear hfz8_0
  try clear hfz8_1
  try clear hfz8_2
  obtain ⟨kq, x26_4, rfl, HA, HJ4, HO_528001, HO_528002, BK517, BK527, HB⟩ := hcut
  obtain _ | kj4 := kq
  · exact absurd HA.out (by simp [petrinetlaw09_NetOpposites.j0])
  have H := HA.out
  clear HA
  simp only [petrinetlaw09_NetOpposites.j0] at H
  by_cases c20 : x26_4 = true
  · subst c20
    have H1 : (some true) = some r := by rw [if_pos rfl] at H; exact H
    clear H
    have H := H1
    clear H1
    obtain rfl := Option.some.inj H
    go_wp2
    go_ret
    exact ⟨by first | rfl | (simp [errW_none, errW_some] <;> rfl) | (simp [*, errW_none, errW_some] <;> rfl), by repeat (first | (with_reducible first | exact HB.out | apply below_alloc | apply pw_below_drewN | apply below_drew1 | refine below_set ?_ GE517.out | refine below_set ?_ GE527.out) | exact HB.out)⟩
  replace c20 := Bool.eq_false_iff.mpr c20
  subst c20
  have H1 : ((net_Incidence.f kj4 t519 t520 t523).bind fun t530 => (if (t523.length : Int) > 0 then (petrinetlaw09_NetOpposites.j1 kj4 t530 ((t530.length : Int) != (t520.length : Int)) t519 t520 t523) else (petrinetlaw09_NetOpposites.j1 kj4 t530 false t519 t520 t523))) = some r := by rw [if_neg (show ¬ (false = true) by decide)] at H; exact H
  clear H
  have H := H1
  clear H1
  replace H := Option.bind_eq_some_iff.mp H
  obtain ⟨t530, A210, H⟩ := H
  replace H : (if (t523.length : Int) > 0 then (petrinetlaw09_NetOpposites.j1 kj4 t530 ((t530.length : Int) != (t520.length : Int)) t519 t520 t523) else (petrinetlaw09_NetOpposites.j1 kj4 t530 false t519 t520 t523)) = some r := H
  have A21 := Aside0.mk A210
  clear A210
  have HC22 := Aside0.mk H
  clear H
  have hnb23 := NB527_517.out
  have hnc23 := NB517_527.out
  obtain ⟨hcz24_0, hcz24_1, hcz24_2, hfz24_0, hfz24_1, hfz24_2⟩ := cf3 BK527.out
  go_upto_region 7 with (first | ((with_reducible refine gate_callee (f := 16) rfl ?_); refine goesL_ (some 28) rfl rfl Try.func16 (by kernel_rfl) rfl #[.agg #[.string t519, .slice Ao13 t520.length co13, .slice Ao14 t523.length co14]] rfl pgz ?_; (with_reducible refine (net_Incidence.calls kj4 t519 _ _ t520 _ _ t523 t530 _ ?side1 ?side2 ?side3 ?side4 A21.out).mono ?_); (case side1 => repeat (first | exact (Kd.V_reads' HO_528001.out).2.2 | (with_reducible refine Kd.C_alloc ?_ _) | (with_reducible refine Kd.C_drewN ?_ _) | (with_reducible refine Kd.C_drew ?_))); (case side2 => exact (Kd.V_reads' HO_528001.out).2.1); (case side3 => repeat (first | exact (Kd.V_reads' HO_528002.out).2.2 | (with_reducible refine Kd.C_alloc ?_ _) | (with_reducible refine Kd.C_drewN ?_ _) | (with_reducible refine Kd.C_drew ?_))); (case side4 => exact (Kd.V_reads' HO_528002.out).2.1); rintro e w25 ⟨v531, rfl, ho0, hb⟩; refine ⟨_, rfl, ?_⟩; have n0_ := Aside0.mk (Kd.V_elder' (by (with_reducible repeat (first | apply Kd.V_alloc | apply Kd.V_drewN | apply Kd.V_drew)); exact HO_528001.out) (Kd.S_base ho0) hb); have n1_ := Aside0.mk (Kd.V_elder' (by (with_reducible repeat (first | apply Kd.V_alloc | apply Kd.V_drewN | apply Kd.V_drew)); exact HO_528002.out) (Kd.S_base ho0) hb); have n2_ := Aside0.mk (Kd.S_lower ho0 (below_size (by repeat (first | (with_reducible first | exact HB.out | apply below_alloc | apply pw_below_drewN | apply below_drew1 | refine below_set ?_ GE517.out | refine below_set ?_ GE527.out) | exact HB.out)))); have n3_ := Aside0.mk (blk_below (g := gb517) (o := .cells #[.string a0_0, .slice A0_1 l0_1.length c0_1, .slice A0_2 l0_2.length c0_2] 25 (0, 0)) (by (with_reducible repeat (first | refine blk_drewN ?_ _ | refine blk_drew ?_ | refine blk_alloc ?_ _)); exact BK517.out) hb); have n4_ := Aside0.mk (blk_below (g := gb527) (o := .cells #[.string t519, .slice Ao13 t520.length co13, .slice Ao14 t523.length co14] 25 (0, 0)) (by (with_reducible repeat (first | refine blk_drewN ?_ _ | refine blk_drew ?_ | refine blk_alloc ?_ _)); exact BK527.out) hb); have n5_ := Aside0.mk (below_step (by repeat (first | (with_reducible first | exact HB.out | apply below_alloc | apply pw_below_drewN | apply below_drew1 | refine below_set ?_ GE517.out | refine below_set ?_ GE527.out) | exact HB.out)) hb); clear HO_528001; clear HO_528002; clear BK517; clear BK527; clear HB; have HO_528001 := n0_; have HO_528002 := n1_; have HO532 := n2_; have BK517 := n3_; have BK527 := n4_; have HB := n5_; clear n0_ n1_ n2_ n3_ n4_ n5_; (try clear hb); (try clear hb2); (try clear hk); (try clear hi); (try clear ho0)))
  (try simp only [Act.put, List.setIfInBounds_toArray, List.set_cons_zero, List.set_cons_succ])
  go_cut [40] (fun v40 wc => ∃ (kq : Nat) (x40_21 : Bool), v40 = .bool x40_21 ∧ Aside0 (petrinetlaw09_NetOpposites.j1 kq t530 x40_21 t519 t520 t523 = some r) ∧ Aside0 (kq ≤ kj4) ∧ Aside0 (Kd.S (Kd.slice 2 (Kd.int .i64)) 48 wc w.heap.size (fun _ => True) v531 t530) ∧ Aside0 (Kd.V k50 50 wc w.heap.size (fun k_ => some k_ ≠ (v531 : Value).ownBlock ∧ k_ ≠ gb517 ∧ k_ ≠ gb527) (.slice Ao13 t520.length co13) t520) ∧ Aside0 (Kd.V k53 53 wc w.heap.size (fun k_ => some k_ ≠ (v531 : Value).ownBlock ∧ k_ ≠ gb517 ∧ k_ ≠ gb527) (.slice Ao14 t523.length co14) t523) ∧ Aside0 (wc.heap[gb517]? = some (.cells #[.string a0_0, (.slice A0_1 l0_1.length c0_1), (.slice A0_2 l0_2.length c0_2)] 25 (0, 0))) ∧ Aside0 (wc.heap[gb527]? = some (.cells #[.string t519, (.slice Ao13 t520.length co13), (.slice Ao14 t523.length co14)] 25 (0, 0))) ∧ Aside0 (Below w.heap.size w wc))
  case first =>
    have H := HC22.out
    clear HC22
    by_cases c26 : (t523.length : Int) > 0
    rotate_left
    · rw [if_neg c26] at H
      have c26b0 : decide (0 < (t523.length : Int)) = false := decide_eq_false c26
      have c26b1 : decide (0 < t523.length) = false := decide_eq_false (by omega)
      clear c26
      (first | rw [c26b0] | (simp only [i64_w, i32_w]; rw [c26b0]) | skip)
      have H' := Aside0.mk H
      clear H
      have hnb30 := NB527_517.out
      have hnc30 := NB517_527.out
      obtain ⟨hcz31_0, hcz31_1, hcz31_2, hfz31_0, hfz31_1, hfz31_2⟩ := cf3 BK527.out
      go_wp2
      go_meet
      case rel => exact ⟨_, (false), prs, H', ⟨by have := HJ4.out; first | omega | exact Nat.le_refl _⟩, ⟨by (with_reducible repeat (first | apply Kd.S_alloc | apply Kd.S_drewN | apply Kd.S_drew)); exact HO532.out⟩, ⟨by (with_reducible repeat (first | apply Kd.V_alloc | apply Kd.V_drewN | apply Kd.V_drew)); exact Kd.V_mono HO_528001.out (fun _ hk => ⟨hk.2, ⟨hk.1.1, hk.1.2⟩⟩)⟩, ⟨by (with_reducible repeat (first | apply Kd.V_alloc | apply Kd.V_drewN | apply Kd.V_drew)); exact Kd.V_mono HO_528002.out (fun _ hk => ⟨hk.2, ⟨hk.1.1, hk.1.2⟩⟩)⟩, ⟨by (with_reducible repeat (first | refine blk_drewN ?_ _ | refine blk_drew ?_ | refine blk_alloc ?_ _)); exact BK517.out⟩, ⟨by (with_reducible repeat (first | refine blk_drewN ?_ _ | refine blk_drew ?_ | refine blk_alloc ?_ _)); exact BK527.out⟩, ⟨by repeat (first | (with_reducible first | exact HB.out | apply below_alloc | apply pw_below_drewN | apply below_drew1 | refine below_set ?_ GE517.out | refine below_set ?_ GE527.out) | exact HB.out)⟩⟩
    rw [if_pos c26] at H
    have c26b0 : decide (0 < (t523.length : Int)) = true := decide_eq_true c26
    have c26b1 : decide (0 < t523.length) = true := decide_eq_true (by omega)
    clear c26
    (first | rw [c26b0] | (simp only [i64_w, i32_w]; rw [c26b0]) | skip)
    have H' := Aside0.mk H
    clear H
    have hnb27 := NB527_517.out
    have hnc27 := NB517_527.out
    obtain ⟨hcz28_0, hcz28_1, hcz28_2, hfz28_0, hfz28_1, hfz28_2⟩ := cf3 BK527.out
    obtain ⟨Ao29, co29, eo29⟩ := Kd.S_slice HO532.out
    subst eo29
    go_wp2
    go_meet
    case rel => exact ⟨_, (((t530.length : Int) != (t520.length : Int))), prs, H', ⟨by have := HJ4.out; first | omega | exact Nat.le_refl _⟩, ⟨by (with_reducible repeat (first | apply Kd.S_alloc | apply Kd.S_drewN | apply Kd.S_drew)); exact HO532.out⟩, ⟨by (with_reducible repeat (first | apply Kd.V_alloc | apply Kd.V_drewN | apply Kd.V_drew)); exact Kd.V_mono HO_528001.out (fun _ hk => ⟨hk.2, ⟨hk.1.1, hk.1.2⟩⟩)⟩, ⟨by (with_reducible repeat (first | apply Kd.V_alloc | apply Kd.V_drewN | apply Kd.V_drew)); exact Kd.V_mono HO_528002.out (fun _ hk => ⟨hk.2, ⟨hk.1.1, hk.1.2⟩⟩)⟩, ⟨by (with_reducible repeat (first | refine blk_drewN ?_ _ | refine blk_drew ?_ | refine blk_alloc ?_ _)); exact BK517.out⟩, ⟨by (with_reducible repeat (first | refine blk_drewN ?_ _ | refine blk_drew ?_ | refine blk_alloc ?_ _)); exact BK527.out⟩, ⟨by repeat (first | (with_reducible first | exact HB.out | apply below_alloc | apply pw_below_drewN | apply below_drew1 | refine below_set ?_ GE517.out | refine below_set ?_ GE527.out) | exact HB.out)⟩⟩
  clear HC22
  try clear c3
  try clear c15
  try clear c20
  try clear c26
  try clear c26b0
  try clear c26b1
  try clear hcz12_0
  try clear hcz12_1
  try clear hcz12_2
  try clear hcz18_0
  try clear hcz18_1
  try clear hcz18_2
  try clear hcz24_0
  try clear hcz24_1
  try clear hcz24_2
  try clear hcz28_0
  try clear hcz28_1
  try clear hcz28_2
  try clear hcz31_0
  try clear hcz31_1
  try clear hcz31_2
  try clear hcz8_0
  try clear hcz8_1
  try clear hcz8_2
  try clear hfz12_0
  try clear hfz12_1
  try clear hfz12_2
  try clear hfz18_0
  try clear hfz18_1
  try clear hfz18_2
  try clear hfz24_0
  try clear hfz24_1
  try clear hfz24_2
  try clear hfz28_0
  try clear hfz28_1
  try clear hfz28_2
  try clear hfz31_0
  try clear hfz31_1
  try clear hfz31_2
  try clear hfz8_0
  try clear hfz8_1
  try clear hfz8_2
  obtain ⟨kq, x40_21, rfl, HA, HJ21, HO_5, HO_528001, HO_528002, BK517, BK527, HB⟩ := hcut
  obtain _ | kj21 := kq
  · exact absurd HA.out (by simp [petrinetlaw09_NetOpposites.j1])
  have H := HA.out
  clear HA
  simp only [petrinetlaw09_NetOpposites.j1] at H
  by_cases c32 : x40_21 = true
  · subst c32
    have H1 : (none) = some r := by rw [if_pos rfl] at H; exact H
    clear H
    have H := H1
    clear H1
    exact absurd H (by simp)
  replace c32 := Bool.eq_false_iff.mpr c32
  subst c32
  have H1 : (petrinetlaw09_NetOpposites.l0 kj21 t530 0 t519 t520 t523) = some r := by rw [if_neg (show ¬ (false = true) by decide)] at H; exact H
  clear H
  have H := H1
  clear H1
  have H' := Aside0.mk H
  clear H
  go_wp2
  go_loopg [6] kj21 (fun kq v6 w' => ∃ (x6_3 : Int), v6 = .int .i64 x6_3 ∧ Aside0 (petrinetlaw09_NetOpposites.l0 kq t530 x6_3 t519 t520 t523 = some r) ∧ Aside0 (kq ≤ kj21) ∧ Aside0 (Kd.S (Kd.slice 2 (Kd.int .i64)) 48 w' w.heap.size (fun _ => True) v531 t530) ∧ Aside0 (Kd.V k50 50 w' w.heap.size (fun k_ => some k_ ≠ (v531 : Value).ownBlock ∧ k_ ≠ gb517 ∧ k_ ≠ gb527) (.slice Ao13 t520.length co13) t520) ∧ Aside0 (Kd.V k53 53 w' w.heap.size (fun k_ => some k_ ≠ (v531 : Value).ownBlock ∧ k_ ≠ gb517 ∧ k_ ≠ gb527) (.slice Ao14 t523.length co14) t523) ∧ Aside0 (w'.heap[gb517]? = some (.cells #[.string a0_0, (.slice A0_1 l0_1.length c0_1), (.slice A0_2 l0_2.length c0_2)] 25 (0, 0))) ∧ Aside0 (w'.heap[gb527]? = some (.cells #[.string t519, (.slice Ao13 t520.length co13), (.slice Ao14 t523.length co14)] 25 (0, 0))) ∧ Aside0 (Below w.heap.size w w'))
  case atStart => exact ⟨(0), prs, H', ⟨Nat.le_refl _⟩, ⟨by (with_reducible repeat (first | apply Kd.S_alloc | apply Kd.S_drewN | apply Kd.S_drew)); exact HO_5.out⟩, ⟨by (with_reducible repeat (first | apply Kd.V_alloc | apply Kd.V_drewN | apply Kd.V_drew)); exact HO_528001.out⟩, ⟨by (with_reducible repeat (first | apply Kd.V_alloc | apply Kd.V_drewN | apply Kd.V_drew)); exact HO_528002.out⟩, ⟨by (with_reducible repeat (first | refine blk_drewN ?_ _ | refine blk_drew ?_ | refine blk_alloc ?_ _)); exact BK517.out⟩, ⟨by (with_reducible repeat (first | refine blk_drewN ?_ _ | refine blk_drew ?_ | refine blk_alloc ?_ _)); exact BK527.out⟩, ⟨by repeat (first | (with_reducible first | exact HB.out | apply below_alloc | apply pw_below_drewN | apply below_drew1 | refine below_set ?_ GE517.out | refine below_set ?_ GE527.out) | exact HB.out)⟩⟩
  clear H'
  try clear c3
  try clear c15
  try clear c20
  try clear c26
  try clear c26b0
  try clear c26b1
  try clear c32
  try clear hcz12_0
  try clear hcz12_1
  try clear hcz12_2
  try clear hcz18_0
  try clear hcz18_1
  try clear hcz18_2
  try clear hcz24_0
  try clear hcz24_1
  try clear hcz24_2
  try clear hcz28_0
  try clear hcz28_1
  try clear hcz28_2
  try clear hcz31_0
  try clear hcz31_1
  try clear hcz31_2
  try clear hcz8_0
  try clear hcz8_1
  try clear hcz8_2
  try clear hfz12_0
  try clear hfz12_1
  try clear hfz12_2
  try clear hfz18_0
  try clear hfz18_1
  try clear hfz18_2
  try clear hfz24_0
  try clear hfz24_1
  try clear hfz24_2
  try clear hfz28_0
  try clear hfz28_1
  try clear hfz28_2
  try clear hfz31_0
  try clear hfz31_1
  try clear hfz31_2
  try clear hfz8_0
  try clear hfz8_1
  try clear hfz8_2
  obtain ⟨x6_3, rfl, HA, HK3, HO_5, HO_528001, HO_528002, BK517, BK527, HB⟩ := hrel
  obtain _ | k3 := gk
  · exact absurd HA.out (by simp [petrinetlaw09_NetOpposites.l0])
  have H := HA.out
  clear HA
  simp only [petrinetlaw09_NetOpposites.l0] at H
  by_cases c33 : x6_3 < (t523.length : Int)
  rotate_left
  · rw [if_neg c33] at H
    have c33b0 : decide (x6_3 < (t523.length : Int)) = false := decide_eq_false c33
    clear c33
    obtain rfl := Option.some.inj H
    have hnb81 := NB527_517.out
    have hnc81 := NB517_527.out
    obtain ⟨hcz82_0, hcz82_1, hcz82_2, hfz82_0, hfz82_1, hfz82_2⟩ := cf3 BK527.out
    go_wp2
    go_ret
    exact ⟨by first | rfl | (simp [errW_none, errW_some] <;> rfl) | (simp [*, errW_none, errW_some] <;> rfl), by repeat (first | (with_reducible first | exact HB.out | apply below_alloc | apply pw_below_drewN | apply below_drew1 | refine below_set ?_ GE517.out | refine below_set ?_ GE527.out) | exact HB.out)⟩
  rw [if_pos c33] at H
  have c33b0 : decide (x6_3 < (t523.length : Int)) = true := decide_eq_true c33
  clear c33
  replace H := Option.bind_eq_some_iff.mp H
  obtain ⟨t533, A340, H⟩ := H
  replace H : ((net_Outputs.f k3 t519 t520 t523 x6_3).bind fun t536 => (petrinetlaw09_NetOpposites.l1 k3 t530 x6_3 t533 t536 0 t519 t520 t523)) = some r := H
  have A34 := Aside0.mk A340
  clear A340
  replace H := Option.bind_eq_some_iff.mp H
  obtain ⟨t536, A350, H⟩ := H
  replace H : (petrinetlaw09_NetOpposites.l1 k3 t530 x6_3 t533 t536 0 t519 t520 t523) = some r := H
  have A35 := Aside0.mk A350
  clear A350
  have H' := Aside0.mk H
  clear H
  have hnb36 := NB527_517.out
  have hnc36 := NB517_527.out
  obtain ⟨hcz37_0, hcz37_1, hcz37_2, hfz37_0, hfz37_1, hfz37_2⟩ := cf3 BK527.out
  try go_wp2
  have n0_ := Aside0.mk (Kd.S_drew HO_5.out)
  have n1_ := Aside0.mk (Kd.V_drew HO_528001.out)
  have n2_ := Aside0.mk (Kd.V_drew HO_528002.out)
  have n3_ := Aside0.mk (blk_drew BK517.out)
  have n4_ := Aside0.mk (blk_drew BK527.out)
  have n5_ := Aside0.mk (below_drew1 HB.out)
  clear HO_5 HO_528001 HO_528002 BK517 BK527 HB
  have HO_5 := n0_
  have HO_528001 := n1_
  have HO_528002 := n2_
  have BK517 := n3_
  have BK527 := n4_
  have HB := n5_
  clear n0_ n1_ n2_ n3_ n4_ n5_
  refine start_ (n := 8) (S := fun w' => w'.cell? ⟨gb527, 0, none⟩ = some (.string t519) ∧ w'.cell? ⟨gb527, 1, none⟩ = some (.slice Ao13 t520.length co13) ∧ w'.cell? ⟨gb527, 2, none⟩ = some (.slice Ao14 t523.length co14)) (ds := []) #[false, false, false, false, false, false, false, false] (by kernel_rfl) rfl rfl ⟨(blk_cell BK527.out 0).trans rfl, (blk_cell BK527.out 1).trans rfl, (blk_cell BK527.out 2).trans rfl⟩ (fun hHeld => ?_); refine with_tabW petrinetlaw09_NetOpposites.tab12 petrinetlaw09_NetOpposites.bits12 (fun HT_ HW_ => ?_)
  generalize wr.drew = w38 at HO_5 HO_528001 HO_528002 BK517 BK527 HB hHeld ⊢
  refine pure_ (i := 1) (N := some 49) (v := ?_) (a' := ?_) #[false, true, false, false, false, false, false, false] rfl rfl (any_of HT_.out (by kernel_rfl)) (fun _ _ _ h => h) (Or.inl ⟨by rfl, ?_⟩) ?_ ?_
  rotate_left
  · intro w'
    go_simp
    with_reducible rfl
  rotate_left
  · simp only [Act.put, List.setIfInBounds_toArray, List.set_cons_zero, List.set_cons_succ, i64_w, i32_w]
    rfl
  refine pure_ (i := 4) (N := some 52) (v := ?_) (a' := ?_) #[false, true, false, false, true, false, false, false] rfl rfl (any_of HT_.out (by kernel_rfl)) (fun _ _ _ h => h) (Or.inl ⟨by rfl, ?_⟩) ?_ ?_
  rotate_left
  · intro w'
    go_simp
    with_reducible rfl
  rotate_left
  · simp only [Act.put, List.setIfInBounds_toArray, List.set_cons_zero, List.set_cons_succ, i64_w, i32_w]
    rfl
  refine take_ (i := 0) (N := some 48) (v := ?_) (a' := ?_) #[true, true, false, false, true, false, false, false] rfl rfl (take_ofW HT_.out HW_.out (by kernel_rfl)) (fun _ _ _ h => h) (Or.inl ⟨by rfl, ?_⟩) hHeld ?_ ?_
  rotate_left
  · rintro w' ⟨s0, s1, s2⟩
    go_simp
    with_reducible rfl
  rotate_left
  · simp only [Act.put, List.setIfInBounds_toArray, List.set_cons_zero, List.set_cons_succ, i64_w, i32_w]
    rfl
  refine take_ (i := 3) (N := some 51) (v := ?_) (a' := ?_) #[true, true, false, true, true, false, false, false] rfl rfl (take_ofW HT_.out HW_.out (by kernel_rfl)) (fun _ _ _ h => h) (Or.inl ⟨by rfl, ?_⟩) hHeld ?_ ?_
  rotate_left
  · rintro w' ⟨s0, s1, s2⟩
    go_simp
    with_reducible rfl
  rotate_left
  · simp only [Act.put, List.setIfInBounds_toArray, List.set_cons_zero, List.set_cons_succ, i64_w, i32_w]
    rfl
  refine one_ (i := 2) (N := some 50) #[true, true, true, true, true, false, false, false] rfl rfl (one_of HT_.out (by kernel_rfl)) (by decide) (fun K hK => ?_)
  refine goes_ Try.func33 (by kernel_rfl) rfl #[.agg #[.string t519, .slice Ao13 t520.length co13, .slice Ao14 t523.length co14], .int .i64 x6_3] (by rfl) rfl rfl pgz ?_
  with_reducible refine (net_Inputs.calls k3 t519 _ _ t520 _ _ t523 x6_3 t533 _ ?side1 ?side2 ?side3 ?side4 A34.out).mono ?_
  (case side1 => repeat (first | exact (Kd.V_reads' HO_528001.out).2.2 | (with_reducible refine Kd.C_alloc ?_ _) | (with_reducible refine Kd.C_drewN ?_ _) | (with_reducible refine Kd.C_drew ?_)))
  (case side2 => exact (Kd.V_reads' HO_528001.out).2.1)
  (case side3 => repeat (first | exact (Kd.V_reads' HO_528002.out).2.2 | (with_reducible refine Kd.C_alloc ?_ _) | (with_reducible refine Kd.C_drewN ?_ _) | (with_reducible refine Kd.C_drew ?_)))
  (case side4 => exact (Kd.V_reads' HO_528002.out).2.1)
  rintro e w39 ⟨v534, rfl, ho0, hb⟩
  refine ⟨_, rfl, ?_⟩
  have n0_ := Aside0.mk (Kd.S_below (by (with_reducible repeat (first | apply Kd.S_alloc | apply Kd.S_drewN | apply Kd.S_drew)); exact HO_5.out) hb)
  have n1_ := Aside0.mk (Kd.V_elder' (by (with_reducible repeat (first | apply Kd.V_alloc | apply Kd.V_drewN | apply Kd.V_drew)); exact HO_528001.out) (Kd.R_base ho0) hb)
  have n2_ := Aside0.mk (Kd.V_elder' (by (with_reducible repeat (first | apply Kd.V_alloc | apply Kd.V_drewN | apply Kd.V_drew)); exact HO_528002.out) (Kd.R_base ho0) hb)
  have n3_ := Aside0.mk (Kd.R_lower ho0 (below_size (by repeat (first | (with_reducible first | exact HB.out | apply below_alloc | apply pw_below_drewN | apply below_drew1 | refine below_set ?_ GE517.out | refine below_set ?_ GE527.out) | exact HB.out))))
  have n4_ := Aside0.mk (blk_below (g := gb517) (o := .cells #[.string a0_0, .slice A0_1 l0_1.length c0_1, .slice A0_2 l0_2.length c0_2] 25 (0, 0)) (by (with_reducible repeat (first | refine blk_drewN ?_ _ | refine blk_drew ?_ | refine blk_alloc ?_ _)); exact BK517.out) hb)
  have n5_ := Aside0.mk (blk_below (g := gb527) (o := .cells #[.string t519, .slice Ao13 t520.length co13, .slice Ao14 t523.length co14] 25 (0, 0)) (by (with_reducible repeat (first | refine blk_drewN ?_ _ | refine blk_drew ?_ | refine blk_alloc ?_ _)); exact BK527.out) hb)
  have n6_ := Aside0.mk (below_step (by repeat (first | (with_reducible first | exact HB.out | apply below_alloc | apply pw_below_drewN | apply below_drew1 | refine below_set ?_ GE517.out | refine below_set ?_ GE527.out) | exact HB.out)) hb)
  clear HO_5 HO_528001 HO_528002 BK517 BK527 HB
  have HO_5 := n0_
  have HO_528001 := n1_
  have HO_528002 := n2_
  have HO535 := n3_
  have BK517 := n4_
  have BK527 := n5_
  have HB := n6_
  clear n0_ n1_ n2_ n3_ n4_ n5_ n6_
  (try clear hb)
  (try clear hb2)
  (try clear hk)
  (try clear hi)
  (try clear ho0)
  refine hK.out _ _ ⟨(blk_cell BK527.out 0).trans rfl, (blk_cell BK527.out 1).trans rfl, (blk_cell BK527.out 2).trans rfl⟩ (fun hHeld => ?_)
  clear hK K
  refine norm_ (a' := ?_) ?_ ?_
  rotate_left
  · show Act.put _ (some 50) _ = _
    simp only [Act.put, List.setIfInBounds_toArray, List.set_cons_zero, List.set_cons_succ, i64_w, i32_w]
    rfl
  refine one_ (i := 5) (N := some 53) #[true, true, true, true, true, true, false, false] rfl rfl (one_of HT_.out (by kernel_rfl)) (by decide) (fun K hK => ?_)
  refine goes_ Try.func35 (by kernel_rfl) rfl #[.agg #[.string t519, .slice Ao13 t520.length co13, .slice Ao14 t523.length co14], .int .i64 x6_3] (by rfl) rfl rfl pgz ?_
  with_reducible refine (net_Outputs.calls k3 t519 _ _ t520 _ _ t523 x6_3 t536 _ ?side1 ?side2 ?side3 ?side4 A35.out).mono ?_
  (case side1 => repeat (first | exact (Kd.V_reads' HO_528001.out).2.2 | (with_reducible refine Kd.C_alloc ?_ _) | (with_reducible refine Kd.C_drewN ?_ _) | (with_reducible refine Kd.C_drew ?_)))
  (case side2 => exact (Kd.V_reads' HO_528001.out).2.1)
  (case side3 => repeat (first | exact (Kd.V_reads' HO_528002.out).2.2 | (with_reducible refine Kd.C_alloc ?_ _) | (with_reducible refine Kd.C_drewN ?_ _) | (with_reducible refine Kd.C_drew ?_)))
  (case side4 => exact (Kd.V_reads' HO_528002.out).2.1)
  rintro e w40 ⟨v537, rfl, ho0, hb⟩
  refine ⟨_, rfl, ?_⟩
  have n0_ := Aside0.mk (Kd.S_below (by (with_reducible repeat (first | apply Kd.S_alloc | apply Kd.S_drewN | apply Kd.S_drew)); exact HO_5.out) hb)
  have n1_ := Aside0.mk (Kd.V_elder' (by (with_reducible repeat (first | apply Kd.V_alloc | apply Kd.V_drewN | apply Kd.V_drew)); exact HO_528001.out) (Kd.R_base ho0) hb)
  have n2_ := Aside0.mk (Kd.V_elder' (by (with_reducible repeat (first | apply Kd.V_alloc | apply Kd.V_drewN | apply Kd.V_drew)); exact HO_528002.out) (Kd.R_base ho0) hb)
  have n3_ := Aside0.mk (Kd.R_elder' (by (with_reducible repeat (first | apply Kd.R_alloc | apply Kd.R_drewN | apply Kd.R_drew)); exact HO535.out) (Kd.R_base ho0) hb)
  have n4_ := Aside0.mk (Kd.R_lower (Kd.R_new' ho0 (Kd.R_lt (by (with_reducible repeat (first | apply Kd.R_alloc | apply Kd.R_drewN | apply Kd.R_drew)); exact HO535.out))) (below_size (by repeat (first | (with_reducible first | exact HB.out | apply below_alloc | apply pw_below_drewN | apply below_drew1 | refine below_set ?_ GE517.out | refine below_set ?_ GE527.out) | exact HB.out))))
  have n5_ := Aside0.mk (blk_below (g := gb517) (o := .cells #[.string a0_0, .slice A0_1 l0_1.length c0_1, .slice A0_2 l0_2.length c0_2] 25 (0, 0)) (by (with_reducible repeat (first | refine blk_drewN ?_ _ | refine blk_drew ?_ | refine blk_alloc ?_ _)); exact BK517.out) hb)
  have n6_ := Aside0.mk (blk_below (g := gb527) (o := .cells #[.string t519, .slice Ao13 t520.length co13, .slice Ao14 t523.length co14] 25 (0, 0)) (by (with_reducible repeat (first | refine blk_drewN ?_ _ | refine blk_drew ?_ | refine blk_alloc ?_ _)); exact BK527.out) hb)
  have n7_ := Aside0.mk (below_step (by repeat (first | (with_reducible first | exact HB.out | apply below_alloc | apply pw_below_drewN | apply below_drew1 | refine below_set ?_ GE517.out | refine below_set ?_ GE527.out) | exact HB.out)) hb)
  clear HO_5 HO_528001 HO_528002 HO535 BK517 BK527 HB
  have HO_5 := n0_
  have HO_528001 := n1_
  have HO_528002 := n2_
  have HO535 := n3_
  have HO538 := n4_
  have BK517 := n5_
  have BK527 := n6_
  have HB := n7_
  clear n0_ n1_ n2_ n3_ n4_ n5_ n6_ n7_
  (try clear hb)
  (try clear hb2)
  (try clear hk)
  (try clear hi)
  (try clear ho0)
  refine hK.out _ _ ⟨(blk_cell BK527.out 0).trans rfl, (blk_cell BK527.out 1).trans rfl, (blk_cell BK527.out 2).trans rfl⟩ (fun hHeld => ?_)
  clear hK K
  refine norm_ (a' := ?_) ?_ ?_
  rotate_left
  · show Act.put _ (some 53) _ = _
    simp only [Act.put, List.setIfInBounds_toArray, List.set_cons_zero, List.set_cons_succ, i64_w, i32_w]
    rfl
  refine pure_ (i := 6) (N := some 7) (v := ?_) (a' := ?_) #[true, true, true, true, true, true, true, false] rfl rfl (any_of HT_.out (by kernel_rfl)) (fun _ _ _ h => h) (Or.inl ⟨by rfl, ?_⟩) ?_ ?_
  rotate_left
  · intro w'
    go_simp
    with_reducible rfl
  rotate_left
  · simp only [Act.put, List.setIfInBounds_toArray, List.set_cons_zero, List.set_cons_succ, i64_w, i32_w]
    rfl
  refine pure_ (i := 7) (N := some 8) (v := ?_) (a' := ?_) #[true, true, true, true, true, true, true, true] rfl rfl (any_of HT_.out (by kernel_rfl)) (fun _ _ _ h => h) (Or.inl ⟨by rfl, ?_⟩) ?_ ?_
  rotate_left
  · intro w'
    go_simp
    with_reducible rfl
  rotate_left
  · simp only [Act.put, List.setIfInBounds_toArray, List.set_cons_zero, List.set_cons_succ, i64_w, i32_w]
    rfl
  refine done_ (done_of HT_.out (by kernel_rfl)) ?_
  try go_wp2
  go_loopg [9] k3 (fun kq v9 w' => ∃ (x9_4 : Int), v9 = .int .i64 x9_4 ∧ Aside0 (petrinetlaw09_NetOpposites.l1 kq t530 x6_3 t533 t536 x9_4 t519 t520 t523 = some r) ∧ Aside0 (kq ≤ k3) ∧ Aside0 (Kd.S (Kd.slice 2 (Kd.int .i64)) 48 w' w.heap.size (fun _ => True) v531 t530) ∧ Aside0 (Kd.R (Kd.int .i64) 3 w' w.heap.size (fun k_ => some k_ ≠ (v537 : Value).ownBlock) v534 t533) ∧ Aside0 (Kd.R (Kd.int .i64) 3 w' w.heap.size (fun k_ => some k_ ≠ (v534 : Value).ownBlock) v537 t536) ∧ Aside0 (Kd.V k50 50 w' w.heap.size (fun k_ => some k_ ≠ (v531 : Value).ownBlock ∧ some k_ ≠ (v534 : Value).ownBlock ∧ some k_ ≠ (v537 : Value).ownBlock ∧ k_ ≠ gb517 ∧ k_ ≠ gb527) (.slice Ao13 t520.length co13) t520) ∧ Aside0 (Kd.V k53 53 w' w.heap.size (fun k_ => some k_ ≠ (v531 : Value).ownBlock ∧ some k_ ≠ (v534 : Value).ownBlock ∧ some k_ ≠ (v537 : Value).ownBlock ∧ k_ ≠ gb517 ∧ k_ ≠ gb527) (.slice Ao14 t523.length co14) t523) ∧ Aside0 (w'.heap[gb517]? = some (.cells #[.string a0_0, (.slice A0_1 l0_1.length c0_1), (.slice A0_2 l0_2.length c0_2)] 25 (0, 0))) ∧ Aside0 (w'.heap[gb527]? = some (.cells #[.string t519, (.slice Ao13 t520.length co13), (.slice Ao14 t523.length co14)] 25 (0, 0))) ∧ Aside0 (Below w.heap.size w w'))
  case atStart => exact ⟨(0), prs, H', ⟨Nat.le_refl _⟩, ⟨by (with_reducible repeat (first | apply Kd.S_alloc | apply Kd.S_drewN | apply Kd.S_drew)); exact HO_5.out⟩, ⟨by (with_reducible repeat (first | apply Kd.R_alloc | apply Kd.R_drewN | apply Kd.R_drew)); exact Kd.R_mono HO535.out (fun _ hk => hk.2)⟩, ⟨by (with_reducible repeat (first | apply Kd.R_alloc | apply Kd.R_drewN | apply Kd.R_drew)); exact Kd.R_mono HO538.out (fun _ hk => hk.2)⟩, ⟨by (with_reducible repeat (first | apply Kd.V_alloc | apply Kd.V_drewN | apply Kd.V_drew)); exact Kd.V_mono HO_528001.out (fun _ hk => ⟨hk.1.1.1, ⟨hk.1.2, ⟨hk.2, ⟨hk.1.1.2.1, hk.1.1.2.2⟩⟩⟩⟩)⟩, ⟨by (with_reducible repeat (first | apply Kd.V_alloc | apply Kd.V_drewN | apply Kd.V_drew)); exact Kd.V_mono HO_528002.out (fun _ hk => ⟨hk.1.1.1, ⟨hk.1.2, ⟨hk.2, ⟨hk.1.1.2.1, hk.1.1.2.2⟩⟩⟩⟩)⟩, ⟨by (with_reducible repeat (first | refine blk_drewN ?_ _ | refine blk_drew ?_ | refine blk_alloc ?_ _)); exact BK517.out⟩, ⟨by (with_reducible repeat (first | refine blk_drewN ?_ _ | refine blk_drew ?_ | refine blk_alloc ?_ _)); exact BK527.out⟩, ⟨by repeat (first | (with_reducible first | exact HB.out | apply below_alloc | apply pw_below_drewN | apply below_drew1 | refine below_set ?_ GE517.out | refine below_set ?_ GE527.out) | exact HB.out)⟩⟩
  clear H'
  try clear c3
  try clear c15
  try clear c20
  try clear c26
  try clear c26b0
  try clear c26b1
  try clear c32
  try clear c33
  try clear c33b0
  try clear hcz12_0
  try clear hcz12_1
  try clear hcz12_2
  try clear hcz18_0
  try clear hcz18_1
  try clear hcz18_2
  try clear hcz24_0
  try clear hcz24_1
  try clear hcz24_2
  try clear hcz28_0
  try clear hcz28_1
  try clear hcz28_2
  try clear hcz31_0
  try clear hcz31_1
  try clear hcz31_2
  try clear hcz37_0
  try clear hcz37_1
  try clear hcz37_2
  try clear hcz8_0
  try clear hcz8_1
  try clear hcz8_2
  try clear hfz12_0
  try clear hfz12_1
  try clear hfz12_2
  try clear hfz18_0
  try clear hfz18_1
  try clear hfz18_2
  try clear hfz24_0
  try clear hfz24_1
  try clear hfz24_2
  try clear hfz28_0
  try clear hfz28_1
  try clear hfz28_2
  try clear hfz31_0
  try clear hfz31_1
  try clear hfz31_2
  try clear hfz37_0
  try clear hfz37_1
  try clear hfz37_2
  try clear hfz8_0
  try clear hfz8_1
  try clear hfz8_2
  obtain ⟨x9_4, rfl, HA, HK4, HO_5, HO_7, HO_8, HO_528001, HO_528002, BK517, BK527, HB⟩ := hrel
  obtain _ | k4 := gk
  · exact absurd HA.out (by simp [petrinetlaw09_NetOpposites.l1])
  have H := HA.out
  clear HA
  simp only [petrinetlaw09_NetOpposites.l1] at H
  by_cases c41 : x9_4 < (t520.length : Int)
  rotate_left
  · rw [if_neg c41] at H
    have c41b0 : decide (x9_4 < (t520.length : Int)) = false := decide_eq_false c41
    clear c41
    have H' := Aside0.mk H
    clear H
    have hnb79 := NB527_517.out
    have hnc79 := NB517_527.out
    obtain ⟨hcz80_0, hcz80_1, hcz80_2, hfz80_0, hfz80_1, hfz80_2⟩ := cf3 BK527.out
    go_wp2
    go_roundg k4
    case measure => have := HJ4.out; have := HJ21.out; have := HK3.out; have := HK4.out; omega
    case rel => exact ⟨(wrap64 (x6_3 + 1)), prs, H', ⟨by have := HJ4.out; have := HJ21.out; have := HK3.out; have := HK4.out; omega⟩, ⟨by (with_reducible repeat (first | apply Kd.S_alloc | apply Kd.S_drewN | apply Kd.S_drew)); exact HO_5.out⟩, ⟨by (with_reducible repeat (first | apply Kd.V_alloc | apply Kd.V_drewN | apply Kd.V_drew)); exact Kd.V_mono HO_528001.out (fun _ hk => ⟨hk.1, ⟨hk.2.2.2.1, hk.2.2.2.2⟩⟩)⟩, ⟨by (with_reducible repeat (first | apply Kd.V_alloc | apply Kd.V_drewN | apply Kd.V_drew)); exact Kd.V_mono HO_528002.out (fun _ hk => ⟨hk.1, ⟨hk.2.2.2.1, hk.2.2.2.2⟩⟩)⟩, ⟨by (with_reducible repeat (first | refine blk_drewN ?_ _ | refine blk_drew ?_ | refine blk_alloc ?_ _)); exact BK517.out⟩, ⟨by (with_reducible repeat (first | refine blk_drewN ?_ _ | refine blk_drew ?_ | refine blk_alloc ?_ _)); exact BK527.out⟩, ⟨by repeat (first | (with_reducible first | exact HB.out | apply below_alloc | apply pw_below_drewN | apply below_drew1 | refine below_set ?_ GE517.out | refine below_set ?_ GE527.out) | exact HB.out)⟩⟩
  rw [if_pos c41] at H
  have c41b0 : decide (x9_4 < (t520.length : Int)) = true := decide_eq_true c41
  clear c41
  replace H := Option.bind_eq_some_iff.mp H
  obtain ⟨t539, A420, H⟩ := H
  replace H : ((net_Post.f k4 t519 t520 t523 x6_3 x9_4).bind fun t540 => ((petrinetlaw09_contains.f k4 t533 x9_4).bind fun t541 => (if (t541 != (decide (t539 > 0))) = true then (none) else ((net_Consumers.f k4 t519 t520 t523 x9_4).bind fun t542 => ((petrinetlaw09_contains.f k4 t542 x6_3).bind fun t545 => (petrinetlaw09_NetOpposites.j4 k4 t530 x6_3 t533 t536 x9_4 t539 t540 (t545 != (decide (t539 > 0))) t519 t520 t523)))))) = some r := H
  have A42 := Aside0.mk A420
  clear A420
  replace H := Option.bind_eq_some_iff.mp H
  obtain ⟨t540, A430, H⟩ := H
  replace H : ((petrinetlaw09_contains.f k4 t533 x9_4).bind fun t541 => (if (t541 != (decide (t539 > 0))) = true then (none) else ((net_Consumers.f k4 t519 t520 t523 x9_4).bind fun t542 => ((petrinetlaw09_contains.f k4 t542 x6_3).bind fun t545 => (petrinetlaw09_NetOpposites.j4 k4 t530 x6_3 t533 t536 x9_4 t539 t540 (t545 != (decide (t539 > 0))) t519 t520 t523))))) = some r := H
  have A43 := Aside0.mk A430
  clear A430
  have HC44 := Aside0.mk H
  clear H
  have hnb45 := NB527_517.out
  have hnc45 := NB517_527.out
  obtain ⟨hcz46_0, hcz46_1, hcz46_2, hfz46_0, hfz46_1, hfz46_2⟩ := cf3 BK527.out
  try go_wp2
  have n0_ := Aside0.mk (Kd.S_drew HO_5.out)
  have n1_ := Aside0.mk (Kd.R_drew HO_7.out)
  have n2_ := Aside0.mk (Kd.R_drew HO_8.out)
  have n3_ := Aside0.mk (Kd.V_drew HO_528001.out)
  have n4_ := Aside0.mk (Kd.V_drew HO_528002.out)
  have n5_ := Aside0.mk (blk_drew BK517.out)
  have n6_ := Aside0.mk (blk_drew BK527.out)
  have n7_ := Aside0.mk (below_drew1 HB.out)
  clear HO_5 HO_7 HO_8 HO_528001 HO_528002 BK517 BK527 HB
  have HO_5 := n0_
  have HO_7 := n1_
  have HO_8 := n2_
  have HO_528001 := n3_
  have HO_528002 := n4_
  have BK517 := n5_
  have BK527 := n6_
  have HB := n7_
  clear n0_ n1_ n2_ n3_ n4_ n5_ n6_ n7_
  refine start_ (n := 10) (S := fun w' => w'.cell? ⟨gb527, 0, none⟩ = some (.string t519) ∧ w'.cell? ⟨gb527, 1, none⟩ = some (.slice Ao13 t520.length co13) ∧ w'.cell? ⟨gb527, 2, none⟩ = some (.slice Ao14 t523.length co14)) (ds := []) #[false, false, false, false, false, false, false, false, false, false] (by kernel_rfl) rfl rfl ⟨(blk_cell BK527.out 0).trans rfl, (blk_cell BK527.out 1).trans rfl, (blk_cell BK527.out 2).trans rfl⟩ (fun hHeld => ?_); refine with_tabW petrinetlaw09_NetOpposites.tab16 petrinetlaw09_NetOpposites.bits16 (fun HT_ HW_ => ?_)
  generalize wr.drew = w47 at HO_5 HO_7 HO_8 HO_528001 HO_528002 BK517 BK527 HB hHeld ⊢
  refine pure_ (i := 1) (N := some 62) (v := ?_) (a' := ?_) #[false, true, false, false, false, false, false, false, false, false] rfl rfl (any_of HT_.out (by kernel_rfl)) (fun _ _ _ h => h) (Or.inl ⟨by rfl, ?_⟩) ?_ ?_
  rotate_left
  · intro w'
    go_simp
    with_reducible rfl
  rotate_left
  · simp only [Act.put, List.setIfInBounds_toArray, List.set_cons_zero, List.set_cons_succ, i64_w, i32_w]
    rfl
  refine pure_ (i := 2) (N := some 63) (v := ?_) (a' := ?_) #[false, true, true, false, false, false, false, false, false, false] rfl rfl (any_of HT_.out (by kernel_rfl)) (fun _ _ _ h => h) (Or.inl ⟨by rfl, ?_⟩) ?_ ?_
  rotate_left
  · intro w'
    go_simp
    with_reducible rfl
  rotate_left
  · simp only [Act.put, List.setIfInBounds_toArray, List.set_cons_zero, List.set_cons_succ, i64_w, i32_w]
    rfl
  refine pure_ (i := 5) (N := some 66) (v := ?_) (a' := ?_) #[false, true, true, false, false, true, false, false, false, false] rfl rfl (any_of HT_.out (by kernel_rfl)) (fun _ _ _ h => h) (Or.inl ⟨by rfl, ?_⟩) ?_ ?_
  rotate_left
  · intro w'
    go_simp
    with_reducible rfl
  rotate_left
  · simp only [Act.put, List.setIfInBounds_toArray, List.set_cons_zero, List.set_cons_succ, i64_w, i32_w]
    rfl
  refine pure_ (i := 6) (N := some 67) (v := ?_) (a' := ?_) #[false, true, true, false, false, true, true, false, false, false] rfl rfl (any_of HT_.out (by kernel_rfl)) (fun _ _ _ h => h) (Or.inl ⟨by rfl, ?_⟩) ?_ ?_
  rotate_left
  · intro w'
    go_simp
    with_reducible rfl
  rotate_left
  · simp only [Act.put, List.setIfInBounds_toArray, List.set_cons_zero, List.set_cons_succ, i64_w, i32_w]
    rfl
  refine take_ (i := 0) (N := some 61) (v := ?_) (a' := ?_) #[true, true, true, false, false, true, true, false, false, false] rfl rfl (take_ofW HT_.out HW_.out (by kernel_rfl)) (fun _ _ _ h => h) (Or.inl ⟨by rfl, ?_⟩) hHeld ?_ ?_
  rotate_left
  · rintro w' ⟨s0, s1, s2⟩
    go_simp
    with_reducible rfl
  rotate_left
  · simp only [Act.put, List.setIfInBounds_toArray, List.set_cons_zero, List.set_cons_succ, i64_w, i32_w]
    rfl
  refine take_ (i := 4) (N := some 65) (v := ?_) (a' := ?_) #[true, true, true, false, true, true, true, false, false, false] rfl rfl (take_ofW HT_.out HW_.out (by kernel_rfl)) (fun _ _ _ h => h) (Or.inl ⟨by rfl, ?_⟩) hHeld ?_ ?_
  rotate_left
  · rintro w' ⟨s0, s1, s2⟩
    go_simp
    with_reducible rfl
  rotate_left
  · simp only [Act.put, List.setIfInBounds_toArray, List.set_cons_zero, List.set_cons_succ, i64_w, i32_w]
    rfl
  refine one_ (i := 3) (N := some 64) #[true, true, true, true, true, true, true, false, false, false] rfl rfl (one_of HT_.out (by kernel_rfl)) (by decide) (fun K hK => ?_)
  refine goes_ Try.func29 (by kernel_rfl) rfl #[.agg #[.string t519, .slice Ao13 t520.length co13, .slice Ao14 t523.length co14], .int .i64 x6_3, .int .i64 x9_4] (by rfl) rfl rfl pgz ?_
  with_reducible refine (net_Pre.calls k4 t519 _ _ t520 _ _ t523 x6_3 x9_4 t539 _ ?side1 ?side2 ?side3 ?side4 A42.out).mono ?_
  (case side1 => repeat (first | exact (Kd.V_reads' HO_528001.out).2.2 | (with_reducible refine Kd.C_alloc ?_ _) | (with_reducible refine Kd.C_drewN ?_ _) | (with_reducible refine Kd.C_drew ?_)))
  (case side2 => exact (Kd.V_reads' HO_528001.out).2.1)
  (case side3 => repeat (first | exact (Kd.V_reads' HO_528002.out).2.2 | (with_reducible refine Kd.C_alloc ?_ _) | (with_reducible refine Kd.C_drewN ?_ _) | (with_reducible refine Kd.C_drew ?_)))
  (case side4 => exact (Kd.V_reads' HO_528002.out).2.1)
  rintro e w48 ⟨rfl, hb⟩
  refine ⟨_, rfl, ?_⟩
  have n0_ := Aside0.mk (Kd.S_below (by (with_reducible repeat (first | apply Kd.S_alloc | apply Kd.S_drewN | apply Kd.S_drew)); exact HO_5.out) hb)
  have n1_ := Aside0.mk (Kd.R_below (by (with_reducible repeat (first | apply Kd.R_alloc | apply Kd.R_drewN | apply Kd.R_drew)); exact HO_7.out) hb)
  have n2_ := Aside0.mk (Kd.R_below (by (with_reducible repeat (first | apply Kd.R_alloc | apply Kd.R_drewN | apply Kd.R_drew)); exact HO_8.out) hb)
  have n3_ := Aside0.mk (Kd.V_below (by (with_reducible repeat (first | apply Kd.V_alloc | apply Kd.V_drewN | apply Kd.V_drew)); exact HO_528001.out) hb)
  have n4_ := Aside0.mk (Kd.V_below (by (with_reducible repeat (first | apply Kd.V_alloc | apply Kd.V_drewN | apply Kd.V_drew)); exact HO_528002.out) hb)
  have n5_ := Aside0.mk (blk_below (g := gb517) (o := .cells #[.string a0_0, .slice A0_1 l0_1.length c0_1, .slice A0_2 l0_2.length c0_2] 25 (0, 0)) (by (with_reducible repeat (first | refine blk_drewN ?_ _ | refine blk_drew ?_ | refine blk_alloc ?_ _)); exact BK517.out) hb)
  have n6_ := Aside0.mk (blk_below (g := gb527) (o := .cells #[.string t519, .slice Ao13 t520.length co13, .slice Ao14 t523.length co14] 25 (0, 0)) (by (with_reducible repeat (first | refine blk_drewN ?_ _ | refine blk_drew ?_ | refine blk_alloc ?_ _)); exact BK527.out) hb)
  have n7_ := Aside0.mk (below_step (by repeat (first | (with_reducible first | exact HB.out | apply below_alloc | apply pw_below_drewN | apply below_drew1 | refine below_set ?_ GE517.out | refine below_set ?_ GE527.out) | exact HB.out)) hb)
  clear HO_5 HO_7 HO_8 HO_528001 HO_528002 BK517 BK527 HB
  have HO_5 := n0_
  have HO_7 := n1_
  have HO_8 := n2_
  have HO_528001 := n3_
  have HO_528002 := n4_
  have BK517 := n5_
  have BK527 := n6_
  have HB := n7_
  clear n0_ n1_ n2_ n3_ n4_ n5_ n6_ n7_
  (try clear hb)
  (try clear hb2)
  (try clear hk)
  (try clear hi)
  refine hK.out _ _ ⟨(blk_cell BK527.out 0).trans rfl, (blk_cell BK527.out 1).trans rfl, (blk_cell BK527.out 2).trans rfl⟩ (fun hHeld => ?_)
  clear hK K
  refine norm_ (a' := ?_) ?_ ?_
  rotate_left
  · show Act.put _ (some 64) _ = _
    simp only [Act.put, List.setIfInBounds_toArray, List.set_cons_zero, List.set_cons_succ, i64_w, i32_w]
    rfl
  refine one_ (i := 7) (N := some 68) #[true, true, true, true, true, true, true, true, false, false] rfl rfl (one_of HT_.out (by kernel_rfl)) (by decide) (fun K hK => ?_)
  refine goes_ Try.func31 (by kernel_rfl) rfl #[.agg #[.string t519, .slice Ao13 t520.length co13, .slice Ao14 t523.length co14], .int .i64 x6_3, .int .i64 x9_4] (by rfl) rfl rfl pgz ?_
  with_reducible refine (net_Post.calls k4 t519 _ _ t520 _ _ t523 x6_3 x9_4 t540 _ ?side1 ?side2 ?side3 ?side4 A43.out).mono ?_
  (case side1 => repeat (first | exact (Kd.V_reads' HO_528001.out).2.2 | (with_reducible refine Kd.C_alloc ?_ _) | (with_reducible refine Kd.C_drewN ?_ _) | (with_reducible refine Kd.C_drew ?_)))
  (case side2 => exact (Kd.V_reads' HO_528001.out).2.1)
  (case side3 => repeat (first | exact (Kd.V_reads' HO_528002.out).2.2 | (with_reducible refine Kd.C_alloc ?_ _) | (with_reducible refine Kd.C_drewN ?_ _) | (with_reducible refine Kd.C_drew ?_)))
  (case side4 => exact (Kd.V_reads' HO_528002.out).2.1)
  rintro e w49 ⟨rfl, hb⟩
  refine ⟨_, rfl, ?_⟩
  have n0_ := Aside0.mk (Kd.S_below (by (with_reducible repeat (first | apply Kd.S_alloc | apply Kd.S_drewN | apply Kd.S_drew)); exact HO_5.out) hb)
  have n1_ := Aside0.mk (Kd.R_below (by (with_reducible repeat (first | apply Kd.R_alloc | apply Kd.R_drewN | apply Kd.R_drew)); exact HO_7.out) hb)
  have n2_ := Aside0.mk (Kd.R_below (by (with_reducible repeat (first | apply Kd.R_alloc | apply Kd.R_drewN | apply Kd.R_drew)); exact HO_8.out) hb)
  have n3_ := Aside0.mk (Kd.V_below (by (with_reducible repeat (first | apply Kd.V_alloc | apply Kd.V_drewN | apply Kd.V_drew)); exact HO_528001.out) hb)
  have n4_ := Aside0.mk (Kd.V_below (by (with_reducible repeat (first | apply Kd.V_alloc | apply Kd.V_drewN | apply Kd.V_drew)); exact HO_528002.out) hb)
  have n5_ := Aside0.mk (blk_below (g := gb517) (o := .cells #[.string a0_0, .slice A0_1 l0_1.length c0_1, .slice A0_2 l0_2.length c0_2] 25 (0, 0)) (by (with_reducible repeat (first | refine blk_drewN ?_ _ | refine blk_drew ?_ | refine blk_alloc ?_ _)); exact BK517.out) hb)
  have n6_ := Aside0.mk (blk_below (g := gb527) (o := .cells #[.string t519, .slice Ao13 t520.length co13, .slice Ao14 t523.length co14] 25 (0, 0)) (by (with_reducible repeat (first | refine blk_drewN ?_ _ | refine blk_drew ?_ | refine blk_alloc ?_ _)); exact BK527.out) hb)
  have n7_ := Aside0.mk (below_step (by repeat (first | (with_reducible first | exact HB.out | apply below_alloc | apply pw_below_drewN | apply below_drew1 | refine below_set ?_ GE517.out | refine below_set ?_ GE527.out) | exact HB.out)) hb)
  clear HO_5 HO_7 HO_8 HO_528001 HO_528002 BK517 BK527 HB
  have HO_5 := n0_
  have HO_7 := n1_
  have HO_8 := n2_
  have HO_528001 := n3_
  have HO_528002 := n4_
  have BK517 := n5_
  have BK527 := n6_
  have HB := n7_
  clear n0_ n1_ n2_ n3_ n4_ n5_ n6_ n7_
  (try clear hb)
  (try clear hb2)
  (try clear hk)
  (try clear hi)
  refine hK.out _ _ ⟨(blk_cell BK527.out 0).trans rfl, (blk_cell BK527.out 1).trans rfl, (blk_cell BK527.out 2).trans rfl⟩ (fun hHeld => ?_)
  clear hK K
  refine norm_ (a' := ?_) ?_ ?_
  rotate_left
  · show Act.put _ (some 68) _ = _
    simp only [Act.put, List.setIfInBounds_toArray, List.set_cons_zero, List.set_cons_succ, i64_w, i32_w]
    rfl
  refine pure_ (i := 8) (N := some 10) (v := ?_) (a' := ?_) #[true, true, true, true, true, true, true, true, true, false] rfl rfl (any_of HT_.out (by kernel_rfl)) (fun _ _ _ h => h) (Or.inl ⟨by rfl, ?_⟩) ?_ ?_
  rotate_left
  · intro w'
    go_simp
    with_reducible rfl
  rotate_left
  · simp only [Act.put, List.setIfInBounds_toArray, List.set_cons_zero, List.set_cons_succ, i64_w, i32_w]
    rfl
  refine pure_ (i := 9) (N := some 11) (v := ?_) (a' := ?_) #[true, true, true, true, true, true, true, true, true, true] rfl rfl (any_of HT_.out (by kernel_rfl)) (fun _ _ _ h => h) (Or.inl ⟨by rfl, ?_⟩) ?_ ?_
  rotate_left
  · intro w'
    go_simp
    with_reducible rfl
  rotate_left
  · simp only [Act.put, List.setIfInBounds_toArray, List.set_cons_zero, List.set_cons_succ, i64_w, i32_w]
    rfl
  refine done_ (done_of HT_.out (by kernel_rfl)) ?_
  go_upto_region 17 with (fail)
  go_cut [84] (fun v84 wc => ∃ (kq : Nat) (x84_43 : Bool), v84 = .bool x84_43 ∧ Aside0 (petrinetlaw09_NetOpposites.j4 kq t530 x6_3 t533 t536 x9_4 t539 t540 x84_43 t519 t520 t523 = some r) ∧ Aside0 (kq ≤ k4) ∧ Aside0 (Kd.S (Kd.slice 2 (Kd.int .i64)) 48 wc w.heap.size (fun _ => True) v531 t530) ∧ Aside0 (Kd.R (Kd.int .i64) 3 wc w.heap.size (fun k_ => some k_ ≠ (v537 : Value).ownBlock) v534 t533) ∧ Aside0 (Kd.R (Kd.int .i64) 3 wc w.heap.size (fun k_ => some k_ ≠ (v534 : Value).ownBlock) v537 t536) ∧ Aside0 (Kd.V k50 50 wc w.heap.size (fun k_ => some k_ ≠ (v531 : Value).ownBlock ∧ some k_ ≠ (v534 : Value).ownBlock ∧ some k_ ≠ (v537 : Value).ownBlock ∧ k_ ≠ gb517 ∧ k_ ≠ gb527) (.slice Ao13 t520.length co13) t520) ∧ Aside0 (Kd.V k53 53 wc w.heap.size (fun k_ => some k_ ≠ (v531 : Value).ownBlock ∧ some k_ ≠ (v534 : Value).ownBlock ∧ some k_ ≠ (v537 : Value).ownBlock ∧ k_ ≠ gb517 ∧ k_ ≠ gb527) (.slice Ao14 t523.length co14) t523) ∧ Aside0 (wc.heap[gb517]? = some (.cells #[.string a0_0, (.slice A0_1 l0_1.length c0_1), (.slice A0_2 l0_2.length c0_2)] 25 (0, 0))) ∧ Aside0 (wc.heap[gb527]? = some (.cells #[.string t519, (.slice Ao13 t520.length co13), (.slice Ao14 t523.length co14)] 25 (0, 0))) ∧ Aside0 (Below w.heap.size w wc))
  case first =>
    have H := HC44.out
    clear HC44
    replace H := Option.bind_eq_some_iff.mp H
    obtain ⟨t541, A500, H⟩ := H
    replace H : (if (t541 != (decide (t539 > 0))) = true then (none) else ((net_Consumers.f k4 t519 t520 t523 x9_4).bind fun t542 => ((petrinetlaw09_contains.f k4 t542 x6_3).bind fun t545 => (petrinetlaw09_NetOpposites.j4 k4 t530 x6_3 t533 t536 x9_4 t539 t540 (t545 != (decide (t539 > 0))) t519 t520 t523)))) = some r := H
    have A50 := Aside0.mk A500
    clear A500
    by_cases c51 : (t541 != (decide (t539 > 0))) = true
    · rw [if_pos c51] at H
      exact absurd H (by simp)
    rw [if_neg c51] at H
    have c51b0 : (t541 != (decide (t539 > 0))) = false := by simpa using c51
    (try (have c51b1 : decide (t541 = (decide (t539 > 0))) = true := by simpa using c51))
    (try (have c51b2 : (t541 == (decide (t539 > 0))) = true := by simpa using c51))
    clear c51
    (first | rw [c51b0] | (simp only [i64_w, i32_w]; rw [c51b0]) | skip)
    replace H := Option.bind_eq_some_iff.mp H
    obtain ⟨t542, A520, H⟩ := H
    replace H : ((petrinetlaw09_contains.f k4 t542 x6_3).bind fun t545 => (petrinetlaw09_NetOpposites.j4 k4 t530 x6_3 t533 t536 x9_4 t539 t540 (t545 != (decide (t539 > 0))) t519 t520 t523)) = some r := H
    have A52 := Aside0.mk A520
    clear A520
    replace H := Option.bind_eq_some_iff.mp H
    obtain ⟨t545, A530, H⟩ := H
    replace H : (petrinetlaw09_NetOpposites.j4 k4 t530 x6_3 t533 t536 x9_4 t539 t540 (t545 != (decide (t539 > 0))) t519 t520 t523) = some r := H
    have A53 := Aside0.mk A530
    clear A530
    have H' := Aside0.mk H
    clear H
    obtain ⟨Ao54, co54, eo54⟩ := Kd.R_slice HO_7.out
    subst eo54
    go_wp2_with (first | ((with_reducible refine gate_callee (f := 46) rfl ?_); refine goesL_ (some 71) rfl rfl Try.func46 (by kernel_rfl) rfl #[.slice Ao54 t533.length co54, .int .i64 x9_4] rfl pgz ?_; (with_reducible refine (petrinetlaw09_contains.calls k4 _ _ t533 x9_4 t541 _ ?side1 ?side2 A50.out).mono ?_); (case side1 => repeat (first | exact (Kd.R_reads' HO_7.out).2.2 | (with_reducible refine Kd.C_alloc ?_ _) | (with_reducible refine Kd.C_drewN ?_ _) | (with_reducible refine Kd.C_drew ?_))); (case side2 => exact (Kd.R_reads' HO_7.out).2.1); rintro e w' ⟨rfl, ⟨nd, rfl⟩⟩; refine ⟨_, rfl, ?_⟩; have hnb55 := NB527_517.out; have hnc55 := NB517_527.out; obtain ⟨hcz56_0, hcz56_1, hcz56_2, hfz56_0, hfz56_1, hfz56_2⟩ := cf3 BK527.out) | (go_at_call 39; (with_reducible refine (net_Consumers.calls k4 t519 _ _ t520 _ _ t523 x9_4 t542 _ ?side1 ?side2 ?side3 ?side4 A52.out).mono ?_); (case side1 => repeat (first | exact (Kd.V_reads' HO_528001.out).2.2 | (with_reducible refine Kd.C_alloc ?_ _) | (with_reducible refine Kd.C_drewN ?_ _) | (with_reducible refine Kd.C_drew ?_))); (case side2 => exact (Kd.V_reads' HO_528001.out).2.1); (case side3 => repeat (first | exact (Kd.V_reads' HO_528002.out).2.2 | (with_reducible refine Kd.C_alloc ?_ _) | (with_reducible refine Kd.C_drewN ?_ _) | (with_reducible refine Kd.C_drew ?_))); (case side4 => exact (Kd.V_reads' HO_528002.out).2.1); rintro e w57 ⟨v543, rfl, ho0, hb⟩; have n0_ := Aside0.mk (Kd.S_below (by (with_reducible repeat (first | apply Kd.S_alloc | apply Kd.S_drewN | apply Kd.S_drew)); exact HO_5.out) hb); have n1_ := Aside0.mk (Kd.R_elder' (by (with_reducible repeat (first | apply Kd.R_alloc | apply Kd.R_drewN | apply Kd.R_drew)); exact HO_7.out) (Kd.R_base ho0) hb); have n2_ := Aside0.mk (Kd.R_elder' (by (with_reducible repeat (first | apply Kd.R_alloc | apply Kd.R_drewN | apply Kd.R_drew)); exact HO_8.out) (Kd.R_base ho0) hb); have n3_ := Aside0.mk (Kd.V_elder' (by (with_reducible repeat (first | apply Kd.V_alloc | apply Kd.V_drewN | apply Kd.V_drew)); exact HO_528001.out) (Kd.R_base ho0) hb); have n4_ := Aside0.mk (Kd.V_elder' (by (with_reducible repeat (first | apply Kd.V_alloc | apply Kd.V_drewN | apply Kd.V_drew)); exact HO_528002.out) (Kd.R_base ho0) hb); have n5_ := Aside0.mk (Kd.R_lower (Kd.R_new' (Kd.R_new' ho0 (Kd.R_lt (by (with_reducible repeat (first | apply Kd.R_alloc | apply Kd.R_drewN | apply Kd.R_drew)); exact HO_7.out))) (Kd.R_lt (by (with_reducible repeat (first | apply Kd.R_alloc | apply Kd.R_drewN | apply Kd.R_drew)); exact HO_8.out))) (below_size (by repeat (first | (with_reducible first | exact HB.out | apply below_alloc | apply pw_below_drewN | apply below_drew1 | refine below_set ?_ GE517.out | refine below_set ?_ GE527.out) | exact HB.out)))); have n6_ := Aside0.mk (blk_below (g := gb517) (o := .cells #[.string a0_0, .slice A0_1 l0_1.length c0_1, .slice A0_2 l0_2.length c0_2] 25 (0, 0)) (by (with_reducible repeat (first | refine blk_drewN ?_ _ | refine blk_drew ?_ | refine blk_alloc ?_ _)); exact BK517.out) hb); have n7_ := Aside0.mk (blk_below (g := gb527) (o := .cells #[.string t519, .slice Ao13 t520.length co13, .slice Ao14 t523.length co14] 25 (0, 0)) (by (with_reducible repeat (first | refine blk_drewN ?_ _ | refine blk_drew ?_ | refine blk_alloc ?_ _)); exact BK527.out) hb); have n8_ := Aside0.mk (below_step (by repeat (first | (with_reducible first | exact HB.out | apply below_alloc | apply pw_below_drewN | apply below_drew1 | refine below_set ?_ GE517.out | refine below_set ?_ GE527.out) | exact HB.out)) hb); clear HO_5; clear HO_7; clear HO_8; clear HO_528001; clear HO_528002; clear BK517; clear BK527; clear HB; have HO_5 := n0_; have HO_7 := n1_; have HO_8 := n2_; have HO_528001 := n3_; have HO_528002 := n4_; have HO544 := n5_; have BK517 := n6_; have BK527 := n7_; have HB := n8_; clear n0_ n1_ n2_ n3_ n4_ n5_ n6_ n7_ n8_; (try clear hb); (try clear hb2); (try clear hk); (try clear hi); (try clear ho0); obtain ⟨Ao58, co58, eo58⟩ := Kd.R_slice HO544.out; subst eo58) | (go_at_call 46; (with_reducible refine (petrinetlaw09_contains.calls k4 _ _ t542 x6_3 t545 _ ?side1 ?side2 A53.out).mono ?_); (case side1 => repeat (first | exact (Kd.R_reads' HO544.out).2.2 | (with_reducible refine Kd.C_alloc ?_ _) | (with_reducible refine Kd.C_drewN ?_ _) | (with_reducible refine Kd.C_drew ?_))); (case side2 => exact (Kd.R_reads' HO544.out).2.1); rintro e w' ⟨rfl, ⟨nd, rfl⟩⟩))
    go_meet
    case rel => exact ⟨_, ((t545 != (decide (t539 > 0)))), prs, H', ⟨by have := HJ4.out; have := HJ21.out; have := HK3.out; have := HK4.out; first | omega | exact Nat.le_refl _⟩, ⟨by (with_reducible repeat (first | apply Kd.S_alloc | apply Kd.S_drewN | apply Kd.S_drew)); exact HO_5.out⟩, ⟨by (with_reducible repeat (first | apply Kd.R_alloc | apply Kd.R_drewN | apply Kd.R_drew)); exact Kd.R_mono HO_7.out (fun _ hk => hk.1)⟩, ⟨by (with_reducible repeat (first | apply Kd.R_alloc | apply Kd.R_drewN | apply Kd.R_drew)); exact Kd.R_mono HO_8.out (fun _ hk => hk.1)⟩, ⟨by (with_reducible repeat (first | apply Kd.V_alloc | apply Kd.V_drewN | apply Kd.V_drew)); exact Kd.V_mono HO_528001.out (fun _ hk => ⟨hk.1.1, ⟨hk.1.2.1, ⟨hk.1.2.2.1, ⟨hk.1.2.2.2.1, hk.1.2.2.2.2⟩⟩⟩⟩)⟩, ⟨by (with_reducible repeat (first | apply Kd.V_alloc | apply Kd.V_drewN | apply Kd.V_drew)); exact Kd.V_mono HO_528002.out (fun _ hk => ⟨hk.1.1, ⟨hk.1.2.1, ⟨hk.1.2.2.1, ⟨hk.1.2.2.2.1, hk.1.2.2.2.2⟩⟩⟩⟩)⟩, ⟨by (with_reducible repeat (first | refine blk_drewN ?_ _ | refine blk_drew ?_ | refine blk_alloc ?_ _)); exact BK517.out⟩, ⟨by (with_reducible repeat (first | refine blk_drewN ?_ _ | refine blk_drew ?_ | refine blk_alloc ?_ _)); exact BK527.out⟩, ⟨by repeat (first | (with_reducible first | exact HB.out | apply below_alloc | apply pw_below_drewN | apply below_drew1 | refine below_set ?_ GE517.out | refine below_set ?_ GE527.out) | exact HB.out)⟩⟩
  clear HC44
  try clear c3
  try clear c15
  try clear c20
  try clear c26
  try clear c26b0
  try clear c26b1
  try clear c32
  try clear c33
  try clear c33b0
  try clear c41
  try clear c41b0
  try clear c51
  try clear c51b0
  try clear c51b1
  try clear c51b2
  try clear hcz12_0
  try clear hcz12_1
  try clear hcz12_2
  try clear hcz18_0
  try clear hcz18_1
  try clear hcz18_2
  try clear hcz24_0
  try clear hcz24_1
  try clear hcz24_2
  try clear hcz28_0
  try clear hcz28_1
  try clear hcz28_2
  try clear hcz31_0
  try clear hcz31_1
  try clear hcz31_2
  try clear hcz37_0
  try clear hcz37_1
  try clear hcz37_2
  try clear hcz46_0
  try clear hcz46_1
  try clear hcz46_2
  try clear hcz56_0
  try clear hcz56_1
  try clear hcz56_2
  try clear hcz8_0
  try clear hcz8_1
  try clear hcz8_2
  try clear hfz12_0
  try clear hfz12_1
  try clear hfz12_2
  try clear hfz18_0
  try clear hfz18_1
  try clear hfz18_2
  try clear hfz24_0
  try clear hfz24_1
  try clear hfz24_2
  try clear hfz28_0
  try clear hfz28_1
  try clear hfz28_2
  try clear hfz31_0
  try clear hfz31_1
  try clear hfz31_2
  try clear hfz37_0
  try clear hfz37_1
  try clear hfz37_2
  try clear hfz46_0
  try clear hfz46_1
  try clear hfz46_2
  try clear hfz56_0
  try clear hfz56_1
  try clear hfz56_2
  try clear hfz8_0
  try clear hfz8_1
  try clear hfz8_2
  obtain ⟨kq, x84_43, rfl, HA, HJ43, HO_5, HO_7, HO_8, HO_528001, HO_528002, BK517, BK527, HB⟩ := hcut
  obtain _ | kj43 := kq
  · exact absurd HA.out (by simp [petrinetlaw09_NetOpposites.j4])
  have H := HA.out
  clear HA
  simp only [petrinetlaw09_NetOpposites.j4] at H
  by_cases c59 : x84_43 = true
  · subst c59
    have H1 : (none) = some r := by rw [if_pos rfl] at H; exact H
    clear H
    have H := H1
    clear H1
    exact absurd H (by simp)
  replace c59 := Bool.eq_false_iff.mpr c59
  subst c59
  have H1 : ((petrinetlaw09_contains.f kj43 t536 x9_4).bind fun t546 => (if (t546 != (decide (t540 > 0))) = true then (none) else ((net_Producers.f kj43 t519 t520 t523 x9_4).bind fun t547 => ((petrinetlaw09_contains.f kj43 t547 x6_3).bind fun t550 => (petrinetlaw09_NetOpposites.j5 kj43 t530 x6_3 t533 t536 x9_4 t539 t540 (t550 != (decide (t540 > 0))) t519 t520 t523))))) = some r := by rw [if_neg (show ¬ (false = true) by decide)] at H; exact H
  clear H
  have H := H1
  clear H1
  have HC60 := Aside0.mk H
  clear H
  go_upto_region 19 with (fail)
  go_cut [100] (fun v100 wc => ∃ (kq : Nat) (x100_59 : Bool), v100 = .bool x100_59 ∧ Aside0 (petrinetlaw09_NetOpposites.j5 kq t530 x6_3 t533 t536 x9_4 t539 t540 x100_59 t519 t520 t523 = some r) ∧ Aside0 (kq ≤ kj43) ∧ Aside0 (Kd.S (Kd.slice 2 (Kd.int .i64)) 48 wc w.heap.size (fun _ => True) v531 t530) ∧ Aside0 (Kd.R (Kd.int .i64) 3 wc w.heap.size (fun k_ => some k_ ≠ (v537 : Value).ownBlock) v534 t533) ∧ Aside0 (Kd.R (Kd.int .i64) 3 wc w.heap.size (fun k_ => some k_ ≠ (v534 : Value).ownBlock) v537 t536) ∧ Aside0 (Kd.V k50 50 wc w.heap.size (fun k_ => some k_ ≠ (v531 : Value).ownBlock ∧ some k_ ≠ (v534 : Value).ownBlock ∧ some k_ ≠ (v537 : Value).ownBlock ∧ k_ ≠ gb517 ∧ k_ ≠ gb527) (.slice Ao13 t520.length co13) t520) ∧ Aside0 (Kd.V k53 53 wc w.heap.size (fun k_ => some k_ ≠ (v531 : Value).ownBlock ∧ some k_ ≠ (v534 : Value).ownBlock ∧ some k_ ≠ (v537 : Value).ownBlock ∧ k_ ≠ gb517 ∧ k_ ≠ gb527) (.slice Ao14 t523.length co14) t523) ∧ Aside0 (wc.heap[gb517]? = some (.cells #[.string a0_0, (.slice A0_1 l0_1.length c0_1), (.slice A0_2 l0_2.length c0_2)] 25 (0, 0))) ∧ Aside0 (wc.heap[gb527]? = some (.cells #[.string t519, (.slice Ao13 t520.length co13), (.slice Ao14 t523.length co14)] 25 (0, 0))) ∧ Aside0 (Below w.heap.size w wc))
  case first =>
    have H := HC60.out
    clear HC60
    replace H := Option.bind_eq_some_iff.mp H
    obtain ⟨t546, A610, H⟩ := H
    replace H : (if (t546 != (decide (t540 > 0))) = true then (none) else ((net_Producers.f kj43 t519 t520 t523 x9_4).bind fun t547 => ((petrinetlaw09_contains.f kj43 t547 x6_3).bind fun t550 => (petrinetlaw09_NetOpposites.j5 kj43 t530 x6_3 t533 t536 x9_4 t539 t540 (t550 != (decide (t540 > 0))) t519 t520 t523)))) = some r := H
    have A61 := Aside0.mk A610
    clear A610
    by_cases c62 : (t546 != (decide (t540 > 0))) = true
    · rw [if_pos c62] at H
      exact absurd H (by simp)
    rw [if_neg c62] at H
    have c62b0 : (t546 != (decide (t540 > 0))) = false := by simpa using c62
    (try (have c62b1 : decide (t546 = (decide (t540 > 0))) = true := by simpa using c62))
    (try (have c62b2 : (t546 == (decide (t540 > 0))) = true := by simpa using c62))
    clear c62
    (first | rw [c62b0] | (simp only [i64_w, i32_w]; rw [c62b0]) | skip)
    replace H := Option.bind_eq_some_iff.mp H
    obtain ⟨t547, A630, H⟩ := H
    replace H : ((petrinetlaw09_contains.f kj43 t547 x6_3).bind fun t550 => (petrinetlaw09_NetOpposites.j5 kj43 t530 x6_3 t533 t536 x9_4 t539 t540 (t550 != (decide (t540 > 0))) t519 t520 t523)) = some r := H
    have A63 := Aside0.mk A630
    clear A630
    replace H := Option.bind_eq_some_iff.mp H
    obtain ⟨t550, A640, H⟩ := H
    replace H : (petrinetlaw09_NetOpposites.j5 kj43 t530 x6_3 t533 t536 x9_4 t539 t540 (t550 != (decide (t540 > 0))) t519 t520 t523) = some r := H
    have A64 := Aside0.mk A640
    clear A640
    have H' := Aside0.mk H
    clear H
    obtain ⟨Ao65, co65, eo65⟩ := Kd.R_slice HO_8.out
    subst eo65
    go_wp2_with (first | ((with_reducible refine gate_callee (f := 46) rfl ?_); refine goesL_ (some 87) rfl rfl Try.func46 (by kernel_rfl) rfl #[.slice Ao65 t536.length co65, .int .i64 x9_4] rfl pgz ?_; (with_reducible refine (petrinetlaw09_contains.calls kj43 _ _ t536 x9_4 t546 _ ?side1 ?side2 A61.out).mono ?_); (case side1 => repeat (first | exact (Kd.R_reads' HO_8.out).2.2 | (with_reducible refine Kd.C_alloc ?_ _) | (with_reducible refine Kd.C_drewN ?_ _) | (with_reducible refine Kd.C_drew ?_))); (case side2 => exact (Kd.R_reads' HO_8.out).2.1); rintro e w' ⟨rfl, ⟨nd, rfl⟩⟩; refine ⟨_, rfl, ?_⟩; have hnb66 := NB527_517.out; have hnc66 := NB517_527.out; obtain ⟨hcz67_0, hcz67_1, hcz67_2, hfz67_0, hfz67_1, hfz67_2⟩ := cf3 BK527.out) | (go_at_call 37; (with_reducible refine (net_Producers.calls kj43 t519 _ _ t520 _ _ t523 x9_4 t547 _ ?side1 ?side2 ?side3 ?side4 A63.out).mono ?_); (case side1 => repeat (first | exact (Kd.V_reads' HO_528001.out).2.2 | (with_reducible refine Kd.C_alloc ?_ _) | (with_reducible refine Kd.C_drewN ?_ _) | (with_reducible refine Kd.C_drew ?_))); (case side2 => exact (Kd.V_reads' HO_528001.out).2.1); (case side3 => repeat (first | exact (Kd.V_reads' HO_528002.out).2.2 | (with_reducible refine Kd.C_alloc ?_ _) | (with_reducible refine Kd.C_drewN ?_ _) | (with_reducible refine Kd.C_drew ?_))); (case side4 => exact (Kd.V_reads' HO_528002.out).2.1); rintro e w68 ⟨v548, rfl, ho0, hb⟩; have n0_ := Aside0.mk (Kd.S_below (by (with_reducible repeat (first | apply Kd.S_alloc | apply Kd.S_drewN | apply Kd.S_drew)); exact HO_5.out) hb); have n1_ := Aside0.mk (Kd.R_elder' (by (with_reducible repeat (first | apply Kd.R_alloc | apply Kd.R_drewN | apply Kd.R_drew)); exact HO_7.out) (Kd.R_base ho0) hb); have n2_ := Aside0.mk (Kd.R_elder' (by (with_reducible repeat (first | apply Kd.R_alloc | apply Kd.R_drewN | apply Kd.R_drew)); exact HO_8.out) (Kd.R_base ho0) hb); have n3_ := Aside0.mk (Kd.V_elder' (by (with_reducible repeat (first | apply Kd.V_alloc | apply Kd.V_drewN | apply Kd.V_drew)); exact HO_528001.out) (Kd.R_base ho0) hb); have n4_ := Aside0.mk (Kd.V_elder' (by (with_reducible repeat (first | apply Kd.V_alloc | apply Kd.V_drewN | apply Kd.V_drew)); exact HO_528002.out) (Kd.R_base ho0) hb); have n5_ := Aside0.mk (Kd.R_lower (Kd.R_new' (Kd.R_new' ho0 (Kd.R_lt (by (with_reducible repeat (first | apply Kd.R_alloc | apply Kd.R_drewN | apply Kd.R_drew)); exact HO_7.out))) (Kd.R_lt (by (with_reducible repeat (first | apply Kd.R_alloc | apply Kd.R_drewN | apply Kd.R_drew)); exact HO_8.out))) (below_size (by repeat (first | (with_reducible first | exact HB.out | apply below_alloc | apply pw_below_drewN | apply below_drew1 | refine below_set ?_ GE517.out | refine below_set ?_ GE527.out) | exact HB.out)))); have n6_ := Aside0.mk (blk_below (g := gb517) (o := .cells #[.string a0_0, .slice A0_1 l0_1.length c0_1, .slice A0_2 l0_2.length c0_2] 25 (0, 0)) (by (with_reducible repeat (first | refine blk_drewN ?_ _ | refine blk_drew ?_ | refine blk_alloc ?_ _)); exact BK517.out) hb); have n7_ := Aside0.mk (blk_below (g := gb527) (o := .cells #[.string t519, .slice Ao13 t520.length co13, .slice Ao14 t523.length co14] 25 (0, 0)) (by (with_reducible repeat (first | refine blk_drewN ?_ _ | refine blk_drew ?_ | refine blk_alloc ?_ _)); exact BK527.out) hb); have n8_ := Aside0.mk (below_step (by repeat (first | (with_reducible first | exact HB.out | apply below_alloc | apply pw_below_drewN | apply below_drew1 | refine below_set ?_ GE517.out | refine below_set ?_ GE527.out) | exact HB.out)) hb); clear HO_5; clear HO_7; clear HO_8; clear HO_528001; clear HO_528002; clear BK517; clear BK527; clear HB; have HO_5 := n0_; have HO_7 := n1_; have HO_8 := n2_; have HO_528001 := n3_; have HO_528002 := n4_; have HO549 := n5_; have BK517 := n6_; have BK527 := n7_; have HB := n8_; clear n0_ n1_ n2_ n3_ n4_ n5_ n6_ n7_ n8_; (try clear hb); (try clear hb2); (try clear hk); (try clear hi); (try clear ho0); obtain ⟨Ao69, co69, eo69⟩ := Kd.R_slice HO549.out; subst eo69) | (go_at_call 46; (with_reducible refine (petrinetlaw09_contains.calls kj43 _ _ t547 x6_3 t550 _ ?side1 ?side2 A64.out).mono ?_); (case side1 => repeat (first | exact (Kd.R_reads' HO549.out).2.2 | (with_reducible refine Kd.C_alloc ?_ _) | (with_reducible refine Kd.C_drewN ?_ _) | (with_reducible refine Kd.C_drew ?_))); (case side2 => exact (Kd.R_reads' HO549.out).2.1); rintro e w' ⟨rfl, ⟨nd, rfl⟩⟩))
    go_meet
    case rel => exact ⟨_, ((t550 != (decide (t540 > 0)))), prs, H', ⟨by have := HJ4.out; have := HJ21.out; have := HK3.out; have := HK4.out; have := HJ43.out; first | omega | exact Nat.le_refl _⟩, ⟨by (with_reducible repeat (first | apply Kd.S_alloc | apply Kd.S_drewN | apply Kd.S_drew)); exact HO_5.out⟩, ⟨by (with_reducible repeat (first | apply Kd.R_alloc | apply Kd.R_drewN | apply Kd.R_drew)); exact Kd.R_mono HO_7.out (fun _ hk => hk.1)⟩, ⟨by (with_reducible repeat (first | apply Kd.R_alloc | apply Kd.R_drewN | apply Kd.R_drew)); exact Kd.R_mono HO_8.out (fun _ hk => hk.1)⟩, ⟨by (with_reducible repeat (first | apply Kd.V_alloc | apply Kd.V_drewN | apply Kd.V_drew)); exact Kd.V_mono HO_528001.out (fun _ hk => ⟨hk.1.1, ⟨hk.1.2.1, ⟨hk.1.2.2.1, ⟨hk.1.2.2.2.1, hk.1.2.2.2.2⟩⟩⟩⟩)⟩, ⟨by (with_reducible repeat (first | apply Kd.V_alloc | apply Kd.V_drewN | apply Kd.V_drew)); exact Kd.V_mono HO_528002.out (fun _ hk => ⟨hk.1.1, ⟨hk.1.2.1, ⟨hk.1.2.2.1, ⟨hk.1.2.2.2.1, hk.1.2.2.2.2⟩⟩⟩⟩)⟩, ⟨by (with_reducible repeat (first | refine blk_drewN ?_ _ | refine blk_drew ?_ | refine blk_alloc ?_ _)); exact BK517.out⟩, ⟨by (with_reducible repeat (first | refine blk_drewN ?_ _ | refine blk_drew ?_ | refine blk_alloc ?_ _)); exact BK527.out⟩, ⟨by repeat (first | (with_reducible first | exact HB.out | apply below_alloc | apply pw_below_drewN | apply below_drew1 | refine below_set ?_ GE517.out | refine below_set ?_ GE527.out) | exact HB.out)⟩⟩
  clear HC60
  try clear c3
  try clear c15
  try clear c20
  try clear c26
  try clear c26b0
  try clear c26b1
  try clear c32
  try clear c33
  try clear c33b0
  try clear c41
  try clear c41b0
  try clear c51
  try clear c51b0
  try clear c51b1
  try clear c51b2
  try clear c59
  try clear c62
  try clear c62b0
  try clear c62b1
  try clear c62b2
  try clear hcz12_0
  try clear hcz12_1
  try clear hcz12_2
  try clear hcz18_0
  try clear hcz18_1
  try clear hcz18_2
  try clear hcz24_0
  try clear hcz24_1
  try clear hcz24_2
  try clear hcz28_0
  try clear hcz28_1
  try clear hcz28_2
  try clear hcz31_0
  try clear hcz31_1
  try clear hcz31_2
  try clear hcz37_0
  try clear hcz37_1
  try clear hcz37_2
  try clear hcz46_0
  try clear hcz46_1
  try clear hcz46_2
  try clear hcz56_0
  try clear hcz56_1
  try clear hcz56_2
  try clear hcz67_0
  try clear hcz67_1
  try clear hcz67_2
  try clear hcz8_0
  try clear hcz8_1
  try clear hcz8_2
  try clear hfz12_0
  try clear hfz12_1
  try clear hfz12_2
  try clear hfz18_0
  try clear hfz18_1
  try clear hfz18_2
  try clear hfz24_0
  try clear hfz24_1
  try clear hfz24_2
  try clear hfz28_0
  try clear hfz28_1
  try clear hfz28_2
  try clear hfz31_0
  try clear hfz31_1
  try clear hfz31_2
  try clear hfz37_0
  try clear hfz37_1
  try clear hfz37_2
  try clear hfz46_0
  try clear hfz46_1
  try clear hfz46_2
  try clear hfz56_0
  try clear hfz56_1
  try clear hfz56_2
  try clear hfz67_0
  try clear hfz67_1
  try clear hfz67_2
  try clear hfz8_0
  try clear hfz8_1
  try clear hfz8_2
  obtain ⟨kq, x100_59, rfl, HA, HJ59, HO_5, HO_7, HO_8, HO_528001, HO_528002, BK517, BK527, HB⟩ := hcut
  obtain _ | kj59 := kq
  · exact absurd HA.out (by simp [petrinetlaw09_NetOpposites.j5])
  have H := HA.out
  clear HA
  simp only [petrinetlaw09_NetOpposites.j5] at H
  by_cases c70 : x100_59 = true
  · subst c70
    have H1 : (none) = some r := by rw [if_pos rfl] at H; exact H
    clear H
    have H := H1
    clear H1
    exact absurd H (by simp)
  replace c70 := Bool.eq_false_iff.mpr c70
  subst c70
  have H1 : (if 0 ≤ x9_4 then (if x9_4 < (t530.length : Int) then (if ((rd_L11 t530 x9_4).length : Int) = (t523.length : Int) then (if 0 ≤ x6_3 then (if x6_3 < ((rd_L11 t530 x9_4).length : Int) then (if (rd (rd_L11 t530 x9_4) x6_3) = (wrap64 (t540 - t539)) then (petrinetlaw09_NetOpposites.l1 kj59 t530 x6_3 t533 t536 (wrap64 (x9_4 + 1)) t519 t520 t523) else (none)) else (none)) else (none)) else (none)) else (none)) else (none)) = some r := by rw [if_neg (show ¬ (false = true) by decide)] at H; exact H
  clear H
  have H := H1
  clear H1
  by_cases c71 : 0 ≤ x9_4
  rotate_left
  · rw [if_neg c71] at H
    exact absurd H (by simp)
  rw [if_pos c71] at H
  have c71b0 : decide (0 ≤ x9_4) = true := decide_eq_true c71
  clear c71
  by_cases c72 : x9_4 < (t530.length : Int)
  rotate_left
  · rw [if_neg c72] at H
    exact absurd H (by simp)
  rw [if_pos c72] at H
  have c72b0 : decide (x9_4 < (t530.length : Int)) = true := decide_eq_true c72
  clear c72
  by_cases c73 : ((rd_L11 t530 x9_4).length : Int) = (t523.length : Int)
  rotate_left
  · rw [if_neg c73] at H
    exact absurd H (by simp)
  rw [if_pos c73] at H
  have c73b0 : (((rd_L11 t530 x9_4).length : Int) == (t523.length : Int)) = true := beq_iff_eq.mpr c73
  have c73b1 : (((rd_L11 t530 x9_4).length : Int) != (t523.length : Int)) = false := bne_eq_false_iff_eq.mpr c73
  have c73b2 : ((rd_L11 t530 x9_4).length == t523.length) = true := by first | simpa using c73 | (simp at c73 ⊢; omega)
  clear c73
  by_cases c74 : 0 ≤ x6_3
  rotate_left
  · rw [if_neg c74] at H
    exact absurd H (by simp)
  rw [if_pos c74] at H
  have c74b0 : decide (0 ≤ x6_3) = true := decide_eq_true c74
  clear c74
  by_cases c75 : x6_3 < ((rd_L11 t530 x9_4).length : Int)
  rotate_left
  · rw [if_neg c75] at H
    exact absurd H (by simp)
  rw [if_pos c75] at H
  have c75b0 : decide (x6_3 < ((rd_L11 t530 x9_4).length : Int)) = true := decide_eq_true c75
  clear c75
  by_cases c76 : (rd (rd_L11 t530 x9_4) x6_3) = (wrap64 (t540 - t539))
  rotate_left
  · rw [if_neg c76] at H
    exact absurd H (by simp)
  rw [if_pos c76] at H
  have c76b0 : ((rd (rd_L11 t530 x9_4) x6_3) == (wrap64 (t540 - t539))) = true := beq_iff_eq.mpr c76
  have c76b1 : ((rd (rd_L11 t530 x9_4) x6_3) != (wrap64 (t540 - t539))) = false := bne_eq_false_iff_eq.mpr c76
  clear c76
  have H' := Aside0.mk H
  clear H
  try go_wp2
  have n0_ := Aside0.mk (Kd.S_drew HO_5.out)
  have n1_ := Aside0.mk (Kd.R_drew HO_7.out)
  have n2_ := Aside0.mk (Kd.R_drew HO_8.out)
  have n3_ := Aside0.mk (Kd.V_drew HO_528001.out)
  have n4_ := Aside0.mk (Kd.V_drew HO_528002.out)
  have n5_ := Aside0.mk (blk_drew BK517.out)
  have n6_ := Aside0.mk (blk_drew BK527.out)
  have n7_ := Aside0.mk (below_drew1 HB.out)
  clear HO_5 HO_7 HO_8 HO_528001 HO_528002 BK517 BK527 HB
  have HO_5 := n0_
  have HO_7 := n1_
  have HO_8 := n2_
  have HO_528001 := n3_
  have HO_528002 := n4_
  have BK517 := n5_
  have BK527 := n6_
  have HB := n7_
  clear n0_ n1_ n2_ n3_ n4_ n5_ n6_ n7_
  obtain ⟨Ao78, co78, eo78⟩ := Kd.S_slice HO_5.out
  (first | subst eo78 | (injection eo78 with f1_ f2_ f3_; have f4_ := f1_.symm; have f5_ := f3_.symm; clear f1_ f2_ f3_; subst f4_; subst f5_))
  have p551 : 0 ≤ (x9_4 : Int) := dq
  have q551 : x9_4 < (t530.length : Int) := dq
  obtain ⟨ad551, A551_0, c551_0, e551, hx551_0, hl551_0, hi551_0⟩ := at_L11 (Kd.S_reads' HO_5.out).2.2 x9_4 p551 q551
  cases e551
  obtain ⟨ce551, hce551, hMe551, hcc551⟩ := Kd.S_get HO_5.out [] x9_4 p551 (by first | exact q551 | exact dq | (have e_ := (Kd.S_reads' HO_5.out).1; omega))
  obtain ⟨ve551_0, rfl, ge551_0⟩ := hMe551
  have hv551_0 := hcc551 0 _ rfl
  rw [Nat.add_zero, show ((Kd.slice 2 (Kd.int .i64))).sz = 1 from rfl, Nat.mul_one] at hv551_0
  replace hv551_0 := Option.some.inj (hv551_0.symm.trans hx551_0)
  rw [hv551_0] at ge551_0
  have HL551_0 := Aside0.mk (show Kd.R (Kd.int .i64) 2 _ _ _ _ (rd_L11 t530 x9_4) from ge551_0)
  clear hv551_0 ge551_0 hcc551 hce551
  have HR551_0 := Aside0.mk hi551_0
  have HC551_0 := Aside0.mk hl551_0
  clear hi551_0 hl551_0
  replace p551 := eq_true p551
  replace q551 := eq_true q551
  have p552 : 0 ≤ (x9_4 : Int) := dq
  have q552 : x9_4 < (t530.length : Int) := dq
  obtain ⟨ad552, A552_0, c552_0, e552, hx552_0, hl552_0, hi552_0⟩ := at_L11 (Kd.S_reads' HO_5.out).2.2 x9_4 p552 q552
  obtain rfl : ad551 = ad552 := (by injection e552)
  obtain ⟨ce552, hce552, hMe552, hcc552⟩ := Kd.S_get HO_5.out [] x9_4 p552 (by first | exact q552 | exact dq | (have e_ := (Kd.S_reads' HO_5.out).1; omega))
  obtain ⟨ve552_0, rfl, ge552_0⟩ := hMe552
  have hv552_0 := hcc552 0 _ rfl
  rw [Nat.add_zero, show ((Kd.slice 2 (Kd.int .i64))).sz = 1 from rfl, Nat.mul_one] at hv552_0
  replace hv552_0 := Option.some.inj (hv552_0.symm.trans hx552_0)
  rw [hv552_0] at ge552_0
  have HL552_0 := Aside0.mk (show Kd.R (Kd.int .i64) 2 _ _ _ _ (rd_L11 t530 x9_4) from ge552_0)
  clear hv552_0 ge552_0 hcc552 hce552
  have HR552_0 := Aside0.mk hi552_0
  have HC552_0 := Aside0.mk hl552_0
  clear hi552_0 hl552_0
  replace p552 := eq_true p552
  replace q552 := eq_true q552
  have ea_ := Option.some.inj (hx551_0.symm.trans hx552_0)
  injection ea_ with ea_ en_ ec_
  subst ea_
  subst ec_
  clear en_
  have p553 : 0 ≤ (x6_3 : Int) := dq
  have q553 : x6_3 < ((rd_L11 t530 x9_4).length : Int) := dq
  obtain ⟨ad553, e553, hx553_0⟩ := Kd.at_int (by repeat (first | (with_reducible exact HR552_0.out) | (with_reducible refine Kd.C_alloc ?_ _) | (with_reducible refine Kd.C_drewN ?_ _) | (with_reducible refine Kd.C_drew ?_) | exact HR552_0.out)) x6_3 p553 q553
  cases e553
  replace p553 := eq_true p553
  replace q553 := eq_true q553
  refine start_ (n := 22) (S := fun w' => w'.cell? ⟨gb527, 0, none⟩ = some (.string t519) ∧ w'.cell? ⟨gb527, 1, none⟩ = some (.slice Ao13 t520.length co13) ∧ w'.cell? ⟨gb527, 2, none⟩ = some (.slice Ao14 t523.length co14) ∧ w'.cell? (ad551.add (x9_4).toNat) = some (.slice (some ad553) (rd_L11 t530 x9_4).length c551_0) ∧ w'.cell? (ad551.add (x9_4).toNat) = some (.slice (some ad553) (rd_L11 t530 x9_4).length c551_0) ∧ w'.cell? (ad553.add (x6_3).toNat) = some (.int .i64 (rd (rd_L11 t530 x9_4) x6_3))) (ds := []) #[false, false, false, false, false, false, false, false, false, false, false, false, false, false, false, false, false, false, false, false, false, false] (by kernel_rfl) rfl rfl ⟨(blk_cell BK527.out 0).trans rfl, (blk_cell BK527.out 1).trans rfl, (blk_cell BK527.out 2).trans rfl, hx551_0, hx552_0, hx553_0⟩ (fun hHeld => ?_); refine with_tabW petrinetlaw09_NetOpposites.tab21 petrinetlaw09_NetOpposites.bits21 (fun HT_ HW_ => ?_)
  generalize wc.drew = w77 at HO_5 HO_7 HO_8 HO_528001 HO_528002 BK517 BK527 HB HL551_0 HL552_0 HR551_0 HR552_0 hx551_0 hx552_0 hx553_0 hHeld ⊢
  refine pure_ (i := 0) (N := some 101) (v := ?_) (a' := ?_) #[true, false, false, false, false, false, false, false, false, false, false, false, false, false, false, false, false, false, false, false, false, false] rfl rfl (any_of HT_.out (by kernel_rfl)) (fun _ _ _ h => h) (Or.inl ⟨by rfl, ?_⟩) ?_ ?_
  rotate_left
  · intro w'
    go_simp
    with_reducible rfl
  rotate_left
  · simp only [Act.put, List.setIfInBounds_toArray, List.set_cons_zero, List.set_cons_succ, i64_w, i32_w]
    rfl
  refine pure_ (i := 1) (N := some 102) (v := ?_) (a' := ?_) #[true, true, false, false, false, false, false, false, false, false, false, false, false, false, false, false, false, false, false, false, false, false] rfl rfl (any_of HT_.out (by kernel_rfl)) (fun _ _ _ h => h) (Or.inl ⟨by rfl, ?_⟩) ?_ ?_
  rotate_left
  · intro w'
    go_simp
    with_reducible rfl
  rotate_left
  · simp only [Act.put, List.setIfInBounds_toArray, List.set_cons_zero, List.set_cons_succ, i64_w, i32_w]
    rfl
  refine pure_ (i := 2) (N := some 103) (v := ?_) (a' := ?_) #[true, true, true, false, false, false, false, false, false, false, false, false, false, false, false, false, false, false, false, false, false, false] rfl rfl (any_of HT_.out (by kernel_rfl)) (fun _ _ _ h => h) (Or.inl ⟨by rfl, ?_⟩) ?_ ?_
  rotate_left
  · intro w'
    go_simp
    with_reducible rfl
  rotate_left
  · simp only [Act.put, List.setIfInBounds_toArray, List.set_cons_zero, List.set_cons_succ, i64_w, i32_w]
    rfl
  refine pure_ (i := 5) (N := some 106) (v := ?_) (a' := ?_) #[true, true, true, false, false, true, false, false, false, false, false, false, false, false, false, false, false, false, false, false, false, false] rfl rfl (any_of HT_.out (by kernel_rfl)) (fun _ _ _ h => h) (Or.inl ⟨by rfl, ?_⟩) ?_ ?_
  rotate_left
  · intro w'
    go_simp
    with_reducible rfl
  rotate_left
  · simp only [Act.put, List.setIfInBounds_toArray, List.set_cons_zero, List.set_cons_succ, i64_w, i32_w]
    rfl
  refine take_ (i := 3) (N := some 104) (v := ?_) (a' := ?_) #[true, true, true, true, false, true, false, false, false, false, false, false, false, false, false, false, false, false, false, false, false, false] rfl rfl (take_ofW HT_.out HW_.out (by kernel_rfl)) (fun _ _ _ h => h) (Or.inl ⟨by rfl, ?_⟩) hHeld ?_ ?_
  rotate_left
  · rintro w' ⟨s0, s1, s2, s3, s4, s5⟩
    go_simp
    with_reducible rfl
  rotate_left
  · simp only [Act.put, List.setIfInBounds_toArray, List.set_cons_zero, List.set_cons_succ, i64_w, i32_w]
    rfl
  refine pure_ (i := 4) (N := some 105) (v := ?_) (a' := ?_) #[true, true, true, true, true, true, false, false, false, false, false, false, false, false, false, false, false, false, false, false, false, false] rfl rfl (any_of HT_.out (by kernel_rfl)) (fun _ _ _ h => h) (Or.inl ⟨by rfl, ?_⟩) ?_ ?_
  rotate_left
  · intro w'
    go_simp
    with_reducible rfl
  rotate_left
  · simp only [Act.put, List.setIfInBounds_toArray, List.set_cons_zero, List.set_cons_succ, i64_w, i32_w]
    rfl
  refine take_ (i := 6) (N := some 107) (v := ?_) (a' := ?_) #[true, true, true, true, true, true, true, false, false, false, false, false, false, false, false, false, false, false, false, false, false, false] rfl rfl (take_ofW HT_.out HW_.out (by kernel_rfl)) (fun _ _ _ h => h) (Or.inl ⟨by rfl, ?_⟩) hHeld ?_ ?_
  rotate_left
  · rintro w' ⟨s0, s1, s2, s3, s4, s5⟩
    go_simp
    with_reducible rfl
  rotate_left
  · simp only [Act.put, List.setIfInBounds_toArray, List.set_cons_zero, List.set_cons_succ, i64_w, i32_w]
    rfl
  refine pure_ (i := 7) (N := some 108) (v := ?_) (a' := ?_) #[true, true, true, true, true, true, true, true, false, false, false, false, false, false, false, false, false, false, false, false, false, false] rfl rfl (any_of HT_.out (by kernel_rfl)) (fun _ _ _ h => h) (Or.inl ⟨by rfl, ?_⟩) ?_ ?_
  rotate_left
  · intro w'
    go_simp
    with_reducible rfl
  rotate_left
  · simp only [Act.put, List.setIfInBounds_toArray, List.set_cons_zero, List.set_cons_succ, i64_w, i32_w]
    rfl
  refine pure_ (i := 8) (N := some 109) (v := ?_) (a' := ?_) #[true, true, true, true, true, true, true, true, true, false, false, false, false, false, false, false, false, false, false, false, false, false] rfl rfl (any_of HT_.out (by kernel_rfl)) (fun _ _ _ h => h) (Or.inl ⟨by rfl, ?_⟩) ?_ ?_
  rotate_left
  · intro w'
    go_simp
    with_reducible rfl
  rotate_left
  · simp only [Act.put, List.setIfInBounds_toArray, List.set_cons_zero, List.set_cons_succ, i64_w, i32_w]
    rfl
  refine pure_ (i := 9) (N := some 110) (v := ?_) (a' := ?_) #[true, true, true, true, true, true, true, true, true, true, false, false, false, false, false, false, false, false, false, false, false, false] rfl rfl (any_of HT_.out (by kernel_rfl)) (fun _ _ _ h => h) (Or.inl ⟨by rfl, ?_⟩) ?_ ?_
  rotate_left
  · intro w'
    go_simp
    with_reducible rfl
  rotate_left
  · simp only [Act.put, List.setIfInBounds_toArray, List.set_cons_zero, List.set_cons_succ, i64_w, i32_w]
    rfl
  refine pure_ (i := 10) (N := some 111) (v := ?_) (a' := ?_) #[true, true, true, true, true, true, true, true, true, true, true, false, false, false, false, false, false, false, false, false, false, false] rfl rfl (any_of HT_.out (by kernel_rfl)) (fun _ _ _ h => h) (Or.inl ⟨by rfl, ?_⟩) ?_ ?_
  rotate_left
  · intro w'
    go_simp
    with_reducible rfl
  rotate_left
  · simp only [Act.put, List.setIfInBounds_toArray, List.set_cons_zero, List.set_cons_succ, i64_w, i32_w]
    rfl
  refine pure_ (i := 11) (N := some 112) (v := ?_) (a' := ?_) #[true, true, true, true, true, true, true, true, true, true, true, true, false, false, false, false, false, false, false, false, false, false] rfl rfl (any_of HT_.out (by kernel_rfl)) (fun _ _ _ h => h) (Or.inl ⟨by rfl, ?_⟩) ?_ ?_
  rotate_left
  · intro w'
    go_simp
    with_reducible rfl
  rotate_left
  · simp only [Act.put, List.setIfInBounds_toArray, List.set_cons_zero, List.set_cons_succ, i64_w, i32_w]
    rfl
  refine pure_ (i := 12) (N := some 113) (v := ?_) (a' := ?_) #[true, true, true, true, true, true, true, true, true, true, true, true, true, false, false, false, false, false, false, false, false, false] rfl rfl (any_of HT_.out (by kernel_rfl)) (fun _ _ _ h => h) (Or.inl ⟨by rfl, ?_⟩) ?_ ?_
  rotate_left
  · intro w'
    go_simp
    with_reducible rfl
  rotate_left
  · simp only [Act.put, List.setIfInBounds_toArray, List.set_cons_zero, List.set_cons_succ, i64_w, i32_w]
    rfl
  refine pure_ (i := 14) (N := some 115) (v := ?_) (a' := ?_) #[true, true, true, true, true, true, true, true, true, true, true, true, true, false, true, false, false, false, false, false, false, false] rfl rfl (any_of HT_.out (by kernel_rfl)) (fun _ _ _ h => h) (Or.inl ⟨by rfl, ?_⟩) ?_ ?_
  rotate_left
  · intro w'
    go_simp
    with_reducible rfl
  rotate_left
  · simp only [Act.put, List.setIfInBounds_toArray, List.set_cons_zero, List.set_cons_succ, i64_w, i32_w]
    rfl
  refine pure_ (i := 17) (N := some 118) (v := ?_) (a' := ?_) #[true, true, true, true, true, true, true, true, true, true, true, true, true, false, true, false, false, true, false, false, false, false] rfl rfl (any_of HT_.out (by kernel_rfl)) (fun _ _ _ h => h) (Or.inl ⟨by rfl, ?_⟩) ?_ ?_
  rotate_left
  · intro w'
    go_simp
    with_reducible rfl
  rotate_left
  · simp only [Act.put, List.setIfInBounds_toArray, List.set_cons_zero, List.set_cons_succ, i64_w, i32_w]
    rfl
  refine pure_ (i := 18) (N := some 119) (v := ?_) (a' := ?_) #[true, true, true, true, true, true, true, true, true, true, true, true, true, false, true, false, false, true, true, false, false, false] rfl rfl (any_of HT_.out (by kernel_rfl)) (fun _ _ _ h => h) (Or.inl ⟨by rfl, ?_⟩) ?_ ?_
  rotate_left
  · intro w'
    go_simp
    with_reducible rfl
  rotate_left
  · simp only [Act.put, List.setIfInBounds_toArray, List.set_cons_zero, List.set_cons_succ, i64_w, i32_w]
    rfl
  refine pure_ (i := 19) (N := some 120) (v := ?_) (a' := ?_) #[true, true, true, true, true, true, true, true, true, true, true, true, true, false, true, false, false, true, true, true, false, false] rfl rfl (any_of HT_.out (by kernel_rfl)) (fun _ _ _ h => h) (Or.inl ⟨by rfl, ?_⟩) ?_ ?_
  rotate_left
  · intro w'
    go_simp
    with_reducible rfl
  rotate_left
  · simp only [Act.put, List.setIfInBounds_toArray, List.set_cons_zero, List.set_cons_succ, i64_w, i32_w]
    rfl
  refine take_ (i := 13) (N := some 114) (v := ?_) (a' := ?_) #[true, true, true, true, true, true, true, true, true, true, true, true, true, true, true, false, false, true, true, true, false, false] rfl rfl (take_ofW HT_.out HW_.out (by kernel_rfl)) (fun _ _ _ h => h) (Or.inl ⟨by rfl, ?_⟩) hHeld ?_ ?_
  rotate_left
  · rintro w' ⟨s0, s1, s2, s3, s4, s5⟩
    go_simp
    with_reducible rfl
  rotate_left
  · simp only [Act.put, List.setIfInBounds_toArray, List.set_cons_zero, List.set_cons_succ, i64_w, i32_w]
    rfl
  refine pure_ (i := 15) (N := some 116) (v := ?_) (a' := ?_) #[true, true, true, true, true, true, true, true, true, true, true, true, true, true, true, true, false, true, true, true, false, false] rfl rfl (any_of HT_.out (by kernel_rfl)) (fun _ _ _ h => h) (Or.inl ⟨by rfl, ?_⟩) ?_ ?_
  rotate_left
  · intro w'
    go_simp
    with_reducible rfl
  rotate_left
  · simp only [Act.put, List.setIfInBounds_toArray, List.set_cons_zero, List.set_cons_succ, i64_w, i32_w]
    rfl
  refine take_ (i := 16) (N := some 117) (v := ?_) (a' := ?_) #[true, true, true, true, true, true, true, true, true, true, true, true, true, true, true, true, true, true, true, true, false, false] rfl rfl (take_ofW HT_.out HW_.out (by kernel_rfl)) (fun _ _ _ h => h) (Or.inl ⟨by rfl, ?_⟩) hHeld ?_ ?_
  rotate_left
  · rintro w' ⟨s0, s1, s2, s3, s4, s5⟩
    go_simp
    with_reducible rfl
  rotate_left
  · simp only [Act.put, List.setIfInBounds_toArray, List.set_cons_zero, List.set_cons_succ, i64_w, i32_w]
    rfl
  refine pure_ (i := 20) (N := some 121) (v := ?_) (a' := ?_) #[true, true, true, true, true, true, true, true, true, true, true, true, true, true, true, true, true, true, true, true, true, false] rfl rfl (any_of HT_.out (by kernel_rfl)) (fun _ _ _ h => h) (Or.inl ⟨by rfl, ?_⟩) ?_ ?_
  rotate_left
  · intro w'
    go_simp
    with_reducible rfl
  rotate_left
  · simp only [Act.put, List.setIfInBounds_toArray, List.set_cons_zero, List.set_cons_succ, i64_w, i32_w]
    rfl
  refine pure_ (i := 21) (N := some 122) (v := ?_) (a' := ?_) #[true, true, true, true, true, true, true, true, true, true, true, true, true, true, true, true, true, true, true, true, true, true] rfl rfl (any_of HT_.out (by kernel_rfl)) (fun _ _ _ h => h) (Or.inl ⟨by rfl, ?_⟩) ?_ ?_
  rotate_left
  · intro w'
    go_simp
    with_reducible rfl
  rotate_left
  · simp only [Act.put, List.setIfInBounds_toArray, List.set_cons_zero, List.set_cons_succ, i64_w, i32_w]
    rfl
  refine done_ (done_of HT_.out (by kernel_rfl)) ?_
  try go_wp2
  go_roundg kj59
  case measure => have := HJ4.out; have := HJ21.out; have := HK3.out; have := HK4.out; have := HJ43.out; have := HJ59.out; omega
  case rel => exact ⟨(wrap64 (x9_4 + 1)), prs, H', ⟨by have := HJ4.out; have := HJ21.out; have := HK3.out; have := HK4.out; have := HJ43.out; have := HJ59.out; omega⟩, ⟨by (with_reducible repeat (first | apply Kd.S_alloc | apply Kd.S_drewN | apply Kd.S_drew)); exact HO_5.out⟩, ⟨by (with_reducible repeat (first | apply Kd.R_alloc | apply Kd.R_drewN | apply Kd.R_drew)); exact HO_7.out⟩, ⟨by (with_reducible repeat (first | apply Kd.R_alloc | apply Kd.R_drewN | apply Kd.R_drew)); exact HO_8.out⟩, ⟨by (with_reducible repeat (first | apply Kd.V_alloc | apply Kd.V_drewN | apply Kd.V_drew)); exact HO_528001.out⟩, ⟨by (with_reducible repeat (first | apply Kd.V_alloc | apply Kd.V_drewN | apply Kd.V_drew)); exact HO_528002.out⟩, ⟨by (with_reducible repeat (first | refine blk_drewN ?_ _ | refine blk_drew ?_ | refine blk_alloc ?_ _)); exact BK517.out⟩, ⟨by (with_reducible repeat (first | refine blk_drewN ?_ _ | refine blk_drew ?_ | refine blk_alloc ?_ _)); exact BK527.out⟩, ⟨by repeat (first | (with_reducible first | exact HB.out | apply below_alloc | apply pw_below_drewN | apply below_drew1 | refine below_set ?_ GE517.out | refine below_set ?_ GE527.out) | exact HB.out)⟩⟩

end Go.Proofs.Ytboonibkibhmhaa.P
