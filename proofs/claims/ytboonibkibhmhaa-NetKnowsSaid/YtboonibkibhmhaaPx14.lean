-- LAID BY OUR PROGRAM OVER THE PRINT (xprint.py): Lean checks it.
import Derived.Test.YtboonibkibhmhaaPx0
import Derived.Test.YtboonibkibhmhaaPx1
import Derived.Test.YtboonibkibhmhaaPx5
import Derived.Test.YtboonibkibhmhaaPx6
import Derived.Test.YtboonibkibhmhaaPx7
import Derived.Test.YtboonibkibhmhaaPx8
import Derived.Test.YtboonibkibhmhaaPx9
import Derived.Test.YtboonibkibhmhaaPx11
import Derived.Test.YtboonibkibhmhaaPx12
import Derived.Test.YtboonibkibhmhaaPx13
namespace Go.Proofs.Ytboonibkibhmhaa.P
open Go.RowKit Go.Proofs.YtboonibkibhmhaaW.PrintWords Go.Proofs.YtboonibkibhmhaaW.PrintLast Go.Proofs.YtboonibkibhmhaaW.PrintMore
attribute [local go_sem] max2_int min2_int max_two min_two max_three min_three max_four min_four   -- for this text's walks alone
set_option linter.unusedVariables false
set_option linter.unusedSimpArgs false

attribute [local go_sem high] eqA31
/-! ### petrinetlaw09_lives: function 12 -/
mutual
def petrinetlaw09_lives.j0 : Nat → Bool → ByteArray → List (S50) → List (S53) → ByteArray → List (S50) → Option (Bool)
  | 0, _, _, _, _, _, _ => none
  | k + 1, x79, x205000, x205001, x205002, x209000, x209001 => if x79 = true then (none) else ((net_Inputs.f k x205000 x205001 x205002 0).bind fun t227 => ((net_Outputs.f k x205000 x205001 x205002 0).bind fun t230 => ((net_Producers.f k x205000 x205001 x205002 1).bind fun t233 => ((net_Consumers.f k x205000 x205001 x205002 0).bind fun t236 => (if (t227.length : Int) = 1 then (if 0 < (t227.length : Int) then (if (rd t227 0) = 0 then (if (t230.length : Int) = 1 then (if 0 < (t230.length : Int) then (if (rd t230 0) = 1 then (if (t233.length : Int) = 1 then (if 0 < (t233.length : Int) then (if (rd t233 0) = 0 then (if (t236.length : Int) = 1 then (if 0 < (t236.length : Int) then (petrinetlaw09_lives.j1 k ((rd t236 0) != 0) x205000 x205001 x205002 x209000 x209001) else (none)) else (none)) else (none)) else (none)) else (none)) else (none)) else (none)) else (none)) else (none)) else (none)) else (none))))))
def petrinetlaw09_lives.j1 : Nat → Bool → ByteArray → List (S50) → List (S53) → ByteArray → List (S50) → Option (Bool)
  | 0, _, _, _, _, _, _ => none
  | k + 1, x129, x205000, x205001, x205002, x209000, x209001 => if x129 = true then (none) else ((net_Name.f (⟨#[97, 46, 49]⟩ : ByteArray)).bind fun t243 => (if t243 = true then ((net_Name.f (⟨#[49, 97]⟩ : ByteArray)).bind fun t244 => (if t244 = true then (none) else ((net_Place.f k x205000 x205001 x205002 (⟨#[113]⟩ : ByteArray)).bind fun t245 => (if t245 = 1 then ((net_Place.f k x205000 x205001 x205002 (⟨#[116]⟩ : ByteArray)).bind fun t246 => (if t246 = (-1) then ((net_Trans.f k x205000 x205001 x205002 (⟨#[116]⟩ : ByteArray)).bind fun t247 => (if t247 = 0 then ((net_Pre.f k x205000 x205001 x205002 0 0).bind fun t248 => (if t248 = 2 then ((net_Post.f k x205000 x205001 x205002 0 1).bind fun t249 => (if t249 = 1 then ((net_Plain.f k x205000 x205001 x205002).bind fun t250 => (if t250 = true then ((net_Ordinary.f k x205000 x205001 x205002).bind fun t251 => (if t251 = true then (none) else ((net_Same.f k x205000 x205001 x205002 x205000 x205001 x205002).bind fun t252 => (if t252 = true then ((net_Same.f k x205000 x205001 x205002 x209000 x209001 ([] : List (S53))).bind fun t253 => (some (!t253))) else (none))))) else (none))) else (none))) else (none))) else (none))) else (none))) else (none))))) else (none)))
end
def petrinetlaw09_lives.f (k : Nat)  : Option (Bool) := (petrinetlaw09_pair.f).bind fun bt197 => ((some (([(⟨(⟨#[112]⟩ : ByteArray), 0, 0⟩ : S50), (⟨(⟨#[112]⟩ : ByteArray), 0, 0⟩ : S50)] : List (S50)) : List (S50))).bind fun y205 => ((net_Incidence.f k bt197.1 bt197.2.1 bt197.2.2).bind fun t209 => ((net_Initial.f k bt197.1 bt197.2.1 bt197.2.2).bind fun t212 => ((net_Check.f k bt197.1 bt197.2.1 bt197.2.2).bind fun bt215 => (if bt215.1 = 0 then ((net_Check.f k (⟨#[110]⟩ : ByteArray) y205 ([] : List (S53))).bind fun bt217 => (if (!(bt217.1 == 6) || (!(bt217.2 == 1))) = true then (none) else (if (t209.length : Int) = 2 then (if 0 < (t209.length : Int) then (if ((rd_L11 t209 0).length : Int) = 1 then (if 0 < ((rd_L11 t209 0).length : Int) then (if (rd (rd_L11 t209 0) 0) = (-2) then (if 1 < (t209.length : Int) then (if ((rd_L11 t209 1).length : Int) = 1 then (if 0 < ((rd_L11 t209 1).length : Int) then (if (rd (rd_L11 t209 1) 0) = 1 then (if (t212.length : Int) = 2 then (if 0 < (t212.length : Int) then (if (rd t212 0) = 2 then (if 1 < (t212.length : Int) then (petrinetlaw09_lives.j0 k ((rd t212 1) != 0) bt197.1 bt197.2.1 bt197.2.2 (⟨#[110]⟩ : ByteArray) y205) else (none)) else (none)) else (none)) else (none)) else (none)) else (none)) else (none)) else (none)) else (none)) else (none)) else (none)) else (none)) else (none)))) else (none))))))
theorem petrinetlaw09_lives.mono_l : ∀ k, (∀ y0 y1 y2 y3 y4 y5, LeO (petrinetlaw09_lives.j0 k y0 y1 y2 y3 y4 y5) (petrinetlaw09_lives.j0 (k + 1) y0 y1 y2 y3 y4 y5)) ∧ (∀ y0 y1 y2 y3 y4 y5, LeO (petrinetlaw09_lives.j1 k y0 y1 y2 y3 y4 y5) (petrinetlaw09_lives.j1 (k + 1) y0 y1 y2 y3 y4 y5))
  | 0 => ⟨fun _ _ _ _ _ _ r h => by simp [petrinetlaw09_lives.j0] at h, fun _ _ _ _ _ _ r h => by simp [petrinetlaw09_lives.j1] at h⟩
  | k + 1 => by
    obtain ⟨ih0, ih1⟩ := petrinetlaw09_lives.mono_l k
    refine ⟨?_, ?_⟩
    · intro y0 y1 y2 y3 y4 y5
      unfold petrinetlaw09_lives.j0
      repeat' first | (with_reducible first | exact ih0 _ _ _ _ _ _ | exact ih1 _ _ _ _ _ _ | exact net_Check.mono _ _ _ _ | exact net_Consumers.mono _ _ _ _ _ | exact net_Incidence.mono _ _ _ _ | exact net_Initial.mono _ _ _ _ | exact net_Inputs.mono _ _ _ _ _ | exact net_Ordinary.mono _ _ _ _ | exact net_Outputs.mono _ _ _ _ _ | exact net_Place.mono _ _ _ _ _ | exact net_Plain.mono _ _ _ _ | exact net_Post.mono _ _ _ _ _ _ | exact net_Pre.mono _ _ _ _ _ _ | exact net_Producers.mono _ _ _ _ _ | exact net_Same.mono _ _ _ _ _ _ _ | exact net_Trans.mono _ _ _ _ _ | exact LeO.refl _ | exact LeO.none _ | refine LeO.ite ?_ ?_ | refine LeO.bind ?_ (fun _ => ?_)) | exact ih0 _ _ _ _ _ _ | exact ih1 _ _ _ _ _ _ | exact net_Check.mono _ _ _ _ | exact net_Consumers.mono _ _ _ _ _ | exact net_Incidence.mono _ _ _ _ | exact net_Initial.mono _ _ _ _ | exact net_Inputs.mono _ _ _ _ _ | exact net_Ordinary.mono _ _ _ _ | exact net_Outputs.mono _ _ _ _ _ | exact net_Place.mono _ _ _ _ _ | exact net_Plain.mono _ _ _ _ | exact net_Post.mono _ _ _ _ _ _ | exact net_Pre.mono _ _ _ _ _ _ | exact net_Producers.mono _ _ _ _ _ | exact net_Same.mono _ _ _ _ _ _ _ | exact net_Trans.mono _ _ _ _ _ | exact LeO.none _ | refine LeO.ite ?_ ?_ | refine LeO.bind ?_ (fun _ => ?_)
    · intro y0 y1 y2 y3 y4 y5
      unfold petrinetlaw09_lives.j1
      repeat' first | (with_reducible first | exact ih0 _ _ _ _ _ _ | exact ih1 _ _ _ _ _ _ | exact net_Check.mono _ _ _ _ | exact net_Consumers.mono _ _ _ _ _ | exact net_Incidence.mono _ _ _ _ | exact net_Initial.mono _ _ _ _ | exact net_Inputs.mono _ _ _ _ _ | exact net_Ordinary.mono _ _ _ _ | exact net_Outputs.mono _ _ _ _ _ | exact net_Place.mono _ _ _ _ _ | exact net_Plain.mono _ _ _ _ | exact net_Post.mono _ _ _ _ _ _ | exact net_Pre.mono _ _ _ _ _ _ | exact net_Producers.mono _ _ _ _ _ | exact net_Same.mono _ _ _ _ _ _ _ | exact net_Trans.mono _ _ _ _ _ | exact LeO.refl _ | exact LeO.none _ | refine LeO.ite ?_ ?_ | refine LeO.bind ?_ (fun _ => ?_)) | exact ih0 _ _ _ _ _ _ | exact ih1 _ _ _ _ _ _ | exact net_Check.mono _ _ _ _ | exact net_Consumers.mono _ _ _ _ _ | exact net_Incidence.mono _ _ _ _ | exact net_Initial.mono _ _ _ _ | exact net_Inputs.mono _ _ _ _ _ | exact net_Ordinary.mono _ _ _ _ | exact net_Outputs.mono _ _ _ _ _ | exact net_Place.mono _ _ _ _ _ | exact net_Plain.mono _ _ _ _ | exact net_Post.mono _ _ _ _ _ _ | exact net_Pre.mono _ _ _ _ _ _ | exact net_Producers.mono _ _ _ _ _ | exact net_Same.mono _ _ _ _ _ _ _ | exact net_Trans.mono _ _ _ _ _ | exact LeO.none _ | refine LeO.ite ?_ ?_ | refine LeO.bind ?_ (fun _ => ?_)
theorem petrinetlaw09_lives.mono : ∀ k, LeO (petrinetlaw09_lives.f k ) (petrinetlaw09_lives.f (k + 1) ) := by
  intro  k
  obtain ⟨ih0, ih1⟩ := petrinetlaw09_lives.mono_l k
  unfold petrinetlaw09_lives.f
  repeat' first | (with_reducible first | exact ih0 _ _ _ _ _ _ | exact ih1 _ _ _ _ _ _ | exact net_Check.mono _ _ _ _ | exact net_Consumers.mono _ _ _ _ _ | exact net_Incidence.mono _ _ _ _ | exact net_Initial.mono _ _ _ _ | exact net_Inputs.mono _ _ _ _ _ | exact net_Ordinary.mono _ _ _ _ | exact net_Outputs.mono _ _ _ _ _ | exact net_Place.mono _ _ _ _ _ | exact net_Plain.mono _ _ _ _ | exact net_Post.mono _ _ _ _ _ _ | exact net_Pre.mono _ _ _ _ _ _ | exact net_Producers.mono _ _ _ _ _ | exact net_Same.mono _ _ _ _ _ _ _ | exact net_Trans.mono _ _ _ _ _ | exact LeO.refl _ | exact LeO.none _ | refine LeO.ite ?_ ?_ | refine LeO.bind ?_ (fun _ => ?_)) | exact ih0 _ _ _ _ _ _ | exact ih1 _ _ _ _ _ _ | exact net_Check.mono _ _ _ _ | exact net_Consumers.mono _ _ _ _ _ | exact net_Incidence.mono _ _ _ _ | exact net_Initial.mono _ _ _ _ | exact net_Inputs.mono _ _ _ _ _ | exact net_Ordinary.mono _ _ _ _ | exact net_Outputs.mono _ _ _ _ _ | exact net_Place.mono _ _ _ _ _ | exact net_Plain.mono _ _ _ _ | exact net_Post.mono _ _ _ _ _ _ | exact net_Pre.mono _ _ _ _ _ _ | exact net_Producers.mono _ _ _ _ _ | exact net_Same.mono _ _ _ _ _ _ _ | exact net_Trans.mono _ _ _ _ _ | exact LeO.none _ | refine LeO.ite ?_ ?_ | refine LeO.bind ?_ (fun _ => ?_)
def petrinetlaw09_lives.T6 : Bool × List (List Nat × List Nat) := (true, [([], []), ([0], [0]), ([], []), ([2, 1], [2]), ([], []), ([4, 3], [4]), ([], []), ([6, 5], [6]), ([1, 7, 0, 1], [1]), ([3, 8, 0, 1, 2, 3, 8], [3]), ([5, 9, 0, 1, 2, 3, 4, 5, 8, 9], [5]), ([7, 10, 0, 1, 2, 3, 4, 5, 6, 7, 8, 9, 10], [7])])
def petrinetlaw09_lives.B6 : List Nat := [0, 1, 0, 7, 0, 31, 0, 127, 255, 511, 1023, 2047]
theorem petrinetlaw09_lives.tab6 : rtab .any (opsOf Try.f12 6) = petrinetlaw09_lives.T6 := by kernel_rfl
theorem petrinetlaw09_lives.bits6 : waitsOk petrinetlaw09_lives.T6.2 petrinetlaw09_lives.B6 = true := by kernel_rfl
set_option maxHeartbeats 8000000 in
set_option maxRecDepth 100000 in
theorem petrinetlaw09_lives.calls (k : Nat)  (r : Bool) (w : World) (h : petrinetlaw09_lives.f k  = some r) :
    Calls Try.prog 12 #[] w fun e w' => e = .returned (.bool r) ∧ Below w.heap.size w w' := by
  have hf31_0 : ∀ (x0 x1 : Value) (W : World), (Instr.field 31 (.agg #[x0, x1]) 0).run Try.prog W = .ok x0 W := fun x0 x1 W => by kernel_rfl
  have hu25 := Try.underlying25
  have hu50 := Try.underlying50
  have hu31 := Try.underlying31
  have HB := Aside0.mk (Below.refl w.heap.size w)
  have H : ((petrinetlaw09_pair.f).bind fun bt197 => ((some (([(⟨(⟨#[112]⟩ : ByteArray), 0, 0⟩ : S50), (⟨(⟨#[112]⟩ : ByteArray), 0, 0⟩ : S50)] : List (S50)) : List (S50))).bind fun y205 => ((net_Incidence.f k bt197.1 bt197.2.1 bt197.2.2).bind fun t209 => ((net_Initial.f k bt197.1 bt197.2.1 bt197.2.2).bind fun t212 => ((net_Check.f k bt197.1 bt197.2.1 bt197.2.2).bind fun bt215 => (if bt215.1 = 0 then ((net_Check.f k (⟨#[110]⟩ : ByteArray) y205 ([] : List (S53))).bind fun bt217 => (if (!(bt217.1 == 6) || (!(bt217.2 == 1))) = true then (none) else (if (t209.length : Int) = 2 then (if 0 < (t209.length : Int) then (if ((rd_L11 t209 0).length : Int) = 1 then (if 0 < ((rd_L11 t209 0).length : Int) then (if (rd (rd_L11 t209 0) 0) = (-2) then (if 1 < (t209.length : Int) then (if ((rd_L11 t209 1).length : Int) = 1 then (if 0 < ((rd_L11 t209 1).length : Int) then (if (rd (rd_L11 t209 1) 0) = 1 then (if (t212.length : Int) = 2 then (if 0 < (t212.length : Int) then (if (rd t212 0) = 2 then (if 1 < (t212.length : Int) then (petrinetlaw09_lives.j0 k ((rd t212 1) != 0) bt197.1 bt197.2.1 bt197.2.2 (⟨#[110]⟩ : ByteArray) y205) else (none)) else (none)) else (none)) else (none)) else (none)) else (none)) else (none)) else (none)) else (none)) else (none)) else (none)) else (none)) else (none)))) else (none))))))) = some r := h
  clear h
  replace H := Option.bind_eq_some_iff.mp H
  obtain ⟨⟨t197, t198, t201⟩, A10, H⟩ := H
  replace H : ((some (([(⟨(⟨#[112]⟩ : ByteArray), 0, 0⟩ : S50), (⟨(⟨#[112]⟩ : ByteArray), 0, 0⟩ : S50)] : List (S50)) : List (S50))).bind fun y205 => ((net_Incidence.f k t197 t198 t201).bind fun t209 => ((net_Initial.f k t197 t198 t201).bind fun t212 => ((net_Check.f k t197 t198 t201).bind fun bt215 => (if bt215.1 = 0 then ((net_Check.f k (⟨#[110]⟩ : ByteArray) y205 ([] : List (S53))).bind fun bt217 => (if (!(bt217.1 == 6) || (!(bt217.2 == 1))) = true then (none) else (if (t209.length : Int) = 2 then (if 0 < (t209.length : Int) then (if ((rd_L11 t209 0).length : Int) = 1 then (if 0 < ((rd_L11 t209 0).length : Int) then (if (rd (rd_L11 t209 0) 0) = (-2) then (if 1 < (t209.length : Int) then (if ((rd_L11 t209 1).length : Int) = 1 then (if 0 < ((rd_L11 t209 1).length : Int) then (if (rd (rd_L11 t209 1) 0) = 1 then (if (t212.length : Int) = 2 then (if 0 < (t212.length : Int) then (if (rd t212 0) = 2 then (if 1 < (t212.length : Int) then (petrinetlaw09_lives.j0 k ((rd t212 1) != 0) t197 t198 t201 (⟨#[110]⟩ : ByteArray) y205) else (none)) else (none)) else (none)) else (none)) else (none)) else (none)) else (none)) else (none)) else (none)) else (none)) else (none)) else (none)) else (none)))) else (none)))))) = some r := H
  have A1 := Aside0.mk A10
  clear A10
  obtain ⟨y205, hy205⟩ : ∃ y_ : List (S50), y_ = (([(⟨(⟨#[112]⟩ : ByteArray), 0, 0⟩ : S50), (⟨(⟨#[112]⟩ : ByteArray), 0, 0⟩ : S50)] : List (S50))) := ⟨_, rfl⟩
  replace H : ((net_Incidence.f k t197 t198 t201).bind fun t209 => ((net_Initial.f k t197 t198 t201).bind fun t212 => ((net_Check.f k t197 t198 t201).bind fun bt215 => (if bt215.1 = 0 then ((net_Check.f k (⟨#[110]⟩ : ByteArray) y205 ([] : List (S53))).bind fun bt217 => (if (!(bt217.1 == 6) || (!(bt217.2 == 1))) = true then (none) else (if (t209.length : Int) = 2 then (if 0 < (t209.length : Int) then (if ((rd_L11 t209 0).length : Int) = 1 then (if 0 < ((rd_L11 t209 0).length : Int) then (if (rd (rd_L11 t209 0) 0) = (-2) then (if 1 < (t209.length : Int) then (if ((rd_L11 t209 1).length : Int) = 1 then (if 0 < ((rd_L11 t209 1).length : Int) then (if (rd (rd_L11 t209 1) 0) = 1 then (if (t212.length : Int) = 2 then (if 0 < (t212.length : Int) then (if (rd t212 0) = 2 then (if 1 < (t212.length : Int) then (petrinetlaw09_lives.j0 k ((rd t212 1) != 0) t197 t198 t201 (⟨#[110]⟩ : ByteArray) y205) else (none)) else (none)) else (none)) else (none)) else (none)) else (none)) else (none)) else (none)) else (none)) else (none)) else (none)) else (none)) else (none)))) else (none))))) = some r := by first | (rw [hy205]; with_reducible exact H) | (have H2_ := (Option.bind_some _ _).symm.trans H; rw [hy205]; with_reducible exact H2_) | (have H2_ := (Option.bind_some _ _).symm.trans H; with_reducible exact H2_) | with_reducible exact H | (rw [hy205]; exact H) | exact H
  have Ny205 := Aside0.mk hy205
  clear hy205
  replace H := Option.bind_eq_some_iff.mp H
  obtain ⟨t209, A20, H⟩ := H
  replace H : ((net_Initial.f k t197 t198 t201).bind fun t212 => ((net_Check.f k t197 t198 t201).bind fun bt215 => (if bt215.1 = 0 then ((net_Check.f k (⟨#[110]⟩ : ByteArray) y205 ([] : List (S53))).bind fun bt217 => (if (!(bt217.1 == 6) || (!(bt217.2 == 1))) = true then (none) else (if (t209.length : Int) = 2 then (if 0 < (t209.length : Int) then (if ((rd_L11 t209 0).length : Int) = 1 then (if 0 < ((rd_L11 t209 0).length : Int) then (if (rd (rd_L11 t209 0) 0) = (-2) then (if 1 < (t209.length : Int) then (if ((rd_L11 t209 1).length : Int) = 1 then (if 0 < ((rd_L11 t209 1).length : Int) then (if (rd (rd_L11 t209 1) 0) = 1 then (if (t212.length : Int) = 2 then (if 0 < (t212.length : Int) then (if (rd t212 0) = 2 then (if 1 < (t212.length : Int) then (petrinetlaw09_lives.j0 k ((rd t212 1) != 0) t197 t198 t201 (⟨#[110]⟩ : ByteArray) y205) else (none)) else (none)) else (none)) else (none)) else (none)) else (none)) else (none)) else (none)) else (none)) else (none)) else (none)) else (none)) else (none)))) else (none)))) = some r := H
  have A2 := Aside0.mk A20
  clear A20
  replace H := Option.bind_eq_some_iff.mp H
  obtain ⟨t212, A30, H⟩ := H
  replace H : ((net_Check.f k t197 t198 t201).bind fun bt215 => (if bt215.1 = 0 then ((net_Check.f k (⟨#[110]⟩ : ByteArray) y205 ([] : List (S53))).bind fun bt217 => (if (!(bt217.1 == 6) || (!(bt217.2 == 1))) = true then (none) else (if (t209.length : Int) = 2 then (if 0 < (t209.length : Int) then (if ((rd_L11 t209 0).length : Int) = 1 then (if 0 < ((rd_L11 t209 0).length : Int) then (if (rd (rd_L11 t209 0) 0) = (-2) then (if 1 < (t209.length : Int) then (if ((rd_L11 t209 1).length : Int) = 1 then (if 0 < ((rd_L11 t209 1).length : Int) then (if (rd (rd_L11 t209 1) 0) = 1 then (if (t212.length : Int) = 2 then (if 0 < (t212.length : Int) then (if (rd t212 0) = 2 then (if 1 < (t212.length : Int) then (petrinetlaw09_lives.j0 k ((rd t212 1) != 0) t197 t198 t201 (⟨#[110]⟩ : ByteArray) y205) else (none)) else (none)) else (none)) else (none)) else (none)) else (none)) else (none)) else (none)) else (none)) else (none)) else (none)) else (none)) else (none)))) else (none))) = some r := H
  have A3 := Aside0.mk A30
  clear A30
  have HC4 := Aside0.mk H
  clear H
  go_enter Try.func12, Try.ntmps12
  try go_wp2_with (first | ((with_reducible refine gate_callee (f := 47) rfl ?_); refine goesL_ (some 9) rfl rfl Try.func47 (by kernel_rfl) rfl #[] rfl pgz ?_; (with_reducible refine (petrinetlaw09_pair.calls  t197 t198 t201 _ A1.out).mono ?_); rintro e w5 ⟨v199, v202, rfl, ho0, ho1, hb⟩; refine ⟨_, rfl, ?_⟩; have n0_ := Aside0.mk (Kd.R_lower (Kd.R_mono (ok' := fun k_ => True) ho0 (fun _ hk_ => trivial)) (below_size pbl)); have n1_ := Aside0.mk (Kd.N_lower (Kd.N_mono (ok' := fun k_ => some k_ ≠ (v199 : Value).ownBlock) ho1 (fun k_ hk_ => hk_.2)) (below_size pbl)); have n2_ := Aside0.mk (below_step pbl hb); clear HB; have HO200 := n0_; have HO203 := n1_; have HB := n2_; clear n0_ n1_ n2_; (try clear hb); (try clear hb2); (try clear hk); (try clear hi); (try clear ho0); (try clear ho1)) | ((with_reducible refine gate_dst (N := 1) rfl ?_); (try (refine gate_guard (by rfl) ?_; dsimp only)); refine box_event ?hg (N := 1) ?hd (cs := #[.string (⟨#[]⟩ : ByteArray), .slice none 0 0, .slice none 0 0]) (t := 25) ?hr ?_; (case hd => rfl); (case hg => rfl); (case hr => first | (go_simp; done) | (go_simp; rfl)); intro gb204 hg w6 hbox hb; have n0_ := Aside0.mk (Kd.R_below (by (with_reducible repeat (first | apply Kd.R_alloc | apply Kd.R_drewN | apply Kd.R_drew)); exact HO200.out) hb); have n1_ := Aside0.mk (Kd.N_below (Kd.N_elderB (by (with_reducible repeat (first | apply Kd.N_alloc | apply Kd.N_drewN | apply Kd.N_drew)); exact HO203.out) gb204 (Nat.le_of_eq hg.symm)) hb); have n2_ := Aside0.mk (below_step pbl hb); have n3_ := Aside0.mk (hbox); have n4_ := Aside0.mk ((by rw [hg]; exact (below_size pbl) : w.heap.size ≤ gb204)); have n5_ := n4_; clear HO200; clear HO203; clear HB; have HO200 := n0_; have HO203 := n1_; have HB := n2_; have BK204 := n3_; have GW204 := n4_; have GE204 := n5_; clear n0_ n1_ n2_ n3_ n4_ n5_; clear hb hbox hg; obtain ⟨hcz7_0, hcz7_1, hcz7_2, hfz7_0, hfz7_1, hfz7_2⟩ := cf3 BK204.out; obtain ⟨Ao8, co8, eo8⟩ := Kd.R_slice HO200.out; subst eo8; obtain ⟨Ao9, co9, eo9⟩ := Kd.N_slice HO203.out; subst eo9) | ((with_reducible refine gate_dst (N := 12) rfl ?_); (try (refine gate_guard (by rfl) ?_; dsimp only)); refine Kd.R_lit k50 _ 50 ?hg (N := 12) ?hd (xs := ([(⟨(⟨#[112]⟩ : ByteArray), 0, 0⟩ : S50), (⟨(⟨#[112]⟩ : ByteArray), 0, 0⟩ : S50)] : List (S50))) (inner := [.string (⟨#[112]⟩ : ByteArray), .int .i64 0, .int .i64 0, .string (⟨#[112]⟩ : ByteArray), .int .i64 0, .int .i64 0]) (ok := fun _ => True) (okp := fun _ => True) ?hr ?hp (fun _ hk => hk) trivial (Below.refl _ _) (Nat.le_refl _) (by simp) ?_; (case hd => rfl); (case hg => rfl); (case hr => first | (go_simp; done) | (go_simp; rfl)); (case hp => exact (Reps.c3 (show Kd.M k50 _ _ _ (⟨(⟨#[112]⟩ : ByteArray), 0, 0⟩ : S50) [.string (⟨#[112]⟩ : ByteArray), .int .i64 0, .int .i64 0] from (k50_mkM _ _ _ (⟨(⟨#[112]⟩ : ByteArray), 0, 0⟩ : S50) )) (Reps.c3 (show Kd.M k50 _ _ _ (⟨(⟨#[112]⟩ : ByteArray), 0, 0⟩ : S50) [.string (⟨#[112]⟩ : ByteArray), .int .i64 0, .int .i64 0] from (k50_mkM _ _ _ (⟨(⟨#[112]⟩ : ByteArray), 0, 0⟩ : S50) )) (Reps.none _ _)))); intro v206 w10 ho11 hb hg_ hnew_; clear hg_ hnew_; (first | rw [← Ny205.out] at ho11 | (simp only [Int.reduceToNat] at ho11; rw [← Ny205.out] at ho11)); have n0_ := Aside0.mk (Kd.R_elder' (by (with_reducible repeat (first | apply Kd.R_alloc | apply Kd.R_drewN | apply Kd.R_drew)); exact (Kd.R_mono (Kd.R_far (p := ⟨gb204, 2, none⟩) (Kd.R_far (p := ⟨gb204, 1, none⟩) (Kd.R_far (p := ⟨gb204, 0, none⟩) (Kd.R_types HO200.out BK204.out (by decide)) (fun _ hk => hk.2) (.string t197)) (fun _ hk => hk.2) (.slice Ao8 t198.length co8)) (fun _ hk => hk.2) (.slice Ao9 t201.length co9)) (fun _ h_ => h_.1))) (Kd.R_base ho11) hb); have n1_ := Aside0.mk (Kd.N_elder' (by (with_reducible repeat (first | apply Kd.N_alloc | apply Kd.N_drewN | apply Kd.N_drew)); exact (Kd.N_mono (Kd.N_far (p := ⟨gb204, 2, none⟩) (Kd.N_far (p := ⟨gb204, 1, none⟩) (Kd.N_far (p := ⟨gb204, 0, none⟩) (Kd.N_mono HO203.out (fun k_ hk => (⟨hk, hk.2⟩ : _ ∧ k_ ≠ gb204))) (fun _ hk => hk.2) (.string t197)) (fun _ hk => hk.2) (.slice Ao8 t198.length co8)) (fun _ hk => hk.2) (.slice Ao9 t201.length co9)) (fun _ h_ => h_.1))) (Kd.R_base ho11) hb); have n2_ := Aside0.mk (Kd.R_lower (Kd.R_new' ho11 (Kd.R_lt (by (with_reducible repeat (first | apply Kd.R_alloc | apply Kd.R_drewN | apply Kd.R_drew)); exact (Kd.R_mono (Kd.R_far (p := ⟨gb204, 2, none⟩) (Kd.R_far (p := ⟨gb204, 1, none⟩) (Kd.R_far (p := ⟨gb204, 0, none⟩) (Kd.R_types HO200.out BK204.out (by decide)) (fun _ hk => hk.2) (.string t197)) (fun _ hk => hk.2) (.slice Ao8 t198.length co8)) (fun _ hk => hk.2) (.slice Ao9 t201.length co9)) (fun _ h_ => h_.1))))) (below_size (by repeat (first | (with_reducible first | exact HB.out | apply below_alloc | apply pw_below_drewN | apply below_drew1 | refine below_set ?_ GE204.out) | exact HB.out)))); have n3_ := Aside0.mk (blk_below (g := gb204) (o := .cells #[.string t197, .slice Ao8 t198.length co8, .slice Ao9 t201.length co9] 25 (0, 0)) (by (with_reducible repeat (first | refine blk_drewN ?_ _ | refine blk_drew ?_ | refine blk_alloc ?_ _)); refine blk_put (cs := #[.string t197, .slice Ao8 t198.length co8, .slice none 0 0]) ?_ 2 _ rfl; (with_reducible repeat (first | refine blk_drewN ?_ _ | refine blk_drew ?_ | refine blk_alloc ?_ _)); refine blk_put (cs := #[.string t197, .slice none 0 0, .slice none 0 0]) ?_ 1 _ rfl; (with_reducible repeat (first | refine blk_drewN ?_ _ | refine blk_drew ?_ | refine blk_alloc ?_ _)); refine blk_put (cs := #[.string (⟨#[]⟩ : ByteArray), .slice none 0 0, .slice none 0 0]) ?_ 0 _ rfl; (with_reducible repeat (first | refine blk_drewN ?_ _ | refine blk_drew ?_ | refine blk_alloc ?_ _)); exact BK204.out) hb); have n4_ := Aside0.mk (below_step (by repeat (first | (with_reducible first | exact HB.out | apply below_alloc | apply pw_below_drewN | apply below_drew1 | refine below_set ?_ GE204.out) | exact HB.out)) hb); clear HO200; clear HO203; clear BK204; clear HB; have HO200 := n0_; have HO203 := n1_; have HO207 := n2_; have BK204 := n3_; have HB := n4_; clear n0_ n1_ n2_ n3_ n4_; clear hb ho11; obtain ⟨Ao12, co12, eo12⟩ := Kd.R_slice HO207.out; subst eo12) | ((with_reducible refine gate_dst (N := 2) rfl ?_); (try (refine gate_guard (by rfl) ?_; dsimp only)); refine box_event ?hg (N := 2) ?hd (cs := #[.string (⟨#[]⟩ : ByteArray), .slice none 0 0, .slice none 0 0]) (t := 25) ?hr ?_; (case hd => rfl); (case hg => rfl); (case hr => first | (go_simp; done) | (go_simp; rfl)); intro gb208 hg w13 hbox hb; have n0_ := Aside0.mk (Kd.R_below (by (with_reducible repeat (first | apply Kd.R_alloc | apply Kd.R_drewN | apply Kd.R_drew)); exact HO200.out) hb); have n1_ := Aside0.mk (Kd.N_below (Kd.N_elderB (by (with_reducible repeat (first | apply Kd.N_alloc | apply Kd.N_drewN | apply Kd.N_drew)); exact HO203.out) gb208 (Nat.le_of_eq hg.symm)) hb); have n2_ := Aside0.mk (Kd.R_below (by (with_reducible repeat (first | apply Kd.R_alloc | apply Kd.R_drewN | apply Kd.R_drew)); exact HO207.out) hb); have n3_ := Aside0.mk (blk_below (by (with_reducible repeat (first | refine blk_drewN ?_ _ | refine blk_drew ?_ | refine blk_alloc ?_ _)); exact BK204.out) hb); have n4_ := Aside0.mk (below_step (by repeat (first | (with_reducible first | exact HB.out | apply below_alloc | apply pw_below_drewN | apply below_drew1 | refine below_set ?_ GE204.out) | exact HB.out)) hb); have n5_ := Aside0.mk (hbox); have n6_ := Aside0.mk ((by rw [hg]; exact (below_size (by repeat (first | (with_reducible first | exact HB.out | apply below_alloc | apply pw_below_drewN | apply below_drew1 | refine below_set ?_ GE204.out) | exact HB.out))) : w.heap.size ≤ gb208)); have n7_ := n6_; have n8_ := Aside0.mk ((by rw [hg]; exact Nat.ne_of_lt (blk_lt (by (with_reducible repeat (first | refine blk_drewN ?_ _ | refine blk_drew ?_ | refine blk_alloc ?_ _)); exact BK204.out)) : gb204 ≠ gb208)); have n9_ := Aside0.mk ((by rw [hg]; exact Nat.ne_of_gt (blk_lt (by (with_reducible repeat (first | refine blk_drewN ?_ _ | refine blk_drew ?_ | refine blk_alloc ?_ _)); exact BK204.out)) : gb208 ≠ gb204)); clear HO200; clear HO203; clear HO207; clear BK204; clear HB; have HO200 := n0_; have HO203 := n1_; have HO207 := n2_; have BK204 := n3_; have HB := n4_; have BK208 := n5_; have GW208 := n6_; have GE208 := n7_; have NB204_208 := n8_; have NB208_204 := n9_; clear n0_ n1_ n2_ n3_ n4_ n5_ n6_ n7_ n8_ n9_; clear hb hbox hg; have hnb14 := NB208_204.out; have hnc14 := NB204_208.out; obtain ⟨hcz15_0, hcz15_1, hcz15_2, hfz15_0, hfz15_1, hfz15_2⟩ := cf3 BK208.out))
  have n0_ : Aside0 (Kd.R k50 50 (((w13.setCell ⟨gb208, 0, none⟩ (.string (⟨#[110]⟩ : ByteArray))).setCell ⟨gb208, 1, none⟩ (.slice Ao12 y205.length co12)).setCell ⟨gb208, 2, none⟩ (.slice none 0 0)) w.heap.size (fun k_ => some k_ ≠ (.slice Ao12 y205.length co12 : Value).ownBlock) (.slice Ao8 t198.length co8) t198) := ⟨by (with_reducible repeat (first | apply Kd.R_alloc | apply Kd.R_drewN | apply Kd.R_drew)); exact Kd.R_mono (Kd.R_far (p := ⟨gb208, 2, none⟩) (Kd.R_far (p := ⟨gb208, 1, none⟩) (Kd.R_far (p := ⟨gb208, 0, none⟩) (Kd.R_types HO200.out BK208.out (by decide)) (fun _ hk => hk.2) (.string (⟨#[110]⟩ : ByteArray))) (fun _ hk => hk.2) (.slice Ao12 y205.length co12)) (fun _ hk => hk.2) (.slice none 0 0)) (fun _ hk => hk.1.2)⟩
  have n1_ : Aside0 (Kd.N k53 53 (((w13.setCell ⟨gb208, 0, none⟩ (.string (⟨#[110]⟩ : ByteArray))).setCell ⟨gb208, 1, none⟩ (.slice Ao12 y205.length co12)).setCell ⟨gb208, 2, none⟩ (.slice none 0 0)) w.heap.size (fun k_ => some k_ ≠ (.slice Ao8 t198.length co8 : Value).ownBlock ∧ some k_ ≠ (.slice Ao12 y205.length co12 : Value).ownBlock ∧ k_ ≠ gb204 ∧ k_ ≠ gb208) (.slice Ao9 t201.length co9) t201) := ⟨by (with_reducible repeat (first | apply Kd.N_alloc | apply Kd.N_drewN | apply Kd.N_drew)); exact Kd.N_mono (Kd.N_far (p := ⟨gb208, 2, none⟩) (Kd.N_far (p := ⟨gb208, 1, none⟩) (Kd.N_far (p := ⟨gb208, 0, none⟩) (Kd.N_mono HO203.out (fun k_ hk => (⟨hk, hk.2⟩ : _ ∧ k_ ≠ gb208))) (fun _ hk => hk.2) (.string (⟨#[110]⟩ : ByteArray))) (fun _ hk => hk.2) (.slice Ao12 y205.length co12)) (fun _ hk => hk.2) (.slice none 0 0)) (fun _ hk => ⟨hk.1.1.1.1, ⟨hk.1.1.2, ⟨hk.1.1.1.2, hk.1.2⟩⟩⟩)⟩
  have n2_ : Aside0 (Kd.R k50 50 (((w13.setCell ⟨gb208, 0, none⟩ (.string (⟨#[110]⟩ : ByteArray))).setCell ⟨gb208, 1, none⟩ (.slice Ao12 y205.length co12)).setCell ⟨gb208, 2, none⟩ (.slice none 0 0)) w.heap.size (fun k_ => some k_ ≠ (.slice Ao8 t198.length co8 : Value).ownBlock) (.slice Ao12 y205.length co12) y205) := ⟨by (with_reducible repeat (first | apply Kd.R_alloc | apply Kd.R_drewN | apply Kd.R_drew)); exact Kd.R_mono (Kd.R_far (p := ⟨gb208, 2, none⟩) (Kd.R_far (p := ⟨gb208, 1, none⟩) (Kd.R_far (p := ⟨gb208, 0, none⟩) (Kd.R_types HO207.out BK208.out (by decide)) (fun _ hk => hk.2) (.string (⟨#[110]⟩ : ByteArray))) (fun _ hk => hk.2) (.slice Ao12 y205.length co12)) (fun _ hk => hk.2) (.slice none 0 0)) (fun _ hk => hk.1.2)⟩
  have n3_ : Aside0 ((((w13.setCell ⟨gb208, 0, none⟩ (.string (⟨#[110]⟩ : ByteArray))).setCell ⟨gb208, 1, none⟩ (.slice Ao12 y205.length co12)).setCell ⟨gb208, 2, none⟩ (.slice none 0 0)).heap[gb204]? = some (.cells #[.string t197, .slice Ao8 t198.length co8, .slice Ao9 t201.length co9] 25 (0, 0))) := ⟨by (with_reducible repeat (first | refine blk_drewN ?_ _ | refine blk_drew ?_ | refine blk_alloc ?_ _)); refine blk_far ?_ NB204_208.out _; (with_reducible repeat (first | refine blk_drewN ?_ _ | refine blk_drew ?_ | refine blk_alloc ?_ _)); refine blk_far ?_ NB204_208.out _; (with_reducible repeat (first | refine blk_drewN ?_ _ | refine blk_drew ?_ | refine blk_alloc ?_ _)); refine blk_far ?_ NB204_208.out _; (with_reducible repeat (first | refine blk_drewN ?_ _ | refine blk_drew ?_ | refine blk_alloc ?_ _)); exact BK204.out⟩
  have n4_ : Aside0 ((((w13.setCell ⟨gb208, 0, none⟩ (.string (⟨#[110]⟩ : ByteArray))).setCell ⟨gb208, 1, none⟩ (.slice Ao12 y205.length co12)).setCell ⟨gb208, 2, none⟩ (.slice none 0 0)).heap[gb208]? = some (.cells #[.string (⟨#[110]⟩ : ByteArray), .slice Ao12 y205.length co12, .slice none 0 0] 25 (0, 0))) := ⟨by (with_reducible repeat (first | refine blk_drewN ?_ _ | refine blk_drew ?_ | refine blk_alloc ?_ _)); refine blk_put (cs := #[.string (⟨#[110]⟩ : ByteArray), .slice Ao12 y205.length co12, .slice none 0 0]) ?_ 2 _ rfl; (with_reducible repeat (first | refine blk_drewN ?_ _ | refine blk_drew ?_ | refine blk_alloc ?_ _)); refine blk_put (cs := #[.string (⟨#[110]⟩ : ByteArray), .slice none 0 0, .slice none 0 0]) ?_ 1 _ rfl; (with_reducible repeat (first | refine blk_drewN ?_ _ | refine blk_drew ?_ | refine blk_alloc ?_ _)); refine blk_put (cs := #[.string (⟨#[]⟩ : ByteArray), .slice none 0 0, .slice none 0 0]) ?_ 0 _ rfl; (with_reducible repeat (first | refine blk_drewN ?_ _ | refine blk_drew ?_ | refine blk_alloc ?_ _)); exact BK208.out⟩
  have n5_ : Aside0 (Below w.heap.size w (((w13.setCell ⟨gb208, 0, none⟩ (.string (⟨#[110]⟩ : ByteArray))).setCell ⟨gb208, 1, none⟩ (.slice Ao12 y205.length co12)).setCell ⟨gb208, 2, none⟩ (.slice none 0 0))) := ⟨by repeat (first | (with_reducible first | exact HB.out | apply below_alloc | apply pw_below_drewN | apply below_drew1 | refine below_set ?_ GE204.out | refine below_set ?_ GE208.out) | exact HB.out)⟩
  (try clear HO200)
  (try clear HO203)
  (try clear HO207)
  (try clear BK204)
  (try clear BK208)
  (try clear HB)
  generalize (((w13.setCell ⟨gb208, 0, none⟩ (.string (⟨#[110]⟩ : ByteArray))).setCell ⟨gb208, 1, none⟩ (.slice Ao12 y205.length co12)).setCell ⟨gb208, 2, none⟩ (.slice none 0 0)) = w16 at n0_ n1_ n2_ n3_ n4_ n5_ ⊢
  have HO200 := n0_
  have HO203 := n1_
  have HO207 := n2_
  have BK204 := n3_
  have BK208 := n4_
  have HB := n5_
  clear n0_ n1_ n2_ n3_ n4_ n5_
  have n0_ := Aside0.mk (Kd.R_drew HO200.out)
  have n1_ := Aside0.mk (Kd.N_drew HO203.out)
  have n2_ := Aside0.mk (Kd.R_drew HO207.out)
  have n3_ := Aside0.mk (blk_drew BK204.out)
  have n4_ := Aside0.mk (blk_drew BK208.out)
  have n5_ := Aside0.mk (below_drew1 HB.out)
  clear HO200 HO203 HO207 BK204 BK208 HB
  have HO200 := n0_
  have HO203 := n1_
  have HO207 := n2_
  have BK204 := n3_
  have BK208 := n4_
  have HB := n5_
  clear n0_ n1_ n2_ n3_ n4_ n5_
  refine start_ (n := 6) (S := fun w' => w'.cell? ⟨gb204, 0, none⟩ = some (.string t197) ∧ w'.cell? ⟨gb204, 1, none⟩ = some (.slice Ao8 t198.length co8) ∧ w'.cell? ⟨gb204, 2, none⟩ = some (.slice Ao9 t201.length co9)) (ds := []) #[false, false, false, false, false, false] (by kernel_rfl) rfl rfl ⟨(blk_cell BK204.out 0).trans rfl, (blk_cell BK204.out 1).trans rfl, (blk_cell BK204.out 2).trans rfl⟩ (fun hHeld => ?_)
  generalize w16.drew = w17 at HO200 HO203 HO207 BK204 BK208 HB hHeld ⊢
  refine take_ (i := 0) (N := some 14) (v := ?_) (a' := ?_) #[true, false, false, false, false, false] rfl rfl (by kernel_rfl) (fun _ _ _ h => h) (Or.inl ⟨by rfl, ?_⟩) hHeld ?_ ?_
  rotate_left
  · rintro w' ⟨s0, s1, s2⟩
    go_simp
    with_reducible rfl
  rotate_left
  · simp only [Act.put, List.setIfInBounds_toArray, List.set_cons_zero, List.set_cons_succ, i64_w, i32_w]
    rfl
  refine take_ (i := 2) (N := some 16) (v := ?_) (a' := ?_) #[true, false, true, false, false, false] rfl rfl (by kernel_rfl) (fun _ _ _ h => h) (Or.inl ⟨by rfl, ?_⟩) hHeld ?_ ?_
  rotate_left
  · rintro w' ⟨s0, s1, s2⟩
    go_simp
    with_reducible rfl
  rotate_left
  · simp only [Act.put, List.setIfInBounds_toArray, List.set_cons_zero, List.set_cons_succ, i64_w, i32_w]
    rfl
  refine one_ (i := 1) (N := some 15) #[true, true, true, false, false, false] rfl rfl (by kernel_rfl) (by decide) (fun K hK => ?_)
  refine goes_ Try.func16 (by kernel_rfl) rfl #[.agg #[.string t197, .slice Ao8 t198.length co8, .slice Ao9 t201.length co9]] (by rfl) rfl rfl pgz ?_
  with_reducible refine (net_Incidence.calls k t197 _ _ t198 _ _ t201 t209 _ ?side1 ?side2 ?side3 ?side4 A2.out).mono ?_
  (case side1 => repeat (first | exact (Kd.R_reads' HO200.out).2.2 | (with_reducible refine Kd.C_alloc ?_ _) | (with_reducible refine Kd.C_drewN ?_ _) | (with_reducible refine Kd.C_drew ?_)))
  (case side2 => exact (Kd.R_reads' HO200.out).2.1)
  (case side3 => repeat (first | exact (Kd.N_reads' HO203.out).2.2 | (with_reducible refine Kd.C_alloc ?_ _) | (with_reducible refine Kd.C_drewN ?_ _) | (with_reducible refine Kd.C_drew ?_)))
  (case side4 => exact (Kd.N_reads' HO203.out).2.1)
  rintro e w18 ⟨v210, rfl, ho0, hb⟩
  refine ⟨_, rfl, ?_⟩
  have n0_ := Aside0.mk (Kd.R_below (by (with_reducible repeat (first | apply Kd.R_alloc | apply Kd.R_drewN | apply Kd.R_drew)); exact HO200.out) hb)
  have n1_ := Aside0.mk (Kd.N_elder' (by (with_reducible repeat (first | apply Kd.N_alloc | apply Kd.N_drewN | apply Kd.N_drew)); exact HO203.out) (by first | exact Kd.N_base ho0 | exact Kd.S_base ho0 | exact Kd.R_base ho0) hb)
  have n2_ := Aside0.mk (Kd.R_below (by (with_reducible repeat (first | apply Kd.R_alloc | apply Kd.R_drewN | apply Kd.R_drew)); exact HO207.out) hb)
  have n3_ := Aside0.mk (Kd.N_lower (Kd.N_mono (ok' := fun k_ => some k_ ≠ (.slice Ao8 t198.length co8 : Value).ownBlock ∧ some k_ ≠ (.slice Ao9 t201.length co9 : Value).ownBlock ∧ some k_ ≠ (.slice Ao12 y205.length co12 : Value).ownBlock ∧ k_ ≠ gb204 ∧ k_ ≠ gb208) (Kd.S_N (Kd.S_bound ho0)) (fun k_ hk_ => ⟨(Kd.fresh' (Kd.R_lt (by (with_reducible repeat (first | apply Kd.R_alloc | apply Kd.R_drewN | apply Kd.R_drew)); exact HO200.out)) k_ hk_.2.1), (Kd.fresh' (Kd.N_lt (by (with_reducible repeat (first | apply Kd.N_alloc | apply Kd.N_drewN | apply Kd.N_drew)); exact HO203.out)) k_ hk_.2.1), (Kd.fresh' (Kd.R_lt (by (with_reducible repeat (first | apply Kd.R_alloc | apply Kd.R_drewN | apply Kd.R_drew)); exact HO207.out)) k_ hk_.2.1), (Kd.freshB (g := gb204) (o := .cells #[.string t197, .slice Ao8 t198.length co8, .slice Ao9 t201.length co9] 25 (0, 0)) (by (with_reducible repeat (first | refine blk_drewN ?_ _ | refine blk_drew ?_ | refine blk_alloc ?_ _)); exact BK204.out) k_ hk_.2.1), (Kd.freshB (g := gb208) (o := .cells #[.string (⟨#[110]⟩ : ByteArray), .slice Ao12 y205.length co12, .slice none 0 0] 25 (0, 0)) (by (with_reducible repeat (first | refine blk_drewN ?_ _ | refine blk_drew ?_ | refine blk_alloc ?_ _)); exact BK208.out) k_ hk_.2.1)⟩)) (below_size (by repeat (first | (with_reducible first | exact HB.out | apply below_alloc | apply pw_below_drewN | apply below_drew1 | refine below_set ?_ GE204.out | refine below_set ?_ GE208.out) | exact HB.out))))
  have n4_ := Aside0.mk (blk_below (by (with_reducible repeat (first | refine blk_drewN ?_ _ | refine blk_drew ?_ | refine blk_alloc ?_ _)); exact BK204.out) hb)
  have n5_ := Aside0.mk (blk_below (by (with_reducible repeat (first | refine blk_drewN ?_ _ | refine blk_drew ?_ | refine blk_alloc ?_ _)); exact BK208.out) hb)
  have n6_ := Aside0.mk (below_step (by repeat (first | (with_reducible first | exact HB.out | apply below_alloc | apply pw_below_drewN | apply below_drew1 | refine below_set ?_ GE204.out | refine below_set ?_ GE208.out) | exact HB.out)) hb)
  clear HO200 HO203 HO207 BK204 BK208 HB
  have HO200 := n0_
  have HO203 := n1_
  have HO207 := n2_
  have HO211 := n3_
  have BK204 := n4_
  have BK208 := n5_
  have HB := n6_
  clear n0_ n1_ n2_ n3_ n4_ n5_ n6_
  (try clear hb)
  (try clear hb2)
  (try clear hk)
  (try clear hi)
  (try clear ho0)
  refine hK.out _ _ ⟨(blk_cell BK204.out 0).trans rfl, (blk_cell BK204.out 1).trans rfl, (blk_cell BK204.out 2).trans rfl⟩ (fun hHeld => ?_)
  clear hK K
  refine norm_ (a' := ?_) ?_ ?_
  rotate_left
  · show Act.put _ (some 15) _ = _
    simp only [Act.put, List.setIfInBounds_toArray, List.set_cons_zero, List.set_cons_succ, i64_w, i32_w]
    rfl
  refine one_ (i := 3) (N := some 17) #[true, true, true, true, false, false] rfl rfl (by kernel_rfl) (by decide) (fun K hK => ?_)
  refine goes_ Try.func19 (by kernel_rfl) rfl #[.agg #[.string t197, .slice Ao8 t198.length co8, .slice Ao9 t201.length co9]] (by rfl) rfl rfl pgz ?_
  with_reducible refine (net_Initial.calls k t197 _ _ t198 _ _ t201 t212 _ ?side1 ?side2 ?side3 ?side4 A3.out).mono ?_
  (case side1 => repeat (first | exact (Kd.R_reads' HO200.out).2.2 | (with_reducible refine Kd.C_alloc ?_ _) | (with_reducible refine Kd.C_drewN ?_ _) | (with_reducible refine Kd.C_drew ?_)))
  (case side2 => exact (Kd.R_reads' HO200.out).2.1)
  (case side3 => repeat (first | exact (Kd.N_reads' HO203.out).2.2 | (with_reducible refine Kd.C_alloc ?_ _) | (with_reducible refine Kd.C_drewN ?_ _) | (with_reducible refine Kd.C_drew ?_)))
  (case side4 => exact (Kd.N_reads' HO203.out).2.1)
  rintro e w19 ⟨v213, rfl, ho0, hb⟩
  refine ⟨_, rfl, ?_⟩
  have n0_ := Aside0.mk (Kd.R_below (by (with_reducible repeat (first | apply Kd.R_alloc | apply Kd.R_drewN | apply Kd.R_drew)); exact HO200.out) hb)
  have n1_ := Aside0.mk (Kd.N_elder' (by (with_reducible repeat (first | apply Kd.N_alloc | apply Kd.N_drewN | apply Kd.N_drew)); exact HO203.out) (Kd.R_base ho0) hb)
  have n2_ := Aside0.mk (Kd.R_below (by (with_reducible repeat (first | apply Kd.R_alloc | apply Kd.R_drewN | apply Kd.R_drew)); exact HO207.out) hb)
  have n3_ := Aside0.mk (Kd.N_elder' (by (with_reducible repeat (first | apply Kd.N_alloc | apply Kd.N_drewN | apply Kd.N_drew)); exact HO211.out) (Kd.R_base ho0) hb)
  have n4_ := Aside0.mk (Kd.R_lower ho0 (below_size (by repeat (first | (with_reducible first | exact HB.out | apply below_alloc | apply pw_below_drewN | apply below_drew1 | refine below_set ?_ GE204.out | refine below_set ?_ GE208.out) | exact HB.out))))
  have n5_ := Aside0.mk (blk_below (by (with_reducible repeat (first | refine blk_drewN ?_ _ | refine blk_drew ?_ | refine blk_alloc ?_ _)); exact BK204.out) hb)
  have n6_ := Aside0.mk (blk_below (by (with_reducible repeat (first | refine blk_drewN ?_ _ | refine blk_drew ?_ | refine blk_alloc ?_ _)); exact BK208.out) hb)
  have n7_ := Aside0.mk (below_step (by repeat (first | (with_reducible first | exact HB.out | apply below_alloc | apply pw_below_drewN | apply below_drew1 | refine below_set ?_ GE204.out | refine below_set ?_ GE208.out) | exact HB.out)) hb)
  clear HO200 HO203 HO207 HO211 BK204 BK208 HB
  have HO200 := n0_
  have HO203 := n1_
  have HO207 := n2_
  have HO211 := n3_
  have HO214 := n4_
  have BK204 := n5_
  have BK208 := n6_
  have HB := n7_
  clear n0_ n1_ n2_ n3_ n4_ n5_ n6_ n7_
  (try clear hb)
  (try clear hb2)
  (try clear hk)
  (try clear hi)
  (try clear ho0)
  refine hK.out _ _ ⟨(blk_cell BK204.out 0).trans rfl, (blk_cell BK204.out 1).trans rfl, (blk_cell BK204.out 2).trans rfl⟩ (fun hHeld => ?_)
  clear hK K
  refine norm_ (a' := ?_) ?_ ?_
  rotate_left
  · show Act.put _ (some 17) _ = _
    simp only [Act.put, List.setIfInBounds_toArray, List.set_cons_zero, List.set_cons_succ, i64_w, i32_w]
    rfl
  refine pure_ (i := 4) (N := some 3) (v := ?_) (a' := ?_) #[true, true, true, true, true, false] rfl rfl (by kernel_rfl) (fun _ _ _ h => h) (Or.inl ⟨by rfl, ?_⟩) ?_ ?_
  rotate_left
  · intro w'
    go_simp
    with_reducible rfl
  rotate_left
  · simp only [Act.put, List.setIfInBounds_toArray, List.set_cons_zero, List.set_cons_succ, i64_w, i32_w]
    rfl
  refine pure_ (i := 5) (N := some 4) (v := ?_) (a' := ?_) #[true, true, true, true, true, true] rfl rfl (by kernel_rfl) (fun _ _ _ h => h) (Or.inl ⟨by rfl, ?_⟩) ?_ ?_
  rotate_left
  · intro w'
    go_simp
    with_reducible rfl
  rotate_left
  · simp only [Act.put, List.setIfInBounds_toArray, List.set_cons_zero, List.set_cons_succ, i64_w, i32_w]
    rfl
  refine done_ (by kernel_rfl) ?_
  go_upto_region 4 with (fail)
  go_cut [79] (fun v79 wc => ∃ (kq : Nat) (x79_3 : Bool), v79 = .bool x79_3 ∧ Aside0 (petrinetlaw09_lives.j0 kq x79_3 t197 t198 t201 (⟨#[110]⟩ : ByteArray) y205 = some r) ∧ Aside0 (kq ≤ k) ∧ Aside0 (Kd.R k50 50 wc w.heap.size (fun k_ => some k_ ≠ ((.slice Ao12 y205.length co12) : Value).ownBlock) (.slice Ao8 t198.length co8) t198) ∧ Aside0 (Kd.N k53 53 wc w.heap.size (fun k_ => some k_ ≠ ((.slice Ao8 t198.length co8) : Value).ownBlock ∧ some k_ ≠ ((.slice Ao12 y205.length co12) : Value).ownBlock ∧ k_ ≠ gb204 ∧ k_ ≠ gb208) (.slice Ao9 t201.length co9) t201) ∧ Aside0 (Kd.R k50 50 wc w.heap.size (fun k_ => some k_ ≠ ((.slice Ao8 t198.length co8) : Value).ownBlock) (.slice Ao12 y205.length co12) y205) ∧ Aside0 (wc.heap[gb204]? = some (.cells #[.string t197, (.slice Ao8 t198.length co8), (.slice Ao9 t201.length co9)] 25 (0, 0))) ∧ Aside0 (wc.heap[gb208]? = some (.cells #[.string (⟨#[110]⟩ : ByteArray), (.slice Ao12 y205.length co12), (.slice none 0 0)] 25 (0, 0))) ∧ Aside0 (Below w.heap.size w wc))
  case first =>
    have H := HC4.out
    clear HC4
    replace H := Option.bind_eq_some_iff.mp H
    obtain ⟨⟨t215, t216⟩, A200, H⟩ := H
    replace H : (if t215 = 0 then ((net_Check.f k (⟨#[110]⟩ : ByteArray) y205 ([] : List (S53))).bind fun bt217 => (if (!(bt217.1 == 6) || (!(bt217.2 == 1))) = true then (none) else (if (t209.length : Int) = 2 then (if 0 < (t209.length : Int) then (if ((rd_L11 t209 0).length : Int) = 1 then (if 0 < ((rd_L11 t209 0).length : Int) then (if (rd (rd_L11 t209 0) 0) = (-2) then (if 1 < (t209.length : Int) then (if ((rd_L11 t209 1).length : Int) = 1 then (if 0 < ((rd_L11 t209 1).length : Int) then (if (rd (rd_L11 t209 1) 0) = 1 then (if (t212.length : Int) = 2 then (if 0 < (t212.length : Int) then (if (rd t212 0) = 2 then (if 1 < (t212.length : Int) then (petrinetlaw09_lives.j0 k ((rd t212 1) != 0) t197 t198 t201 (⟨#[110]⟩ : ByteArray) y205) else (none)) else (none)) else (none)) else (none)) else (none)) else (none)) else (none)) else (none)) else (none)) else (none)) else (none)) else (none)) else (none)))) else (none)) = some r := H
    have A20 := Aside0.mk A200
    clear A200
    by_cases c21 : t215 = 0
    rotate_left
    · rw [if_neg c21] at H
      exact absurd H (by simp)
    rw [if_pos c21] at H
    have c21b0 : (t215 == 0) = true := beq_iff_eq.mpr c21
    have c21b1 : (t215 != 0) = false := bne_eq_false_iff_eq.mpr c21
    clear c21
    (first | rw [c21b0] | (simp only [i64_w, i32_w]; rw [c21b0]) | skip)
    replace H := Option.bind_eq_some_iff.mp H
    obtain ⟨⟨t217, t218⟩, A220, H⟩ := H
    replace H : (if (!(t217 == 6) || (!(t218 == 1))) = true then (none) else (if (t209.length : Int) = 2 then (if 0 < (t209.length : Int) then (if ((rd_L11 t209 0).length : Int) = 1 then (if 0 < ((rd_L11 t209 0).length : Int) then (if (rd (rd_L11 t209 0) 0) = (-2) then (if 1 < (t209.length : Int) then (if ((rd_L11 t209 1).length : Int) = 1 then (if 0 < ((rd_L11 t209 1).length : Int) then (if (rd (rd_L11 t209 1) 0) = 1 then (if (t212.length : Int) = 2 then (if 0 < (t212.length : Int) then (if (rd t212 0) = 2 then (if 1 < (t212.length : Int) then (petrinetlaw09_lives.j0 k ((rd t212 1) != 0) t197 t198 t201 (⟨#[110]⟩ : ByteArray) y205) else (none)) else (none)) else (none)) else (none)) else (none)) else (none)) else (none)) else (none)) else (none)) else (none)) else (none)) else (none)) else (none))) = some r := H
    have A22 := Aside0.mk A220
    clear A220
    by_cases c23 : (!(t217 == 6) || (!(t218 == 1))) = true
    · rw [if_pos c23] at H
      exact absurd H (by simp)
    rw [if_neg c23] at H
    have c23b0 : (!(t217 == 6) || (!(t218 == 1))) = false := by simpa using c23
    clear c23
    by_cases c24 : (t209.length : Int) = 2
    rotate_left
    · rw [if_neg c24] at H
      exact absurd H (by simp)
    rw [if_pos c24] at H
    have c24b0 : ((t209.length : Int) == 2) = true := beq_iff_eq.mpr c24
    have c24b1 : ((t209.length : Int) != 2) = false := bne_eq_false_iff_eq.mpr c24
    clear c24
    by_cases c25 : 0 < (t209.length : Int)
    rotate_left
    · rw [if_neg c25] at H
      exact absurd H (by simp)
    rw [if_pos c25] at H
    have c25b0 : decide (0 < (t209.length : Int)) = true := decide_eq_true c25
    have c25b1 : decide (0 < t209.length) = true := decide_eq_true (by omega)
    clear c25
    by_cases c26 : ((rd_L11 t209 0).length : Int) = 1
    rotate_left
    · rw [if_neg c26] at H
      exact absurd H (by simp)
    rw [if_pos c26] at H
    have c26b0 : (((rd_L11 t209 0).length : Int) == 1) = true := beq_iff_eq.mpr c26
    have c26b1 : (((rd_L11 t209 0).length : Int) != 1) = false := bne_eq_false_iff_eq.mpr c26
    clear c26
    by_cases c27 : 0 < ((rd_L11 t209 0).length : Int)
    rotate_left
    · rw [if_neg c27] at H
      exact absurd H (by simp)
    rw [if_pos c27] at H
    have c27b0 : decide (0 < ((rd_L11 t209 0).length : Int)) = true := decide_eq_true c27
    have c27b1 : decide (0 < (rd_L11 t209 0).length) = true := decide_eq_true (by omega)
    clear c27
    by_cases c28 : (rd (rd_L11 t209 0) 0) = (-2)
    rotate_left
    · rw [if_neg c28] at H
      exact absurd H (by simp)
    rw [if_pos c28] at H
    have c28b0 : ((rd (rd_L11 t209 0) 0) == (-2)) = true := beq_iff_eq.mpr c28
    have c28b1 : ((rd (rd_L11 t209 0) 0) != (-2)) = false := bne_eq_false_iff_eq.mpr c28
    clear c28
    by_cases c29 : 1 < (t209.length : Int)
    rotate_left
    · rw [if_neg c29] at H
      exact absurd H (by simp)
    rw [if_pos c29] at H
    have c29b0 : decide (1 < (t209.length : Int)) = true := decide_eq_true c29
    have c29b1 : decide (1 < t209.length) = true := decide_eq_true (by omega)
    clear c29
    by_cases c30 : ((rd_L11 t209 1).length : Int) = 1
    rotate_left
    · rw [if_neg c30] at H
      exact absurd H (by simp)
    rw [if_pos c30] at H
    have c30b0 : (((rd_L11 t209 1).length : Int) == 1) = true := beq_iff_eq.mpr c30
    have c30b1 : (((rd_L11 t209 1).length : Int) != 1) = false := bne_eq_false_iff_eq.mpr c30
    clear c30
    by_cases c31 : 0 < ((rd_L11 t209 1).length : Int)
    rotate_left
    · rw [if_neg c31] at H
      exact absurd H (by simp)
    rw [if_pos c31] at H
    have c31b0 : decide (0 < ((rd_L11 t209 1).length : Int)) = true := decide_eq_true c31
    have c31b1 : decide (0 < (rd_L11 t209 1).length) = true := decide_eq_true (by omega)
    clear c31
    by_cases c32 : (rd (rd_L11 t209 1) 0) = 1
    rotate_left
    · rw [if_neg c32] at H
      exact absurd H (by simp)
    rw [if_pos c32] at H
    have c32b0 : ((rd (rd_L11 t209 1) 0) == 1) = true := beq_iff_eq.mpr c32
    have c32b1 : ((rd (rd_L11 t209 1) 0) != 1) = false := bne_eq_false_iff_eq.mpr c32
    clear c32
    by_cases c33 : (t212.length : Int) = 2
    rotate_left
    · rw [if_neg c33] at H
      exact absurd H (by simp)
    rw [if_pos c33] at H
    have c33b0 : ((t212.length : Int) == 2) = true := beq_iff_eq.mpr c33
    have c33b1 : ((t212.length : Int) != 2) = false := bne_eq_false_iff_eq.mpr c33
    clear c33
    by_cases c34 : 0 < (t212.length : Int)
    rotate_left
    · rw [if_neg c34] at H
      exact absurd H (by simp)
    rw [if_pos c34] at H
    have c34b0 : decide (0 < (t212.length : Int)) = true := decide_eq_true c34
    have c34b1 : decide (0 < t212.length) = true := decide_eq_true (by omega)
    clear c34
    by_cases c35 : (rd t212 0) = 2
    rotate_left
    · rw [if_neg c35] at H
      exact absurd H (by simp)
    rw [if_pos c35] at H
    have c35b0 : ((rd t212 0) == 2) = true := beq_iff_eq.mpr c35
    have c35b1 : ((rd t212 0) != 2) = false := bne_eq_false_iff_eq.mpr c35
    clear c35
    by_cases c36 : 1 < (t212.length : Int)
    rotate_left
    · rw [if_neg c36] at H
      exact absurd H (by simp)
    rw [if_pos c36] at H
    have c36b0 : decide (1 < (t212.length : Int)) = true := decide_eq_true c36
    have c36b1 : decide (1 < t212.length) = true := decide_eq_true (by omega)
    clear c36
    have H' := Aside0.mk H
    clear H
    have hnb37 := NB204_208.out
    have hnc37 := NB208_204.out
    obtain ⟨hcz38_0, hcz38_1, hcz38_2, hfz38_0, hfz38_1, hfz38_2⟩ := cf3 BK204.out
    go_wp2_with (first | ((with_reducible refine gate_callee (f := 13) rfl ?_); refine goesL_ (some 19) rfl rfl Try.func13 (by kernel_rfl) rfl #[.agg #[.string t197, .slice Ao8 t198.length co8, .slice Ao9 t201.length co9]] rfl pgz ?_; (with_reducible refine (net_Check.calls k t197 _ _ t198 _ _ t201 t215 t216 _ ?side1 ?side2 ?side3 ?side4 A20.out).mono ?_); (case side1 => repeat (first | exact (Kd.R_reads' HO200.out).2.2 | (with_reducible refine Kd.C_alloc ?_ _) | (with_reducible refine Kd.C_drewN ?_ _) | (with_reducible refine Kd.C_drew ?_))); (case side2 => exact (Kd.R_reads' HO200.out).2.1); (case side3 => repeat (first | exact (Kd.N_reads' HO203.out).2.2 | (with_reducible refine Kd.C_alloc ?_ _) | (with_reducible refine Kd.C_drewN ?_ _) | (with_reducible refine Kd.C_drew ?_))); (case side4 => exact (Kd.N_reads' HO203.out).2.1); rintro e w39 ⟨rfl, hb⟩; refine ⟨_, rfl, ?_⟩; have n0_ := Aside0.mk (Kd.R_below (by (with_reducible repeat (first | apply Kd.R_alloc | apply Kd.R_drewN | apply Kd.R_drew)); exact HO200.out) hb); have n1_ := Aside0.mk (Kd.N_below (by (with_reducible repeat (first | apply Kd.N_alloc | apply Kd.N_drewN | apply Kd.N_drew)); exact HO203.out) hb); have n2_ := Aside0.mk (Kd.R_below (by (with_reducible repeat (first | apply Kd.R_alloc | apply Kd.R_drewN | apply Kd.R_drew)); exact HO207.out) hb); have n3_ := Aside0.mk (Kd.N_below (by (with_reducible repeat (first | apply Kd.N_alloc | apply Kd.N_drewN | apply Kd.N_drew)); exact HO211.out) hb); have n4_ := Aside0.mk (Kd.R_below (by (with_reducible repeat (first | apply Kd.R_alloc | apply Kd.R_drewN | apply Kd.R_drew)); exact HO214.out) hb); have n5_ := Aside0.mk (blk_below (by (with_reducible repeat (first | refine blk_drewN ?_ _ | refine blk_drew ?_ | refine blk_alloc ?_ _)); exact BK204.out) hb); have n6_ := Aside0.mk (blk_below (by (with_reducible repeat (first | refine blk_drewN ?_ _ | refine blk_drew ?_ | refine blk_alloc ?_ _)); exact BK208.out) hb); have n7_ := Aside0.mk (below_step (by repeat (first | (with_reducible first | exact HB.out | apply below_alloc | apply pw_below_drewN | apply below_drew1 | refine below_set ?_ GE204.out | refine below_set ?_ GE208.out) | exact HB.out)) hb); clear HO200; clear HO203; clear HO207; clear HO211; clear HO214; clear BK204; clear BK208; clear HB; have HO200 := n0_; have HO203 := n1_; have HO207 := n2_; have HO211 := n3_; have HO214 := n4_; have BK204 := n5_; have BK208 := n6_; have HB := n7_; clear n0_ n1_ n2_ n3_ n4_ n5_ n6_ n7_; (try clear hb); (try clear hb2); (try clear hk); (try clear hi); obtain ⟨hcz40_0, hcz40_1, hcz40_2, hfz40_0, hfz40_1, hfz40_2⟩ := cf3 BK208.out) | (go_at_call 13; (refine (net_Check.calls k (⟨#[110]⟩ : ByteArray) _ _ y205 _ _ ([] : List (S53)) t217 t218 _ ?side1 ?side2 ?side3 ?side4 A22.out).mono ?_); (case side1 => repeat (first | exact (Kd.R_reads' HO207.out).2.2 | (with_reducible refine Kd.C_alloc ?_ _) | (with_reducible refine Kd.C_drewN ?_ _) | (with_reducible refine Kd.C_drew ?_))); (case side2 => exact (Kd.R_reads' HO207.out).2.1); (case side3 => exact Kd.C_nil _ _); (case side4 => exact Nat.le_refl _); rintro e w41 ⟨rfl, hb⟩; have n0_ := Aside0.mk (Kd.R_below (by (with_reducible repeat (first | apply Kd.R_alloc | apply Kd.R_drewN | apply Kd.R_drew)); exact HO200.out) hb); have n1_ := Aside0.mk (Kd.N_below (by (with_reducible repeat (first | apply Kd.N_alloc | apply Kd.N_drewN | apply Kd.N_drew)); exact HO203.out) hb); have n2_ := Aside0.mk (Kd.R_below (by (with_reducible repeat (first | apply Kd.R_alloc | apply Kd.R_drewN | apply Kd.R_drew)); exact HO207.out) hb); have n3_ := Aside0.mk (Kd.N_below (by (with_reducible repeat (first | apply Kd.N_alloc | apply Kd.N_drewN | apply Kd.N_drew)); exact HO211.out) hb); have n4_ := Aside0.mk (Kd.R_below (by (with_reducible repeat (first | apply Kd.R_alloc | apply Kd.R_drewN | apply Kd.R_drew)); exact HO214.out) hb); have n5_ := Aside0.mk (blk_below (by (with_reducible repeat (first | refine blk_drewN ?_ _ | refine blk_drew ?_ | refine blk_alloc ?_ _)); exact BK204.out) hb); have n6_ := Aside0.mk (blk_below (by (with_reducible repeat (first | refine blk_drewN ?_ _ | refine blk_drew ?_ | refine blk_alloc ?_ _)); exact BK208.out) hb); have n7_ := Aside0.mk (below_step (by repeat (first | (with_reducible first | exact HB.out | apply below_alloc | apply pw_below_drewN | apply below_drew1 | refine below_set ?_ GE204.out | refine below_set ?_ GE208.out) | exact HB.out)) hb); clear HO200; clear HO203; clear HO207; clear HO211; clear HO214; clear BK204; clear BK208; clear HB; have HO200 := n0_; have HO203 := n1_; have HO207 := n2_; have HO211 := n3_; have HO214 := n4_; have BK204 := n5_; have BK208 := n6_; have HB := n7_; clear n0_ n1_ n2_ n3_ n4_ n5_ n6_ n7_; (try clear hb); (try clear hb2); (try clear hk); (try clear hi); obtain ⟨Ao42, co42, eo42⟩ := Kd.N_slice HO211.out; subst eo42; have p219 : 0 ≤ (0 : Int) := (by omega); have q219 : 0 < (t209.length : Int) := dq; obtain ⟨ad219, A219_0, c219_0, e219, hx219_0, hl219_0, hi219_0⟩ := at_L11 (Kd.N_reads' HO211.out).2.2 0 p219 q219; cases e219; obtain ⟨ce219, hce219, hMe219, hcc219⟩ := Kd.N_get HO211.out [] 0 p219 (by first | exact q219 | exact dq | (have e_ := (Kd.N_reads' HO211.out).1; omega)); obtain ⟨ua219_0, uc219_0, rfl, ul219_0, ge219_0⟩ := Kd.FK_slice_open hMe219; have hv219_0 := hcc219 0 _ rfl; rw [Nat.add_zero, show ((Kd.slice 2 (Kd.int .i64))).sz = 1 from rfl, Nat.mul_one] at hv219_0; replace hv219_0 := Option.some.inj (hv219_0.symm.trans hx219_0); injection hv219_0 with hva_ hvn_ hvc_; rw [hva_] at ge219_0; rw [hvc_] at ul219_0; have HL219_0 := Aside0.mk (show Kd.V (Kd.int .i64) 2 _ w.heap.size _ _ (rd_L11 t209 0) from Kd.V_mk ul219_0 ge219_0); clear hva_ hvn_ hvc_ ge219_0 ul219_0; clear hcc219 hce219; have qi219 : (0 < t209.length) = True := eq_true (by omega); (try rw [show ((0 : Int)).toNat = 0 from rfl] at hx219_0); (try rw [Addr.add_zero'] at hx219_0); have HR219_0 := Aside0.mk hi219_0; have HC219_0 := Aside0.mk hl219_0; clear hi219_0 hl219_0; replace p219 := eq_true p219; replace q219 := eq_true q219; have p220 : 0 ≤ (0 : Int) := (by omega); have q220 : 0 < (t209.length : Int) := dq; obtain ⟨ad220, A220_0, c220_0, e220, hx220_0, hl220_0, hi220_0⟩ := at_L11 (Kd.N_reads' HO211.out).2.2 0 p220 q220; obtain rfl : ad219 = ad220 := (by injection e220); obtain ⟨ce220, hce220, hMe220, hcc220⟩ := Kd.N_get HO211.out [] 0 p220 (by first | exact q220 | exact dq | (have e_ := (Kd.N_reads' HO211.out).1; omega)); obtain ⟨ua220_0, uc220_0, rfl, ul220_0, ge220_0⟩ := Kd.FK_slice_open hMe220; have hv220_0 := hcc220 0 _ rfl; rw [Nat.add_zero, show ((Kd.slice 2 (Kd.int .i64))).sz = 1 from rfl, Nat.mul_one] at hv220_0; replace hv220_0 := Option.some.inj (hv220_0.symm.trans hx220_0); injection hv220_0 with hva_ hvn_ hvc_; rw [hva_] at ge220_0; rw [hvc_] at ul220_0; have HL220_0 := Aside0.mk (show Kd.V (Kd.int .i64) 2 _ w.heap.size _ _ (rd_L11 t209 0) from Kd.V_mk ul220_0 ge220_0); clear hva_ hvn_ hvc_ ge220_0 ul220_0; clear hcc220 hce220; have qi220 : (0 < t209.length) = True := eq_true (by omega); (try rw [show ((0 : Int)).toNat = 0 from rfl] at hx220_0); (try rw [Addr.add_zero'] at hx220_0); have HR220_0 := Aside0.mk hi220_0; have HC220_0 := Aside0.mk hl220_0; clear hi220_0 hl220_0; replace p220 := eq_true p220; replace q220 := eq_true q220; have ea_ := Option.some.inj (hx219_0.symm.trans hx220_0); injection ea_ with ea_ en_ ec_; subst ea_; subst ec_; clear en_; have p221 : 0 ≤ (0 : Int) := (by omega); have q221 : 0 < ((rd_L11 t209 0).length : Int) := dq; obtain ⟨ad221, e221, hx221_0⟩ := Kd.at_int (by repeat (first | (with_reducible exact HR220_0.out) | (with_reducible refine Kd.C_alloc ?_ _) | (with_reducible refine Kd.C_drewN ?_ _) | (with_reducible refine Kd.C_drew ?_) | exact HR220_0.out)) 0 p221 q221; cases e221; have qi221 : (0 < (rd_L11 t209 0).length) = True := eq_true (by omega); (try rw [show ((0 : Int)).toNat = 0 from rfl] at hx221_0); (try rw [Addr.add_zero'] at hx221_0); replace p221 := eq_true p221; replace q221 := eq_true q221; have p222 : 0 ≤ (1 : Int) := (by omega); have q222 : 1 < (t209.length : Int) := dq; obtain ⟨ad222, A222_0, c222_0, e222, hx222_0, hl222_0, hi222_0⟩ := at_L11 (Kd.N_reads' HO211.out).2.2 1 p222 q222; obtain rfl : ad219 = ad222 := (by injection e222); obtain ⟨ce222, hce222, hMe222, hcc222⟩ := Kd.N_get HO211.out [] 1 p222 (by first | exact q222 | exact dq | (have e_ := (Kd.N_reads' HO211.out).1; omega)); obtain ⟨ua222_0, uc222_0, rfl, ul222_0, ge222_0⟩ := Kd.FK_slice_open hMe222; have hv222_0 := hcc222 0 _ rfl; rw [Nat.add_zero, show ((Kd.slice 2 (Kd.int .i64))).sz = 1 from rfl, Nat.mul_one] at hv222_0; replace hv222_0 := Option.some.inj (hv222_0.symm.trans hx222_0); injection hv222_0 with hva_ hvn_ hvc_; rw [hva_] at ge222_0; rw [hvc_] at ul222_0; have HL222_0 := Aside0.mk (show Kd.V (Kd.int .i64) 2 _ w.heap.size _ _ (rd_L11 t209 1) from Kd.V_mk ul222_0 ge222_0); clear hva_ hvn_ hvc_ ge222_0 ul222_0; clear hcc222 hce222; (try simp only [show (1 : Int).toNat = 1 from rfl, Nat.reduceMul, Nat.reduceEqDiff, Go.Addr.add, ↓reduceIte] at hx222_0); have qi222 : (1 < t209.length) = True := eq_true (by omega); (try rw [show ((1 : Int)).toNat = 1 from rfl] at hx222_0); have HR222_0 := Aside0.mk hi222_0; have HC222_0 := Aside0.mk hl222_0; clear hi222_0 hl222_0; replace p222 := eq_true p222; replace q222 := eq_true q222; have p223 : 0 ≤ (1 : Int) := (by omega); have q223 : 1 < (t209.length : Int) := dq; obtain ⟨ad223, A223_0, c223_0, e223, hx223_0, hl223_0, hi223_0⟩ := at_L11 (Kd.N_reads' HO211.out).2.2 1 p223 q223; obtain rfl : ad219 = ad223 := (by injection e223); obtain ⟨ce223, hce223, hMe223, hcc223⟩ := Kd.N_get HO211.out [] 1 p223 (by first | exact q223 | exact dq | (have e_ := (Kd.N_reads' HO211.out).1; omega)); obtain ⟨ua223_0, uc223_0, rfl, ul223_0, ge223_0⟩ := Kd.FK_slice_open hMe223; have hv223_0 := hcc223 0 _ rfl; rw [Nat.add_zero, show ((Kd.slice 2 (Kd.int .i64))).sz = 1 from rfl, Nat.mul_one] at hv223_0; replace hv223_0 := Option.some.inj (hv223_0.symm.trans hx223_0); injection hv223_0 with hva_ hvn_ hvc_; rw [hva_] at ge223_0; rw [hvc_] at ul223_0; have HL223_0 := Aside0.mk (show Kd.V (Kd.int .i64) 2 _ w.heap.size _ _ (rd_L11 t209 1) from Kd.V_mk ul223_0 ge223_0); clear hva_ hvn_ hvc_ ge223_0 ul223_0; clear hcc223 hce223; (try simp only [show (1 : Int).toNat = 1 from rfl, Nat.reduceMul, Nat.reduceEqDiff, Go.Addr.add, ↓reduceIte] at hx223_0); have qi223 : (1 < t209.length) = True := eq_true (by omega); (try rw [show ((1 : Int)).toNat = 1 from rfl] at hx223_0); have HR223_0 := Aside0.mk hi223_0; have HC223_0 := Aside0.mk hl223_0; clear hi223_0 hl223_0; replace p223 := eq_true p223; replace q223 := eq_true q223; have ea_ := Option.some.inj (hx222_0.symm.trans hx223_0); injection ea_ with ea_ en_ ec_; subst ea_; subst ec_; clear en_; have p224 : 0 ≤ (0 : Int) := (by omega); have q224 : 0 < ((rd_L11 t209 1).length : Int) := dq; obtain ⟨ad224, e224, hx224_0⟩ := Kd.at_int (by repeat (first | (with_reducible exact HR223_0.out) | (with_reducible refine Kd.C_alloc ?_ _) | (with_reducible refine Kd.C_drewN ?_ _) | (with_reducible refine Kd.C_drew ?_) | exact HR223_0.out)) 0 p224 q224; cases e224; have qi224 : (0 < (rd_L11 t209 1).length) = True := eq_true (by omega); (try rw [show ((0 : Int)).toNat = 0 from rfl] at hx224_0); (try rw [Addr.add_zero'] at hx224_0); replace p224 := eq_true p224; replace q224 := eq_true q224; obtain ⟨Ao43, co43, eo43⟩ := Kd.R_slice HO214.out; subst eo43; have p225 : 0 ≤ (0 : Int) := (by omega); have q225 : 0 < (t212.length : Int) := dq; obtain ⟨ad225, e225, hx225_0⟩ := Kd.at_int (Kd.R_reads' HO214.out).2.2 0 p225 q225; cases e225; have qi225 : (0 < t212.length) = True := eq_true (by omega); (try rw [show ((0 : Int)).toNat = 0 from rfl] at hx225_0); (try rw [Addr.add_zero'] at hx225_0); replace p225 := eq_true p225; replace q225 := eq_true q225; have p226 : 0 ≤ (1 : Int) := (by omega); have q226 : 1 < (t212.length : Int) := dq; obtain ⟨ad226, e226, hx226_0⟩ := Kd.at_int (Kd.R_reads' HO214.out).2.2 1 p226 q226; obtain rfl : ad225 = ad226 := (by injection e226); (try simp only [show (1 : Int).toNat = 1 from rfl, Nat.reduceMul, Nat.reduceEqDiff, Go.Addr.add, ↓reduceIte] at hx226_0); have qi226 : (1 < t212.length) = True := eq_true (by omega); (try rw [show ((1 : Int)).toNat = 1 from rfl] at hx226_0); replace p226 := eq_true p226; replace q226 := eq_true q226))
    go_meet
    case rel => exact ⟨_, (((rd t212 1) != 0)), prs, H', ⟨by first | omega | exact Nat.le_refl _⟩, ⟨by (with_reducible repeat (first | apply Kd.R_alloc | apply Kd.R_drewN | apply Kd.R_drew)); exact HO200.out⟩, ⟨by (with_reducible repeat (first | apply Kd.N_alloc | apply Kd.N_drewN | apply Kd.N_drew)); exact Kd.N_mono HO203.out (fun _ hk => ⟨hk.1.1.1, ⟨hk.1.1.2.1, ⟨hk.1.1.2.2.1, hk.1.1.2.2.2⟩⟩⟩)⟩, ⟨by (with_reducible repeat (first | apply Kd.R_alloc | apply Kd.R_drewN | apply Kd.R_drew)); exact HO207.out⟩, ⟨by (with_reducible repeat (first | refine blk_drewN ?_ _ | refine blk_drew ?_ | refine blk_alloc ?_ _)); exact BK204.out⟩, ⟨by (with_reducible repeat (first | refine blk_drewN ?_ _ | refine blk_drew ?_ | refine blk_alloc ?_ _)); exact BK208.out⟩, ⟨by repeat (first | (with_reducible first | exact HB.out | apply below_alloc | apply pw_below_drewN | apply below_drew1 | refine below_set ?_ GE204.out | refine below_set ?_ GE208.out) | exact HB.out)⟩⟩
  clear HC4
  try clear c3
  try clear c21
  try clear c21b0
  try clear c21b1
  try clear c23
  try clear c23b0
  try clear c24
  try clear c24b0
  try clear c24b1
  try clear c25
  try clear c25b0
  try clear c25b1
  try clear c26
  try clear c26b0
  try clear c26b1
  try clear c27
  try clear c27b0
  try clear c27b1
  try clear c28
  try clear c28b0
  try clear c28b1
  try clear c29
  try clear c29b0
  try clear c29b1
  try clear c30
  try clear c30b0
  try clear c30b1
  try clear c31
  try clear c31b0
  try clear c31b1
  try clear c32
  try clear c32b0
  try clear c32b1
  try clear c33
  try clear c33b0
  try clear c33b1
  try clear c34
  try clear c34b0
  try clear c34b1
  try clear c35
  try clear c35b0
  try clear c35b1
  try clear c36
  try clear c36b0
  try clear c36b1
  try clear hcz15_0
  try clear hcz15_1
  try clear hcz15_2
  try clear hcz38_0
  try clear hcz38_1
  try clear hcz38_2
  try clear hcz40_0
  try clear hcz40_1
  try clear hcz40_2
  try clear hcz7_0
  try clear hcz7_1
  try clear hcz7_2
  try clear hfz15_0
  try clear hfz15_1
  try clear hfz15_2
  try clear hfz38_0
  try clear hfz38_1
  try clear hfz38_2
  try clear hfz40_0
  try clear hfz40_1
  try clear hfz40_2
  try clear hfz7_0
  try clear hfz7_1
  try clear hfz7_2
  try clear hx219_0
  try clear hx220_0
  try clear hx221_0
  try clear hx222_0
  try clear hx223_0
  try clear hx224_0
  try clear hx225_0
  try clear hx226_0
  try clear p219
  try clear p220
  try clear p221
  try clear p222
  try clear p223
  try clear p224
  try clear p225
  try clear p226
  try clear q219
  try clear q220
  try clear q221
  try clear q222
  try clear q223
  try clear q224
  try clear q225
  try clear q226
  obtain ⟨kq, x79_3, rfl, HA, HJ3, HO_205001, HO_205002, HO_209001, BK204, BK208, HB⟩ := hcut
  obtain _ | kj3 := kq
  · exact absurd HA.out (by simp [petrinetlaw09_lives.j0])
  have H := HA.out
  clear HA
  simp only [petrinetlaw09_lives.j0] at H
  by_cases c44 : x79_3 = true
  · subst c44
    have H1 : (none) = some r := by rw [if_pos rfl] at H; exact H
    clear H
    have H := H1
    clear H1
    exact absurd H (by simp)
  replace c44 := Bool.eq_false_iff.mpr c44
  subst c44
  have H1 : ((net_Inputs.f kj3 t197 t198 t201 0).bind fun t227 => ((net_Outputs.f kj3 t197 t198 t201 0).bind fun t230 => ((net_Producers.f kj3 t197 t198 t201 1).bind fun t233 => ((net_Consumers.f kj3 t197 t198 t201 0).bind fun t236 => (if (t227.length : Int) = 1 then (if 0 < (t227.length : Int) then (if (rd t227 0) = 0 then (if (t230.length : Int) = 1 then (if 0 < (t230.length : Int) then (if (rd t230 0) = 1 then (if (t233.length : Int) = 1 then (if 0 < (t233.length : Int) then (if (rd t233 0) = 0 then (if (t236.length : Int) = 1 then (if 0 < (t236.length : Int) then (petrinetlaw09_lives.j1 kj3 ((rd t236 0) != 0) t197 t198 t201 (⟨#[110]⟩ : ByteArray) y205) else (none)) else (none)) else (none)) else (none)) else (none)) else (none)) else (none)) else (none)) else (none)) else (none)) else (none)))))) = some r := by rw [if_neg (show ¬ (false = true) by decide)] at H; exact H
  clear H
  have H := H1
  clear H1
  replace H := Option.bind_eq_some_iff.mp H
  obtain ⟨t227, A450, H⟩ := H
  replace H : ((net_Outputs.f kj3 t197 t198 t201 0).bind fun t230 => ((net_Producers.f kj3 t197 t198 t201 1).bind fun t233 => ((net_Consumers.f kj3 t197 t198 t201 0).bind fun t236 => (if (t227.length : Int) = 1 then (if 0 < (t227.length : Int) then (if (rd t227 0) = 0 then (if (t230.length : Int) = 1 then (if 0 < (t230.length : Int) then (if (rd t230 0) = 1 then (if (t233.length : Int) = 1 then (if 0 < (t233.length : Int) then (if (rd t233 0) = 0 then (if (t236.length : Int) = 1 then (if 0 < (t236.length : Int) then (petrinetlaw09_lives.j1 kj3 ((rd t236 0) != 0) t197 t198 t201 (⟨#[110]⟩ : ByteArray) y205) else (none)) else (none)) else (none)) else (none)) else (none)) else (none)) else (none)) else (none)) else (none)) else (none)) else (none))))) = some r := H
  have A45 := Aside0.mk A450
  clear A450
  replace H := Option.bind_eq_some_iff.mp H
  obtain ⟨t230, A460, H⟩ := H
  replace H : ((net_Producers.f kj3 t197 t198 t201 1).bind fun t233 => ((net_Consumers.f kj3 t197 t198 t201 0).bind fun t236 => (if (t227.length : Int) = 1 then (if 0 < (t227.length : Int) then (if (rd t227 0) = 0 then (if (t230.length : Int) = 1 then (if 0 < (t230.length : Int) then (if (rd t230 0) = 1 then (if (t233.length : Int) = 1 then (if 0 < (t233.length : Int) then (if (rd t233 0) = 0 then (if (t236.length : Int) = 1 then (if 0 < (t236.length : Int) then (petrinetlaw09_lives.j1 kj3 ((rd t236 0) != 0) t197 t198 t201 (⟨#[110]⟩ : ByteArray) y205) else (none)) else (none)) else (none)) else (none)) else (none)) else (none)) else (none)) else (none)) else (none)) else (none)) else (none)))) = some r := H
  have A46 := Aside0.mk A460
  clear A460
  replace H := Option.bind_eq_some_iff.mp H
  obtain ⟨t233, A470, H⟩ := H
  replace H : ((net_Consumers.f kj3 t197 t198 t201 0).bind fun t236 => (if (t227.length : Int) = 1 then (if 0 < (t227.length : Int) then (if (rd t227 0) = 0 then (if (t230.length : Int) = 1 then (if 0 < (t230.length : Int) then (if (rd t230 0) = 1 then (if (t233.length : Int) = 1 then (if 0 < (t233.length : Int) then (if (rd t233 0) = 0 then (if (t236.length : Int) = 1 then (if 0 < (t236.length : Int) then (petrinetlaw09_lives.j1 kj3 ((rd t236 0) != 0) t197 t198 t201 (⟨#[110]⟩ : ByteArray) y205) else (none)) else (none)) else (none)) else (none)) else (none)) else (none)) else (none)) else (none)) else (none)) else (none)) else (none))) = some r := H
  have A47 := Aside0.mk A470
  clear A470
  replace H := Option.bind_eq_some_iff.mp H
  obtain ⟨t236, A480, H⟩ := H
  replace H : (if (t227.length : Int) = 1 then (if 0 < (t227.length : Int) then (if (rd t227 0) = 0 then (if (t230.length : Int) = 1 then (if 0 < (t230.length : Int) then (if (rd t230 0) = 1 then (if (t233.length : Int) = 1 then (if 0 < (t233.length : Int) then (if (rd t233 0) = 0 then (if (t236.length : Int) = 1 then (if 0 < (t236.length : Int) then (petrinetlaw09_lives.j1 kj3 ((rd t236 0) != 0) t197 t198 t201 (⟨#[110]⟩ : ByteArray) y205) else (none)) else (none)) else (none)) else (none)) else (none)) else (none)) else (none)) else (none)) else (none)) else (none)) else (none)) = some r := H
  have A48 := Aside0.mk A480
  clear A480
  have HC49 := Aside0.mk H
  clear H
  try go_wp2
  have n0_ := Aside0.mk (Kd.R_drew HO_205001.out)
  have n1_ := Aside0.mk (Kd.N_drew HO_205002.out)
  have n2_ := Aside0.mk (Kd.R_drew HO_209001.out)
  have n3_ := Aside0.mk (blk_drew BK204.out)
  have n4_ := Aside0.mk (blk_drew BK208.out)
  have n5_ := Aside0.mk (below_drew1 HB.out)
  clear HO_205001 HO_205002 HO_209001 BK204 BK208 HB
  have HO_205001 := n0_
  have HO_205002 := n1_
  have HO_209001 := n2_
  have BK204 := n3_
  have BK208 := n4_
  have HB := n5_
  clear n0_ n1_ n2_ n3_ n4_ n5_
  refine start_ (n := 12) (S := fun w' => w'.cell? ⟨gb204, 0, none⟩ = some (.string t197) ∧ w'.cell? ⟨gb204, 1, none⟩ = some (.slice Ao8 t198.length co8) ∧ w'.cell? ⟨gb204, 2, none⟩ = some (.slice Ao9 t201.length co9)) (ds := []) #[false, false, false, false, false, false, false, false, false, false, false, false] (by kernel_rfl) rfl rfl ⟨(blk_cell BK204.out 0).trans rfl, (blk_cell BK204.out 1).trans rfl, (blk_cell BK204.out 2).trans rfl⟩ (fun hHeld => ?_); refine with_tabW petrinetlaw09_lives.tab6 petrinetlaw09_lives.bits6 (fun HT_ HW_ => ?_)
  generalize wc.drew = w50 at HO_205001 HO_205002 HO_209001 BK204 BK208 HB hHeld ⊢
  refine take_ (i := 0) (N := some 80) (v := ?_) (a' := ?_) #[true, false, false, false, false, false, false, false, false, false, false, false] rfl rfl (take_ofW HT_.out HW_.out (by kernel_rfl)) (fun _ _ _ h => h) (Or.inl ⟨by rfl, ?_⟩) hHeld ?_ ?_
  rotate_left
  · rintro w' ⟨s0, s1, s2⟩
    go_simp
    with_reducible rfl
  rotate_left
  · simp only [Act.put, List.setIfInBounds_toArray, List.set_cons_zero, List.set_cons_succ, i64_w, i32_w]
    rfl
  refine take_ (i := 2) (N := some 82) (v := ?_) (a' := ?_) #[true, false, true, false, false, false, false, false, false, false, false, false] rfl rfl (take_ofW HT_.out HW_.out (by kernel_rfl)) (fun _ _ _ h => h) (Or.inl ⟨by rfl, ?_⟩) hHeld ?_ ?_
  rotate_left
  · rintro w' ⟨s0, s1, s2⟩
    go_simp
    with_reducible rfl
  rotate_left
  · simp only [Act.put, List.setIfInBounds_toArray, List.set_cons_zero, List.set_cons_succ, i64_w, i32_w]
    rfl
  refine take_ (i := 4) (N := some 84) (v := ?_) (a' := ?_) #[true, false, true, false, true, false, false, false, false, false, false, false] rfl rfl (take_ofW HT_.out HW_.out (by kernel_rfl)) (fun _ _ _ h => h) (Or.inl ⟨by rfl, ?_⟩) hHeld ?_ ?_
  rotate_left
  · rintro w' ⟨s0, s1, s2⟩
    go_simp
    with_reducible rfl
  rotate_left
  · simp only [Act.put, List.setIfInBounds_toArray, List.set_cons_zero, List.set_cons_succ, i64_w, i32_w]
    rfl
  refine take_ (i := 6) (N := some 86) (v := ?_) (a' := ?_) #[true, false, true, false, true, false, true, false, false, false, false, false] rfl rfl (take_ofW HT_.out HW_.out (by kernel_rfl)) (fun _ _ _ h => h) (Or.inl ⟨by rfl, ?_⟩) hHeld ?_ ?_
  rotate_left
  · rintro w' ⟨s0, s1, s2⟩
    go_simp
    with_reducible rfl
  rotate_left
  · simp only [Act.put, List.setIfInBounds_toArray, List.set_cons_zero, List.set_cons_succ, i64_w, i32_w]
    rfl
  refine one_ (i := 1) (N := some 81) #[true, true, true, false, true, false, true, false, false, false, false, false] rfl rfl (one_of HT_.out (by kernel_rfl)) (by decide) (fun K hK => ?_)
  refine goes_ Try.func33 (by kernel_rfl) rfl #[.agg #[.string t197, .slice Ao8 t198.length co8, .slice Ao9 t201.length co9], .int .i64 0] (by rfl) rfl rfl pgz ?_
  with_reducible refine (net_Inputs.calls kj3 t197 _ _ t198 _ _ t201 0 t227 _ ?side1 ?side2 ?side3 ?side4 A45.out).mono ?_
  (case side1 => repeat (first | exact (Kd.R_reads' HO_205001.out).2.2 | (with_reducible refine Kd.C_alloc ?_ _) | (with_reducible refine Kd.C_drewN ?_ _) | (with_reducible refine Kd.C_drew ?_)))
  (case side2 => exact (Kd.R_reads' HO_205001.out).2.1)
  (case side3 => repeat (first | exact (Kd.N_reads' HO_205002.out).2.2 | (with_reducible refine Kd.C_alloc ?_ _) | (with_reducible refine Kd.C_drewN ?_ _) | (with_reducible refine Kd.C_drew ?_)))
  (case side4 => exact (Kd.N_reads' HO_205002.out).2.1)
  rintro e w51 ⟨v228, rfl, ho0, hb⟩
  refine ⟨_, rfl, ?_⟩
  have n0_ := Aside0.mk (Kd.R_below (by (with_reducible repeat (first | apply Kd.R_alloc | apply Kd.R_drewN | apply Kd.R_drew)); exact HO_205001.out) hb)
  have n1_ := Aside0.mk (Kd.N_elder' (by (with_reducible repeat (first | apply Kd.N_alloc | apply Kd.N_drewN | apply Kd.N_drew)); exact HO_205002.out) (Kd.R_base ho0) hb)
  have n2_ := Aside0.mk (Kd.R_below (by (with_reducible repeat (first | apply Kd.R_alloc | apply Kd.R_drewN | apply Kd.R_drew)); exact HO_209001.out) hb)
  have n3_ := Aside0.mk (Kd.R_lower ho0 (below_size (by repeat (first | (with_reducible first | exact HB.out | apply below_alloc | apply pw_below_drewN | apply below_drew1 | refine below_set ?_ GE204.out | refine below_set ?_ GE208.out) | exact HB.out))))
  have n4_ := Aside0.mk (blk_below (by (with_reducible repeat (first | refine blk_drewN ?_ _ | refine blk_drew ?_ | refine blk_alloc ?_ _)); exact BK204.out) hb)
  have n5_ := Aside0.mk (blk_below (by (with_reducible repeat (first | refine blk_drewN ?_ _ | refine blk_drew ?_ | refine blk_alloc ?_ _)); exact BK208.out) hb)
  have n6_ := Aside0.mk (below_step (by repeat (first | (with_reducible first | exact HB.out | apply below_alloc | apply pw_below_drewN | apply below_drew1 | refine below_set ?_ GE204.out | refine below_set ?_ GE208.out) | exact HB.out)) hb)
  clear HO_205001 HO_205002 HO_209001 BK204 BK208 HB
  have HO_205001 := n0_
  have HO_205002 := n1_
  have HO_209001 := n2_
  have HO229 := n3_
  have BK204 := n4_
  have BK208 := n5_
  have HB := n6_
  clear n0_ n1_ n2_ n3_ n4_ n5_ n6_
  (try clear hb)
  (try clear hb2)
  (try clear hk)
  (try clear hi)
  (try clear ho0)
  refine hK.out _ _ ⟨(blk_cell BK204.out 0).trans rfl, (blk_cell BK204.out 1).trans rfl, (blk_cell BK204.out 2).trans rfl⟩ (fun hHeld => ?_)
  clear hK K
  refine norm_ (a' := ?_) ?_ ?_
  rotate_left
  · show Act.put _ (some 81) _ = _
    simp only [Act.put, List.setIfInBounds_toArray, List.set_cons_zero, List.set_cons_succ, i64_w, i32_w]
    rfl
  refine one_ (i := 3) (N := some 83) #[true, true, true, true, true, false, true, false, false, false, false, false] rfl rfl (one_of HT_.out (by kernel_rfl)) (by decide) (fun K hK => ?_)
  refine goes_ Try.func35 (by kernel_rfl) rfl #[.agg #[.string t197, .slice Ao8 t198.length co8, .slice Ao9 t201.length co9], .int .i64 0] (by rfl) rfl rfl pgz ?_
  with_reducible refine (net_Outputs.calls kj3 t197 _ _ t198 _ _ t201 0 t230 _ ?side1 ?side2 ?side3 ?side4 A46.out).mono ?_
  (case side1 => repeat (first | exact (Kd.R_reads' HO_205001.out).2.2 | (with_reducible refine Kd.C_alloc ?_ _) | (with_reducible refine Kd.C_drewN ?_ _) | (with_reducible refine Kd.C_drew ?_)))
  (case side2 => exact (Kd.R_reads' HO_205001.out).2.1)
  (case side3 => repeat (first | exact (Kd.N_reads' HO_205002.out).2.2 | (with_reducible refine Kd.C_alloc ?_ _) | (with_reducible refine Kd.C_drewN ?_ _) | (with_reducible refine Kd.C_drew ?_)))
  (case side4 => exact (Kd.N_reads' HO_205002.out).2.1)
  rintro e w52 ⟨v231, rfl, ho0, hb⟩
  refine ⟨_, rfl, ?_⟩
  have n0_ := Aside0.mk (Kd.R_below (by (with_reducible repeat (first | apply Kd.R_alloc | apply Kd.R_drewN | apply Kd.R_drew)); exact HO_205001.out) hb)
  have n1_ := Aside0.mk (Kd.N_elder' (by (with_reducible repeat (first | apply Kd.N_alloc | apply Kd.N_drewN | apply Kd.N_drew)); exact HO_205002.out) (Kd.R_base ho0) hb)
  have n2_ := Aside0.mk (Kd.R_below (by (with_reducible repeat (first | apply Kd.R_alloc | apply Kd.R_drewN | apply Kd.R_drew)); exact HO_209001.out) hb)
  have n3_ := Aside0.mk (Kd.R_elder' (by (with_reducible repeat (first | apply Kd.R_alloc | apply Kd.R_drewN | apply Kd.R_drew)); exact HO229.out) (Kd.R_base ho0) hb)
  have n4_ := Aside0.mk (Kd.R_lower (Kd.R_new' ho0 (Kd.R_lt (by (with_reducible repeat (first | apply Kd.R_alloc | apply Kd.R_drewN | apply Kd.R_drew)); exact HO229.out))) (below_size (by repeat (first | (with_reducible first | exact HB.out | apply below_alloc | apply pw_below_drewN | apply below_drew1 | refine below_set ?_ GE204.out | refine below_set ?_ GE208.out) | exact HB.out))))
  have n5_ := Aside0.mk (blk_below (by (with_reducible repeat (first | refine blk_drewN ?_ _ | refine blk_drew ?_ | refine blk_alloc ?_ _)); exact BK204.out) hb)
  have n6_ := Aside0.mk (blk_below (by (with_reducible repeat (first | refine blk_drewN ?_ _ | refine blk_drew ?_ | refine blk_alloc ?_ _)); exact BK208.out) hb)
  have n7_ := Aside0.mk (below_step (by repeat (first | (with_reducible first | exact HB.out | apply below_alloc | apply pw_below_drewN | apply below_drew1 | refine below_set ?_ GE204.out | refine below_set ?_ GE208.out) | exact HB.out)) hb)
  clear HO_205001 HO_205002 HO_209001 HO229 BK204 BK208 HB
  have HO_205001 := n0_
  have HO_205002 := n1_
  have HO_209001 := n2_
  have HO229 := n3_
  have HO232 := n4_
  have BK204 := n5_
  have BK208 := n6_
  have HB := n7_
  clear n0_ n1_ n2_ n3_ n4_ n5_ n6_ n7_
  (try clear hb)
  (try clear hb2)
  (try clear hk)
  (try clear hi)
  (try clear ho0)
  refine hK.out _ _ ⟨(blk_cell BK204.out 0).trans rfl, (blk_cell BK204.out 1).trans rfl, (blk_cell BK204.out 2).trans rfl⟩ (fun hHeld => ?_)
  clear hK K
  refine norm_ (a' := ?_) ?_ ?_
  rotate_left
  · show Act.put _ (some 83) _ = _
    simp only [Act.put, List.setIfInBounds_toArray, List.set_cons_zero, List.set_cons_succ, i64_w, i32_w]
    rfl
  refine one_ (i := 5) (N := some 85) #[true, true, true, true, true, true, true, false, false, false, false, false] rfl rfl (one_of HT_.out (by kernel_rfl)) (by decide) (fun K hK => ?_)
  refine goes_ Try.func37 (by kernel_rfl) rfl #[.agg #[.string t197, .slice Ao8 t198.length co8, .slice Ao9 t201.length co9], .int .i64 1] (by rfl) rfl rfl pgz ?_
  with_reducible refine (net_Producers.calls kj3 t197 _ _ t198 _ _ t201 1 t233 _ ?side1 ?side2 ?side3 ?side4 A47.out).mono ?_
  (case side1 => repeat (first | exact (Kd.R_reads' HO_205001.out).2.2 | (with_reducible refine Kd.C_alloc ?_ _) | (with_reducible refine Kd.C_drewN ?_ _) | (with_reducible refine Kd.C_drew ?_)))
  (case side2 => exact (Kd.R_reads' HO_205001.out).2.1)
  (case side3 => repeat (first | exact (Kd.N_reads' HO_205002.out).2.2 | (with_reducible refine Kd.C_alloc ?_ _) | (with_reducible refine Kd.C_drewN ?_ _) | (with_reducible refine Kd.C_drew ?_)))
  (case side4 => exact (Kd.N_reads' HO_205002.out).2.1)
  rintro e w53 ⟨v234, rfl, ho0, hb⟩
  refine ⟨_, rfl, ?_⟩
  have n0_ := Aside0.mk (Kd.R_below (by (with_reducible repeat (first | apply Kd.R_alloc | apply Kd.R_drewN | apply Kd.R_drew)); exact HO_205001.out) hb)
  have n1_ := Aside0.mk (Kd.N_elder' (by (with_reducible repeat (first | apply Kd.N_alloc | apply Kd.N_drewN | apply Kd.N_drew)); exact HO_205002.out) (Kd.R_base ho0) hb)
  have n2_ := Aside0.mk (Kd.R_below (by (with_reducible repeat (first | apply Kd.R_alloc | apply Kd.R_drewN | apply Kd.R_drew)); exact HO_209001.out) hb)
  have n3_ := Aside0.mk (Kd.R_elder' (by (with_reducible repeat (first | apply Kd.R_alloc | apply Kd.R_drewN | apply Kd.R_drew)); exact HO229.out) (Kd.R_base ho0) hb)
  have n4_ := Aside0.mk (Kd.R_elder' (by (with_reducible repeat (first | apply Kd.R_alloc | apply Kd.R_drewN | apply Kd.R_drew)); exact HO232.out) (Kd.R_base ho0) hb)
  have n5_ := Aside0.mk (Kd.R_lower (Kd.R_new' (Kd.R_new' ho0 (Kd.R_lt (by (with_reducible repeat (first | apply Kd.R_alloc | apply Kd.R_drewN | apply Kd.R_drew)); exact HO229.out))) (Kd.R_lt (by (with_reducible repeat (first | apply Kd.R_alloc | apply Kd.R_drewN | apply Kd.R_drew)); exact HO232.out))) (below_size (by repeat (first | (with_reducible first | exact HB.out | apply below_alloc | apply pw_below_drewN | apply below_drew1 | refine below_set ?_ GE204.out | refine below_set ?_ GE208.out) | exact HB.out))))
  have n6_ := Aside0.mk (blk_below (by (with_reducible repeat (first | refine blk_drewN ?_ _ | refine blk_drew ?_ | refine blk_alloc ?_ _)); exact BK204.out) hb)
  have n7_ := Aside0.mk (blk_below (by (with_reducible repeat (first | refine blk_drewN ?_ _ | refine blk_drew ?_ | refine blk_alloc ?_ _)); exact BK208.out) hb)
  have n8_ := Aside0.mk (below_step (by repeat (first | (with_reducible first | exact HB.out | apply below_alloc | apply pw_below_drewN | apply below_drew1 | refine below_set ?_ GE204.out | refine below_set ?_ GE208.out) | exact HB.out)) hb)
  clear HO_205001 HO_205002 HO_209001 HO229 HO232 BK204 BK208 HB
  have HO_205001 := n0_
  have HO_205002 := n1_
  have HO_209001 := n2_
  have HO229 := n3_
  have HO232 := n4_
  have HO235 := n5_
  have BK204 := n6_
  have BK208 := n7_
  have HB := n8_
  clear n0_ n1_ n2_ n3_ n4_ n5_ n6_ n7_ n8_
  (try clear hb)
  (try clear hb2)
  (try clear hk)
  (try clear hi)
  (try clear ho0)
  refine hK.out _ _ ⟨(blk_cell BK204.out 0).trans rfl, (blk_cell BK204.out 1).trans rfl, (blk_cell BK204.out 2).trans rfl⟩ (fun hHeld => ?_)
  clear hK K
  refine norm_ (a' := ?_) ?_ ?_
  rotate_left
  · show Act.put _ (some 85) _ = _
    simp only [Act.put, List.setIfInBounds_toArray, List.set_cons_zero, List.set_cons_succ, i64_w, i32_w]
    rfl
  refine one_ (i := 7) (N := some 87) #[true, true, true, true, true, true, true, true, false, false, false, false] rfl rfl (one_of HT_.out (by kernel_rfl)) (by decide) (fun K hK => ?_)
  refine goes_ Try.func39 (by kernel_rfl) rfl #[.agg #[.string t197, .slice Ao8 t198.length co8, .slice Ao9 t201.length co9], .int .i64 0] (by rfl) rfl rfl pgz ?_
  with_reducible refine (net_Consumers.calls kj3 t197 _ _ t198 _ _ t201 0 t236 _ ?side1 ?side2 ?side3 ?side4 A48.out).mono ?_
  (case side1 => repeat (first | exact (Kd.R_reads' HO_205001.out).2.2 | (with_reducible refine Kd.C_alloc ?_ _) | (with_reducible refine Kd.C_drewN ?_ _) | (with_reducible refine Kd.C_drew ?_)))
  (case side2 => exact (Kd.R_reads' HO_205001.out).2.1)
  (case side3 => repeat (first | exact (Kd.N_reads' HO_205002.out).2.2 | (with_reducible refine Kd.C_alloc ?_ _) | (with_reducible refine Kd.C_drewN ?_ _) | (with_reducible refine Kd.C_drew ?_)))
  (case side4 => exact (Kd.N_reads' HO_205002.out).2.1)
  rintro e w54 ⟨v237, rfl, ho0, hb⟩
  refine ⟨_, rfl, ?_⟩
  have n0_ := Aside0.mk (Kd.R_below (by (with_reducible repeat (first | apply Kd.R_alloc | apply Kd.R_drewN | apply Kd.R_drew)); exact HO_205001.out) hb)
  have n1_ := Aside0.mk (Kd.N_elder' (by (with_reducible repeat (first | apply Kd.N_alloc | apply Kd.N_drewN | apply Kd.N_drew)); exact HO_205002.out) (Kd.R_base ho0) hb)
  have n2_ := Aside0.mk (Kd.R_below (by (with_reducible repeat (first | apply Kd.R_alloc | apply Kd.R_drewN | apply Kd.R_drew)); exact HO_209001.out) hb)
  have n3_ := Aside0.mk (Kd.R_elder' (by (with_reducible repeat (first | apply Kd.R_alloc | apply Kd.R_drewN | apply Kd.R_drew)); exact HO229.out) (Kd.R_base ho0) hb)
  have n4_ := Aside0.mk (Kd.R_elder' (by (with_reducible repeat (first | apply Kd.R_alloc | apply Kd.R_drewN | apply Kd.R_drew)); exact HO232.out) (Kd.R_base ho0) hb)
  have n5_ := Aside0.mk (Kd.R_elder' (by (with_reducible repeat (first | apply Kd.R_alloc | apply Kd.R_drewN | apply Kd.R_drew)); exact HO235.out) (Kd.R_base ho0) hb)
  have n6_ := Aside0.mk (Kd.R_lower (Kd.R_new' (Kd.R_new' (Kd.R_new' ho0 (Kd.R_lt (by (with_reducible repeat (first | apply Kd.R_alloc | apply Kd.R_drewN | apply Kd.R_drew)); exact HO229.out))) (Kd.R_lt (by (with_reducible repeat (first | apply Kd.R_alloc | apply Kd.R_drewN | apply Kd.R_drew)); exact HO232.out))) (Kd.R_lt (by (with_reducible repeat (first | apply Kd.R_alloc | apply Kd.R_drewN | apply Kd.R_drew)); exact HO235.out))) (below_size (by repeat (first | (with_reducible first | exact HB.out | apply below_alloc | apply pw_below_drewN | apply below_drew1 | refine below_set ?_ GE204.out | refine below_set ?_ GE208.out) | exact HB.out))))
  have n7_ := Aside0.mk (blk_below (by (with_reducible repeat (first | refine blk_drewN ?_ _ | refine blk_drew ?_ | refine blk_alloc ?_ _)); exact BK204.out) hb)
  have n8_ := Aside0.mk (blk_below (by (with_reducible repeat (first | refine blk_drewN ?_ _ | refine blk_drew ?_ | refine blk_alloc ?_ _)); exact BK208.out) hb)
  have n9_ := Aside0.mk (below_step (by repeat (first | (with_reducible first | exact HB.out | apply below_alloc | apply pw_below_drewN | apply below_drew1 | refine below_set ?_ GE204.out | refine below_set ?_ GE208.out) | exact HB.out)) hb)
  clear HO_205001 HO_205002 HO_209001 HO229 HO232 HO235 BK204 BK208 HB
  have HO_205001 := n0_
  have HO_205002 := n1_
  have HO_209001 := n2_
  have HO229 := n3_
  have HO232 := n4_
  have HO235 := n5_
  have HO238 := n6_
  have BK204 := n7_
  have BK208 := n8_
  have HB := n9_
  clear n0_ n1_ n2_ n3_ n4_ n5_ n6_ n7_ n8_ n9_
  (try clear hb)
  (try clear hb2)
  (try clear hk)
  (try clear hi)
  (try clear ho0)
  refine hK.out _ _ ⟨(blk_cell BK204.out 0).trans rfl, (blk_cell BK204.out 1).trans rfl, (blk_cell BK204.out 2).trans rfl⟩ (fun hHeld => ?_)
  clear hK K
  refine norm_ (a' := ?_) ?_ ?_
  rotate_left
  · show Act.put _ (some 87) _ = _
    simp only [Act.put, List.setIfInBounds_toArray, List.set_cons_zero, List.set_cons_succ, i64_w, i32_w]
    rfl
  refine pure_ (i := 8) (N := some 5) (v := ?_) (a' := ?_) #[true, true, true, true, true, true, true, true, true, false, false, false] rfl rfl (any_of HT_.out (by kernel_rfl)) (fun _ _ _ h => h) (Or.inl ⟨by rfl, ?_⟩) ?_ ?_
  rotate_left
  · intro w'
    go_simp
    with_reducible rfl
  rotate_left
  · simp only [Act.put, List.setIfInBounds_toArray, List.set_cons_zero, List.set_cons_succ, i64_w, i32_w]
    rfl
  refine pure_ (i := 9) (N := some 6) (v := ?_) (a' := ?_) #[true, true, true, true, true, true, true, true, true, true, false, false] rfl rfl (any_of HT_.out (by kernel_rfl)) (fun _ _ _ h => h) (Or.inl ⟨by rfl, ?_⟩) ?_ ?_
  rotate_left
  · intro w'
    go_simp
    with_reducible rfl
  rotate_left
  · simp only [Act.put, List.setIfInBounds_toArray, List.set_cons_zero, List.set_cons_succ, i64_w, i32_w]
    rfl
  refine pure_ (i := 10) (N := some 7) (v := ?_) (a' := ?_) #[true, true, true, true, true, true, true, true, true, true, true, false] rfl rfl (any_of HT_.out (by kernel_rfl)) (fun _ _ _ h => h) (Or.inl ⟨by rfl, ?_⟩) ?_ ?_
  rotate_left
  · intro w'
    go_simp
    with_reducible rfl
  rotate_left
  · simp only [Act.put, List.setIfInBounds_toArray, List.set_cons_zero, List.set_cons_succ, i64_w, i32_w]
    rfl
  refine pure_ (i := 11) (N := some 8) (v := ?_) (a' := ?_) #[true, true, true, true, true, true, true, true, true, true, true, true] rfl rfl (any_of HT_.out (by kernel_rfl)) (fun _ _ _ h => h) (Or.inl ⟨by rfl, ?_⟩) ?_ ?_
  rotate_left
  · intro w'
    go_simp
    with_reducible rfl
  rotate_left
  · simp only [Act.put, List.setIfInBounds_toArray, List.set_cons_zero, List.set_cons_succ, i64_w, i32_w]
    rfl
  refine done_ (done_of HT_.out (by kernel_rfl)) ?_
  go_upto_region 7 with (fail)
  go_cut [129] (fun v129 wc => ∃ (kq : Nat) (x129_48 : Bool), v129 = .bool x129_48 ∧ Aside0 (petrinetlaw09_lives.j1 kq x129_48 t197 t198 t201 (⟨#[110]⟩ : ByteArray) y205 = some r) ∧ Aside0 (kq ≤ kj3) ∧ Aside0 (Kd.R k50 50 wc w.heap.size (fun k_ => some k_ ≠ ((.slice Ao12 y205.length co12) : Value).ownBlock) (.slice Ao8 t198.length co8) t198) ∧ Aside0 (Kd.N k53 53 wc w.heap.size (fun k_ => some k_ ≠ ((.slice Ao8 t198.length co8) : Value).ownBlock ∧ some k_ ≠ ((.slice Ao12 y205.length co12) : Value).ownBlock ∧ k_ ≠ gb204 ∧ k_ ≠ gb208) (.slice Ao9 t201.length co9) t201) ∧ Aside0 (Kd.R k50 50 wc w.heap.size (fun k_ => some k_ ≠ ((.slice Ao8 t198.length co8) : Value).ownBlock) (.slice Ao12 y205.length co12) y205) ∧ Aside0 (wc.heap[gb204]? = some (.cells #[.string t197, (.slice Ao8 t198.length co8), (.slice Ao9 t201.length co9)] 25 (0, 0))) ∧ Aside0 (wc.heap[gb208]? = some (.cells #[.string (⟨#[110]⟩ : ByteArray), (.slice Ao12 y205.length co12), (.slice none 0 0)] 25 (0, 0))) ∧ Aside0 (Below w.heap.size w wc))
  case first =>
    have H := HC49.out
    clear HC49
    by_cases c55 : (t227.length : Int) = 1
    rotate_left
    · rw [if_neg c55] at H
      exact absurd H (by simp)
    rw [if_pos c55] at H
    have c55b0 : ((t227.length : Int) == 1) = true := beq_iff_eq.mpr c55
    have c55b1 : ((t227.length : Int) != 1) = false := bne_eq_false_iff_eq.mpr c55
    clear c55
    (first | rw [c55b0] | (simp only [i64_w, i32_w]; rw [c55b0]) | skip)
    by_cases c56 : 0 < (t227.length : Int)
    rotate_left
    · rw [if_neg c56] at H
      exact absurd H (by simp)
    rw [if_pos c56] at H
    have c56b0 : decide (0 < (t227.length : Int)) = true := decide_eq_true c56
    have c56b1 : decide (0 < t227.length) = true := decide_eq_true (by omega)
    clear c56
    by_cases c57 : (rd t227 0) = 0
    rotate_left
    · rw [if_neg c57] at H
      exact absurd H (by simp)
    rw [if_pos c57] at H
    have c57b0 : ((rd t227 0) == 0) = true := beq_iff_eq.mpr c57
    have c57b1 : ((rd t227 0) != 0) = false := bne_eq_false_iff_eq.mpr c57
    clear c57
    by_cases c58 : (t230.length : Int) = 1
    rotate_left
    · rw [if_neg c58] at H
      exact absurd H (by simp)
    rw [if_pos c58] at H
    have c58b0 : ((t230.length : Int) == 1) = true := beq_iff_eq.mpr c58
    have c58b1 : ((t230.length : Int) != 1) = false := bne_eq_false_iff_eq.mpr c58
    clear c58
    by_cases c59 : 0 < (t230.length : Int)
    rotate_left
    · rw [if_neg c59] at H
      exact absurd H (by simp)
    rw [if_pos c59] at H
    have c59b0 : decide (0 < (t230.length : Int)) = true := decide_eq_true c59
    have c59b1 : decide (0 < t230.length) = true := decide_eq_true (by omega)
    clear c59
    by_cases c60 : (rd t230 0) = 1
    rotate_left
    · rw [if_neg c60] at H
      exact absurd H (by simp)
    rw [if_pos c60] at H
    have c60b0 : ((rd t230 0) == 1) = true := beq_iff_eq.mpr c60
    have c60b1 : ((rd t230 0) != 1) = false := bne_eq_false_iff_eq.mpr c60
    clear c60
    by_cases c61 : (t233.length : Int) = 1
    rotate_left
    · rw [if_neg c61] at H
      exact absurd H (by simp)
    rw [if_pos c61] at H
    have c61b0 : ((t233.length : Int) == 1) = true := beq_iff_eq.mpr c61
    have c61b1 : ((t233.length : Int) != 1) = false := bne_eq_false_iff_eq.mpr c61
    clear c61
    by_cases c62 : 0 < (t233.length : Int)
    rotate_left
    · rw [if_neg c62] at H
      exact absurd H (by simp)
    rw [if_pos c62] at H
    have c62b0 : decide (0 < (t233.length : Int)) = true := decide_eq_true c62
    have c62b1 : decide (0 < t233.length) = true := decide_eq_true (by omega)
    clear c62
    by_cases c63 : (rd t233 0) = 0
    rotate_left
    · rw [if_neg c63] at H
      exact absurd H (by simp)
    rw [if_pos c63] at H
    have c63b0 : ((rd t233 0) == 0) = true := beq_iff_eq.mpr c63
    have c63b1 : ((rd t233 0) != 0) = false := bne_eq_false_iff_eq.mpr c63
    clear c63
    by_cases c64 : (t236.length : Int) = 1
    rotate_left
    · rw [if_neg c64] at H
      exact absurd H (by simp)
    rw [if_pos c64] at H
    have c64b0 : ((t236.length : Int) == 1) = true := beq_iff_eq.mpr c64
    have c64b1 : ((t236.length : Int) != 1) = false := bne_eq_false_iff_eq.mpr c64
    clear c64
    by_cases c65 : 0 < (t236.length : Int)
    rotate_left
    · rw [if_neg c65] at H
      exact absurd H (by simp)
    rw [if_pos c65] at H
    have c65b0 : decide (0 < (t236.length : Int)) = true := decide_eq_true c65
    have c65b1 : decide (0 < t236.length) = true := decide_eq_true (by omega)
    clear c65
    have H' := Aside0.mk H
    clear H
    obtain ⟨Ao66, co66, eo66⟩ := Kd.R_slice HO229.out
    subst eo66
    have p239 : 0 ≤ (0 : Int) := (by omega)
    have q239 : 0 < (t227.length : Int) := dq
    obtain ⟨ad239, e239, hx239_0⟩ := Kd.at_int (Kd.R_reads' HO229.out).2.2 0 p239 q239
    cases e239
    have qi239 : (0 < t227.length) = True := eq_true (by omega)
    (try rw [show ((0 : Int)).toNat = 0 from rfl] at hx239_0)
    (try rw [Addr.add_zero'] at hx239_0)
    replace p239 := eq_true p239
    replace q239 := eq_true q239
    obtain ⟨Ao67, co67, eo67⟩ := Kd.R_slice HO232.out
    subst eo67
    have p240 : 0 ≤ (0 : Int) := (by omega)
    have q240 : 0 < (t230.length : Int) := dq
    obtain ⟨ad240, e240, hx240_0⟩ := Kd.at_int (Kd.R_reads' HO232.out).2.2 0 p240 q240
    cases e240
    have qi240 : (0 < t230.length) = True := eq_true (by omega)
    (try rw [show ((0 : Int)).toNat = 0 from rfl] at hx240_0)
    (try rw [Addr.add_zero'] at hx240_0)
    replace p240 := eq_true p240
    replace q240 := eq_true q240
    obtain ⟨Ao68, co68, eo68⟩ := Kd.R_slice HO235.out
    subst eo68
    have p241 : 0 ≤ (0 : Int) := (by omega)
    have q241 : 0 < (t233.length : Int) := dq
    obtain ⟨ad241, e241, hx241_0⟩ := Kd.at_int (Kd.R_reads' HO235.out).2.2 0 p241 q241
    cases e241
    have qi241 : (0 < t233.length) = True := eq_true (by omega)
    (try rw [show ((0 : Int)).toNat = 0 from rfl] at hx241_0)
    (try rw [Addr.add_zero'] at hx241_0)
    replace p241 := eq_true p241
    replace q241 := eq_true q241
    obtain ⟨Ao69, co69, eo69⟩ := Kd.R_slice HO238.out
    subst eo69
    have p242 : 0 ≤ (0 : Int) := (by omega)
    have q242 : 0 < (t236.length : Int) := dq
    obtain ⟨ad242, e242, hx242_0⟩ := Kd.at_int (Kd.R_reads' HO238.out).2.2 0 p242 q242
    cases e242
    have qi242 : (0 < t236.length) = True := eq_true (by omega)
    (try rw [show ((0 : Int)).toNat = 0 from rfl] at hx242_0)
    (try rw [Addr.add_zero'] at hx242_0)
    replace p242 := eq_true p242
    replace q242 := eq_true q242
    go_wp2
    go_meet
    case rel => exact ⟨_, (((rd t236 0) != 0)), prs, H', ⟨by have := HJ3.out; first | omega | exact Nat.le_refl _⟩, ⟨by (with_reducible repeat (first | apply Kd.R_alloc | apply Kd.R_drewN | apply Kd.R_drew)); exact HO_205001.out⟩, ⟨by (with_reducible repeat (first | apply Kd.N_alloc | apply Kd.N_drewN | apply Kd.N_drew)); exact Kd.N_mono HO_205002.out (fun _ hk => ⟨hk.1.1.1.1.1, ⟨hk.1.1.1.1.2.1, ⟨hk.1.1.1.1.2.2.1, hk.1.1.1.1.2.2.2⟩⟩⟩)⟩, ⟨by (with_reducible repeat (first | apply Kd.R_alloc | apply Kd.R_drewN | apply Kd.R_drew)); exact HO_209001.out⟩, ⟨by (with_reducible repeat (first | refine blk_drewN ?_ _ | refine blk_drew ?_ | refine blk_alloc ?_ _)); exact BK204.out⟩, ⟨by (with_reducible repeat (first | refine blk_drewN ?_ _ | refine blk_drew ?_ | refine blk_alloc ?_ _)); exact BK208.out⟩, ⟨by repeat (first | (with_reducible first | exact HB.out | apply below_alloc | apply pw_below_drewN | apply below_drew1 | refine below_set ?_ GE204.out | refine below_set ?_ GE208.out) | exact HB.out)⟩⟩
  clear HC49
  try clear c3
  try clear c21
  try clear c21b0
  try clear c21b1
  try clear c23
  try clear c23b0
  try clear c24
  try clear c24b0
  try clear c24b1
  try clear c25
  try clear c25b0
  try clear c25b1
  try clear c26
  try clear c26b0
  try clear c26b1
  try clear c27
  try clear c27b0
  try clear c27b1
  try clear c28
  try clear c28b0
  try clear c28b1
  try clear c29
  try clear c29b0
  try clear c29b1
  try clear c30
  try clear c30b0
  try clear c30b1
  try clear c31
  try clear c31b0
  try clear c31b1
  try clear c32
  try clear c32b0
  try clear c32b1
  try clear c33
  try clear c33b0
  try clear c33b1
  try clear c34
  try clear c34b0
  try clear c34b1
  try clear c35
  try clear c35b0
  try clear c35b1
  try clear c36
  try clear c36b0
  try clear c36b1
  try clear c44
  try clear c55
  try clear c55b0
  try clear c55b1
  try clear c56
  try clear c56b0
  try clear c56b1
  try clear c57
  try clear c57b0
  try clear c57b1
  try clear c58
  try clear c58b0
  try clear c58b1
  try clear c59
  try clear c59b0
  try clear c59b1
  try clear c60
  try clear c60b0
  try clear c60b1
  try clear c61
  try clear c61b0
  try clear c61b1
  try clear c62
  try clear c62b0
  try clear c62b1
  try clear c63
  try clear c63b0
  try clear c63b1
  try clear c64
  try clear c64b0
  try clear c64b1
  try clear c65
  try clear c65b0
  try clear c65b1
  try clear hcz15_0
  try clear hcz15_1
  try clear hcz15_2
  try clear hcz38_0
  try clear hcz38_1
  try clear hcz38_2
  try clear hcz40_0
  try clear hcz40_1
  try clear hcz40_2
  try clear hcz7_0
  try clear hcz7_1
  try clear hcz7_2
  try clear hfz15_0
  try clear hfz15_1
  try clear hfz15_2
  try clear hfz38_0
  try clear hfz38_1
  try clear hfz38_2
  try clear hfz40_0
  try clear hfz40_1
  try clear hfz40_2
  try clear hfz7_0
  try clear hfz7_1
  try clear hfz7_2
  try clear hx219_0
  try clear hx220_0
  try clear hx221_0
  try clear hx222_0
  try clear hx223_0
  try clear hx224_0
  try clear hx225_0
  try clear hx226_0
  try clear hx239_0
  try clear hx240_0
  try clear hx241_0
  try clear hx242_0
  try clear p219
  try clear p220
  try clear p221
  try clear p222
  try clear p223
  try clear p224
  try clear p225
  try clear p226
  try clear p239
  try clear p240
  try clear p241
  try clear p242
  try clear q219
  try clear q220
  try clear q221
  try clear q222
  try clear q223
  try clear q224
  try clear q225
  try clear q226
  try clear q239
  try clear q240
  try clear q241
  try clear q242
  obtain ⟨kq, x129_48, rfl, HA, HJ48, HO_205001, HO_205002, HO_209001, BK204, BK208, HB⟩ := hcut
  obtain _ | kj48 := kq
  · exact absurd HA.out (by simp [petrinetlaw09_lives.j1])
  have H := HA.out
  clear HA
  simp only [petrinetlaw09_lives.j1] at H
  by_cases c70 : x129_48 = true
  · subst c70
    have H1 : (none) = some r := by rw [if_pos rfl] at H; exact H
    clear H
    have H := H1
    clear H1
    exact absurd H (by simp)
  replace c70 := Bool.eq_false_iff.mpr c70
  subst c70
  have H1 : ((net_Name.f (⟨#[97, 46, 49]⟩ : ByteArray)).bind fun t243 => (if t243 = true then ((net_Name.f (⟨#[49, 97]⟩ : ByteArray)).bind fun t244 => (if t244 = true then (none) else ((net_Place.f kj48 t197 t198 t201 (⟨#[113]⟩ : ByteArray)).bind fun t245 => (if t245 = 1 then ((net_Place.f kj48 t197 t198 t201 (⟨#[116]⟩ : ByteArray)).bind fun t246 => (if t246 = (-1) then ((net_Trans.f kj48 t197 t198 t201 (⟨#[116]⟩ : ByteArray)).bind fun t247 => (if t247 = 0 then ((net_Pre.f kj48 t197 t198 t201 0 0).bind fun t248 => (if t248 = 2 then ((net_Post.f kj48 t197 t198 t201 0 1).bind fun t249 => (if t249 = 1 then ((net_Plain.f kj48 t197 t198 t201).bind fun t250 => (if t250 = true then ((net_Ordinary.f kj48 t197 t198 t201).bind fun t251 => (if t251 = true then (none) else ((net_Same.f kj48 t197 t198 t201 t197 t198 t201).bind fun t252 => (if t252 = true then ((net_Same.f kj48 t197 t198 t201 (⟨#[110]⟩ : ByteArray) y205 ([] : List (S53))).bind fun t253 => (some (!t253))) else (none))))) else (none))) else (none))) else (none))) else (none))) else (none))) else (none))))) else (none))) = some r := by rw [if_neg (show ¬ (false = true) by decide)] at H; exact H
  clear H
  have H := H1
  clear H1
  replace H := Option.bind_eq_some_iff.mp H
  obtain ⟨t243, A710, H⟩ := H
  replace H : (if t243 = true then ((net_Name.f (⟨#[49, 97]⟩ : ByteArray)).bind fun t244 => (if t244 = true then (none) else ((net_Place.f kj48 t197 t198 t201 (⟨#[113]⟩ : ByteArray)).bind fun t245 => (if t245 = 1 then ((net_Place.f kj48 t197 t198 t201 (⟨#[116]⟩ : ByteArray)).bind fun t246 => (if t246 = (-1) then ((net_Trans.f kj48 t197 t198 t201 (⟨#[116]⟩ : ByteArray)).bind fun t247 => (if t247 = 0 then ((net_Pre.f kj48 t197 t198 t201 0 0).bind fun t248 => (if t248 = 2 then ((net_Post.f kj48 t197 t198 t201 0 1).bind fun t249 => (if t249 = 1 then ((net_Plain.f kj48 t197 t198 t201).bind fun t250 => (if t250 = true then ((net_Ordinary.f kj48 t197 t198 t201).bind fun t251 => (if t251 = true then (none) else ((net_Same.f kj48 t197 t198 t201 t197 t198 t201).bind fun t252 => (if t252 = true then ((net_Same.f kj48 t197 t198 t201 (⟨#[110]⟩ : ByteArray) y205 ([] : List (S53))).bind fun t253 => (some (!t253))) else (none))))) else (none))) else (none))) else (none))) else (none))) else (none))) else (none))))) else (none)) = some r := H
  have A71 := Aside0.mk A710
  clear A710
  by_cases c72 : t243 = true
  rotate_left
  · replace c72 := Bool.eq_false_iff.mpr c72
    subst c72
    have H1 : (none) = some r := by rw [if_neg (show ¬ (false = true) by decide)] at H; exact H
    clear H
    have H := H1
    clear H1
    exact absurd H (by simp)
  subst c72
  have H1 : ((net_Name.f (⟨#[49, 97]⟩ : ByteArray)).bind fun t244 => (if t244 = true then (none) else ((net_Place.f kj48 t197 t198 t201 (⟨#[113]⟩ : ByteArray)).bind fun t245 => (if t245 = 1 then ((net_Place.f kj48 t197 t198 t201 (⟨#[116]⟩ : ByteArray)).bind fun t246 => (if t246 = (-1) then ((net_Trans.f kj48 t197 t198 t201 (⟨#[116]⟩ : ByteArray)).bind fun t247 => (if t247 = 0 then ((net_Pre.f kj48 t197 t198 t201 0 0).bind fun t248 => (if t248 = 2 then ((net_Post.f kj48 t197 t198 t201 0 1).bind fun t249 => (if t249 = 1 then ((net_Plain.f kj48 t197 t198 t201).bind fun t250 => (if t250 = true then ((net_Ordinary.f kj48 t197 t198 t201).bind fun t251 => (if t251 = true then (none) else ((net_Same.f kj48 t197 t198 t201 t197 t198 t201).bind fun t252 => (if t252 = true then ((net_Same.f kj48 t197 t198 t201 (⟨#[110]⟩ : ByteArray) y205 ([] : List (S53))).bind fun t253 => (some (!t253))) else (none))))) else (none))) else (none))) else (none))) else (none))) else (none))) else (none))))) = some r := by rw [if_pos rfl] at H; exact H
  clear H
  have H := H1
  clear H1
  replace H := Option.bind_eq_some_iff.mp H
  obtain ⟨t244, A730, H⟩ := H
  replace H : (if t244 = true then (none) else ((net_Place.f kj48 t197 t198 t201 (⟨#[113]⟩ : ByteArray)).bind fun t245 => (if t245 = 1 then ((net_Place.f kj48 t197 t198 t201 (⟨#[116]⟩ : ByteArray)).bind fun t246 => (if t246 = (-1) then ((net_Trans.f kj48 t197 t198 t201 (⟨#[116]⟩ : ByteArray)).bind fun t247 => (if t247 = 0 then ((net_Pre.f kj48 t197 t198 t201 0 0).bind fun t248 => (if t248 = 2 then ((net_Post.f kj48 t197 t198 t201 0 1).bind fun t249 => (if t249 = 1 then ((net_Plain.f kj48 t197 t198 t201).bind fun t250 => (if t250 = true then ((net_Ordinary.f kj48 t197 t198 t201).bind fun t251 => (if t251 = true then (none) else ((net_Same.f kj48 t197 t198 t201 t197 t198 t201).bind fun t252 => (if t252 = true then ((net_Same.f kj48 t197 t198 t201 (⟨#[110]⟩ : ByteArray) y205 ([] : List (S53))).bind fun t253 => (some (!t253))) else (none))))) else (none))) else (none))) else (none))) else (none))) else (none))) else (none)))) = some r := H
  have A73 := Aside0.mk A730
  clear A730
  by_cases c74 : t244 = true
  · subst c74
    have H1 : (none) = some r := by rw [if_pos rfl] at H; exact H
    clear H
    have H := H1
    clear H1
    exact absurd H (by simp)
  replace c74 := Bool.eq_false_iff.mpr c74
  subst c74
  have H1 : ((net_Place.f kj48 t197 t198 t201 (⟨#[113]⟩ : ByteArray)).bind fun t245 => (if t245 = 1 then ((net_Place.f kj48 t197 t198 t201 (⟨#[116]⟩ : ByteArray)).bind fun t246 => (if t246 = (-1) then ((net_Trans.f kj48 t197 t198 t201 (⟨#[116]⟩ : ByteArray)).bind fun t247 => (if t247 = 0 then ((net_Pre.f kj48 t197 t198 t201 0 0).bind fun t248 => (if t248 = 2 then ((net_Post.f kj48 t197 t198 t201 0 1).bind fun t249 => (if t249 = 1 then ((net_Plain.f kj48 t197 t198 t201).bind fun t250 => (if t250 = true then ((net_Ordinary.f kj48 t197 t198 t201).bind fun t251 => (if t251 = true then (none) else ((net_Same.f kj48 t197 t198 t201 t197 t198 t201).bind fun t252 => (if t252 = true then ((net_Same.f kj48 t197 t198 t201 (⟨#[110]⟩ : ByteArray) y205 ([] : List (S53))).bind fun t253 => (some (!t253))) else (none))))) else (none))) else (none))) else (none))) else (none))) else (none))) else (none))) = some r := by rw [if_neg (show ¬ (false = true) by decide)] at H; exact H
  clear H
  have H := H1
  clear H1
  replace H := Option.bind_eq_some_iff.mp H
  obtain ⟨t245, A750, H⟩ := H
  replace H : (if t245 = 1 then ((net_Place.f kj48 t197 t198 t201 (⟨#[116]⟩ : ByteArray)).bind fun t246 => (if t246 = (-1) then ((net_Trans.f kj48 t197 t198 t201 (⟨#[116]⟩ : ByteArray)).bind fun t247 => (if t247 = 0 then ((net_Pre.f kj48 t197 t198 t201 0 0).bind fun t248 => (if t248 = 2 then ((net_Post.f kj48 t197 t198 t201 0 1).bind fun t249 => (if t249 = 1 then ((net_Plain.f kj48 t197 t198 t201).bind fun t250 => (if t250 = true then ((net_Ordinary.f kj48 t197 t198 t201).bind fun t251 => (if t251 = true then (none) else ((net_Same.f kj48 t197 t198 t201 t197 t198 t201).bind fun t252 => (if t252 = true then ((net_Same.f kj48 t197 t198 t201 (⟨#[110]⟩ : ByteArray) y205 ([] : List (S53))).bind fun t253 => (some (!t253))) else (none))))) else (none))) else (none))) else (none))) else (none))) else (none))) else (none)) = some r := H
  have A75 := Aside0.mk A750
  clear A750
  by_cases c76 : t245 = 1
  rotate_left
  · rw [if_neg c76] at H
    exact absurd H (by simp)
  rw [if_pos c76] at H
  have c76b0 : (t245 == 1) = true := beq_iff_eq.mpr c76
  have c76b1 : (t245 != 1) = false := bne_eq_false_iff_eq.mpr c76
  clear c76
  replace H := Option.bind_eq_some_iff.mp H
  obtain ⟨t246, A770, H⟩ := H
  replace H : (if t246 = (-1) then ((net_Trans.f kj48 t197 t198 t201 (⟨#[116]⟩ : ByteArray)).bind fun t247 => (if t247 = 0 then ((net_Pre.f kj48 t197 t198 t201 0 0).bind fun t248 => (if t248 = 2 then ((net_Post.f kj48 t197 t198 t201 0 1).bind fun t249 => (if t249 = 1 then ((net_Plain.f kj48 t197 t198 t201).bind fun t250 => (if t250 = true then ((net_Ordinary.f kj48 t197 t198 t201).bind fun t251 => (if t251 = true then (none) else ((net_Same.f kj48 t197 t198 t201 t197 t198 t201).bind fun t252 => (if t252 = true then ((net_Same.f kj48 t197 t198 t201 (⟨#[110]⟩ : ByteArray) y205 ([] : List (S53))).bind fun t253 => (some (!t253))) else (none))))) else (none))) else (none))) else (none))) else (none))) else (none)) = some r := H
  have A77 := Aside0.mk A770
  clear A770
  by_cases c78 : t246 = (-1)
  rotate_left
  · rw [if_neg c78] at H
    exact absurd H (by simp)
  rw [if_pos c78] at H
  have c78b0 : (t246 == (-1)) = true := beq_iff_eq.mpr c78
  have c78b1 : (t246 != (-1)) = false := bne_eq_false_iff_eq.mpr c78
  clear c78
  replace H := Option.bind_eq_some_iff.mp H
  obtain ⟨t247, A790, H⟩ := H
  replace H : (if t247 = 0 then ((net_Pre.f kj48 t197 t198 t201 0 0).bind fun t248 => (if t248 = 2 then ((net_Post.f kj48 t197 t198 t201 0 1).bind fun t249 => (if t249 = 1 then ((net_Plain.f kj48 t197 t198 t201).bind fun t250 => (if t250 = true then ((net_Ordinary.f kj48 t197 t198 t201).bind fun t251 => (if t251 = true then (none) else ((net_Same.f kj48 t197 t198 t201 t197 t198 t201).bind fun t252 => (if t252 = true then ((net_Same.f kj48 t197 t198 t201 (⟨#[110]⟩ : ByteArray) y205 ([] : List (S53))).bind fun t253 => (some (!t253))) else (none))))) else (none))) else (none))) else (none))) else (none)) = some r := H
  have A79 := Aside0.mk A790
  clear A790
  by_cases c80 : t247 = 0
  rotate_left
  · rw [if_neg c80] at H
    exact absurd H (by simp)
  rw [if_pos c80] at H
  have c80b0 : (t247 == 0) = true := beq_iff_eq.mpr c80
  have c80b1 : (t247 != 0) = false := bne_eq_false_iff_eq.mpr c80
  clear c80
  replace H := Option.bind_eq_some_iff.mp H
  obtain ⟨t248, A810, H⟩ := H
  replace H : (if t248 = 2 then ((net_Post.f kj48 t197 t198 t201 0 1).bind fun t249 => (if t249 = 1 then ((net_Plain.f kj48 t197 t198 t201).bind fun t250 => (if t250 = true then ((net_Ordinary.f kj48 t197 t198 t201).bind fun t251 => (if t251 = true then (none) else ((net_Same.f kj48 t197 t198 t201 t197 t198 t201).bind fun t252 => (if t252 = true then ((net_Same.f kj48 t197 t198 t201 (⟨#[110]⟩ : ByteArray) y205 ([] : List (S53))).bind fun t253 => (some (!t253))) else (none))))) else (none))) else (none))) else (none)) = some r := H
  have A81 := Aside0.mk A810
  clear A810
  by_cases c82 : t248 = 2
  rotate_left
  · rw [if_neg c82] at H
    exact absurd H (by simp)
  rw [if_pos c82] at H
  have c82b0 : (t248 == 2) = true := beq_iff_eq.mpr c82
  have c82b1 : (t248 != 2) = false := bne_eq_false_iff_eq.mpr c82
  clear c82
  replace H := Option.bind_eq_some_iff.mp H
  obtain ⟨t249, A830, H⟩ := H
  replace H : (if t249 = 1 then ((net_Plain.f kj48 t197 t198 t201).bind fun t250 => (if t250 = true then ((net_Ordinary.f kj48 t197 t198 t201).bind fun t251 => (if t251 = true then (none) else ((net_Same.f kj48 t197 t198 t201 t197 t198 t201).bind fun t252 => (if t252 = true then ((net_Same.f kj48 t197 t198 t201 (⟨#[110]⟩ : ByteArray) y205 ([] : List (S53))).bind fun t253 => (some (!t253))) else (none))))) else (none))) else (none)) = some r := H
  have A83 := Aside0.mk A830
  clear A830
  by_cases c84 : t249 = 1
  rotate_left
  · rw [if_neg c84] at H
    exact absurd H (by simp)
  rw [if_pos c84] at H
  have c84b0 : (t249 == 1) = true := beq_iff_eq.mpr c84
  have c84b1 : (t249 != 1) = false := bne_eq_false_iff_eq.mpr c84
  clear c84
  replace H := Option.bind_eq_some_iff.mp H
  obtain ⟨t250, A850, H⟩ := H
  replace H : (if t250 = true then ((net_Ordinary.f kj48 t197 t198 t201).bind fun t251 => (if t251 = true then (none) else ((net_Same.f kj48 t197 t198 t201 t197 t198 t201).bind fun t252 => (if t252 = true then ((net_Same.f kj48 t197 t198 t201 (⟨#[110]⟩ : ByteArray) y205 ([] : List (S53))).bind fun t253 => (some (!t253))) else (none))))) else (none)) = some r := H
  have A85 := Aside0.mk A850
  clear A850
  by_cases c86 : t250 = true
  rotate_left
  · replace c86 := Bool.eq_false_iff.mpr c86
    subst c86
    have H1 : (none) = some r := by rw [if_neg (show ¬ (false = true) by decide)] at H; exact H
    clear H
    have H := H1
    clear H1
    exact absurd H (by simp)
  subst c86
  have H1 : ((net_Ordinary.f kj48 t197 t198 t201).bind fun t251 => (if t251 = true then (none) else ((net_Same.f kj48 t197 t198 t201 t197 t198 t201).bind fun t252 => (if t252 = true then ((net_Same.f kj48 t197 t198 t201 (⟨#[110]⟩ : ByteArray) y205 ([] : List (S53))).bind fun t253 => (some (!t253))) else (none))))) = some r := by rw [if_pos rfl] at H; exact H
  clear H
  have H := H1
  clear H1
  replace H := Option.bind_eq_some_iff.mp H
  obtain ⟨t251, A870, H⟩ := H
  replace H : (if t251 = true then (none) else ((net_Same.f kj48 t197 t198 t201 t197 t198 t201).bind fun t252 => (if t252 = true then ((net_Same.f kj48 t197 t198 t201 (⟨#[110]⟩ : ByteArray) y205 ([] : List (S53))).bind fun t253 => (some (!t253))) else (none)))) = some r := H
  have A87 := Aside0.mk A870
  clear A870
  by_cases c88 : t251 = true
  · subst c88
    have H1 : (none) = some r := by rw [if_pos rfl] at H; exact H
    clear H
    have H := H1
    clear H1
    exact absurd H (by simp)
  replace c88 := Bool.eq_false_iff.mpr c88
  subst c88
  have H1 : ((net_Same.f kj48 t197 t198 t201 t197 t198 t201).bind fun t252 => (if t252 = true then ((net_Same.f kj48 t197 t198 t201 (⟨#[110]⟩ : ByteArray) y205 ([] : List (S53))).bind fun t253 => (some (!t253))) else (none))) = some r := by rw [if_neg (show ¬ (false = true) by decide)] at H; exact H
  clear H
  have H := H1
  clear H1
  replace H := Option.bind_eq_some_iff.mp H
  obtain ⟨t252, A890, H⟩ := H
  replace H : (if t252 = true then ((net_Same.f kj48 t197 t198 t201 (⟨#[110]⟩ : ByteArray) y205 ([] : List (S53))).bind fun t253 => (some (!t253))) else (none)) = some r := H
  have A89 := Aside0.mk A890
  clear A890
  by_cases c90 : t252 = true
  rotate_left
  · replace c90 := Bool.eq_false_iff.mpr c90
    subst c90
    have H1 : (none) = some r := by rw [if_neg (show ¬ (false = true) by decide)] at H; exact H
    clear H
    have H := H1
    clear H1
    exact absurd H (by simp)
  subst c90
  have H1 : ((net_Same.f kj48 t197 t198 t201 (⟨#[110]⟩ : ByteArray) y205 ([] : List (S53))).bind fun t253 => (some (!t253))) = some r := by rw [if_pos rfl] at H; exact H
  clear H
  have H := H1
  clear H1
  replace H := Option.bind_eq_some_iff.mp H
  obtain ⟨t253, A910, H⟩ := H
  replace H : (some (!t253)) = some r := H
  have A91 := Aside0.mk A910
  clear A910
  obtain rfl := Option.some.inj H
  go_wp2_with (first | ((with_reducible refine gate_callee (f := 41) rfl ?_); refine goesL_ (some 130) rfl rfl Try.func41 (by kernel_rfl) rfl #[.string (⟨#[97, 46, 49]⟩ : ByteArray)] rfl pgz ?_; (with_reducible refine (net_Name.calls (⟨#[97, 46, 49]⟩ : ByteArray) true _ A71.out).mono ?_); rintro e w92 ⟨rfl, hb⟩; refine ⟨_, rfl, ?_⟩; have n0_ := Aside0.mk (Kd.R_below (by (with_reducible repeat (first | apply Kd.R_alloc | apply Kd.R_drewN | apply Kd.R_drew)); exact HO_205001.out) hb); have n1_ := Aside0.mk (Kd.N_below (by (with_reducible repeat (first | apply Kd.N_alloc | apply Kd.N_drewN | apply Kd.N_drew)); exact HO_205002.out) hb); have n2_ := Aside0.mk (Kd.R_below (by (with_reducible repeat (first | apply Kd.R_alloc | apply Kd.R_drewN | apply Kd.R_drew)); exact HO_209001.out) hb); have n3_ := Aside0.mk (blk_below (by (with_reducible repeat (first | refine blk_drewN ?_ _ | refine blk_drew ?_ | refine blk_alloc ?_ _)); exact BK204.out) hb); have n4_ := Aside0.mk (blk_below (by (with_reducible repeat (first | refine blk_drewN ?_ _ | refine blk_drew ?_ | refine blk_alloc ?_ _)); exact BK208.out) hb); have n5_ := Aside0.mk (below_step (by repeat (first | (with_reducible first | exact HB.out | apply below_alloc | apply pw_below_drewN | apply below_drew1 | refine below_set ?_ GE204.out | refine below_set ?_ GE208.out) | exact HB.out)) hb); clear HO_205001; clear HO_205002; clear HO_209001; clear BK204; clear BK208; clear HB; have HO_205001 := n0_; have HO_205002 := n1_; have HO_209001 := n2_; have BK204 := n3_; have BK208 := n4_; have HB := n5_; clear n0_ n1_ n2_ n3_ n4_ n5_; (try clear hb); (try clear hb2); (try clear hk); (try clear hi)) | (go_at_call 41; (with_reducible refine (net_Name.calls (⟨#[49, 97]⟩ : ByteArray) false _ A73.out).mono ?_); rintro e w93 ⟨rfl, hb⟩; have n0_ := Aside0.mk (Kd.R_below (by (with_reducible repeat (first | apply Kd.R_alloc | apply Kd.R_drewN | apply Kd.R_drew)); exact HO_205001.out) hb); have n1_ := Aside0.mk (Kd.N_below (by (with_reducible repeat (first | apply Kd.N_alloc | apply Kd.N_drewN | apply Kd.N_drew)); exact HO_205002.out) hb); have n2_ := Aside0.mk (Kd.R_below (by (with_reducible repeat (first | apply Kd.R_alloc | apply Kd.R_drewN | apply Kd.R_drew)); exact HO_209001.out) hb); have n3_ := Aside0.mk (blk_below (by (with_reducible repeat (first | refine blk_drewN ?_ _ | refine blk_drew ?_ | refine blk_alloc ?_ _)); exact BK204.out) hb); have n4_ := Aside0.mk (blk_below (by (with_reducible repeat (first | refine blk_drewN ?_ _ | refine blk_drew ?_ | refine blk_alloc ?_ _)); exact BK208.out) hb); have n5_ := Aside0.mk (below_step (by repeat (first | (with_reducible first | exact HB.out | apply below_alloc | apply pw_below_drewN | apply below_drew1 | refine below_set ?_ GE204.out | refine below_set ?_ GE208.out) | exact HB.out)) hb); clear HO_205001; clear HO_205002; clear HO_209001; clear BK204; clear BK208; clear HB; have HO_205001 := n0_; have HO_205002 := n1_; have HO_209001 := n2_; have BK204 := n3_; have BK208 := n4_; have HB := n5_; clear n0_ n1_ n2_ n3_ n4_ n5_; (try clear hb); (try clear hb2); (try clear hk); (try clear hi); have hnb94 := NB204_208.out; have hnc94 := NB208_204.out; obtain ⟨hcz95_0, hcz95_1, hcz95_2, hfz95_0, hfz95_1, hfz95_2⟩ := cf3 BK204.out) | (go_at_call 25; (with_reducible refine (net_Place.calls kj48 t197 _ _ t198 _ _ t201 (⟨#[113]⟩ : ByteArray) t245 _ ?side1 ?side2 ?side3 ?side4 A75.out).mono ?_); (case side1 => repeat (first | exact (Kd.R_reads' HO_205001.out).2.2 | (with_reducible refine Kd.C_alloc ?_ _) | (with_reducible refine Kd.C_drewN ?_ _) | (with_reducible refine Kd.C_drew ?_))); (case side2 => exact (Kd.R_reads' HO_205001.out).2.1); (case side3 => repeat (first | exact (Kd.N_reads' HO_205002.out).2.2 | (with_reducible refine Kd.C_alloc ?_ _) | (with_reducible refine Kd.C_drewN ?_ _) | (with_reducible refine Kd.C_drew ?_))); (case side4 => exact (Kd.N_reads' HO_205002.out).2.1); rintro e w96 ⟨rfl, hb⟩; have n0_ := Aside0.mk (Kd.R_below (by (with_reducible repeat (first | apply Kd.R_alloc | apply Kd.R_drewN | apply Kd.R_drew)); exact HO_205001.out) hb); have n1_ := Aside0.mk (Kd.N_below (by (with_reducible repeat (first | apply Kd.N_alloc | apply Kd.N_drewN | apply Kd.N_drew)); exact HO_205002.out) hb); have n2_ := Aside0.mk (Kd.R_below (by (with_reducible repeat (first | apply Kd.R_alloc | apply Kd.R_drewN | apply Kd.R_drew)); exact HO_209001.out) hb); have n3_ := Aside0.mk (blk_below (by (with_reducible repeat (first | refine blk_drewN ?_ _ | refine blk_drew ?_ | refine blk_alloc ?_ _)); exact BK204.out) hb); have n4_ := Aside0.mk (blk_below (by (with_reducible repeat (first | refine blk_drewN ?_ _ | refine blk_drew ?_ | refine blk_alloc ?_ _)); exact BK208.out) hb); have n5_ := Aside0.mk (below_step (by repeat (first | (with_reducible first | exact HB.out | apply below_alloc | apply pw_below_drewN | apply below_drew1 | refine below_set ?_ GE204.out | refine below_set ?_ GE208.out) | exact HB.out)) hb); clear HO_205001; clear HO_205002; clear HO_209001; clear BK204; clear BK208; clear HB; have HO_205001 := n0_; have HO_205002 := n1_; have HO_209001 := n2_; have BK204 := n3_; have BK208 := n4_; have HB := n5_; clear n0_ n1_ n2_ n3_ n4_ n5_; (try clear hb); (try clear hb2); (try clear hk); (try clear hi); obtain ⟨hcz97_0, hcz97_1, hcz97_2, hfz97_0, hfz97_1, hfz97_2⟩ := cf3 BK204.out) | (go_at_call 25; (with_reducible refine (net_Place.calls kj48 t197 _ _ t198 _ _ t201 (⟨#[116]⟩ : ByteArray) t246 _ ?side1 ?side2 ?side3 ?side4 A77.out).mono ?_); (case side1 => repeat (first | exact (Kd.R_reads' HO_205001.out).2.2 | (with_reducible refine Kd.C_alloc ?_ _) | (with_reducible refine Kd.C_drewN ?_ _) | (with_reducible refine Kd.C_drew ?_))); (case side2 => exact (Kd.R_reads' HO_205001.out).2.1); (case side3 => repeat (first | exact (Kd.N_reads' HO_205002.out).2.2 | (with_reducible refine Kd.C_alloc ?_ _) | (with_reducible refine Kd.C_drewN ?_ _) | (with_reducible refine Kd.C_drew ?_))); (case side4 => exact (Kd.N_reads' HO_205002.out).2.1); rintro e w98 ⟨rfl, hb⟩; have n0_ := Aside0.mk (Kd.R_below (by (with_reducible repeat (first | apply Kd.R_alloc | apply Kd.R_drewN | apply Kd.R_drew)); exact HO_205001.out) hb); have n1_ := Aside0.mk (Kd.N_below (by (with_reducible repeat (first | apply Kd.N_alloc | apply Kd.N_drewN | apply Kd.N_drew)); exact HO_205002.out) hb); have n2_ := Aside0.mk (Kd.R_below (by (with_reducible repeat (first | apply Kd.R_alloc | apply Kd.R_drewN | apply Kd.R_drew)); exact HO_209001.out) hb); have n3_ := Aside0.mk (blk_below (by (with_reducible repeat (first | refine blk_drewN ?_ _ | refine blk_drew ?_ | refine blk_alloc ?_ _)); exact BK204.out) hb); have n4_ := Aside0.mk (blk_below (by (with_reducible repeat (first | refine blk_drewN ?_ _ | refine blk_drew ?_ | refine blk_alloc ?_ _)); exact BK208.out) hb); have n5_ := Aside0.mk (below_step (by repeat (first | (with_reducible first | exact HB.out | apply below_alloc | apply pw_below_drewN | apply below_drew1 | refine below_set ?_ GE204.out | refine below_set ?_ GE208.out) | exact HB.out)) hb); clear HO_205001; clear HO_205002; clear HO_209001; clear BK204; clear BK208; clear HB; have HO_205001 := n0_; have HO_205002 := n1_; have HO_209001 := n2_; have BK204 := n3_; have BK208 := n4_; have HB := n5_; clear n0_ n1_ n2_ n3_ n4_ n5_; (try clear hb); (try clear hb2); (try clear hk); (try clear hi); obtain ⟨hcz99_0, hcz99_1, hcz99_2, hfz99_0, hfz99_1, hfz99_2⟩ := cf3 BK204.out) | (go_at_call 27; (with_reducible refine (net_Trans.calls kj48 t197 _ _ t198 _ _ t201 (⟨#[116]⟩ : ByteArray) t247 _ ?side1 ?side2 ?side3 ?side4 A79.out).mono ?_); (case side1 => repeat (first | exact (Kd.R_reads' HO_205001.out).2.2 | (with_reducible refine Kd.C_alloc ?_ _) | (with_reducible refine Kd.C_drewN ?_ _) | (with_reducible refine Kd.C_drew ?_))); (case side2 => exact (Kd.R_reads' HO_205001.out).2.1); (case side3 => repeat (first | exact (Kd.N_reads' HO_205002.out).2.2 | (with_reducible refine Kd.C_alloc ?_ _) | (with_reducible refine Kd.C_drewN ?_ _) | (with_reducible refine Kd.C_drew ?_))); (case side4 => exact (Kd.N_reads' HO_205002.out).2.1); rintro e w100 ⟨rfl, hb⟩; have n0_ := Aside0.mk (Kd.R_below (by (with_reducible repeat (first | apply Kd.R_alloc | apply Kd.R_drewN | apply Kd.R_drew)); exact HO_205001.out) hb); have n1_ := Aside0.mk (Kd.N_below (by (with_reducible repeat (first | apply Kd.N_alloc | apply Kd.N_drewN | apply Kd.N_drew)); exact HO_205002.out) hb); have n2_ := Aside0.mk (Kd.R_below (by (with_reducible repeat (first | apply Kd.R_alloc | apply Kd.R_drewN | apply Kd.R_drew)); exact HO_209001.out) hb); have n3_ := Aside0.mk (blk_below (by (with_reducible repeat (first | refine blk_drewN ?_ _ | refine blk_drew ?_ | refine blk_alloc ?_ _)); exact BK204.out) hb); have n4_ := Aside0.mk (blk_below (by (with_reducible repeat (first | refine blk_drewN ?_ _ | refine blk_drew ?_ | refine blk_alloc ?_ _)); exact BK208.out) hb); have n5_ := Aside0.mk (below_step (by repeat (first | (with_reducible first | exact HB.out | apply below_alloc | apply pw_below_drewN | apply below_drew1 | refine below_set ?_ GE204.out | refine below_set ?_ GE208.out) | exact HB.out)) hb); clear HO_205001; clear HO_205002; clear HO_209001; clear BK204; clear BK208; clear HB; have HO_205001 := n0_; have HO_205002 := n1_; have HO_209001 := n2_; have BK204 := n3_; have BK208 := n4_; have HB := n5_; clear n0_ n1_ n2_ n3_ n4_ n5_; (try clear hb); (try clear hb2); (try clear hk); (try clear hi); obtain ⟨hcz101_0, hcz101_1, hcz101_2, hfz101_0, hfz101_1, hfz101_2⟩ := cf3 BK204.out) | (go_at_call 29; (with_reducible refine (net_Pre.calls kj48 t197 _ _ t198 _ _ t201 0 0 t248 _ ?side1 ?side2 ?side3 ?side4 A81.out).mono ?_); (case side1 => repeat (first | exact (Kd.R_reads' HO_205001.out).2.2 | (with_reducible refine Kd.C_alloc ?_ _) | (with_reducible refine Kd.C_drewN ?_ _) | (with_reducible refine Kd.C_drew ?_))); (case side2 => exact (Kd.R_reads' HO_205001.out).2.1); (case side3 => repeat (first | exact (Kd.N_reads' HO_205002.out).2.2 | (with_reducible refine Kd.C_alloc ?_ _) | (with_reducible refine Kd.C_drewN ?_ _) | (with_reducible refine Kd.C_drew ?_))); (case side4 => exact (Kd.N_reads' HO_205002.out).2.1); rintro e w102 ⟨rfl, hb⟩; have n0_ := Aside0.mk (Kd.R_below (by (with_reducible repeat (first | apply Kd.R_alloc | apply Kd.R_drewN | apply Kd.R_drew)); exact HO_205001.out) hb); have n1_ := Aside0.mk (Kd.N_below (by (with_reducible repeat (first | apply Kd.N_alloc | apply Kd.N_drewN | apply Kd.N_drew)); exact HO_205002.out) hb); have n2_ := Aside0.mk (Kd.R_below (by (with_reducible repeat (first | apply Kd.R_alloc | apply Kd.R_drewN | apply Kd.R_drew)); exact HO_209001.out) hb); have n3_ := Aside0.mk (blk_below (by (with_reducible repeat (first | refine blk_drewN ?_ _ | refine blk_drew ?_ | refine blk_alloc ?_ _)); exact BK204.out) hb); have n4_ := Aside0.mk (blk_below (by (with_reducible repeat (first | refine blk_drewN ?_ _ | refine blk_drew ?_ | refine blk_alloc ?_ _)); exact BK208.out) hb); have n5_ := Aside0.mk (below_step (by repeat (first | (with_reducible first | exact HB.out | apply below_alloc | apply pw_below_drewN | apply below_drew1 | refine below_set ?_ GE204.out | refine below_set ?_ GE208.out) | exact HB.out)) hb); clear HO_205001; clear HO_205002; clear HO_209001; clear BK204; clear BK208; clear HB; have HO_205001 := n0_; have HO_205002 := n1_; have HO_209001 := n2_; have BK204 := n3_; have BK208 := n4_; have HB := n5_; clear n0_ n1_ n2_ n3_ n4_ n5_; (try clear hb); (try clear hb2); (try clear hk); (try clear hi); obtain ⟨hcz103_0, hcz103_1, hcz103_2, hfz103_0, hfz103_1, hfz103_2⟩ := cf3 BK204.out) | (go_at_call 31; (with_reducible refine (net_Post.calls kj48 t197 _ _ t198 _ _ t201 0 1 t249 _ ?side1 ?side2 ?side3 ?side4 A83.out).mono ?_); (case side1 => repeat (first | exact (Kd.R_reads' HO_205001.out).2.2 | (with_reducible refine Kd.C_alloc ?_ _) | (with_reducible refine Kd.C_drewN ?_ _) | (with_reducible refine Kd.C_drew ?_))); (case side2 => exact (Kd.R_reads' HO_205001.out).2.1); (case side3 => repeat (first | exact (Kd.N_reads' HO_205002.out).2.2 | (with_reducible refine Kd.C_alloc ?_ _) | (with_reducible refine Kd.C_drewN ?_ _) | (with_reducible refine Kd.C_drew ?_))); (case side4 => exact (Kd.N_reads' HO_205002.out).2.1); rintro e w104 ⟨rfl, hb⟩; have n0_ := Aside0.mk (Kd.R_below (by (with_reducible repeat (first | apply Kd.R_alloc | apply Kd.R_drewN | apply Kd.R_drew)); exact HO_205001.out) hb); have n1_ := Aside0.mk (Kd.N_below (by (with_reducible repeat (first | apply Kd.N_alloc | apply Kd.N_drewN | apply Kd.N_drew)); exact HO_205002.out) hb); have n2_ := Aside0.mk (Kd.R_below (by (with_reducible repeat (first | apply Kd.R_alloc | apply Kd.R_drewN | apply Kd.R_drew)); exact HO_209001.out) hb); have n3_ := Aside0.mk (blk_below (by (with_reducible repeat (first | refine blk_drewN ?_ _ | refine blk_drew ?_ | refine blk_alloc ?_ _)); exact BK204.out) hb); have n4_ := Aside0.mk (blk_below (by (with_reducible repeat (first | refine blk_drewN ?_ _ | refine blk_drew ?_ | refine blk_alloc ?_ _)); exact BK208.out) hb); have n5_ := Aside0.mk (below_step (by repeat (first | (with_reducible first | exact HB.out | apply below_alloc | apply pw_below_drewN | apply below_drew1 | refine below_set ?_ GE204.out | refine below_set ?_ GE208.out) | exact HB.out)) hb); clear HO_205001; clear HO_205002; clear HO_209001; clear BK204; clear BK208; clear HB; have HO_205001 := n0_; have HO_205002 := n1_; have HO_209001 := n2_; have BK204 := n3_; have BK208 := n4_; have HB := n5_; clear n0_ n1_ n2_ n3_ n4_ n5_; (try clear hb); (try clear hb2); (try clear hk); (try clear hi); obtain ⟨hcz105_0, hcz105_1, hcz105_2, hfz105_0, hfz105_1, hfz105_2⟩ := cf3 BK204.out) | (go_at_call 21; (with_reducible refine (net_Plain.calls kj48 t197 _ _ t198 _ _ t201 true _ ?side1 ?side2 ?side3 ?side4 A85.out).mono ?_); (case side1 => repeat (first | exact (Kd.R_reads' HO_205001.out).2.2 | (with_reducible refine Kd.C_alloc ?_ _) | (with_reducible refine Kd.C_drewN ?_ _) | (with_reducible refine Kd.C_drew ?_))); (case side2 => exact (Kd.R_reads' HO_205001.out).2.1); (case side3 => repeat (first | exact (Kd.N_reads' HO_205002.out).2.2 | (with_reducible refine Kd.C_alloc ?_ _) | (with_reducible refine Kd.C_drewN ?_ _) | (with_reducible refine Kd.C_drew ?_))); (case side4 => exact (Kd.N_reads' HO_205002.out).2.1); rintro e w106 ⟨rfl, hb⟩; have n0_ := Aside0.mk (Kd.R_below (by (with_reducible repeat (first | apply Kd.R_alloc | apply Kd.R_drewN | apply Kd.R_drew)); exact HO_205001.out) hb); have n1_ := Aside0.mk (Kd.N_below (by (with_reducible repeat (first | apply Kd.N_alloc | apply Kd.N_drewN | apply Kd.N_drew)); exact HO_205002.out) hb); have n2_ := Aside0.mk (Kd.R_below (by (with_reducible repeat (first | apply Kd.R_alloc | apply Kd.R_drewN | apply Kd.R_drew)); exact HO_209001.out) hb); have n3_ := Aside0.mk (blk_below (by (with_reducible repeat (first | refine blk_drewN ?_ _ | refine blk_drew ?_ | refine blk_alloc ?_ _)); exact BK204.out) hb); have n4_ := Aside0.mk (blk_below (by (with_reducible repeat (first | refine blk_drewN ?_ _ | refine blk_drew ?_ | refine blk_alloc ?_ _)); exact BK208.out) hb); have n5_ := Aside0.mk (below_step (by repeat (first | (with_reducible first | exact HB.out | apply below_alloc | apply pw_below_drewN | apply below_drew1 | refine below_set ?_ GE204.out | refine below_set ?_ GE208.out) | exact HB.out)) hb); clear HO_205001; clear HO_205002; clear HO_209001; clear BK204; clear BK208; clear HB; have HO_205001 := n0_; have HO_205002 := n1_; have HO_209001 := n2_; have BK204 := n3_; have BK208 := n4_; have HB := n5_; clear n0_ n1_ n2_ n3_ n4_ n5_; (try clear hb); (try clear hb2); (try clear hk); (try clear hi); obtain ⟨hcz107_0, hcz107_1, hcz107_2, hfz107_0, hfz107_1, hfz107_2⟩ := cf3 BK204.out) | (go_at_call 23; (with_reducible refine (net_Ordinary.calls kj48 t197 _ _ t198 _ _ t201 false _ ?side1 ?side2 ?side3 ?side4 A87.out).mono ?_); (case side1 => repeat (first | exact (Kd.R_reads' HO_205001.out).2.2 | (with_reducible refine Kd.C_alloc ?_ _) | (with_reducible refine Kd.C_drewN ?_ _) | (with_reducible refine Kd.C_drew ?_))); (case side2 => exact (Kd.R_reads' HO_205001.out).2.1); (case side3 => repeat (first | exact (Kd.N_reads' HO_205002.out).2.2 | (with_reducible refine Kd.C_alloc ?_ _) | (with_reducible refine Kd.C_drewN ?_ _) | (with_reducible refine Kd.C_drew ?_))); (case side4 => exact (Kd.N_reads' HO_205002.out).2.1); rintro e w108 ⟨rfl, hb⟩; have n0_ := Aside0.mk (Kd.R_below (by (with_reducible repeat (first | apply Kd.R_alloc | apply Kd.R_drewN | apply Kd.R_drew)); exact HO_205001.out) hb); have n1_ := Aside0.mk (Kd.N_below (by (with_reducible repeat (first | apply Kd.N_alloc | apply Kd.N_drewN | apply Kd.N_drew)); exact HO_205002.out) hb); have n2_ := Aside0.mk (Kd.R_below (by (with_reducible repeat (first | apply Kd.R_alloc | apply Kd.R_drewN | apply Kd.R_drew)); exact HO_209001.out) hb); have n3_ := Aside0.mk (blk_below (by (with_reducible repeat (first | refine blk_drewN ?_ _ | refine blk_drew ?_ | refine blk_alloc ?_ _)); exact BK204.out) hb); have n4_ := Aside0.mk (blk_below (by (with_reducible repeat (first | refine blk_drewN ?_ _ | refine blk_drew ?_ | refine blk_alloc ?_ _)); exact BK208.out) hb); have n5_ := Aside0.mk (below_step (by repeat (first | (with_reducible first | exact HB.out | apply below_alloc | apply pw_below_drewN | apply below_drew1 | refine below_set ?_ GE204.out | refine below_set ?_ GE208.out) | exact HB.out)) hb); clear HO_205001; clear HO_205002; clear HO_209001; clear BK204; clear BK208; clear HB; have HO_205001 := n0_; have HO_205002 := n1_; have HO_209001 := n2_; have BK204 := n3_; have BK208 := n4_; have HB := n5_; clear n0_ n1_ n2_ n3_ n4_ n5_; (try clear hb); (try clear hb2); (try clear hk); (try clear hi); obtain ⟨hcz109_0, hcz109_1, hcz109_2, hfz109_0, hfz109_1, hfz109_2⟩ := cf3 BK204.out) | (go_at_call 44; (with_reducible refine (net_Same.calls kj48 t197 _ _ t198 _ _ t201 t197 _ _ t198 _ _ t201 true _ ?side1 ?side2 ?side3 ?side4 ?side5 ?side6 ?side7 ?side8 A89.out).mono ?_); (case side1 => repeat (first | exact (Kd.R_reads' HO_205001.out).2.2 | (with_reducible refine Kd.C_alloc ?_ _) | (with_reducible refine Kd.C_drewN ?_ _) | (with_reducible refine Kd.C_drew ?_))); (case side2 => exact (Kd.R_reads' HO_205001.out).2.1); (case side3 => repeat (first | exact (Kd.N_reads' HO_205002.out).2.2 | (with_reducible refine Kd.C_alloc ?_ _) | (with_reducible refine Kd.C_drewN ?_ _) | (with_reducible refine Kd.C_drew ?_))); (case side4 => exact (Kd.N_reads' HO_205002.out).2.1); (case side5 => repeat (first | exact (Kd.R_reads' HO_205001.out).2.2 | (with_reducible refine Kd.C_alloc ?_ _) | (with_reducible refine Kd.C_drewN ?_ _) | (with_reducible refine Kd.C_drew ?_))); (case side6 => exact (Kd.R_reads' HO_205001.out).2.1); (case side7 => repeat (first | exact (Kd.N_reads' HO_205002.out).2.2 | (with_reducible refine Kd.C_alloc ?_ _) | (with_reducible refine Kd.C_drewN ?_ _) | (with_reducible refine Kd.C_drew ?_))); (case side8 => exact (Kd.N_reads' HO_205002.out).2.1); rintro e w110 ⟨rfl, hb⟩; have n0_ := Aside0.mk (Kd.R_below (by (with_reducible repeat (first | apply Kd.R_alloc | apply Kd.R_drewN | apply Kd.R_drew)); exact HO_205001.out) hb); have n1_ := Aside0.mk (Kd.N_below (by (with_reducible repeat (first | apply Kd.N_alloc | apply Kd.N_drewN | apply Kd.N_drew)); exact HO_205002.out) hb); have n2_ := Aside0.mk (Kd.R_below (by (with_reducible repeat (first | apply Kd.R_alloc | apply Kd.R_drewN | apply Kd.R_drew)); exact HO_209001.out) hb); have n3_ := Aside0.mk (blk_below (by (with_reducible repeat (first | refine blk_drewN ?_ _ | refine blk_drew ?_ | refine blk_alloc ?_ _)); exact BK204.out) hb); have n4_ := Aside0.mk (blk_below (by (with_reducible repeat (first | refine blk_drewN ?_ _ | refine blk_drew ?_ | refine blk_alloc ?_ _)); exact BK208.out) hb); have n5_ := Aside0.mk (below_step (by repeat (first | (with_reducible first | exact HB.out | apply below_alloc | apply pw_below_drewN | apply below_drew1 | refine below_set ?_ GE204.out | refine below_set ?_ GE208.out) | exact HB.out)) hb); clear HO_205001; clear HO_205002; clear HO_209001; clear BK204; clear BK208; clear HB; have HO_205001 := n0_; have HO_205002 := n1_; have HO_209001 := n2_; have BK204 := n3_; have BK208 := n4_; have HB := n5_; clear n0_ n1_ n2_ n3_ n4_ n5_; (try clear hb); (try clear hb2); (try clear hk); (try clear hi); obtain ⟨hcz111_0, hcz111_1, hcz111_2, hfz111_0, hfz111_1, hfz111_2⟩ := cf3 BK204.out; obtain ⟨hcz112_0, hcz112_1, hcz112_2, hfz112_0, hfz112_1, hfz112_2⟩ := cf3 BK208.out) | (go_at_call 44; (refine (net_Same.calls kj48 t197 _ _ t198 _ _ t201 (⟨#[110]⟩ : ByteArray) _ _ y205 _ _ ([] : List (S53)) t253 _ ?side1 ?side2 ?side3 ?side4 ?side5 ?side6 ?side7 ?side8 A91.out).mono ?_); (case side1 => repeat (first | exact (Kd.R_reads' HO_205001.out).2.2 | (with_reducible refine Kd.C_alloc ?_ _) | (with_reducible refine Kd.C_drewN ?_ _) | (with_reducible refine Kd.C_drew ?_))); (case side2 => exact (Kd.R_reads' HO_205001.out).2.1); (case side3 => repeat (first | exact (Kd.N_reads' HO_205002.out).2.2 | (with_reducible refine Kd.C_alloc ?_ _) | (with_reducible refine Kd.C_drewN ?_ _) | (with_reducible refine Kd.C_drew ?_))); (case side4 => exact (Kd.N_reads' HO_205002.out).2.1); (case side5 => repeat (first | exact (Kd.R_reads' HO_209001.out).2.2 | (with_reducible refine Kd.C_alloc ?_ _) | (with_reducible refine Kd.C_drewN ?_ _) | (with_reducible refine Kd.C_drew ?_))); (case side6 => exact (Kd.R_reads' HO_209001.out).2.1); (case side7 => exact Kd.C_nil _ _); (case side8 => exact Nat.le_refl _); rintro e w113 ⟨rfl, hb⟩; have n0_ := Aside0.mk (Kd.R_below (by (with_reducible repeat (first | apply Kd.R_alloc | apply Kd.R_drewN | apply Kd.R_drew)); exact HO_205001.out) hb); have n1_ := Aside0.mk (Kd.N_below (by (with_reducible repeat (first | apply Kd.N_alloc | apply Kd.N_drewN | apply Kd.N_drew)); exact HO_205002.out) hb); have n2_ := Aside0.mk (Kd.R_below (by (with_reducible repeat (first | apply Kd.R_alloc | apply Kd.R_drewN | apply Kd.R_drew)); exact HO_209001.out) hb); have n3_ := Aside0.mk (blk_below (by (with_reducible repeat (first | refine blk_drewN ?_ _ | refine blk_drew ?_ | refine blk_alloc ?_ _)); exact BK204.out) hb); have n4_ := Aside0.mk (blk_below (by (with_reducible repeat (first | refine blk_drewN ?_ _ | refine blk_drew ?_ | refine blk_alloc ?_ _)); exact BK208.out) hb); have n5_ := Aside0.mk (below_step (by repeat (first | (with_reducible first | exact HB.out | apply below_alloc | apply pw_below_drewN | apply below_drew1 | refine below_set ?_ GE204.out | refine below_set ?_ GE208.out) | exact HB.out)) hb); clear HO_205001; clear HO_205002; clear HO_209001; clear BK204; clear BK208; clear HB; have HO_205001 := n0_; have HO_205002 := n1_; have HO_209001 := n2_; have BK204 := n3_; have BK208 := n4_; have HB := n5_; clear n0_ n1_ n2_ n3_ n4_ n5_; (try clear hb); (try clear hb2); (try clear hk); (try clear hi)))
  go_ret
  exact ⟨by first | rfl | (simp [errW_none, errW_some] <;> rfl) | (simp [*, errW_none, errW_some] <;> rfl), by repeat (first | (with_reducible first | exact HB.out | apply below_alloc | apply pw_below_drewN | apply below_drew1 | refine below_set ?_ GE204.out | refine below_set ?_ GE208.out) | exact HB.out)⟩

end Go.Proofs.Ytboonibkibhmhaa.P
