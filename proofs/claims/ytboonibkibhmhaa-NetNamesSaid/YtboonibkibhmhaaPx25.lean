-- LAID BY OUR PROGRAM OVER THE PRINT (xprint.py): Lean checks it.
import Derived.Test.YtboonibkibhmhaaPx0
import Derived.Test.YtboonibkibhmhaaPx5
import Derived.Test.YtboonibkibhmhaaPx14
import Derived.Test.YtboonibkibhmhaaPx15
namespace Go.Proofs.Ytboonibkibhmhaa.P
open Go.RowKit Go.Proofs.YtboonibkibhmhaaW.PrintWords Go.Proofs.YtboonibkibhmhaaW.PrintLast Go.Proofs.YtboonibkibhmhaaW.PrintMore
attribute [local go_sem] max2_int min2_int max_two min_two max_three min_three max_four min_four   -- for this text's walks alone
set_option linter.unusedVariables false
set_option linter.unusedSimpArgs false

/-! ### petrinetlaw09_NetNames: function 6 -/
def petrinetlaw09_NetNames.f (k : Nat) (a0 : ByteArray) : Option (Bool) := if (a0.size : Int) > 100 then ((petrinetlaw09_lives.f k).bind fun t468 => (some t468)) else ((net_Name.f a0).bind fun t469 => ((petrinetref09_Name.f k a0).bind fun t470 => (if (t469 == t470) = true then ((petrinetlaw09_lives.f k).bind fun t471 => (some t471)) else (none))))
theorem petrinetlaw09_NetNames.mono : ∀ a0 k, LeO (petrinetlaw09_NetNames.f k a0) (petrinetlaw09_NetNames.f (k + 1) a0) := by
  intro a0 k
  unfold petrinetlaw09_NetNames.f
  repeat' first | (with_reducible first | exact petrinetlaw09_lives.mono _ | exact petrinetref09_Name.mono _ _ | exact LeO.refl _ | exact LeO.none _ | refine LeO.ite ?_ ?_ | refine LeO.bind ?_ (fun _ => ?_)) | exact petrinetlaw09_lives.mono _ | exact petrinetref09_Name.mono _ _ | exact LeO.none _ | refine LeO.ite ?_ ?_ | refine LeO.bind ?_ (fun _ => ?_)
set_option maxHeartbeats 8000000 in
set_option maxRecDepth 100000 in
theorem petrinetlaw09_NetNames.calls (k : Nat) (a0 : ByteArray) (r : Bool) (w : World) (h : petrinetlaw09_NetNames.f k a0 = some r) :
    Calls Try.prog 6 #[.string a0] w fun e w' => e = .returned (.bool r) ∧ Below w.heap.size w w' := by
  have HB := Aside0.mk (Below.refl w.heap.size w)
  have H : (if (a0.size : Int) > 100 then ((petrinetlaw09_lives.f k).bind fun t468 => (some t468)) else ((net_Name.f a0).bind fun t469 => ((petrinetref09_Name.f k a0).bind fun t470 => (if (t469 == t470) = true then ((petrinetlaw09_lives.f k).bind fun t471 => (some t471)) else (none))))) = some r := h
  clear h
  by_cases c2 : (a0.size : Int) > 100
  · rw [if_pos c2] at H
    have c2b0 : decide (100 < (a0.size : Int)) = true := decide_eq_true c2
    have c2b1 : decide (100 < a0.size) = true := decide_eq_true (by omega)
    clear c2
    replace H := Option.bind_eq_some_iff.mp H
    obtain ⟨t468, A30, H⟩ := H
    replace H : (some t468) = some r := H
    have A3 := Aside0.mk A30
    clear A30
    obtain rfl := Option.some.inj H
    go_enter Try.func6, Try.ntmps6
    go_wp2_with (first | ((with_reducible refine gate_callee (f := 12) rfl ?_); refine goesL_ (some 6) rfl rfl Try.func12 (by kernel_rfl) rfl #[] rfl pgz ?_; (with_reducible refine (petrinetlaw09_lives.calls k  t468 _ A3.out).mono ?_); rintro e w4 ⟨rfl, hb⟩; refine ⟨_, rfl, ?_⟩; have n0_ := Aside0.mk (below_step pbl hb); clear HB; have HB := n0_; clear n0_; (try clear hb); (try clear hb2); (try clear hk); (try clear hi)))
    go_ret
    exact ⟨by first | rfl | (simp [errW_none, errW_some] <;> rfl) | (simp [*, errW_none, errW_some] <;> rfl), by repeat (first | (with_reducible first | exact HB.out | apply below_alloc | apply pw_below_drewN | apply below_drew1) | exact HB.out)⟩
  rw [if_neg c2] at H
  have c2b0 : decide (100 < (a0.size : Int)) = false := decide_eq_false c2
  have c2b1 : decide (100 < a0.size) = false := decide_eq_false (by omega)
  clear c2
  replace H := Option.bind_eq_some_iff.mp H
  obtain ⟨t469, A50, H⟩ := H
  replace H : ((petrinetref09_Name.f k a0).bind fun t470 => (if (t469 == t470) = true then ((petrinetlaw09_lives.f k).bind fun t471 => (some t471)) else (none))) = some r := H
  have A5 := Aside0.mk A50
  clear A50
  replace H := Option.bind_eq_some_iff.mp H
  obtain ⟨t470, A60, H⟩ := H
  replace H : (if (t469 == t470) = true then ((petrinetlaw09_lives.f k).bind fun t471 => (some t471)) else (none)) = some r := H
  have A6 := Aside0.mk A60
  clear A60
  by_cases c7 : (t469 == t470) = true
  rotate_left
  · rw [if_neg c7] at H
    exact absurd H (by simp)
  rw [if_pos c7] at H
  have c7b0 : (t469 == t470) = true := c7
  (try (have c7b1 : decide (t469 = t470) = true := by simpa using c7))
  (try (have c7b2 : (t469 == t470) = true := by simpa using c7))
  clear c7
  replace H := Option.bind_eq_some_iff.mp H
  obtain ⟨t471, A80, H⟩ := H
  replace H : (some t471) = some r := H
  have A8 := Aside0.mk A80
  clear A80
  obtain rfl := Option.some.inj H
  go_enter Try.func6, Try.ntmps6
  go_wp2_with (first | ((with_reducible refine gate_callee (f := 41) rfl ?_); refine goesL_ (some 8) rfl rfl Try.func41 (by kernel_rfl) rfl #[.string a0] rfl pgz ?_; (with_reducible refine (net_Name.calls a0 t469 _ A5.out).mono ?_); rintro e w9 ⟨rfl, hb⟩; refine ⟨_, rfl, ?_⟩; have n0_ := Aside0.mk (below_step pbl hb); clear HB; have HB := n0_; clear n0_; (try clear hb); (try clear hb2); (try clear hk); (try clear hi)) | ((with_reducible refine gate_callee (f := 42) rfl ?_); refine goesL_ (some 10) rfl rfl Try.func42 (by kernel_rfl) rfl #[.string a0] rfl pgz ?_; (with_reducible refine (petrinetref09_Name.calls k a0 t470 _ A6.out).mono ?_); rintro e w' ⟨rfl, ⟨nd, rfl⟩⟩; refine ⟨_, rfl, ?_⟩) | (go_at_call 12; (with_reducible refine (petrinetlaw09_lives.calls k  t471 _ A8.out).mono ?_); rintro e w10 ⟨rfl, hb⟩; have n0_ := Aside0.mk (below_step pbl hb); clear HB; have HB := n0_; clear n0_; (try clear hb); (try clear hb2); (try clear hk); (try clear hi)))
  go_ret
  exact ⟨by first | rfl | (simp [errW_none, errW_some] <;> rfl) | (simp [*, errW_none, errW_some] <;> rfl), by repeat (first | (with_reducible first | exact HB.out | apply below_alloc | apply pw_below_drewN | apply below_drew1) | exact HB.out)⟩

/-- THE ONE PURE STATEMENT of petrinetlaw09_NetNames: yours. -/
def petrinetlaw09_NetNames.Pure : Prop := ∀ (a0 : ByteArray), a0.size ≤ 140737488351232 → ∃ k, petrinetlaw09_NetNames.f k a0 = some true
theorem petrinetlaw09_NetNames.walk (P : petrinetlaw09_NetNames.Pure) (a0 : ByteArray) (w : World) (w0 : a0.size ≤ 140737488351232) :
    Calls Try.prog 6 #[.string a0] w fun e w' => e = .returned (.bool true) ∧ Below w.heap.size w w' := by
  obtain ⟨k, h⟩ := P a0 w0
  refine (petrinetlaw09_NetNames.calls k a0 true w h).mono ?_
  rintro e w' ⟨rfl, hd⟩
  exact ⟨rfl, hd⟩

end Go.Proofs.Ytboonibkibhmhaa.P
