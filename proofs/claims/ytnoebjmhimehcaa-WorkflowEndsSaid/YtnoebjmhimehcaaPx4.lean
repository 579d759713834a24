-- LAID BY OUR PROGRAM OVER THE PRINT (xprint.py, part.py): Lean checks it.
import Derived.Test.YtnoebjmhimehcaaPx0
import Derived.Test.YtnoebjmhimehcaaPx3
namespace Go.Proofs.Ytnoebjmhimehcaa.P
open Go.RowKit Go.Proofs.YtnoebjmhimehcaaW.PrintWords Go.Proofs.YtnoebjmhimehcaaW.PrintLast Go.Proofs.YtnoebjmhimehcaaW.PrintMore
attribute [local go_sem] max2_int min2_int max_two min_two max_three min_three max_four min_four   -- for this text's walks alone
set_option linter.unusedVariables false
set_option linter.unusedSimpArgs false

/-! ### r43_Is: function 17 -/
def r43_Is.f (k : Nat) (a0_0 : ByteArray) (l0_1 : List (S52)) (l0_2 : List (S48)) : Option (Bool) := (r43_Problems.f k a0_0 l0_1 l0_2).bind fun bt561 => (if bt561.2 = 0 then (some ((bt561.1.length : Int) == 0)) else (some false))
theorem r43_Is.mono : ∀ a0 a1 a2 k, LeO (r43_Is.f k a0 a1 a2) (r43_Is.f (k + 1) a0 a1 a2) := by
 intro a0 a1 a2 k
 unfold r43_Is.f
 repeat' first | (with_reducible first | apply r43_Problems.mono | apply lr | apply ln | apply li | refine lb ?_ fun _ => ?_)
set_option maxHeartbeats 8000000 in
set_option maxRecDepth 100000 in
theorem r43_Is.calls (k : Nat) (a0_0 : ByteArray) (A0_1 : Option Addr) (c0_1 : Nat) (l0_1 : List (S52)) (A0_2 : Option Addr) (c0_2 : Nat) (l0_2 : List (S48)) (r : Bool) (w : World) (hr0_1 : Kd.C k52 w A0_1 l0_1.length l0_1) (hc0_1 : l0_1.length ≤ c0_1) (hr0_2 : Kd.C k48 w A0_2 l0_2.length l0_2) (hc0_2 : l0_2.length ≤ c0_2) (h : r43_Is.f k a0_0 l0_1 l0_2 = some r) :
  Calls Try.prog 17 #[.agg #[.string a0_0, .slice A0_1 l0_1.length c0_1, .slice A0_2 l0_2.length c0_2]] w fun e w' => e = .returned (.bool r) ∧ Below w.heap.size w w' := by
 have hu25 := Try.underlying25
 have HR0_1 := am hr0_1
 have HC0_1 := am hc0_1
 clear hr0_1 hc0_1
 have HR0_2 := am hr0_2
 have HC0_2 := am hc0_2
 clear hr0_2 hc0_2
 have HB := am (Below.refl w.heap.size w)
 have H : ((r43_Problems.f k a0_0 l0_1 l0_2).bind fun bt561 => (if bt561.2 = 0 then (some ((bt561.1.length : Int) == 0)) else (some false))) = some r := h
 clear h
 replace H := bnd H
 obtain ⟨⟨t561, t564⟩, A2, H⟩ := H
 (try dsimp only at H)
 by_cases c3 : t564 = 0
 rotate_left
 ·rw [if_neg c3] at H
  have c3b0 : (t564 == 0) = false := beq_eq_false_iff_ne.mpr c3
  have c3b1 : (t564 != 0) = true := bne_iff_ne.mpr c3
  obtain rfl := Option.some.inj H
  go_enter Try.func17, Try.ntmps17
  go_wp2_with (first | ((with_reducible refine gate_dst (N := 1) rfl ?_); (try (refine gate_guard (by rfl) ?_; dsimp only)); refine box_ev (N := 1) (cs := #[.string a0_0, .slice A0_1 l0_1.length c0_1, .slice A0_2 l0_2.length c0_2]) (t := 25) ?_; intro gb560 hg w8 hbox hb; have BK560 := am hbox; have GW560 := gwl hg; have GE560 := GW560; replace HB := bsl hb; clear hb hbox hg; obtain ⟨z9_0, z9_1, z9_2, y9_0, y9_1, y9_2⟩ := cf3 BK560.1) | ((with_reducible refine gate_callee (f := 19) rfl ?_); refine gC 7 Try.func19 _ (r43_Problems.calls k a0_0 _ _ l0_1 _ _ l0_2 t561 t564 _ (csb HR0_1 HB) HC0_1.1 (csb HR0_2 HB) HC0_2.1 A2.1) ?_; rintro e w10 ⟨v562, rfl, ho0, hb⟩; refine ⟨_, rfl, ?_⟩; have HO563 := am (Kd.R_lower ho0 (below_size pbg)); replace BK560 := bbh BK560 hb; replace HB := bst hb; (try clear hb); (try clear ho0)))
  go_ret
  exact ⟨per, pbg⟩
 rw [if_pos c3] at H
 have c3b0 : (t564 == 0) = true := beq_iff_eq.mpr c3
 have c3b1 : (t564 != 0) = false := bne_eq_false_iff_eq.mpr c3
 clear c3
 obtain rfl := Option.some.inj H
 go_enter Try.func17, Try.ntmps17
 go_wp2_with (first | ((with_reducible refine gate_dst (N := 1) rfl ?_); (try (refine gate_guard (by rfl) ?_; dsimp only)); refine box_ev (N := 1) (cs := #[.string a0_0, .slice A0_1 l0_1.length c0_1, .slice A0_2 l0_2.length c0_2]) (t := 25) ?_; intro gb560 hg w4 hbox hb; have BK560 := am hbox; have GW560 := gwl hg; have GE560 := GW560; replace HB := bsl hb; clear hb hbox hg; obtain ⟨z5_0, z5_1, z5_2, y5_0, y5_1, y5_2⟩ := cf3 BK560.1) | ((with_reducible refine gate_callee (f := 19) rfl ?_); refine gC 7 Try.func19 _ (r43_Problems.calls k a0_0 _ _ l0_1 _ _ l0_2 t561 t564 _ (csb HR0_1 HB) HC0_1.1 (csb HR0_2 HB) HC0_2.1 A2.1) ?_; rintro e w6 ⟨v562, rfl, ho0, hb⟩; refine ⟨_, rfl, ?_⟩; have HO563 := am (Kd.R_lower ho0 (below_size pbg)); replace BK560 := bbh BK560 hb; replace HB := bst hb; (try clear hb); (try clear ho0); obtain ⟨Ao7, co7, eo7⟩ := Kd.R_slice HO563.1; subst eo7))
 go_ret
 exact ⟨per, pbg⟩

end Go.Proofs.Ytnoebjmhimehcaa.P
