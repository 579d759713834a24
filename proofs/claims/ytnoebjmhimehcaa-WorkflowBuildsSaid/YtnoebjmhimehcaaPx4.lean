-- LAID BY OUR PROGRAM OVER THE PRINT (xprint.py, part.py): Lean checks it.
import Derived.Test.YtnoebjmhimehcaaPx0
import Derived.Test.YtnoebjmhimehcaaPx3
namespace Go.Proofs.Ytnoebjmhimehcaa.P
open Go.RowKit Go.Proofs.YtnoebjmhimehcaaW.PrintWords Go.Proofs.YtnoebjmhimehcaaW.PrintLast Go.Proofs.YtnoebjmhimehcaaW.PrintMore
attribute [local go_sem] max2_int min2_int max_two min_two max_three min_three max_four min_four   -- for this text's walks alone
set_option linter.unusedVariables false
set_option linter.unusedSimpArgs false

/-! ### r43_Is: function 17 -/
def r43_Is.f (k : Nat) (ae : ByteArray) (ab : List (S52)) (ac : List (S48)) : Option (Bool) := (r43_Problems.f k ae ab ac).bind fun al => (if al.2 = 0 then (some ((al.1.length : Int) == 0)) else (some false))
theorem r43_Is.mono : ∀ a0 a1 a2 k, LeO (r43_Is.f k a0 a1 a2) (r43_Is.f (k + 1) a0 a1 a2) := by
 intro a0 a1 a2 k
 unfold r43_Is.f
 repeat' first | (with_reducible first | apply r43_Problems.mono | apply lr | apply ln | apply li | refine lb ?_ fun _ => ?_)
set_option maxHeartbeats 8000000 in
set_option maxRecDepth 100000 in
theorem r43_Is.calls (k : Nat) (ae : ByteArray) (au : Option Addr) (ax : Nat) (ab : List (S52)) (av : Option Addr) (ay : Nat) (ac : List (S48)) (r : Bool) (w : World) (aq : Kd.C k52 w au ab.length ab) (ao : ab.length ≤ ax) (ar : Kd.C k48 w av ac.length ac) (ap : ac.length ≤ ay) (h : r43_Is.f k ae ab ac = some r) :
  Calls Try.prog 17 #[.agg #[.string ae, .slice au ab.length ax, .slice av ac.length ay]] w fun e w' => e = .returned (.bool r) ∧ Below w.heap.size w w' := by
 have aH := Try.underlying25
 have aj := am aq
 have ag := am ao
 clear aq ao
 have ak := am ar
 have ah := am ap
 clear ar ap
 have HB := am (Below.refl w.heap.size w)
 have H := h
 unfold r43_Is.f at H
 clear h
 replace H := bnd H
 obtain ⟨⟨aB, aC⟩, A2, H⟩ := H
 (try dsimp only at H)
 replace H := ife H
 rcases H with ⟨aD, aE, H⟩ | ⟨aD, aE, H⟩
 rotate_left
 ·obtain rfl := Option.some.inj H
  go_enter Try.func17, Try.ntmps17
  go_wp2_with (first | ((with_reducible refine gate_dst (N := 1) rfl ?_); (try (refine gate_guard (by rfl) ?_; dsimp only)); refine box_ev ?_; intro az hg w8 hbox hb; have aa := am hbox; have af := gwl hg; have aw := af; replace HB := bsl hb; clear hb hbox hg; have z9 := cf3 aa.1) | ((with_reducible refine gate_callee (f := 19) rfl ?_); refine gC 7 Try.func19 _ (r43_Problems.calls k ae _ _ ab _ _ ac aB aC _ (csb aj HB) ag.1 (csb ak HB) ah.1 A2.1) ?_; rintro e aK ⟨aF, rfl, aA, hb⟩; refine ⟨_, rfl, ?_⟩; have ai := am (Kd.R_lower aA (below_size pbg)); replace aa := bbh aa hb; replace HB := bst hb; (try clear hb); (try clear aA)))
  go_ret
  exact ⟨per, pbg⟩
 obtain rfl := Option.some.inj H
 go_enter Try.func17, Try.ntmps17
 go_wp2_with (first | ((with_reducible refine gate_dst (N := 1) rfl ?_); (try (refine gate_guard (by rfl) ?_; dsimp only)); refine box_ev ?_; intro az hg w4 hbox hb; have aa := am hbox; have af := gwl hg; have aw := af; replace HB := bsl hb; clear hb hbox hg; have z5 := cf3 aa.1) | ((with_reducible refine gate_callee (f := 19) rfl ?_); refine gC 7 Try.func19 _ (r43_Problems.calls k ae _ _ ab _ _ ac aB aC _ (csb aj HB) ag.1 (csb ak HB) ah.1 A2.1) ?_; rintro e w6 ⟨aF, rfl, aA, hb⟩; refine ⟨_, rfl, ?_⟩; have ai := am (Kd.R_lower aA (below_size pbg)); replace aa := bbh aa hb; replace HB := bst hb; (try clear hb); (try clear aA); obtain ⟨aI, aJ, aG⟩ := Kd.R_slice ai.1; subst aG))
 go_ret
 exact ⟨per, pbg⟩

end Go.Proofs.Ytnoebjmhimehcaa.P
