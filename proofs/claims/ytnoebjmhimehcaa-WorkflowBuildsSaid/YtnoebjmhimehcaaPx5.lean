-- LAID BY OUR PROGRAM OVER THE PRINT (xprint.py, part.py): Lean checks it.
import Derived.Test.YtnoebjmhimehcaaPx0
import Derived.Test.YtnoebjmhimehcaaPx2
import Derived.Test.YtnoebjmhimehcaaPx3
import Derived.Test.YtnoebjmhimehcaaPx4
namespace Go.Proofs.Ytnoebjmhimehcaa.P
open Go.RowKit Go.Proofs.YtnoebjmhimehcaaW.PrintWords Go.Proofs.YtnoebjmhimehcaaW.PrintLast Go.Proofs.YtnoebjmhimehcaaW.PrintMore
attribute [local go_sem] max2_int min2_int max_two min_two max_three min_three max_four min_four   -- for this text's walks alone
set_option linter.unusedVariables false
set_option linter.unusedSimpArgs false

/-! ### _YtnoebjmhimehcaaPx2: function 0 -/
theorem eqA52 (d : Nat) (w : World) (x0 y0 : ByteArray) (x1 y1 : Int) (x2 y2 : Int) :
  (Op.equalIn (d + 2) 52 (.agg #[.string x0, .int .i64 x1, .int .i64 x2]) (.agg #[.string y0, .int .i64 y1, .int .i64 y2])).run Try.prog w = .ok (x0.toList == y0.toList && (x1 == y1 && (x2 == y2))) w := by
 refine eqA_of Try.underlying52 (by kernel_rfl) ?_
 refine eqf_cons (by rfl) (by go_simp; rfl) (by go_simp; rfl) (by go_simp) ?_
 refine eqf_cons (by rfl) (by go_simp; rfl) (by go_simp; rfl) (by go_simp) ?_
 exact eqf_last (by rfl) (by go_simp; rfl) (by go_simp; rfl) (by go_simp)

/-! ### _YtnoebjmhimehcaaPx3: function 0 -/
theorem eqA55 (d : Nat) (w : World) (x0 y0 : Int) (x1 y1 : Int) :
  (Op.equalIn (d + 2) 55 (.agg #[.int .i64 x0, .int .i64 x1]) (.agg #[.int .i64 y0, .int .i64 y1])).run Try.prog w = .ok (x0 == y0 && (x1 == y1)) w := by
 refine eqA_of Try.underlying55 (by kernel_rfl) ?_
 refine eqf_cons (by rfl) (by go_simp; rfl) (by go_simp; rfl) (by go_simp) ?_
 exact eqf_last (by rfl) (by go_simp; rfl) (by go_simp; rfl) (by go_simp)

/-! ### r43_may: function 45 -/
def r43_may.f (k : Nat) (ae : ByteArray) (ab : List (S52)) (ac : List (S48)) : Option (Int) := (r43_Problems.f k ae ab ac).bind fun ao => (if ao.2 = 0 then ((r43_Is.f k ae ab ac).bind fun az => (if az = true then (some 0) else (some 15))) else (some ao.2))
theorem r43_may.mono : ∀ a0 a1 a2 k, LeO (r43_may.f k a0 a1 a2) (r43_may.f (k + 1) a0 a1 a2) := by
 intro a0 a1 a2 k
 unfold r43_may.f
 repeat' first | (with_reducible first | apply r43_Is.mono | apply r43_Problems.mono | apply lr | apply ln | apply li | refine lb ?_ fun _ => ?_)
set_option maxHeartbeats 8000000 in
set_option maxRecDepth 100000 in
theorem r43_may.calls (k : Nat) (ae : ByteArray) (aA : Option Addr) (aC : Nat) (ab : List (S52)) (aB : Option Addr) (aD : Nat) (ac : List (S48)) (r : Int) (w : World) (av : Kd.C k52 w aA ab.length ab) (aq : ab.length ≤ aC) (aw : Kd.C k48 w aB ac.length ac) (ar : ac.length ≤ aD) (h : r43_may.f k ae ab ac = some r) :
  Calls Try.prog 45 #[.agg #[.string ae, .slice aA ab.length aC, .slice aB ac.length aD]] w fun e w' => e = .returned (.int .i64 r) ∧ Below w.heap.size w w' := by
 have aH := Try.underlying25
 have aj := am av
 have ah := am aq
 clear av aq
 have ak := am aw
 have ai := am ar
 clear aw ar
 have HB := am (Below.refl w.heap.size w)
 have H := h
 unfold r43_may.f at H
 clear h
 replace H := bnd H
 obtain ⟨⟨ax, ay⟩, A2, H⟩ := H
 (try dsimp only at H)
 replace H := ife H
 rcases H with ⟨aF, aG, H⟩ | ⟨aF, aG, H⟩
 rotate_left
 ·obtain rfl := Option.some.inj H
  go_enter Try.func45, Try.ntmps45
  go_wp2_with (first | ((with_reducible refine gate_dst (N := 1) rfl ?_); refine box_ev ?_; intro ap hg aM hbox hb; have aa := am hbox; have ag := gwl hg; have al := ag; replace HB := bsl hb; clear hb hbox hg; have aQ := cf3 aa.1) | ((with_reducible refine gate_callee (f := 19) rfl ?_); refine gC 7 Try.func19 _ (r43_Problems.calls k ae _ _ ab _ _ ac ax ay _ (csb aj HB) ah.1 (csb ak HB) ai.1 A2.1) ?_; rintro e aN ⟨aE, rfl, au, hb⟩; refine ⟨_, rfl, ?_⟩; have af := am (Kd.R_lower au (below_size pbg)); replace aa := bbh aa hb; replace HB := bst hb; (try clear hb); (try clear au)))
  go_ret
  exact ⟨per, pbg⟩
 replace H := bnd H
 obtain ⟨az, A4, H⟩ := H
 (try dsimp only at H)
 cases az
 rotate_left
 ·rw [if_pos rfl] at H
  obtain rfl := Option.some.inj H
  go_enter Try.func45, Try.ntmps45
  go_wp2_with (first | ((with_reducible refine gate_dst (N := 1) rfl ?_); refine box_ev ?_; intro ap hg w6 hbox hb; have aa := am hbox; have ag := gwl hg; have al := ag; replace HB := bsl hb; clear hb hbox hg; have z7 := cf3 aa.1) | ((with_reducible refine gate_callee (f := 19) rfl ?_); refine gC 7 Try.func19 _ (r43_Problems.calls k ae _ _ ab _ _ ac ax ay _ (csb aj HB) ah.1 (csb ak HB) ai.1 A2.1) ?_; rintro e w8 ⟨aE, rfl, au, hb⟩; refine ⟨_, rfl, ?_⟩; have af := am (Kd.R_lower au (below_size pbg)); replace aa := bbh aa hb; replace HB := bst hb; (try clear hb); (try clear au); have z9 := cf3 aa.1) | ((with_reducible refine gate_callee (f := 17) rfl ?_); refine gC 14 Try.func17 _ (r43_Is.calls k ae _ _ ab _ _ ac true _ (csb aj HB) ah.1 (csb ak HB) ai.1 A4.1) ?_; rintro e aI ⟨rfl, hb⟩; refine ⟨_, rfl, ?_⟩; replace af := rbw af hb; replace aa := bbh aa hb; replace HB := bst hb; (try clear hb)))
  go_ret
  exact ⟨per, pbg⟩
 rw [if_neg Bool.false_ne_true] at H
 obtain rfl := Option.some.inj H
 go_enter Try.func45, Try.ntmps45
 go_wp2_with (first | ((with_reducible refine gate_dst (N := 1) rfl ?_); refine box_ev ?_; intro ap hg aJ hbox hb; have aa := am hbox; have ag := gwl hg; have al := ag; replace HB := bsl hb; clear hb hbox hg; have aO := cf3 aa.1) | ((with_reducible refine gate_callee (f := 19) rfl ?_); refine gC 7 Try.func19 _ (r43_Problems.calls k ae _ _ ab _ _ ac ax ay _ (csb aj HB) ah.1 (csb ak HB) ai.1 A2.1) ?_; rintro e aK ⟨aE, rfl, au, hb⟩; refine ⟨_, rfl, ?_⟩; have af := am (Kd.R_lower au (below_size pbg)); replace aa := bbh aa hb; replace HB := bst hb; (try clear hb); (try clear au); have aP := cf3 aa.1) | ((with_reducible refine gate_callee (f := 17) rfl ?_); refine gC 14 Try.func17 _ (r43_Is.calls k ae _ _ ab _ _ ac false _ (csb aj HB) ah.1 (csb ak HB) ai.1 A4.1) ?_; rintro e aL ⟨rfl, hb⟩; refine ⟨_, rfl, ?_⟩; replace af := rbw af hb; replace aa := bbh aa hb; replace HB := bst hb; (try clear hb)))
 go_ret
 exact ⟨per, pbg⟩

/-! ### r43_Prepare: function 22 -/
mutual
def r43_Prepare.l0 : Nat → Int → Int → ByteArray → List (S52) → List (S48) → ByteArray → List (S52) → Option (ByteArray × (List (S52)) × (List (S48)) × Int)
 | 0, _, _, _, _, _, _, _ => none
 | k + 1, x5, x8, a7, aN, aA, aW, aQ => if x8 < (aN.length : Int) then (if x8 = x5 then (if 0 ≤ x8 then (if aQ.length < 4398046511104 then (r43_Prepare.l0 k x5 (wrap64 (x8 + 1)) a7 aN aA aW (aQ ++ [(⟨(rd_T52 aN x8).f0, 1, 0⟩ : S52)])) else (none)) else (none)) else (if 0 ≤ x8 then (if aQ.length < 4398046511104 then (r43_Prepare.l0 k x5 (wrap64 (x8 + 1)) a7 aN aA aW (aQ ++ [(⟨(rd_T52 aN x8).f0, 0, 0⟩ : S52)])) else (none)) else (none))) else (r43_Prepare.l1 k 0 a7 aN aA aW aQ ([] : List (S48)))
def r43_Prepare.l1 : Nat → Int → ByteArray → List (S52) → List (S48) → ByteArray → List (S52) → List (S48) → Option (ByteArray × (List (S52)) × (List (S48)) × Int)
 | 0, _, _, _, _, _, _, _ => none
 | k + 1, x10, a7, aN, aA, aW, aQ, bB => if x10 < (aA.length : Int) then (if 0 ≤ x10 then (if ([] : List (S55)).length + ((rd_T48 aA x10).f1).length < 8796093022208 then (if ([] : List (S55)).length + ((rd_T48 aA x10).f2).length < 8796093022208 then (if bB.length < 1466015503701 then (r43_Prepare.l1 k (wrap64 (x10 + 1)) a7 aN aA aW aQ (bB ++ [(⟨(rd_T48 aA x10).f0, (([] : List (S55)) ++ ((rd_T48 aA x10).f1)), (([] : List (S55)) ++ ((rd_T48 aA x10).f2)), ([] : List (S55)), 0⟩ : S48)])) else (none)) else (none)) else (none)) else (none)) else (some (aW, aQ, bB, 0))
end
def r43_Prepare.f (k : Nat) (ap : ByteArray) (aq : List (S52)) (aj : List (S48)) : Option (ByteArray × (List (S52)) × (List (S48)) × Int) := (r43_may.f k ap aq aj).bind fun cb => (if cb = 0 then ((r43_Source.f k ap aq aj).bind fun dr => (r43_Prepare.l0 k dr.1 0 ap aq aj ap ([] : List (S52)))) else (some ((⟨#[]⟩ : ByteArray), ([] : List (S52)), ([] : List (S48)), cb)))
theorem r43_Prepare.mono_l : ∀ k, M7 r43_Prepare.l0 k ∧ M7 r43_Prepare.l1 k
 | 0 => ⟨fun _ _ _ _ _ _ _ r h => by simp [r43_Prepare.l0] at h, fun _ _ _ _ _ _ _ r h => by simp [r43_Prepare.l1] at h⟩
 | k + 1 => by
  obtain ⟨eF, eG⟩ := r43_Prepare.mono_l k
  refine ⟨?_, ?_⟩ <;> dsimp only [M7] <;> intros <;> (first | unfold r43_Prepare.l0 | unfold r43_Prepare.l1) <;> repeat' first | (with_reducible first | apply eF | apply eG | apply r43_Source.mono | apply r43_may.mono | apply lr | apply ln | apply li | refine lb ?_ fun _ => ?_)
theorem r43_Prepare.mono : ∀ a0 a1 a2 k, LeO (r43_Prepare.f k a0 a1 a2) (r43_Prepare.f (k + 1) a0 a1 a2) := by
 intro a0 a1 a2 k
 obtain ⟨eF, eG⟩ := r43_Prepare.mono_l k
 unfold r43_Prepare.f
 repeat' first | (with_reducible first | apply eF | apply eG | apply r43_Source.mono | apply r43_may.mono | apply lr | apply ln | apply li | refine lb ?_ fun _ => ?_)
def r43_Prepare.T12 : Bool × List (List Nat × List Nat) := (true, [([], []), ([0], [0]), ([], []), ([2], [2]), ([], []), ([3, 4], [3, 4]), ([5], [5]), ([6], [6]), ([], []), ([7, 8], [7, 8]), ([9], [9]), ([1, 10], [1, 10]), ([0, 1, 2, 3, 4, 5, 6, 7, 8, 9, 10, 11], []), ([12, 11, 11, 0, 1, 2, 3, 4, 5, 6, 7, 8, 9, 10, 11], [11, 12])])
def r43_Prepare.B12 : List Nat := [0, 1, 0, 4, 0, 28, 60, 124, 0, 508, 1020, 2047, 4095, 8191]
theorem r43_Prepare.tab12 : rtab .any (opsOf Try.f22 12) = r43_Prepare.T12 := by kernel_rfl
theorem r43_Prepare.bits12 : waitsOk r43_Prepare.T12.2 r43_Prepare.B12 = true := by kernel_rfl
def r43_Prepare.T17 : Bool × List (List Nat × List Nat) := (true, [([], []), ([0], [0]), ([], []), ([2], [2]), ([], []), ([3, 4], [3, 4]), ([5], [5]), ([6], [6]), ([1, 7], [1, 7]), ([0, 1, 2, 3, 4, 5, 6, 7, 8], []), ([9, 8, 8, 0, 1, 2, 3, 4, 5, 6, 7, 8], [8, 9])])
def r43_Prepare.B17 : List Nat := [0, 1, 0, 4, 0, 28, 60, 124, 255, 511, 1023]
theorem r43_Prepare.tab17 : rtab .any (opsOf Try.f22 17) = r43_Prepare.T17 := by kernel_rfl
theorem r43_Prepare.bits17 : waitsOk r43_Prepare.T17.2 r43_Prepare.B17 = true := by kernel_rfl
def r43_Prepare.T18 : Bool × List (List Nat × List Nat) := (true, [([], []), ([0], [0]), ([], []), ([2], [2]), ([], []), ([3, 4], [3, 4]), ([5], [5]), ([6], [6]), ([1, 7], [1, 7]), ([0, 1, 2, 3, 4, 5, 6, 7, 8], []), ([9, 8, 8, 0, 1, 2, 3, 4, 5, 6, 7, 8], [8, 9])])
def r43_Prepare.B18 : List Nat := [0, 1, 0, 4, 0, 28, 60, 124, 255, 511, 1023]
theorem r43_Prepare.tab18 : rtab .any (opsOf Try.f22 18) = r43_Prepare.T18 := by kernel_rfl
theorem r43_Prepare.bits18 : waitsOk r43_Prepare.T18.2 r43_Prepare.B18 = true := by kernel_rfl
set_option maxHeartbeats 8000000 in
set_option maxRecDepth 100000 in
theorem r43_Prepare.calls (k : Nat) (ap : ByteArray) (bA : Option Addr) (bu : Nat) (aq : List (S52)) (b1 : Option Addr) (bv : Nat) (aj : List (S48)) (r1 : ByteArray) (r2 : List (S52)) (r3 : List (S48)) (r4 : Int) (w : World) (cz : Kd.C k52 w bA aq.length aq) (cx : aq.length ≤ bu) (cA : Kd.C k48 w b1 aj.length aj) (cy : aj.length ≤ bv) (h : r43_Prepare.f k ap aq aj = some (r1, r2, r3, r4)) :
  Calls Try.prog 22 #[.agg #[.string ap, .slice bA aq.length bu, .slice b1 aj.length bv]] w fun e w' => ∃ v1_ v2_ : Value, e = .returned (.tuple #[.agg #[.string r1, v1_, v2_], .int .i64 r4]) ∧ Kd.R k52 52 w' w.heap.size (fun _ => True) v1_ r2 ∧ Kd.S k48 48 w' w.heap.size (fun _ => True) v2_ r3 ∧ Below w.heap.size w w' := by
 have fJ := Try.underlying25
 have fL := Try.underlying52
 have fK := Try.underlying48
 have bC := am cz
 have b4 := am cx
 clear cz cx
 have bw := am cA
 have b5 := am cy
 clear cA cy
 have HB := am (Below.refl w.heap.size w)
 have H := h
 unfold r43_Prepare.f at H
 clear h
 replace H := bnd H
 obtain ⟨cb, A2, H⟩ := H
 (try dsimp only at H)
 replace H := ife H
 rcases H with ⟨cI, cJ, H⟩ | ⟨cI, cJ, H⟩
 rotate_left
 ·simp only [Option.some.injEq, Prod.mk.injEq] at H
  obtain ⟨rfl, rfl, rfl, rfl⟩ := H
  go_enter Try.func22, Try.ntmps22
  go_wp2_with (first | ((with_reducible refine gate_dst (N := 1) rfl ?_); refine box_ev ?_; intro aC hg gg hbox hb; have ab := am hbox; have b2 := gwl hg; have cY := b2; replace HB := bsl hb; clear hb hbox hg) | ((with_reducible refine gate_dst (N := 2) rfl ?_); refine box_ev (N := 2) (cs := #[.string (⟨#[]⟩ : ByteArray), .slice none 0 0, .slice none 0 0]) (t := 25) ?_; intro aX hg gh hbox hb; have ah := am hbox; have b3 := gwb hg; have cZ := b3; have ax := nlt hg ab; have ay := ngt hg ab; replace ab := bbh ab hb; replace HB := bst hb; clear hb hbox hg; have fe := ax.1; have fz := ay.1; have gs := cf3 ab.1) | ((with_reducible refine gate_callee (f := 45) rfl ?_); refine gC 13 Try.func45 _ (r43_may.calls k ap _ _ aq _ _ aj cb _ (csb bC HB) b4.1 (csb bw HB) b5.1 A2.1) ?_; rintro e gi ⟨rfl, hb⟩; refine ⟨_, rfl, ?_⟩; replace ab := bbh ab hb; replace ah := bbh ah hb; replace HB := bst hb; (try clear hb); have gu := cf3 ah.1))
  refine bodyPost_ret (results_ct rfl _ _ aX 25 #[.string (⟨#[]⟩ : ByteArray), .slice none 0 0, .slice none 0 0] (0, 0) _ rfl (by (with_reducible repeat (first | refine blk_drewN ?_ _ | refine blk_drew ?_ | refine blk_alloc ?_ _)); exact bp3 (pbk ah.1)) Try.underlying25 rfl (by kernel_rfl)) rfl ?_
  exact ⟨_, _, per, knl, knl, pbg⟩
 replace H := bnd H
 obtain ⟨⟨co, eH⟩, A4, H⟩ := H
 (try dsimp only at H)
 have H' := am H
 clear H
 go_enter Try.func22, Try.ntmps22
 go_wp2_with (first | ((with_reducible refine gate_dst (N := 1) rfl ?_); refine box_ev ?_; intro aC hg w5 hbox hb; have ab := am hbox; have b2 := gwl hg; have cY := b2; replace HB := bsl hb; clear hb hbox hg) | ((with_reducible refine gate_dst (N := 2) rfl ?_); refine box_ev (N := 2) (cs := #[.string (⟨#[]⟩ : ByteArray), .slice none 0 0, .slice none 0 0]) (t := 25) ?_; intro aX hg w6 hbox hb; have ah := am hbox; have b3 := gwb hg; have cZ := b3; have ax := nlt hg ab; have ay := ngt hg ab; replace ab := bbh ab hb; replace HB := bst hb; clear hb hbox hg; have fD := ax.1; have fE := ay.1; have z8 := cf3 ab.1) | ((with_reducible refine gate_callee (f := 45) rfl ?_); refine gC 13 Try.func45 _ (r43_may.calls k ap _ _ aq _ _ aj cb _ (csb bC HB) b4.1 (csb bw HB) b5.1 A2.1) ?_; rintro e w9 ⟨rfl, hb⟩; refine ⟨_, rfl, ?_⟩; replace ab := bbh ab hb; replace ah := bbh ah hb; replace HB := bst hb; (try clear hb); have fA := cf3 ab.1) | ((with_reducible refine gate_callee (f := 13) rfl ?_); refine gC 20 Try.func13 _ (r43_Source.calls k ap _ _ aq _ _ aj co eH _ (csb bC HB) b4.1 (csb bw HB) b5.1 A4.1) ?_; rintro e f7 ⟨rfl, hb⟩; refine ⟨_, rfl, ?_⟩; replace ab := bbh ab hb; replace ah := bbh ah hb; replace HB := bst hb; (try clear hb); have fB := cf3 ab.1) | ((with_reducible refine gate_dst (N := 7) rfl ?_); refine box_ev (N := 7) (cs := #[.string (⟨#[]⟩ : ByteArray), .slice none 0 0, .slice none 0 0]) (t := 25) ?_; intro aH hg f8 hbox hb; have af := am hbox; have da := gwb hg; have eI := da; have ao := nlt hg ab; have az := ngt hg ab; have av := nlt hg ah; have aV := ngt hg ah; replace ab := bbh ab hb; replace ah := bbh ah hb; replace HB := bst hb; clear hb hbox hg; have eU := az.1; have ff := ao.1; have eV := aV.1; have fg := av.1; have fC := cf3 af.1))
 go_loopg [8] k (fun kq v8 w' => ∃ (au : Int) (ak : List (S52)) (u622001 : Value), v8 = .int .i64 au ∧ Aside0 (r43_Prepare.l0 kq co au ap aq aj ap ak = some (r1, r2, r3, r4)) ∧ Aside0 (kq ≤ k) ∧ Aside0 (Kd.R k52 52 w' w.heap.size (fun _ => True) u622001 ak) ∧ Aside0 (w'.heap[aC]? = some (.cells #[.string ap, (.slice bA aq.length bu), (.slice b1 aj.length bv)] 25 (0, 0))) ∧ Aside0 (w'.heap[aX]? = some (.cells #[.string (⟨#[]⟩ : ByteArray), (.slice none 0 0), (.slice none 0 0)] 25 (0, 0))) ∧ Aside0 (w'.heap[aH]? = some (.cells #[.string ap, u622001, (.slice none 0 0)] 25 (0, 0))) ∧ Aside0 (Below w.heap.size w w'))
 case atStart => exact ⟨(0), (([] : List (S52))), (.slice none 0 0), prs, H', ⟨Nat.le_refl _⟩, ⟨knl⟩, ⟨by (with_reducible repeat (first | refine blk_drewN ?_ _ | refine blk_drew ?_ | refine blk_alloc ?_ _)); refine bf3 ?_ ao.1; exact pbk ab.1⟩, ⟨by (with_reducible repeat (first | refine blk_drewN ?_ _ | refine blk_drew ?_ | refine blk_alloc ?_ _)); refine bf3 ?_ av.1; exact pbk ah.1⟩, ⟨by (with_reducible repeat (first | refine blk_drewN ?_ _ | refine blk_drew ?_ | refine blk_alloc ?_ _)); exact bp3 (pbk af.1)⟩, ⟨pbg⟩⟩
 clear H'
 try clear cI cJ fA fB fC z8
 obtain ⟨au, ak, u622001, rfl, HA, cX, aa, ab, ah, af, HB⟩ := hrel
 obtain _ | k1 := gk
 ·exact absurd HA.1 (by simp [r43_Prepare.l0])
 have H := HA.1
 clear HA
 simp only [r43_Prepare.l0] at H
 replace H := ifl H
 rcases H with ⟨cu, H⟩ | ⟨cu, H⟩
 ·replace H := ife H
  rcases H with ⟨cv, cw, H⟩ | ⟨cv, cw, H⟩
  rotate_left
  ·replace H := ifp H
   obtain ⟨en, H⟩ := H
   have du := decide_eq_true en
   clear en
   replace H := ifp H
   obtain ⟨eo, H⟩ := H
   have de := am eo
   clear eo
   obtain ⟨cV, b7⟩ : ∃ y_ : List (S52), y_ = (ak ++ [(⟨(rd_T52 aq au).f0, 0, 0⟩ : S52)]) := ⟨_, rfl⟩
   replace H : (r43_Prepare.l0 k1 co (wrap64 (au + 1)) ap aq aj ap cV) = some (r1, r2, r3, r4) := hrp b7 H
   have dj := am b7
   clear b7
   have H' := am H
   clear H
   have eY := ax.1
   have fj := ay.1
   have eZ := ao.1
   have fk := az.1
   have fZ := cf3 ab.1
   try go_wp2
   replace aa := am (Kd.R_drew aa.1)
   replace ab := am (blk_drew ab.1)
   replace ah := am (blk_drew ah.1)
   replace af := am (blk_drew af.1)
   replace HB := am (below_drew1 HB.1)
   have ck : 0 ≤ (au : Int) := dq
   have cn : au < (aq.length : Int) := dq
   obtain ⟨bz, ey, a4, a5, a6⟩ := at_T52 bC.1 au ck cn
   have bh := a6
   have bg := a5
   have bf := a4
   cases ey
   replace a4 := cbl HB.1 a4
   replace a5 := cbl HB.1 a5
   replace a6 := cbl HB.1 a6
   replace ck := eq_true ck
   replace cn := eq_true cn
   refine start_ (n := 14) (S := fun w' => w'.cell? ⟨aH, 0, none⟩ = some (.string ap) ∧ w'.cell? ⟨aH, 1, none⟩ = some (u622001) ∧ w'.cell? ⟨aH, 2, none⟩ = some (.slice none 0 0) ∧ w'.cell? ⟨aC, 0, none⟩ = some (.string ap) ∧ w'.cell? ⟨aC, 1, none⟩ = some (.slice (some bz) aq.length bu) ∧ w'.cell? ⟨aC, 2, none⟩ = some (.slice b1 aj.length bv) ∧ w'.cell? (bz.add ((au).toNat * 3)) = some (.string ((rd_T52 aq au).f0)) ∧ w'.cell? ⟨(bz.add ((au).toNat * 3)).block, (bz.add ((au).toNat * 3)).off + 1, none⟩ = some (.int .i64 ((rd_T52 aq au).f1)) ∧ w'.cell? ⟨(bz.add ((au).toNat * 3)).block, (bz.add ((au).toNat * 3)).off + 2, none⟩ = some (.int .i64 ((rd_T52 aq au).f2))) (ds := [13]) #[false, false, false, false, false, false, false, false, false, false, false, false, false, false] (by kernel_rfl) rfl rfl ⟨(blk_cell af.1 0).trans rfl, (blk_cell af.1 1).trans rfl, (blk_cell af.1 2).trans rfl, (blk_cell ab.1 0).trans rfl, (blk_cell ab.1 1).trans rfl, (blk_cell ab.1 2).trans rfl, (cbl HB.1 bf), (cbl HB.1 bg), (cbl HB.1 bh)⟩ (fun hHeld => ?_); refine with_tabW r43_Prepare.tab12 r43_Prepare.bits12 (fun HT_ HW_ => ?_)
   generalize wr.drew = ga at aa ab ah af HB a4 a5 a6 hHeld ⊢
   refine pu HT_.1 0 36 ?_
   refine pu HT_.1 2 38 ?_
   refine pu HT_.1 4 40 ?_
   refine pu HT_.1 8 44 ?_
   refine tk HT_.1 HW_.1 hHeld 1 37 ?_
   refine tk HT_.1 HW_.1 hHeld 3 39 ?_
   refine pu HT_.1 5 41 ?_
   refine pu HT_.1 6 42 ?_
   refine tk HT_.1 HW_.1 hHeld 7 43 ?_
   refine pu HT_.1 9 45 ?_
   refine on HT_.1 10 (some 46) rfl fun K hK => ?_
   refine value_ (w1 := ?_) (v := ?_) (by rfl) rfl ?_ ?_
   rotate_left 2
   ·go_simp
    constructor
    ·rfl
    ·rfl
   refine hK.out _ _ ⟨(blk_cell (blk_alloc af.1 _) 0).trans rfl, (blk_cell (blk_alloc af.1 _) 1).trans rfl, (blk_cell (blk_alloc af.1 _) 2).trans rfl, (blk_cell (blk_alloc ab.1 _) 0).trans rfl, (blk_cell (blk_alloc ab.1 _) 1).trans rfl, (blk_cell (blk_alloc ab.1 _) 2).trans rfl, (World.cell?_alloc_lt _ _ _ (World.block_lt_of_cell? _ _ ((cbl HB.1 bf)))).trans ((cbl HB.1 bf)), (World.cell?_alloc_lt _ _ _ (World.block_lt_of_cell? _ _ ((cbl HB.1 bg)))).trans ((cbl HB.1 bg)), (World.cell?_alloc_lt _ _ _ (World.block_lt_of_cell? _ _ ((cbl HB.1 bh)))).trans ((cbl HB.1 bh))⟩ (fun hHeld => ?_)
   clear hK K
   refine nm_ 46 ?_
   refine on HT_.1 11 (some 47) rfl fun K hK => ?_
   refine Kd.R_append_step k52 (w0 := w) w.heap.size (by rfl) (.tmp 37) (.tmp 46) 22 52 (.agg #[(.string ⟨#[]⟩), (.int .i64 0), (.int .i64 0)]) 32 rfl Try.underlying22 info52 rfl (by decide) (by omega) u622001 ak (⟨(rd_T52 aq au).f0, 0, 0⟩ : S52) [.string ((rd_T52 aq au).f0), .int .i64 0, .int .i64 0] (fun _ => True) (fun _ => False) rfl rfl ?aP (fun _ hk => hk.elim) ?aF ?aO ?aB ?aS ?aL ?_
   (case aP => exact k52_mkM _ _ _ (⟨(rd_T52 aq au).f0, 0, 0⟩ : S52))
   (case aB => exact pbg)
   (case aF => exact (fun _ _ => trivial))
   (case aO => exact (pkr aa.1))
   (case aS => exact (below_size pbg))
   (case aL => have := de.1; omega)
   intro fQ fV ho hb hg hat
   rw [← dj.1] at ho
   have n0_ := (bgr ab hg (Kd.R_ne aa.1 ab.1 (by decide)))
   have n1_ := (bgr ah hg (Kd.R_ne aa.1 ah.1 (by decide)))
   have n2_ := (bgr af hg (Kd.R_ne aa.1 af.1 (by decide)))
   have n3_ := am hb
   have n4_ := am ho
   clear ab ah af HB aa
   have ab := n0_
   have ah := n1_
   have af := n2_
   have HB := n3_
   have cq := n4_
   clear n0_ n1_ n2_ n3_ n4_ ho hb hg hat
   obtain ⟨eh, et, dx⟩ := Kd.R_slice cq.1
   (first | subst dx | (injection dx with f1_ f2_ f3_; have f4_ := f1_.symm; have f5_ := f3_.symm; clear f1_ f2_ f3_; subst f4_; subst f5_))
   refine hK.out _ _ ⟨(blk_cell af.1 0).trans rfl, (blk_cell af.1 1).trans rfl, (blk_cell af.1 2).trans rfl, (blk_cell ab.1 0).trans rfl, (blk_cell ab.1 1).trans rfl, (blk_cell ab.1 2).trans rfl, (cbl HB.1 bf), (cbl HB.1 bg), (cbl HB.1 bh)⟩ (fun hHeld => ?_)
   clear hK K
   refine nm_ 47 ?_
   refine pu HT_.1 12 48 ?_
   refine la HT_.1 13 none rfl fun K hK => ?_
   have fG : fV.cell? ⟨aH, 1, none⟩ = some (u622001) := (blk_cell af.1 1).trans rfl
   have eR := blk_frozen af.1 1
   have dZ := ao.1
   have d0 := av.1
   have dO := az.1
   have dP := aV.1
   refine skip_ (w1 := ?_) (by rfl) rfl ?_ ?_
   rotate_left
   ·go_simp
    rfl
   refine hK.out _ _ ?_
   clear hK K
   refine done_ (done_of HT_.1 (by kernel_rfl)) ?_
   try go_wp2
   go_roundg k1
   case measure => have := cX.1; omega
   case rel => exact ⟨(wrap64 (au + 1)), (cV), (.slice eh cV.length et), prs, H', ⟨by have := cX.1; omega⟩, ⟨by (with_reducible repeat (first | apply Kd.R_alloc | apply Kd.R_drewN | apply Kd.R_drew)); exact Kd.R_mono (Kd.R_far (p := ⟨aH, 1, none⟩) (Kd.R_types cq.1 af.1 (by decide)) (fun _ hk => hk.2) _) (fun _ hk => trivial)⟩, ⟨by (with_reducible repeat (first | refine blk_drewN ?_ _ | refine blk_drew ?_ | refine blk_alloc ?_ _)); refine blk_far ?_ ao.1 _; exact pbk ab.1⟩, ⟨by (with_reducible repeat (first | refine blk_drewN ?_ _ | refine blk_drew ?_ | refine blk_alloc ?_ _)); refine blk_far ?_ av.1 _; exact pbk ah.1⟩, ⟨by (with_reducible repeat (first | refine blk_drewN ?_ _ | refine blk_drew ?_ | refine blk_alloc ?_ _)); refine blk_put (cs := #[.string ap, u622001, .slice none 0 0]) ?_ 1 _ rfl; exact pbk af.1⟩, ⟨pbg⟩⟩
  replace H := ifp H
  obtain ⟨el, H⟩ := H
  have dt := decide_eq_true el
  clear el
  replace H := ifp H
  obtain ⟨em, H⟩ := H
  have dc := am em
  clear em
  obtain ⟨cU, b6⟩ : ∃ y_ : List (S52), y_ = (ak ++ [(⟨(rd_T52 aq au).f0, 1, 0⟩ : S52)]) := ⟨_, rfl⟩
  replace H : (r43_Prepare.l0 k1 co (wrap64 (au + 1)) ap aq aj ap cU) = some (r1, r2, r3, r4) := hrp b6 H
  have di := am b6
  clear b6
  have H' := am H
  clear H
  have eW := ax.1
  have fh := ay.1
  have eX := ao.1
  have fi := az.1
  have fY := cf3 ab.1
  try go_wp2
  replace aa := am (Kd.R_drew aa.1)
  replace ab := am (blk_drew ab.1)
  replace ah := am (blk_drew ah.1)
  replace af := am (blk_drew af.1)
  replace HB := am (below_drew1 HB.1)
  have cj : 0 ≤ (au : Int) := dq
  have cm : au < (aq.length : Int) := dq
  obtain ⟨bx, ex, aY, aZ, a3⟩ := at_T52 bC.1 au cj cm
  have bd := a3
  have bc := aZ
  have bb := aY
  cases ex
  replace aY := cbl HB.1 aY
  replace aZ := cbl HB.1 aZ
  replace a3 := cbl HB.1 a3
  replace cj := eq_true cj
  replace cm := eq_true cm
  refine start_ (n := 14) (S := fun w' => w'.cell? ⟨aH, 0, none⟩ = some (.string ap) ∧ w'.cell? ⟨aH, 1, none⟩ = some (u622001) ∧ w'.cell? ⟨aH, 2, none⟩ = some (.slice none 0 0) ∧ w'.cell? ⟨aC, 0, none⟩ = some (.string ap) ∧ w'.cell? ⟨aC, 1, none⟩ = some (.slice (some bx) aq.length bu) ∧ w'.cell? ⟨aC, 2, none⟩ = some (.slice b1 aj.length bv) ∧ w'.cell? (bx.add ((au).toNat * 3)) = some (.string ((rd_T52 aq au).f0)) ∧ w'.cell? ⟨(bx.add ((au).toNat * 3)).block, (bx.add ((au).toNat * 3)).off + 1, none⟩ = some (.int .i64 ((rd_T52 aq au).f1)) ∧ w'.cell? ⟨(bx.add ((au).toNat * 3)).block, (bx.add ((au).toNat * 3)).off + 2, none⟩ = some (.int .i64 ((rd_T52 aq au).f2))) (ds := [13]) #[false, false, false, false, false, false, false, false, false, false, false, false, false, false] (by kernel_rfl) rfl rfl ⟨(blk_cell af.1 0).trans rfl, (blk_cell af.1 1).trans rfl, (blk_cell af.1 2).trans rfl, (blk_cell ab.1 0).trans rfl, (blk_cell ab.1 1).trans rfl, (blk_cell ab.1 2).trans rfl, (cbl HB.1 bb), (cbl HB.1 bc), (cbl HB.1 bd)⟩ (fun hHeld => ?_); refine with_tabW r43_Prepare.tab12 r43_Prepare.bits12 (fun HT_ HW_ => ?_)
  generalize wr.drew = f9 at aa ab ah af HB aY aZ a3 hHeld ⊢
  refine pu HT_.1 0 36 ?_
  refine pu HT_.1 2 38 ?_
  refine pu HT_.1 4 40 ?_
  refine pu HT_.1 8 44 ?_
  refine tk HT_.1 HW_.1 hHeld 1 37 ?_
  refine tk HT_.1 HW_.1 hHeld 3 39 ?_
  refine pu HT_.1 5 41 ?_
  refine pu HT_.1 6 42 ?_
  refine tk HT_.1 HW_.1 hHeld 7 43 ?_
  refine pu HT_.1 9 45 ?_
  refine on HT_.1 10 (some 46) rfl fun K hK => ?_
  refine value_ (w1 := ?_) (v := ?_) (by rfl) rfl ?_ ?_
  rotate_left 2
  ·go_simp
   constructor
   ·rfl
   ·rfl
  refine hK.out _ _ ⟨(blk_cell (blk_alloc af.1 _) 0).trans rfl, (blk_cell (blk_alloc af.1 _) 1).trans rfl, (blk_cell (blk_alloc af.1 _) 2).trans rfl, (blk_cell (blk_alloc ab.1 _) 0).trans rfl, (blk_cell (blk_alloc ab.1 _) 1).trans rfl, (blk_cell (blk_alloc ab.1 _) 2).trans rfl, (World.cell?_alloc_lt _ _ _ (World.block_lt_of_cell? _ _ ((cbl HB.1 bb)))).trans ((cbl HB.1 bb)), (World.cell?_alloc_lt _ _ _ (World.block_lt_of_cell? _ _ ((cbl HB.1 bc)))).trans ((cbl HB.1 bc)), (World.cell?_alloc_lt _ _ _ (World.block_lt_of_cell? _ _ ((cbl HB.1 bd)))).trans ((cbl HB.1 bd))⟩ (fun hHeld => ?_)
  clear hK K
  refine nm_ 46 ?_
  refine on HT_.1 11 (some 47) rfl fun K hK => ?_
  refine Kd.R_append_step k52 (w0 := w) w.heap.size (by rfl) (.tmp 37) (.tmp 46) 22 52 (.agg #[(.string ⟨#[]⟩), (.int .i64 0), (.int .i64 0)]) 32 rfl Try.underlying22 info52 rfl (by decide) (by omega) u622001 ak (⟨(rd_T52 aq au).f0, 1, 0⟩ : S52) [.string ((rd_T52 aq au).f0), .int .i64 1, .int .i64 0] (fun _ => True) (fun _ => False) rfl rfl ?aP (fun _ hk => hk.elim) ?aF ?aO ?aB ?aS ?aL ?_
  (case aP => exact k52_mkM _ _ _ (⟨(rd_T52 aq au).f0, 1, 0⟩ : S52))
  (case aB => exact pbg)
  (case aF => exact (fun _ _ => trivial))
  (case aO => exact (pkr aa.1))
  (case aS => exact (below_size pbg))
  (case aL => have := dc.1; omega)
  intro fP fU ho hb hg hat
  rw [← di.1] at ho
  have n0_ := (bgr ab hg (Kd.R_ne aa.1 ab.1 (by decide)))
  have n1_ := (bgr ah hg (Kd.R_ne aa.1 ah.1 (by decide)))
  have n2_ := (bgr af hg (Kd.R_ne aa.1 af.1 (by decide)))
  have n3_ := am hb
  have n4_ := am ho
  clear ab ah af HB aa
  have ab := n0_
  have ah := n1_
  have af := n2_
  have HB := n3_
  have cp := n4_
  clear n0_ n1_ n2_ n3_ n4_ ho hb hg hat
  obtain ⟨eg, es, dw⟩ := Kd.R_slice cp.1
  (first | subst dw | (injection dw with f1_ f2_ f3_; have f4_ := f1_.symm; have f5_ := f3_.symm; clear f1_ f2_ f3_; subst f4_; subst f5_))
  refine hK.out _ _ ⟨(blk_cell af.1 0).trans rfl, (blk_cell af.1 1).trans rfl, (blk_cell af.1 2).trans rfl, (blk_cell ab.1 0).trans rfl, (blk_cell ab.1 1).trans rfl, (blk_cell ab.1 2).trans rfl, (cbl HB.1 bb), (cbl HB.1 bc), (cbl HB.1 bd)⟩ (fun hHeld => ?_)
  clear hK K
  refine nm_ 47 ?_
  refine pu HT_.1 12 48 ?_
  refine la HT_.1 13 none rfl fun K hK => ?_
  have fF : fU.cell? ⟨aH, 1, none⟩ = some (u622001) := (blk_cell af.1 1).trans rfl
  have eQ := blk_frozen af.1 1
  have dX := ao.1
  have dY := av.1
  have dM := az.1
  have dN := aV.1
  refine skip_ (w1 := ?_) (by rfl) rfl ?_ ?_
  rotate_left
  ·go_simp
   rfl
  refine hK.out _ _ ?_
  clear hK K
  refine done_ (done_of HT_.1 (by kernel_rfl)) ?_
  try go_wp2
  go_roundg k1
  case measure => have := cX.1; omega
  case rel => exact ⟨(wrap64 (au + 1)), (cU), (.slice eg cU.length es), prs, H', ⟨by have := cX.1; omega⟩, ⟨by (with_reducible repeat (first | apply Kd.R_alloc | apply Kd.R_drewN | apply Kd.R_drew)); exact Kd.R_mono (Kd.R_far (p := ⟨aH, 1, none⟩) (Kd.R_types cp.1 af.1 (by decide)) (fun _ hk => hk.2) _) (fun _ hk => trivial)⟩, ⟨by (with_reducible repeat (first | refine blk_drewN ?_ _ | refine blk_drew ?_ | refine blk_alloc ?_ _)); refine blk_far ?_ ao.1 _; exact pbk ab.1⟩, ⟨by (with_reducible repeat (first | refine blk_drewN ?_ _ | refine blk_drew ?_ | refine blk_alloc ?_ _)); refine blk_far ?_ av.1 _; exact pbk ah.1⟩, ⟨by (with_reducible repeat (first | refine blk_drewN ?_ _ | refine blk_drew ?_ | refine blk_alloc ?_ _)); refine blk_put (cs := #[.string ap, u622001, .slice none 0 0]) ?_ 1 _ rfl; exact pbk af.1⟩, ⟨pbg⟩⟩
 have H' := am H
 clear H
 have e0 := ax.1
 have fl := ay.1
 have e4 := ao.1
 have fm := az.1
 have f5 := cf3 ab.1
 go_wp2
 go_loopg [10] k1 (fun kq fO w' => ∃ (ag : Int) (al : List (S48)) (u622002 : Value), fO = .int .i64 ag ∧ Aside0 (r43_Prepare.l1 kq ag ap aq aj ap ak al = some (r1, r2, r3, r4)) ∧ Aside0 (kq ≤ k1) ∧ Aside0 (Kd.R k52 52 w' w.heap.size (fun _ => True) u622001 ak) ∧ Aside0 (Kd.S k48 48 w' w.heap.size (fun _ => True) u622002 al) ∧ Aside0 (w'.heap[aC]? = some (.cells #[.string ap, (.slice bA aq.length bu), (.slice b1 aj.length bv)] 25 (0, 0))) ∧ Aside0 (w'.heap[aX]? = some (.cells #[.string (⟨#[]⟩ : ByteArray), (.slice none 0 0), (.slice none 0 0)] 25 (0, 0))) ∧ Aside0 (w'.heap[aH]? = some (.cells #[.string ap, u622001, u622002] 25 (0, 0))) ∧ Aside0 (Below w.heap.size w w'))
 case atStart => exact ⟨(0), (([] : List (S48))), (.slice none 0 0), prs, H', ⟨Nat.le_refl _⟩, ⟨pkr aa.1⟩, ⟨knl⟩, ⟨pbk ab.1⟩, ⟨pbk ah.1⟩, ⟨pbk af.1⟩, ⟨pbg⟩⟩
 clear H'
 try clear c3 cI cJ cu f6 cv cw el dt em en du eo fA fB fC fY fZ f5 z8 aY aZ a3 a4 a5 a6 cj ck cm cn
 obtain ⟨ag, al, u622002, rfl, HA, eK, aa, ae, ab, ah, af, HB⟩ := hrel
 obtain _ | k2 := gk
 ·exact absurd HA.1 (by simp [r43_Prepare.l1])
 have H := HA.1
 clear HA
 simp only [r43_Prepare.l1] at H
 replace H := ifl H
 rcases H with ⟨dv, H⟩ | ⟨dv, H⟩
 rotate_left
 ·simp only [Option.some.injEq, Prod.mk.injEq] at H
  obtain ⟨rfl, rfl, rfl, rfl⟩ := H
  have fb := ax.1
  have fw := ay.1
  have fc := ao.1
  have fx := az.1
  have gp := cf3 ab.1
  have fd := aV.1
  have fy := av.1
  have gq := cf3 af.1
  have gr := cf3 ah.1
  obtain ⟨ej, ev, eD⟩ := Kd.R_slice aa.1
  subst eD
  obtain ⟨ek, ew, eE⟩ := Kd.S_slice ae.1
  subst eE
  go_wp2
  refine bodyPost_ret (results_ct rfl _ _ aX 25 #[.string ap, .slice ej ak.length ev, .slice ek al.length ew] (0, 0) _ rfl (by (with_reducible repeat (first | refine blk_drewN ?_ _ | refine blk_drew ?_ | refine blk_alloc ?_ _)); exact bp3 (pbk ah.1)) Try.underlying25 rfl (by kernel_rfl)) rfl ?_
  exact ⟨_, _, per, by (with_reducible repeat (first | apply Kd.R_alloc | apply Kd.R_drewN | apply Kd.R_drew)); exact Kd.R_mono (fR3 aX (Kd.R_types aa.1 ah.1 (by decide)) (fun _ hk => hk.2)) (fun _ hk => trivial), by (with_reducible repeat (first | apply Kd.S_alloc | apply Kd.S_drewN | apply Kd.S_drew)); exact Kd.S_mono (fS3 aX (Kd.S_types ae.1 ah.1 (by decide)) (fun _ hk => hk.2)) (fun _ hk => trivial), pbg⟩
 replace H := ifp H
 obtain ⟨eL, H⟩ := H
 have eM := decide_eq_true eL
 clear eL
 replace H := ifp H
 obtain ⟨eN, H⟩ := H
 have df := am eN
 clear eN
 obtain ⟨aw, b8⟩ : ∃ y_ : List (S55), y_ = (([] : List (S55)) ++ ((rd_T48 aj ag).f1)) := ⟨_, rfl⟩
 replace H : (if ([] : List (S55)).length + ((rd_T48 aj ag).f2).length < 8796093022208 then (if al.length < 1466015503701 then (r43_Prepare.l1 k2 (wrap64 (ag + 1)) ap aq aj ap ak (al ++ [(⟨(rd_T48 aj ag).f0, aw, (([] : List (S55)) ++ ((rd_T48 aj ag).f2)), ([] : List (S55)), 0⟩ : S48)])) else (none)) else (none)) = some (r1, r2, r3, r4) := hrp b8 H
 have dk := am b8
 clear b8
 replace H := ifp H
 obtain ⟨eO, H⟩ := H
 have dg := am eO
 clear eO
 obtain ⟨aI, b9⟩ : ∃ y_ : List (S55), y_ = (([] : List (S55)) ++ ((rd_T48 aj ag).f2)) := ⟨_, rfl⟩
 replace H : (if al.length < 1466015503701 then (r43_Prepare.l1 k2 (wrap64 (ag + 1)) ap aq aj ap ak (al ++ [(⟨(rd_T48 aj ag).f0, aw, aI, ([] : List (S55)), 0⟩ : S48)])) else (none)) = some (r1, r2, r3, r4) := hrp b9 H
 have dl := am b9
 clear b9
 replace H := ifp H
 obtain ⟨eP, H⟩ := H
 have dh := am eP
 clear eP
 obtain ⟨cW, ca⟩ : ∃ y_ : List (S48), y_ = (al ++ [(⟨(rd_T48 aj ag).f0, aw, aI, ([] : List (S55)), 0⟩ : S48)]) := ⟨_, rfl⟩
 replace H : (r43_Prepare.l1 k2 (wrap64 (ag + 1)) ap aq aj ap ak cW) = some (r1, r2, r3, r4) := hrp ca H
 have dm := am ca
 clear ca
 have H' := am H
 clear H
 have e5 := ax.1
 have fo := ay.1
 have e6 := ao.1
 have fp := az.1
 have gj := cf3 ab.1
 obtain ⟨fM, fN, ar, ed, ep, ee, eq, ef, er, ez, d7, d8, d9, ea, ec, dA, dJ, dB, dK, dC, dL⟩ := bT48 bw.1 HB.1 ag
 cases ez
 try go_wp2_with (first | ((with_reducible refine gate_dst (N := 11) rfl ?_); refine box_ev (N := 11) (cs := #[.string (⟨#[]⟩ : ByteArray), .slice none 0 0, .slice none 0 0, .slice none 0 0, .int .i64 0]) (t := 48) ?_; intro ac hg cB hbox hb; have ai := am hbox; have db := gwb hg; have eJ := db; have aJ := nlt hg ab; have a8 := ngt hg ab; have aK := nlt hg ah; have a9 := ngt hg ah; have aM := nlt hg af; have ba := ngt hg af; replace aa := rbw aa hb; replace ae := am (Kd.S_below (Kd.S_elderB (pks ae.1) ac (Nat.le_of_eq hg.symm)) hb); replace ab := bbh ab hb; replace ah := bbh ah hb; replace af := bbh af hb; replace HB := bst hb; clear hb hbox hg; have e7 := a8.1; have fq := aJ.1; have e8 := a9.1; have ft := aK.1; have e9 := ba.1; have fu := aM.1; have z52 := cf5 ai.1))
 have n0_ : Aside0 (Kd.R k52 52 (((((cB.setCell ⟨ac, 0, none⟩ (.string ((rd_T48 aj ag).f0))).setCell ⟨ac, 1, none⟩ (.slice none 0 0)).setCell ⟨ac, 2, none⟩ (.slice none 0 0)).setCell ⟨ac, 3, none⟩ (.slice none 0 0)).setCell ⟨ac, 4, none⟩ (.int .i64 0)) w.heap.size (fun _ => True) u622001 ak) := ⟨by (with_reducible repeat (first | apply Kd.R_alloc | apply Kd.R_drewN | apply Kd.R_drew)); exact Kd.R_mono (fR5 ac (Kd.R_types aa.1 ai.1 (by decide)) (fun _ hk => hk.2)) (fun _ hk => trivial)⟩
 have n1_ : Aside0 (Kd.S k48 48 (((((cB.setCell ⟨ac, 0, none⟩ (.string ((rd_T48 aj ag).f0))).setCell ⟨ac, 1, none⟩ (.slice none 0 0)).setCell ⟨ac, 2, none⟩ (.slice none 0 0)).setCell ⟨ac, 3, none⟩ (.slice none 0 0)).setCell ⟨ac, 4, none⟩ (.int .i64 0)) w.heap.size (fun k_ => k_ ≠ ac) u622002 al) := ⟨by (with_reducible repeat (first | apply Kd.S_alloc | apply Kd.S_drewN | apply Kd.S_drew)); exact Kd.S_mono (fS5 ac (Kd.S_mono ae.1 (fun k_ hk => (⟨hk, hk.2⟩ : _ ∧ k_ ≠ ac))) (fun _ hk => hk.2)) (fun _ hk => hk.1.2)⟩
 have n2_ : Aside0 ((((((cB.setCell ⟨ac, 0, none⟩ (.string ((rd_T48 aj ag).f0))).setCell ⟨ac, 1, none⟩ (.slice none 0 0)).setCell ⟨ac, 2, none⟩ (.slice none 0 0)).setCell ⟨ac, 3, none⟩ (.slice none 0 0)).setCell ⟨ac, 4, none⟩ (.int .i64 0)).heap[aC]? = some (.cells #[.string ap, .slice bA aq.length bu, .slice (some ar) aj.length bv] 25 (0, 0))) := ⟨by (with_reducible repeat (first | refine blk_drewN ?_ _ | refine blk_drew ?_ | refine blk_alloc ?_ _)); refine bf5 ?_ aJ.1; exact pbk ab.1⟩
 have n3_ : Aside0 ((((((cB.setCell ⟨ac, 0, none⟩ (.string ((rd_T48 aj ag).f0))).setCell ⟨ac, 1, none⟩ (.slice none 0 0)).setCell ⟨ac, 2, none⟩ (.slice none 0 0)).setCell ⟨ac, 3, none⟩ (.slice none 0 0)).setCell ⟨ac, 4, none⟩ (.int .i64 0)).heap[aX]? = some (.cells #[.string (⟨#[]⟩ : ByteArray), .slice none 0 0, .slice none 0 0] 25 (0, 0))) := ⟨by (with_reducible repeat (first | refine blk_drewN ?_ _ | refine blk_drew ?_ | refine blk_alloc ?_ _)); refine bf5 ?_ aK.1; exact pbk ah.1⟩
 have n4_ : Aside0 ((((((cB.setCell ⟨ac, 0, none⟩ (.string ((rd_T48 aj ag).f0))).setCell ⟨ac, 1, none⟩ (.slice none 0 0)).setCell ⟨ac, 2, none⟩ (.slice none 0 0)).setCell ⟨ac, 3, none⟩ (.slice none 0 0)).setCell ⟨ac, 4, none⟩ (.int .i64 0)).heap[aH]? = some (.cells #[.string ap, u622001, u622002] 25 (0, 0))) := ⟨by (with_reducible repeat (first | refine blk_drewN ?_ _ | refine blk_drew ?_ | refine blk_alloc ?_ _)); refine bf5 ?_ aM.1; exact pbk af.1⟩
 have n5_ : Aside0 ((((((cB.setCell ⟨ac, 0, none⟩ (.string ((rd_T48 aj ag).f0))).setCell ⟨ac, 1, none⟩ (.slice none 0 0)).setCell ⟨ac, 2, none⟩ (.slice none 0 0)).setCell ⟨ac, 3, none⟩ (.slice none 0 0)).setCell ⟨ac, 4, none⟩ (.int .i64 0)).heap[ac]? = some (.cells #[.string ((rd_T48 aj ag).f0), .slice none 0 0, .slice none 0 0, .slice none 0 0, .int .i64 0] 48 (0, 0))) := ⟨by (with_reducible repeat (first | refine blk_drewN ?_ _ | refine blk_drew ?_ | refine blk_alloc ?_ _)); exact bp5 (pbk ai.1)⟩
 have n6_ : Aside0 (Below w.heap.size w (((((cB.setCell ⟨ac, 0, none⟩ (.string ((rd_T48 aj ag).f0))).setCell ⟨ac, 1, none⟩ (.slice none 0 0)).setCell ⟨ac, 2, none⟩ (.slice none 0 0)).setCell ⟨ac, 3, none⟩ (.slice none 0 0)).setCell ⟨ac, 4, none⟩ (.int .i64 0))) := ⟨pbg⟩
 (try clear aa)
 (try clear ae)
 (try clear ab)
 (try clear ah)
 (try clear af)
 (try clear ai)
 (try clear HB)
 generalize (((((cB.setCell ⟨ac, 0, none⟩ (.string ((rd_T48 aj ag).f0))).setCell ⟨ac, 1, none⟩ (.slice none 0 0)).setCell ⟨ac, 2, none⟩ (.slice none 0 0)).setCell ⟨ac, 3, none⟩ (.slice none 0 0)).setCell ⟨ac, 4, none⟩ (.int .i64 0)) = fW at n0_ n1_ n2_ n3_ n4_ n5_ n6_ ⊢
 have aa := n0_
 have ae := n1_
 have ab := n2_
 have ah := n3_
 have af := n4_
 have ai := n5_
 have HB := n6_
 clear n0_ n1_ n2_ n3_ n4_ n5_ n6_
 replace aa := am (Kd.R_drew aa.1)
 replace ae := am (Kd.S_drew ae.1)
 replace ab := am (blk_drew ab.1)
 replace ah := am (blk_drew ah.1)
 replace af := am (blk_drew af.1)
 replace ai := am (blk_drew ai.1)
 replace HB := am (below_drew1 HB.1)
 have cQ : 0 ≤ (ag : Int) := dq
 have cS : ag < (aj.length : Int) := dq
 obtain ⟨dn, cC, cK, cD, cL, cE, cM, eA, bi, bj, bk, bl, bm, bL, bF, bM, bG, bN, bH⟩ := at_T48 bw.1 ag cQ cS
 have bV := bm
 have bU := bl
 have bT := bk
 have bS := bj
 have bR := bi
 obtain rfl : ar = dn := (by injection eA)
 replace bi := cbl HB.1 bi
 replace bj := cbl HB.1 bj
 replace bk := cbl HB.1 bk
 replace bl := cbl HB.1 bl
 replace bm := cbl HB.1 bm
 have bD := am bF
 have dD := am bL
 clear bF bL
 have cf := am bG
 have dE := am bM
 clear bG bM
 have cg := am bH
 have dF := am bN
 clear bH bN
 replace cQ := eq_true cQ
 replace cS := eq_true cS
 refine start_ (n := 11) (S := fun w' => w'.cell? ⟨ac, 0, none⟩ = some (.string ((rd_T48 aj ag).f0)) ∧ w'.cell? ⟨ac, 1, none⟩ = some (.slice none 0 0) ∧ w'.cell? ⟨ac, 2, none⟩ = some (.slice none 0 0) ∧ w'.cell? ⟨ac, 3, none⟩ = some (.slice none 0 0) ∧ w'.cell? ⟨ac, 4, none⟩ = some (.int .i64 0) ∧ w'.cell? ⟨aC, 0, none⟩ = some (.string ap) ∧ w'.cell? ⟨aC, 1, none⟩ = some (.slice bA aq.length bu) ∧ w'.cell? ⟨aC, 2, none⟩ = some (.slice (some ar) aj.length bv) ∧ w'.cell? (ar.add ((ag).toNat * 5)) = some (.string ((rd_T48 aj ag).f0)) ∧ w'.cell? ⟨(ar.add ((ag).toNat * 5)).block, (ar.add ((ag).toNat * 5)).off + 1, none⟩ = some (.slice cC ((rd_T48 aj ag).f1).length cK) ∧ w'.cell? ⟨(ar.add ((ag).toNat * 5)).block, (ar.add ((ag).toNat * 5)).off + 2, none⟩ = some (.slice cD ((rd_T48 aj ag).f2).length cL) ∧ w'.cell? ⟨(ar.add ((ag).toNat * 5)).block, (ar.add ((ag).toNat * 5)).off + 3, none⟩ = some (.slice cE ((rd_T48 aj ag).f3).length cM) ∧ w'.cell? ⟨(ar.add ((ag).toNat * 5)).block, (ar.add ((ag).toNat * 5)).off + 4, none⟩ = some (.int .i64 ((rd_T48 aj ag).f4))) (ds := [10]) #[false, false, false, false, false, false, false, false, false, false, false] (by kernel_rfl) rfl rfl ⟨(blk_cell ai.1 0).trans rfl, (blk_cell ai.1 1).trans rfl, (blk_cell ai.1 2).trans rfl, (blk_cell ai.1 3).trans rfl, (blk_cell ai.1 4).trans rfl, (blk_cell ab.1 0).trans rfl, (blk_cell ab.1 1).trans rfl, (blk_cell ab.1 2).trans rfl, (cbl HB.1 bR), (cbl HB.1 bS), (cbl HB.1 bT), (cbl HB.1 bU), (cbl HB.1 bV)⟩ (fun hHeld => ?_); refine with_tabW r43_Prepare.tab17 r43_Prepare.bits17 (fun HT_ HW_ => ?_)
 generalize fW.drew = gb at aa ae ab ah af ai HB bD cf cg bi bj bk bl bm hHeld ⊢
 refine pu HT_.1 0 63 ?_
 refine pu HT_.1 2 65 ?_
 refine pu HT_.1 4 67 ?_
 refine tk HT_.1 HW_.1 hHeld 1 64 ?_
 refine tk HT_.1 HW_.1 hHeld 3 66 ?_
 refine pu HT_.1 5 68 ?_
 refine pu HT_.1 6 69 ?_
 refine tk HT_.1 HW_.1 hHeld 7 70 ?_
 refine on HT_.1 8 (some 71) rfl fun K hK => ?_
 refine Kd.R_append_rows_step k55 (w0 := w) w.heap.size (by rfl) (.tmp 64) (.tmp 70) 46 55 (.agg #[(.int .i64 0), (.int .i64 0)]) 16 rfl Try.underlying46 info55 rfl (by decide) (by omega) (.slice none 0 0) ([] : List (S55)) ((rd_T48 aj ag).f1) _ _ _ (fun _ => True) (fun _ => False) rfl rfl ?aO ?aR (fun _ _ h => h) (fun _ h => h.elim) ?aF ?aB ?aS ?aL ?_
 (case aR => exact csb bD HB)
 (case aB => exact pbg)
 (case aF => exact (fun _ _ => trivial))
 (case aO => exact ((Kd.R_nil _ _ _ _ (fun _ => True))))
 (case aS => exact (below_size pbg))
 (case aL => have := df.1; omega)
 intro fR ce ho hb hg hat
 rw [← dk.1] at ho
 have n0_ := am (Kd.R_grown (pkr aa.1) hg (fun _ _ => by simp [Value.ownBlock]))
 have n1_ := am (Kd.S_after (Kd.S_apart_nil (pks ae.1)) hg hat)
 have n2_ := (bgr ab hg (by simp [Value.ownBlock]))
 have n3_ := (bgr ah hg (by simp [Value.ownBlock]))
 have n4_ := (bgr af hg (by simp [Value.ownBlock]))
 have n5_ := (bgr ai hg (by simp [Value.ownBlock]))
 have n6_ := am hb
 have n7_ := am ho
 clear aa ae ab ah af ai HB
 have aa := n0_
 have ae := n1_
 have ab := n2_
 have ah := n3_
 have af := n4_
 have ai := n5_
 have HB := n6_
 have aE := n7_
 clear n0_ n1_ n2_ n3_ n4_ n5_ n6_ n7_ ho hb hg hat
 obtain ⟨aD, aG, dy⟩ := Kd.R_slice aE.1
 (first | subst dy | (injection dy with f1_ f2_ f3_; have f4_ := f1_.symm; have f5_ := f3_.symm; clear f1_ f2_ f3_; subst f4_; subst f5_))
 refine hK.out _ _ ⟨(blk_cell ai.1 0).trans rfl, (blk_cell ai.1 1).trans rfl, (blk_cell ai.1 2).trans rfl, (blk_cell ai.1 3).trans rfl, (blk_cell ai.1 4).trans rfl, (blk_cell ab.1 0).trans rfl, (blk_cell ab.1 1).trans rfl, (blk_cell ab.1 2).trans rfl, (cbl HB.1 bR), (cbl HB.1 bS), (cbl HB.1 bT), (cbl HB.1 bU), (cbl HB.1 bV)⟩ (fun hHeld => ?_)
 clear hK K
 refine nm_ 71 ?_
 refine pu HT_.1 9 72 ?_
 refine la HT_.1 10 none rfl fun K hK => ?_
 have fH : ce.cell? ⟨ac, 1, none⟩ = some (.slice none 0 0) := (blk_cell ai.1 1).trans rfl
 have eS := blk_frozen ai.1 1
 have d1 := aJ.1
 have d2 := aK.1
 have d3 := aM.1
 have dQ := a8.1
 have dR := a9.1
 have dS := ba.1
 refine skip_ (w1 := ?_) (by rfl) rfl ?_ ?_
 rotate_left
 ·go_simp
  rfl
 refine hK.out _ _ ?_
 clear hK K
 refine done_ (done_of HT_.1 (by kernel_rfl)) ?_
 try go_wp2
 have n0_ : Aside0 (Kd.R k52 52 (ce.setCell ⟨ac, 1, none⟩ (.slice aD aw.length aG)) w.heap.size (fun _ => True) u622001 ak) := ⟨by (with_reducible repeat (first | apply Kd.R_alloc | apply Kd.R_drewN | apply Kd.R_drew)); exact Kd.R_mono (Kd.R_far (p := ⟨ac, 1, none⟩) (Kd.R_types aa.1 ai.1 (by decide)) (fun _ hk => hk.2) (.slice aD aw.length aG)) (fun _ hk => trivial)⟩
 have n1_ : Aside0 (Kd.S k48 48 (ce.setCell ⟨ac, 1, none⟩ (.slice aD aw.length aG)) w.heap.size (fun k_ => some k_ ≠ (.slice aD aw.length aG : Value).ownBlock ∧ k_ ≠ ac) u622002 al) := ⟨by (with_reducible repeat (first | apply Kd.S_alloc | apply Kd.S_drewN | apply Kd.S_drew)); exact Kd.S_mono (Kd.S_far (p := ⟨ac, 1, none⟩) (Kd.S_mono ae.1 (fun k_ hk => (⟨hk, hk.1⟩ : _ ∧ k_ ≠ ac))) (fun _ hk => hk.2) (.slice aD aw.length aG)) (fun _ hk => ⟨hk.1.2, hk.1.1⟩)⟩
 have n2_ : Aside0 (Kd.R k55 55 (ce.setCell ⟨ac, 1, none⟩ (.slice aD aw.length aG)) w.heap.size (fun _ => True) (.slice aD aw.length aG) aw) := ⟨by (with_reducible repeat (first | apply Kd.R_alloc | apply Kd.R_drewN | apply Kd.R_drew)); exact Kd.R_mono (Kd.R_far (p := ⟨ac, 1, none⟩) (Kd.R_types aE.1 ai.1 (by decide)) (fun _ hk => hk.2) (.slice aD aw.length aG)) (fun _ hk => trivial)⟩
 have n3_ : Aside0 ((ce.setCell ⟨ac, 1, none⟩ (.slice aD aw.length aG)).heap[aC]? = some (.cells #[.string ap, .slice bA aq.length bu, .slice (some ar) aj.length bv] 25 (0, 0))) := ⟨by (with_reducible repeat (first | refine blk_drewN ?_ _ | refine blk_drew ?_ | refine blk_alloc ?_ _)); refine blk_far ?_ aJ.1 _; exact pbk ab.1⟩
 have n4_ : Aside0 ((ce.setCell ⟨ac, 1, none⟩ (.slice aD aw.length aG)).heap[aX]? = some (.cells #[.string (⟨#[]⟩ : ByteArray), .slice none 0 0, .slice none 0 0] 25 (0, 0))) := ⟨by (with_reducible repeat (first | refine blk_drewN ?_ _ | refine blk_drew ?_ | refine blk_alloc ?_ _)); refine blk_far ?_ aK.1 _; exact pbk ah.1⟩
 have n5_ : Aside0 ((ce.setCell ⟨ac, 1, none⟩ (.slice aD aw.length aG)).heap[aH]? = some (.cells #[.string ap, u622001, u622002] 25 (0, 0))) := ⟨by (with_reducible repeat (first | refine blk_drewN ?_ _ | refine blk_drew ?_ | refine blk_alloc ?_ _)); refine blk_far ?_ aM.1 _; exact pbk af.1⟩
 have n6_ : Aside0 ((ce.setCell ⟨ac, 1, none⟩ (.slice aD aw.length aG)).heap[ac]? = some (.cells #[.string ((rd_T48 aj ag).f0), .slice aD aw.length aG, .slice none 0 0, .slice none 0 0, .int .i64 0] 48 (0, 0))) := ⟨by (with_reducible repeat (first | refine blk_drewN ?_ _ | refine blk_drew ?_ | refine blk_alloc ?_ _)); refine blk_put (cs := #[.string ((rd_T48 aj ag).f0), .slice none 0 0, .slice none 0 0, .slice none 0 0, .int .i64 0]) ?_ 1 _ rfl; exact pbk ai.1⟩
 have n7_ : Aside0 (Below w.heap.size w (ce.setCell ⟨ac, 1, none⟩ (.slice aD aw.length aG))) := ⟨pbg⟩
 (try clear aa)
 (try clear ae)
 (try clear aE)
 (try clear ab)
 (try clear ah)
 (try clear af)
 (try clear ai)
 (try clear HB)
 generalize (ce.setCell ⟨ac, 1, none⟩ (.slice aD aw.length aG)) = fX at n0_ n1_ n2_ n3_ n4_ n5_ n6_ n7_ ⊢
 have aa := n0_
 have ae := n1_
 have aE := n2_
 have ab := n3_
 have ah := n4_
 have af := n5_
 have ai := n6_
 have HB := n7_
 clear n0_ n1_ n2_ n3_ n4_ n5_ n6_ n7_
 replace aa := am (Kd.R_drew aa.1)
 replace ae := am (Kd.S_drew ae.1)
 replace aE := am (Kd.R_drew aE.1)
 replace ab := am (blk_drew ab.1)
 replace ah := am (blk_drew ah.1)
 replace af := am (blk_drew af.1)
 replace ai := am (blk_drew ai.1)
 replace HB := am (below_drew1 HB.1)
 have cR : 0 ≤ (ag : Int) := dq
 have cT : ag < (aj.length : Int) := dq
 obtain ⟨dp, cF, cN, cG, cO, cH, cP, eB, bn, bo, bp, bq, br, bO, bI, bP, bJ, bQ, bK⟩ := at_T48 bw.1 ag cR cT
 have b0 := br
 have bZ := bq
 have bY := bp
 have bX := bo
 have bW := bn
 obtain rfl : ar = dp := (by injection eB)
 replace bn := cbl HB.1 bn
 replace bo := cbl HB.1 bo
 replace bp := cbl HB.1 bp
 replace bq := cbl HB.1 bq
 replace br := cbl HB.1 br
 have ch := am bI
 have dG := am bO
 clear bI bO
 have bE := am bJ
 have dH := am bP
 clear bJ bP
 have ci := am bK
 have dI := am bQ
 clear bK bQ
 replace cR := eq_true cR
 replace cT := eq_true cT
 refine start_ (n := 11) (S := fun w' => w'.cell? ⟨ac, 0, none⟩ = some (.string ((rd_T48 aj ag).f0)) ∧ w'.cell? ⟨ac, 1, none⟩ = some (.slice aD aw.length aG) ∧ w'.cell? ⟨ac, 2, none⟩ = some (.slice none 0 0) ∧ w'.cell? ⟨ac, 3, none⟩ = some (.slice none 0 0) ∧ w'.cell? ⟨ac, 4, none⟩ = some (.int .i64 0) ∧ w'.cell? ⟨aC, 0, none⟩ = some (.string ap) ∧ w'.cell? ⟨aC, 1, none⟩ = some (.slice bA aq.length bu) ∧ w'.cell? ⟨aC, 2, none⟩ = some (.slice (some ar) aj.length bv) ∧ w'.cell? (ar.add ((ag).toNat * 5)) = some (.string ((rd_T48 aj ag).f0)) ∧ w'.cell? ⟨(ar.add ((ag).toNat * 5)).block, (ar.add ((ag).toNat * 5)).off + 1, none⟩ = some (.slice cF ((rd_T48 aj ag).f1).length cN) ∧ w'.cell? ⟨(ar.add ((ag).toNat * 5)).block, (ar.add ((ag).toNat * 5)).off + 2, none⟩ = some (.slice cG ((rd_T48 aj ag).f2).length cO) ∧ w'.cell? ⟨(ar.add ((ag).toNat * 5)).block, (ar.add ((ag).toNat * 5)).off + 3, none⟩ = some (.slice cH ((rd_T48 aj ag).f3).length cP) ∧ w'.cell? ⟨(ar.add ((ag).toNat * 5)).block, (ar.add ((ag).toNat * 5)).off + 4, none⟩ = some (.int .i64 ((rd_T48 aj ag).f4))) (ds := [10]) #[false, false, false, false, false, false, false, false, false, false, false] (by kernel_rfl) rfl rfl ⟨(blk_cell ai.1 0).trans rfl, (blk_cell ai.1 1).trans rfl, (blk_cell ai.1 2).trans rfl, (blk_cell ai.1 3).trans rfl, (blk_cell ai.1 4).trans rfl, (blk_cell ab.1 0).trans rfl, (blk_cell ab.1 1).trans rfl, (blk_cell ab.1 2).trans rfl, (cbl HB.1 bW), (cbl HB.1 bX), (cbl HB.1 bY), (cbl HB.1 bZ), (cbl HB.1 b0)⟩ (fun hHeld => ?_); refine with_tabW r43_Prepare.tab18 r43_Prepare.bits18 (fun HT_ HW_ => ?_)
 generalize fX.drew = gc at aa ae aE ab ah af ai HB ch bE ci bn bo bp bq br hHeld ⊢
 refine pu HT_.1 0 73 ?_
 refine pu HT_.1 2 75 ?_
 refine pu HT_.1 4 77 ?_
 refine tk HT_.1 HW_.1 hHeld 1 74 ?_
 refine tk HT_.1 HW_.1 hHeld 3 76 ?_
 refine pu HT_.1 5 78 ?_
 refine pu HT_.1 6 79 ?_
 refine tk HT_.1 HW_.1 hHeld 7 80 ?_
 refine on HT_.1 8 (some 81) rfl fun K hK => ?_
 refine Kd.R_append_rows_step k55 (w0 := w) w.heap.size (by rfl) (.tmp 74) (.tmp 80) 46 55 (.agg #[(.int .i64 0), (.int .i64 0)]) 16 rfl Try.underlying46 info55 rfl (by decide) (by omega) (.slice none 0 0) ([] : List (S55)) ((rd_T48 aj ag).f2) _ _ _ (fun k_ => some k_ ≠ (.slice aD aw.length aG : Value).ownBlock) (fun _ => False) rfl rfl ?aO ?aR (fun _ _ h => h) (fun _ h => h.elim) ?aF ?aB ?aS ?aL ?_
 (case aR => exact csb bE HB)
 (case aB => exact pbg)
 (case aF => exact (fun k_ hk => Kd.fresh' (Kd.R_lt (pkr aE.1)) k_ hk))
 (case aO => exact ((Kd.R_nil _ _ _ _ (fun k_ => some k_ ≠ (.slice aD aw.length aG : Value).ownBlock))))
 (case aS => exact (below_size pbg))
 (case aL => have := dg.1; omega)
 intro fS cd ho hb hg hat
 rw [← dl.1] at ho
 have n0_ := am (Kd.R_grown (pkr aa.1) hg (fun _ _ => by simp [Value.ownBlock]))
 have n1_ := am (Kd.S_after (Kd.S_apart_nil (pks ae.1)) hg hat)
 have n2_ := (bgr ab hg (by simp [Value.ownBlock]))
 have n3_ := (bgr ah hg (by simp [Value.ownBlock]))
 have n4_ := (bgr af hg (by simp [Value.ownBlock]))
 have n5_ := (bgr ai hg (by simp [Value.ownBlock]))
 have n6_ := am (Kd.R_after (Kd.R_apart_nil (pkr aE.1)) hg hat)
 have n7_ := am hb
 have n8_ := am ho
 clear aa ae ab ah af ai aE HB
 have aa := n0_
 have ae := n1_
 have ab := n2_
 have ah := n3_
 have af := n4_
 have ai := n5_
 have aE := n6_
 have HB := n7_
 have bs := n8_
 clear n0_ n1_ n2_ n3_ n4_ n5_ n6_ n7_ n8_ ho hb hg hat
 obtain ⟨aT, aU, dz⟩ := Kd.R_slice bs.1
 (first | subst dz | (injection dz with f1_ f2_ f3_; have f4_ := f1_.symm; have f5_ := f3_.symm; clear f1_ f2_ f3_; subst f4_; subst f5_))
 refine hK.out _ _ ⟨(blk_cell ai.1 0).trans rfl, (blk_cell ai.1 1).trans rfl, (blk_cell ai.1 2).trans rfl, (blk_cell ai.1 3).trans rfl, (blk_cell ai.1 4).trans rfl, (blk_cell ab.1 0).trans rfl, (blk_cell ab.1 1).trans rfl, (blk_cell ab.1 2).trans rfl, (cbl HB.1 bW), (cbl HB.1 bX), (cbl HB.1 bY), (cbl HB.1 bZ), (cbl HB.1 b0)⟩ (fun hHeld => ?_)
 clear hK K
 refine nm_ 81 ?_
 refine pu HT_.1 9 82 ?_
 refine la HT_.1 10 none rfl fun K hK => ?_
 have fI : cd.cell? ⟨ac, 2, none⟩ = some (.slice none 0 0) := (blk_cell ai.1 2).trans rfl
 have eT := blk_frozen ai.1 2
 have d4 := aJ.1
 have d5 := aK.1
 have d6 := aM.1
 have dU := a8.1
 have dV := a9.1
 have dW := ba.1
 refine skip_ (w1 := ?_) (by rfl) rfl ?_ ?_
 rotate_left
 ·go_simp
  rfl
 refine hK.out _ _ ?_
 clear hK K
 refine done_ (done_of HT_.1 (by kernel_rfl)) ?_
 have n0_ : Aside0 (Kd.R k52 52 (cd.setCell ⟨ac, 2, none⟩ (.slice aT aI.length aU)) w.heap.size (fun _ => True) u622001 ak) := ⟨by (with_reducible repeat (first | apply Kd.R_alloc | apply Kd.R_drewN | apply Kd.R_drew)); exact Kd.R_mono (Kd.R_far (p := ⟨ac, 2, none⟩) (Kd.R_types aa.1 ai.1 (by decide)) (fun _ hk => hk.2) (.slice aT aI.length aU)) (fun _ hk => trivial)⟩
 have n1_ : Aside0 (Kd.S k48 48 (cd.setCell ⟨ac, 2, none⟩ (.slice aT aI.length aU)) w.heap.size (fun k_ => some k_ ≠ (.slice aD aw.length aG : Value).ownBlock ∧ some k_ ≠ (.slice aT aI.length aU : Value).ownBlock ∧ k_ ≠ ac) u622002 al) := ⟨by (with_reducible repeat (first | apply Kd.S_alloc | apply Kd.S_drewN | apply Kd.S_drew)); exact Kd.S_mono (Kd.S_far (p := ⟨ac, 2, none⟩) (Kd.S_mono ae.1 (fun k_ hk => (⟨hk, hk.1.2⟩ : _ ∧ k_ ≠ ac))) (fun _ hk => hk.2) (.slice aT aI.length aU)) (fun _ hk => ⟨hk.1.1.1, ⟨hk.1.2, hk.1.1.2⟩⟩)⟩
 have n2_ : Aside0 (Kd.R k55 55 (cd.setCell ⟨ac, 2, none⟩ (.slice aT aI.length aU)) w.heap.size (fun k_ => some k_ ≠ (.slice aT aI.length aU : Value).ownBlock) (.slice aD aw.length aG) aw) := ⟨by (with_reducible repeat (first | apply Kd.R_alloc | apply Kd.R_drewN | apply Kd.R_drew)); exact Kd.R_mono (Kd.R_far (p := ⟨ac, 2, none⟩) (Kd.R_types aE.1 ai.1 (by decide)) (fun _ hk => hk.2) (.slice aT aI.length aU)) (fun _ hk => hk.1.2)⟩
 have n3_ : Aside0 (Kd.R k55 55 (cd.setCell ⟨ac, 2, none⟩ (.slice aT aI.length aU)) w.heap.size (fun k_ => some k_ ≠ (.slice aD aw.length aG : Value).ownBlock) (.slice aT aI.length aU) aI) := ⟨by (with_reducible repeat (first | apply Kd.R_alloc | apply Kd.R_drewN | apply Kd.R_drew)); exact Kd.R_mono (Kd.R_far (p := ⟨ac, 2, none⟩) (Kd.R_types bs.1 ai.1 (by decide)) (fun _ hk => hk.2) (.slice aT aI.length aU)) (fun _ hk => hk.1)⟩
 have n4_ : Aside0 ((cd.setCell ⟨ac, 2, none⟩ (.slice aT aI.length aU)).heap[aC]? = some (.cells #[.string ap, .slice bA aq.length bu, .slice (some ar) aj.length bv] 25 (0, 0))) := ⟨by (with_reducible repeat (first | refine blk_drewN ?_ _ | refine blk_drew ?_ | refine blk_alloc ?_ _)); refine blk_far ?_ aJ.1 _; exact pbk ab.1⟩
 have n5_ : Aside0 ((cd.setCell ⟨ac, 2, none⟩ (.slice aT aI.length aU)).heap[aX]? = some (.cells #[.string (⟨#[]⟩ : ByteArray), .slice none 0 0, .slice none 0 0] 25 (0, 0))) := ⟨by (with_reducible repeat (first | refine blk_drewN ?_ _ | refine blk_drew ?_ | refine blk_alloc ?_ _)); refine blk_far ?_ aK.1 _; exact pbk ah.1⟩
 have n6_ : Aside0 ((cd.setCell ⟨ac, 2, none⟩ (.slice aT aI.length aU)).heap[aH]? = some (.cells #[.string ap, u622001, u622002] 25 (0, 0))) := ⟨by (with_reducible repeat (first | refine blk_drewN ?_ _ | refine blk_drew ?_ | refine blk_alloc ?_ _)); refine blk_far ?_ aM.1 _; exact pbk af.1⟩
 have n7_ : Aside0 ((cd.setCell ⟨ac, 2, none⟩ (.slice aT aI.length aU)).heap[ac]? = some (.cells #[.string ((rd_T48 aj ag).f0), .slice aD aw.length aG, .slice aT aI.length aU, .slice none 0 0, .int .i64 0] 48 (0, 0))) := ⟨by (with_reducible repeat (first | refine blk_drewN ?_ _ | refine blk_drew ?_ | refine blk_alloc ?_ _)); refine blk_put (cs := #[.string ((rd_T48 aj ag).f0), .slice aD aw.length aG, .slice none 0 0, .slice none 0 0, .int .i64 0]) ?_ 2 _ rfl; exact pbk ai.1⟩
 have n8_ : Aside0 (Below w.heap.size w (cd.setCell ⟨ac, 2, none⟩ (.slice aT aI.length aU))) := ⟨pbg⟩
 (try clear aa)
 (try clear ae)
 (try clear aE)
 (try clear bs)
 (try clear ab)
 (try clear ah)
 (try clear af)
 (try clear ai)
 (try clear HB)
 generalize (cd.setCell ⟨ac, 2, none⟩ (.slice aT aI.length aU)) = ge at n0_ n1_ n2_ n3_ n4_ n5_ n6_ n7_ n8_ ⊢
 have aa := n0_
 have ae := n1_
 have aE := n2_
 have bs := n3_
 have ab := n4_
 have ah := n5_
 have af := n6_
 have ai := n7_
 have HB := n8_
 clear n0_ n1_ n2_ n3_ n4_ n5_ n6_ n7_ n8_
 have fa := aV.1
 have fv := av.1
 have gl := cf3 af.1
 have gm := cf5 ai.1
 try go_wp2_with (first | ((with_reducible refine gate_builtin (b := .append) (xs := #[.tmp 84, .tmp 86]) rfl ?_); at_builtin; refine Kd.S_append k48 (w0 := w) w.heap.size rfl (.tmp 84) (.tmp 86) 23 48 (.agg #[(.string ⟨#[]⟩), (.slice none 0 0), (.slice none 0 0), (.slice none 0 0), (.int .i64 0)]) 96 rfl Try.underlying23 info48 rfl (by decide) (by omega) u622002 al (⟨(rd_T48 aj ag).f0, aw, aI, ([] : List (S55)), 0⟩ : S48) [.string ((rd_T48 aj ag).f0), .slice aD aw.length aG, .slice aT aI.length aU, .slice none 0 0, .int .i64 0] (fun k_ => k_ ≠ ac) (fun k_ => some k_ = (.slice aD aw.length aG : Value).ownBlock ∨ some k_ = (.slice aT aI.length aU : Value).ownBlock) rfl rfl ?aP (fun k_ hk_ => hk_.elim (fun h_ => ((Kd.R_mono (ok' := fun k_ => ((fun k_ => k_ ≠ ac)) k_ ∧ some k_ ≠ (u622002 : Value).ownBlock) (Kd.R_types (Kd.R_apart' (aE.1) (Kd.S_typed ae.1) (by decide)) ai.1 (by decide)) (fun k_ hk => ⟨hk.2, hk.1.2⟩))).1 k_ h_.symm) (fun h_ => ((Kd.R_mono (ok' := fun k_ => ((fun k_ => k_ ≠ ac)) k_ ∧ some k_ ≠ (u622002 : Value).ownBlock) (Kd.R_types (Kd.R_apart' (bs.1) (Kd.S_typed ae.1) (by decide)) ai.1 (by decide)) (fun k_ hk => ⟨hk.2, hk.1.2⟩))).1 k_ h_.symm)) ?aF ?aO ?aB ?aS ?aL ?_; (case aP => exact k48_mkM _ _ _ (⟨(rd_T48 aj ag).f0, aw, aI, ([] : List (S55)), 0⟩ : S48) (Kd.R_mono (Kd.R_tight rfl (Kd.R_mono (ok' := fun k_ => ((fun k_ => k_ ≠ ac)) k_ ∧ some k_ ≠ (u622002 : Value).ownBlock) (Kd.R_types (Kd.R_apart' (aE.1) (Kd.S_typed ae.1) (by decide)) ai.1 (by decide)) (fun k_ hk => ⟨hk.2, hk.1.2⟩))) (fun _ h_ => Or.inl h_)) (Kd.R_mono (Kd.R_tight rfl (Kd.R_mono (ok' := fun k_ => ((fun k_ => k_ ≠ ac)) k_ ∧ some k_ ≠ (u622002 : Value).ownBlock) (Kd.R_types (Kd.R_apart' (bs.1) (Kd.S_typed ae.1) (by decide)) ai.1 (by decide)) (fun k_ hk => ⟨hk.2, hk.1.2⟩))) (fun _ h_ => Or.inr (h_))) (Kd.R_nil _ _ _ _ _)); (case aB => exact pbg); (case aF => exact (fun k_ hk => Kd.freshB (g := ac) (o := .cells #[.string ((rd_T48 aj ag).f0), .slice aD aw.length aG, .slice aT aI.length aU, .slice none 0 0, .int .i64 0] 48 (0, 0)) (by exact pbk ai.1) k_ hk)); (case aO => exact (by (with_reducible repeat (first | apply Kd.S_alloc | apply Kd.S_drewN | apply Kd.S_drew)); exact Kd.S_mono ae.1 (fun k_ hk => ⟨hk.2.2, fun e_ => e_.elim (fun h_ => hk.1 h_) (fun h_ => hk.2.1 h_)⟩))); (case aS => exact (below_size pbg)); (case aL => have := dh.1; omega); intro fT gf ho hb hg hat; rw [← dm.1] at ho; have cr := am ho; replace aa := am (Kd.R_over' (pkr aa.1) (Kd.S_typed (pks ae.1)) (by decide) hg); replace ab := (bgr ab hg (Kd.S_ne ae.1 ab.1 (by decide))); replace ah := (bgr ah hg (Kd.S_ne ae.1 ah.1 (by decide))); replace af := (bgr af hg (Kd.S_ne ae.1 af.1 (by decide))); replace ai := (bgr ai hg (Kd.S_away ae.1 (fun _ hk => hk.2.2))); replace HB := am hb; (try clear ae aE bs); clear ho hb hg hat; obtain ⟨ei, eu, eC⟩ := Kd.S_slice cr.1; subst eC; have gn := cf3 af.1))
 go_roundg k2
 case measure => have := cX.1; have := eK.1; omega
 case rel => exact ⟨(wrap64 (ag + 1)), (cW), (.slice ei cW.length eu), prs, H', ⟨by have := cX.1; have := eK.1; omega⟩, ⟨by (with_reducible repeat (first | apply Kd.R_alloc | apply Kd.R_drewN | apply Kd.R_drew)); exact Kd.R_mono (Kd.R_far (p := ⟨aH, 2, none⟩) (Kd.R_types aa.1 af.1 (by decide)) (fun _ hk => hk.2) _) (fun _ hk => trivial)⟩, ⟨by (with_reducible repeat (first | apply Kd.S_alloc | apply Kd.S_drewN | apply Kd.S_drew)); exact Kd.S_mono (Kd.S_far (p := ⟨aH, 2, none⟩) (Kd.S_types cr.1 af.1 (by decide)) (fun _ hk => hk.2) _) (fun _ hk => trivial)⟩, ⟨by (with_reducible repeat (first | refine blk_drewN ?_ _ | refine blk_drew ?_ | refine blk_alloc ?_ _)); refine blk_far ?_ ao.1 _; exact pbk ab.1⟩, ⟨by (with_reducible repeat (first | refine blk_drewN ?_ _ | refine blk_drew ?_ | refine blk_alloc ?_ _)); refine blk_far ?_ av.1 _; exact pbk ah.1⟩, ⟨by (with_reducible repeat (first | refine blk_drewN ?_ _ | refine blk_drew ?_ | refine blk_alloc ?_ _)); refine blk_put (cs := #[.string ap, u622001, u622002]) ?_ 2 _ rfl; exact pbk af.1⟩, ⟨pbg⟩⟩

/-! ### r43_Final: function 24 -/
def r43_Final.l0 : Nat → Int → List Int → Int → ByteArray → List (S52) → List (S48) → Option (List Int × Int)
 | 0, _, _, _, _, _, _ => none
 | k + 1, x5, x7, x8, aj, af, ak => if x8 < (af.length : Int) then (if x8 = x5 then (if x7.length < 17592186044416 then (r43_Final.l0 k x5 (x7 ++ [1]) (wrap64 (x8 + 1)) aj af ak) else (none)) else (if x7.length < 17592186044416 then (r43_Final.l0 k x5 (x7 ++ [0]) (wrap64 (x8 + 1)) aj af ak) else (none))) else (some (x7, 0))
def r43_Final.f (k : Nat) (ae : ByteArray) (ab : List (S52)) (ac : List (S48)) : Option (List Int × Int) := (r43_may.f k ae ab ac).bind fun aw => (if aw = 0 then ((r43_Sink.f k ae ab ac).bind fun aU => (r43_Final.l0 k aU.1 ([] : List Int) 0 ae ab ac)) else (some (([] : List Int), aw)))
theorem r43_Final.mono_l : ∀ k, M6 r43_Final.l0 k
 | 0 => fun _ _ _ _ _ _ r h => by simp [r43_Final.l0] at h
 | k + 1 => by
  have a6 := r43_Final.mono_l k
  ·intro y0 y1 y2 y3 y4 y5
   unfold r43_Final.l0
   repeat' first | (with_reducible first | apply a6 | apply r43_Sink.mono | apply r43_may.mono | apply lr | apply ln | apply li | refine lb ?_ fun _ => ?_)
theorem r43_Final.mono : ∀ a0 a1 a2 k, LeO (r43_Final.f k a0 a1 a2) (r43_Final.f (k + 1) a0 a1 a2) := by
 intro a0 a1 a2 k
 have a6 := r43_Final.mono_l k
 unfold r43_Final.f
 repeat' first | (with_reducible first | apply a6 | apply r43_Sink.mono | apply r43_may.mono | apply lr | apply ln | apply li | refine lb ?_ fun _ => ?_)
set_option maxHeartbeats 8000000 in
set_option maxRecDepth 100000 in
theorem r43_Final.calls (k : Nat) (ae : ByteArray) (aE : Option Addr) (aH : Nat) (ab : List (S52)) (aG : Option Addr) (aI : Nat) (ac : List (S48)) (r1 : List Int) (r2 : Int) (w : World) (aC : Kd.C k52 w aE ab.length ab) (az : ab.length ≤ aH) (aD : Kd.C k48 w aG ac.length ac) (aA : ac.length ≤ aI) (h : r43_Final.f k ae ab ac = some (r1, r2)) :
  Calls Try.prog 24 #[.agg #[.string ae, .slice aE ab.length aH, .slice aG ac.length aI]] w fun e w' => ∃ v0_ : Value, e = .returned (.tuple #[v0_, .int .i64 r2]) ∧ Kd.R (Kd.int .i64) 3 w' w.heap.size (fun _ => True) v0_ r1 ∧ Below w.heap.size w w' := by
 have ba := Try.underlying25
 have aq := am aC
 have ao := am az
 clear aC az
 have ar := am aD
 have ap := am aA
 clear aD aA
 have HB := am (Below.refl w.heap.size w)
 have H := h
 unfold r43_Final.f at H
 clear h
 replace H := bnd H
 obtain ⟨aw, A2, H⟩ := H
 (try dsimp only at H)
 replace H := ife H
 rcases H with ⟨aY, aZ, H⟩ | ⟨aY, aZ, H⟩
 rotate_left
 ·simp only [Option.some.injEq, Prod.mk.injEq] at H
  obtain ⟨rfl, rfl⟩ := H
  go_enter Try.func24, Try.ntmps24
  go_wp2_with (first | ((with_reducible refine gate_dst (N := 1) rfl ?_); refine box_ev ?_; intro ay hg bg hbox hb; have aa := am hbox; have al := gwl hg; have aJ := al; replace HB := bsl hb; clear hb hbox hg; have bl := cf3 aa.1) | ((with_reducible refine gate_callee (f := 45) rfl ?_); refine gC 10 Try.func45 _ (r43_may.calls k ae _ _ ab _ _ ac aw _ (csb aq HB) ao.1 (csb ar HB) ap.1 A2.1) ?_; rintro e bh ⟨rfl, hb⟩; refine ⟨_, rfl, ?_⟩; replace aa := bbh aa hb; replace HB := bst hb; (try clear hb)))
  go_ret2
  exact ⟨_, per, knl, pbg⟩
 replace H := bnd H
 obtain ⟨⟨ax, a7⟩, A4, H⟩ := H
 (try dsimp only at H)
 have H' := am H
 clear H
 go_enter Try.func24, Try.ntmps24
 go_wp2_with (first | ((with_reducible refine gate_dst (N := 1) rfl ?_); refine box_ev ?_; intro ay hg w5 hbox hb; have aa := am hbox; have al := gwl hg; have aJ := al; replace HB := bsl hb; clear hb hbox hg; have z6 := cf3 aa.1) | ((with_reducible refine gate_callee (f := 45) rfl ?_); refine gC 10 Try.func45 _ (r43_may.calls k ae _ _ ab _ _ ac aw _ (csb aq HB) ao.1 (csb ar HB) ap.1 A2.1) ?_; rintro e w7 ⟨rfl, hb⟩; refine ⟨_, rfl, ?_⟩; replace aa := bbh aa hb; replace HB := bst hb; (try clear hb); have z8 := cf3 aa.1) | ((with_reducible refine gate_callee (f := 15) rfl ?_); refine gC 16 Try.func15 _ (r43_Sink.calls k ae _ _ ab _ _ ac ax a7 _ (csb aq HB) ao.1 (csb ar HB) ap.1 A4.1) ?_; rintro e w9 ⟨rfl, hb⟩; refine ⟨_, rfl, ?_⟩; replace aa := bbh aa hb; replace HB := bst hb; (try clear hb)))
 go_loopg [7, 8] k (fun kq v7 v8 w' => ∃ (ah : List Int) (ai : Int), v8 = .int .i64 ai ∧ Aside0 (r43_Final.l0 kq ax ah ai ae ab ac = some (r1, r2)) ∧ Aside0 (kq ≤ k) ∧ Aside0 (Kd.R (Kd.int .i64) 3 w' w.heap.size (fun _ => True) v7 ah) ∧ Aside0 (w'.heap[ay]? = some (.cells #[.string ae, (.slice aE ab.length aH), (.slice aG ac.length aI)] 25 (0, 0))) ∧ Aside0 (Below w.heap.size w w'))
 case atStart => exact ⟨(([] : List Int)), (0), prs, H', ⟨Nat.le_refl _⟩, ⟨knl⟩, ⟨pbk aa.1⟩, ⟨pbg⟩⟩
 clear H'
 try clear aY aZ z6 z8
 obtain ⟨ah, ai, rfl, HA, a5, ag, aa, HB⟩ := hrel
 obtain _ | k1 := gk
 ·exact absurd HA.1 (by simp [r43_Final.l0])
 have H := HA.1
 clear HA
 simp only [r43_Final.l0] at H
 replace H := ifl H
 rcases H with ⟨aV, H⟩ | ⟨aV, H⟩
 rotate_left
 ·simp only [Option.some.injEq, Prod.mk.injEq] at H
  obtain ⟨rfl, rfl⟩ := H
  have bk := cf3 aa.1
  go_wp2
  go_ret2
  exact ⟨_, per, by (with_reducible repeat (first | apply Kd.R_alloc | apply Kd.R_drewN | apply Kd.R_drew)); exact ag.1, pbg⟩
 replace H := ife H
 rcases H with ⟨aW, aX, H⟩ | ⟨aW, aX, H⟩
 rotate_left
 ·replace H := ifp H
  obtain ⟨a9, H⟩ := H
  have aQ := am a9
  clear a9
  obtain ⟨a4, av⟩ : ∃ y_ : List Int, y_ = (ah ++ [0]) := ⟨_, rfl⟩
  replace H : (r43_Final.l0 k1 ax a4 (wrap64 (ai + 1)) ae ab ac) = some (r1, r2) := hrp av H
  have aT := am av
  clear av
  have H' := am H
  clear H
  have bj := cf3 aa.1
  go_wp2_with (first | ((with_reducible refine gate_builtin (b := .append) (xs := #[.tmp 32, .tmp 33]) rfl ?_); at_builtin; refine Kd.R_append (Kd.int .i64) (w0 := w) w.heap.size rfl (.tmp 32) (.tmp 33) 39 3 (.int .i64 0) 8 rfl Try.underlying39 info3 rfl (by decide) (by omega) u7 ah 0 [.int .i64 0] (fun _ => True) (fun _ => False) rfl rfl ?aP (fun _ hk => hk.elim) ?aF ?aO ?aB ?aS ?aL ?_; (case aP => exact rfl); (case aB => exact pbg); (case aF => exact (fun _ _ => trivial)); (case aO => exact (pkr ag.1)); (case aS => exact (below_size pbg)); (case aL => have := aQ.1; omega); intro bc bf ho hb hg hat; rw [← aT.1] at ho; have aM := am ho; replace aa := (bgr aa hg (Kd.R_ne ag.1 aa.1 (by decide))); replace HB := am hb; clear ag; clear ho hb hg hat))
  go_roundg k1
  case measure => have := a5.1; omega
  case rel => exact ⟨(a4), (wrap64 (ai + 1)), prs, H', ⟨by have := a5.1; omega⟩, ⟨pkr aM.1⟩, ⟨pbk aa.1⟩, ⟨pbg⟩⟩
 replace H := ifp H
 obtain ⟨a8, H⟩ := H
 have aN := am a8
 clear a8
 obtain ⟨a3, au⟩ : ∃ y_ : List Int, y_ = (ah ++ [1]) := ⟨_, rfl⟩
 replace H : (r43_Final.l0 k1 ax a3 (wrap64 (ai + 1)) ae ab ac) = some (r1, r2) := hrp au H
 have aR := am au
 clear au
 have H' := am H
 clear H
 have bi := cf3 aa.1
 go_wp2_with (first | ((with_reducible refine gate_builtin (b := .append) (xs := #[.tmp 29, .tmp 30]) rfl ?_); at_builtin; refine Kd.R_append (Kd.int .i64) (w0 := w) w.heap.size rfl (.tmp 29) (.tmp 30) 39 3 (.int .i64 0) 8 rfl Try.underlying39 info3 rfl (by decide) (by omega) u7 ah 1 [.int .i64 1] (fun _ => True) (fun _ => False) rfl rfl ?aP (fun _ hk => hk.elim) ?aF ?aO ?aB ?aS ?aL ?_; (case aP => exact rfl); (case aB => exact pbg); (case aF => exact (fun _ _ => trivial)); (case aO => exact (pkr ag.1)); (case aS => exact (below_size pbg)); (case aL => have := aN.1; omega); intro bb bd ho hb hg hat; rw [← aR.1] at ho; have aK := am ho; replace aa := (bgr aa hg (Kd.R_ne ag.1 aa.1 (by decide))); replace HB := am hb; clear ag; clear ho hb hg hat))
 go_roundg k1
 case measure => have := a5.1; omega
 case rel => exact ⟨(a3), (wrap64 (ai + 1)), prs, H', ⟨by have := a5.1; omega⟩, ⟨pkr aK.1⟩, ⟨pbk aa.1⟩, ⟨pbg⟩⟩

/-! ### r09_Place: function 46 -/
attribute [local go_sem high] eqA52 eqA55
def r09_Place.l0 : Nat → ByteArray → Int → ByteArray → List (S52) → List (S48) → Option (Int)
 | 0, _, _, _, _, _ => none
 | k + 1, x1, x5, ao, ag, ap => if x5 < (ag.length : Int) then (if 0 ≤ x5 then (if ((rd_T52 ag x5).f0).toList = x1.toList then (some x5) else (r09_Place.l0 k x1 (wrap64 (x5 + 1)) ao ag ap)) else (none)) else (some (-1))
def r09_Place.f (k : Nat) (af : ByteArray) (ab : List (S52)) (ac : List (S48)) (a1 : ByteArray) : Option (Int) := (r09_Valid.f k af ab ac).bind fun aF => (if aF = true then (r09_Place.l0 k a1 0 af ab ac) else (some (-1)))
theorem r09_Place.mono_l : ∀ k, M5 r09_Place.l0 k
 | 0 => fun _ _ _ _ _ r h => by simp [r09_Place.l0] at h
 | k + 1 => by
  have aL := r09_Place.mono_l k
  ·intro y0 y1 y2 y3 y4
   unfold r09_Place.l0
   repeat' first | (with_reducible first | apply aL | apply r09_Valid.mono | apply lr | apply ln | apply li | refine lb ?_ fun _ => ?_)
theorem r09_Place.mono : ∀ a0 a1 a2 a3 k, LeO (r09_Place.f k a0 a1 a2 a3) (r09_Place.f (k + 1) a0 a1 a2 a3) := by
 intro a0 a1 a2 a3 k
 have aL := r09_Place.mono_l k
 unfold r09_Place.f
 repeat' first | (with_reducible first | apply aL | apply r09_Valid.mono | apply lr | apply ln | apply li | refine lb ?_ fun _ => ?_)
set_option maxHeartbeats 8000000 in
set_option maxRecDepth 100000 in
theorem r09_Place.calls (k : Nat) (af : ByteArray) (aA : Option Addr) (aC : Nat) (ab : List (S52)) (aB : Option Addr) (aD : Nat) (ac : List (S48)) (a1 : ByteArray) (r : Int) (w : World) (ay : Kd.C k52 w aA ab.length ab) (aw : ab.length ≤ aC) (az : Kd.C k48 w aB ac.length ac) (ax : ac.length ≤ aD) (h : r09_Place.f k af ab ac a1 = some r) :
  Calls Try.prog 46 #[.agg #[.string af, .slice aA ab.length aC, .slice aB ac.length aD], .string a1] w fun e w' => e = .returned (.int .i64 r) ∧ Below w.heap.size w w' := by
 have aQ := Try.underlying25
 have ah := am ay
 have aq := am aw
 clear ay aw
 have au := am az
 have ar := am ax
 clear az ax
 have HB := am (Below.refl w.heap.size w)
 have H := h
 unfold r09_Place.f at H
 clear h
 replace H := bnd H
 obtain ⟨aF, A3, H⟩ := H
 (try dsimp only at H)
 cases aF
 ·rw [if_neg Bool.false_ne_true] at H
  obtain rfl := Option.some.inj H
  go_enter Try.func46, Try.ntmps46
  go_wp2_with (first | ((with_reducible refine gate_dst (N := 2) rfl ?_); refine box_ev ?_; intro av hg aR hbox hb; have aa := am hbox; have ai := gwl hg; have aG := ai; replace HB := bsl hb; clear hb hbox hg; have aW := cf3 aa.1) | ((with_reducible refine gate_callee (f := 56) rfl ?_); refine gC 7 Try.func56 _ (r09_Valid.calls k af _ _ ab _ _ ac false _ (csb ah HB) aq.1 (csb au HB) ar.1 A3.1) ?_; rintro e aS ⟨rfl, hb⟩; refine ⟨_, rfl, ?_⟩; replace aa := bbh aa hb; replace HB := bst hb; (try clear hb)))
  go_ret
  exact ⟨per, pbg⟩
 rw [if_pos rfl] at H
 have H' := am H
 clear H
 go_enter Try.func46, Try.ntmps46
 go_wp2_with (first | ((with_reducible refine gate_dst (N := 2) rfl ?_); refine box_ev ?_; intro av hg w5 hbox hb; have aa := am hbox; have ai := gwl hg; have aG := ai; replace HB := bsl hb; clear hb hbox hg; have z6 := cf3 aa.1) | ((with_reducible refine gate_callee (f := 56) rfl ?_); refine gC 7 Try.func56 _ (r09_Valid.calls k af _ _ ab _ _ ac true _ (csb ah HB) aq.1 (csb au HB) ar.1 A3.1) ?_; rintro e w7 ⟨rfl, hb⟩; refine ⟨_, rfl, ?_⟩; replace aa := bbh aa hb; replace HB := bst hb; (try clear hb)))
 go_loopg [5] k (fun kq v5 w' => ∃ (ae : Int), v5 = .int .i64 ae ∧ Aside0 (r09_Place.l0 kq a1 ae af ab ac = some r) ∧ Aside0 (kq ≤ k) ∧ Aside0 (w'.heap[av]? = some (.cells #[.string af, (.slice aA ab.length aC), (.slice aB ac.length aD)] 25 (0, 0))) ∧ Aside0 (Below w.heap.size w w'))
 case atStart => exact ⟨(0), prs, H', ⟨Nat.le_refl _⟩, ⟨pbk aa.1⟩, ⟨pbg⟩⟩
 clear H'
 try clear z6
 obtain ⟨ae, rfl, HA, aO, aa, HB⟩ := hrel
 obtain _ | k1 := gk
 ·exact absurd HA.1 (by simp [r09_Place.l0])
 have H := HA.1
 clear HA
 simp only [r09_Place.l0] at H
 replace H := ifl H
 rcases H with ⟨aK, H⟩ | ⟨aK, H⟩
 rotate_left
 ·obtain rfl := Option.some.inj H
  have aV := cf3 aa.1
  go_wp2
  go_ret
  exact ⟨per, pbg⟩
 replace H := ifp H
 obtain ⟨c9, H⟩ := H
 have aP := decide_eq_true c9
 clear c9
 by_cases c10 : ((rd_T52 ab ae).f0).toList = a1.toList
 ·rw [if_pos c10] at H
  have aI : (((rd_T52 ab ae).f0).toList == a1.toList) = true := beq_iff_eq.mpr c10
  have aJ : (((rd_T52 ab ae).f0).toList != a1.toList) = false := bne_eq_false_iff_eq.mpr c10
  clear c10
  obtain rfl := Option.some.inj H
  have aT := cf3 aa.1
  obtain ⟨aM, aN, aH, aE, aj, ak, al⟩ := bT52 ah.1 HB.1 ae
  cases aE
  go_wp2
  go_ret
  exact ⟨per, pbg⟩
 rw [if_neg c10] at H
 have aI : (((rd_T52 ab ae).f0).toList == a1.toList) = false := beq_eq_false_iff_ne.mpr c10
 have aJ : (((rd_T52 ab ae).f0).toList != a1.toList) = true := bne_iff_ne.mpr c10
 have H' := am H
 clear H
 have aU := cf3 aa.1
 obtain ⟨aM, aN, aH, aE, aj, ak, al⟩ := bT52 ah.1 HB.1 ae
 cases aE
 go_wp2
 go_roundg k1
 case measure => have := aO.1; omega
 case rel => exact ⟨(wrap64 (ae + 1)), prs, H', ⟨by have := aO.1; omega⟩, ⟨pbk aa.1⟩, ⟨pbg⟩⟩

/-! ### r09_Trans: function 47 -/
attribute [local go_sem high] eqA52 eqA55
def r09_Trans.l0 : Nat → ByteArray → Int → ByteArray → List (S52) → List (S48) → Option (Int)
 | 0, _, _, _, _, _ => none
 | k + 1, x1, x5, ay, az, ag => if x5 < (ag.length : Int) then (if 0 ≤ x5 then (if ((rd_T48 ag x5).f0).toList = x1.toList then (some x5) else (r09_Trans.l0 k x1 (wrap64 (x5 + 1)) ay az ag)) else (none)) else (some (-1))
def r09_Trans.f (k : Nat) (af : ByteArray) (ac : List (S52)) (ab : List (S48)) (a1 : ByteArray) : Option (Int) := (r09_Valid.f k af ac ab).bind fun aT => (if aT = true then (r09_Trans.l0 k a1 0 af ac ab) else (some (-1)))
theorem r09_Trans.mono_l : ∀ k, M5 r09_Trans.l0 k
 | 0 => fun _ _ _ _ _ r h => by simp [r09_Trans.l0] at h
 | k + 1 => by
  have aZ := r09_Trans.mono_l k
  ·intro y0 y1 y2 y3 y4
   unfold r09_Trans.l0
   repeat' first | (with_reducible first | apply aZ | apply r09_Valid.mono | apply lr | apply ln | apply li | refine lb ?_ fun _ => ?_)
theorem r09_Trans.mono : ∀ a0 a1 a2 a3 k, LeO (r09_Trans.f k a0 a1 a2 a3) (r09_Trans.f (k + 1) a0 a1 a2 a3) := by
 intro a0 a1 a2 a3 k
 have aZ := r09_Trans.mono_l k
 unfold r09_Trans.f
 repeat' first | (with_reducible first | apply aZ | apply r09_Valid.mono | apply lr | apply ln | apply li | refine lb ?_ fun _ => ?_)
set_option maxHeartbeats 8000000 in
set_option maxRecDepth 100000 in
theorem r09_Trans.calls (k : Nat) (af : ByteArray) (aI : Option Addr) (aN : Nat) (ac : List (S52)) (aJ : Option Addr) (aO : Nat) (ab : List (S48)) (a1 : ByteArray) (r : Int) (w : World) (aG : Kd.C k52 w aI ac.length ac) (aE : ac.length ≤ aN) (aH : Kd.C k48 w aJ ab.length ab) (aF : ab.length ≤ aO) (h : r09_Trans.f k af ac ab a1 = some r) :
  Calls Try.prog 47 #[.agg #[.string af, .slice aI ac.length aN, .slice aJ ab.length aO], .string a1] w fun e w' => e = .returned (.int .i64 r) ∧ Below w.heap.size w w' := by
 have a8 := Try.underlying25
 have aC := am aG
 have aA := am aE
 clear aG aE
 have ah := am aH
 have aB := am aF
 clear aH aF
 have HB := am (Below.refl w.heap.size w)
 have H := h
 unfold r09_Trans.f at H
 clear h
 replace H := bnd H
 obtain ⟨aT, A3, H⟩ := H
 (try dsimp only at H)
 cases aT
 ·rw [if_neg Bool.false_ne_true] at H
  obtain rfl := Option.some.inj H
  go_enter Try.func47, Try.ntmps47
  go_wp2_with (first | ((with_reducible refine gate_dst (N := 2) rfl ?_); refine box_ev ?_; intro aD hg a9 hbox hb; have aa := am hbox; have ai := gwl hg; have aU := ai; replace HB := bsl hb; clear hb hbox hg; have bf := cf3 aa.1) | ((with_reducible refine gate_callee (f := 56) rfl ?_); refine gC 7 Try.func56 _ (r09_Valid.calls k af _ _ ac _ _ ab false _ (csb aC HB) aA.1 (csb ah HB) aB.1 A3.1) ?_; rintro e ba ⟨rfl, hb⟩; refine ⟨_, rfl, ?_⟩; replace aa := bbh aa hb; replace HB := bst hb; (try clear hb)))
  go_ret
  exact ⟨per, pbg⟩
 rw [if_pos rfl] at H
 have H' := am H
 clear H
 go_enter Try.func47, Try.ntmps47
 go_wp2_with (first | ((with_reducible refine gate_dst (N := 2) rfl ?_); refine box_ev ?_; intro aD hg w5 hbox hb; have aa := am hbox; have ai := gwl hg; have aU := ai; replace HB := bsl hb; clear hb hbox hg; have z6 := cf3 aa.1) | ((with_reducible refine gate_callee (f := 56) rfl ?_); refine gC 7 Try.func56 _ (r09_Valid.calls k af _ _ ac _ _ ab true _ (csb aC HB) aA.1 (csb ah HB) aB.1 A3.1) ?_; rintro e w7 ⟨rfl, hb⟩; refine ⟨_, rfl, ?_⟩; replace aa := bbh aa hb; replace HB := bst hb; (try clear hb)))
 go_loopg [5] k (fun kq v5 w' => ∃ (ae : Int), v5 = .int .i64 ae ∧ Aside0 (r09_Trans.l0 kq a1 ae af ac ab = some r) ∧ Aside0 (kq ≤ k) ∧ Aside0 (w'.heap[aD]? = some (.cells #[.string af, (.slice aI ac.length aN), (.slice aJ ab.length aO)] 25 (0, 0))) ∧ Aside0 (Below w.heap.size w w'))
 case atStart => exact ⟨(0), prs, H', ⟨Nat.le_refl _⟩, ⟨pbk aa.1⟩, ⟨pbg⟩⟩
 clear H'
 try clear z6
 obtain ⟨ae, rfl, HA, a6, aa, HB⟩ := hrel
 obtain _ | k1 := gk
 ·exact absurd HA.1 (by simp [r09_Trans.l0])
 have H := HA.1
 clear HA
 simp only [r09_Trans.l0] at H
 replace H := ifl H
 rcases H with ⟨aY, H⟩ | ⟨aY, H⟩
 rotate_left
 ·obtain rfl := Option.some.inj H
  have bd := cf3 aa.1
  go_wp2
  go_ret
  exact ⟨per, pbg⟩
 replace H := ifp H
 obtain ⟨c9, H⟩ := H
 have a7 := decide_eq_true c9
 clear c9
 by_cases c10 : ((rd_T48 ab ae).f0).toList = a1.toList
 ·rw [if_pos c10] at H
  have aW : (((rd_T48 ab ae).f0).toList == a1.toList) = true := beq_iff_eq.mpr c10
  have aX : (((rd_T48 ab ae).f0).toList != a1.toList) = false := bne_eq_false_iff_eq.mpr c10
  clear c10
  obtain rfl := Option.some.inj H
  have bb := cf3 aa.1
  obtain ⟨a4, a5, aV, aK, aP, aL, aQ, aM, aR, aS, ar, au, av, aw, ax, aj, ao, ak, ap, al, aq⟩ := bT48 ah.1 HB.1 ae
  cases aS
  go_wp2
  go_ret
  exact ⟨per, pbg⟩
 rw [if_neg c10] at H
 have aW : (((rd_T48 ab ae).f0).toList == a1.toList) = false := beq_eq_false_iff_ne.mpr c10
 have aX : (((rd_T48 ab ae).f0).toList != a1.toList) = true := bne_iff_ne.mpr c10
 have H' := am H
 clear H
 have bc := cf3 aa.1
 obtain ⟨a4, a5, aV, aK, aP, aL, aQ, aM, aR, aS, ar, au, av, aw, ax, aj, ao, ak, ap, al, aq⟩ := bT48 ah.1 HB.1 ae
 cases aS
 go_wp2
 go_roundg k1
 case measure => have := a6.1; omega
 case rel => exact ⟨(wrap64 (ae + 1)), prs, H', ⟨by have := a6.1; omega⟩, ⟨pbk aa.1⟩, ⟨pbg⟩⟩

/-! ### r43_Close: function 26 -/
def r43_Close.j0 : Nat → Bool → ByteArray → List (S52) → List (S48) → ByteArray → List (S52) → List (S48) → Option (ByteArray × (List (S52)) × (List (S48)) × Int)
 | 0, _, _, _, _, _, _, _ => none
 | k + 1, df, aY, aZ, a3, bg, bh, a4 => if df = true then (some ((⟨#[]⟩ : ByteArray), ([] : List (S52)), ([] : List (S48)), 6)) else ((r43_Source.f k aY aZ a3).bind fun bI => ((r43_Sink.f k aY aZ a3).bind fun bJ => (if a4.length < 1466015503701 then (some (bg, bh, (a4 ++ [(⟨(⟨#[95, 99, 108, 111, 115, 101]⟩ : ByteArray), (([(⟨bJ.1, 1⟩ : S55)] : List (S55))), (([(⟨bI.1, 1⟩ : S55)] : List (S55))), ([] : List (S55)), 0⟩ : S48)]), 0)) else (none))))
def r43_Close.f (k : Nat) (av : ByteArray) (ar : List (S52)) (aq : List (S48)) : Option (ByteArray × (List (S52)) × (List (S48)) × Int) := (r43_Prepare.f k av ar aq).bind fun aG => (if aG.2.2.2 = 0 then (if (aq.length : Int) ≥ 24 then (some ((⟨#[]⟩ : ByteArray), ([] : List (S52)), ([] : List (S48)), 2)) else ((r09_Place.f k av ar aq (⟨#[95, 99, 108, 111, 115, 101]⟩ : ByteArray)).bind fun bd => (if bd ≥ 0 then (r43_Close.j0 k true av ar aq aG.1 aG.2.1 aG.2.2.1) else ((r09_Trans.f k av ar aq (⟨#[95, 99, 108, 111, 115, 101]⟩ : ByteArray)).bind fun bf => (r43_Close.j0 k (decide (bf ≥ 0)) av ar aq aG.1 aG.2.1 aG.2.2.1))))) else (some ((⟨#[]⟩ : ByteArray), ([] : List (S52)), ([] : List (S48)), aG.2.2.2)))
theorem r43_Close.mono_l : ∀ k, M7 r43_Close.j0 k
 | 0 => fun _ _ _ _ _ _ _ r h => by simp [r43_Close.j0] at h
 | k + 1 => by
  have b2 := r43_Close.mono_l k
  ·intro y0 y1 y2 y3 y4 y5 y6
   unfold r43_Close.j0
   repeat' first | (with_reducible first | apply b2 | apply r09_Place.mono | apply r09_Trans.mono | apply r43_Prepare.mono | apply r43_Sink.mono | apply r43_Source.mono | apply lr | apply ln | apply li | refine lb ?_ fun _ => ?_)
theorem r43_Close.mono : ∀ a0 a1 a2 k, LeO (r43_Close.f k a0 a1 a2) (r43_Close.f (k + 1) a0 a1 a2) := by
 intro a0 a1 a2 k
 have b2 := r43_Close.mono_l k
 unfold r43_Close.f
 repeat' first | (with_reducible first | apply b2 | apply r09_Place.mono | apply r09_Trans.mono | apply r43_Prepare.mono | apply r43_Sink.mono | apply r43_Source.mono | apply lr | apply ln | apply li | refine lb ?_ fun _ => ?_)
set_option maxHeartbeats 8000000 in
set_option maxRecDepth 100000 in
theorem r43_Close.calls (k : Nat) (av : ByteArray) (bv : Option Addr) (bA : Nat) (ar : List (S52)) (bw : Option Addr) (bB : Nat) (aq : List (S48)) (r1 : ByteArray) (r2 : List (S52)) (r3 : List (S48)) (r4 : Int) (w : World) (bs : Kd.C k52 w bv ar.length ar) (bp : ar.length ≤ bA) (bu : Kd.C k48 w bw aq.length aq) (bq : aq.length ≤ bB) (h : r43_Close.f k av ar aq = some (r1, r2, r3, r4)) :
  Calls Try.prog 26 #[.agg #[.string av, .slice bv ar.length bA, .slice bw aq.length bB]] w fun e w' => ∃ v1_ v2_ : Value, e = .returned (.tuple #[.agg #[.string r1, v1_, v2_], .int .i64 r4]) ∧ Kd.R k52 52 w' w.heap.size (fun _ => True) v1_ r2 ∧ Kd.S k48 48 w' w.heap.size (fun _ => True) v2_ r3 ∧ Below w.heap.size w w' := by
 have cX := Try.underlying25
 have cZ := Try.underlying55
 have cY := Try.underlying48
 have aD := am bs
 have aA := am bp
 clear bs bp
 have aE := am bu
 have aC := am bq
 clear bu bq
 have HB := am (Below.refl w.heap.size w)
 have H := h
 unfold r43_Close.f at H
 clear h
 replace H := bnd H
 obtain ⟨⟨az, ay, au, bD⟩, A2, H⟩ := H
 (try dsimp only at H)
 replace H := ife H
 rcases H with ⟨bK, bL, H⟩ | ⟨bK, bL, H⟩
 rotate_left
 ·simp only [Option.some.injEq, Prod.mk.injEq] at H
  obtain ⟨rfl, rfl, rfl, rfl⟩ := H
  go_enter Try.func26, Try.ntmps26
  go_wp2_with (first | ((with_reducible refine gate_dst (N := 1) rfl ?_); refine box_ev ?_; intro a9 hg dG hbox hb; have aa := am hbox; have aN := gwl hg; have bj := aN; replace HB := bsl hb; clear hb hbox hg) | ((with_reducible refine gate_dst (N := 2) rfl ?_); refine box_ev (N := 2) (cs := #[.string (⟨#[]⟩ : ByteArray), .slice none 0 0, .slice none 0 0]) (t := 25) ?_; intro ax hg dH hbox hb; have ab := am hbox; have aQ := gwb hg; have bk := aQ; have ai := nlt hg aa; have aj := ngt hg aa; replace aa := bbh aa hb; replace HB := bst hb; clear hb hbox hg; have cn := ai.1; have cG := aj.1; have dP := cf3 aa.1) | ((with_reducible refine gate_callee (f := 22) rfl ?_); refine gC 12 Try.func22 _ (r43_Prepare.calls k av _ _ ar _ _ aq az ay au bD _ (csb aD HB) aA.1 (csb aE HB) aC.1 A2.1) ?_; rintro e dI ⟨bR, bS, rfl, br, ho1, hb⟩; refine ⟨_, rfl, ?_⟩; have al := am (Kd.R_lower br (below_size pbg)); have ao := am (Kd.S_lower ho1 (below_size pbg)); replace aa := bbh aa hb; replace ab := bbh ab hb; replace HB := bst hb; (try clear hb); (try clear br); (try clear ho1)) | ((with_reducible refine gate_dst (N := 4) rfl ?_); refine box_ev (N := 4) (cs := #[.string (⟨#[]⟩ : ByteArray), .slice none 0 0, .slice none 0 0]) (t := 25) ?_; intro aw hg dJ hbox hb; have ae := am hbox; have aR := gwb hg; have bl := aR; have ah := nlt hg aa; have ak := ngt hg aa; have af := nlt hg ab; have ap := ngt hg ab; replace al := rbw al hb; replace ao := sbw ao hb; replace aa := bbh aa hb; replace ab := bbh ab hb; replace HB := bst hb; clear hb hbox hg; have co := ak.1; have cH := ah.1; have cp := ap.1; have cI := af.1; have dQ := cf3 ae.1; obtain ⟨cO, cT, b0⟩ := Kd.R_slice al.1; subst b0; obtain ⟨cP, cU, b1⟩ := Kd.S_slice ao.1; subst b1; have dR := cf3 ab.1))
  refine bodyPost_ret (results_ct rfl _ _ ax 25 #[.string (⟨#[]⟩ : ByteArray), .slice none 0 0, .slice none 0 0] (0, 0) _ rfl (by (with_reducible repeat (first | refine blk_drewN ?_ _ | refine blk_drew ?_ | refine blk_alloc ?_ _)); refine blk_put (cs := #[.string (⟨#[]⟩ : ByteArray), .slice none 0 0, .slice none 0 0]) ?_ 2 _ rfl; (with_reducible repeat (first | refine blk_drewN ?_ _ | refine blk_drew ?_ | refine blk_alloc ?_ _)); refine blk_put (cs := #[.string (⟨#[]⟩ : ByteArray), .slice none 0 0, .slice none 0 0]) ?_ 1 _ rfl; (with_reducible repeat (first | refine blk_drewN ?_ _ | refine blk_drew ?_ | refine blk_alloc ?_ _)); refine blk_put (cs := #[.string (⟨#[]⟩ : ByteArray), .slice none 0 0, .slice none 0 0]) ?_ 0 _ rfl; (with_reducible repeat (first | refine blk_drewN ?_ _ | refine blk_drew ?_ | refine blk_alloc ?_ _)); refine bf3 ?_ af.1; exact pbk ab.1) Try.underlying25 rfl (by kernel_rfl)) rfl ?_
  exact ⟨_, _, per, knl, knl, pbg⟩
 by_cases c4 : (aq.length : Int) ≥ 24
 ·rw [if_pos c4] at H
  have bM : decide (24 ≤ (aq.length : Int)) = true := decide_eq_true c4
  have bN : decide (24 ≤ aq.length) = true := decide_eq_true (by omega)
  clear c4
  simp only [Option.some.injEq, Prod.mk.injEq] at H
  obtain ⟨rfl, rfl, rfl, rfl⟩ := H
  go_enter Try.func26, Try.ntmps26
  go_wp2_with (first | ((with_reducible refine gate_dst (N := 1) rfl ?_); refine box_ev ?_; intro a9 hg w5 hbox hb; have aa := am hbox; have aN := gwl hg; have bj := aN; replace HB := bsl hb; clear hb hbox hg) | ((with_reducible refine gate_dst (N := 2) rfl ?_); refine box_ev (N := 2) (cs := #[.string (⟨#[]⟩ : ByteArray), .slice none 0 0, .slice none 0 0]) (t := 25) ?_; intro ax hg w6 hbox hb; have ab := am hbox; have aQ := gwb hg; have bk := aQ; have ai := nlt hg aa; have aj := ngt hg aa; replace aa := bbh aa hb; replace HB := bst hb; clear hb hbox hg; have cV := ai.1; have cW := aj.1; have z8 := cf3 aa.1) | ((with_reducible refine gate_callee (f := 22) rfl ?_); refine gC 12 Try.func22 _ (r43_Prepare.calls k av _ _ ar _ _ aq az ay au bD _ (csb aD HB) aA.1 (csb aE HB) aC.1 A2.1) ?_; rintro e w9 ⟨bR, bS, rfl, br, ho1, hb⟩; refine ⟨_, rfl, ?_⟩; have al := am (Kd.R_lower br (below_size pbg)); have ao := am (Kd.S_lower ho1 (below_size pbg)); replace aa := bbh aa hb; replace ab := bbh ab hb; replace HB := bst hb; (try clear hb); (try clear br); (try clear ho1)) | ((with_reducible refine gate_dst (N := 4) rfl ?_); refine box_ev (N := 4) (cs := #[.string (⟨#[]⟩ : ByteArray), .slice none 0 0, .slice none 0 0]) (t := 25) ?_; intro aw hg dt hbox hb; have ae := am hbox; have aR := gwb hg; have bl := aR; have ah := nlt hg aa; have ak := ngt hg aa; have af := nlt hg ab; have ap := ngt hg ab; replace al := rbw al hb; replace ao := sbw ao hb; replace aa := bbh aa hb; replace ab := bbh ab hb; replace HB := bst hb; clear hb hbox hg; have b7 := ak.1; have cq := ah.1; have b8 := ap.1; have cr := af.1; have dg := cf3 ae.1; obtain ⟨cM, cR, bT⟩ := Kd.R_slice al.1; subst bT; obtain ⟨cN, cS, bU⟩ := Kd.S_slice ao.1; subst bU; have dh := cf3 aa.1; have di := cf3 ab.1))
  refine bodyPost_ret (results_ct rfl _ _ ax 25 #[.string (⟨#[]⟩ : ByteArray), .slice none 0 0, .slice none 0 0] (0, 0) _ rfl (by (with_reducible repeat (first | refine blk_drewN ?_ _ | refine blk_drew ?_ | refine blk_alloc ?_ _)); refine blk_put (cs := #[.string (⟨#[]⟩ : ByteArray), .slice none 0 0, .slice none 0 0]) ?_ 2 _ rfl; (with_reducible repeat (first | refine blk_drewN ?_ _ | refine blk_drew ?_ | refine blk_alloc ?_ _)); refine blk_put (cs := #[.string (⟨#[]⟩ : ByteArray), .slice none 0 0, .slice none 0 0]) ?_ 1 _ rfl; (with_reducible repeat (first | refine blk_drewN ?_ _ | refine blk_drew ?_ | refine blk_alloc ?_ _)); refine blk_put (cs := #[.string (⟨#[]⟩ : ByteArray), .slice none 0 0, .slice none 0 0]) ?_ 0 _ rfl; (with_reducible repeat (first | refine blk_drewN ?_ _ | refine blk_drew ?_ | refine blk_alloc ?_ _)); refine bf3 ?_ af.1; exact pbk ab.1) Try.underlying25 rfl (by kernel_rfl)) rfl ?_
  exact ⟨_, _, per, knl, knl, pbg⟩
 rw [if_neg c4] at H
 have bM : decide (24 ≤ (aq.length : Int)) = false := decide_eq_false c4
 have bN : decide (24 ≤ aq.length) = false := decide_eq_false (by omega)
 clear c4
 have bz := am H
 clear H
 go_enter Try.func26, Try.ntmps26
 go_upto_region 6 with (first | ((with_reducible refine gate_dst (N := 1) rfl ?_); refine box_ev ?_; intro a9 hg du hbox hb; have aa := am hbox; have aN := gwl hg; have bj := aN; replace HB := bsl hb; clear hb hbox hg) | ((with_reducible refine gate_dst (N := 2) rfl ?_); refine box_ev (N := 2) (cs := #[.string (⟨#[]⟩ : ByteArray), .slice none 0 0, .slice none 0 0]) (t := 25) ?_; intro ax hg dv hbox hb; have ab := am hbox; have aQ := gwb hg; have bk := aQ; have ai := nlt hg aa; have aj := ngt hg aa; replace aa := bbh aa hb; replace HB := bst hb; clear hb hbox hg; have b9 := ai.1; have cu := aj.1; have dj := cf3 aa.1) | ((with_reducible refine gate_callee (f := 22) rfl ?_); refine gC 12 Try.func22 _ (r43_Prepare.calls k av _ _ ar _ _ aq az ay au bD _ (csb aD HB) aA.1 (csb aE HB) aC.1 A2.1) ?_; rintro e dw ⟨bR, bS, rfl, br, ho1, hb⟩; refine ⟨_, rfl, ?_⟩; have al := am (Kd.R_lower br (below_size pbg)); have ao := am (Kd.S_lower ho1 (below_size pbg)); replace aa := bbh aa hb; replace ab := bbh ab hb; replace HB := bst hb; (try clear hb); (try clear br); (try clear ho1)) | ((with_reducible refine gate_dst (N := 4) rfl ?_); refine box_ev (N := 4) (cs := #[.string (⟨#[]⟩ : ByteArray), .slice none 0 0, .slice none 0 0]) (t := 25) ?_; intro aw hg dx hbox hb; have ae := am hbox; have aR := gwb hg; have bl := aR; have ah := nlt hg aa; have ak := ngt hg aa; have af := nlt hg ab; have ap := ngt hg ab; replace al := rbw al hb; replace ao := sbw ao hb; replace aa := bbh aa hb; replace ab := bbh ab hb; replace HB := bst hb; clear hb hbox hg; have ca := ak.1; have cv := ah.1; have cb := ap.1; have cw := af.1; have dk := cf3 ae.1; obtain ⟨a5, a6, bV⟩ := Kd.R_slice al.1; subst bV; obtain ⟨aJ, aK, bW⟩ := Kd.S_slice ao.1; subst bW; have dl := cf3 aa.1))
 (try simp only [Act.put, List.setIfInBounds_toArray, List.set_cons_zero, List.set_cons_succ])
 go_cut [31] (fun da wc => ∃ (kq : Nat) (aM : Bool), da = .bool aM ∧ Aside0 (r43_Close.j0 kq aM av ar aq az ay au = some (r1, r2, r3, r4)) ∧ Aside0 (kq ≤ k) ∧ Aside0 (Kd.R k52 52 wc w.heap.size (fun _ => True) (.slice a5 ay.length a6) ay) ∧ Aside0 (Kd.S k48 48 wc w.heap.size (fun _ => True) (.slice aJ au.length aK) au) ∧ Aside0 (wc.heap[a9]? = some (.cells #[.string av, (.slice bv ar.length bA), (.slice bw aq.length bB)] 25 (0, 0))) ∧ Aside0 (wc.heap[ax]? = some (.cells #[.string (⟨#[]⟩ : ByteArray), (.slice none 0 0), (.slice none 0 0)] 25 (0, 0))) ∧ Aside0 (wc.heap[aw]? = some (.cells #[.string az, (.slice a5 ay.length a6), (.slice aJ au.length aK)] 25 (0, 0))) ∧ Aside0 (Below w.heap.size w wc))
 case first =>
  have H := bz.1
  clear bz
  replace H := bnd H
  obtain ⟨bd, b5, H⟩ := H
  (try dsimp only at H)
  replace H := ifh H
  rcases H with ⟨aI, H⟩ | ⟨aI, H⟩
  ·(first | rw [aI] | (simp only [i64_w, i32_w]; rw [aI]) | skip)
   have H' := am H
   clear H
   have cd := ai.1
   have cx := aj.1
   have ce := ah.1
   have cy := ak.1
   have dm := cf3 aa.1
   go_wp2_with (first | ((with_reducible refine gate_callee (f := 46) rfl ?_); refine gC 25 Try.func46 _ (r09_Place.calls k av _ _ ar _ _ aq (⟨#[95, 99, 108, 111, 115, 101]⟩ : ByteArray) bd _ (Kd.C_below aD.1 pbg) aA.1 (Kd.C_below aE.1 pbg) aC.1 b5.1) ?_; rintro e dy ⟨rfl, hb⟩; refine ⟨_, rfl, ?_⟩; replace al := am (Kd.R_below (by (with_reducible repeat (first | apply Kd.R_alloc | apply Kd.R_drewN | apply Kd.R_drew)); exact (Kd.R_mono (fR3 aw (Kd.R_types al.1 ae.1 (by decide)) (fun _ hk => hk.2)) (fun _ h_ => h_.1))) hb); replace ao := am (Kd.S_below (by (with_reducible repeat (first | apply Kd.S_alloc | apply Kd.S_drewN | apply Kd.S_drew)); exact (Kd.S_mono (fS3 aw (Kd.S_types ao.1 ae.1 (by decide)) (fun _ hk => hk.2)) (fun _ h_ => h_.1))) hb); replace aa := bbx aa (fun h_ => by (with_reducible repeat (first | refine blk_drewN ?_ _ | refine blk_drew ?_ | refine blk_alloc ?_ _)); refine bf3 ?_ ah.1; exact pbk h_) hb; replace ab := bbx ab (fun h_ => by (with_reducible repeat (first | refine blk_drewN ?_ _ | refine blk_drew ?_ | refine blk_alloc ?_ _)); refine bf3 ?_ af.1; exact pbk h_) hb; replace ae := am (blk_below (g := aw) (o := .cells #[.string az, .slice a5 ay.length a6, .slice aJ au.length aK] 25 (0, 0)) (by (with_reducible repeat (first | refine blk_drewN ?_ _ | refine blk_drew ?_ | refine blk_alloc ?_ _)); exact bp3 (pbk ae.1)) hb); replace HB := bst hb; (try clear hb); (try clear hk)))
   go_meet
   case rel => exact ⟨_, (true), prs, H', ⟨by first | omega | exact Nat.le_refl _⟩, ⟨pkr al.1⟩, ⟨pks ao.1⟩, ⟨pbk aa.1⟩, ⟨pbk ab.1⟩, ⟨pbk ae.1⟩, ⟨pbg⟩⟩
  (first | rw [aI] | (simp only [i64_w, i32_w]; rw [aI]) | skip)
  replace H := bnd H
  obtain ⟨bf, cJ, H⟩ := H
  (try dsimp only at H)
  have H' := am H
  clear H
  have cf := ai.1
  have cz := aj.1
  have cg := ah.1
  have cA := ak.1
  have dn := cf3 aa.1
  go_wp2_with (first | ((with_reducible refine gate_callee (f := 46) rfl ?_); refine gC 25 Try.func46 _ (r09_Place.calls k av _ _ ar _ _ aq (⟨#[95, 99, 108, 111, 115, 101]⟩ : ByteArray) bd _ (Kd.C_below aD.1 pbg) aA.1 (Kd.C_below aE.1 pbg) aC.1 b5.1) ?_; rintro e dz ⟨rfl, hb⟩; refine ⟨_, rfl, ?_⟩; replace al := am (Kd.R_below (by (with_reducible repeat (first | apply Kd.R_alloc | apply Kd.R_drewN | apply Kd.R_drew)); exact (Kd.R_mono (fR3 aw (Kd.R_types al.1 ae.1 (by decide)) (fun _ hk => hk.2)) (fun _ h_ => h_.1))) hb); replace ao := am (Kd.S_below (by (with_reducible repeat (first | apply Kd.S_alloc | apply Kd.S_drewN | apply Kd.S_drew)); exact (Kd.S_mono (fS3 aw (Kd.S_types ao.1 ae.1 (by decide)) (fun _ hk => hk.2)) (fun _ h_ => h_.1))) hb); replace aa := bbx aa (fun h_ => by (with_reducible repeat (first | refine blk_drewN ?_ _ | refine blk_drew ?_ | refine blk_alloc ?_ _)); refine bf3 ?_ ah.1; exact pbk h_) hb; replace ab := bbx ab (fun h_ => by (with_reducible repeat (first | refine blk_drewN ?_ _ | refine blk_drew ?_ | refine blk_alloc ?_ _)); refine bf3 ?_ af.1; exact pbk h_) hb; replace ae := am (blk_below (g := aw) (o := .cells #[.string az, .slice a5 ay.length a6, .slice aJ au.length aK] 25 (0, 0)) (by (with_reducible repeat (first | refine blk_drewN ?_ _ | refine blk_drew ?_ | refine blk_alloc ?_ _)); exact bp3 (pbk ae.1)) hb); replace HB := bst hb; (try clear hb); (try clear hk); have dp := cf3 aa.1) | (go_at_call 47; (with_reducible refine (r09_Trans.calls k av _ _ ar _ _ aq (⟨#[95, 99, 108, 111, 115, 101]⟩ : ByteArray) bf _ ?side1 ?side2 ?side3 ?side4 cJ.1).mono ?_); (case side1 => exact csb aD HB); (case side2 => exact aA.1); (case side3 => exact csb aE HB); (case side4 => exact aC.1); rintro e dA ⟨rfl, hb⟩; replace al := rbw al hb; replace ao := sbw ao hb; replace aa := bbh aa hb; replace ab := bbh ab hb; replace ae := bbh ae hb; replace HB := bst hb; (try clear hb)))
  go_meet
  case rel => exact ⟨_, (decide (bf ≥ 0)), prs, H', ⟨by first | omega | exact Nat.le_refl _⟩, ⟨pkr al.1⟩, ⟨pks ao.1⟩, ⟨pbk aa.1⟩, ⟨pbk ab.1⟩, ⟨pbk ae.1⟩, ⟨pbg⟩⟩
 clear bz
 try clear c3 bK bL c4 bM bN dr aI dg dh di dj dk dl dm dn dp z8
 obtain ⟨kq, aM, rfl, HA, cQ, ag, ac, aa, ab, ae, HB⟩ := hcut
 obtain _ | bQ := kq
 ·exact absurd HA.1 (by simp [r43_Close.j0])
 have H := HA.1
 clear HA
 simp only [r43_Close.j0] at H
 cases aM
 rotate_left
 ·rw [if_pos rfl] at H
  simp only [Option.some.injEq, Prod.mk.injEq] at H
  obtain ⟨rfl, rfl, rfl, rfl⟩ := H
  have ch := aj.1
  have cB := ai.1
  have ci := af.1
  have cC := ap.1
  have dK := cf3 ab.1
  go_wp2
  refine bodyPost_ret (results_ct rfl _ _ ax 25 #[.string (⟨#[]⟩ : ByteArray), .slice none 0 0, .slice none 0 0] (0, 0) _ rfl (by (with_reducible repeat (first | refine blk_drewN ?_ _ | refine blk_drew ?_ | refine blk_alloc ?_ _)); exact bp3 (pbk ab.1)) Try.underlying25 rfl (by kernel_rfl)) rfl ?_
  exact ⟨_, _, per, knl, knl, pbg⟩
 rw [if_neg Bool.false_ne_true] at H
 replace H := bnd H
 obtain ⟨⟨aT, b3⟩, cK, H⟩ := H
 (try dsimp only at H)
 replace H := bnd H
 obtain ⟨⟨aV, b4⟩, cL, H⟩ := H
 (try dsimp only at H)
 obtain ⟨aW, ba⟩ : ∃ y_ : List (S55), y_ = (([(⟨aV, 1⟩ : S55)] : List (S55))) := ⟨_, rfl⟩
 replace H : (if au.length < 1466015503701 then (some (az, ay, (au ++ [(⟨(⟨#[95, 99, 108, 111, 115, 101]⟩ : ByteArray), aW, (([(⟨aT, 1⟩ : S55)] : List (S55))), ([] : List (S55)), 0⟩ : S48)]), 0)) else (none)) = some (r1, r2, r3, r4) := hrp ba H
 have bn := am ba
 clear ba
 obtain ⟨a8, bb⟩ : ∃ y_ : List (S55), y_ = (([(⟨aT, 1⟩ : S55)] : List (S55))) := ⟨_, rfl⟩
 replace H : (if au.length < 1466015503701 then (some (az, ay, (au ++ [(⟨(⟨#[95, 99, 108, 111, 115, 101]⟩ : ByteArray), aW, a8, ([] : List (S55)), 0⟩ : S48)]), 0)) else (none)) = some (r1, r2, r3, r4) := hrp bb H
 have bo := am bb
 clear bb
 replace H := ifp H
 obtain ⟨b6, H⟩ := H
 have bG := am b6
 clear b6
 obtain ⟨bi, bc⟩ : ∃ y_ : List (S48), y_ = (au ++ [(⟨(⟨#[95, 99, 108, 111, 115, 101]⟩ : ByteArray), aW, a8, ([] : List (S55)), 0⟩ : S48)]) := ⟨_, rfl⟩
 replace H : (some (az, ay, bi, 0)) = some (r1, r2, r3, r4) := hrp bc H
 have bH := am bc
 clear bc
 simp only [Option.some.injEq, Prod.mk.injEq] at H
 obtain ⟨rfl, rfl, rfl, rfl⟩ := H
 have cj := ai.1
 have cD := aj.1
 have ck := ah.1
 have cE := ak.1
 have dL := cf3 aa.1
 go_wp2_with (first | ((with_reducible refine gate_callee (f := 13) rfl ?_); refine gC 35 Try.func13 _ (r43_Source.calls bQ av _ _ ar _ _ aq aT b3 _ (csb aD HB) aA.1 (csb aE HB) aC.1 cK.1) ?_; rintro e dB ⟨rfl, hb⟩; refine ⟨_, rfl, ?_⟩; replace ag := rbw ag hb; replace ac := sbw ac hb; replace aa := bbh aa hb; replace ab := bbh ab hb; replace ae := bbh ae hb; replace HB := bst hb; (try clear hb); have z55 := cf3 aa.1) | ((with_reducible refine gate_callee (f := 15) rfl ?_); refine gC 40 Try.func15 _ (r43_Sink.calls bQ av _ _ ar _ _ aq aV b4 _ (csb aD HB) aA.1 (csb aE HB) aC.1 cL.1) ?_; rintro e dC ⟨rfl, hb⟩; refine ⟨_, rfl, ?_⟩; replace ag := rbw ag hb; replace ac := sbw ac hb; replace aa := bbh aa hb; replace ab := bbh ab hb; replace ae := bbh ae hb; replace HB := bst hb; (try clear hb); have cm := ap.1; have cF := af.1; have dM := cf3 ae.1) | ((with_reducible refine gate_dst (N := 47) rfl ?_); refine Kd.R_lit k55 _ 55 ?hg (N := 47) ?hd (xs := ([(⟨aV, 1⟩ : S55)] : List (S55))) (inner := [.int .i64 aV, .int .i64 1]) (ok := fun _ => True) (okp := fun _ => True) ?hr ?hp (fun _ hk => hk) trivial (Below.refl _ _) (Nat.le_refl _) (by simp) ?_; (case hd => rfl); (case hg => rfl); (case hr => first | (go_simp; done) | (go_simp; rfl)); (case hp => exact (Reps.c2 (show Kd.M k55 _ _ _ (⟨aV, 1⟩ : S55) [.int .i64 aV, .int .i64 1] from (k55_mkM _ _ _ (⟨aV, 1⟩ : S55) )) (Reps.none _ _))); intro db dD a7 hb hg_ hnew_; clear hg_ hnew_; (first | rw [← bn.1] at a7 | (simp only [Int.reduceToNat] at a7; rw [← bn.1] at a7)); have aH := am (Kd.R_lower a7 (below_size pbg)); replace ag := rbw ag hb; replace ac := am (Kd.S_elder' (pks ac.1) (Kd.R_base a7) hb); replace aa := bbh aa hb; replace ab := bbh ab hb; replace ae := bbh ae hb; replace HB := bst hb; clear hb a7) | ((with_reducible refine gate_dst (N := 50) rfl ?_); refine Kd.R_lit k55 _ 55 ?hg (N := 50) ?hd (xs := ([(⟨aT, 1⟩ : S55)] : List (S55))) (inner := [.int .i64 aT, .int .i64 1]) (ok := fun _ => True) (okp := fun _ => True) ?hr ?hp (fun _ hk => hk) trivial (Below.refl _ _) (Nat.le_refl _) (by simp) ?_; (case hd => rfl); (case hg => rfl); (case hr => first | (go_simp; done) | (go_simp; rfl)); (case hp => exact (Reps.c2 (show Kd.M k55 _ _ _ (⟨aT, 1⟩ : S55) [.int .i64 aT, .int .i64 1] from (k55_mkM _ _ _ (⟨aT, 1⟩ : S55) )) (Reps.none _ _))); intro dc dE aU hb hg_ hnew_; clear hg_ hnew_; (first | rw [← bo.1] at aU | (simp only [Int.reduceToNat] at aU; rw [← bo.1] at aU)); have aX := am (Kd.R_lower (Kd.R_new' aU (Kd.R_lt (pkr aH.1))) (below_size pbg)); replace ag := rbw ag hb; replace ac := am (Kd.S_elder' (pks ac.1) (Kd.R_base aU) hb); replace aH := am (Kd.R_elder' (pkr aH.1) (Kd.R_base aU) hb); replace aa := bbh aa hb; replace ab := bbh ab hb; replace ae := bbh ae hb; replace HB := bst hb; clear hb aU; obtain ⟨bE, bO, bX⟩ := Kd.R_slice aX.1; subst bX; obtain ⟨bF, bP, bY⟩ := Kd.R_slice aH.1; subst bY) | ((with_reducible refine gate_builtin (b := .append) (xs := #[.tmp 44, .tmp 52]) rfl ?_); at_builtin; refine Kd.S_append k48 (w0 := w) w.heap.size rfl (.tmp 44) (.tmp 52) 23 48 (.agg #[(.string ⟨#[]⟩), (.slice none 0 0), (.slice none 0 0), (.slice none 0 0), (.int .i64 0)]) 96 rfl Try.underlying23 info48 rfl (by decide) (by omega) (.slice aJ au.length aK) au (⟨(⟨#[95, 99, 108, 111, 115, 101]⟩ : ByteArray), aW, a8, ([] : List (S55)), 0⟩ : S48) [.string (⟨#[95, 99, 108, 111, 115, 101]⟩ : ByteArray), .slice bF aW.length bP, .slice bE a8.length bO, .slice none 0 0, .int .i64 0] (fun _ => True) (fun k_ => some k_ = (.slice bF aW.length bP : Value).ownBlock ∨ some k_ = (.slice bE a8.length bO : Value).ownBlock) rfl rfl ?aP (fun k_ hk_ => hk_.elim (fun h_ => ((Kd.R_mono (ok' := fun k_ => ((fun _ => True)) k_ ∧ some k_ ≠ (.slice aJ au.length aK : Value).ownBlock) (Kd.R_apart' (aH.1) (Kd.S_typed ac.1) (by decide)) (fun k_ hk => ⟨trivial, hk.2⟩))).1 k_ h_.symm) (fun h_ => ((Kd.R_mono (ok' := fun k_ => ((fun _ => True)) k_ ∧ some k_ ≠ (.slice aJ au.length aK : Value).ownBlock) (Kd.R_apart' (aX.1) (Kd.S_typed ac.1) (by decide)) (fun k_ hk => ⟨trivial, hk.2⟩))).1 k_ h_.symm)) ?aF ?aO ?aB ?aS ?aL ?_; (case aP => exact k48_mkM _ _ _ (⟨(⟨#[95, 99, 108, 111, 115, 101]⟩ : ByteArray), aW, a8, ([] : List (S55)), 0⟩ : S48) (Kd.R_mono (Kd.R_tight rfl (Kd.R_mono (ok' := fun k_ => ((fun _ => True)) k_ ∧ some k_ ≠ (.slice aJ au.length aK : Value).ownBlock) (Kd.R_apart' (aH.1) (Kd.S_typed ac.1) (by decide)) (fun k_ hk => ⟨trivial, hk.2⟩))) (fun _ h_ => Or.inl h_)) (Kd.R_mono (Kd.R_tight rfl (Kd.R_mono (ok' := fun k_ => ((fun _ => True)) k_ ∧ some k_ ≠ (.slice aJ au.length aK : Value).ownBlock) (Kd.R_apart' (aX.1) (Kd.S_typed ac.1) (by decide)) (fun k_ hk => ⟨trivial, hk.2⟩))) (fun _ h_ => Or.inr (h_))) (Kd.R_nil _ _ _ _ _)); (case aB => exact pbg); (case aF => exact (fun _ _ => trivial)); (case aO => exact (by (with_reducible repeat (first | apply Kd.S_alloc | apply Kd.S_drewN | apply Kd.S_drew)); exact Kd.S_mono ac.1 (fun k_ hk => ⟨trivial, fun e_ => e_.elim (fun h_ => hk.1.2 h_) (fun h_ => hk.2 h_)⟩))); (case aS => exact (below_size pbg)); (case aL => have := bG.1; omega); intro de dF ho hb hg hat; rw [← bH.1] at ho; have bm := am ho; replace ag := am (Kd.R_over' (pkr ag.1) (Kd.S_typed (pks ac.1)) (by decide) hg); replace aa := (bgr aa hg (Kd.S_ne ac.1 aa.1 (by decide))); replace ab := (bgr ab hg (Kd.S_ne ac.1 ab.1 (by decide))); replace ae := (bgr ae hg (Kd.S_ne ac.1 ae.1 (by decide))); replace HB := am hb; (try clear ac aH aX); clear ho hb hg hat; obtain ⟨bx, bC, bZ⟩ := Kd.S_slice bm.1; subst bZ; have dN := cf3 ae.1; have dO := cf3 ab.1))
 refine bodyPost_ret (results_ct rfl _ _ ax 25 #[.string az, .slice a5 ay.length a6, .slice bx bi.length bC] (0, 0) _ rfl (by (with_reducible repeat (first | refine blk_drewN ?_ _ | refine blk_drew ?_ | refine blk_alloc ?_ _)); refine blk_put (cs := #[.string az, .slice a5 ay.length a6, .slice none 0 0]) ?_ 2 _ rfl; (with_reducible repeat (first | refine blk_drewN ?_ _ | refine blk_drew ?_ | refine blk_alloc ?_ _)); refine blk_put (cs := #[.string az, .slice none 0 0, .slice none 0 0]) ?_ 1 _ rfl; (with_reducible repeat (first | refine blk_drewN ?_ _ | refine blk_drew ?_ | refine blk_alloc ?_ _)); refine blk_put (cs := #[.string (⟨#[]⟩ : ByteArray), .slice none 0 0, .slice none 0 0]) ?_ 0 _ rfl; (with_reducible repeat (first | refine blk_drewN ?_ _ | refine blk_drew ?_ | refine blk_alloc ?_ _)); refine blk_far ?_ af.1 _; exact pbk ab.1) Try.underlying25 rfl (by kernel_rfl)) rfl ?_
 exact ⟨_, _, per, by (with_reducible repeat (first | apply Kd.R_alloc | apply Kd.R_drewN | apply Kd.R_drew)); exact Kd.R_mono (fR3 ax (Kd.R_far (p := ⟨aw, 2, none⟩) (Kd.R_types (Kd.R_types ag.1 ae.1 (by decide)) ab.1 (by decide)) (fun _ hk => hk.1.2) (.slice bx bi.length bC)) (fun _ hk => hk.2)) (fun _ hk => trivial), by (with_reducible repeat (first | apply Kd.S_alloc | apply Kd.S_drewN | apply Kd.S_drew)); exact Kd.S_mono (fS3 ax (Kd.S_far (p := ⟨aw, 2, none⟩) (Kd.S_types (Kd.S_types bm.1 ae.1 (by decide)) ab.1 (by decide)) (fun _ hk => hk.1.2) (.slice bx bi.length bC)) (fun _ hk => hk.2)) (fun _ hk => trivial), pbg⟩

/-! ### r09_SameArcs: function 48 -/
attribute [local go_sem high] eqA52 eqA55
def r09_SameArcs.l0 : Nat → List (S55) → List (S55) → Int → Option (Bool)
 | 0, _, _, _ => none
 | k + 1, x0, x1, x5 => if x5 < (x0.length : Int) then (if 0 ≤ x5 then (if x5 < (x1.length : Int) then (if (!(((rd_T55 x0 x5).f0) == ((rd_T55 x1 x5).f0)) || (!(((rd_T55 x0 x5).f1) == ((rd_T55 x1 x5).f1)))) = true then (some false) else (r09_SameArcs.l0 k x0 x1 (wrap64 (x5 + 1)))) else (none)) else (none)) else (some true)
def r09_SameArcs.f (k : Nat) (l0 : List (S55)) (l1 : List (S55)) : Option (Bool) := if (l0.length : Int) = (l1.length : Int) then (r09_SameArcs.l0 k l0 l1 0) else (some false)
theorem r09_SameArcs.mono_l : ∀ k, M3 r09_SameArcs.l0 k
 | 0 => fun _ _ _ r h => by simp [r09_SameArcs.l0] at h
 | k + 1 => by
  have ar := r09_SameArcs.mono_l k
  ·intro y0 y1 y2
   unfold r09_SameArcs.l0
   repeat' first | (with_reducible first | apply ar | apply lr | apply ln | apply li | refine lb ?_ fun _ => ?_)
theorem r09_SameArcs.mono : ∀ a0 a1 k, LeO (r09_SameArcs.f k a0 a1) (r09_SameArcs.f (k + 1) a0 a1) := by
 intro a0 a1 k
 have ar := r09_SameArcs.mono_l k
 unfold r09_SameArcs.f
 repeat' first | (with_reducible first | apply ar | apply lr | apply ln | apply li | refine lb ?_ fun _ => ?_)
set_option maxHeartbeats 8000000 in
set_option maxRecDepth 100000 in
theorem r09_SameArcs.calls (k : Nat) (A0 : Option Addr) (c0 : Nat) (l0 : List (S55)) (A1 : Option Addr) (c1 : Nat) (l1 : List (S55)) (r : Bool) (w : World) (aC : Kd.C k55 w A0 l0.length l0) (hc0 : l0.length ≤ c0) (hr1 : Kd.C k55 w A1 l1.length l1) (aB : l1.length ≤ c1) (h : r09_SameArcs.f k l0 l1 = some r) :
  Calls Try.prog 48 #[.slice A0 l0.length c0, .slice A1 l1.length c1] w fun e w' => e = .returned (.bool r) ∧ Drawn0 w w' := by
 have aF := Try.underlying55
 have az := am aC
 have aG := am hc0
 clear aC hc0
 have aA := am hr1
 have aH := am aB
 clear hr1 aB
 have H := h
 unfold r09_SameArcs.f at H
 clear h
 by_cases c3 : (l0.length : Int) = (l1.length : Int)
 rotate_left
 ·rw [if_neg c3] at H
  have ak : ((l0.length : Int) == (l1.length : Int)) = false := beq_eq_false_iff_ne.mpr c3
  have al : ((l0.length : Int) != (l1.length : Int)) = true := bne_iff_ne.mpr c3
  have ao : (l0.length == l1.length) = false := by first | simpa using c3 | (simp at c3 ⊢; omega)
  obtain rfl := Option.some.inj H
  go_enter Try.func48, Try.ntmps48
  go_wp2
  repeat (go_quiet (fail); try go_wp2)
  go_ret
  exact ⟨prs, pdr⟩
 rw [if_pos c3] at H
 have ak : ((l0.length : Int) == (l1.length : Int)) = true := beq_iff_eq.mpr c3
 have al : ((l0.length : Int) != (l1.length : Int)) = false := bne_eq_false_iff_eq.mpr c3
 have ao : (l0.length == l1.length) = true := by first | simpa using c3 | (simp at c3 ⊢; omega)
 clear c3
 have H' := am H
 clear H
 go_enter Try.func48, Try.ntmps48
 go_wp2
 repeat (go_quiet (fail); try go_wp2)
 go_loopg [5] k (fun kq v5 w' => ∃ (aa : Int), v5 = .int .i64 aa ∧ Aside0 (r09_SameArcs.l0 kq l0 l1 aa = some r) ∧ Aside0 (kq ≤ k) ∧ Drawn0 w w')
 case atStart => exact ⟨(0), prs, H', ⟨Nat.le_refl _⟩, pdr⟩
 clear H'
 try clear c1 c3 ak al ao
 obtain ⟨aa, rfl, HA, ay, ⟨m1, rfl⟩⟩ := hrel
 obtain _ | k1 := gk
 ·exact absurd HA.1 (by simp [r09_SameArcs.l0])
 have H := HA.1
 clear HA
 simp only [r09_SameArcs.l0] at H
 replace H := ifl H
 rcases H with ⟨ap, H⟩ | ⟨ap, H⟩
 rotate_left
 ·obtain rfl := Option.some.inj H
  go_wp2
  repeat (go_quiet (fail); try go_wp2)
  go_ret
  exact ⟨prs, pdr⟩
 replace H := ifp H
 obtain ⟨c5, H⟩ := H
 have aD := decide_eq_true c5
 clear c5
 replace H := ifp H
 obtain ⟨c6, H⟩ := H
 have aE := decide_eq_true c6
 clear c6
 by_cases c7 : (!(((rd_T55 l0 aa).f0) == ((rd_T55 l1 aa).f0)) || (!(((rd_T55 l0 aa).f1) == ((rd_T55 l1 aa).f1)))) = true
 ·rw [if_pos c7] at H
  have aq : (!(((rd_T55 l0 aa).f0) == ((rd_T55 l1 aa).f0)) || (!(((rd_T55 l0 aa).f1) == ((rd_T55 l1 aa).f1)))) = true := c7
  clear c7
  obtain rfl := Option.some.inj H
  obtain ⟨au, aw, ai, ag, ab, ac⟩ := dT55 az.1 aa
  cases ag
  obtain ⟨av, ax, aj, ah, ae, af⟩ := dT55 aA.1 aa
  cases ah
  go_wp2
  repeat (go_quiet (fail); try go_wp2)
  go_ret
  exact ⟨prs, pdr⟩
 rw [if_neg c7] at H
 have aq : (!(((rd_T55 l0 aa).f0) == ((rd_T55 l1 aa).f0)) || (!(((rd_T55 l0 aa).f1) == ((rd_T55 l1 aa).f1)))) = false := by simpa using c7
 clear c7
 have H' := am H
 clear H
 obtain ⟨au, aw, ai, ag, ab, ac⟩ := dT55 az.1 aa
 cases ag
 obtain ⟨av, ax, aj, ah, ae, af⟩ := dT55 aA.1 aa
 cases ah
 go_wp2
 repeat (go_quiet (fail); try go_wp2)
 go_roundg k1
 case measure => have := ay.1; omega
 case rel => exact ⟨(wrap64 (aa + 1)), prs, H', ⟨by have := ay.1; omega⟩, pdr⟩

/-! ### r09_Equal: function 27 -/
attribute [local go_sem high] eqA52 eqA55
mutual
def r09_Equal.j0 : Nat → Bool → ByteArray → List (S52) → List (S48) → ByteArray → List (S52) → List (S48) → Option (Bool)
 | 0, _, _, _, _, _, _, _ => none
 | k + 1, gH, bd, a7, aP, bf, a8, aQ => if gH = true then (some false) else (r09_Equal.l0 k 0 bd a7 aP bf a8 aQ)
def r09_Equal.l0 : Nat → Int → ByteArray → List (S52) → List (S48) → ByteArray → List (S52) → List (S48) → Option (Bool)
 | 0, _, _, _, _, _, _, _ => none
 | k + 1, x5, bd, a7, aP, bf, a8, aQ => if x5 < (a7.length : Int) then (if 0 ≤ x5 then (if x5 < (a8.length : Int) then (if (!((((rd_T52 a7 x5).f0).toList) == (((rd_T52 a8 x5).f0).toList)) || (!(((rd_T52 a7 x5).f1) == ((rd_T52 a8 x5).f1)) || (!(((rd_T52 a7 x5).f2) == ((rd_T52 a8 x5).f2))))) = true then (some false) else (r09_Equal.l0 k (wrap64 (x5 + 1)) bd a7 aP bf a8 aQ)) else (none)) else (none)) else (r09_Equal.l1 k 0 bd a7 aP bf a8 aQ)
def r09_Equal.l1 : Nat → Int → ByteArray → List (S52) → List (S48) → ByteArray → List (S52) → List (S48) → Option (Bool)
 | 0, _, _, _, _, _, _, _ => none
 | k + 1, x6, bd, a7, aP, bf, a8, aQ => if x6 < (aP.length : Int) then (if 0 ≤ x6 then (if x6 < (aQ.length : Int) then (if ((rd_T48 aP x6).f0).toList = ((rd_T48 aQ x6).f0).toList then (if ((rd_T48 aP x6).f4) = ((rd_T48 aQ x6).f4) then ((r09_SameArcs.f k ((rd_T48 aP x6).f1) ((rd_T48 aQ x6).f1)).bind fun cR => (if cR = true then ((r09_SameArcs.f k ((rd_T48 aP x6).f2) ((rd_T48 aQ x6).f2)).bind fun cS => (if cS = true then ((r09_SameArcs.f k ((rd_T48 aP x6).f3) ((rd_T48 aQ x6).f3)).bind fun cT => (if cT = true then (r09_Equal.l1 k (wrap64 (x6 + 1)) bd a7 aP bf a8 aQ) else (some false))) else (some false))) else (some false))) else (some false)) else (some false)) else (none)) else (none)) else (some true)
end
def r09_Equal.f (k : Nat) (a9 : ByteArray) (az : List (S52)) (av : List (S48)) (ba : ByteArray) (aA : List (S52)) (aw : List (S48)) : Option (Bool) := if a9.toList = ba.toList then (if (az.length : Int) = (aA.length : Int) then (r09_Equal.j0 k ((av.length : Int) != (aw.length : Int)) a9 az av ba aA aw) else (r09_Equal.j0 k true a9 az av ba aA aw)) else (r09_Equal.j0 k true a9 az av ba aA aw)
theorem r09_Equal.mono_l : ∀ k, M7 r09_Equal.j0 k ∧ M7 r09_Equal.l0 k ∧ M7 r09_Equal.l1 k
 | 0 => ⟨fun _ _ _ _ _ _ _ r h => by simp [r09_Equal.j0] at h, fun _ _ _ _ _ _ _ r h => by simp [r09_Equal.l0] at h, fun _ _ _ _ _ _ _ r h => by simp [r09_Equal.l1] at h⟩
 | k + 1 => by
  obtain ⟨fb, fc, fd⟩ := r09_Equal.mono_l k
  refine ⟨?_, ?_, ?_⟩ <;> dsimp only [M7] <;> intros <;> (first | unfold r09_Equal.j0 | unfold r09_Equal.l0 | unfold r09_Equal.l1) <;> repeat' first | (with_reducible first | apply fb | apply fc | apply fd | apply r09_SameArcs.mono | apply lr | apply ln | apply li | refine lb ?_ fun _ => ?_)
theorem r09_Equal.mono : ∀ a0 a1 a2 a3 a4 a5 k, LeO (r09_Equal.f k a0 a1 a2 a3 a4 a5) (r09_Equal.f (k + 1) a0 a1 a2 a3 a4 a5) := by
 intro a0 a1 a2 a3 a4 a5 k
 obtain ⟨fb, fc, fd⟩ := r09_Equal.mono_l k
 unfold r09_Equal.f
 repeat' first | (with_reducible first | apply fb | apply fc | apply fd | apply r09_SameArcs.mono | apply lr | apply ln | apply li | refine lb ?_ fun _ => ?_)
def r09_Equal.T6 : Bool × List (List Nat × List Nat) := (true, [([], []), ([0], [0]), ([], []), ([1, 2], [1, 2]), ([3], [3]), ([], []), ([5], [5]), ([], []), ([6, 7], [6, 7]), ([8], [8]), ([4, 9], [4, 9])])
def r09_Equal.B6 : List Nat := [0, 1, 0, 7, 15, 0, 32, 0, 224, 480, 1023]
theorem r09_Equal.tab6 : rtab .any (opsOf Try.f27 6) = r09_Equal.T6 := by kernel_rfl
theorem r09_Equal.bits6 : waitsOk r09_Equal.T6.2 r09_Equal.B6 = true := by kernel_rfl
def r09_Equal.T11 : Bool × List (List Nat × List Nat) := (true, [([], []), ([0], [0]), ([], []), ([1, 2], [1, 2]), ([3], [3]), ([], []), ([5], [5]), ([], []), ([6, 7], [6, 7]), ([8], [8]), ([], []), ([], []), ([10, 4, 0, 1, 2, 3, 4, 10, 11], [4, 10]), ([11, 9, 12, 0, 1, 2, 3, 4, 5, 6, 7, 8, 9, 10, 11, 12], [9, 11])])
def r09_Equal.B11 : List Nat := [0, 1, 0, 7, 15, 0, 32, 0, 224, 480, 0, 0, 3103, 8191]
theorem r09_Equal.tab11 : rtab .any (opsOf Try.f27 11) = r09_Equal.T11 := by kernel_rfl
theorem r09_Equal.bits11 : waitsOk r09_Equal.T11.2 r09_Equal.B11 = true := by kernel_rfl
set_option maxHeartbeats 8000000 in
set_option maxRecDepth 100000 in
theorem r09_Equal.calls (k : Nat) (a9 : ByteArray) (bD : Option Addr) (bj : Nat) (az : List (S52)) (bU : Option Addr) (bk : Nat) (av : List (S48)) (ba : ByteArray) (bE : Option Addr) (bl : Nat) (aA : List (S52)) (bV : Option Addr) (bm : Nat) (aw : List (S48)) (r : Bool) (w : World) (cF : Kd.C k52 w bD az.length az) (cB : az.length ≤ bj) (cG : Kd.C k48 w bU av.length av) (cC : av.length ≤ bk) (cH : Kd.C k52 w bE aA.length aA) (cD : aA.length ≤ bl) (cI : Kd.C k48 w bV aw.length aw) (cE : aw.length ≤ bm) (h : r09_Equal.f k a9 az av ba aA aw = some r) :
  Calls Try.prog 27 #[.agg #[.string a9, .slice bD az.length bj, .slice bU av.length bk], .agg #[.string ba, .slice bE aA.length bl, .slice bV aw.length bm]] w fun e w' => e = .returned (.bool r) ∧ Below w.heap.size w w' := by
 have gA := Try.underlying25
 have gD := Try.underlying52
 have gB := Try.underlying48
 have cx := am cF
 have fm := am cB
 clear cF cB
 have cW := am cG
 have fo := am cC
 clear cG cC
 have cy := am cH
 have fp := am cD
 clear cH cD
 have cX := am cI
 have fq := am cE
 clear cI cE
 have HB := am (Below.refl w.heap.size w)
 have H := h
 unfold r09_Equal.f at H
 clear h
 have en := am H
 clear H
 go_enter Try.func27, Try.ntmps27
 go_upto_region 1 with (first | ((with_reducible refine gate_dst (N := 2) rfl ?_); (try (refine gate_guard (by rfl) ?_; dsimp only)); refine box_ev ?_; intro aB hg w4 hbox hb; have ab := am hbox; have cU := gwl hg; have fk := cU; replace HB := bsl hb; clear hb hbox hg) | ((with_reducible refine gate_dst (N := 3) rfl ?_); (try (refine gate_guard (by rfl) ?_; dsimp only)); refine box_ev ?_; intro aC hg w5 hbox hb; have ac := am hbox; have cV := gwb hg; have fl := cV; have aR := nlt hg ab; have aS := ngt hg ab; replace ab := bbh ab hb; replace HB := bst hb; clear hb hbox hg))
 (try simp only [Act.put, List.setIfInBounds_toArray, List.set_cons_zero, List.set_cons_succ])
 go_cut [31] (fun gE wc => ∃ (kq : Nat) (cq : Bool), gE = .bool cq ∧ Aside0 (r09_Equal.j0 kq cq a9 az av ba aA aw = some r) ∧ Aside0 (kq ≤ k) ∧ Aside0 (wc.heap[aB]? = some (.cells #[.string a9, (.slice bD az.length bj), (.slice bU av.length bk)] 25 (0, 0))) ∧ Aside0 (wc.heap[aC]? = some (.cells #[.string ba, (.slice bE aA.length bl), (.slice bV aw.length bm)] 25 (0, 0))) ∧ Aside0 (Below w.heap.size w wc))
 case first =>
  have H := en.1
  clear en
  by_cases c6 : a9.toList = ba.toList
  rotate_left
  ·rw [if_neg c6] at H
   have bP : (a9.toList == ba.toList) = false := beq_eq_false_iff_ne.mpr c6
   have cr : (a9.toList != ba.toList) = true := bne_iff_ne.mpr c6
   (first | rw [bP] | (simp only [i64_w, i32_w]; rw [bP]) | skip)
   have H' := am H
   clear H
   have fJ := aR.1
   have fZ := aS.1
   have fh := cf3 ab.1
   have fi := cf3 ac.1
   go_wp2
   go_meet
   case rel => exact ⟨_, (true), prs, H', ⟨by first | omega | exact Nat.le_refl _⟩, ⟨pbk ab.1⟩, ⟨pbk ac.1⟩, ⟨pbg⟩⟩
  rw [if_pos c6] at H
  have bP : (a9.toList == ba.toList) = true := beq_iff_eq.mpr c6
  have cr : (a9.toList != ba.toList) = false := bne_eq_false_iff_eq.mpr c6
  clear c6
  (first | rw [bP] | (simp only [i64_w, i32_w]; rw [bP]) | skip)
  by_cases c7 : (az.length : Int) = (aA.length : Int)
  rotate_left
  ·rw [if_neg c7] at H
   have cu : ((az.length : Int) == (aA.length : Int)) = false := beq_eq_false_iff_ne.mpr c7
   have cv : ((az.length : Int) != (aA.length : Int)) = true := bne_iff_ne.mpr c7
   have cw : (az.length == aA.length) = false := by first | simpa using c7 | (simp at c7 ⊢; omega)
   have H' := am H
   clear H
   have fI := aR.1
   have fY := aS.1
   have ff := cf3 ab.1
   have fg := cf3 ac.1
   go_wp2
   go_meet
   case rel => exact ⟨_, (true), prs, H', ⟨by first | omega | exact Nat.le_refl _⟩, ⟨pbk ab.1⟩, ⟨pbk ac.1⟩, ⟨pbg⟩⟩
  rw [if_pos c7] at H
  have cu : ((az.length : Int) == (aA.length : Int)) = true := beq_iff_eq.mpr c7
  have cv : ((az.length : Int) != (aA.length : Int)) = false := bne_eq_false_iff_eq.mpr c7
  have cw : (az.length == aA.length) = true := by first | simpa using c7 | (simp at c7 ⊢; omega)
  clear c7
  have H' := am H
  clear H
  have gm := aR.1
  have gn := aS.1
  have z9 := cf3 ab.1
  have fe := cf3 ac.1
  go_wp2
  go_meet
  case rel => exact ⟨_, (((av.length : Int) != (aw.length : Int))), prs, H', ⟨by first | omega | exact Nat.le_refl _⟩, ⟨pbk ab.1⟩, ⟨pbk ac.1⟩, ⟨pbg⟩⟩
 clear en
 try clear c6 bP cr c7 cu cv cw fe ff fg fh fi z9
 obtain ⟨kq, cq, rfl, HA, dh, ab, ac, HB⟩ := hcut
 obtain _ | gl := kq
 ·exact absurd HA.1 (by simp [r09_Equal.j0])
 have H := HA.1
 clear HA
 simp only [r09_Equal.j0] at H
 cases cq
 rotate_left
 ·rw [if_pos rfl] at H
  obtain rfl := Option.some.inj H
  go_wp2
  go_ret
  exact ⟨per, pbg⟩
 rw [if_neg Bool.false_ne_true] at H
 have H' := am H
 clear H
 go_wp2
 go_loopg [5] gl (fun kq v5 w' => ∃ (ao : Int), v5 = .int .i64 ao ∧ Aside0 (r09_Equal.l0 kq ao a9 az av ba aA aw = some r) ∧ Aside0 (kq ≤ gl) ∧ Aside0 (w'.heap[aB]? = some (.cells #[.string a9, (.slice bD az.length bj), (.slice bU av.length bk)] 25 (0, 0))) ∧ Aside0 (w'.heap[aC]? = some (.cells #[.string ba, (.slice bE aA.length bl), (.slice bV aw.length bm)] 25 (0, 0))) ∧ Aside0 (Below w.heap.size w w'))
 case atStart => exact ⟨(0), prs, H', ⟨Nat.le_refl _⟩, ⟨pbk ab.1⟩, ⟨pbk ac.1⟩, ⟨pbg⟩⟩
 clear H'
 try clear c6 bP cr c7 cu cv cw fe ff fg fh fi z9
 obtain ⟨ao, rfl, HA, di, ab, ac, HB⟩ := hrel
 obtain _ | k2 := gk
 ·exact absurd HA.1 (by simp [r09_Equal.l0])
 have H := HA.1
 clear HA
 simp only [r09_Equal.l0] at H
 replace H := ifl H
 rcases H with ⟨cz, H⟩ | ⟨cz, H⟩
 ·replace H := ifp H
  obtain ⟨eo, H⟩ := H
  have cY := decide_eq_true eo
  clear eo
  replace H := ifp H
  obtain ⟨ep, H⟩ := H
  have cZ := decide_eq_true ep
  clear ep
  by_cases cJ : (!((((rd_T52 az ao).f0).toList) == (((rd_T52 aA ao).f0).toList)) || (!(((rd_T52 az ao).f1) == ((rd_T52 aA ao).f1)) || (!(((rd_T52 az ao).f2) == ((rd_T52 aA ao).f2))))) = true
  ·rw [if_pos cJ] at H
   have cA : (!((((rd_T52 az ao).f0).toList) == (((rd_T52 aA ao).f0).toList)) || (!(((rd_T52 az ao).f1) == ((rd_T52 aA ao).f1)) || (!(((rd_T52 az ao).f2) == ((rd_T52 aA ao).f2))))) = true := cJ
   clear cJ
   obtain rfl := Option.some.inj H
   have fK := aR.1
   have f5 := aS.1
   have gR := cf3 ab.1
   try go_wp2
   replace ab := am (blk_drew ab.1)
   replace ac := am (blk_drew ac.1)
   replace HB := am (below_drew1 HB.1)
   have bQ : 0 ≤ (ao : Int) := dq
   have bS : ao < (az.length : Int) := dq
   obtain ⟨bb, cL, aV, aW, aX⟩ := at_T52 cx.1 ao bQ bS
   have bL := aX
   have bK := aW
   have bJ := aV
   cases cL
   replace aV := cbl HB.1 aV
   replace aW := cbl HB.1 aW
   replace aX := cbl HB.1 aX
   replace bQ := eq_true bQ
   replace bS := eq_true bS
   have bR : 0 ≤ (ao : Int) := dq
   have bT : ao < (aA.length : Int) := dq
   obtain ⟨bc, cM, aY, aZ, a6⟩ := at_T52 cy.1 ao bR bT
   have bO := a6
   have bN := aZ
   have bM := aY
   cases cM
   replace aY := cbl HB.1 aY
   replace aZ := cbl HB.1 aZ
   replace a6 := cbl HB.1 a6
   replace bR := eq_true bR
   replace bT := eq_true bT
   refine start_ (n := 11) (S := fun w' => w'.cell? ⟨aB, 0, none⟩ = some (.string a9) ∧ w'.cell? ⟨aB, 1, none⟩ = some (.slice (some bb) az.length bj) ∧ w'.cell? ⟨aB, 2, none⟩ = some (.slice bU av.length bk) ∧ w'.cell? ⟨aC, 0, none⟩ = some (.string ba) ∧ w'.cell? ⟨aC, 1, none⟩ = some (.slice (some bc) aA.length bl) ∧ w'.cell? ⟨aC, 2, none⟩ = some (.slice bV aw.length bm) ∧ w'.cell? (bb.add ((ao).toNat * 3)) = some (.string ((rd_T52 az ao).f0)) ∧ w'.cell? ⟨(bb.add ((ao).toNat * 3)).block, (bb.add ((ao).toNat * 3)).off + 1, none⟩ = some (.int .i64 ((rd_T52 az ao).f1)) ∧ w'.cell? ⟨(bb.add ((ao).toNat * 3)).block, (bb.add ((ao).toNat * 3)).off + 2, none⟩ = some (.int .i64 ((rd_T52 az ao).f2)) ∧ w'.cell? (bc.add ((ao).toNat * 3)) = some (.string ((rd_T52 aA ao).f0)) ∧ w'.cell? ⟨(bc.add ((ao).toNat * 3)).block, (bc.add ((ao).toNat * 3)).off + 1, none⟩ = some (.int .i64 ((rd_T52 aA ao).f1)) ∧ w'.cell? ⟨(bc.add ((ao).toNat * 3)).block, (bc.add ((ao).toNat * 3)).off + 2, none⟩ = some (.int .i64 ((rd_T52 aA ao).f2))) (ds := []) #[false, false, false, false, false, false, false, false, false, false, false] (by kernel_rfl) rfl rfl ⟨(blk_cell ab.1 0).trans rfl, (blk_cell ab.1 1).trans rfl, (blk_cell ab.1 2).trans rfl, (blk_cell ac.1 0).trans rfl, (blk_cell ac.1 1).trans rfl, (blk_cell ac.1 2).trans rfl, (cbl HB.1 bJ), (cbl HB.1 bK), (cbl HB.1 bL), (cbl HB.1 bM), (cbl HB.1 bN), (cbl HB.1 bO)⟩ (fun hHeld => ?_); refine with_tabW r09_Equal.tab6 r09_Equal.bits6 (fun HT_ HW_ => ?_)
   generalize wr.drew = gV at ab ac HB aV aW aX aY aZ a6 hHeld ⊢
   refine pu HT_.1 0 39 ?_
   refine pu HT_.1 2 41 ?_
   refine pu HT_.1 5 44 ?_
   refine pu HT_.1 7 46 ?_
   refine tk HT_.1 HW_.1 hHeld 1 40 ?_
   refine pu HT_.1 3 42 ?_
   refine tk HT_.1 HW_.1 hHeld 4 43 ?_
   refine tk HT_.1 HW_.1 hHeld 6 45 ?_
   refine pu HT_.1 8 47 ?_
   refine tk HT_.1 HW_.1 hHeld 9 48 ?_
   refine pu HT_.1 10 49 ?_
   refine done_ (done_of HT_.1 (by kernel_rfl)) ?_
   try go_wp2
   go_ret
   exact ⟨per, pbg⟩
  rw [if_neg cJ] at H
  have cA : (!((((rd_T52 az ao).f0).toList) == (((rd_T52 aA ao).f0).toList)) || (!(((rd_T52 az ao).f1) == ((rd_T52 aA ao).f1)) || (!(((rd_T52 az ao).f2) == ((rd_T52 aA ao).f2))))) = false := by simpa using cJ
  clear cJ
  have H' := am H
  clear H
  have fL := aR.1
  have f6 := aS.1
  have gS := cf3 ab.1
  try go_wp2
  replace ab := am (blk_drew ab.1)
  replace ac := am (blk_drew ac.1)
  replace HB := am (below_drew1 HB.1)
  have bQ : 0 ≤ (ao : Int) := dq
  have bS : ao < (az.length : Int) := dq
  obtain ⟨bb, cL, aV, aW, aX⟩ := at_T52 cx.1 ao bQ bS
  have bL := aX
  have bK := aW
  have bJ := aV
  cases cL
  replace aV := cbl HB.1 aV
  replace aW := cbl HB.1 aW
  replace aX := cbl HB.1 aX
  replace bQ := eq_true bQ
  replace bS := eq_true bS
  have bR : 0 ≤ (ao : Int) := dq
  have bT : ao < (aA.length : Int) := dq
  obtain ⟨bc, cM, aY, aZ, a6⟩ := at_T52 cy.1 ao bR bT
  have bO := a6
  have bN := aZ
  have bM := aY
  cases cM
  replace aY := cbl HB.1 aY
  replace aZ := cbl HB.1 aZ
  replace a6 := cbl HB.1 a6
  replace bR := eq_true bR
  replace bT := eq_true bT
  refine start_ (n := 11) (S := fun w' => w'.cell? ⟨aB, 0, none⟩ = some (.string a9) ∧ w'.cell? ⟨aB, 1, none⟩ = some (.slice (some bb) az.length bj) ∧ w'.cell? ⟨aB, 2, none⟩ = some (.slice bU av.length bk) ∧ w'.cell? ⟨aC, 0, none⟩ = some (.string ba) ∧ w'.cell? ⟨aC, 1, none⟩ = some (.slice (some bc) aA.length bl) ∧ w'.cell? ⟨aC, 2, none⟩ = some (.slice bV aw.length bm) ∧ w'.cell? (bb.add ((ao).toNat * 3)) = some (.string ((rd_T52 az ao).f0)) ∧ w'.cell? ⟨(bb.add ((ao).toNat * 3)).block, (bb.add ((ao).toNat * 3)).off + 1, none⟩ = some (.int .i64 ((rd_T52 az ao).f1)) ∧ w'.cell? ⟨(bb.add ((ao).toNat * 3)).block, (bb.add ((ao).toNat * 3)).off + 2, none⟩ = some (.int .i64 ((rd_T52 az ao).f2)) ∧ w'.cell? (bc.add ((ao).toNat * 3)) = some (.string ((rd_T52 aA ao).f0)) ∧ w'.cell? ⟨(bc.add ((ao).toNat * 3)).block, (bc.add ((ao).toNat * 3)).off + 1, none⟩ = some (.int .i64 ((rd_T52 aA ao).f1)) ∧ w'.cell? ⟨(bc.add ((ao).toNat * 3)).block, (bc.add ((ao).toNat * 3)).off + 2, none⟩ = some (.int .i64 ((rd_T52 aA ao).f2))) (ds := []) #[false, false, false, false, false, false, false, false, false, false, false] (by kernel_rfl) rfl rfl ⟨(blk_cell ab.1 0).trans rfl, (blk_cell ab.1 1).trans rfl, (blk_cell ab.1 2).trans rfl, (blk_cell ac.1 0).trans rfl, (blk_cell ac.1 1).trans rfl, (blk_cell ac.1 2).trans rfl, (cbl HB.1 bJ), (cbl HB.1 bK), (cbl HB.1 bL), (cbl HB.1 bM), (cbl HB.1 bN), (cbl HB.1 bO)⟩ (fun hHeld => ?_); refine with_tabW r09_Equal.tab6 r09_Equal.bits6 (fun HT_ HW_ => ?_)
  generalize wr.drew = gW at ab ac HB aV aW aX aY aZ a6 hHeld ⊢
  refine pu HT_.1 0 39 ?_
  refine pu HT_.1 2 41 ?_
  refine pu HT_.1 5 44 ?_
  refine pu HT_.1 7 46 ?_
  refine tk HT_.1 HW_.1 hHeld 1 40 ?_
  refine pu HT_.1 3 42 ?_
  refine tk HT_.1 HW_.1 hHeld 4 43 ?_
  refine tk HT_.1 HW_.1 hHeld 6 45 ?_
  refine pu HT_.1 8 47 ?_
  refine tk HT_.1 HW_.1 hHeld 9 48 ?_
  refine pu HT_.1 10 49 ?_
  refine done_ (done_of HT_.1 (by kernel_rfl)) ?_
  try go_wp2
  go_roundg k2
  case measure => have := dh.1; have := di.1; omega
  case rel => exact ⟨(wrap64 (ao + 1)), prs, H', ⟨by have := dh.1; have := di.1; omega⟩, ⟨pbk ab.1⟩, ⟨pbk ac.1⟩, ⟨pbg⟩⟩
 have H' := am H
 clear H
 have fM := aR.1
 have f7 := aS.1
 have gT := cf3 ab.1
 go_wp2
 go_loopg [6] k2 (fun kq v6 w' => ∃ (aa : Int), v6 = .int .i64 aa ∧ Aside0 (r09_Equal.l1 kq aa a9 az av ba aA aw = some r) ∧ Aside0 (kq ≤ k2) ∧ Aside0 (w'.heap[aB]? = some (.cells #[.string a9, (.slice bD az.length bj), (.slice bU av.length bk)] 25 (0, 0))) ∧ Aside0 (w'.heap[aC]? = some (.cells #[.string ba, (.slice bE aA.length bl), (.slice bV aw.length bm)] 25 (0, 0))) ∧ Aside0 (Below w.heap.size w w'))
 case atStart => exact ⟨(0), prs, H', ⟨Nat.le_refl _⟩, ⟨pbk ab.1⟩, ⟨pbk ac.1⟩, ⟨pbg⟩⟩
 clear H'
 try clear c6 bP cr c7 cu cv cw gU cz eo cY ep cZ cJ cA fe ff fg fh fi gR gS gT z9 aV aW aX aY aZ a6 bQ bR bS bT
 obtain ⟨aa, rfl, HA, ft, ab, ac, HB⟩ := hrel
 obtain _ | k3 := gk
 ·exact absurd HA.1 (by simp [r09_Equal.l1])
 have H := HA.1
 clear HA
 simp only [r09_Equal.l1] at H
 replace H := ifl H
 rcases H with ⟨da, H⟩ | ⟨da, H⟩
 rotate_left
 ·obtain rfl := Option.some.inj H
  have eM := aR.1
  have fa := aS.1
  have gQ := cf3 ab.1
  go_wp2
  go_ret
  exact ⟨per, pbg⟩
 replace H := ifp H
 obtain ⟨fu, H⟩ := H
 have fv := decide_eq_true fu
 clear fu
 replace H := ifp H
 obtain ⟨fw, H⟩ := H
 have fx := decide_eq_true fw
 clear fw
 have HZ_ := am H
 clear H
 have fN := aR.1
 have f8 := aS.1
 have gY := cf3 ab.1
 try go_wp2
 replace ab := am (blk_drew ab.1)
 replace ac := am (blk_drew ac.1)
 replace HB := am (below_drew1 HB.1)
 have cN : 0 ≤ (aa : Int) := dq
 have cP : aa < (av.length : Int) := dq
 obtain ⟨ax, bW, b2, bX, b3, bY, b4, eq, br, bs, bu, bv, bw, cj, cd, ck, ce, cm, cf⟩ := at_T48 cW.1 aa cN cP
 have aJ := bw
 have aI := bv
 have aH := bu
 have aG := bs
 have aF := br
 cases eq
 replace br := cbl HB.1 br
 replace bs := cbl HB.1 bs
 replace bu := cbl HB.1 bu
 replace bv := cbl HB.1 bv
 replace bw := cbl HB.1 bw
 have bh := am cd
 have bn := am cj
 clear cd cj
 have bp := am ce
 have bF := am ck
 clear ce ck
 have bH := am cf
 have ca := am cm
 clear cf cm
 replace cN := eq_true cN
 replace cP := eq_true cP
 have cO : 0 ≤ (aa : Int) := dq
 have cQ : aa < (aw.length : Int) := dq
 obtain ⟨ay, bZ, b5, b0, b6, b1, b7, er, bx, bz, bA, bB, bC, cn, cg, co, ch, cp, ci⟩ := at_T48 cX.1 aa cO cQ
 have aO := bC
 have aN := bB
 have aM := bA
 have aL := bz
 have aK := bx
 cases er
 replace bx := cbl HB.1 bx
 replace bz := cbl HB.1 bz
 replace bA := cbl HB.1 bA
 replace bB := cbl HB.1 bB
 replace bC := cbl HB.1 bC
 have bi := am cg
 have bo := am cn
 clear cg cn
 have bq := am ch
 have bG := am co
 clear ch co
 have bI := am ci
 have cb := am cp
 clear ci cp
 replace cO := eq_true cO
 replace cQ := eq_true cQ
 refine start_ (n := 14) (S := fun w' => w'.cell? ⟨aB, 0, none⟩ = some (.string a9) ∧ w'.cell? ⟨aB, 1, none⟩ = some (.slice bD az.length bj) ∧ w'.cell? ⟨aB, 2, none⟩ = some (.slice (some ax) av.length bk) ∧ w'.cell? ⟨aC, 0, none⟩ = some (.string ba) ∧ w'.cell? ⟨aC, 1, none⟩ = some (.slice bE aA.length bl) ∧ w'.cell? ⟨aC, 2, none⟩ = some (.slice (some ay) aw.length bm) ∧ w'.cell? (ax.add ((aa).toNat * 5)) = some (.string ((rd_T48 av aa).f0)) ∧ w'.cell? ⟨(ax.add ((aa).toNat * 5)).block, (ax.add ((aa).toNat * 5)).off + 1, none⟩ = some (.slice bW ((rd_T48 av aa).f1).length b2) ∧ w'.cell? ⟨(ax.add ((aa).toNat * 5)).block, (ax.add ((aa).toNat * 5)).off + 2, none⟩ = some (.slice bX ((rd_T48 av aa).f2).length b3) ∧ w'.cell? ⟨(ax.add ((aa).toNat * 5)).block, (ax.add ((aa).toNat * 5)).off + 3, none⟩ = some (.slice bY ((rd_T48 av aa).f3).length b4) ∧ w'.cell? ⟨(ax.add ((aa).toNat * 5)).block, (ax.add ((aa).toNat * 5)).off + 4, none⟩ = some (.int .i64 ((rd_T48 av aa).f4)) ∧ w'.cell? (ay.add ((aa).toNat * 5)) = some (.string ((rd_T48 aw aa).f0)) ∧ w'.cell? ⟨(ay.add ((aa).toNat * 5)).block, (ay.add ((aa).toNat * 5)).off + 1, none⟩ = some (.slice bZ ((rd_T48 aw aa).f1).length b5) ∧ w'.cell? ⟨(ay.add ((aa).toNat * 5)).block, (ay.add ((aa).toNat * 5)).off + 2, none⟩ = some (.slice b0 ((rd_T48 aw aa).f2).length b6) ∧ w'.cell? ⟨(ay.add ((aa).toNat * 5)).block, (ay.add ((aa).toNat * 5)).off + 3, none⟩ = some (.slice b1 ((rd_T48 aw aa).f3).length b7) ∧ w'.cell? ⟨(ay.add ((aa).toNat * 5)).block, (ay.add ((aa).toNat * 5)).off + 4, none⟩ = some (.int .i64 ((rd_T48 aw aa).f4))) (ds := []) #[false, false, false, false, false, false, false, false, false, false, false, false, false, false] (by kernel_rfl) rfl rfl ⟨(blk_cell ab.1 0).trans rfl, (blk_cell ab.1 1).trans rfl, (blk_cell ab.1 2).trans rfl, (blk_cell ac.1 0).trans rfl, (blk_cell ac.1 1).trans rfl, (blk_cell ac.1 2).trans rfl, (cbl HB.1 aF), (cbl HB.1 aG), (cbl HB.1 aH), (cbl HB.1 aI), (cbl HB.1 aJ), (cbl HB.1 aK), (cbl HB.1 aL), (cbl HB.1 aM), (cbl HB.1 aN), (cbl HB.1 aO)⟩ (fun hHeld => ?_); refine with_tabW r09_Equal.tab11 r09_Equal.bits11 (fun HT_ HW_ => ?_)
 generalize wr.drew = gX at ab ac HB bh bp bH bi bq bI br bs bu bv bw bx bz bA bB bC hHeld ⊢
 refine pu HT_.1 0 57 ?_
 refine pu HT_.1 2 59 ?_
 refine pu HT_.1 5 62 ?_
 refine pu HT_.1 7 64 ?_
 refine tk HT_.1 HW_.1 hHeld 1 58 ?_
 refine pu HT_.1 3 60 ?_
 refine tk HT_.1 HW_.1 hHeld 4 61 ?_
 refine tk HT_.1 HW_.1 hHeld 6 63 ?_
 refine pu HT_.1 8 65 ?_
 refine tk HT_.1 HW_.1 hHeld 9 66 ?_
 refine join_ (σ := Nat × Nat) 2 #[true, true, true, true, true, true, true, true, true, true, true, true, false, false] (fun s_ => [(7, .pointer (some ⟨s_.1, 0, none⟩)), (8, .pointer (some ⟨s_.2, 0, none⟩))]) (fun s_ w' => (w'.cell? ⟨aB, 0, none⟩ = some (.string a9) ∧ w'.cell? ⟨aB, 1, none⟩ = some (.slice bD az.length bj) ∧ w'.cell? ⟨aB, 2, none⟩ = some (.slice (some ax) av.length bk) ∧ w'.cell? ⟨aC, 0, none⟩ = some (.string ba) ∧ w'.cell? ⟨aC, 1, none⟩ = some (.slice bE aA.length bl) ∧ w'.cell? ⟨aC, 2, none⟩ = some (.slice (some ay) aw.length bm) ∧ w'.cell? (ax.add ((aa).toNat * 5)) = some (.string ((rd_T48 av aa).f0)) ∧ w'.cell? ⟨(ax.add ((aa).toNat * 5)).block, (ax.add ((aa).toNat * 5)).off + 1, none⟩ = some (.slice bW ((rd_T48 av aa).f1).length b2) ∧ w'.cell? ⟨(ax.add ((aa).toNat * 5)).block, (ax.add ((aa).toNat * 5)).off + 2, none⟩ = some (.slice bX ((rd_T48 av aa).f2).length b3) ∧ w'.cell? ⟨(ax.add ((aa).toNat * 5)).block, (ax.add ((aa).toNat * 5)).off + 3, none⟩ = some (.slice bY ((rd_T48 av aa).f3).length b4) ∧ w'.cell? ⟨(ax.add ((aa).toNat * 5)).block, (ax.add ((aa).toNat * 5)).off + 4, none⟩ = some (.int .i64 ((rd_T48 av aa).f4)) ∧ w'.cell? (ay.add ((aa).toNat * 5)) = some (.string ((rd_T48 aw aa).f0)) ∧ w'.cell? ⟨(ay.add ((aa).toNat * 5)).block, (ay.add ((aa).toNat * 5)).off + 1, none⟩ = some (.slice bZ ((rd_T48 aw aa).f1).length b5) ∧ w'.cell? ⟨(ay.add ((aa).toNat * 5)).block, (ay.add ((aa).toNat * 5)).off + 2, none⟩ = some (.slice b0 ((rd_T48 aw aa).f2).length b6) ∧ w'.cell? ⟨(ay.add ((aa).toNat * 5)).block, (ay.add ((aa).toNat * 5)).off + 3, none⟩ = some (.slice b1 ((rd_T48 aw aa).f3).length b7) ∧ w'.cell? ⟨(ay.add ((aa).toNat * 5)).block, (ay.add ((aa).toNat * 5)).off + 4, none⟩ = some (.int .i64 ((rd_T48 aw aa).f4))) ∧ (w'.heap[aB]? = some (.cells #[.string a9, .slice bD az.length bj, .slice (some ax) av.length bk] 25 (0, 0))) ∧ (w'.heap[aC]? = some (.cells #[.string ba, .slice bE aA.length bl, .slice (some ay) aw.length bm] 25 (0, 0))) ∧ (w'.heap[s_.1]? = some (.cells #[.string (⟨#[]⟩ : ByteArray), .slice none 0 0, .slice none 0 0, .slice none 0 0, .int .i64 0] 48 (0, 0))) ∧ (w'.heap[s_.2]? = some (.cells #[.string (⟨#[]⟩ : ByteArray), .slice none 0 0, .slice none 0 0, .slice none 0 0, .int .i64 0] 48 (0, 0))) ∧ (w.heap.size ≤ s_.1) ∧ (w.heap.size ≤ s_.1) ∧ (aB ≠ s_.1) ∧ (s_.1 ≠ aB) ∧ (aC ≠ s_.1) ∧ (s_.1 ≠ aC) ∧ (s_.2 ≠ s_.1) ∧ (s_.1 ≠ s_.2) ∧ (w.heap.size ≤ s_.2) ∧ (w.heap.size ≤ s_.2) ∧ (aB ≠ s_.2) ∧ (s_.2 ≠ aB) ∧ (aC ≠ s_.2) ∧ (s_.2 ≠ aC) ∧ (Below w.heap.size w w')) ?_ ?_
 rotate_left
 ·intro hCont
  refine two_ (i := 10) (j := 11) (Ni := some 7) (Nj := some 8) #[true, true, true, true, true, true, true, true, true, true, true, false, false, false] #[true, true, true, true, true, true, true, true, true, true, false, true, false, false] rfl rfl rfl rfl (two_of HT_.1 (by kernel_rfl)) (by decide) (by decide) (fun K hK => ?_) (fun K hK => ?_)
  ·skip
   refine box_step ?hg (N := 7) ?hd (cs := #[.string (⟨#[]⟩ : ByteArray), .slice none 0 0, .slice none 0 0, .slice none 0 0, .int .i64 0]) (t := 48) ?hr ?_; (case hd => rfl); (case hg => rfl); (case hr => first | (go_simp; done) | (go_simp; rfl))
   intro aT hg gF hbox hb
   have n0_ := bbh ab hb
   have n1_ := bbh ac hb
   have n2_ := bst hb
   have n3_ := am hbox
   have n4_ := gwb hg
   have n5_ := gwb hg
   have n6_ := nlt hg ab
   have n7_ := ngt hg ab
   have n8_ := nlt hg ac
   have n9_ := ngt hg ac
   clear ab ac HB
   have ab := n0_
   have ac := n1_
   have HB := n2_
   have aD := n3_
   have ak := n4_
   have b8 := n5_
   have ae := n6_
   have ap := n7_
   have ag := n8_
   have aq := n9_
   clear n0_ n1_ n2_ n3_ n4_ n5_ n6_ n7_ n8_ n9_ hb hbox hg
   refine hK.out _ _ ⟨(blk_cell ab.1 0).trans rfl, (blk_cell ab.1 1).trans rfl, (blk_cell ab.1 2).trans rfl, (blk_cell ac.1 0).trans rfl, (blk_cell ac.1 1).trans rfl, (blk_cell ac.1 2).trans rfl, (cbl HB.1 aF), (cbl HB.1 aG), (cbl HB.1 aH), (cbl HB.1 aI), (cbl HB.1 aJ), (cbl HB.1 aK), (cbl HB.1 aL), (cbl HB.1 aM), (cbl HB.1 aN), (cbl HB.1 aO)⟩ (fun hHeld => ?_)
   clear hK K
   refine nm_ 7 ?_
   refine on HT_.1 11 (some 8) rfl fun K hK => ?_
   refine box_step ?hg (N := 8) ?hd (cs := #[.string (⟨#[]⟩ : ByteArray), .slice none 0 0, .slice none 0 0, .slice none 0 0, .int .i64 0]) (t := 48) ?hr ?_; (case hd => rfl); (case hg => rfl); (case hr => first | (go_simp; done) | (go_simp; rfl))
   intro aU hg gG hbox hb
   have n0_ := bbh ab hb
   have n1_ := bbh ac hb
   have n2_ := bbh aD hb
   have n3_ := bst hb
   have n4_ := am hbox
   have n5_ := gwb hg
   have n6_ := gwb hg
   have n7_ := nlt hg ab
   have n8_ := ngt hg ab
   have n9_ := nlt hg ac
   have n10_ := ngt hg ac
   have n11_ := nlt hg aD
   have n12_ := ngt hg aD
   clear ab ac aD HB
   have ab := n0_
   have ac := n1_
   have aD := n2_
   have HB := n3_
   have aE := n4_
   have al := n5_
   have b9 := n6_
   have af := n7_
   have ar := n8_
   have ah := n9_
   have au := n10_
   have ai := n11_
   have aj := n12_
   clear n0_ n1_ n2_ n3_ n4_ n5_ n6_ n7_ n8_ n9_ n10_ n11_ n12_ hb hbox hg
   refine hK.out _ _ ⟨(blk_cell ab.1 0).trans rfl, (blk_cell ab.1 1).trans rfl, (blk_cell ab.1 2).trans rfl, (blk_cell ac.1 0).trans rfl, (blk_cell ac.1 1).trans rfl, (blk_cell ac.1 2).trans rfl, (cbl HB.1 aF), (cbl HB.1 aG), (cbl HB.1 aH), (cbl HB.1 aI), (cbl HB.1 aJ), (cbl HB.1 aK), (cbl HB.1 aL), (cbl HB.1 aM), (cbl HB.1 aN), (cbl HB.1 aO)⟩ (fun hHeld => ?_)
   clear hK K
   refine nm_ 8 ?_
   exact norm_ (by simp only [putAll, Act.put, List.setIfInBounds_toArray, List.set_cons_zero, List.set_cons_succ]) (hCont (aT, aU) _ ⟨hHeld, (by exact pbk ab.1), (by exact pbk ac.1), (by exact pbk aD.1), (by exact pbk aE.1), ak.1, b8.1, ae.1, ap.1, ag.1, aq.1, aj.1, ai.1, al.1, b9.1, af.1, ar.1, ah.1, au.1, pbg⟩)
  ·skip
   refine box_step ?hg (N := 8) ?hd (cs := #[.string (⟨#[]⟩ : ByteArray), .slice none 0 0, .slice none 0 0, .slice none 0 0, .int .i64 0]) (t := 48) ?hr ?_; (case hd => rfl); (case hg => rfl); (case hr => first | (go_simp; done) | (go_simp; rfl))
   intro aU hg gF hbox hb
   have n0_ := bbh ab hb
   have n1_ := bbh ac hb
   have n2_ := bst hb
   have n3_ := am hbox
   have n4_ := gwb hg
   have n5_ := gwb hg
   have n6_ := nlt hg ab
   have n7_ := ngt hg ab
   have n8_ := nlt hg ac
   have n9_ := ngt hg ac
   clear ab ac HB
   have ab := n0_
   have ac := n1_
   have HB := n2_
   have aE := n3_
   have al := n4_
   have b9 := n5_
   have af := n6_
   have ar := n7_
   have ah := n8_
   have au := n9_
   clear n0_ n1_ n2_ n3_ n4_ n5_ n6_ n7_ n8_ n9_ hb hbox hg
   refine hK.out _ _ ⟨(blk_cell ab.1 0).trans rfl, (blk_cell ab.1 1).trans rfl, (blk_cell ab.1 2).trans rfl, (blk_cell ac.1 0).trans rfl, (blk_cell ac.1 1).trans rfl, (blk_cell ac.1 2).trans rfl, (cbl HB.1 aF), (cbl HB.1 aG), (cbl HB.1 aH), (cbl HB.1 aI), (cbl HB.1 aJ), (cbl HB.1 aK), (cbl HB.1 aL), (cbl HB.1 aM), (cbl HB.1 aN), (cbl HB.1 aO)⟩ (fun hHeld => ?_)
   clear hK K
   refine nm_ 8 ?_
   refine on HT_.1 10 (some 7) rfl fun K hK => ?_
   refine box_step ?hg (N := 7) ?hd (cs := #[.string (⟨#[]⟩ : ByteArray), .slice none 0 0, .slice none 0 0, .slice none 0 0, .int .i64 0]) (t := 48) ?hr ?_; (case hd => rfl); (case hg => rfl); (case hr => first | (go_simp; done) | (go_simp; rfl))
   intro aT hg gG hbox hb
   have n0_ := bbh ab hb
   have n1_ := bbh ac hb
   have n2_ := bbh aE hb
   have n3_ := bst hb
   have n4_ := am hbox
   have n5_ := gwb hg
   have n6_ := gwb hg
   have n7_ := nlt hg ab
   have n8_ := ngt hg ab
   have n9_ := nlt hg ac
   have n10_ := ngt hg ac
   have n11_ := nlt hg aE
   have n12_ := ngt hg aE
   clear ab ac aE HB
   have ab := n0_
   have ac := n1_
   have aE := n2_
   have HB := n3_
   have aD := n4_
   have ak := n5_
   have b8 := n6_
   have ae := n7_
   have ap := n8_
   have ag := n9_
   have aq := n10_
   have aj := n11_
   have ai := n12_
   clear n0_ n1_ n2_ n3_ n4_ n5_ n6_ n7_ n8_ n9_ n10_ n11_ n12_ hb hbox hg
   refine hK.out _ _ ⟨(blk_cell ab.1 0).trans rfl, (blk_cell ab.1 1).trans rfl, (blk_cell ab.1 2).trans rfl, (blk_cell ac.1 0).trans rfl, (blk_cell ac.1 1).trans rfl, (blk_cell ac.1 2).trans rfl, (cbl HB.1 aF), (cbl HB.1 aG), (cbl HB.1 aH), (cbl HB.1 aI), (cbl HB.1 aJ), (cbl HB.1 aK), (cbl HB.1 aL), (cbl HB.1 aM), (cbl HB.1 aN), (cbl HB.1 aO)⟩ (fun hHeld => ?_)
   clear hK K
   refine nm_ 7 ?_
   exact norm_ (by simp only [putAll, Act.put, List.setIfInBounds_toArray, List.set_cons_zero, List.set_cons_succ]) (hCont (aT, aU) _ ⟨hHeld, (by exact pbk ab.1), (by exact pbk ac.1), (by exact pbk aD.1), (by exact pbk aE.1), ak.1, b8.1, ae.1, ap.1, ag.1, aq.1, aj.1, ai.1, al.1, b9.1, af.1, ar.1, ah.1, au.1, pbg⟩)
 rintro ⟨aT, aU⟩ bg ⟨hS_, h0_, h1_, h2_, h3_, h4_, h5_, h6_, h7_, h8_, h9_, h10_, h11_, h12_, h13_, h14_, h15_, h16_, h17_, h18_⟩
 have aD : Aside0 (bg.heap[aT]? = some (.cells #[.string (⟨#[]⟩ : ByteArray), .slice none 0 0, .slice none 0 0, .slice none 0 0, .int .i64 0] 48 (0, 0))) := ⟨h2_⟩
 have aE : Aside0 (bg.heap[aU]? = some (.cells #[.string (⟨#[]⟩ : ByteArray), .slice none 0 0, .slice none 0 0, .slice none 0 0, .int .i64 0] 48 (0, 0))) := ⟨h3_⟩
 have ak : Aside0 (w.heap.size ≤ aT) := ⟨h4_⟩
 have b8 : Aside0 (w.heap.size ≤ aT) := ⟨h5_⟩
 have ae : Aside0 (aB ≠ aT) := ⟨h6_⟩
 have ap : Aside0 (aT ≠ aB) := ⟨h7_⟩
 have ag : Aside0 (aC ≠ aT) := ⟨h8_⟩
 have aq : Aside0 (aT ≠ aC) := ⟨h9_⟩
 have aj : Aside0 (aU ≠ aT) := ⟨h10_⟩
 have ai : Aside0 (aT ≠ aU) := ⟨h11_⟩
 have al : Aside0 (w.heap.size ≤ aU) := ⟨h12_⟩
 have b9 : Aside0 (w.heap.size ≤ aU) := ⟨h13_⟩
 have af : Aside0 (aB ≠ aU) := ⟨h14_⟩
 have ar : Aside0 (aU ≠ aB) := ⟨h15_⟩
 have ah : Aside0 (aC ≠ aU) := ⟨h16_⟩
 have au : Aside0 (aU ≠ aC) := ⟨h17_⟩
 replace ab : Aside0 (bg.heap[aB]? = some (.cells #[.string a9, .slice bD az.length bj, .slice (some ax) av.length bk] 25 (0, 0))) := ⟨h0_⟩
 replace ac : Aside0 (bg.heap[aC]? = some (.cells #[.string ba, .slice bE aA.length bl, .slice (some ay) aw.length bm] 25 (0, 0))) := ⟨h1_⟩
 replace HB : Aside0 (Below w.heap.size w bg) := ⟨h18_⟩
 (try clear h0_ h1_ h2_ h3_ h4_ h5_ h6_ h7_ h8_ h9_ h10_ h11_ h12_ h13_ h14_ h15_ h16_ h17_ h18_)
 have hHeld : bg.cell? ⟨aB, 0, none⟩ = some (.string a9) ∧ bg.cell? ⟨aB, 1, none⟩ = some (.slice bD az.length bj) ∧ bg.cell? ⟨aB, 2, none⟩ = some (.slice (some ax) av.length bk) ∧ bg.cell? ⟨aC, 0, none⟩ = some (.string ba) ∧ bg.cell? ⟨aC, 1, none⟩ = some (.slice bE aA.length bl) ∧ bg.cell? ⟨aC, 2, none⟩ = some (.slice (some ay) aw.length bm) ∧ bg.cell? (ax.add ((aa).toNat * 5)) = some (.string ((rd_T48 av aa).f0)) ∧ bg.cell? ⟨(ax.add ((aa).toNat * 5)).block, (ax.add ((aa).toNat * 5)).off + 1, none⟩ = some (.slice bW ((rd_T48 av aa).f1).length b2) ∧ bg.cell? ⟨(ax.add ((aa).toNat * 5)).block, (ax.add ((aa).toNat * 5)).off + 2, none⟩ = some (.slice bX ((rd_T48 av aa).f2).length b3) ∧ bg.cell? ⟨(ax.add ((aa).toNat * 5)).block, (ax.add ((aa).toNat * 5)).off + 3, none⟩ = some (.slice bY ((rd_T48 av aa).f3).length b4) ∧ bg.cell? ⟨(ax.add ((aa).toNat * 5)).block, (ax.add ((aa).toNat * 5)).off + 4, none⟩ = some (.int .i64 ((rd_T48 av aa).f4)) ∧ bg.cell? (ay.add ((aa).toNat * 5)) = some (.string ((rd_T48 aw aa).f0)) ∧ bg.cell? ⟨(ay.add ((aa).toNat * 5)).block, (ay.add ((aa).toNat * 5)).off + 1, none⟩ = some (.slice bZ ((rd_T48 aw aa).f1).length b5) ∧ bg.cell? ⟨(ay.add ((aa).toNat * 5)).block, (ay.add ((aa).toNat * 5)).off + 2, none⟩ = some (.slice b0 ((rd_T48 aw aa).f2).length b6) ∧ bg.cell? ⟨(ay.add ((aa).toNat * 5)).block, (ay.add ((aa).toNat * 5)).off + 3, none⟩ = some (.slice b1 ((rd_T48 aw aa).f3).length b7) ∧ bg.cell? ⟨(ay.add ((aa).toNat * 5)).block, (ay.add ((aa).toNat * 5)).off + 4, none⟩ = some (.int .i64 ((rd_T48 aw aa).f4)) := hS_
 refine norm_ (a' := ?_) ?_ ?_
 rotate_left
 ·simp only [putAll, Act.put, List.setIfInBounds_toArray, List.set_cons_zero, List.set_cons_succ]
  rfl
 refine on HT_.1 12 none rfl fun K hK => ?_
 have gp : bg.cell? ⟨aT, 0, none⟩ = some (.string (⟨#[]⟩ : ByteArray)) := (blk_cell aD.1 0).trans rfl
 have fy := blk_frozen aD.1 0
 have dQ := ae.1
 have dR := ag.1
 have dS := aj.1
 have dj := ap.1
 have dk := aq.1
 have dl := ai.1
 have gq : bg.cell? ⟨aT, 1, none⟩ = some (.slice none 0 0) := (blk_cell aD.1 1).trans rfl
 have fz := blk_frozen aD.1 1
 have dU := ae.1
 have dV := ag.1
 have dW := aj.1
 have dm := ap.1
 have dn := aq.1
 have dp := ai.1
 have gr : bg.cell? ⟨aT, 2, none⟩ = some (.slice none 0 0) := (blk_cell aD.1 2).trans rfl
 have fA := blk_frozen aD.1 2
 have dX := ae.1
 have dY := ag.1
 have dZ := aj.1
 have dr := ap.1
 have dt := aq.1
 have du := ai.1
 have gs : bg.cell? ⟨aT, 3, none⟩ = some (.slice none 0 0) := (blk_cell aD.1 3).trans rfl
 have fB := blk_frozen aD.1 3
 have d0 := ae.1
 have d1 := ag.1
 have d2 := aj.1
 have dv := ap.1
 have dw := aq.1
 have dx := ai.1
 have gu : bg.cell? ⟨aT, 4, none⟩ = some (.int .i64 0) := (blk_cell aD.1 4).trans rfl
 have fC := blk_frozen aD.1 4
 have d3 := ae.1
 have d4 := ag.1
 have d5 := aj.1
 have dy := ap.1
 have dz := aq.1
 have dA := ai.1
 refine skip_ (w1 := ?_) (by rfl) rfl ?_ ?_
 rotate_left
 ·go_simp
  rfl
 refine hK.out _ _ ⟨((far5 ae.1).trans (hHeld.1)), ((far5 ae.1).trans (hHeld.2.1)), ((far5 ae.1).trans (hHeld.2.2.1)), ((far5 ag.1).trans (hHeld.2.2.2.1)), ((far5 ag.1).trans (hHeld.2.2.2.2.1)), ((far5 ag.1).trans (hHeld.2.2.2.2.2.1)), ((far5 (by first | exact Nat.ne_of_lt (Nat.lt_of_lt_of_le (by have := World.block_lt_of_cell? _ _ aF; first | rwa [add_block] at this | exact this) ak.1) | (rw [add_block]; exact Nat.ne_of_lt (Nat.lt_of_lt_of_le (by have := World.block_lt_of_cell? _ _ aF; first | rwa [add_block] at this | exact this) ak.1)) | (show (Addr.add _ _).block ≠ _; rw [add_block]; exact Nat.ne_of_lt (Nat.lt_of_lt_of_le (by have := World.block_lt_of_cell? _ _ aF; first | rwa [add_block] at this | exact this) ak.1)) | (dsimp only; exact Nat.ne_of_lt (Nat.lt_of_lt_of_le (by have := World.block_lt_of_cell? _ _ aF; first | rwa [add_block] at this | exact this) ak.1)))).trans (hHeld.2.2.2.2.2.2.1)), ((far5 (by first | exact Nat.ne_of_lt (Nat.lt_of_lt_of_le (by have := World.block_lt_of_cell? _ _ aG; first | rwa [add_block] at this | exact this) ak.1) | (rw [add_block]; exact Nat.ne_of_lt (Nat.lt_of_lt_of_le (by have := World.block_lt_of_cell? _ _ aG; first | rwa [add_block] at this | exact this) ak.1)) | (show (Addr.add _ _).block ≠ _; rw [add_block]; exact Nat.ne_of_lt (Nat.lt_of_lt_of_le (by have := World.block_lt_of_cell? _ _ aG; first | rwa [add_block] at this | exact this) ak.1)) | (dsimp only; exact Nat.ne_of_lt (Nat.lt_of_lt_of_le (by have := World.block_lt_of_cell? _ _ aG; first | rwa [add_block] at this | exact this) ak.1)))).trans (hHeld.2.2.2.2.2.2.2.1)), ((far5 (by first | exact Nat.ne_of_lt (Nat.lt_of_lt_of_le (by have := World.block_lt_of_cell? _ _ aH; first | rwa [add_block] at this | exact this) ak.1) | (rw [add_block]; exact Nat.ne_of_lt (Nat.lt_of_lt_of_le (by have := World.block_lt_of_cell? _ _ aH; first | rwa [add_block] at this | exact this) ak.1)) | (show (Addr.add _ _).block ≠ _; rw [add_block]; exact Nat.ne_of_lt (Nat.lt_of_lt_of_le (by have := World.block_lt_of_cell? _ _ aH; first | rwa [add_block] at this | exact this) ak.1)) | (dsimp only; exact Nat.ne_of_lt (Nat.lt_of_lt_of_le (by have := World.block_lt_of_cell? _ _ aH; first | rwa [add_block] at this | exact this) ak.1)))).trans (hHeld.2.2.2.2.2.2.2.2.1)), ((far5 (by first | exact Nat.ne_of_lt (Nat.lt_of_lt_of_le (by have := World.block_lt_of_cell? _ _ aI; first | rwa [add_block] at this | exact this) ak.1) | (rw [add_block]; exact Nat.ne_of_lt (Nat.lt_of_lt_of_le (by have := World.block_lt_of_cell? _ _ aI; first | rwa [add_block] at this | exact this) ak.1)) | (show (Addr.add _ _).block ≠ _; rw [add_block]; exact Nat.ne_of_lt (Nat.lt_of_lt_of_le (by have := World.block_lt_of_cell? _ _ aI; first | rwa [add_block] at this | exact this) ak.1)) | (dsimp only; exact Nat.ne_of_lt (Nat.lt_of_lt_of_le (by have := World.block_lt_of_cell? _ _ aI; first | rwa [add_block] at this | exact this) ak.1)))).trans (hHeld.2.2.2.2.2.2.2.2.2.1)), ((far5 (by first | exact Nat.ne_of_lt (Nat.lt_of_lt_of_le (by have := World.block_lt_of_cell? _ _ aJ; first | rwa [add_block] at this | exact this) ak.1) | (rw [add_block]; exact Nat.ne_of_lt (Nat.lt_of_lt_of_le (by have := World.block_lt_of_cell? _ _ aJ; first | rwa [add_block] at this | exact this) ak.1)) | (show (Addr.add _ _).block ≠ _; rw [add_block]; exact Nat.ne_of_lt (Nat.lt_of_lt_of_le (by have := World.block_lt_of_cell? _ _ aJ; first | rwa [add_block] at this | exact this) ak.1)) | (dsimp only; exact Nat.ne_of_lt (Nat.lt_of_lt_of_le (by have := World.block_lt_of_cell? _ _ aJ; first | rwa [add_block] at this | exact this) ak.1)))).trans (hHeld.2.2.2.2.2.2.2.2.2.2.1)), ((far5 (by first | exact Nat.ne_of_lt (Nat.lt_of_lt_of_le (by have := World.block_lt_of_cell? _ _ aK; first | rwa [add_block] at this | exact this) ak.1) | (rw [add_block]; exact Nat.ne_of_lt (Nat.lt_of_lt_of_le (by have := World.block_lt_of_cell? _ _ aK; first | rwa [add_block] at this | exact this) ak.1)) | (show (Addr.add _ _).block ≠ _; rw [add_block]; exact Nat.ne_of_lt (Nat.lt_of_lt_of_le (by have := World.block_lt_of_cell? _ _ aK; first | rwa [add_block] at this | exact this) ak.1)) | (dsimp only; exact Nat.ne_of_lt (Nat.lt_of_lt_of_le (by have := World.block_lt_of_cell? _ _ aK; first | rwa [add_block] at this | exact this) ak.1)))).trans (hHeld.2.2.2.2.2.2.2.2.2.2.2.1)), ((far5 (by first | exact Nat.ne_of_lt (Nat.lt_of_lt_of_le (by have := World.block_lt_of_cell? _ _ aL; first | rwa [add_block] at this | exact this) ak.1) | (rw [add_block]; exact Nat.ne_of_lt (Nat.lt_of_lt_of_le (by have := World.block_lt_of_cell? _ _ aL; first | rwa [add_block] at this | exact this) ak.1)) | (show (Addr.add _ _).block ≠ _; rw [add_block]; exact Nat.ne_of_lt (Nat.lt_of_lt_of_le (by have := World.block_lt_of_cell? _ _ aL; first | rwa [add_block] at this | exact this) ak.1)) | (dsimp only; exact Nat.ne_of_lt (Nat.lt_of_lt_of_le (by have := World.block_lt_of_cell? _ _ aL; first | rwa [add_block] at this | exact this) ak.1)))).trans (hHeld.2.2.2.2.2.2.2.2.2.2.2.2.1)), ((far5 (by first | exact Nat.ne_of_lt (Nat.lt_of_lt_of_le (by have := World.block_lt_of_cell? _ _ aM; first | rwa [add_block] at this | exact this) ak.1) | (rw [add_block]; exact Nat.ne_of_lt (Nat.lt_of_lt_of_le (by have := World.block_lt_of_cell? _ _ aM; first | rwa [add_block] at this | exact this) ak.1)) | (show (Addr.add _ _).block ≠ _; rw [add_block]; exact Nat.ne_of_lt (Nat.lt_of_lt_of_le (by have := World.block_lt_of_cell? _ _ aM; first | rwa [add_block] at this | exact this) ak.1)) | (dsimp only; exact Nat.ne_of_lt (Nat.lt_of_lt_of_le (by have := World.block_lt_of_cell? _ _ aM; first | rwa [add_block] at this | exact this) ak.1)))).trans (hHeld.2.2.2.2.2.2.2.2.2.2.2.2.2.1)), ((far5 (by first | exact Nat.ne_of_lt (Nat.lt_of_lt_of_le (by have := World.block_lt_of_cell? _ _ aN; first | rwa [add_block] at this | exact this) ak.1) | (rw [add_block]; exact Nat.ne_of_lt (Nat.lt_of_lt_of_le (by have := World.block_lt_of_cell? _ _ aN; first | rwa [add_block] at this | exact this) ak.1)) | (show (Addr.add _ _).block ≠ _; rw [add_block]; exact Nat.ne_of_lt (Nat.lt_of_lt_of_le (by have := World.block_lt_of_cell? _ _ aN; first | rwa [add_block] at this | exact this) ak.1)) | (dsimp only; exact Nat.ne_of_lt (Nat.lt_of_lt_of_le (by have := World.block_lt_of_cell? _ _ aN; first | rwa [add_block] at this | exact this) ak.1)))).trans (hHeld.2.2.2.2.2.2.2.2.2.2.2.2.2.2.1)), ((far5 (by first | exact Nat.ne_of_lt (Nat.lt_of_lt_of_le (by have := World.block_lt_of_cell? _ _ aO; first | rwa [add_block] at this | exact this) ak.1) | (rw [add_block]; exact Nat.ne_of_lt (Nat.lt_of_lt_of_le (by have := World.block_lt_of_cell? _ _ aO; first | rwa [add_block] at this | exact this) ak.1)) | (show (Addr.add _ _).block ≠ _; rw [add_block]; exact Nat.ne_of_lt (Nat.lt_of_lt_of_le (by have := World.block_lt_of_cell? _ _ aO; first | rwa [add_block] at this | exact this) ak.1)) | (dsimp only; exact Nat.ne_of_lt (Nat.lt_of_lt_of_le (by have := World.block_lt_of_cell? _ _ aO; first | rwa [add_block] at this | exact this) ak.1)))).trans (hHeld.2.2.2.2.2.2.2.2.2.2.2.2.2.2.2))⟩ (fun hHeld => ?_)
 clear hK K
 refine on HT_.1 13 none rfl fun K hK => ?_
 have gv : bg.cell? ⟨aU, 0, none⟩ = some (.string (⟨#[]⟩ : ByteArray)) := (blk_cell aE.1 0).trans rfl
 have fD := blk_frozen aE.1 0
 have d6 := af.1
 have d7 := ah.1
 have d8 := ai.1
 have dB := ar.1
 have dC := au.1
 have dD := aj.1
 have gw : bg.cell? ⟨aU, 1, none⟩ = some (.slice none 0 0) := (blk_cell aE.1 1).trans rfl
 have fE := blk_frozen aE.1 1
 have d9 := af.1
 have ea := ah.1
 have ec := ai.1
 have dE := ar.1
 have dF := au.1
 have dG := aj.1
 have gx : bg.cell? ⟨aU, 2, none⟩ = some (.slice none 0 0) := (blk_cell aE.1 2).trans rfl
 have fF := blk_frozen aE.1 2
 have ed := af.1
 have ee := ah.1
 have ef := ai.1
 have dH := ar.1
 have dI := au.1
 have dJ := aj.1
 have gy : bg.cell? ⟨aU, 3, none⟩ = some (.slice none 0 0) := (blk_cell aE.1 3).trans rfl
 have fG := blk_frozen aE.1 3
 have eg := af.1
 have eh := ah.1
 have ei := ai.1
 have dK := ar.1
 have dL := au.1
 have dM := aj.1
 have gz : bg.cell? ⟨aU, 4, none⟩ = some (.int .i64 0) := (blk_cell aE.1 4).trans rfl
 have fH := blk_frozen aE.1 4
 have ej := af.1
 have ek := ah.1
 have el := ai.1
 have dN := ar.1
 have dO := au.1
 have dP := aj.1
 refine skip_ (w1 := ?_) (by rfl) rfl ?_ ?_
 rotate_left
 ·go_simp
  rfl
 refine hK.out _ _ ⟨((far5 af.1).trans (hHeld.1)), ((far5 af.1).trans (hHeld.2.1)), ((far5 af.1).trans (hHeld.2.2.1)), ((far5 ah.1).trans (hHeld.2.2.2.1)), ((far5 ah.1).trans (hHeld.2.2.2.2.1)), ((far5 ah.1).trans (hHeld.2.2.2.2.2.1)), ((far5 (by first | exact Nat.ne_of_lt (Nat.lt_of_lt_of_le (by have := World.block_lt_of_cell? _ _ aF; first | rwa [add_block] at this | exact this) al.1) | (rw [add_block]; exact Nat.ne_of_lt (Nat.lt_of_lt_of_le (by have := World.block_lt_of_cell? _ _ aF; first | rwa [add_block] at this | exact this) al.1)) | (show (Addr.add _ _).block ≠ _; rw [add_block]; exact Nat.ne_of_lt (Nat.lt_of_lt_of_le (by have := World.block_lt_of_cell? _ _ aF; first | rwa [add_block] at this | exact this) al.1)) | (dsimp only; exact Nat.ne_of_lt (Nat.lt_of_lt_of_le (by have := World.block_lt_of_cell? _ _ aF; first | rwa [add_block] at this | exact this) al.1)))).trans (hHeld.2.2.2.2.2.2.1)), ((far5 (by first | exact Nat.ne_of_lt (Nat.lt_of_lt_of_le (by have := World.block_lt_of_cell? _ _ aG; first | rwa [add_block] at this | exact this) al.1) | (rw [add_block]; exact Nat.ne_of_lt (Nat.lt_of_lt_of_le (by have := World.block_lt_of_cell? _ _ aG; first | rwa [add_block] at this | exact this) al.1)) | (show (Addr.add _ _).block ≠ _; rw [add_block]; exact Nat.ne_of_lt (Nat.lt_of_lt_of_le (by have := World.block_lt_of_cell? _ _ aG; first | rwa [add_block] at this | exact this) al.1)) | (dsimp only; exact Nat.ne_of_lt (Nat.lt_of_lt_of_le (by have := World.block_lt_of_cell? _ _ aG; first | rwa [add_block] at this | exact this) al.1)))).trans (hHeld.2.2.2.2.2.2.2.1)), ((far5 (by first | exact Nat.ne_of_lt (Nat.lt_of_lt_of_le (by have := World.block_lt_of_cell? _ _ aH; first | rwa [add_block] at this | exact this) al.1) | (rw [add_block]; exact Nat.ne_of_lt (Nat.lt_of_lt_of_le (by have := World.block_lt_of_cell? _ _ aH; first | rwa [add_block] at this | exact this) al.1)) | (show (Addr.add _ _).block ≠ _; rw [add_block]; exact Nat.ne_of_lt (Nat.lt_of_lt_of_le (by have := World.block_lt_of_cell? _ _ aH; first | rwa [add_block] at this | exact this) al.1)) | (dsimp only; exact Nat.ne_of_lt (Nat.lt_of_lt_of_le (by have := World.block_lt_of_cell? _ _ aH; first | rwa [add_block] at this | exact this) al.1)))).trans (hHeld.2.2.2.2.2.2.2.2.1)), ((far5 (by first | exact Nat.ne_of_lt (Nat.lt_of_lt_of_le (by have := World.block_lt_of_cell? _ _ aI; first | rwa [add_block] at this | exact this) al.1) | (rw [add_block]; exact Nat.ne_of_lt (Nat.lt_of_lt_of_le (by have := World.block_lt_of_cell? _ _ aI; first | rwa [add_block] at this | exact this) al.1)) | (show (Addr.add _ _).block ≠ _; rw [add_block]; exact Nat.ne_of_lt (Nat.lt_of_lt_of_le (by have := World.block_lt_of_cell? _ _ aI; first | rwa [add_block] at this | exact this) al.1)) | (dsimp only; exact Nat.ne_of_lt (Nat.lt_of_lt_of_le (by have := World.block_lt_of_cell? _ _ aI; first | rwa [add_block] at this | exact this) al.1)))).trans (hHeld.2.2.2.2.2.2.2.2.2.1)), ((far5 (by first | exact Nat.ne_of_lt (Nat.lt_of_lt_of_le (by have := World.block_lt_of_cell? _ _ aJ; first | rwa [add_block] at this | exact this) al.1) | (rw [add_block]; exact Nat.ne_of_lt (Nat.lt_of_lt_of_le (by have := World.block_lt_of_cell? _ _ aJ; first | rwa [add_block] at this | exact this) al.1)) | (show (Addr.add _ _).block ≠ _; rw [add_block]; exact Nat.ne_of_lt (Nat.lt_of_lt_of_le (by have := World.block_lt_of_cell? _ _ aJ; first | rwa [add_block] at this | exact this) al.1)) | (dsimp only; exact Nat.ne_of_lt (Nat.lt_of_lt_of_le (by have := World.block_lt_of_cell? _ _ aJ; first | rwa [add_block] at this | exact this) al.1)))).trans (hHeld.2.2.2.2.2.2.2.2.2.2.1)), ((far5 (by first | exact Nat.ne_of_lt (Nat.lt_of_lt_of_le (by have := World.block_lt_of_cell? _ _ aK; first | rwa [add_block] at this | exact this) al.1) | (rw [add_block]; exact Nat.ne_of_lt (Nat.lt_of_lt_of_le (by have := World.block_lt_of_cell? _ _ aK; first | rwa [add_block] at this | exact this) al.1)) | (show (Addr.add _ _).block ≠ _; rw [add_block]; exact Nat.ne_of_lt (Nat.lt_of_lt_of_le (by have := World.block_lt_of_cell? _ _ aK; first | rwa [add_block] at this | exact this) al.1)) | (dsimp only; exact Nat.ne_of_lt (Nat.lt_of_lt_of_le (by have := World.block_lt_of_cell? _ _ aK; first | rwa [add_block] at this | exact this) al.1)))).trans (hHeld.2.2.2.2.2.2.2.2.2.2.2.1)), ((far5 (by first | exact Nat.ne_of_lt (Nat.lt_of_lt_of_le (by have := World.block_lt_of_cell? _ _ aL; first | rwa [add_block] at this | exact this) al.1) | (rw [add_block]; exact Nat.ne_of_lt (Nat.lt_of_lt_of_le (by have := World.block_lt_of_cell? _ _ aL; first | rwa [add_block] at this | exact this) al.1)) | (show (Addr.add _ _).block ≠ _; rw [add_block]; exact Nat.ne_of_lt (Nat.lt_of_lt_of_le (by have := World.block_lt_of_cell? _ _ aL; first | rwa [add_block] at this | exact this) al.1)) | (dsimp only; exact Nat.ne_of_lt (Nat.lt_of_lt_of_le (by have := World.block_lt_of_cell? _ _ aL; first | rwa [add_block] at this | exact this) al.1)))).trans (hHeld.2.2.2.2.2.2.2.2.2.2.2.2.1)), ((far5 (by first | exact Nat.ne_of_lt (Nat.lt_of_lt_of_le (by have := World.block_lt_of_cell? _ _ aM; first | rwa [add_block] at this | exact this) al.1) | (rw [add_block]; exact Nat.ne_of_lt (Nat.lt_of_lt_of_le (by have := World.block_lt_of_cell? _ _ aM; first | rwa [add_block] at this | exact this) al.1)) | (show (Addr.add _ _).block ≠ _; rw [add_block]; exact Nat.ne_of_lt (Nat.lt_of_lt_of_le (by have := World.block_lt_of_cell? _ _ aM; first | rwa [add_block] at this | exact this) al.1)) | (dsimp only; exact Nat.ne_of_lt (Nat.lt_of_lt_of_le (by have := World.block_lt_of_cell? _ _ aM; first | rwa [add_block] at this | exact this) al.1)))).trans (hHeld.2.2.2.2.2.2.2.2.2.2.2.2.2.1)), ((far5 (by first | exact Nat.ne_of_lt (Nat.lt_of_lt_of_le (by have := World.block_lt_of_cell? _ _ aN; first | rwa [add_block] at this | exact this) al.1) | (rw [add_block]; exact Nat.ne_of_lt (Nat.lt_of_lt_of_le (by have := World.block_lt_of_cell? _ _ aN; first | rwa [add_block] at this | exact this) al.1)) | (show (Addr.add _ _).block ≠ _; rw [add_block]; exact Nat.ne_of_lt (Nat.lt_of_lt_of_le (by have := World.block_lt_of_cell? _ _ aN; first | rwa [add_block] at this | exact this) al.1)) | (dsimp only; exact Nat.ne_of_lt (Nat.lt_of_lt_of_le (by have := World.block_lt_of_cell? _ _ aN; first | rwa [add_block] at this | exact this) al.1)))).trans (hHeld.2.2.2.2.2.2.2.2.2.2.2.2.2.2.1)), ((far5 (by first | exact Nat.ne_of_lt (Nat.lt_of_lt_of_le (by have := World.block_lt_of_cell? _ _ aO; first | rwa [add_block] at this | exact this) al.1) | (rw [add_block]; exact Nat.ne_of_lt (Nat.lt_of_lt_of_le (by have := World.block_lt_of_cell? _ _ aO; first | rwa [add_block] at this | exact this) al.1)) | (show (Addr.add _ _).block ≠ _; rw [add_block]; exact Nat.ne_of_lt (Nat.lt_of_lt_of_le (by have := World.block_lt_of_cell? _ _ aO; first | rwa [add_block] at this | exact this) al.1)) | (dsimp only; exact Nat.ne_of_lt (Nat.lt_of_lt_of_le (by have := World.block_lt_of_cell? _ _ aO; first | rwa [add_block] at this | exact this) al.1)))).trans (hHeld.2.2.2.2.2.2.2.2.2.2.2.2.2.2.2))⟩ (fun hHeld => ?_)
 clear hK K
 refine done_ (done_of HT_.1 (by kernel_rfl)) ?_
 have H := HZ_.1
 clear HZ_
 by_cases cK : ((rd_T48 av aa).f0).toList = ((rd_T48 aw aa).f0).toList
 rotate_left
 ·rw [if_neg cK] at H
  have db : (((rd_T48 av aa).f0).toList == ((rd_T48 aw aa).f0).toList) = false := beq_eq_false_iff_ne.mpr cK
  have dc : (((rd_T48 av aa).f0).toList != ((rd_T48 aw aa).f0).toList) = true := bne_iff_ne.mpr cK
  obtain rfl := Option.some.inj H
  have eH := ap.1
  have e5 := ae.1
  have eI := aq.1
  have e6 := ag.1
  have eJ := ai.1
  have e7 := aj.1
  have gO := cf5 aD.1
  have eK := ar.1
  have e8 := af.1
  have eL := au.1
  have e9 := ah.1
  have gP := cf5 aE.1
  try go_wp2
  go_ret
  exact ⟨per, pbg⟩
 rw [if_pos cK] at H
 have db : (((rd_T48 av aa).f0).toList == ((rd_T48 aw aa).f0).toList) = true := beq_iff_eq.mpr cK
 have dc : (((rd_T48 av aa).f0).toList != ((rd_T48 aw aa).f0).toList) = false := bne_eq_false_iff_eq.mpr cK
 clear cK
 replace H := ife H
 rcases H with ⟨de, df, H⟩ | ⟨de, df, H⟩
 rotate_left
 ·obtain rfl := Option.some.inj H
  have eC := ap.1
  have eX := ae.1
  have eD := aq.1
  have eY := ag.1
  have eE := ai.1
  have eZ := aj.1
  have gM := cf5 aD.1
  have eF := ar.1
  have e0 := af.1
  have eG := au.1
  have e4 := ah.1
  have gN := cf5 aE.1
  try go_wp2
  go_ret
  exact ⟨per, pbg⟩
 replace H := bnd H
 obtain ⟨cR, dg, H⟩ := H
 (try dsimp only at H)
 cases cR
 ·rw [if_neg Bool.false_ne_true] at H
  obtain rfl := Option.some.inj H
  have ex := ap.1
  have eS := ae.1
  have ey := aq.1
  have eT := ag.1
  have ez := ai.1
  have eU := aj.1
  have gK := cf5 aD.1
  have eA := ar.1
  have eV := af.1
  have eB := au.1
  have eW := ah.1
  have gL := cf5 aE.1
  try go_wp2_with (first | (go_at_call 48; (with_reducible refine (r09_SameArcs.calls k3 _ _ ((rd_T48 av aa).f1) _ _ ((rd_T48 aw aa).f1) false _ ?side1 ?side2 ?side3 ?side4 dg.1).mono ?_); (case side1 => exact Kd.C_below bh.1 pbg); (case side2 => exact bn.1); (case side3 => exact Kd.C_below bi.1 pbg); (case side4 => exact bo.1); rintro e w' ⟨rfl, ⟨nd, rfl⟩⟩))
  go_ret
  exact ⟨per, pbg⟩
 rw [if_pos rfl] at H
 replace H := bnd H
 obtain ⟨cS, em, H⟩ := H
 (try dsimp only at H)
 cases cS
 ·rw [if_neg Bool.false_ne_true] at H
  obtain rfl := Option.some.inj H
  have es := ap.1
  have eN := ae.1
  have et := aq.1
  have eO := ag.1
  have eu := ai.1
  have eP := aj.1
  have gI := cf5 aD.1
  have ev := ar.1
  have eQ := af.1
  have ew := au.1
  have eR := ah.1
  have gJ := cf5 aE.1
  try go_wp2_with (first | (go_at_call 48; (with_reducible refine (r09_SameArcs.calls k3 _ _ ((rd_T48 av aa).f1) _ _ ((rd_T48 aw aa).f1) true _ ?side1 ?side2 ?side3 ?side4 dg.1).mono ?_); (case side1 => exact Kd.C_below bh.1 pbg); (case side2 => exact bn.1); (case side3 => exact Kd.C_below bi.1 pbg); (case side4 => exact bo.1); rintro e w' ⟨rfl, ⟨nd, rfl⟩⟩) | (go_at_call 48; (with_reducible refine (r09_SameArcs.calls k3 _ _ ((rd_T48 av aa).f2) _ _ ((rd_T48 aw aa).f2) false _ ?side1 ?side2 ?side3 ?side4 em.1).mono ?_); (case side1 => exact Kd.C_below bp.1 pbg); (case side2 => exact bF.1); (case side3 => exact Kd.C_below bq.1 pbg); (case side4 => exact bG.1); rintro e w' ⟨rfl, ⟨nd, rfl⟩⟩))
  go_ret
  exact ⟨per, pbg⟩
 rw [if_pos rfl] at H
 replace H := bnd H
 obtain ⟨cT, fj, H⟩ := H
 (try dsimp only at H)
 cases cT
 ·rw [if_neg Bool.false_ne_true] at H
  obtain rfl := Option.some.inj H
  have fT := ap.1
  have gf := ae.1
  have fU := aq.1
  have gg := ag.1
  have fV := ai.1
  have gh := aj.1
  have g4 := cf5 aD.1
  have fW := ar.1
  have gi := af.1
  have fX := au.1
  have gj := ah.1
  have g5 := cf5 aE.1
  try go_wp2_with (first | (go_at_call 48; (with_reducible refine (r09_SameArcs.calls k3 _ _ ((rd_T48 av aa).f1) _ _ ((rd_T48 aw aa).f1) true _ ?side1 ?side2 ?side3 ?side4 dg.1).mono ?_); (case side1 => exact Kd.C_below bh.1 pbg); (case side2 => exact bn.1); (case side3 => exact Kd.C_below bi.1 pbg); (case side4 => exact bo.1); rintro e w' ⟨rfl, ⟨nd, rfl⟩⟩) | (go_at_call 48; (with_reducible refine (r09_SameArcs.calls k3 _ _ ((rd_T48 av aa).f2) _ _ ((rd_T48 aw aa).f2) true _ ?side1 ?side2 ?side3 ?side4 em.1).mono ?_); (case side1 => exact Kd.C_below bp.1 pbg); (case side2 => exact bF.1); (case side3 => exact Kd.C_below bq.1 pbg); (case side4 => exact bG.1); rintro e w' ⟨rfl, ⟨nd, rfl⟩⟩) | (go_at_call 48; (with_reducible refine (r09_SameArcs.calls k3 _ _ ((rd_T48 av aa).f3) _ _ ((rd_T48 aw aa).f3) false _ ?side1 ?side2 ?side3 ?side4 fj.1).mono ?_); (case side1 => exact Kd.C_below bH.1 pbg); (case side2 => exact ca.1); (case side3 => exact Kd.C_below bI.1 pbg); (case side4 => exact cb.1); rintro e w' ⟨rfl, ⟨nd, rfl⟩⟩))
  go_ret
  exact ⟨per, pbg⟩
 rw [if_pos rfl] at H
 have H' := am H
 clear H
 have fO := ap.1
 have f9 := ae.1
 have fP := aq.1
 have ga := ag.1
 have fQ := ai.1
 have gb := aj.1
 have z60 := cf5 aD.1
 have fR := ar.1
 have gc := af.1
 have fS := au.1
 have ge := ah.1
 have gZ := cf5 aE.1
 try go_wp2_with (first | (go_at_call 48; (with_reducible refine (r09_SameArcs.calls k3 _ _ ((rd_T48 av aa).f1) _ _ ((rd_T48 aw aa).f1) true _ ?side1 ?side2 ?side3 ?side4 dg.1).mono ?_); (case side1 => exact Kd.C_below bh.1 pbg); (case side2 => exact bn.1); (case side3 => exact Kd.C_below bi.1 pbg); (case side4 => exact bo.1); rintro e w' ⟨rfl, ⟨nd, rfl⟩⟩) | (go_at_call 48; (with_reducible refine (r09_SameArcs.calls k3 _ _ ((rd_T48 av aa).f2) _ _ ((rd_T48 aw aa).f2) true _ ?side1 ?side2 ?side3 ?side4 em.1).mono ?_); (case side1 => exact Kd.C_below bp.1 pbg); (case side2 => exact bF.1); (case side3 => exact Kd.C_below bq.1 pbg); (case side4 => exact bG.1); rintro e w' ⟨rfl, ⟨nd, rfl⟩⟩) | (go_at_call 48; (with_reducible refine (r09_SameArcs.calls k3 _ _ ((rd_T48 av aa).f3) _ _ ((rd_T48 aw aa).f3) true _ ?side1 ?side2 ?side3 ?side4 fj.1).mono ?_); (case side1 => exact Kd.C_below bH.1 pbg); (case side2 => exact ca.1); (case side3 => exact Kd.C_below bI.1 pbg); (case side4 => exact cb.1); rintro e w' ⟨rfl, ⟨nd, rfl⟩⟩))
 go_roundg k3
 case measure => have := dh.1; have := di.1; have := ft.1; omega
 case rel => exact ⟨(wrap64 (aa + 1)), prs, H', ⟨by have := dh.1; have := di.1; have := ft.1; omega⟩, ⟨by (with_reducible repeat (first | refine blk_drewN ?_ _ | refine blk_drew ?_ | refine blk_alloc ?_ _)); refine blk_far ?_ af.1 _; (with_reducible repeat (first | refine blk_drewN ?_ _ | refine blk_drew ?_ | refine blk_alloc ?_ _)); refine blk_far ?_ af.1 _; (with_reducible repeat (first | refine blk_drewN ?_ _ | refine blk_drew ?_ | refine blk_alloc ?_ _)); refine blk_far ?_ af.1 _; (with_reducible repeat (first | refine blk_drewN ?_ _ | refine blk_drew ?_ | refine blk_alloc ?_ _)); refine blk_far ?_ af.1 _; (with_reducible repeat (first | refine blk_drewN ?_ _ | refine blk_drew ?_ | refine blk_alloc ?_ _)); refine blk_far ?_ af.1 _; (with_reducible repeat (first | refine blk_drewN ?_ _ | refine blk_drew ?_ | refine blk_alloc ?_ _)); refine blk_far ?_ ae.1 _; (with_reducible repeat (first | refine blk_drewN ?_ _ | refine blk_drew ?_ | refine blk_alloc ?_ _)); refine blk_far ?_ ae.1 _; (with_reducible repeat (first | refine blk_drewN ?_ _ | refine blk_drew ?_ | refine blk_alloc ?_ _)); refine blk_far ?_ ae.1 _; (with_reducible repeat (first | refine blk_drewN ?_ _ | refine blk_drew ?_ | refine blk_alloc ?_ _)); refine blk_far ?_ ae.1 _; (with_reducible repeat (first | refine blk_drewN ?_ _ | refine blk_drew ?_ | refine blk_alloc ?_ _)); refine blk_far ?_ ae.1 _; exact pbk ab.1⟩, ⟨by (with_reducible repeat (first | refine blk_drewN ?_ _ | refine blk_drew ?_ | refine blk_alloc ?_ _)); refine blk_far ?_ ah.1 _; (with_reducible repeat (first | refine blk_drewN ?_ _ | refine blk_drew ?_ | refine blk_alloc ?_ _)); refine blk_far ?_ ah.1 _; (with_reducible repeat (first | refine blk_drewN ?_ _ | refine blk_drew ?_ | refine blk_alloc ?_ _)); refine blk_far ?_ ah.1 _; (with_reducible repeat (first | refine blk_drewN ?_ _ | refine blk_drew ?_ | refine blk_alloc ?_ _)); refine blk_far ?_ ah.1 _; (with_reducible repeat (first | refine blk_drewN ?_ _ | refine blk_drew ?_ | refine blk_alloc ?_ _)); refine blk_far ?_ ah.1 _; (with_reducible repeat (first | refine blk_drewN ?_ _ | refine blk_drew ?_ | refine blk_alloc ?_ _)); refine blk_far ?_ ag.1 _; (with_reducible repeat (first | refine blk_drewN ?_ _ | refine blk_drew ?_ | refine blk_alloc ?_ _)); refine blk_far ?_ ag.1 _; (with_reducible repeat (first | refine blk_drewN ?_ _ | refine blk_drew ?_ | refine blk_alloc ?_ _)); refine blk_far ?_ ag.1 _; (with_reducible repeat (first | refine blk_drewN ?_ _ | refine blk_drew ?_ | refine blk_alloc ?_ _)); refine blk_far ?_ ag.1 _; (with_reducible repeat (first | refine blk_drewN ?_ _ | refine blk_drew ?_ | refine blk_alloc ?_ _)); refine blk_far ?_ ag.1 _; exact pbk ac.1⟩, ⟨pbg⟩⟩

/-! ### r09_Ints: function 28 -/
attribute [local go_sem high] eqA52 eqA55
def r09_Ints.l0 : Nat → List Int → List Int → Int → Option (Bool)
 | 0, _, _, _ => none
 | k + 1, x0, x1, x5 => if x5 < (x0.length : Int) then (if 0 ≤ x5 then (if x5 < (x1.length : Int) then (if (rd x0 x5) = (rd x1 x5) then (r09_Ints.l0 k x0 x1 (wrap64 (x5 + 1))) else (some false)) else (none)) else (none)) else (some true)
def r09_Ints.f (k : Nat) (l0 : List Int) (l1 : List Int) : Option (Bool) := if (l0.length : Int) = (l1.length : Int) then (r09_Ints.l0 k l0 l1 0) else (some false)
theorem r09_Ints.mono_l : ∀ k, M3 r09_Ints.l0 k
 | 0 => fun _ _ _ r h => by simp [r09_Ints.l0] at h
 | k + 1 => by
  have aq := r09_Ints.mono_l k
  ·intro y0 y1 y2
   unfold r09_Ints.l0
   repeat' first | (with_reducible first | apply aq | apply lr | apply ln | apply li | refine lb ?_ fun _ => ?_)
theorem r09_Ints.mono : ∀ a0 a1 k, LeO (r09_Ints.f k a0 a1) (r09_Ints.f (k + 1) a0 a1) := by
 intro a0 a1 k
 have aq := r09_Ints.mono_l k
 unfold r09_Ints.f
 repeat' first | (with_reducible first | apply aq | apply lr | apply ln | apply li | refine lb ?_ fun _ => ?_)
set_option maxHeartbeats 8000000 in
set_option maxRecDepth 100000 in
theorem r09_Ints.calls (k : Nat) (A0 : Option Addr) (c0 : Nat) (l0 : List Int) (A1 : Option Addr) (c1 : Nat) (l1 : List Int) (r : Bool) (w : World) (aB : Kd.C (Kd.int .i64) w A0 l0.length l0) (hc0 : l0.length ≤ c0) (hr1 : Kd.C (Kd.int .i64) w A1 l1.length l1) (aA : l1.length ≤ c1) (h : r09_Ints.f k l0 l1 = some r) :
  Calls Try.prog 28 #[.slice A0 l0.length c0, .slice A1 l1.length c1] w fun e w' => e = .returned (.bool r) ∧ Drawn0 w w' := by
 have ay := am aB
 have aE := am hc0
 clear aB hc0
 have az := am hr1
 have aF := am aA
 clear hr1 aA
 have H := h
 unfold r09_Ints.f at H
 clear h
 by_cases c3 : (l0.length : Int) = (l1.length : Int)
 rotate_left
 ·rw [if_neg c3] at H
  have ai : ((l0.length : Int) == (l1.length : Int)) = false := beq_eq_false_iff_ne.mpr c3
  have aj : ((l0.length : Int) != (l1.length : Int)) = true := bne_iff_ne.mpr c3
  have ak : (l0.length == l1.length) = false := by first | simpa using c3 | (simp at c3 ⊢; omega)
  obtain rfl := Option.some.inj H
  go_enter Try.func28, Try.ntmps28
  go_wp2
  repeat (go_quiet (fail); try go_wp2)
  go_ret
  exact ⟨prs, pdr⟩
 rw [if_pos c3] at H
 have ai : ((l0.length : Int) == (l1.length : Int)) = true := beq_iff_eq.mpr c3
 have aj : ((l0.length : Int) != (l1.length : Int)) = false := bne_eq_false_iff_eq.mpr c3
 have ak : (l0.length == l1.length) = true := by first | simpa using c3 | (simp at c3 ⊢; omega)
 clear c3
 have H' := am H
 clear H
 go_enter Try.func28, Try.ntmps28
 go_wp2
 repeat (go_quiet (fail); try go_wp2)
 go_loopg [5] k (fun kq v5 w' => ∃ (aa : Int), v5 = .int .i64 aa ∧ Aside0 (r09_Ints.l0 kq l0 l1 aa = some r) ∧ Aside0 (kq ≤ k) ∧ Drawn0 w w')
 case atStart => exact ⟨(0), prs, H', ⟨Nat.le_refl _⟩, pdr⟩
 clear H'
 try clear c1 c3 ai aj ak
 obtain ⟨aa, rfl, HA, ax, ⟨m1, rfl⟩⟩ := hrel
 obtain _ | k1 := gk
 ·exact absurd HA.1 (by simp [r09_Ints.l0])
 have H := HA.1
 clear HA
 simp only [r09_Ints.l0] at H
 replace H := ifl H
 rcases H with ⟨al, H⟩ | ⟨al, H⟩
 rotate_left
 ·obtain rfl := Option.some.inj H
  go_wp2
  repeat (go_quiet (fail); try go_wp2)
  go_ret
  exact ⟨prs, pdr⟩
 replace H := ifp H
 obtain ⟨c5, H⟩ := H
 have aC := decide_eq_true c5
 clear c5
 replace H := ifp H
 obtain ⟨c6, H⟩ := H
 have aD := decide_eq_true c6
 clear c6
 replace H := ife H
 rcases H with ⟨ao, ap, H⟩ | ⟨ao, ap, H⟩
 rotate_left
 ·obtain rfl := Option.some.inj H
  obtain ⟨ar, av, ag, ae, ab⟩ := dint ay.1 aa
  cases ae
  obtain ⟨au, aw, ah, af, ac⟩ := dint az.1 aa
  cases af
  go_wp2
  repeat (go_quiet (fail); try go_wp2)
  go_ret
  exact ⟨prs, pdr⟩
 have H' := am H
 clear H
 obtain ⟨ar, av, ag, ae, ab⟩ := dint ay.1 aa
 cases ae
 obtain ⟨au, aw, ah, af, ac⟩ := dint az.1 aa
 cases af
 go_wp2
 repeat (go_quiet (fail); try go_wp2)
 go_roundg k1
 case measure => have := ax.1; omega
 case rel => exact ⟨(wrap64 (aa + 1)), prs, H', ⟨by have := ax.1; omega⟩, pdr⟩

end Go.Proofs.Ytnoebjmhimehcaa.P
