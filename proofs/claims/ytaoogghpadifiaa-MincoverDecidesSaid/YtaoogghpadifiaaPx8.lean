-- LAID BY OUR PROGRAM OVER THE PRINT (xprint.py, part.py): Lean checks it.
import Derived.Test.YtaoogghpadifiaaPx0
import Derived.Test.YtaoogghpadifiaaPx3
namespace Go.Proofs.Ytaoogghpadifiaa.P
open Go.RowKit Go.Proofs.YtaoogghpadifiaaW.PrintWords Go.Proofs.YtaoogghpadifiaaW.PrintLast Go.Proofs.YtaoogghpadifiaaW.PrintMore
attribute [local go_sem] max2_int min2_int max_two min_two max_three min_three max_four min_four   -- for this text's walks alone
set_option maxHeartbeats 8000000
set_option maxRecDepth 100000
set_option linter.unusedVariables false
set_option linter.unusedSimpArgs false

/-! ### r09_Initial: function 26 -/
def r09_Initial.l0 : Nat → List Int → Int → ByteArray → List (S64) → List (S38) → Option (List Int)
 | 0, _, _, _, _, _ => none
 | k + 1, x3, x4, al, ae, ao => if x4 < (ae.length : Int) then ((r09_Valid.f k al ae ao).bind fun aJ => (if aJ = true then (if 0 ≤ x4 then (if x3.length < 17592186044416 then (r09_Initial.l0 k (x3 ++ [(rd_T64 ae x4).f1]) (wrap64 (x4 + 1)) al ae ao) else (none)) else (none)) else (some x3))) else (some x3)
def r09_Initial.f (k : Nat) (ah : ByteArray) (ab : List (S64)) (ac : List (S38)) : Option (List Int) := r09_Initial.l0 k ([] : List Int) 0 ah ab ac
theorem r09_Initial.calls (k : Nat) (ah : ByteArray) (aC : Option Addr) (aE : Nat) (ab : List (S64)) (aD : Option Addr) (aG : Nat) (ac : List (S38)) (r : List Int) (w : World) (az : Kd.C k64 w aC ab.length ab) (ax : ab.length ≤ aE) (aA : Kd.C k38 w aD ac.length ac) (ay : ac.length ≤ aG) (h : r09_Initial.f k ah ab ac = some r) :
  Calls Try.prog 26 #[.agg #[.string ah, .slice aC ab.length aE, .slice aD ac.length aG]] w fun e w' => ∃ v0_ : Value, e = .returned (v0_) ∧ Kd.R (Kd.int .i64) 3 w' w.heap.size (fun _ => True) v0_ r ∧ Below w.heap.size w w' := by
 have a4 := Try.underlying25
 have ap := am az
 have au := am ax
 clear az ax
 have aw := am aA
 have av := am ay
 clear aA ay
 have HB := am (Below.refl w.heap.size w)
 have H := h
 unfold r09_Initial.f at H
 clear h
 have H' := am H
 clear H
 go_enter Try.func26, Try.ntmps26
 go_wp2_with (first | ((with_reducible refine qBN (N := 1) rfl ?_); refine box_ev ?_; intro aQ hg w2 hbox hb; have aa := am hbox; have aK := gwl hg; have aX := aK; replace HB := bsl hb; clear hb hbox hg))
 go_loopg [3, 4] k (fun kq v3 v4 w' => ∃ (ar : List Int) (af : Int), v4 = .int .i64 af ∧ Aside0 (r09_Initial.l0 kq ar af ah ab ac = some r) ∧ Aside0 (kq ≤ k) ∧ Aside0 (Kd.R (Kd.int .i64) 3 w' w.heap.size (fun _ => True) v3 ar) ∧ Aside0 (w'.heap[aQ]? = some (.cells #[.string ah, (.slice aC ab.length aE), (.slice aD ac.length aG)] 25 (0, 0))) ∧ Aside0 (Below w.heap.size w w'))
 case atStart => exact ⟨(([] : List Int)), (0), prs, H', ⟨Nat.le_refl _⟩, ⟨knl⟩, ⟨pbk aa.1⟩, ⟨pbg⟩⟩
 clear H'
 obtain ⟨ar, af, rfl, HA, aY, ag, aa, HB⟩ := hrel
 obtain _ | k1 := gk
 ·exact absurd HA.1 (by simp [r09_Initial.l0])
 have H := HA.1
 clear HA
 simp only [r09_Initial.l0] at H
 replace H := ifl H
 rcases H with ⟨aU, H⟩ | ⟨aU, H⟩
 rotate_left
 ·obtain rfl := Option.some.inj H
  have a8 := cf3 aa.1
  go_wp2
  go_ret
  exact ⟨_, per, pkr ag.1, pbg⟩
 replace H := bnd H
 obtain ⟨aJ, A4, H⟩ := H
 (try dsimp only at H)
 cases aJ
 ·rw [if_neg Bool.false_ne_true] at H
  obtain rfl := Option.some.inj H
  have a7 := cf3 aa.1
  go_wp2_with (first | (go_at_call 12; (with_reducible refine (r09_Valid.calls k1 ah _ _ ab _ _ ac false _ ?side1 ?side2 ?side3 ?side4 A4.1).mono ?_); (case side1 => exact csb ap HB); (case side2 => exact au.1); (case side3 => exact csb aw HB); (case side4 => exact av.1); rintro e ba ⟨rfl, hb⟩; replace ag := rbw ag hb; replace aa := bbh aa hb; replace HB := bst hb; (try clear hb)))
  go_ret
  exact ⟨_, per, pkr ag.1, pbg⟩
 rw [if_pos rfl] at H
 replace H := ifd H
 obtain ⟨a3, H⟩ := H
 replace H := ifp H
 obtain ⟨c7, H⟩ := H
 have aT := am c7
 clear c7
 obtain ⟨aR, aq⟩ : ∃ y_ : List Int, y_ = (ar ++ [(rd_T64 ab af).f1]) := ⟨_, rfl⟩
 replace H : (r09_Initial.l0 k1 aR (wrap64 (af + 1)) ah ab ac) = some r := hrp aq H
 have aN := am aq
 clear aq
 have H' := am H
 clear H
 have bb := cf3 aa.1
 go_wp2_with (first | (go_at_call 12; (with_reducible refine (r09_Valid.calls k1 ah _ _ ab _ _ ac true _ ?side1 ?side2 ?side3 ?side4 A4.1).mono ?_); (case side1 => exact csb ap HB); (case side2 => exact au.1); (case side3 => exact csb aw HB); (case side4 => exact av.1); rintro e w9 ⟨rfl, hb⟩; replace ag := rbw ag hb; replace aa := bbh aa hb; replace HB := bst hb; (try clear hb); have a6 := cf3 aa.1; have aH : 0 ≤ (af : Int) := dq; have aI : af < (ab.length : Int) := dq; obtain ⟨aZ, aV, ai, aj, ak⟩ := at_T64 ap.1 af aH aI; cases aV; replace ai := cbl HB.1 ai; replace aj := cbl HB.1 aj; replace ak := cbl HB.1 ak; replace aH := eq_true aH; replace aI := eq_true aI) | ((with_reducible refine qBQ (b := .append) (xs := #[.tmp 16, .tmp 23]) rfl ?_); at_builtin; refine Kd.R_append (Kd.int .i64) (w0 := w) w.heap.size rfl (.tmp 16) (.tmp 23) 39 3 (.int .i64 0) 8 rfl Try.underlying39 info3 rfl (by decide) (by omega) u3 ar ((rd_T64 ab af).f1) [.int .i64 ((rd_T64 ab af).f1)] (fun _ => True) (fun _ => False) rfl rfl ?aP (fun _ hk => hk.elim) ?aF ?aO ?aB ?aS ?aL ?_; (case aP => exact rfl); (case aB => exact pbg); (case aF => exact (fun _ _ => trivial)); (case aO => exact (pkr ag.1)); (case aS => exact (qBJ pbg)); (case aL => have := aT.1; omega); intro a5 a9 ho hb hg hat; rw [← aN.1] at ho; have aM := am ho; replace aa := (bgr aa hg (Kd.R_ne ag.1 aa.1 (by decide))); replace HB := am hb; clear ag; clear ho hb hg hat))
 go_roundg k1
 case measure => have := aY.1; omega
 case rel => exact ⟨(aR), (wrap64 (af + 1)), prs, H', ⟨by have := aY.1; omega⟩, ⟨pkr aM.1⟩, ⟨pbk aa.1⟩, ⟨pbg⟩⟩

end Go.Proofs.Ytaoogghpadifiaa.P
