-- LAID BY OUR PROGRAM OVER THE PRINT (xprint.py, part.py): Lean checks it.
import Derived.Test.YtaoogghpadifiaaPx0
import Derived.Test.YtaoogghpadifiaaPx4
import Derived.Test.YtaoogghpadifiaaPx5
import Derived.Test.YtaoogghpadifiaaCopy
import Derived.Test.YtaoogghpadifiaaShift
import Derived.WalkMore
namespace Go.Proofs.Ytaoogghpadifiaa.P
open Go.RowKit Go.Proofs.YtaoogghpadifiaaW.PrintWords Go.Proofs.YtaoogghpadifiaaW.PrintLast Go.Proofs.YtaoogghpadifiaaW.PrintMore
attribute [local go_sem] max2_int min2_int max_two min_two max_three min_three max_four min_four   -- for this text's walks alone
set_option maxHeartbeats 8000000
set_option maxRecDepth 100000
set_option linter.unusedVariables false
set_option linter.unusedSimpArgs false

/-! ### qAL: function 36 -/
-- IMPORTS Derived.WalkMore
-- IMPORTS Derived.Test.YtaoogghpadifiaaCopy
-- IMPORTS Derived.Test.YtaoogghpadifiaaShift
def qAL.own (l : List Int) (xs : List (List Int)) (i : Int) : Option (List Int) := if l.length ≤ 35184372088832 ∧ 0 ≤ i ∧ i.toNat ≤ xs.length then some l else none
def qAL.ins (xs : List (List Int)) (i : Int) (m : List Int) : List (List Int) := xs.take i.toNat ++ m :: xs.drop i.toNat
mutual
def qAL.l0 : Nat → List (List Int) → List (List Int) → Int → Int → Option ((List (List Int)))
 | 0, _, _, _, _ => none
 | k + 1, x3, x11, x12, x13 => if x13 < x12 then (if 0 ≤ x13 then (if x13 < (x11.length : Int) then ((qAN.f k (rd_L11 x11 x13) ((rd_L11 x11 x13).length : Int)).bind fun dr => (if dr = true then (if (x3.length : Int) = 0 then (if x3.length < 5864062014805 then (qAL.l0 k (x3 ++ [rd_L11 x11 x13]) x11 x12 (wrap64 (x13 + 1))) else (none)) else (if 0 < (x3.length : Int) then (if ((rd_L11 x3 0).length : Int) = ((rd_L11 x11 x13).length : Int) then (if x3.length < 5864062014805 then (qAL.l0 k (x3 ++ [rd_L11 x11 x13]) x11 x12 (wrap64 (x13 + 1))) else (none)) else (qAL.l0 k x3 x11 x12 (wrap64 (x13 + 1)))) else (none))) else (qAL.l0 k x3 x11 x12 (wrap64 (x13 + 1))))) else (none)) else (none)) else (qAL.l1 k x3 ([] : List (List Int)) x3 (x3.length : Int) 0)
def qAL.l1 : Nat → List (List Int) → List (List Int) → List (List Int) → Int → Int → Option ((List (List Int)))
 | 0, _, _, _, _, _ => none
 | k + 1, x3, x6, ce, cw, b5 => if b5 < cw then (if 0 ≤ b5 then (if b5 < (ce.length : Int) then ((qAS.f k x3 (rd_L11 ce b5)).bind fun dt => (if dt = true then (qAL.l1 k x3 x6 ce cw (wrap64 (b5 + 1))) else (qAL.l2 k x3 x6 (rd_L11 ce b5) 0 ce cw b5))) else (none)) else (none)) else (some x6)
def qAL.j3 : Nat → List (List Int) → List (List Int) → List Int → Int → List (List Int) → Int → Int → Option ((List (List Int)))
 | 0, _, _, _, _, _, _, _ => none
 | k + 1, x3, x6, x8, x9, ce, cw, b5 => if x9 < (x6.length : Int) then (if 0 ≤ x9 then ((qAO.f k (rd_L11 x6 x9)).bind fun bU => ((qAO.f k x8).bind fun bV => ((qAZ.f k bU bV).bind fun cv => (if cv = 0 then (qAL.l1 k x3 x6 ce cw (wrap64 (b5 + 1))) else ((qAL.own x8 x6 x9).bind fun cH => (if x6.length < 5864062014805 then (qAL.l1 k x3 (qAL.ins x6 x9 cH) ce cw (wrap64 (b5 + 1))) else (none))))))) else (none)) else ((qAL.own x8 x6 x9).bind fun cI => (if x6.length < 5864062014805 then (qAL.l1 k x3 (qAL.ins x6 x9 cI) ce cw (wrap64 (b5 + 1))) else (none)))
def qAL.l2 : Nat → List (List Int) → List (List Int) → List Int → Int → List (List Int) → Int → Int → Option ((List (List Int)))
 | 0, _, _, _, _, _, _, _ => none
 | k + 1, x3, x6, x8, x9, ce, cw, b5 => if x9 < (x6.length : Int) then (if 0 ≤ x9 then ((qAO.f k (rd_L11 x6 x9)).bind fun cb => ((qAO.f k x8).bind fun cd => ((qAZ.f k cb cd).bind fun cG => (if cG < 0 then (qAL.l2 k x3 x6 x8 (wrap64 (x9 + 1)) ce cw b5) else (qAL.j3 k x3 x6 x8 x9 ce cw b5))))) else (none)) else (qAL.j3 k x3 x6 x8 x9 ce cw b5)
end
def qAL.f (k : Nat) (l0 : List (List Int)) : Option ((List (List Int))) := qAL.l0 k ([] : List (List Int)) l0 (l0.length : Int) 0
theorem qAL.mono_l : ∀ k, M4 qAL.l0 k ∧ M5 qAL.l1 k ∧ M7 qAL.j3 k ∧ M7 qAL.l2 k
 | 0 => ⟨fun _ _ _ _ r h => by simp [qAL.l0] at h, fun _ _ _ _ _ r h => by simp [qAL.l1] at h, fun _ _ _ _ _ _ _ r h => by simp [qAL.j3] at h, fun _ _ _ _ _ _ _ r h => by simp [qAL.l2] at h⟩
 | k + 1 => by
  obtain ⟨es, et, eu, ev⟩ := qAL.mono_l k
  refine ⟨?_, ?_, ?_, ?_⟩ <;> dsimp only [M4, M5, M7] <;> intros <;> (first | unfold qAL.l0 | unfold qAL.l1 | unfold qAL.j3 | unfold qAL.l2) <;> repeat' first | (with_reducible first | apply es | apply et | apply eu | apply ev | apply qAZ.mono | apply qAN.mono | apply qAO.mono | apply qAS.mono | apply lr | apply ln | apply li | refine lb ?_ fun _ => ?_)
theorem qAL.mono : ∀ a0 k, LeO (qAL.f k a0) (qAL.f (k + 1) a0) := by
 intro a0 k
 obtain ⟨es, et, eu, ev⟩ := qAL.mono_l k
 unfold qAL.f
 repeat' first | (with_reducible first | apply es | apply et | apply eu | apply ev | apply qAZ.mono | apply qAN.mono | apply qAO.mono | apply qAS.mono | apply lr | apply ln | apply li | refine lb ?_ fun _ => ?_)
theorem qAL.calls (k : Nat) (P0_ : Nat → Prop) (A0 : Option Addr) (c0 : Nat) (l0 : List (List Int)) (r : List (List Int)) (w : World) (hs0 : Kd.V (Kd.slice 3 (Kd.int .i64)) 39 w w.heap.size (fun k_ => P0_ k_) (.slice A0 l0.length c0) l0) (h : qAL.f k l0 = some r) :
  Calls Try.prog 36 #[.slice A0 l0.length c0] w fun e w' => ∃ v0_ : Value, e = .returned (v0_) ∧ Kd.N (Kd.slice 3 (Kd.int .i64)) 39 w' w.heap.size (fun k_ => (P0_ k_ ∨ w.heap.size ≤ k_)) v0_ r ∧ Below w.heap.size w w' := by
 have eY := am (show Kd.V (Kd.slice 3 (Kd.int .i64)) 39 w w.heap.size (fun k_ => (P0_ k_ ∨ w.heap.size ≤ k_)) (.slice A0 l0.length c0) l0 from Kd.V_mono hs0 (fun k_ hk => .inl hk))
 have HB := am (Below.refl w.heap.size w)
 have H := h
 unfold qAL.f at H
 clear h
 have H' := am H
 clear H
 go_enter Try.func36, Try.ntmps36
 have fl_ := trivial
 iterate 3 (try ((first | clear fl_ | go_step3); go_wp2))
 go_loopg [3, 13] k (fun kq v3 fe w' => ∃ (ac : List (List Int)) (ai : Int), fe = .int .i64 ai ∧ Aside0 (qAL.l0 kq ac l0 (l0.length : Int) ai = some r) ∧ Aside0 (kq ≤ k) ∧ Aside0 (Kd.N (Kd.slice 3 (Kd.int .i64)) 39 w' w.heap.size (fun k_ => (P0_ k_ ∨ w.heap.size ≤ k_)) v3 ac) ∧ Aside0 (Kd.V (Kd.slice 3 (Kd.int .i64)) 39 w' w.heap.size (fun k_ => (P0_ k_ ∨ w.heap.size ≤ k_) ∧ some k_ ≠ (v3 : Value).ownBlock) (.slice A0 l0.length c0) l0) ∧ Aside0 (Below w.heap.size w w'))
 case atStart => exact ⟨(([] : List (List Int))), (0), prs, H', ⟨Nat.le_refl _⟩, ⟨knl⟩, ⟨vmo eY.1 (fun _ hk => ⟨hk, (by simp [Value.ownBlock])⟩)⟩, ⟨pbg⟩⟩
 clear H'
 obtain ⟨ac, ai, rfl, HA, bG, af, av, HB⟩ := hrel
 obtain _ | k1 := gk
 ·exact absurd HA.1 (by simp [qAL.l0])
 have H := HA.1
 clear HA
 simp only [qAL.l0] at H
 replace H := ifl H
 rcases H with ⟨cB, H⟩ | ⟨cB, H⟩
 ·replace H := ifp H
  obtain ⟨c3, H⟩ := H
  have de := decide_eq_true c3
  clear c3
  replace H := ifd H
  obtain ⟨df, H⟩ := H
  replace H := bnd H
  obtain ⟨dr, A5, H⟩ := H
  (try dsimp only at H)
  cases dr
  ·rw [if_neg Bool.false_ne_true] at H
   have H' := am H
   clear H
   have aU : 0 ≤ (ai : Int) := dq
   have aV : ai < (l0.length : Int) := dq
   obtain ⟨ci, bu, bv, bW, aH, aE, aD⟩ := at_L11 (Kd.qBT av.1).2.2 ai aU aV
   cases bW
   obtain ⟨co, bd, bc, aT⟩ := Kd.V_get av.1 [] ai aU (by first | exact aV | exact dq | (have e_ := (Kd.qBT av.1).1; omega))
   obtain ⟨bR, bS, rfl, ay, ax⟩ := Kd.qBV bc
   have aq := aT 0 _ rfl
   rw [Nat.add_zero, show ((Kd.slice 3 (Kd.int .i64))).sz = 1 from rfl, Nat.mul_one] at aq
   replace aq := Option.some.inj (aq.symm.trans aH)
   injection aq with hva_ hvn_ hvc_
   rw [hva_] at ax
   rw [hvc_] at ay
   have ao := am (show Kd.V (Kd.int .i64) 3 _ w.heap.size _ _ (rd_L11 l0 ai) from Kd.V_mk ay ax)
   clear hva_ hvn_ hvc_ ax ay aT bd
   have ap := am aD
   have aW := am aE
   clear aD aE
   replace aU := eq_true aU
   replace aV := eq_true aV
   have fl_ := trivial
   iterate 3 (try ((first | clear fl_ | go_step3); go_wp2_with (first | ((with_reducible refine qBO (f := 69) rfl ?_); refine gC 20 Try.func69 _ (qAN.calls k1 _ _ (rd_L11 l0 ai) ((rd_L11 l0 ai).length : Int) false _ ?side1 ?side2 A5.1) ?_; (case side1 => exact csd ap.1); (case side2 => exact aW.1); rintro e fv ⟨rfl, hb⟩; refine ⟨_, rfl, ?_⟩; replace af := nbw af hb; replace av := vbw av hb; replace ao := vbw ao hb; replace ap := cbb ap hb; replace HB := bsl hb; (try clear hb)))))
   go_roundg k1
   case measure => have := bG.1; omega
   case rel => exact ⟨(ac), (wrap64 (ai + 1)), prs, H', ⟨by have := bG.1; omega⟩, ⟨pkn af.1⟩, ⟨pkv av.1⟩, ⟨pbg⟩⟩
  rw [if_pos rfl] at H
  by_cases c7 : (ac.length : Int) = 0
  ·rw [if_pos c7] at H
   have cC : ((ac.length : Int) == 0) = true := beq_iff_eq.mpr c7
   have cD : ((ac.length : Int) != 0) = false := bne_eq_false_iff_eq.mpr c7
   clear c7
   replace H := ifp H
   obtain ⟨c8, H⟩ := H
   have d7 := am c8
   clear c8
   obtain ⟨dW, cp⟩ : ∃ y_ : List (List Int), y_ = (ac ++ [rd_L11 l0 ai]) := ⟨_, rfl⟩
   replace H : (qAL.l0 k1 dW l0 (l0.length : Int) (wrap64 (ai + 1))) = some r := hrp cp H
   have dB := am cp
   clear cp
   have H' := am H
   clear H
   have aU : 0 ≤ (ai : Int) := dq
   have aV : ai < (l0.length : Int) := dq
   obtain ⟨ci, bu, bv, bW, aH, aE, aD⟩ := at_L11 (Kd.qBT av.1).2.2 ai aU aV
   cases bW
   obtain ⟨co, bd, bc, aT⟩ := Kd.V_get av.1 [] ai aU (by first | exact aV | exact dq | (have e_ := (Kd.qBT av.1).1; omega))
   obtain ⟨bR, bS, rfl, ay, ax⟩ := Kd.qBV bc
   have aq := aT 0 _ rfl
   rw [Nat.add_zero, show ((Kd.slice 3 (Kd.int .i64))).sz = 1 from rfl, Nat.mul_one] at aq
   replace aq := Option.some.inj (aq.symm.trans aH)
   injection aq with hva_ hvn_ hvc_
   rw [hva_] at ax
   rw [hvc_] at ay
   have ao := am (show Kd.V (Kd.int .i64) 3 _ w.heap.size _ _ (rd_L11 l0 ai) from Kd.V_mk ay ax)
   clear hva_ hvn_ hvc_ ax ay aT bd
   have ap := am aD
   have aW := am aE
   clear aD aE
   replace aU := eq_true aU
   replace aV := eq_true aV
   have fl_ := trivial
   iterate 3 (try ((first | clear fl_ | go_step3); go_wp2_with (first | ((with_reducible refine qBO (f := 69) rfl ?_); refine gC 20 Try.func69 _ (qAN.calls k1 _ _ (rd_L11 l0 ai) ((rd_L11 l0 ai).length : Int) true _ ?side1 ?side2 A5.1) ?_; (case side1 => exact csd ap.1); (case side2 => exact aW.1); rintro e w9 ⟨rfl, hb⟩; refine ⟨_, rfl, ?_⟩; replace af := nbw af hb; replace av := vbw av hb; replace ao := vbw ao hb; replace ap := cbb ap hb; replace HB := bsl hb; (try clear hb); obtain ⟨cx, cE, ec⟩ := Kd.N_slice af.1; subst ec) | ((with_reducible refine qBQ (b := .append) (xs := #[.tmp 35, .tmp 37]) rfl ?_); (try (refine qBP (by rfl) ?_; dsimp only)); at_builtin; refine Kd.N_append (Kd.slice 3 (Kd.int .i64)) (w0 := w) w.heap.size rfl (.tmp 35) (.tmp 37) 30 39 (.slice none 0 0) 24 rfl Try.underlying30 info39 rfl (by decide) (by omega) (.slice cx ac.length cE) ac (rd_L11 l0 ai) [.slice bu (rd_L11 l0 ai).length bv] (fun k_ => (P0_ k_ ∨ w.heap.size ≤ k_)) (fun k_ => ((fun k_ => (P0_ k_ ∨ w.heap.size ≤ k_))) k_ ∧ some k_ ≠ (.slice cx ac.length cE : Value).ownBlock) rfl rfl ?aP (fun _ hk => hk) ?aF ?aO ?aB ?aS ?aL ?_; (case aP => exact (Kd.qBW (Kd.qBT (Kd.V_mono (ok' := (fun k_ => ((fun k_ => (P0_ k_ ∨ w.heap.size ≤ k_))) k_ ∧ some k_ ≠ (.slice cx ac.length cE : Value).ownBlock)) (ao.1) (fun k_ hk => ⟨hk.1, hk.2⟩))).2.1 (Kd.V_F (Kd.V_mono (ok' := (fun k_ => ((fun k_ => (P0_ k_ ∨ w.heap.size ≤ k_))) k_ ∧ some k_ ≠ (.slice cx ac.length cE : Value).ownBlock)) (ao.1) (fun k_ hk => ⟨hk.1, hk.2⟩))))); (case aB => exact pbl); (case aF => exact (fun k_ hk => (.inr (Nat.le_trans (qBJ pbl) hk)))); (case aO => exact (pkn af.1)); (case aS => exact (qBJ pbl)); (case aL => have := d7.1; omega); intro ff fp ho hb hg hat; rw [← dB.1] at ho; have dx := am ho; replace av := am (Kd.qCE (ok := (fun k_ => (P0_ k_ ∨ w.heap.size ≤ k_))) (pkv av.1) hg hat); replace ao := am (Kd.qCE (ok := (fun k_ => (P0_ k_ ∨ w.heap.size ≤ k_))) (pkv ao.1) hg hat); replace HB := am hb; clear af; clear ho hb hg hat))))
   go_roundg k1
   case measure => have := bG.1; omega
   case rel => exact ⟨(dW), (wrap64 (ai + 1)), prs, H', ⟨by have := bG.1; omega⟩, ⟨pkn dx.1⟩, ⟨pkv av.1⟩, ⟨pbg⟩⟩
  rw [if_neg c7] at H
  have cC : ((ac.length : Int) == 0) = false := beq_eq_false_iff_ne.mpr c7
  have cD : ((ac.length : Int) != 0) = true := bne_iff_ne.mpr c7
  have dg : ¬ (ac = []) := fun h_ => c7 (by rw [h_]; rfl)
  replace H := ifp H
  obtain ⟨dG, H⟩ := H
  have ck := decide_eq_true dG
  have cm : decide (0 < ac.length) = true := decide_eq_true (by omega)
  clear dG
  by_cases b6 : ((rd_L11 ac 0).length : Int) = ((rd_L11 l0 ai).length : Int)
  rotate_left
  ·rw [if_neg b6] at H
   have b7 : (((rd_L11 ac 0).length : Int) == ((rd_L11 l0 ai).length : Int)) = false := beq_eq_false_iff_ne.mpr b6
   have b8 : (((rd_L11 ac 0).length : Int) != ((rd_L11 l0 ai).length : Int)) = true := bne_iff_ne.mpr b6
   have b9 : ((rd_L11 ac 0).length == (rd_L11 l0 ai).length) = false := by first | simpa using b6 | (simp at b6 ⊢; omega)
   have H' := am H
   clear H
   have aU : 0 ≤ (ai : Int) := dq
   have aV : ai < (l0.length : Int) := dq
   obtain ⟨ci, bu, bv, bW, aH, aE, aD⟩ := at_L11 (Kd.qBT av.1).2.2 ai aU aV
   cases bW
   obtain ⟨co, bd, bc, aT⟩ := Kd.V_get av.1 [] ai aU (by first | exact aV | exact dq | (have e_ := (Kd.qBT av.1).1; omega))
   obtain ⟨bR, bS, rfl, ay, ax⟩ := Kd.qBV bc
   have aq := aT 0 _ rfl
   rw [Nat.add_zero, show ((Kd.slice 3 (Kd.int .i64))).sz = 1 from rfl, Nat.mul_one] at aq
   replace aq := Option.some.inj (aq.symm.trans aH)
   injection aq with hva_ hvn_ hvc_
   rw [hva_] at ax
   rw [hvc_] at ay
   have ao := am (show Kd.V (Kd.int .i64) 3 _ w.heap.size _ _ (rd_L11 l0 ai) from Kd.V_mk ay ax)
   clear hva_ hvn_ hvc_ ax ay aT bd
   have ap := am aD
   have aW := am aE
   clear aD aE
   replace aU := eq_true aU
   replace aV := eq_true aV
   have fl_ := trivial
   iterate 3 (try ((first | clear fl_ | go_step3); go_wp2_with (first | ((with_reducible refine qBO (f := 69) rfl ?_); refine gC 20 Try.func69 _ (qAN.calls k1 _ _ (rd_L11 l0 ai) ((rd_L11 l0 ai).length : Int) true _ ?side1 ?side2 A5.1) ?_; (case side1 => exact csd ap.1); (case side2 => exact aW.1); rintro e fu ⟨rfl, hb⟩; refine ⟨_, rfl, ?_⟩; replace af := nbw af hb; replace av := vbw av hb; replace ao := vbw ao hb; replace ap := cbb ap hb; replace HB := bsl hb; (try clear hb); obtain ⟨eM, e0, ee⟩ := Kd.N_slice af.1; subst ee; have bp : 0 ≤ (0 : Int) := (by omega); have bq : 0 < (ac.length : Int) := dq; obtain ⟨bT, cW, da, dh, aI, bj, bf⟩ := at_L11 (Kd.qBS af.1).2.2 0 bp bq; cases dh; obtain ⟨dM, b1, bX, bx⟩ := Kd.N_get af.1 [] 0 bp (by first | exact bq | exact dq | (have e_ := (Kd.qBS af.1).1; omega)); obtain ⟨cJ, cN, rfl, a3, aY⟩ := Kd.qBV bX; have aM := bx 0 _ rfl; rw [Nat.add_zero, show ((Kd.slice 3 (Kd.int .i64))).sz = 1 from rfl, Nat.mul_one] at aM; replace aM := Option.some.inj (aM.symm.trans aI); injection aM with hva_ hvn_ hvc_; rw [hva_] at aY; rw [hvc_] at a3; have bL := am (show Kd.V (Kd.int .i64) 3 _ w.heap.size _ _ (rd_L11 ac 0) from Kd.V_mk a3 aY); clear hva_ hvn_ hvc_ aY a3; clear bx b1; have dS : (0 < ac.length) = True := eq_true (by omega); (try rw [show ((0 : Int)).toNat = 0 from rfl] at aI); (try rw [Addr.add_zero'] at aI); have cA := am bf; have cz := am bj; clear bf bj; replace bp := eq_true bp; replace bq := eq_true bq))))
   go_roundg k1
   case measure => have := bG.1; omega
   case rel => exact ⟨(ac), (wrap64 (ai + 1)), prs, H', ⟨by have := bG.1; omega⟩, ⟨pkn af.1⟩, ⟨pkv av.1⟩, ⟨pbg⟩⟩
  rw [if_pos b6] at H
  have b7 : (((rd_L11 ac 0).length : Int) == ((rd_L11 l0 ai).length : Int)) = true := beq_iff_eq.mpr b6
  have b8 : (((rd_L11 ac 0).length : Int) != ((rd_L11 l0 ai).length : Int)) = false := bne_eq_false_iff_eq.mpr b6
  have b9 : ((rd_L11 ac 0).length == (rd_L11 l0 ai).length) = true := by first | simpa using b6 | (simp at b6 ⊢; omega)
  clear b6
  replace H := ifp H
  obtain ⟨dH, H⟩ := H
  have dz := am dH
  clear dH
  obtain ⟨dX, cq⟩ : ∃ y_ : List (List Int), y_ = (ac ++ [rd_L11 l0 ai]) := ⟨_, rfl⟩
  replace H : (qAL.l0 k1 dX l0 (l0.length : Int) (wrap64 (ai + 1))) = some r := hrp cq H
  have dC := am cq
  clear cq
  have H' := am H
  clear H
  have aU : 0 ≤ (ai : Int) := dq
  have aV : ai < (l0.length : Int) := dq
  obtain ⟨ci, bu, bv, bW, aH, aE, aD⟩ := at_L11 (Kd.qBT av.1).2.2 ai aU aV
  cases bW
  obtain ⟨co, bd, bc, aT⟩ := Kd.V_get av.1 [] ai aU (by first | exact aV | exact dq | (have e_ := (Kd.qBT av.1).1; omega))
  obtain ⟨bR, bS, rfl, ay, ax⟩ := Kd.qBV bc
  have aq := aT 0 _ rfl
  rw [Nat.add_zero, show ((Kd.slice 3 (Kd.int .i64))).sz = 1 from rfl, Nat.mul_one] at aq
  replace aq := Option.some.inj (aq.symm.trans aH)
  injection aq with hva_ hvn_ hvc_
  rw [hva_] at ax
  rw [hvc_] at ay
  have ao := am (show Kd.V (Kd.int .i64) 3 _ w.heap.size _ _ (rd_L11 l0 ai) from Kd.V_mk ay ax)
  clear hva_ hvn_ hvc_ ax ay aT bd
  have ap := am aD
  have aW := am aE
  clear aD aE
  replace aU := eq_true aU
  replace aV := eq_true aV
  have fl_ := trivial
  iterate 3 (try ((first | clear fl_ | go_step3); go_wp2_with (first | ((with_reducible refine qBO (f := 69) rfl ?_); refine gC 20 Try.func69 _ (qAN.calls k1 _ _ (rd_L11 l0 ai) ((rd_L11 l0 ai).length : Int) true _ ?side1 ?side2 A5.1) ?_; (case side1 => exact csd ap.1); (case side2 => exact aW.1); rintro e fq ⟨rfl, hb⟩; refine ⟨_, rfl, ?_⟩; replace af := nbw af hb; replace av := vbw av hb; replace ao := vbw ao hb; replace ap := cbb ap hb; replace HB := bsl hb; (try clear hb); obtain ⟨eL, cF, ed⟩ := Kd.N_slice af.1; subst ed; have bp : 0 ≤ (0 : Int) := (by omega); have bq : 0 < (ac.length : Int) := dq; obtain ⟨bT, cW, da, dh, aI, bj, bf⟩ := at_L11 (Kd.qBS af.1).2.2 0 bp bq; cases dh; obtain ⟨dM, b1, bX, bx⟩ := Kd.N_get af.1 [] 0 bp (by first | exact bq | exact dq | (have e_ := (Kd.qBS af.1).1; omega)); obtain ⟨cJ, cN, rfl, a3, aY⟩ := Kd.qBV bX; have aM := bx 0 _ rfl; rw [Nat.add_zero, show ((Kd.slice 3 (Kd.int .i64))).sz = 1 from rfl, Nat.mul_one] at aM; replace aM := Option.some.inj (aM.symm.trans aI); injection aM with hva_ hvn_ hvc_; rw [hva_] at aY; rw [hvc_] at a3; have bL := am (show Kd.V (Kd.int .i64) 3 _ w.heap.size _ _ (rd_L11 ac 0) from Kd.V_mk a3 aY); clear hva_ hvn_ hvc_ aY a3; clear bx b1; have dS : (0 < ac.length) = True := eq_true (by omega); (try rw [show ((0 : Int)).toNat = 0 from rfl] at aI); (try rw [Addr.add_zero'] at aI); have cA := am bf; have cz := am bj; clear bf bj; replace bp := eq_true bp; replace bq := eq_true bq) | ((with_reducible refine qBQ (b := .append) (xs := #[.tmp 35, .tmp 37]) rfl ?_); (try (refine qBP (by rfl) ?_; dsimp only)); at_builtin; refine Kd.N_append (Kd.slice 3 (Kd.int .i64)) (w0 := w) w.heap.size rfl (.tmp 35) (.tmp 37) 30 39 (.slice none 0 0) 24 rfl Try.underlying30 info39 rfl (by decide) (by omega) (.slice (some bT) ac.length cF) ac (rd_L11 l0 ai) [.slice bu (rd_L11 l0 ai).length bv] (fun k_ => (P0_ k_ ∨ w.heap.size ≤ k_)) (fun k_ => ((fun k_ => (P0_ k_ ∨ w.heap.size ≤ k_))) k_ ∧ some k_ ≠ (.slice (some bT) ac.length cF : Value).ownBlock) rfl rfl ?aP (fun _ hk => hk) ?aF ?aO ?aB ?aS ?aL ?_; (case aP => exact (Kd.qBW (Kd.qBT (Kd.V_mono (ok' := (fun k_ => ((fun k_ => (P0_ k_ ∨ w.heap.size ≤ k_))) k_ ∧ some k_ ≠ (.slice (some bT) ac.length cF : Value).ownBlock)) (ao.1) (fun k_ hk => ⟨hk.1, hk.2⟩))).2.1 (Kd.V_F (Kd.V_mono (ok' := (fun k_ => ((fun k_ => (P0_ k_ ∨ w.heap.size ≤ k_))) k_ ∧ some k_ ≠ (.slice (some bT) ac.length cF : Value).ownBlock)) (ao.1) (fun k_ hk => ⟨hk.1, hk.2⟩))))); (case aB => exact pbl); (case aF => exact (fun k_ hk => (.inr (Nat.le_trans (qBJ pbl) hk)))); (case aO => exact (pkn af.1)); (case aS => exact (qBJ pbl)); (case aL => have := dz.1; omega); intro fg ft ho hb hg hat; rw [← dC.1] at ho; have dy := am ho; replace av := am (Kd.qCE (ok := (fun k_ => (P0_ k_ ∨ w.heap.size ≤ k_))) (pkv av.1) hg hat); replace ao := am (Kd.qCE (ok := (fun k_ => (P0_ k_ ∨ w.heap.size ≤ k_))) (pkv ao.1) hg hat); replace bL := am (Kd.qCE (ok := (fun k_ => (P0_ k_ ∨ w.heap.size ≤ k_))) (pkv bL.1) hg hat); replace HB := am hb; clear af; clear ho hb hg hat))))
  go_roundg k1
  case measure => have := bG.1; omega
  case rel => exact ⟨(dX), (wrap64 (ai + 1)), prs, H', ⟨by have := bG.1; omega⟩, ⟨pkn dy.1⟩, ⟨pkv av.1⟩, ⟨pbg⟩⟩
 have H' := am H
 clear H
 obtain ⟨cy, aG, ef⟩ := Kd.N_slice af.1
 subst ef
 have fl_ := trivial
 iterate 3 (try ((first | clear fl_ | go_step3); go_wp2))
 go_loopg [6, 42] k1 (fun kq v6 fh w' => ∃ (aw : List (List Int)) (ag : Int), fh = .int .i64 ag ∧ Aside0 (qAL.l1 kq ac aw ac (ac.length : Int) ag = some r) ∧ Aside0 (kq ≤ k1) ∧ Aside0 (Kd.N (Kd.slice 3 (Kd.int .i64)) 39 w' w.heap.size (fun k_ => (P0_ k_ ∨ w.heap.size ≤ k_) ∧ some k_ ≠ (v6 : Value).ownBlock) (.slice cy ac.length aG) ac) ∧ Aside0 (Kd.N (Kd.slice 3 (Kd.int .i64)) 39 w' w.heap.size (fun k_ => (P0_ k_ ∨ w.heap.size ≤ k_) ∧ some k_ ≠ ((.slice cy ac.length aG) : Value).ownBlock ∧ some k_ ≠ ((.slice cy ac.length aG) : Value).ownBlock) v6 aw) ∧ Aside0 (Kd.N (Kd.slice 3 (Kd.int .i64)) 39 w' w.heap.size (fun k_ => (P0_ k_ ∨ w.heap.size ≤ k_) ∧ some k_ ≠ (v6 : Value).ownBlock) (.slice cy ac.length aG) ac) ∧ Aside0 (Below w.heap.size w w'))
 case atStart => exact ⟨(([] : List (List Int))), (0), prs, H', ⟨Nat.le_refl _⟩, ⟨nmo af.1 (fun _ hk => ⟨hk, (by simp [Value.ownBlock])⟩)⟩, ⟨knl⟩, ⟨nmo af.1 (fun _ hk => ⟨hk, (by simp [Value.ownBlock])⟩)⟩, ⟨pbg⟩⟩
 clear H'
 try clear cB c3 de c4 df c6 c7 cC cD dg c8 dG ck cm b6 b7 b8 b9 dH aH aI aU bp aV bq
 obtain ⟨aw, ag, rfl, HA, cf, af, ah, ae, HB⟩ := hrel
 obtain _ | k2 := gk
 ·exact absurd HA.1 (by simp [qAL.l1])
 have H := HA.1
 clear HA
 simp only [qAL.l1] at H
 replace H := ifl H
 rcases H with ⟨cn, H⟩ | ⟨cn, H⟩
 rotate_left
 ·obtain rfl := Option.some.inj H
  have fl_ := trivial
  iterate 3 (try ((first | clear fl_ | go_step3); go_wp2))
  (try rw [Exit.noGoto_ret])
  go_ret
  exact ⟨_, per, by (with_reducible repeat (first | apply Kd.N_alloc | apply Kd.N_drewN | apply Kd.N_drew)); exact Kd.N_mono ah.1 (fun _ hk => hk.1), pbg⟩
 replace H := ifd H
 obtain ⟨cT, H⟩ := H
 replace H := ifd H
 obtain ⟨cU, H⟩ := H
 replace H := bnd H
 obtain ⟨dt, d1, H⟩ := H
 (try dsimp only at H)
 cases dt
 rotate_left
 ·rw [if_pos rfl] at H
  have H' := am H
  clear H
  have bC : 0 ≤ (ag : Int) := dq
  have bD : ag < (ac.length : Int) := dq
  obtain ⟨az, bb, bw, di, bn, bk, bg⟩ := at_L11 (Kd.qBS ae.1).2.2 ag bC bD
  cases di
  obtain ⟨dN, b2, bY, bz⟩ := Kd.N_get ae.1 [] ag bC (by first | exact bD | exact dq | (have e_ := (Kd.qBS ae.1).1; omega))
  obtain ⟨cK, cO, rfl, a4, aZ⟩ := Kd.qBV bY
  have aN := bz 0 _ rfl
  rw [Nat.add_zero, show ((Kd.slice 3 (Kd.int .i64))).sz = 1 from rfl, Nat.mul_one] at aN
  replace aN := Option.some.inj (aN.symm.trans bn)
  injection aN with hva_ hvn_ hvc_
  rw [hva_] at aZ
  rw [hvc_] at a4
  have aX := am (show Kd.V (Kd.int .i64) 3 _ w.heap.size _ _ (rd_L11 ac ag) from Kd.V_mk a4 aZ)
  clear hva_ hvn_ hvc_ aZ a4 bz b2
  have aa := am bg
  have aK := am bk
  clear bg bk
  replace bC := eq_true bC
  replace bD := eq_true bD
  have fl_ := trivial
  iterate 3 (try ((first | clear fl_ | go_step3); go_wp2_with (first | ((with_reducible refine qBO (f := 70) rfl ?_); refine gC 49 Try.func70 _ (qAS.calls k2 _ _ ac _ _ (rd_L11 ac ag) true _ ?side1 ?side2 ?side3 ?side4 d1.1) ?_; (case side1 => exact csd ((Kd.qBS af.1).2.2)); (case side2 => exact (Kd.qBS af.1).2.1); (case side3 => exact csd aa.1); (case side4 => exact aK.1); rintro e fw ⟨rfl, hb⟩; refine ⟨_, rfl, ?_⟩; replace af := nbw af hb; replace ah := nbw ah hb; replace ae := nbw ae hb; replace aX := vbw aX hb; replace aa := cbb aa hb; replace HB := bsl hb; (try clear hb)))))
  go_roundg k2
  case measure => have := bG.1; have := cf.1; omega
  case rel => exact ⟨(aw), (wrap64 (ag + 1)), prs, H', ⟨by have := bG.1; have := cf.1; omega⟩, ⟨pkn af.1⟩, ⟨pkn ah.1⟩, ⟨pkn ae.1⟩, ⟨pbg⟩⟩
 rw [if_neg Bool.false_ne_true] at H
 have cZ := am H
 clear H
 have bC : 0 ≤ (ag : Int) := dq
 have bD : ag < (ac.length : Int) := dq
 obtain ⟨az, bb, bw, di, bn, bk, bg⟩ := at_L11 (Kd.qBS ae.1).2.2 ag bC bD
 cases di
 obtain ⟨dN, b2, bY, bz⟩ := Kd.N_get ae.1 [] ag bC (by first | exact bD | exact dq | (have e_ := (Kd.qBS ae.1).1; omega))
 obtain ⟨cK, cO, rfl, a4, aZ⟩ := Kd.qBV bY
 have aN := bz 0 _ rfl
 rw [Nat.add_zero, show ((Kd.slice 3 (Kd.int .i64))).sz = 1 from rfl, Nat.mul_one] at aN
 replace aN := Option.some.inj (aN.symm.trans bn)
 injection aN with hva_ hvn_ hvc_
 rw [hva_] at aZ
 rw [hvc_] at a4
 have aX := am (show Kd.V (Kd.int .i64) 3 _ w.heap.size _ _ (rd_L11 ac ag) from Kd.V_mk a4 aZ)
 clear hva_ hvn_ hvc_ aZ a4 bz b2
 have aa := am bg
 have aK := am bk
 clear bg bk
 replace bC := eq_true bC
 replace bD := eq_true bD
 go_upto_block 4 with (first | ((with_reducible refine qBO (f := 70) rfl ?_); refine gC 49 Try.func70 _ (qAS.calls k2 _ _ ac _ _ (rd_L11 ac ag) false _ ?side1 ?side2 ?side3 ?side4 d1.1) ?_; (case side1 => exact csd ((Kd.qBS af.1).2.2)); (case side2 => exact (Kd.qBS af.1).2.1); (case side3 => exact csd aa.1); (case side4 => exact aK.1); rintro e fi ⟨rfl, hb⟩; refine ⟨_, rfl, ?_⟩; replace af := nbw af hb; replace ah := nbw ah hb; replace ae := nbw ae hb; replace aX := vbw aX hb; replace aa := cbb aa hb; replace HB := bsl hb; (try clear hb)))
 iterate 2 (try (go_step3; go_upto_block 4 with (first | ((with_reducible refine qBO (f := 70) rfl ?_); refine gC 49 Try.func70 _ (qAS.calls k2 _ _ ac _ _ (rd_L11 ac ag) false _ ?side1 ?side2 ?side3 ?side4 d1.1) ?_; (case side1 => exact csd ((Kd.qBS af.1).2.2)); (case side2 => exact (Kd.qBS af.1).2.1); (case side3 => exact csd aa.1); (case side4 => exact aK.1); rintro e fi ⟨rfl, hb⟩; refine ⟨_, rfl, ?_⟩; replace af := nbw af hb; replace ah := nbw ah hb; replace ae := nbw ae hb; replace aX := vbw aX hb; replace aa := cbb aa hb; replace HB := bsl hb; (try clear hb)))))
 (try simp only [Act.put, List.setIfInBounds_toArray, List.set_cons_zero, List.set_cons_succ])
 go_cut [9] (fun v9 wc => ∃ (kq : Nat) (ab : Int), v9 = .int .i64 ab ∧ Aside0 (qAL.j3 kq ac aw (rd_L11 ac ag) ab ac (ac.length : Int) ag = some r) ∧ Aside0 (kq ≤ k2) ∧ Aside0 (Kd.N (Kd.slice 3 (Kd.int .i64)) 39 wc w.heap.size (fun k_ => (P0_ k_ ∨ w.heap.size ≤ k_) ∧ some k_ ≠ (u6 : Value).ownBlock) (.slice (some az) ac.length aG) ac) ∧ Aside0 (Kd.N (Kd.slice 3 (Kd.int .i64)) 39 wc w.heap.size (fun k_ => (P0_ k_ ∨ w.heap.size ≤ k_) ∧ some k_ ≠ ((.slice (some az) ac.length aG) : Value).ownBlock ∧ some k_ ≠ ((.slice (some az) ac.length aG) : Value).ownBlock) u6 aw) ∧ Aside0 (Kd.N (Kd.slice 3 (Kd.int .i64)) 39 wc w.heap.size (fun k_ => (P0_ k_ ∨ w.heap.size ≤ k_) ∧ some k_ ≠ (u6 : Value).ownBlock) (.slice (some az) ac.length aG) ac) ∧ Aside0 (Kd.C (Kd.int .i64) wc bb (rd_L11 ac ag).length (rd_L11 ac ag)) ∧ Aside0 (Below w.heap.size w wc))
 case first =>
  have H := cZ.1
  clear cZ
  have H' := am H
  clear H
  have fl_ := trivial
  iterate 3 (try ((first | clear fl_ | go_step3); go_wp2))
  go_loopg [9] k2 (fun kq v9 w' => ∃ (a7 : Int), v9 = .int .i64 a7 ∧ Aside0 (qAL.l2 kq ac aw (rd_L11 ac ag) a7 ac (ac.length : Int) ag = some r) ∧ Aside0 (kq ≤ k2) ∧ Aside0 (Kd.N (Kd.slice 3 (Kd.int .i64)) 39 w' w.heap.size (fun k_ => (P0_ k_ ∨ w.heap.size ≤ k_) ∧ some k_ ≠ (u6 : Value).ownBlock) (.slice (some az) ac.length aG) ac) ∧ Aside0 (Kd.N (Kd.slice 3 (Kd.int .i64)) 39 w' w.heap.size (fun k_ => (P0_ k_ ∨ w.heap.size ≤ k_) ∧ some k_ ≠ ((.slice (some az) ac.length aG) : Value).ownBlock ∧ some k_ ≠ ((.slice (some az) ac.length aG) : Value).ownBlock) u6 aw) ∧ Aside0 (Kd.N (Kd.slice 3 (Kd.int .i64)) 39 w' w.heap.size (fun k_ => (P0_ k_ ∨ w.heap.size ≤ k_) ∧ some k_ ≠ (u6 : Value).ownBlock) (.slice (some az) ac.length aG) ac) ∧ Aside0 (Kd.C (Kd.int .i64) w' bb (rd_L11 ac ag).length (rd_L11 ac ag)) ∧ Aside0 (Below w.heap.size w w'))
  case atStart => exact ⟨(0), prs, H', ⟨Nat.le_refl _⟩, ⟨pkn af.1⟩, ⟨pkn ah.1⟩, ⟨pkn ae.1⟩, ⟨by repeat (first | (with_reducible exact aa.1) | (with_reducible refine Kd.C_alloc ?_ _) | (with_reducible refine Kd.C_drewN ?_ _) | (with_reducible refine Kd.C_drew ?_) | exact aa.1)⟩, ⟨pbg⟩⟩
  clear H'
  try clear c2 cB c3 de c4 df c6 c7 cC cD dg c8 dG ck cm b6 b7 b8 b9 dH eZ cn dZ cT d0 cU aH aI bn aU bp bC aV bq bD
  obtain ⟨a7, rfl, HA, dY, af, ah, ae, aa, HB⟩ := hrel
  obtain _ | k3 := gk
  ·exact absurd HA.1 (by simp [qAL.l2])
  have H := HA.1
  clear HA
  simp only [qAL.l2] at H
  replace H := ifl H
  rcases H with ⟨bH, H⟩ | ⟨bH, H⟩
  rotate_left
  ·(first | rw [bH] | (simp only [i64_w, i32_w]; rw [bH]) | skip)
   have H' := am H
   clear H
   obtain ⟨eT, fa, em⟩ := Kd.N_slice ah.1
   subst em
   have fl_ := trivial
   iterate 3 (try ((first | clear fl_ | go_step3); go_wp2))
   go_meet
   case rel => exact ⟨_, (a7), prs, H', ⟨by have := bG.1; have := cf.1; have := dY.1; first | omega | exact Nat.le_refl _⟩, ⟨pkn af.1⟩, ⟨pkn ah.1⟩, ⟨pkn ae.1⟩, ⟨by repeat (first | (with_reducible exact aa.1) | (with_reducible refine Kd.C_alloc ?_ _) | (with_reducible refine Kd.C_drewN ?_ _) | (with_reducible refine Kd.C_drew ?_) | exact aa.1)⟩, ⟨pbg⟩⟩
  (first | rw [bH] | (simp only [i64_w, i32_w]; rw [bH]) | skip)
  replace H := ifd H
  obtain ⟨dI, H⟩ := H
  replace H := bnd H
  obtain ⟨cb, eC, H⟩ := H
  (try dsimp only at H)
  replace H := bnd H
  obtain ⟨cd, eD, H⟩ := H
  (try dsimp only at H)
  replace H := bnd H
  obtain ⟨cG, eE, H⟩ := H
  (try dsimp only at H)
  replace H := ifl H
  rcases H with ⟨cV, H⟩ | ⟨cV, H⟩
  rotate_left
  ·have H' := am H
   clear H
   obtain ⟨eQ, e7, ej⟩ := Kd.N_slice ah.1
   subst ej
   have bE : 0 ≤ (a7 : Int) := dq
   have bF : a7 < (aw.length : Int) := dq
   obtain ⟨dF, cX, db, dj, bs, bl, bh⟩ := at_L11 (Kd.qBS ah.1).2.2 a7 bE bF
   cases dj
   obtain ⟨dO, b3, bZ, bA⟩ := Kd.N_get ah.1 [] a7 bE (by first | exact bF | exact dq | (have e_ := (Kd.qBS ah.1).1; omega))
   obtain ⟨cL, cP, rfl, a5, a1⟩ := Kd.qBV bZ
   have aQ := bA 0 _ rfl
   rw [Nat.add_zero, show ((Kd.slice 3 (Kd.int .i64))).sz = 1 from rfl, Nat.mul_one] at aQ
   replace aQ := Option.some.inj (aQ.symm.trans bs)
   injection aQ with hva_ hvn_ hvc_
   rw [hva_] at a1
   rw [hvc_] at a5
   have aA := am (show Kd.V (Kd.int .i64) 3 _ w.heap.size _ _ (rd_L11 aw a7) from Kd.V_mk a5 a1)
   clear hva_ hvn_ hvc_ a1 a5 bA b3
   have ar := am bh
   have bK := am bl
   clear bh bl
   replace bE := eq_true bE
   replace bF := eq_true bF
   have fl_ := trivial
   iterate 3 (try ((first | clear fl_ | go_step3); go_wp2_with (first | (go_at_call 73; (with_reducible refine (qAO.calls k3 _ _ (rd_L11 aw a7) cb _ ?side1 ?side2 eC.1).mono ?_); (case side1 => exact csd ar.1); (case side2 => exact bK.1); rintro e fA ⟨ew, rfl, al, hb⟩; have aJ := am (Kd.qCH (Kd.R_newM (M := fun k_ => (w.heap.size ≤ k_)) al (qBJ pbl) (fun k_ h_ => h_)) (qBJ pbl)); replace af := am (Kd.qBX (pkn af.1) (Kd.R_base al) hb); replace ah := am (Kd.qBX (pkn ah.1) (Kd.R_base al) hb); replace ae := am (Kd.qBX (pkn ae.1) (Kd.R_base al) hb); replace aA := am (Kd.qBY (pkv aA.1) (Kd.R_base al) hb); replace aa := cbb aa hb; replace ar := cbb ar hb; replace HB := bsl hb; (try clear hb); (try clear al)) | (go_at_call 73; (with_reducible refine (qAO.calls k3 _ _ (rd_L11 ac ag) cd _ ?side1 ?side2 eD.1).mono ?_); (case side1 => exact csd aa.1); (case side2 => exact aK.1); rintro e fB ⟨ex, rfl, al, hb⟩; have a8 := am (Kd.qCH (Kd.R_new' (Kd.R_newM (M := fun k_ => (w.heap.size ≤ k_)) al (qBJ pbl) (fun k_ h_ => h_)) (Kd.R_lt (pkr aJ.1))) (qBJ pbl)); replace af := am (Kd.qBX (pkn af.1) (Kd.R_base al) hb); replace ah := am (Kd.qBX (pkn ah.1) (Kd.R_base al) hb); replace ae := am (Kd.qBX (pkn ae.1) (Kd.R_base al) hb); replace aA := am (Kd.qBY (pkv aA.1) (Kd.R_base al) hb); replace aJ := am (Kd.R_elder' (pkr aJ.1) (Kd.R_base al) hb); replace aa := cbb aa hb; replace ar := cbb ar hb; replace HB := bsl hb; (try clear hb); (try clear al); obtain ⟨eR, e8, ek⟩ := Kd.R_slice aJ.1; subst ek; obtain ⟨eS, e9, el⟩ := Kd.R_slice a8.1; subst el) | (go_at_call 72; (with_reducible refine (qAZ.calls k3 _ _ cb _ _ cd cG _ ?side1 ?side2 ?side3 ?side4 eE.1).mono ?_); (case side1 => exact csd ((Kd.qBR aJ.1).2.2)); (case side2 => exact (Kd.qBR aJ.1).2.1); (case side3 => exact csd ((Kd.qBR a8.1).2.2)); (case side4 => exact (Kd.qBR a8.1).2.1); rintro e fC ⟨rfl, hb⟩; replace af := nbw af hb; replace ah := nbw ah hb; replace ae := nbw ae hb; replace aA := vbw aA hb; replace aJ := rbw aJ hb; replace a8 := rbw a8 hb; replace aa := cbb aa hb; replace ar := cbb ar hb; replace HB := bsl hb; (try clear hb)))))
   go_meet
   case rel => exact ⟨_, (a7), prs, H', ⟨by have := bG.1; have := cf.1; have := dY.1; first | omega | exact Nat.le_refl _⟩, ⟨nmo af.1 (fun _ hk => ⟨hk.1.1.1, hk.1.1.2⟩)⟩, ⟨nmo ah.1 (fun _ hk => ⟨hk.1.1.1, ⟨hk.1.1.2.1, hk.1.1.2.2⟩⟩)⟩, ⟨nmo ae.1 (fun _ hk => ⟨hk.1.1.1, hk.1.1.2⟩)⟩, ⟨by repeat (first | (with_reducible exact aa.1) | (with_reducible refine Kd.C_alloc ?_ _) | (with_reducible refine Kd.C_drewN ?_ _) | (with_reducible refine Kd.C_drew ?_) | exact aa.1)⟩, ⟨pbg⟩⟩
  have H' := am H
  clear H
  obtain ⟨eN, e4, eg⟩ := Kd.N_slice ah.1
  subst eg
  have bE : 0 ≤ (a7 : Int) := dq
  have bF : a7 < (aw.length : Int) := dq
  obtain ⟨dF, cX, db, dj, bs, bl, bh⟩ := at_L11 (Kd.qBS ah.1).2.2 a7 bE bF
  cases dj
  obtain ⟨dO, b3, bZ, bA⟩ := Kd.N_get ah.1 [] a7 bE (by first | exact bF | exact dq | (have e_ := (Kd.qBS ah.1).1; omega))
  obtain ⟨cL, cP, rfl, a5, a1⟩ := Kd.qBV bZ
  have aQ := bA 0 _ rfl
  rw [Nat.add_zero, show ((Kd.slice 3 (Kd.int .i64))).sz = 1 from rfl, Nat.mul_one] at aQ
  replace aQ := Option.some.inj (aQ.symm.trans bs)
  injection aQ with hva_ hvn_ hvc_
  rw [hva_] at a1
  rw [hvc_] at a5
  have aA := am (show Kd.V (Kd.int .i64) 3 _ w.heap.size _ _ (rd_L11 aw a7) from Kd.V_mk a5 a1)
  clear hva_ hvn_ hvc_ a1 a5 bA b3
  have ar := am bh
  have bK := am bl
  clear bh bl
  replace bE := eq_true bE
  replace bF := eq_true bF
  have fl_ := trivial
  iterate 3 (try ((first | clear fl_ | go_step3); go_wp2_with (first | (go_at_call 73; (with_reducible refine (qAO.calls k3 _ _ (rd_L11 aw a7) cb _ ?side1 ?side2 eC.1).mono ?_); (case side1 => exact csd ar.1); (case side2 => exact bK.1); rintro e fx ⟨ew, rfl, al, hb⟩; have aJ := am (Kd.qCH (Kd.R_newM (M := fun k_ => (w.heap.size ≤ k_)) al (qBJ pbl) (fun k_ h_ => h_)) (qBJ pbl)); replace af := am (Kd.qBX (pkn af.1) (Kd.R_base al) hb); replace ah := am (Kd.qBX (pkn ah.1) (Kd.R_base al) hb); replace ae := am (Kd.qBX (pkn ae.1) (Kd.R_base al) hb); replace aA := am (Kd.qBY (pkv aA.1) (Kd.R_base al) hb); replace aa := cbb aa hb; replace ar := cbb ar hb; replace HB := bsl hb; (try clear hb); (try clear al)) | (go_at_call 73; (with_reducible refine (qAO.calls k3 _ _ (rd_L11 ac ag) cd _ ?side1 ?side2 eD.1).mono ?_); (case side1 => exact csd aa.1); (case side2 => exact aK.1); rintro e fy ⟨ex, rfl, al, hb⟩; have a8 := am (Kd.qCH (Kd.R_new' (Kd.R_newM (M := fun k_ => (w.heap.size ≤ k_)) al (qBJ pbl) (fun k_ h_ => h_)) (Kd.R_lt (pkr aJ.1))) (qBJ pbl)); replace af := am (Kd.qBX (pkn af.1) (Kd.R_base al) hb); replace ah := am (Kd.qBX (pkn ah.1) (Kd.R_base al) hb); replace ae := am (Kd.qBX (pkn ae.1) (Kd.R_base al) hb); replace aA := am (Kd.qBY (pkv aA.1) (Kd.R_base al) hb); replace aJ := am (Kd.R_elder' (pkr aJ.1) (Kd.R_base al) hb); replace aa := cbb aa hb; replace ar := cbb ar hb; replace HB := bsl hb; (try clear hb); (try clear al); obtain ⟨eO, e5, eh⟩ := Kd.R_slice aJ.1; subst eh; obtain ⟨eP, e6, ei⟩ := Kd.R_slice a8.1; subst ei) | (go_at_call 72; (with_reducible refine (qAZ.calls k3 _ _ cb _ _ cd cG _ ?side1 ?side2 ?side3 ?side4 eE.1).mono ?_); (case side1 => exact csd ((Kd.qBR aJ.1).2.2)); (case side2 => exact (Kd.qBR aJ.1).2.1); (case side3 => exact csd ((Kd.qBR a8.1).2.2)); (case side4 => exact (Kd.qBR a8.1).2.1); rintro e fz ⟨rfl, hb⟩; replace af := nbw af hb; replace ah := nbw ah hb; replace ae := nbw ae hb; replace aA := vbw aA hb; replace aJ := rbw aJ hb; replace a8 := rbw a8 hb; replace aa := cbb aa hb; replace ar := cbb ar hb; replace HB := bsl hb; (try clear hb)))))
  go_roundg k3
  case measure => have := bG.1; have := cf.1; have := dY.1; omega
  case rel => exact ⟨(wrap64 (a7 + 1)), prs, H', ⟨by have := bG.1; have := cf.1; have := dY.1; omega⟩, ⟨nmo af.1 (fun _ hk => ⟨hk.1.1.1, hk.1.1.2⟩)⟩, ⟨nmo ah.1 (fun _ hk => ⟨hk.1.1.1, ⟨hk.1.1.2.1, hk.1.1.2.2⟩⟩)⟩, ⟨nmo ae.1 (fun _ hk => ⟨hk.1.1.1, hk.1.1.2⟩)⟩, ⟨by repeat (first | (with_reducible exact aa.1) | (with_reducible refine Kd.C_alloc ?_ _) | (with_reducible refine Kd.C_drewN ?_ _) | (with_reducible refine Kd.C_drew ?_) | exact aa.1)⟩, ⟨pbg⟩⟩
 clear cZ
 try clear c2 cB c3 de c4 df c6 c7 cC cD dg c8 dG ck cm b6 b7 b8 b9 dH eZ cn dZ cT d0 cU fm bH d8 dI fo cV aH aI bn bs aU bp bC bE aV bq bD bF
 obtain ⟨kq, ab, rfl, HA, ca, af, ah, ae, aa, HB⟩ := hcut
 obtain _ | bo := kq
 ·exact absurd HA.1 (by simp [qAL.j3])
 have H := HA.1
 clear HA
 simp only [qAL.j3] at H
 replace H := ifl H
 rcases H with ⟨dJ, H⟩ | ⟨dJ, H⟩
 rotate_left
 ·replace H := bnd H
  obtain ⟨cI, eK, H⟩ := H
  (try dsimp only at H)
  replace H := ifp H
  obtain ⟨eI, H⟩ := H
  have ch := am eI
  clear eI
  obtain ⟨dv, cu⟩ : ∃ y_ : List (List Int), y_ = (qAL.ins aw ab cI) := ⟨_, rfl⟩
  replace H : (qAL.l1 bo ac dv ac (ac.length : Int) (wrap64 (ag + 1))) = some r := hrp cu H
  have dE := am cu
  clear cu
  have H' := am H
  clear H
  obtain ⟨dw, dR, er⟩ := Kd.N_slice ah.1
  subst er
  have hOw_ : (rd_L11 ac ag).length ≤ 35184372088832 ∧ 0 ≤ ab ∧ ab.toNat ≤ aw.length ∧ cI = (rd_L11 ac ag) := by
   have h_ := eK.1
   unfold qAL.own at h_
   by_cases c_ : (rd_L11 ac ag).length ≤ 35184372088832 ∧ 0 ≤ ab ∧ ab.toNat ≤ aw.length
   ·rw [if_pos c_] at h_; exact ⟨c_.1, c_.2.1, c_.2.2, (Option.some.inj h_).symm⟩
   ·rw [if_neg c_] at h_; cases h_
  obtain ⟨hOl_, hOi_, hOn_, hOe_⟩ := hOw_
  have hOq_ := am hOe_
  clear hOe_
  obtain ⟨yz_, hyz_⟩ : ∃ y_ : List Int, y_ = List.replicate ((rd_L11 ac ag).length : Int).toNat 0 := ⟨_, rfl⟩
  have hyl_ : yz_.length = (rd_L11 ac ag).length := by rw [hyz_, List.length_replicate]; rfl
  replace hyz_ := am hyz_
  replace hyl_ := am hyl_
  replace hOl_ := am hOl_
  go_upto_region 20 with (first | ((with_reducible refine qBN (N := 84) rfl ?_); refine Kd.R_make (Kd.int .i64) _ 3 rfl (N := 84) rfl 39 _ _ rfl ((rd_L11 ac ag).length : Int) rfl rfl Try.underlying39 (.int .i64 0) 8 info3 rfl (by decide) (by omega) 0 (ok := fun k_ => w.heap.size ≤ k_) (okp := fun k_ => w.heap.size ≤ k_) rfl (fun _ hk => hk) (qBJ pbl) (Int.natCast_nonneg _) (Nat.le_trans (Nat.mul_le_mul_right _ (show ((rd_L11 ac ag).length : Int).toNat ≤ 35184372088832 from hOl_.1)) (by omega)) (Below.refl _ _) (Nat.le_refl _) ?_; intro vmk_ wmk_ al hb hg_ hnew_; clear hg_ hnew_; rw [← hyz_.1] at al; have ba := am (Kd.qCH al (qBJ pbl)); have HRc_ := cbb aa hb; replace af := am (Kd.qBX (pkn af.1) (Kd.R_base al) hb); replace ah := am (Kd.qBX (pkn ah.1) (Kd.R_base al) hb); replace ae := am (Kd.qBX (pkn ae.1) (Kd.R_base al) hb); replace HB := bsl hb; clear hb al; obtain ⟨bJ, bN, dp⟩ := Kd.R_slice ba.1; subst dp) | ((with_reducible refine qBQ (b := .copy) (xs := #[.tmp 85, .tmp 86]) rfl ?_); refine R_copy (enc := Value.int .i64) (h1 := fun _ => rfl) (w0 := w) w.heap.size rfl (.tmp 85) (.tmp 86) 39 39 3 rfl Try.underlying39 (by kernel_rfl) (.slice bJ yz_.length bN) yz_ (rd_L11 ac ag) (fun k_ => w.heap.size ≤ k_) bb bw rfl rfl (pkr ba.1) ?hC pbl (qBJ pbl) ?_; (case hC => exact csd HRc_.1); intro wcp_ nwc_ ho hb hg; rw [cpy_all _ _ hyl_.1] at ho; replace af := am (Kd.qCD (pkn af.1) hg (Or.inl rfl)); replace ah := am (Kd.qCD (pkn ah.1) hg (Or.inl rfl)); replace ae := am (Kd.qCD (pkn ae.1) hg (Or.inl rfl)); replace ba := am ho; replace HB := am hb; clear ho hb hg) | ((with_reducible refine qBQ (b := .append) (xs := #[.tmp 88, .tmp 89]) rfl ?_); (try (refine qBP (by rfl) ?_; dsimp only)); at_builtin; refine Kd.N_append (Kd.slice 3 (Kd.int .i64)) (w0 := w) w.heap.size rfl (.tmp 88) (.tmp 89) 30 39 (.slice none 0 0) 24 rfl Try.underlying30 info39 rfl (by decide) (by omega) (.slice dw aw.length dR) aw ([] : List Int) [.slice none 0 0] (fun k_ => (P0_ k_ ∨ w.heap.size ≤ k_) ∧ some k_ ≠ (.slice (some az) ac.length aG : Value).ownBlock ∧ some k_ ≠ (.slice (some az) ac.length aG : Value).ownBlock) (fun _ => False) rfl rfl ?aP (fun _ hk => hk.elim) ?aF ?aO ?aB ?aS ?aL ?_; (case aP => exact Kd.qBW (Nat.le_refl 0) (Kd.F_nil _ _ _)); (case aB => exact pbl); (case aF => exact (fun k_ hk => ⟨(.inr (Nat.le_trans (qBJ pbl) hk)), Kd.fresh' (Kd.N_lt (pkn af.1)) k_ hk, Kd.fresh' (Kd.N_lt (pkn ae.1)) k_ hk⟩)); (case aO => exact (by (with_reducible repeat (first | apply Kd.N_alloc | apply Kd.N_drewN | apply Kd.N_drew)); exact Kd.N_mono ah.1 (fun _ hk => ⟨hk.1.1, ⟨hk.1.2.1, hk.1.2.2⟩⟩))); (case aS => exact (qBJ pbl)); (case aL => have := ch.1; omega); intro ez eB ho hb hg hat; have hAa_ := Kd.qCO (Kd.qCO (Kd.qCO ba.1 (Kd.N_typed af.1) (by decide)) (Kd.N_typed ae.1) (by decide)) (Kd.N_typed ah.1) (by decide); have HOa_ := am (Kd.R_after hAa_ hg hat); clear hAa_; have cS := am ho; replace af := am (Kd.qCD (ok := (fun k_ => (P0_ k_ ∨ w.heap.size ≤ k_) ∧ some k_ ≠ (.slice bJ yz_.length bN : Value).ownBlock)) (by (with_reducible repeat (first | apply Kd.N_alloc | apply Kd.N_drewN | apply Kd.N_drew)); exact Kd.N_mono af.1 (fun _ hk => ⟨⟨hk.1.1, hk.2⟩, hk.1.2⟩)) hg hat); replace ae := am (Kd.qCD (ok := (fun k_ => (P0_ k_ ∨ w.heap.size ≤ k_) ∧ some k_ ≠ (.slice bJ yz_.length bN : Value).ownBlock)) (by (with_reducible repeat (first | apply Kd.N_alloc | apply Kd.N_drewN | apply Kd.N_drew)); exact Kd.N_mono ae.1 (fun _ hk => ⟨⟨hk.1.1, hk.2⟩, hk.1.2⟩)) hg hat); replace HB := am hb; (try clear ah ba); clear ho hb hg hat))
  iterate 2 (try (go_step3; go_upto_region 20 with (first | ((with_reducible refine qBN (N := 84) rfl ?_); refine Kd.R_make (Kd.int .i64) _ 3 rfl (N := 84) rfl 39 _ _ rfl ((rd_L11 ac ag).length : Int) rfl rfl Try.underlying39 (.int .i64 0) 8 info3 rfl (by decide) (by omega) 0 (ok := fun k_ => w.heap.size ≤ k_) (okp := fun k_ => w.heap.size ≤ k_) rfl (fun _ hk => hk) (qBJ pbl) (Int.natCast_nonneg _) (Nat.le_trans (Nat.mul_le_mul_right _ (show ((rd_L11 ac ag).length : Int).toNat ≤ 35184372088832 from hOl_.1)) (by omega)) (Below.refl _ _) (Nat.le_refl _) ?_; intro vmk_ wmk_ al hb hg_ hnew_; clear hg_ hnew_; rw [← hyz_.1] at al; have ba := am (Kd.qCH al (qBJ pbl)); have HRc_ := cbb aa hb; replace af := am (Kd.qBX (pkn af.1) (Kd.R_base al) hb); replace ah := am (Kd.qBX (pkn ah.1) (Kd.R_base al) hb); replace ae := am (Kd.qBX (pkn ae.1) (Kd.R_base al) hb); replace HB := bsl hb; clear hb al; obtain ⟨bJ, bN, dp⟩ := Kd.R_slice ba.1; subst dp) | ((with_reducible refine qBQ (b := .copy) (xs := #[.tmp 85, .tmp 86]) rfl ?_); refine R_copy (enc := Value.int .i64) (h1 := fun _ => rfl) (w0 := w) w.heap.size rfl (.tmp 85) (.tmp 86) 39 39 3 rfl Try.underlying39 (by kernel_rfl) (.slice bJ yz_.length bN) yz_ (rd_L11 ac ag) (fun k_ => w.heap.size ≤ k_) bb bw rfl rfl (pkr ba.1) ?hC pbl (qBJ pbl) ?_; (case hC => exact csd HRc_.1); intro wcp_ nwc_ ho hb hg; rw [cpy_all _ _ hyl_.1] at ho; replace af := am (Kd.qCD (pkn af.1) hg (Or.inl rfl)); replace ah := am (Kd.qCD (pkn ah.1) hg (Or.inl rfl)); replace ae := am (Kd.qCD (pkn ae.1) hg (Or.inl rfl)); replace ba := am ho; replace HB := am hb; clear ho hb hg) | ((with_reducible refine qBQ (b := .append) (xs := #[.tmp 88, .tmp 89]) rfl ?_); (try (refine qBP (by rfl) ?_; dsimp only)); at_builtin; refine Kd.N_append (Kd.slice 3 (Kd.int .i64)) (w0 := w) w.heap.size rfl (.tmp 88) (.tmp 89) 30 39 (.slice none 0 0) 24 rfl Try.underlying30 info39 rfl (by decide) (by omega) (.slice dw aw.length dR) aw ([] : List Int) [.slice none 0 0] (fun k_ => (P0_ k_ ∨ w.heap.size ≤ k_) ∧ some k_ ≠ (.slice (some az) ac.length aG : Value).ownBlock ∧ some k_ ≠ (.slice (some az) ac.length aG : Value).ownBlock) (fun _ => False) rfl rfl ?aP (fun _ hk => hk.elim) ?aF ?aO ?aB ?aS ?aL ?_; (case aP => exact Kd.qBW (Nat.le_refl 0) (Kd.F_nil _ _ _)); (case aB => exact pbl); (case aF => exact (fun k_ hk => ⟨(.inr (Nat.le_trans (qBJ pbl) hk)), Kd.fresh' (Kd.N_lt (pkn af.1)) k_ hk, Kd.fresh' (Kd.N_lt (pkn ae.1)) k_ hk⟩)); (case aO => exact (by (with_reducible repeat (first | apply Kd.N_alloc | apply Kd.N_drewN | apply Kd.N_drew)); exact Kd.N_mono ah.1 (fun _ hk => ⟨hk.1.1, ⟨hk.1.2.1, hk.1.2.2⟩⟩))); (case aS => exact (qBJ pbl)); (case aL => have := ch.1; omega); intro ez eB ho hb hg hat; have hAa_ := Kd.qCO (Kd.qCO (Kd.qCO ba.1 (Kd.N_typed af.1) (by decide)) (Kd.N_typed ae.1) (by decide)) (Kd.N_typed ah.1) (by decide); have HOa_ := am (Kd.R_after hAa_ hg hat); clear hAa_; have cS := am ho; replace af := am (Kd.qCD (ok := (fun k_ => (P0_ k_ ∨ w.heap.size ≤ k_) ∧ some k_ ≠ (.slice bJ yz_.length bN : Value).ownBlock)) (by (with_reducible repeat (first | apply Kd.N_alloc | apply Kd.N_drewN | apply Kd.N_drew)); exact Kd.N_mono af.1 (fun _ hk => ⟨⟨hk.1.1, hk.2⟩, hk.1.2⟩)) hg hat); replace ae := am (Kd.qCD (ok := (fun k_ => (P0_ k_ ∨ w.heap.size ≤ k_) ∧ some k_ ≠ (.slice bJ yz_.length bN : Value).ownBlock)) (by (with_reducible repeat (first | apply Kd.N_alloc | apply Kd.N_drewN | apply Kd.N_drew)); exact Kd.N_mono ae.1 (fun _ hk => ⟨⟨hk.1.1, hk.2⟩, hk.1.2⟩)) hg hat); replace HB := am hb; (try clear ah ba); clear ho hb hg hat))))
  obtain ⟨xa_, hxa_⟩ : ∃ y_ : List (List Int), y_ = aw ++ [([] : List Int)] := ⟨_, rfl⟩
  have hxl_ : xa_.length = aw.length + 1 := by rw [hxa_, List.length_append, List.length_singleton]
  have HOn_ : Kd.N (Kd.slice 3 (Kd.int .i64)) 39 _ w.heap.size (fun k_ => (P0_ k_ ∨ w.heap.size ≤ k_) ∧ some k_ ≠ (.slice (some az) ac.length aG : Value).ownBlock ∧ some k_ ≠ (.slice (some az) ac.length aG : Value).ownBlock) _ _ := Kd.N_mono cS.1 (fun _ hk => ⟨hk.1, ⟨hk.2.1, hk.2.2⟩⟩)
  rw [← hxa_] at HOn_
  obtain ⟨gi_, ci_, ei_, gl_, gs_, gc_⟩ := N_form HOn_ (by omega)
  subst ei_
  have LM_ := ch.1
  have hz_ : wrap64 (ab + 1) = ((ab.toNat + 1 : Nat) : Int) := by unfold wrap64; omega
  have hz0_ : ab = ((ab.toNat : Nat) : Int) := by omega
  have HOd_ := Kd.N_drew HOn_
  have HOb_ := Kd.R_drew HOa_.1
  have HOt_ := Kd.N_drew af.1
  have HOu_ := Kd.N_drew ae.1
  have HBd_ : Below w.heap.size w eB.drew := pbl
  refine start_ (n := 8) (S := fun _ => True) (ds := [7]) #[false, false, false, false, false, false, false, false] (by kernel_rfl) rfl rfl trivial (fun hHeld => ?_)
  generalize eB.drew = wdr_ at HOd_ HOb_ HOt_ HOu_ HBd_ ⊢
  refine pure_ (i := 0) (N := some 91) (v := .slice (some ⟨gi_, 0, none⟩) xa_.length ci_) (a' := ?_) #[true, false, false, false, false, false, false, false] rfl rfl (by kernel_rfl) (fun _ _ _ h => h) (Or.inl ⟨by rfl, fun w' => move_run (.tmp 6) rfl rfl⟩) ?_ ?_
  rotate_left
  ·simp only [Act.put, List.setIfInBounds_toArray, List.set_cons_zero, List.set_cons_succ, i64_w, i32_w]
   rfl
  refine pure_ (i := 1) (N := some 92) (v := .int .i64 (ab)) (a' := ?_) #[true, true, false, false, false, false, false, false] rfl rfl (by kernel_rfl) (fun _ _ _ h => h) (Or.inl ⟨by rfl, fun w' => move_run (.tmp 9) rfl rfl⟩) ?_ ?_
  rotate_left
  ·simp only [Act.put, List.setIfInBounds_toArray, List.set_cons_zero, List.set_cons_succ, i64_w, i32_w]
   rfl
  refine pure_ (i := 4) (N := some 95) (v := .slice (some ⟨gi_, 0, none⟩) xa_.length ci_) (a' := ?_) #[true, true, false, false, true, false, false, false] rfl rfl (by kernel_rfl) (fun _ _ _ h => h) (Or.inl ⟨by rfl, fun w' => move_run (.tmp 6) rfl rfl⟩) ?_ ?_
  rotate_left
  ·simp only [Act.put, List.setIfInBounds_toArray, List.set_cons_zero, List.set_cons_succ, i64_w, i32_w]
   rfl
  refine pure_ (i := 5) (N := some 96) (v := .int .i64 (ab)) (a' := ?_) #[true, true, false, false, true, true, false, false] rfl rfl (by kernel_rfl) (fun _ _ _ h => h) (Or.inl ⟨by rfl, fun w' => move_run (.tmp 9) rfl rfl⟩) ?_ ?_
  rotate_left
  ·simp only [Act.put, List.setIfInBounds_toArray, List.set_cons_zero, List.set_cons_succ, i64_w, i32_w]
   rfl
  refine pure_ (i := 2) (N := some 93) (v := .int .i64 (wrap64 (ab + 1))) (a' := ?_) #[true, true, true, false, true, true, false, false] rfl rfl (by kernel_rfl) (fun _ _ _ h => h) (Or.inl ⟨by rfl, fun w' => add_run (.tmp 92) (.const (.int .i64 1)) rfl rfl rfl⟩) ?_ ?_
  rotate_left
  ·simp only [Act.put, List.setIfInBounds_toArray, List.set_cons_zero, List.set_cons_succ, i64_w, i32_w]
   rfl
  refine pure_ (i := 3) (N := some 94) (v := .slice (if ci_ = ab.toNat + 1 then some ⟨gi_, 0, none⟩ else some ⟨gi_, ab.toNat + 1, none⟩) (xa_.length - (ab.toNat + 1)) (ci_ - (ab.toNat + 1))) (a' := ?_) #[true, true, true, true, true, true, false, false] rfl rfl (by kernel_rfl) (fun _ _ _ h => h) (Or.inl ⟨by rfl, fun w' => slice_run (.tmp 91) (.tmp 93) rfl Try.underlying30 (by kernel_rfl) (ab.toNat + 1) rfl rfl hz_ (by omega) (by omega)⟩) ?_ ?_
  rotate_left
  ·simp only [Act.put, List.setIfInBounds_toArray, List.set_cons_zero, List.set_cons_succ, i64_w, i32_w]
   rfl
  refine pure_ (i := 6) (N := some 97) (v := .slice (if ci_ = ab.toNat then some ⟨gi_, 0, none⟩ else some ⟨gi_, ab.toNat, none⟩) (xa_.length - (ab.toNat)) (ci_ - (ab.toNat))) (a' := ?_) #[true, true, true, true, true, true, true, false] rfl rfl (by kernel_rfl) (fun _ _ _ h => h) (Or.inl ⟨by rfl, fun w' => slice_run (.tmp 95) (.tmp 96) rfl Try.underlying30 (by kernel_rfl) (ab.toNat) rfl rfl hz0_ (by omega) (by omega)⟩) ?_ ?_
  rotate_left
  ·simp only [Act.put, List.setIfInBounds_toArray, List.set_cons_zero, List.set_cons_succ, i64_w, i32_w]
   rfl
  refine last_ (i := 7) (N := some 98) #[true, true, true, true, true, true, true, true] rfl rfl (by kernel_rfl) (by decide) (fun K hK => ?_)
  obtain ⟨wsh_, ksh_, hr_, hn_, hg_⟩ := N_shift (P := Try.prog) (d := Kd.slice 3 (Kd.int .i64)) rfl HOd_ (i := ab.toNat) (by omega) 30 3 Try.underlying30 (by kernel_rfl) (if ci_ = ab.toNat + 1 then some ⟨gi_, 0, none⟩ else some ⟨gi_, ab.toNat + 1, none⟩) (if ci_ = ab.toNat then some ⟨gi_, 0, none⟩ else some ⟨gi_, ab.toNat, none⟩) (ci_ - (ab.toNat + 1)) (ci_ - ab.toNat) (fun h_ => if_neg (by omega)) (fun h_ => if_neg (by omega))
  refine value_ (w1 := wsh_) (v := goInt ksh_) (by rfl) rfl (copy_run (.tmp 94) (.tmp 97) rfl rfl rfl hr_) ?_
  refine hK.out _ _ ?_
  clear hK K
  refine done_ (by kernel_rfl) ?_
  have HBe_ : Below w.heap.size w wsh_ := HBd_.grown hg_ HBd_.size (fun k_ hk_ => by cases hk_; exact gl_)
  have HOt2_ := Kd.qCD HOt_ hg_ (Or.inl rfl)
  have HOu2_ := Kd.qCD HOu_ hg_ (Or.inl rfl)
  have HOb2_ := Kd.R_after HOb_ hg_ (Or.inl rfl)
  have hsl_ : (shf xa_ ab.toNat).length = xa_.length := shf_len (by omega)
  have hn2_ := hn_
  rw [← hsl_] at hn2_
  have hOr_ := HOb2_
  rw [hyl_.1] at hOr_
  have hFK_ : Kd.FK (Kd.slice 3 (Kd.int .i64)) wsh_ (fun k_ => (fun k_ => (P0_ k_ ∨ w.heap.size ≤ k_) ∧ some k_ ≠ (.slice (some az) ac.length aG : Value).ownBlock ∧ some k_ ≠ (.slice (some az) ac.length aG : Value).ownBlock) k_ ∧ k_ ≠ gi_) ((rd_L11 ac ag)) [.slice bJ yz_.length bN] := by
   rw [hyl_.1]
   exact Kd.qBW (Kd.qBR hOr_).2.1 (Kd.R_F (Kd.R_mono hOr_ (fun k_ hk => ⟨⟨.inr hk.1.1.1, ⟨hk.1.1.2, hk.1.2⟩⟩, fun e_ => hk.2 (by rw [e_]; rfl)⟩)))
  obtain ⟨hp1_, hp2_⟩ := N_put1 (d := Kd.slice 3 (Kd.int .i64)) rfl hn2_ (i := ab.toNat) (by omega) hFK_ rfl
  have hset_ : (shf xa_ ab.toNat).set ab.toNat ((rd_L11 ac ag)) = dv := by rw [dE.1, hOq_.1, hxa_]; unfold qAL.ins; exact shf_put _ _ _ hOn_
  rw [hset_, hsl_] at hp1_
  have HOt3_ := Kd.qCD HOt2_ hp2_ (Or.inl rfl)
  have HOu3_ := Kd.qCD HOu2_ hp2_ (Or.inl rfl)
  have HBf_ : Below w.heap.size w _ := HBe_.grown hp2_ HBe_.size (fun k_ hk_ => by cases hk_; exact gl_)
  have ea_ := am (addr_add0 gi_ (ab.toNat))
  have px_ : (0 ≤ ab) = True := eq_true hOi_
  have qx_ : (ab < (xa_.length : Int)) = True := eq_true (by omega)
  obtain ⟨cu_, hcu_, hcf_⟩ := N_cell1 rfl hn2_ (i := ab.toNat) (by omega)
  clear hz_ hz0_ hsl_ hset_ hr_
  obtain ⟨cl_, hcl_⟩ := Kd.N_typed hn_ gi_ rfl
  generalize (if ci_ = ab.toNat + 1 then (some ⟨gi_, 0, none⟩ : Option Addr) else some ⟨gi_, ab.toNat + 1, none⟩) = d1_
  generalize (if ci_ = ab.toNat then (some ⟨gi_, 0, none⟩ : Option Addr) else some ⟨gi_, ab.toNat, none⟩) = d2_
  replace hxl_ := am hxl_
  replace hxa_ := am hxa_
  clear hp2_
  have fl_ := trivial
  iterate 3 (try ((first | clear fl_ | go_step3); go_wp2_with (first | ((with_reducible refine gate_store (t := 39) (p := 102) rfl ?_); refine store_event (t := 39) (p := 102) (v := ?vo_) (w1 := (wsh_.setCell ⟨gi_, (ab : Int).toNat, none⟩ (.slice bJ yz_.length bN))) ?hg ?ho ?hn ?hr ?_; (case ho => rfl); (case hg => rfl); (case hn => rfl); (case hr => first | (go_simp; done) | (go_simp; rfl)); intro wst_ hw_; rw [← hw_] at hp1_ HOt3_ HOu3_ HBf_; clear hw_))))
  go_roundg bo
  case measure => have := bG.1; have := cf.1; have := ca.1; omega
  case rel => exact ⟨(dv), (wrap64 (ag + 1)), prs, H', ⟨by have := bG.1; have := cf.1; have := ca.1; omega⟩, ⟨by first | exact (Kd.N_mono HOt3_ (fun _ hk => ⟨hk.1.1, hk.2⟩)) | (rw [ea_.1]; exact (Kd.N_mono HOt3_ (fun _ hk => ⟨hk.1.1, hk.2⟩))) | (simpa only [ea_.1, Nat.zero_add] using (Kd.N_mono HOt3_ (fun _ hk => ⟨hk.1.1, hk.2⟩)))⟩, ⟨by first | exact hp1_ | (rw [ea_.1]; exact hp1_) | (simpa only [ea_.1, Nat.zero_add] using hp1_)⟩, ⟨by first | exact (Kd.N_mono HOu3_ (fun _ hk => ⟨hk.1.1, hk.2⟩)) | (rw [ea_.1]; exact (Kd.N_mono HOu3_ (fun _ hk => ⟨hk.1.1, hk.2⟩))) | (simpa only [ea_.1, Nat.zero_add] using (Kd.N_mono HOu3_ (fun _ hk => ⟨hk.1.1, hk.2⟩)))⟩, ⟨by first | exact HBf_ | (rw [ea_.1]; exact HBf_) | (simpa only [ea_.1, Nat.zero_add] using HBf_)⟩⟩
 replace H := ifd H
 obtain ⟨eG, H⟩ := H
 replace H := bnd H
 obtain ⟨bU, d2, H⟩ := H
 (try dsimp only at H)
 replace H := bnd H
 obtain ⟨bV, d3, H⟩ := H
 (try dsimp only at H)
 replace H := bnd H
 obtain ⟨cv, d4, H⟩ := H
 (try dsimp only at H)
 replace H := ife H
 rcases H with ⟨dK, dL, H⟩ | ⟨dK, dL, H⟩
 ·have H' := am H
  clear H
  obtain ⟨eU, fb, en⟩ := Kd.N_slice ah.1
  subst en
  have bP : 0 ≤ (ab : Int) := dq
  have bQ : ab < (aw.length : Int) := dq
  obtain ⟨cj, cY, dc, dk, bO, bm, bi⟩ := at_L11 (Kd.qBS ah.1).2.2 ab bP bQ
  cases dk
  obtain ⟨dP, b4, b0, bB⟩ := Kd.N_get ah.1 [] ab bP (by first | exact bQ | exact dq | (have e_ := (Kd.qBS ah.1).1; omega))
  obtain ⟨cM, cQ, rfl, a6, a2⟩ := Kd.qBV b0
  have aR := bB 0 _ rfl
  rw [Nat.add_zero, show ((Kd.slice 3 (Kd.int .i64))).sz = 1 from rfl, Nat.mul_one] at aR
  replace aR := Option.some.inj (aR.symm.trans bO)
  injection aR with hva_ hvn_ hvc_
  rw [hva_] at a2
  rw [hvc_] at a6
  have ak := am (show Kd.V (Kd.int .i64) 3 _ w.heap.size _ _ (rd_L11 aw ab) from Kd.V_mk a6 a2)
  clear hva_ hvn_ hvc_ a2 a6 bB b4
  have aj := am bi
  have br := am bm
  clear bi bm
  replace bP := eq_true bP
  replace bQ := eq_true bQ
  have fl_ := trivial
  iterate 3 (try ((first | clear fl_ | go_step3); go_wp2_with (first | (go_at_call 73; (with_reducible refine (qAO.calls bo _ _ (rd_L11 aw ab) bU _ ?side1 ?side2 d2.1).mono ?_); (case side1 => exact csd aj.1); (case side2 => exact br.1); rintro e fD ⟨dU, rfl, al, hb⟩; have au := am (Kd.qCH (Kd.R_newM (M := fun k_ => (w.heap.size ≤ k_)) al (qBJ pbl) (fun k_ h_ => h_)) (qBJ pbl)); replace af := am (Kd.qBX (pkn af.1) (Kd.R_base al) hb); replace ah := am (Kd.qBX (pkn ah.1) (Kd.R_base al) hb); replace ae := am (Kd.qBX (pkn ae.1) (Kd.R_base al) hb); replace ak := am (Kd.qBY (pkv ak.1) (Kd.R_base al) hb); replace aa := cbb aa hb; replace aj := cbb aj hb; replace HB := bsl hb; (try clear hb); (try clear al)) | (go_at_call 73; (with_reducible refine (qAO.calls bo _ _ (rd_L11 ac ag) bV _ ?side1 ?side2 d3.1).mono ?_); (case side1 => exact csd aa.1); (case side2 => exact aK.1); rintro e fE ⟨dV, rfl, al, hb⟩; have aC := am (Kd.qCH (Kd.R_new' (Kd.R_newM (M := fun k_ => (w.heap.size ≤ k_)) al (qBJ pbl) (fun k_ h_ => h_)) (Kd.R_lt (pkr au.1))) (qBJ pbl)); replace af := am (Kd.qBX (pkn af.1) (Kd.R_base al) hb); replace ah := am (Kd.qBX (pkn ah.1) (Kd.R_base al) hb); replace ae := am (Kd.qBX (pkn ae.1) (Kd.R_base al) hb); replace ak := am (Kd.qBY (pkv ak.1) (Kd.R_base al) hb); replace au := am (Kd.R_elder' (pkr au.1) (Kd.R_base al) hb); replace aa := cbb aa hb; replace aj := cbb aj hb; replace HB := bsl hb; (try clear hb); (try clear al); obtain ⟨eV, fc, eo⟩ := Kd.R_slice au.1; subst eo; obtain ⟨eW, fd, ep⟩ := Kd.R_slice aC.1; subst ep) | (go_at_call 72; (with_reducible refine (qAZ.calls bo _ _ bU _ _ bV cv _ ?side1 ?side2 ?side3 ?side4 d4.1).mono ?_); (case side1 => exact csd ((Kd.qBR au.1).2.2)); (case side2 => exact (Kd.qBR au.1).2.1); (case side3 => exact csd ((Kd.qBR aC.1).2.2)); (case side4 => exact (Kd.qBR aC.1).2.1); rintro e fF ⟨rfl, hb⟩; replace af := nbw af hb; replace ah := nbw ah hb; replace ae := nbw ae hb; replace ak := vbw ak hb; replace au := rbw au hb; replace aC := rbw aC hb; replace aa := cbb aa hb; replace aj := cbb aj hb; replace HB := bsl hb; (try clear hb)))))
  go_roundg bo
  case measure => have := bG.1; have := cf.1; have := ca.1; omega
  case rel => exact ⟨(aw), (wrap64 (ag + 1)), prs, H', ⟨by have := bG.1; have := cf.1; have := ca.1; omega⟩, ⟨nmo af.1 (fun _ hk => ⟨hk.1.1.1, hk.1.1.2⟩)⟩, ⟨nmo ah.1 (fun _ hk => ⟨hk.1.1.1, ⟨hk.1.1.2.1, hk.1.1.2.2⟩⟩)⟩, ⟨nmo ae.1 (fun _ hk => ⟨hk.1.1.1, hk.1.1.2⟩)⟩, ⟨pbg⟩⟩
 replace H := bnd H
 obtain ⟨cH, eJ, H⟩ := H
 (try dsimp only at H)
 replace H := ifp H
 obtain ⟨eH, H⟩ := H
 have cg := am eH
 clear eH
 obtain ⟨du, cr⟩ : ∃ y_ : List (List Int), y_ = (qAL.ins aw ab cH) := ⟨_, rfl⟩
 replace H : (qAL.l1 bo ac du ac (ac.length : Int) (wrap64 (ag + 1))) = some r := hrp cr H
 have dD := am cr
 clear cr
 have H' := am H
 clear H
 obtain ⟨eX, dQ, eq⟩ := Kd.N_slice ah.1
 subst eq
 have bP : 0 ≤ (ab : Int) := dq
 have bQ : ab < (aw.length : Int) := dq
 obtain ⟨cj, cY, dc, dk, bO, bm, bi⟩ := at_L11 (Kd.qBS ah.1).2.2 ab bP bQ
 cases dk
 obtain ⟨dP, b4, b0, bB⟩ := Kd.N_get ah.1 [] ab bP (by first | exact bQ | exact dq | (have e_ := (Kd.qBS ah.1).1; omega))
 obtain ⟨cM, cQ, rfl, a6, a2⟩ := Kd.qBV b0
 have aR := bB 0 _ rfl
 rw [Nat.add_zero, show ((Kd.slice 3 (Kd.int .i64))).sz = 1 from rfl, Nat.mul_one] at aR
 replace aR := Option.some.inj (aR.symm.trans bO)
 injection aR with hva_ hvn_ hvc_
 rw [hva_] at a2
 rw [hvc_] at a6
 have ak := am (show Kd.V (Kd.int .i64) 3 _ w.heap.size _ _ (rd_L11 aw ab) from Kd.V_mk a6 a2)
 clear hva_ hvn_ hvc_ a2 a6 bB b4
 have aj := am bi
 have br := am bm
 clear bi bm
 replace bP := eq_true bP
 replace bQ := eq_true bQ
 have hOw_ : (rd_L11 ac ag).length ≤ 35184372088832 ∧ 0 ≤ ab ∧ ab.toNat ≤ aw.length ∧ cH = (rd_L11 ac ag) := by
  have h_ := eJ.1
  unfold qAL.own at h_
  by_cases c_ : (rd_L11 ac ag).length ≤ 35184372088832 ∧ 0 ≤ ab ∧ ab.toNat ≤ aw.length
  ·rw [if_pos c_] at h_; exact ⟨c_.1, c_.2.1, c_.2.2, (Option.some.inj h_).symm⟩
  ·rw [if_neg c_] at h_; cases h_
 obtain ⟨hOl_, hOi_, hOn_, hOe_⟩ := hOw_
 have hOq_ := am hOe_
 clear hOe_
 obtain ⟨yz_, hyz_⟩ : ∃ y_ : List Int, y_ = List.replicate ((rd_L11 ac ag).length : Int).toNat 0 := ⟨_, rfl⟩
 have hyl_ : yz_.length = (rd_L11 ac ag).length := by rw [hyz_, List.length_replicate]; rfl
 replace hyz_ := am hyz_
 replace hyl_ := am hyl_
 replace hOl_ := am hOl_
 go_upto_region 20 with (first | (go_at_call 73; (with_reducible refine (qAO.calls bo _ _ (rd_L11 aw ab) bU _ ?side1 ?side2 d2.1).mono ?_); (case side1 => exact csd aj.1); (case side2 => exact br.1); rintro e fj ⟨dU, rfl, al, hb⟩; have au := am (Kd.qCH (Kd.R_newM (M := fun k_ => (w.heap.size ≤ k_)) al (qBJ pbl) (fun k_ h_ => h_)) (qBJ pbl)); replace af := am (Kd.qBX (pkn af.1) (Kd.R_base al) hb); replace ah := am (Kd.qBX (pkn ah.1) (Kd.R_base al) hb); replace ae := am (Kd.qBX (pkn ae.1) (Kd.R_base al) hb); replace ak := am (Kd.qBY (pkv ak.1) (Kd.R_base al) hb); replace aa := cbb aa hb; replace aj := cbb aj hb; replace HB := bsl hb; (try clear hb); (try clear al)) | (go_at_call 73; (with_reducible refine (qAO.calls bo _ _ (rd_L11 ac ag) bV _ ?side1 ?side2 d3.1).mono ?_); (case side1 => exact csd aa.1); (case side2 => exact aK.1); rintro e fk ⟨dV, rfl, al, hb⟩; have aC := am (Kd.qCH (Kd.R_new' (Kd.R_newM (M := fun k_ => (w.heap.size ≤ k_)) al (qBJ pbl) (fun k_ h_ => h_)) (Kd.R_lt (pkr au.1))) (qBJ pbl)); replace af := am (Kd.qBX (pkn af.1) (Kd.R_base al) hb); replace ah := am (Kd.qBX (pkn ah.1) (Kd.R_base al) hb); replace ae := am (Kd.qBX (pkn ae.1) (Kd.R_base al) hb); replace ak := am (Kd.qBY (pkv ak.1) (Kd.R_base al) hb); replace au := am (Kd.R_elder' (pkr au.1) (Kd.R_base al) hb); replace aa := cbb aa hb; replace aj := cbb aj hb; replace HB := bsl hb; (try clear hb); (try clear al); obtain ⟨d5, d9, dl⟩ := Kd.R_slice au.1; subst dl; obtain ⟨d6, ea, dm⟩ := Kd.R_slice aC.1; subst dm) | (go_at_call 72; (with_reducible refine (qAZ.calls bo _ _ bU _ _ bV cv _ ?side1 ?side2 ?side3 ?side4 d4.1).mono ?_); (case side1 => exact csd ((Kd.qBR au.1).2.2)); (case side2 => exact (Kd.qBR au.1).2.1); (case side3 => exact csd ((Kd.qBR aC.1).2.2)); (case side4 => exact (Kd.qBR aC.1).2.1); rintro e fl ⟨rfl, hb⟩; replace af := nbw af hb; replace ah := nbw ah hb; replace ae := nbw ae hb; replace ak := vbw ak hb; replace au := rbw au hb; replace aC := rbw aC hb; replace aa := cbb aa hb; replace aj := cbb aj hb; replace HB := bsl hb; (try clear hb)) | ((with_reducible refine qBN (N := 84) rfl ?_); refine Kd.R_make (Kd.int .i64) _ 3 rfl (N := 84) rfl 39 _ _ rfl ((rd_L11 ac ag).length : Int) rfl rfl Try.underlying39 (.int .i64 0) 8 info3 rfl (by decide) (by omega) 0 (ok := fun k_ => w.heap.size ≤ k_) (okp := fun k_ => w.heap.size ≤ k_) rfl (fun _ hk => hk) (qBJ pbl) (Int.natCast_nonneg _) (Nat.le_trans (Nat.mul_le_mul_right _ (show ((rd_L11 ac ag).length : Int).toNat ≤ 35184372088832 from hOl_.1)) (by omega)) (Below.refl _ _) (Nat.le_refl _) ?_; intro vmk_ wmk_ al hb hg_ hnew_; clear hg_ hnew_; rw [← hyz_.1] at al; have a9 := am (Kd.qCH al (qBJ pbl)); have HRc_ := cbb aa hb; replace af := am (Kd.qBX (pkn af.1) (Kd.R_base al) hb); replace ah := am (Kd.qBX (pkn ah.1) (Kd.R_base al) hb); replace ae := am (Kd.qBX (pkn ae.1) (Kd.R_base al) hb); replace HB := bsl hb; clear hb al; obtain ⟨bI, bM, dn⟩ := Kd.R_slice a9.1; subst dn) | ((with_reducible refine qBQ (b := .copy) (xs := #[.tmp 85, .tmp 86]) rfl ?_); refine R_copy (enc := Value.int .i64) (h1 := fun _ => rfl) (w0 := w) w.heap.size rfl (.tmp 85) (.tmp 86) 39 39 3 rfl Try.underlying39 (by kernel_rfl) (.slice bI yz_.length bM) yz_ (rd_L11 ac ag) (fun k_ => w.heap.size ≤ k_) bb bw rfl rfl (pkr a9.1) ?hC pbl (qBJ pbl) ?_; (case hC => exact csd HRc_.1); intro wcp_ nwc_ ho hb hg; rw [cpy_all _ _ hyl_.1] at ho; replace af := am (Kd.qCD (pkn af.1) hg (Or.inl rfl)); replace ah := am (Kd.qCD (pkn ah.1) hg (Or.inl rfl)); replace ae := am (Kd.qCD (pkn ae.1) hg (Or.inl rfl)); replace a9 := am ho; replace HB := am hb; clear ho hb hg) | ((with_reducible refine qBQ (b := .append) (xs := #[.tmp 88, .tmp 89]) rfl ?_); (try (refine qBP (by rfl) ?_; dsimp only)); at_builtin; refine Kd.N_append (Kd.slice 3 (Kd.int .i64)) (w0 := w) w.heap.size rfl (.tmp 88) (.tmp 89) 30 39 (.slice none 0 0) 24 rfl Try.underlying30 info39 rfl (by decide) (by omega) (.slice (some cj) aw.length dQ) aw ([] : List Int) [.slice none 0 0] (fun k_ => (P0_ k_ ∨ w.heap.size ≤ k_) ∧ some k_ ≠ (.slice (some az) ac.length aG : Value).ownBlock ∧ some k_ ≠ (.slice (some az) ac.length aG : Value).ownBlock) (fun _ => False) rfl rfl ?aP (fun _ hk => hk.elim) ?aF ?aO ?aB ?aS ?aL ?_; (case aP => exact Kd.qBW (Nat.le_refl 0) (Kd.F_nil _ _ _)); (case aB => exact pbl); (case aF => exact (fun k_ hk => ⟨(.inr (Nat.le_trans (qBJ pbl) hk)), Kd.fresh' (Kd.N_lt (pkn af.1)) k_ hk, Kd.fresh' (Kd.N_lt (pkn ae.1)) k_ hk⟩)); (case aO => exact (by (with_reducible repeat (first | apply Kd.N_alloc | apply Kd.N_drewN | apply Kd.N_drew)); exact Kd.N_mono ah.1 (fun _ hk => ⟨hk.1.1.1.1, ⟨hk.1.1.1.2.1, hk.1.1.1.2.2⟩⟩))); (case aS => exact (qBJ pbl)); (case aL => have := cg.1; omega); intro ey eA ho hb hg hat; have hAa_ := Kd.qCO (Kd.qCO (Kd.qCO a9.1 (Kd.N_typed af.1) (by decide)) (Kd.N_typed ae.1) (by decide)) (Kd.N_typed ah.1) (by decide); have HOa_ := am (Kd.R_after hAa_ hg hat); clear hAa_; have n0_ := am (Kd.qCD (ok := (fun k_ => (P0_ k_ ∨ w.heap.size ≤ k_) ∧ some k_ ≠ (.slice bI yz_.length bM : Value).ownBlock)) (by (with_reducible repeat (first | apply Kd.N_alloc | apply Kd.N_drewN | apply Kd.N_drew)); exact Kd.N_mono af.1 (fun _ hk => ⟨⟨hk.1.1.1.1, hk.2⟩, hk.1.1.1.2⟩)) hg hat); have n1_ := am (Kd.qCD (ok := (fun k_ => (P0_ k_ ∨ w.heap.size ≤ k_) ∧ some k_ ≠ (.slice bI yz_.length bM : Value).ownBlock)) (by (with_reducible repeat (first | apply Kd.N_alloc | apply Kd.N_drewN | apply Kd.N_drew)); exact Kd.N_mono ae.1 (fun _ hk => ⟨⟨hk.1.1.1.1, hk.2⟩, hk.1.1.1.2⟩)) hg hat); have n5_ := am hb; have n6_ := am ho; clear af; clear ae; clear ak; clear au; clear aC; clear HB; clear ah; clear a9; have af := n0_; have ae := n1_; have HB := n5_; have cR := n6_; clear n0_ n1_ n5_ n6_; clear ho hb hg hat))
 iterate 2 (try (go_step3; go_upto_region 20 with (first | (go_at_call 73; (with_reducible refine (qAO.calls bo _ _ (rd_L11 aw ab) bU _ ?side1 ?side2 d2.1).mono ?_); (case side1 => exact csd aj.1); (case side2 => exact br.1); rintro e fj ⟨dU, rfl, al, hb⟩; have au := am (Kd.qCH (Kd.R_newM (M := fun k_ => (w.heap.size ≤ k_)) al (qBJ pbl) (fun k_ h_ => h_)) (qBJ pbl)); replace af := am (Kd.qBX (pkn af.1) (Kd.R_base al) hb); replace ah := am (Kd.qBX (pkn ah.1) (Kd.R_base al) hb); replace ae := am (Kd.qBX (pkn ae.1) (Kd.R_base al) hb); replace ak := am (Kd.qBY (pkv ak.1) (Kd.R_base al) hb); replace aa := cbb aa hb; replace aj := cbb aj hb; replace HB := bsl hb; (try clear hb); (try clear al)) | (go_at_call 73; (with_reducible refine (qAO.calls bo _ _ (rd_L11 ac ag) bV _ ?side1 ?side2 d3.1).mono ?_); (case side1 => exact csd aa.1); (case side2 => exact aK.1); rintro e fk ⟨dV, rfl, al, hb⟩; have aC := am (Kd.qCH (Kd.R_new' (Kd.R_newM (M := fun k_ => (w.heap.size ≤ k_)) al (qBJ pbl) (fun k_ h_ => h_)) (Kd.R_lt (pkr au.1))) (qBJ pbl)); replace af := am (Kd.qBX (pkn af.1) (Kd.R_base al) hb); replace ah := am (Kd.qBX (pkn ah.1) (Kd.R_base al) hb); replace ae := am (Kd.qBX (pkn ae.1) (Kd.R_base al) hb); replace ak := am (Kd.qBY (pkv ak.1) (Kd.R_base al) hb); replace au := am (Kd.R_elder' (pkr au.1) (Kd.R_base al) hb); replace aa := cbb aa hb; replace aj := cbb aj hb; replace HB := bsl hb; (try clear hb); (try clear al); obtain ⟨d5, d9, dl⟩ := Kd.R_slice au.1; subst dl; obtain ⟨d6, ea, dm⟩ := Kd.R_slice aC.1; subst dm) | (go_at_call 72; (with_reducible refine (qAZ.calls bo _ _ bU _ _ bV cv _ ?side1 ?side2 ?side3 ?side4 d4.1).mono ?_); (case side1 => exact csd ((Kd.qBR au.1).2.2)); (case side2 => exact (Kd.qBR au.1).2.1); (case side3 => exact csd ((Kd.qBR aC.1).2.2)); (case side4 => exact (Kd.qBR aC.1).2.1); rintro e fl ⟨rfl, hb⟩; replace af := nbw af hb; replace ah := nbw ah hb; replace ae := nbw ae hb; replace ak := vbw ak hb; replace au := rbw au hb; replace aC := rbw aC hb; replace aa := cbb aa hb; replace aj := cbb aj hb; replace HB := bsl hb; (try clear hb)) | ((with_reducible refine qBN (N := 84) rfl ?_); refine Kd.R_make (Kd.int .i64) _ 3 rfl (N := 84) rfl 39 _ _ rfl ((rd_L11 ac ag).length : Int) rfl rfl Try.underlying39 (.int .i64 0) 8 info3 rfl (by decide) (by omega) 0 (ok := fun k_ => w.heap.size ≤ k_) (okp := fun k_ => w.heap.size ≤ k_) rfl (fun _ hk => hk) (qBJ pbl) (Int.natCast_nonneg _) (Nat.le_trans (Nat.mul_le_mul_right _ (show ((rd_L11 ac ag).length : Int).toNat ≤ 35184372088832 from hOl_.1)) (by omega)) (Below.refl _ _) (Nat.le_refl _) ?_; intro vmk_ wmk_ al hb hg_ hnew_; clear hg_ hnew_; rw [← hyz_.1] at al; have a9 := am (Kd.qCH al (qBJ pbl)); have HRc_ := cbb aa hb; replace af := am (Kd.qBX (pkn af.1) (Kd.R_base al) hb); replace ah := am (Kd.qBX (pkn ah.1) (Kd.R_base al) hb); replace ae := am (Kd.qBX (pkn ae.1) (Kd.R_base al) hb); replace HB := bsl hb; clear hb al; obtain ⟨bI, bM, dn⟩ := Kd.R_slice a9.1; subst dn) | ((with_reducible refine qBQ (b := .copy) (xs := #[.tmp 85, .tmp 86]) rfl ?_); refine R_copy (enc := Value.int .i64) (h1 := fun _ => rfl) (w0 := w) w.heap.size rfl (.tmp 85) (.tmp 86) 39 39 3 rfl Try.underlying39 (by kernel_rfl) (.slice bI yz_.length bM) yz_ (rd_L11 ac ag) (fun k_ => w.heap.size ≤ k_) bb bw rfl rfl (pkr a9.1) ?hC pbl (qBJ pbl) ?_; (case hC => exact csd HRc_.1); intro wcp_ nwc_ ho hb hg; rw [cpy_all _ _ hyl_.1] at ho; replace af := am (Kd.qCD (pkn af.1) hg (Or.inl rfl)); replace ah := am (Kd.qCD (pkn ah.1) hg (Or.inl rfl)); replace ae := am (Kd.qCD (pkn ae.1) hg (Or.inl rfl)); replace a9 := am ho; replace HB := am hb; clear ho hb hg) | ((with_reducible refine qBQ (b := .append) (xs := #[.tmp 88, .tmp 89]) rfl ?_); (try (refine qBP (by rfl) ?_; dsimp only)); at_builtin; refine Kd.N_append (Kd.slice 3 (Kd.int .i64)) (w0 := w) w.heap.size rfl (.tmp 88) (.tmp 89) 30 39 (.slice none 0 0) 24 rfl Try.underlying30 info39 rfl (by decide) (by omega) (.slice (some cj) aw.length dQ) aw ([] : List Int) [.slice none 0 0] (fun k_ => (P0_ k_ ∨ w.heap.size ≤ k_) ∧ some k_ ≠ (.slice (some az) ac.length aG : Value).ownBlock ∧ some k_ ≠ (.slice (some az) ac.length aG : Value).ownBlock) (fun _ => False) rfl rfl ?aP (fun _ hk => hk.elim) ?aF ?aO ?aB ?aS ?aL ?_; (case aP => exact Kd.qBW (Nat.le_refl 0) (Kd.F_nil _ _ _)); (case aB => exact pbl); (case aF => exact (fun k_ hk => ⟨(.inr (Nat.le_trans (qBJ pbl) hk)), Kd.fresh' (Kd.N_lt (pkn af.1)) k_ hk, Kd.fresh' (Kd.N_lt (pkn ae.1)) k_ hk⟩)); (case aO => exact (by (with_reducible repeat (first | apply Kd.N_alloc | apply Kd.N_drewN | apply Kd.N_drew)); exact Kd.N_mono ah.1 (fun _ hk => ⟨hk.1.1.1.1, ⟨hk.1.1.1.2.1, hk.1.1.1.2.2⟩⟩))); (case aS => exact (qBJ pbl)); (case aL => have := cg.1; omega); intro ey eA ho hb hg hat; have hAa_ := Kd.qCO (Kd.qCO (Kd.qCO a9.1 (Kd.N_typed af.1) (by decide)) (Kd.N_typed ae.1) (by decide)) (Kd.N_typed ah.1) (by decide); have HOa_ := am (Kd.R_after hAa_ hg hat); clear hAa_; have n0_ := am (Kd.qCD (ok := (fun k_ => (P0_ k_ ∨ w.heap.size ≤ k_) ∧ some k_ ≠ (.slice bI yz_.length bM : Value).ownBlock)) (by (with_reducible repeat (first | apply Kd.N_alloc | apply Kd.N_drewN | apply Kd.N_drew)); exact Kd.N_mono af.1 (fun _ hk => ⟨⟨hk.1.1.1.1, hk.2⟩, hk.1.1.1.2⟩)) hg hat); have n1_ := am (Kd.qCD (ok := (fun k_ => (P0_ k_ ∨ w.heap.size ≤ k_) ∧ some k_ ≠ (.slice bI yz_.length bM : Value).ownBlock)) (by (with_reducible repeat (first | apply Kd.N_alloc | apply Kd.N_drewN | apply Kd.N_drew)); exact Kd.N_mono ae.1 (fun _ hk => ⟨⟨hk.1.1.1.1, hk.2⟩, hk.1.1.1.2⟩)) hg hat); have n5_ := am hb; have n6_ := am ho; clear af; clear ae; clear ak; clear au; clear aC; clear HB; clear ah; clear a9; have af := n0_; have ae := n1_; have HB := n5_; have cR := n6_; clear n0_ n1_ n5_ n6_; clear ho hb hg hat))))
 obtain ⟨xa_, hxa_⟩ : ∃ y_ : List (List Int), y_ = aw ++ [([] : List Int)] := ⟨_, rfl⟩
 have hxl_ : xa_.length = aw.length + 1 := by rw [hxa_, List.length_append, List.length_singleton]
 have HOn_ : Kd.N (Kd.slice 3 (Kd.int .i64)) 39 _ w.heap.size (fun k_ => (P0_ k_ ∨ w.heap.size ≤ k_) ∧ some k_ ≠ (.slice (some az) ac.length aG : Value).ownBlock ∧ some k_ ≠ (.slice (some az) ac.length aG : Value).ownBlock) _ _ := Kd.N_mono cR.1 (fun _ hk => ⟨hk.1, ⟨hk.2.1, hk.2.2⟩⟩)
 rw [← hxa_] at HOn_
 obtain ⟨gi_, ci_, ei_, gl_, gs_, gc_⟩ := N_form HOn_ (by omega)
 subst ei_
 have LM_ := cg.1
 have hz_ : wrap64 (ab + 1) = ((ab.toNat + 1 : Nat) : Int) := by unfold wrap64; omega
 have hz0_ : ab = ((ab.toNat : Nat) : Int) := by omega
 have HOd_ := Kd.N_drew HOn_
 have HOb_ := Kd.R_drew HOa_.1
 have HOt_ := Kd.N_drew af.1
 have HOu_ := Kd.N_drew ae.1
 have HBd_ : Below w.heap.size w eA.drew := pbl
 refine start_ (n := 8) (S := fun _ => True) (ds := [7]) #[false, false, false, false, false, false, false, false] (by kernel_rfl) rfl rfl trivial (fun hHeld => ?_)
 generalize eA.drew = wdr_ at HOd_ HOb_ HOt_ HOu_ HBd_ ⊢
 refine pure_ (i := 0) (N := some 91) (v := .slice (some ⟨gi_, 0, none⟩) xa_.length ci_) (a' := ?_) #[true, false, false, false, false, false, false, false] rfl rfl (by kernel_rfl) (fun _ _ _ h => h) (Or.inl ⟨by rfl, fun w' => move_run (.tmp 6) rfl rfl⟩) ?_ ?_
 rotate_left
 ·simp only [Act.put, List.setIfInBounds_toArray, List.set_cons_zero, List.set_cons_succ, i64_w, i32_w]
  rfl
 refine pure_ (i := 1) (N := some 92) (v := .int .i64 (ab)) (a' := ?_) #[true, true, false, false, false, false, false, false] rfl rfl (by kernel_rfl) (fun _ _ _ h => h) (Or.inl ⟨by rfl, fun w' => move_run (.tmp 9) rfl rfl⟩) ?_ ?_
 rotate_left
 ·simp only [Act.put, List.setIfInBounds_toArray, List.set_cons_zero, List.set_cons_succ, i64_w, i32_w]
  rfl
 refine pure_ (i := 4) (N := some 95) (v := .slice (some ⟨gi_, 0, none⟩) xa_.length ci_) (a' := ?_) #[true, true, false, false, true, false, false, false] rfl rfl (by kernel_rfl) (fun _ _ _ h => h) (Or.inl ⟨by rfl, fun w' => move_run (.tmp 6) rfl rfl⟩) ?_ ?_
 rotate_left
 ·simp only [Act.put, List.setIfInBounds_toArray, List.set_cons_zero, List.set_cons_succ, i64_w, i32_w]
  rfl
 refine pure_ (i := 5) (N := some 96) (v := .int .i64 (ab)) (a' := ?_) #[true, true, false, false, true, true, false, false] rfl rfl (by kernel_rfl) (fun _ _ _ h => h) (Or.inl ⟨by rfl, fun w' => move_run (.tmp 9) rfl rfl⟩) ?_ ?_
 rotate_left
 ·simp only [Act.put, List.setIfInBounds_toArray, List.set_cons_zero, List.set_cons_succ, i64_w, i32_w]
  rfl
 refine pure_ (i := 2) (N := some 93) (v := .int .i64 (wrap64 (ab + 1))) (a' := ?_) #[true, true, true, false, true, true, false, false] rfl rfl (by kernel_rfl) (fun _ _ _ h => h) (Or.inl ⟨by rfl, fun w' => add_run (.tmp 92) (.const (.int .i64 1)) rfl rfl rfl⟩) ?_ ?_
 rotate_left
 ·simp only [Act.put, List.setIfInBounds_toArray, List.set_cons_zero, List.set_cons_succ, i64_w, i32_w]
  rfl
 refine pure_ (i := 3) (N := some 94) (v := .slice (if ci_ = ab.toNat + 1 then some ⟨gi_, 0, none⟩ else some ⟨gi_, ab.toNat + 1, none⟩) (xa_.length - (ab.toNat + 1)) (ci_ - (ab.toNat + 1))) (a' := ?_) #[true, true, true, true, true, true, false, false] rfl rfl (by kernel_rfl) (fun _ _ _ h => h) (Or.inl ⟨by rfl, fun w' => slice_run (.tmp 91) (.tmp 93) rfl Try.underlying30 (by kernel_rfl) (ab.toNat + 1) rfl rfl hz_ (by omega) (by omega)⟩) ?_ ?_
 rotate_left
 ·simp only [Act.put, List.setIfInBounds_toArray, List.set_cons_zero, List.set_cons_succ, i64_w, i32_w]
  rfl
 refine pure_ (i := 6) (N := some 97) (v := .slice (if ci_ = ab.toNat then some ⟨gi_, 0, none⟩ else some ⟨gi_, ab.toNat, none⟩) (xa_.length - (ab.toNat)) (ci_ - (ab.toNat))) (a' := ?_) #[true, true, true, true, true, true, true, false] rfl rfl (by kernel_rfl) (fun _ _ _ h => h) (Or.inl ⟨by rfl, fun w' => slice_run (.tmp 95) (.tmp 96) rfl Try.underlying30 (by kernel_rfl) (ab.toNat) rfl rfl hz0_ (by omega) (by omega)⟩) ?_ ?_
 rotate_left
 ·simp only [Act.put, List.setIfInBounds_toArray, List.set_cons_zero, List.set_cons_succ, i64_w, i32_w]
  rfl
 refine last_ (i := 7) (N := some 98) #[true, true, true, true, true, true, true, true] rfl rfl (by kernel_rfl) (by decide) (fun K hK => ?_)
 obtain ⟨wsh_, ksh_, hr_, hn_, hg_⟩ := N_shift (P := Try.prog) (d := Kd.slice 3 (Kd.int .i64)) rfl HOd_ (i := ab.toNat) (by omega) 30 3 Try.underlying30 (by kernel_rfl) (if ci_ = ab.toNat + 1 then some ⟨gi_, 0, none⟩ else some ⟨gi_, ab.toNat + 1, none⟩) (if ci_ = ab.toNat then some ⟨gi_, 0, none⟩ else some ⟨gi_, ab.toNat, none⟩) (ci_ - (ab.toNat + 1)) (ci_ - ab.toNat) (fun h_ => if_neg (by omega)) (fun h_ => if_neg (by omega))
 refine value_ (w1 := wsh_) (v := goInt ksh_) (by rfl) rfl (copy_run (.tmp 94) (.tmp 97) rfl rfl rfl hr_) ?_
 refine hK.out _ _ ?_
 clear hK K
 refine done_ (by kernel_rfl) ?_
 have HBe_ : Below w.heap.size w wsh_ := HBd_.grown hg_ HBd_.size (fun k_ hk_ => by cases hk_; exact gl_)
 have HOt2_ := Kd.qCD HOt_ hg_ (Or.inl rfl)
 have HOu2_ := Kd.qCD HOu_ hg_ (Or.inl rfl)
 have HOb2_ := Kd.R_after HOb_ hg_ (Or.inl rfl)
 have hsl_ : (shf xa_ ab.toNat).length = xa_.length := shf_len (by omega)
 have hn2_ := hn_
 rw [← hsl_] at hn2_
 have hOr_ := HOb2_
 rw [hyl_.1] at hOr_
 have hFK_ : Kd.FK (Kd.slice 3 (Kd.int .i64)) wsh_ (fun k_ => (fun k_ => (P0_ k_ ∨ w.heap.size ≤ k_) ∧ some k_ ≠ (.slice (some az) ac.length aG : Value).ownBlock ∧ some k_ ≠ (.slice (some az) ac.length aG : Value).ownBlock) k_ ∧ k_ ≠ gi_) ((rd_L11 ac ag)) [.slice bI yz_.length bM] := by
  rw [hyl_.1]
  exact Kd.qBW (Kd.qBR hOr_).2.1 (Kd.R_F (Kd.R_mono hOr_ (fun k_ hk => ⟨⟨.inr hk.1.1.1, ⟨hk.1.1.2, hk.1.2⟩⟩, fun e_ => hk.2 (by rw [e_]; rfl)⟩)))
 obtain ⟨hp1_, hp2_⟩ := N_put1 (d := Kd.slice 3 (Kd.int .i64)) rfl hn2_ (i := ab.toNat) (by omega) hFK_ rfl
 have hset_ : (shf xa_ ab.toNat).set ab.toNat ((rd_L11 ac ag)) = du := by rw [dD.1, hOq_.1, hxa_]; unfold qAL.ins; exact shf_put _ _ _ hOn_
 rw [hset_, hsl_] at hp1_
 have HOt3_ := Kd.qCD HOt2_ hp2_ (Or.inl rfl)
 have HOu3_ := Kd.qCD HOu2_ hp2_ (Or.inl rfl)
 have HBf_ : Below w.heap.size w _ := HBe_.grown hp2_ HBe_.size (fun k_ hk_ => by cases hk_; exact gl_)
 have ea_ := am (addr_add0 gi_ (ab.toNat))
 have px_ : (0 ≤ ab) = True := eq_true hOi_
 have qx_ : (ab < (xa_.length : Int)) = True := eq_true (by omega)
 obtain ⟨cu_, hcu_, hcf_⟩ := N_cell1 rfl hn2_ (i := ab.toNat) (by omega)
 clear hz_ hz0_ hsl_ hset_ hr_
 obtain ⟨cl_, hcl_⟩ := Kd.N_typed hn_ gi_ rfl
 generalize (if ci_ = ab.toNat + 1 then (some ⟨gi_, 0, none⟩ : Option Addr) else some ⟨gi_, ab.toNat + 1, none⟩) = d1_
 generalize (if ci_ = ab.toNat then (some ⟨gi_, 0, none⟩ : Option Addr) else some ⟨gi_, ab.toNat, none⟩) = d2_
 replace hxl_ := am hxl_
 replace hxa_ := am hxa_
 clear hp2_
 have fl_ := trivial
 iterate 3 (try ((first | clear fl_ | go_step3); go_wp2_with (first | ((with_reducible refine gate_store (t := 39) (p := 102) rfl ?_); refine store_event (t := 39) (p := 102) (v := ?vo_) (w1 := (wsh_.setCell ⟨gi_, (ab : Int).toNat, none⟩ (.slice bI yz_.length bM))) ?hg ?ho ?hn ?hr ?_; (case ho => rfl); (case hg => rfl); (case hn => rfl); (case hr => first | (go_simp; done) | (go_simp; rfl)); intro wst_ hw_; rw [← hw_] at hp1_ HOt3_ HOu3_ HBf_; clear hw_))))
 go_roundg bo
 case measure => have := bG.1; have := cf.1; have := ca.1; omega
 case rel => exact ⟨(du), (wrap64 (ag + 1)), prs, H', ⟨by have := bG.1; have := cf.1; have := ca.1; omega⟩, ⟨by first | exact (Kd.N_mono HOt3_ (fun _ hk => ⟨hk.1.1, hk.2⟩)) | (rw [ea_.1]; exact (Kd.N_mono HOt3_ (fun _ hk => ⟨hk.1.1, hk.2⟩))) | (simpa only [ea_.1, Nat.zero_add] using (Kd.N_mono HOt3_ (fun _ hk => ⟨hk.1.1, hk.2⟩)))⟩, ⟨by first | exact hp1_ | (rw [ea_.1]; exact hp1_) | (simpa only [ea_.1, Nat.zero_add] using hp1_)⟩, ⟨by first | exact (Kd.N_mono HOu3_ (fun _ hk => ⟨hk.1.1, hk.2⟩)) | (rw [ea_.1]; exact (Kd.N_mono HOu3_ (fun _ hk => ⟨hk.1.1, hk.2⟩))) | (simpa only [ea_.1, Nat.zero_add] using (Kd.N_mono HOu3_ (fun _ hk => ⟨hk.1.1, hk.2⟩)))⟩, ⟨by first | exact HBf_ | (rw [ea_.1]; exact HBf_) | (simpa only [ea_.1, Nat.zero_add] using HBf_)⟩⟩

/-! ### qAX: function 14 -/
mutual
def qAX.j0 : Nat → List (S73) → Int → Bool → Option ((List (List Int)) × Bool × Int)
 | 0, _, _, _ => none
 | k + 1, x7, x9, b9 => if b9 = true then (some (([] : List (List Int)), false, x9)) else (qAX.l0 k ([] : List (List Int)) x7 (x7.length : Int) 0)
def qAX.l0 : Nat → List (List Int) → List (S73) → Int → Int → Option ((List (List Int)) × Bool × Int)
 | 0, _, _, _, _ => none
 | k + 1, x10, bI, bX, br => if br < bX then (if 0 ≤ br then (if br < (bI.length : Int) then (if x10.length < 5864062014805 then (qAX.l0 k (x10 ++ [(rd_T73 bI br).f2]) bI bX (wrap64 (br + 1))) else (none)) else (none)) else (none)) else ((qAL.f k x10).bind fun ba => (some (ba, true, 0)))
end
def qAX.f (k : Nat) (au : ByteArray) (aj : List (S64)) (ak : List (S38)) (a1 : Int) : Option ((List (List Int)) × Bool × Int) := (qAC.f k au aj ak a1).bind fun ay => (if ay.2.2 = 0 then (qAX.j0 k ay.1 ay.2.2 (!ay.2.1)) else (qAX.j0 k ay.1 ay.2.2 true))
theorem qAX.mono_l : ∀ k, M3 qAX.j0 k ∧ M4 qAX.l0 k
 | 0 => ⟨fun _ _ _ r h => by simp [qAX.j0] at h, fun _ _ _ _ r h => by simp [qAX.l0] at h⟩
 | k + 1 => by
  obtain ⟨bF, bG⟩ := qAX.mono_l k
  refine ⟨?_, ?_⟩ <;> dsimp only [M3, M4] <;> intros <;> (first | unfold qAX.j0 | unfold qAX.l0) <;> repeat' first | (with_reducible first | apply bF | apply bG | apply qAC.mono | apply qAL.mono | apply lr | apply ln | apply li | refine lb ?_ fun _ => ?_)
theorem qAX.mono : ∀ a0 a1 a2 a3 k, LeO (qAX.f k a0 a1 a2 a3) (qAX.f (k + 1) a0 a1 a2 a3) := by
 intro a0 a1 a2 a3 k
 obtain ⟨bF, bG⟩ := qAX.mono_l k
 unfold qAX.f
 repeat' first | (with_reducible first | apply bF | apply bG | apply qAC.mono | apply qAL.mono | apply lr | apply ln | apply li | refine lb ?_ fun _ => ?_)
theorem qAX.calls (k : Nat) (au : ByteArray) (aC : Option Addr) (aE : Nat) (aj : List (S64)) (aD : Option Addr) (aG : Nat) (ak : List (S38)) (a1 : Int) (r1 : List (List Int)) (r2 : Bool) (r3 : Int) (w : World) (a4 : Kd.C k64 w aC aj.length aj) (aY : aj.length ≤ aE) (a5 : Kd.C k38 w aD ak.length ak) (aZ : ak.length ≤ aG) (h : qAX.f k au aj ak a1 = some (r1, r2, r3)) :
  Calls Try.prog 14 #[.agg #[.string au, .slice aC aj.length aE, .slice aD ak.length aG], .int .i64 a1] w fun e w' => ∃ v0_ : Value, e = .returned (.tuple #[v0_, .bool r2, .int .i64 r3]) ∧ Kd.N (Kd.slice 3 (Kd.int .i64)) 39 w' w.heap.size (fun k_ => (w.heap.size ≤ k_)) v0_ r1 ∧ Below w.heap.size w w' := by
 have b2 := Try.underlying25
 have b3 := Try.underlying73
 have bk := am a4
 have bf := am aY
 clear a4 aY
 have bl := am a5
 have bg := am aZ
 clear a5 aZ
 have HB := am (Below.refl w.heap.size w)
 have H := h
 unfold qAX.f at H
 clear h
 replace H := bnd H
 obtain ⟨⟨ab, bp, bq⟩, A3, H⟩ := H
 (try dsimp only at H)
 have bB := am H
 clear H
 go_enter Try.func14, Try.ntmps14
 go_upto_region 2 with (first | ((with_reducible refine qBN (N := 2) rfl ?_); refine box_ev ?_; intro af hg w5 hbox hb; have ac := am hbox; have bc := gwl hg; have bJ := bc; replace HB := bsl hb; clear hb hbox hg; have bY := cf3 ac.1) | ((with_reducible refine qBO (f := 35) rfl ?_); refine gC 16 Try.func35 _ (qAC.calls k au _ _ aj _ _ ak a1 ab bp bq _ (csb bk HB) bf.1 (csb bl HB) bg.1 A3.1) ?_; rintro e w7 ⟨bH, rfl, a9, hb⟩; refine ⟨_, rfl, ?_⟩; have aX := am (Kd.N_lower (Kd.N_mono (ok' := fun k_ => (w.heap.size ≤ k_) ∧ k_ ≠ af) a9 (fun k_ hk_ => ⟨(Nat.le_trans (qBJ pbg) hk_), (Kd.freshB (g := af) (o := .cells #[.string au, .slice aC aj.length aE, .slice aD ak.length aG] 25 (0, 0)) (by exact pbk ac.1) k_ hk_)⟩)) (qBJ pbg)); replace ac := bbh ac hb; replace HB := bst hb; (try clear hb); (try clear a9)))
 (try simp only [Act.put, List.setIfInBounds_toArray, List.set_cons_zero, List.set_cons_succ])
 go_cut [25] (fun b4 wc => ∃ (kq : Nat) (aM : Bool), b4 = .bool aM ∧ Aside0 (qAX.j0 kq ab bq aM = some (r1, r2, r3)) ∧ Aside0 (kq ≤ k) ∧ Aside0 (Kd.N k73 73 wc w.heap.size (fun k_ => (w.heap.size ≤ k_) ∧ k_ ≠ af) bH ab) ∧ Aside0 (wc.heap[af]? = some (.cells #[.string au, (.slice aC aj.length aE), (.slice aD ak.length aG)] 25 (0, 0))) ∧ Aside0 (Below w.heap.size w wc))
 case first =>
  have H := bB.1
  clear bB
  replace H := ife H
  rcases H with ⟨aH, a6, H⟩ | ⟨aH, a6, H⟩
  rotate_left
  ·(first | rw [aH] | (simp only [i64_w, i32_w]; rw [aH]) | skip)
   have H' := am H
   clear H
   go_wp2
   go_meet
   case rel => exact ⟨_, (true), prs, H', ⟨by first | omega | exact Nat.le_refl _⟩, ⟨pkn aX.1⟩, ⟨pbk ac.1⟩, ⟨pbg⟩⟩
  (first | rw [aH] | (simp only [i64_w, i32_w]; rw [aH]) | skip)
  have H' := am H
  clear H
  go_wp2
  go_meet
  case rel => exact ⟨_, (!bp), prs, H', ⟨by first | omega | exact Nat.le_refl _⟩, ⟨pkn aX.1⟩, ⟨pbk ac.1⟩, ⟨pbg⟩⟩
 clear bB
 try clear c8 aH a6 bY
 obtain ⟨kq, aM, rfl, HA, bL, bj, ac, HB⟩ := hcut
 obtain _ | bV := kq
 ·exact absurd HA.1 (by simp [qAX.j0])
 have H := HA.1
 clear HA
 simp only [qAX.j0] at H
 cases aM
 rotate_left
 ·rw [if_pos rfl] at H
  simp only [Option.some.injEq, Prod.mk.injEq] at H
  obtain ⟨rfl, rfl, rfl⟩ := H
  go_wp2
  go_ret3
  exact ⟨_, per, knl, pbg⟩
 rw [if_neg Bool.false_ne_true] at H
 have H' := am H
 clear H
 obtain ⟨aT, ap, bD⟩ := Kd.N_slice bj.1
 subst bD
 go_wp2
 go_loopg [10, 29] bV (fun kq bW b5 w' => ∃ (aw : List (List Int)) (aa : Int), b5 = .int .i64 aa ∧ Aside0 (qAX.l0 kq aw ab (ab.length : Int) aa = some (r1, r2, r3)) ∧ Aside0 (kq ≤ bV) ∧ Aside0 (Kd.N (Kd.slice 3 (Kd.int .i64)) 39 w' w.heap.size (fun k_ => (w.heap.size ≤ k_) ∧ some k_ ≠ ((.slice aT ab.length ap) : Value).ownBlock ∧ k_ ≠ af) bW aw) ∧ Aside0 (Kd.N k73 73 w' w.heap.size (fun k_ => (w.heap.size ≤ k_) ∧ some k_ ≠ (bW : Value).ownBlock ∧ k_ ≠ af) (.slice aT ab.length ap) ab) ∧ Aside0 (w'.heap[af]? = some (.cells #[.string au, (.slice aC aj.length aE), (.slice aD ak.length aG)] 25 (0, 0))) ∧ Aside0 (Below w.heap.size w w'))
 case atStart => exact ⟨(([] : List (List Int))), (0), prs, H', ⟨Nat.le_refl _⟩, ⟨knl⟩, ⟨nmo bj.1 (fun _ hk => ⟨hk.1, ⟨(by simp [Value.ownBlock]), hk.2⟩⟩)⟩, ⟨pbk ac.1⟩, ⟨pbg⟩⟩
 clear H'
 try clear c8 aH a6 bY
 obtain ⟨aw, aa, rfl, HA, bM, ai, ah, ac, HB⟩ := hrel
 obtain _ | k2 := gk
 ·exact absurd HA.1 (by simp [qAX.l0])
 have H := HA.1
 clear HA
 simp only [qAX.l0] at H
 replace H := ifl H
 rcases H with ⟨bo, H⟩ | ⟨bo, H⟩
 rotate_left
 ·replace H := bnd H
  obtain ⟨ba, bZ, H⟩ := H
  (try dsimp only at H)
  simp only [Option.some.injEq, Prod.mk.injEq] at H
  obtain ⟨rfl, rfl, rfl⟩ := H
  obtain ⟨b0, b1, bE⟩ := Kd.N_slice ai.1
  subst bE
  go_wp2_with (first | ((with_reducible refine qBO (f := 36) rfl ?_); refine gC 40 Try.func36 _ (qAL.calls k2 (fun k_ => ((w.heap.size ≤ k_) ∧ (some k_ ≠ (.slice aT ab.length ap : Value).ownBlock ∧ k_ ≠ af))) _ _ aw ba _ (Kd.N_V (ai.1)) bZ.1) ?_; rintro e ce ⟨b7, rfl, a9, hb⟩; refine ⟨_, rfl, ?_⟩; have bi := am (Kd.N_lower (Kd.N_mono (ok' := fun k_ => (w.heap.size ≤ k_) ∧ some k_ ≠ (.slice aT ab.length ap : Value).ownBlock ∧ k_ ≠ af) a9 (fun k_ hk_ => ⟨Or.elim hk_ (fun hs_ => hs_.1) (fun hn_ => (Nat.le_trans (qBJ pbg) hn_)), Or.elim hk_ (fun hs_ => hs_.2.1) (fun hn_ => (Kd.fresh' (Kd.N_lt (pkn ah.1)) k_ hn_)), Or.elim hk_ (fun hs_ => hs_.2.2) (fun hn_ => (Kd.freshB (g := af) (o := .cells #[.string au, .slice aC aj.length aE, .slice aD ak.length aG] 25 (0, 0)) (by exact pbk ac.1) k_ hn_))⟩)) (qBJ pbg)); replace ai := am (Kd.qBX (pkn ai.1) (Kd.N_base a9) hb); replace ah := am (Kd.qBX (pkn ah.1) (Kd.N_base a9) hb); replace ac := bbh ac hb; replace HB := bst hb; (try clear hb); (try clear a9)))
  go_ret3
  exact ⟨_, per, by (with_reducible repeat (first | apply Kd.N_alloc | apply Kd.N_drewN | apply Kd.N_drew)); exact Kd.N_mono bi.1 (fun _ hk => hk.1), pbg⟩
 replace H := ifd H
 obtain ⟨bO, H⟩ := H
 replace H := ifd H
 obtain ⟨bQ, H⟩ := H
 replace H := ifp H
 obtain ⟨bR, H⟩ := H
 have bm := am bR
 clear bR
 obtain ⟨bs, aR⟩ : ∃ y_ : List (List Int), y_ = (aw ++ [(rd_T73 ab aa).f2]) := ⟨_, rfl⟩
 replace H : (qAX.l0 k2 bs ab (ab.length : Int) (wrap64 (aa + 1))) = some (r1, r2, r3) := hrp aR H
 have bn := am aR
 clear aR
 have H' := am H
 clear H
 have aV : 0 ≤ (aa : Int) := dq
 have aW : aa < (ab.length : Int) := dq
 obtain ⟨ao, ar, av, bC, bv, bw, aU, bx, aK, aJ⟩ := at_T73 (Kd.qBS ah.1).2.2 aa aV aW
 cases bC
 obtain ⟨bS, a8, a7, aQ⟩ := Kd.N_get ah.1 z73 aa aV (by first | exact aW | exact dq | (have e_ := (Kd.qBS ah.1).1; omega))
 obtain ⟨bz, bA, rfl, aA, az⟩ := k73_openF a7
 have aq := aQ 2 _ rfl
 rw [add_field _ _ 2 (by omega)] at aq
 replace aq := Option.some.inj (aq.symm.trans aU)
 injection aq with hva_ hvn_ hvc_
 rw [hva_] at az
 rw [hvc_] at aA
 have ag := am (show Kd.V (Kd.int .i64) 3 _ w.heap.size _ _ ((rd_T73 ab aa).f2) from Kd.V_mk aA az)
 clear hva_ hvn_ hvc_ az aA aQ a8
 have aI := am aJ
 have bu := am aK
 clear aJ aK
 replace aV := eq_true aV
 replace aW := eq_true aW
 go_wp2_with (first | ((with_reducible refine qBN (N := 12) rfl ?_); refine box_ev (N := 12) (cs := #[.int .i64 0, .int .i64 0, .slice none 0 0, .bool false]) (t := 73) ?_; intro ae hg b8 hbox hb; have al := am hbox; have bd := gwb hg; have bK := bd; have ax := nlt hg ac; have aN := ngt hg ac; replace ai := am (Kd.N_below (Kd.N_elderB (pkn ai.1) ae (Nat.le_of_eq hg.symm)) hb); replace ah := am (Kd.N_below (Kd.N_elderB (pkn ah.1) ae (Nat.le_of_eq hg.symm)) hb); replace ag := vbb ag hg hb; replace ac := bbh ac hb; replace aI := cbb aI hb; replace HB := bst hb; clear hb hbox hg; have bT := aN.1; have bU := ax.1; have ca := cf4 al.1) | ((with_reducible refine gate_store (t := 73) (p := 12) rfl ?_); refine store_event (t := 73) (p := 12) (v := ?vo_w18) (w1 := ((((b8.setCell ⟨ae, 0, none⟩ (.int .i64 ((rd_T73 ab aa).f0))).setCell ⟨ae, 1, none⟩ (.int .i64 ((rd_T73 ab aa).f1))).setCell ⟨ae, 2, none⟩ (.slice ar ((rd_T73 ab aa).f2).length av)).setCell ⟨ae, 3, none⟩ (.bool ((rd_T73 ab aa).f3)))) ?hg ?ho ?hn ?hr ?_; (case ho => rfl); (case hg => rfl); (case hn => rfl); (case hr => first | (go_simp; done) | (go_simp; rfl)); intro bb hw; replace ai : Aside0 (Kd.N (Kd.slice 3 (Kd.int .i64)) 39 bb w.heap.size (fun k_ => (w.heap.size ≤ k_) ∧ some k_ ≠ (.slice (some ao) ab.length ap : Value).ownBlock ∧ k_ ≠ af ∧ k_ ≠ ae) u10 aw) := ⟨(by rw [hw]; exact (by (with_reducible repeat (first | apply Kd.N_alloc | apply Kd.N_drewN | apply Kd.N_drew)); exact Kd.N_mono (fN4 ae (Kd.N_mono ai.1 (fun k_ hk => (⟨hk, hk.2⟩ : _ ∧ k_ ≠ ae))) (fun _ hk => hk.2)) (fun _ hk => ⟨hk.1.1.1, ⟨hk.1.1.2.1, ⟨hk.1.1.2.2, hk.1.2⟩⟩⟩)))⟩; replace ah : Aside0 (Kd.N k73 73 bb w.heap.size (fun k_ => (w.heap.size ≤ k_) ∧ some k_ ≠ (u10 : Value).ownBlock ∧ k_ ≠ af ∧ k_ ≠ ae) (.slice (some ao) ab.length ap) ab) := ⟨(by rw [hw]; exact (by (with_reducible repeat (first | apply Kd.N_alloc | apply Kd.N_drewN | apply Kd.N_drew)); exact Kd.N_mono (fN4 ae (Kd.N_mono ah.1 (fun k_ hk => (⟨hk, hk.2⟩ : _ ∧ k_ ≠ ae))) (fun _ hk => hk.2)) (fun _ hk => ⟨hk.1.1.1, ⟨hk.1.1.2.1, ⟨hk.1.1.2.2, hk.1.2⟩⟩⟩)))⟩; replace ag : Aside0 (Kd.V (Kd.int .i64) 3 bb w.heap.size (fun k_ => (w.heap.size ≤ k_) ∧ some k_ ≠ (u10 : Value).ownBlock ∧ some k_ ≠ (.slice (some ao) ab.length ap : Value).ownBlock ∧ k_ ≠ af ∧ k_ ≠ ae) (.slice ar ((rd_T73 ab aa).f2).length av) ((rd_T73 ab aa).f2)) := ⟨(by rw [hw]; exact (by (with_reducible repeat (first | apply Kd.V_alloc | apply Kd.V_drewN | apply Kd.V_drew)); exact Kd.V_mono (fV4 ae (Kd.V_mono ag.1 (fun k_ hk => (⟨hk, hk.2⟩ : _ ∧ k_ ≠ ae))) (fun _ hk => hk.2)) (fun _ hk => ⟨hk.1.1.1.1, ⟨hk.1.1.1.2.1, ⟨hk.1.1.2, ⟨hk.1.1.1.2.2, hk.1.2⟩⟩⟩⟩)))⟩; replace ac : Aside0 (bb.heap[af]? = some (.cells #[.string au, .slice aC aj.length aE, .slice aD ak.length aG] 25 (0, 0))) := ⟨(by rw [hw]; exact (by (with_reducible repeat (first | refine qBK ?_ _ | refine qBM ?_ | refine qBL ?_ _)); refine bf4 ?_ ax.1; exact pbk ac.1))⟩; replace al : Aside0 (bb.heap[ae]? = some (.cells #[.int .i64 ((rd_T73 ab aa).f0), .int .i64 ((rd_T73 ab aa).f1), .slice ar ((rd_T73 ab aa).f2).length av, .bool ((rd_T73 ab aa).f3)] 73 (0, 0))) := ⟨(by rw [hw]; exact (by (with_reducible repeat (first | refine qBK ?_ _ | refine qBM ?_ | refine qBL ?_ _)); exact bp4 (pbk al.1)))⟩; replace HB : Aside0 (Below w.heap.size w bb) := ⟨(by rw [hw]; exact pbg)⟩; clear hw; have cb := cf4 al.1) | ((with_reducible refine qBQ (b := .append) (xs := #[.tmp 33, .tmp 36]) rfl ?_); at_builtin; refine Kd.N_append (Kd.slice 3 (Kd.int .i64)) (w0 := w) w.heap.size rfl (.tmp 33) (.tmp 36) 30 39 (.slice none 0 0) 24 rfl Try.underlying30 info39 rfl (by decide) (by omega) u10 aw ((rd_T73 ab aa).f2) [.slice ar ((rd_T73 ab aa).f2).length av] (fun k_ => (w.heap.size ≤ k_) ∧ some k_ ≠ (.slice (some ao) ab.length ap : Value).ownBlock ∧ k_ ≠ af ∧ k_ ≠ ae) (fun k_ => ((fun k_ => (w.heap.size ≤ k_) ∧ some k_ ≠ (.slice (some ao) ab.length ap : Value).ownBlock ∧ k_ ≠ af ∧ k_ ≠ ae)) k_ ∧ some k_ ≠ (u10 : Value).ownBlock) rfl rfl ?aP (fun _ hk => hk) ?aF ?aO ?aB ?aS ?aL ?_; (case aP => exact (Kd.qBW (Kd.qBT (Kd.V_mono (ok' := (fun k_ => ((fun k_ => (w.heap.size ≤ k_) ∧ some k_ ≠ (.slice (some ao) ab.length ap : Value).ownBlock ∧ k_ ≠ af ∧ k_ ≠ ae)) k_ ∧ some k_ ≠ (u10 : Value).ownBlock)) (ag.1) (fun k_ hk => ⟨⟨hk.1, ⟨hk.2.2.1, ⟨hk.2.2.2.1, hk.2.2.2.2⟩⟩⟩, hk.2.1⟩))).2.1 (Kd.V_F (Kd.V_mono (ok' := (fun k_ => ((fun k_ => (w.heap.size ≤ k_) ∧ some k_ ≠ (.slice (some ao) ab.length ap : Value).ownBlock ∧ k_ ≠ af ∧ k_ ≠ ae)) k_ ∧ some k_ ≠ (u10 : Value).ownBlock)) (ag.1) (fun k_ hk => ⟨⟨hk.1, ⟨hk.2.2.1, ⟨hk.2.2.2.1, hk.2.2.2.2⟩⟩⟩, hk.2.1⟩))))); (case aB => exact pbg); (case aF => exact (fun k_ hk => ⟨(Nat.le_trans (qBJ pbg) hk), Kd.fresh' (Kd.N_lt (pkn ah.1)) k_ hk, Kd.freshB (g := af) (o := .cells #[.string au, .slice aC aj.length aE, .slice aD ak.length aG] 25 (0, 0)) (by exact pbk ac.1) k_ hk, Kd.freshB (g := ae) (o := .cells #[.int .i64 ((rd_T73 ab aa).f0), .int .i64 ((rd_T73 ab aa).f1), .slice ar ((rd_T73 ab aa).f2).length av, .bool ((rd_T73 ab aa).f3)] 73 (0, 0)) (by exact pbk al.1) k_ hk⟩)); (case aO => exact (pkn ai.1)); (case aS => exact (qBJ pbg)); (case aL => have := bm.1; omega); intro b6 cd ho hb hg hat; rw [← bn.1] at ho; have bh := am ho; replace ah := am (Kd.qCD (ok := (fun k_ => (w.heap.size ≤ k_) ∧ k_ ≠ af ∧ k_ ≠ ae)) (by (with_reducible repeat (first | apply Kd.N_alloc | apply Kd.N_drewN | apply Kd.N_drew)); exact Kd.N_mono ah.1 (fun _ hk => ⟨⟨hk.1, ⟨hk.2.2.1, hk.2.2.2⟩⟩, hk.2.1⟩)) hg hat); replace ac := (bgr ac hg (Kd.N_ne ai.1 ac.1 (by decide))); replace ag := am (Kd.qCE (ok := (fun k_ => (w.heap.size ≤ k_) ∧ some k_ ≠ (.slice (some ao) ab.length ap : Value).ownBlock ∧ k_ ≠ af ∧ k_ ≠ ae)) (by (with_reducible repeat (first | apply Kd.V_alloc | apply Kd.V_drewN | apply Kd.V_drew)); exact Kd.V_mono ag.1 (fun _ hk => ⟨⟨hk.1, ⟨hk.2.2.1, ⟨hk.2.2.2.1, hk.2.2.2.2⟩⟩⟩, hk.2.1⟩)) hg hat); replace al := (bgr al hg (Kd.N_ne ai.1 al.1 (by decide))); replace HB := am hb; clear ai; clear ho hb hg hat))
 go_roundg k2
 case measure => have := bL.1; have := bM.1; omega
 case rel => exact ⟨(bs), (wrap64 (aa + 1)), prs, H', ⟨by have := bL.1; have := bM.1; omega⟩, ⟨nmo bh.1 (fun _ hk => ⟨hk.1, ⟨hk.2.1, hk.2.2.1⟩⟩)⟩, ⟨nmo ah.1 (fun _ hk => ⟨hk.1.1, ⟨hk.2, hk.1.2.1⟩⟩)⟩, ⟨pbk ac.1⟩, ⟨pbg⟩⟩

/-! ### qAB: function 13 -/
def qAB.f (k : Nat)  : Option (Bool) := (qAX.f k (⟨#[110]⟩ : ByteArray) (([(⟨(⟨#[112]⟩ : ByteArray), 0, 0⟩ : S64)] : List (S64))) (([(⟨(⟨#[116]⟩ : ByteArray), ([] : List (S68)), (([(⟨0, 1⟩ : S68)] : List (S68))), ([] : List (S68)), 0⟩ : S38)] : List (S38))) 10).bind fun ag => (if ag.2.2 = 0 then (if ag.2.1 = true then (if (ag.1.length : Int) = 1 then (if 0 < (ag.1.length : Int) then (if ((rd_L11 ag.1 0).length : Int) = 1 then (if 0 < ((rd_L11 ag.1 0).length : Int) then (if (rd (rd_L11 ag.1 0) 0) = (-1) then ((qAU.f k ag.1 (([1000] : List Int))).bind fun a2 => (if a2 = true then ((qAW.f k ag.1).bind fun a3 => (some (!a3))) else (some false))) else (some false)) else (none)) else (some false)) else (none)) else (some false)) else (some false)) else (some false))
theorem qAB.mono : ∀ k, LeO (qAB.f k ) (qAB.f (k + 1) ) := by
 intro  k
 unfold qAB.f
 repeat' first | (with_reducible first | apply qAW.mono | apply qAU.mono | apply qAX.mono | apply lr | apply ln | apply li | refine lb ?_ fun _ => ?_)
theorem qAB.calls (k : Nat)  (r : Bool) (w : World) (h : qAB.f k  = some r) :
  Calls Try.prog 13 #[] w fun e w' => e = .returned (.bool r) ∧ Below w.heap.size w w' := by
 have dX := Try.underlying64
 have dY := Try.underlying68
 have dW := Try.underlying38
 have dV := Try.underlying25
 have HB := am (Below.refl w.heap.size w)
 have H := h
 unfold qAB.f at H
 clear h
 obtain ⟨al, bZ⟩ : ∃ y_ : List (S64), y_ = (([(⟨(⟨#[112]⟩ : ByteArray), 0, 0⟩ : S64)] : List (S64))) := ⟨_, rfl⟩
 replace H : ((qAX.f k (⟨#[110]⟩ : ByteArray) al (([(⟨(⟨#[116]⟩ : ByteArray), ([] : List (S68)), (([(⟨0, 1⟩ : S68)] : List (S68))), ([] : List (S68)), 0⟩ : S38)] : List (S38))) 10).bind fun ag => (if ag.2.2 = 0 then (if ag.2.1 = true then (if (ag.1.length : Int) = 1 then (if 0 < (ag.1.length : Int) then (if ((rd_L11 ag.1 0).length : Int) = 1 then (if 0 < ((rd_L11 ag.1 0).length : Int) then (if (rd (rd_L11 ag.1 0) 0) = (-1) then ((qAU.f k ag.1 (([1000] : List Int))).bind fun a2 => (if a2 = true then ((qAW.f k ag.1).bind fun a3 => (some (!a3))) else (some false))) else (some false)) else (none)) else (some false)) else (none)) else (some false)) else (some false)) else (some false))) = some r := hrp bZ H
 have aG := am bZ
 clear bZ
 obtain ⟨au, b0⟩ : ∃ y_ : List (S68), y_ = (([(⟨0, 1⟩ : S68)] : List (S68))) := ⟨_, rfl⟩
 replace H : ((qAX.f k (⟨#[110]⟩ : ByteArray) al (([(⟨(⟨#[116]⟩ : ByteArray), ([] : List (S68)), au, ([] : List (S68)), 0⟩ : S38)] : List (S38))) 10).bind fun ag => (if ag.2.2 = 0 then (if ag.2.1 = true then (if (ag.1.length : Int) = 1 then (if 0 < (ag.1.length : Int) then (if ((rd_L11 ag.1 0).length : Int) = 1 then (if 0 < ((rd_L11 ag.1 0).length : Int) then (if (rd (rd_L11 ag.1 0) 0) = (-1) then ((qAU.f k ag.1 (([1000] : List Int))).bind fun a2 => (if a2 = true then ((qAW.f k ag.1).bind fun a3 => (some (!a3))) else (some false))) else (some false)) else (none)) else (some false)) else (none)) else (some false)) else (some false)) else (some false))) = some r := hrp b0 H
 have aH := am b0
 clear b0
 obtain ⟨ax, b1⟩ : ∃ y_ : List (S38), y_ = (([(⟨(⟨#[116]⟩ : ByteArray), ([] : List (S68)), au, ([] : List (S68)), 0⟩ : S38)] : List (S38))) := ⟨_, rfl⟩
 replace H : ((qAX.f k (⟨#[110]⟩ : ByteArray) al ax 10).bind fun ag => (if ag.2.2 = 0 then (if ag.2.1 = true then (if (ag.1.length : Int) = 1 then (if 0 < (ag.1.length : Int) then (if ((rd_L11 ag.1 0).length : Int) = 1 then (if 0 < ((rd_L11 ag.1 0).length : Int) then (if (rd (rd_L11 ag.1 0) 0) = (-1) then ((qAU.f k ag.1 (([1000] : List Int))).bind fun a2 => (if a2 = true then ((qAW.f k ag.1).bind fun a3 => (some (!a3))) else (some false))) else (some false)) else (none)) else (some false)) else (none)) else (some false)) else (some false)) else (some false))) = some r := hrp b1 H
 have aI := am b1
 clear b1
 replace H := bnd H
 obtain ⟨⟨ao, cM, aW⟩, A1, H⟩ := H
 (try dsimp only at H)
 by_cases c2 : aW = 0
 rotate_left
 ·rw [if_neg c2] at H
  have cN : (aW == 0) = false := beq_eq_false_iff_ne.mpr c2
  have cO : (aW != 0) = true := bne_iff_ne.mpr c2
  obtain rfl := Option.some.inj H
  go_enter Try.func13, Try.ntmps13
  go_wp2_with (first | ((with_reducible refine qBN (N := 6) rfl ?_); (try (refine qBP (by rfl) ?_; dsimp only)); refine Kd.R_lit k64 _ 64 ?hg (N := 6) ?hd (xs := ([(⟨(⟨#[112]⟩ : ByteArray), 0, 0⟩ : S64)] : List (S64))) (inner := [.string (⟨#[112]⟩ : ByteArray), .int .i64 0, .int .i64 0]) (ok := fun _ => True) (okp := fun _ => True) ?hr ?hp (fun _ hk => hk) trivial (Below.refl _ _) (Nat.le_refl _) (by simp) ?_; (case hd => rfl); (case hg => rfl); (case hr => first | (go_simp; done) | (go_simp; rfl)); (case hp => exact (Reps.c3 (show Kd.M k64 _ _ _ (⟨(⟨#[112]⟩ : ByteArray), 0, 0⟩ : S64) [.string (⟨#[112]⟩ : ByteArray), .int .i64 0, .int .i64 0] from (k64_mkM _ _ _ (⟨(⟨#[112]⟩ : ByteArray), 0, 0⟩ : S64) )) (Reps.none _ _))); intro ap eI bY hb hg_ hnew_; clear hg_ hnew_; (first | rw [← aG.1] at bY | (simp only [Int.reduceToNat] at bY; rw [← aG.1] at bY)); have aa := am (Kd.qCH bY (qBJ pbl)); replace HB := bsl hb; clear hb bY) | ((with_reducible refine qBN (N := 8) rfl ?_); (try (refine qBP (by rfl) ?_; dsimp only)); refine Kd.R_lit k68 _ 68 ?hg (N := 8) ?hd (xs := ([(⟨0, 1⟩ : S68)] : List (S68))) (inner := [.int .i64 0, .int .i64 1]) (ok := fun _ => True) (okp := fun _ => True) ?hr ?hp (fun _ hk => hk) trivial (Below.refl _ _) (Nat.le_refl _) (by simp) ?_; (case hd => rfl); (case hg => rfl); (case hr => first | (go_simp; done) | (go_simp; rfl)); (case hp => exact (Reps.c2 (show Kd.M k68 _ _ _ (⟨0, 1⟩ : S68) [.int .i64 0, .int .i64 1] from (k68_mkM _ _ _ (⟨0, 1⟩ : S68) )) (Reps.none _ _))); intro bp dz bd hb hg_ hnew_; clear hg_ hnew_; (first | rw [← aH.1] at bd | (simp only [Int.reduceToNat] at bd; rw [← aH.1] at bd)); have ah := am (Kd.qCH bd (qBJ pbl)); replace aa := rbw aa hb; replace HB := bsl hb; clear hb bd; obtain ⟨ch, ck, cJ⟩ := Kd.R_slice ah.1; subst cJ) | ((with_reducible refine qBN (N := 10) rfl ?_); (try (refine qBP (by rfl) ?_; dsimp only)); refine Kd.N_lit k38 _ 38 ?hg (N' := 10) ?hd (xs := ([(⟨(⟨#[116]⟩ : ByteArray), ([] : List (S68)), au, ([] : List (S68)), 0⟩ : S38)] : List (S38))) (inner := [.string (⟨#[116]⟩ : ByteArray), .slice none 0 0, .slice ch au.length ck, .slice none 0 0, .int .i64 0]) (ok := (fun k_ => some k_ ≠ (ap : Value).ownBlock)) (okp := (fun k_ => some k_ ≠ (ap : Value).ownBlock)) ?hr ?hp (fun _ hk => hk) ((show ∀ k_, dz.heap.size ≤ k_ → (fun k_ => some k_ ≠ (ap : Value).ownBlock) k_ from fun k_ hk => Kd.fresh' (Kd.R_lt (pkr aa.1)) k_ hk) _ (Nat.le_refl _)) (Below.refl _ _) (Nat.le_refl _) (by simp) ?_; (case hd => rfl); (case hg => rfl); (case hr => first | (go_simp; done) | (go_simp; rfl)); (case hp => exact (Reps.c5 (show Kd.FK k38 _ _ (⟨(⟨#[116]⟩ : ByteArray), ([] : List (S68)), au, ([] : List (S68)), 0⟩ : S38) [.string (⟨#[116]⟩ : ByteArray), .slice none 0 0, .slice ch au.length ck, .slice none 0 0, .int .i64 0] from (k38_mkF _ _ (⟨(⟨#[116]⟩ : ByteArray), ([] : List (S68)), au, ([] : List (S68)), 0⟩ : S38) (Nat.le_refl _) (Kd.F_nil _ _ _) (Kd.qBR (Kd.R_mono (ok' := (fun k_ => some k_ ≠ (ap : Value).ownBlock)) (Kd.qCO (ah.1) (Kd.R_typed aa.1) (by decide)) (fun k_ hk => hk.2))).2.1 (Kd.R_F (Kd.R_mono (ok' := (fun k_ => some k_ ≠ (ap : Value).ownBlock)) (Kd.qCO (ah.1) (Kd.R_typed aa.1) (by decide)) (fun k_ hk => hk.2))) (Nat.le_refl _) (Kd.F_nil _ _ _))) (Reps.none _ _))); intro bq dZ bf hb hg_ hnew_; clear hg_ hnew_; (first | rw [← aI.1] at bf | (simp only [Int.reduceToNat] at bf; rw [← aI.1] at bf)); have ac := am (Kd.N_lower bf (qBJ pbl)); replace aa := rbw aa hb; replace HB := bsl hb; clear ah; clear hb bf; obtain ⟨bu, bm, cK⟩ := Kd.N_slice ac.1; subst cK; obtain ⟨bj, bc, cL⟩ := Kd.R_slice aa.1; subst cL) | ((with_reducible refine qBN (N := 1) rfl ?_); (try (refine qBP (by rfl) ?_; dsimp only)); refine box_ev (N := 1) (cs := #[.string (⟨#[]⟩ : ByteArray), .slice none 0 0, .slice none 0 0]) (t := 25) ?_; intro ab hg d0 hbox hb; have ae := am hbox; have aM := gwl hg; have a4 := aM; replace aa := rbw aa hb; replace ac := am (Kd.N_below (Kd.N_elderB (pkn ac.1) ab (Nat.le_of_eq hg.symm)) hb); replace HB := bsl hb; clear hb hbox hg; have dB := cf3 ae.1) | ((with_reducible refine qBO (f := 14) rfl ?_); refine gC 14 Try.func14 _ (qAX.calls k (⟨#[110]⟩ : ByteArray) _ _ al _ _ ax 10 ao cM aW _ ?side1 ?side2 ?side3 ?side4 A1.1) ?_; (case side1 => refine (Kd.qBR (e := 64) (base := w.heap.size) (ok := fun k_ => True) (n := al.length) (c := bc) ?_).2.2; exact (by (with_reducible repeat (first | apply Kd.R_alloc | apply Kd.R_drewN | apply Kd.R_drew)); exact (Kd.R_mono (fR3 ab (Kd.qCI aa.1 ae.1 (by decide)) (fun _ hk => hk.2)) (fun _ h_ => h_.1)))); (case side2 => exact (Kd.qBR aa.1).2.1); (case side3 => refine (Kd.qBS (e := 38) (base := w.heap.size) (ok := fun k_ => (some k_ ≠ (.slice bj al.length bc : Value).ownBlock ∧ k_ ≠ ab)) (n := ax.length) (c := bm) ?_).2.2; exact (by (with_reducible repeat (first | apply Kd.N_alloc | apply Kd.N_drewN | apply Kd.N_drew)); exact (fN3 ab ac.1 (fun k_ hk => hk.2)))); (case side4 => exact (Kd.qBS ac.1).2.1); rintro e d1 ⟨br, rfl, aV, hb⟩; refine ⟨_, rfl, ?_⟩; have af := am (Kd.N_lower (Kd.N_mono (ok' := fun k_ => some k_ ≠ (.slice bj al.length bc : Value).ownBlock ∧ some k_ ≠ (.slice bu ax.length bm : Value).ownBlock ∧ k_ ≠ ab) aV (fun k_ hk_ => ⟨(Kd.fresh' (Kd.R_lt (by (with_reducible repeat (first | apply Kd.R_alloc | apply Kd.R_drewN | apply Kd.R_drew)); exact (Kd.R_mono (fR3 ab (Kd.qCI aa.1 ae.1 (by decide)) (fun _ hk => hk.2)) (fun _ h_ => h_.1)))) k_ hk_), (Kd.fresh' (Kd.N_lt (by (with_reducible repeat (first | apply Kd.N_alloc | apply Kd.N_drewN | apply Kd.N_drew)); exact (fN3 ab ac.1 (fun k_ hk => hk.2)))) k_ hk_), (Kd.freshB (g := ab) (o := .cells #[.string (⟨#[110]⟩ : ByteArray), .slice bj al.length bc, .slice bu ax.length bm] 25 (0, 0)) (by (with_reducible repeat (first | refine qBK ?_ _ | refine qBM ?_ | refine qBL ?_ _)); exact bp3 (pbk ae.1)) k_ hk_)⟩)) (qBJ pbg)); replace aa := am (Kd.R_below (by (with_reducible repeat (first | apply Kd.R_alloc | apply Kd.R_drewN | apply Kd.R_drew)); exact (Kd.R_mono (fR3 ab (Kd.qCI aa.1 ae.1 (by decide)) (fun _ hk => hk.2)) (fun _ h_ => h_.1))) hb); replace ac := am (Kd.qBX (by (with_reducible repeat (first | apply Kd.N_alloc | apply Kd.N_drewN | apply Kd.N_drew)); exact (fN3 ab ac.1 (fun k_ hk => hk.2))) (Kd.N_base aV) hb); replace ae := am (qCF (g := ab) (o := .cells #[.string (⟨#[110]⟩ : ByteArray), .slice bj al.length bc, .slice bu ax.length bm] 25 (0, 0)) (by (with_reducible repeat (first | refine qBK ?_ _ | refine qBM ?_ | refine qBL ?_ _)); exact bp3 (pbk ae.1)) hb); replace HB := bst hb; (try clear hb); (try clear hk); (try clear aV)))
  go_ret
  exact ⟨per, pbg⟩
 rw [if_pos c2] at H
 have cN : (aW == 0) = true := beq_iff_eq.mpr c2
 have cO : (aW != 0) = false := bne_eq_false_iff_eq.mpr c2
 clear c2
 by_cases c3 : cM = true
 rotate_left
 ·replace c3 := Bool.eq_false_iff.mpr c3
  subst c3
  rw [if_neg Bool.false_ne_true] at H
  obtain rfl := Option.some.inj H
  go_enter Try.func13, Try.ntmps13
  go_wp2_with (first | ((with_reducible refine qBN (N := 6) rfl ?_); (try (refine qBP (by rfl) ?_; dsimp only)); refine Kd.R_lit k64 _ 64 ?hg (N := 6) ?hd (xs := ([(⟨(⟨#[112]⟩ : ByteArray), 0, 0⟩ : S64)] : List (S64))) (inner := [.string (⟨#[112]⟩ : ByteArray), .int .i64 0, .int .i64 0]) (ok := fun _ => True) (okp := fun _ => True) ?hr ?hp (fun _ hk => hk) trivial (Below.refl _ _) (Nat.le_refl _) (by simp) ?_; (case hd => rfl); (case hg => rfl); (case hr => first | (go_simp; done) | (go_simp; rfl)); (case hp => exact (Reps.c3 (show Kd.M k64 _ _ _ (⟨(⟨#[112]⟩ : ByteArray), 0, 0⟩ : S64) [.string (⟨#[112]⟩ : ByteArray), .int .i64 0, .int .i64 0] from (k64_mkM _ _ _ (⟨(⟨#[112]⟩ : ByteArray), 0, 0⟩ : S64) )) (Reps.none _ _))); intro ap eE bV hb hg_ hnew_; clear hg_ hnew_; (first | rw [← aG.1] at bV | (simp only [Int.reduceToNat] at bV; rw [← aG.1] at bV)); have aa := am (Kd.qCH bV (qBJ pbl)); replace HB := bsl hb; clear hb bV) | ((with_reducible refine qBN (N := 8) rfl ?_); (try (refine qBP (by rfl) ?_; dsimp only)); refine Kd.R_lit k68 _ 68 ?hg (N := 8) ?hd (xs := ([(⟨0, 1⟩ : S68)] : List (S68))) (inner := [.int .i64 0, .int .i64 1]) (ok := fun _ => True) (okp := fun _ => True) ?hr ?hp (fun _ hk => hk) trivial (Below.refl _ _) (Nat.le_refl _) (by simp) ?_; (case hd => rfl); (case hg => rfl); (case hr => first | (go_simp; done) | (go_simp; rfl)); (case hp => exact (Reps.c2 (show Kd.M k68 _ _ _ (⟨0, 1⟩ : S68) [.int .i64 0, .int .i64 1] from (k68_mkM _ _ _ (⟨0, 1⟩ : S68) )) (Reps.none _ _))); intro bp d7 bW hb hg_ hnew_; clear hg_ hnew_; (first | rw [← aH.1] at bW | (simp only [Int.reduceToNat] at bW; rw [← aH.1] at bW)); have ah := am (Kd.qCH bW (qBJ pbl)); replace aa := rbw aa hb; replace HB := bsl hb; clear hb bW; obtain ⟨cC, cI, dv⟩ := Kd.R_slice ah.1; subst dv) | ((with_reducible refine qBN (N := 10) rfl ?_); (try (refine qBP (by rfl) ?_; dsimp only)); refine Kd.N_lit k38 _ 38 ?hg (N' := 10) ?hd (xs := ([(⟨(⟨#[116]⟩ : ByteArray), ([] : List (S68)), au, ([] : List (S68)), 0⟩ : S38)] : List (S38))) (inner := [.string (⟨#[116]⟩ : ByteArray), .slice none 0 0, .slice cC au.length cI, .slice none 0 0, .int .i64 0]) (ok := (fun k_ => some k_ ≠ (ap : Value).ownBlock)) (okp := (fun k_ => some k_ ≠ (ap : Value).ownBlock)) ?hr ?hp (fun _ hk => hk) ((show ∀ k_, d7.heap.size ≤ k_ → (fun k_ => some k_ ≠ (ap : Value).ownBlock) k_ from fun k_ hk => Kd.fresh' (Kd.R_lt (pkr aa.1)) k_ hk) _ (Nat.le_refl _)) (Below.refl _ _) (Nat.le_refl _) (by simp) ?_; (case hd => rfl); (case hg => rfl); (case hr => first | (go_simp; done) | (go_simp; rfl)); (case hp => exact (Reps.c5 (show Kd.FK k38 _ _ (⟨(⟨#[116]⟩ : ByteArray), ([] : List (S68)), au, ([] : List (S68)), 0⟩ : S38) [.string (⟨#[116]⟩ : ByteArray), .slice none 0 0, .slice cC au.length cI, .slice none 0 0, .int .i64 0] from (k38_mkF _ _ (⟨(⟨#[116]⟩ : ByteArray), ([] : List (S68)), au, ([] : List (S68)), 0⟩ : S38) (Nat.le_refl _) (Kd.F_nil _ _ _) (Kd.qBR (Kd.R_mono (ok' := (fun k_ => some k_ ≠ (ap : Value).ownBlock)) (Kd.qCO (ah.1) (Kd.R_typed aa.1) (by decide)) (fun k_ hk => hk.2))).2.1 (Kd.R_F (Kd.R_mono (ok' := (fun k_ => some k_ ≠ (ap : Value).ownBlock)) (Kd.qCO (ah.1) (Kd.R_typed aa.1) (by decide)) (fun k_ hk => hk.2))) (Nat.le_refl _) (Kd.F_nil _ _ _))) (Reps.none _ _))); intro bq eF bX hb hg_ hnew_; clear hg_ hnew_; (first | rw [← aI.1] at bX | (simp only [Int.reduceToNat] at bX; rw [← aI.1] at bX)); have ac := am (Kd.N_lower bX (qBJ pbl)); replace aa := rbw aa hb; replace HB := bsl hb; clear ah; clear hb bX; obtain ⟨cv, cg, dw⟩ := Kd.N_slice ac.1; subst dw; obtain ⟨b9, bD, dx⟩ := Kd.R_slice aa.1; subst dx) | ((with_reducible refine qBN (N := 1) rfl ?_); (try (refine qBP (by rfl) ?_; dsimp only)); refine box_ev (N := 1) (cs := #[.string (⟨#[]⟩ : ByteArray), .slice none 0 0, .slice none 0 0]) (t := 25) ?_; intro ab hg eG hbox hb; have ae := am hbox; have aM := gwl hg; have a4 := aM; replace aa := rbw aa hb; replace ac := am (Kd.N_below (Kd.N_elderB (pkn ac.1) ab (Nat.le_of_eq hg.symm)) hb); replace HB := bsl hb; clear hb hbox hg; have ee := cf3 ae.1) | ((with_reducible refine qBO (f := 14) rfl ?_); refine gC 14 Try.func14 _ (qAX.calls k (⟨#[110]⟩ : ByteArray) _ _ al _ _ ax 10 ao false aW _ ?side1 ?side2 ?side3 ?side4 A1.1) ?_; (case side1 => refine (Kd.qBR (e := 64) (base := w.heap.size) (ok := fun k_ => True) (n := al.length) (c := bD) ?_).2.2; exact (by (with_reducible repeat (first | apply Kd.R_alloc | apply Kd.R_drewN | apply Kd.R_drew)); exact (Kd.R_mono (fR3 ab (Kd.qCI aa.1 ae.1 (by decide)) (fun _ hk => hk.2)) (fun _ h_ => h_.1)))); (case side2 => exact (Kd.qBR aa.1).2.1); (case side3 => refine (Kd.qBS (e := 38) (base := w.heap.size) (ok := fun k_ => (some k_ ≠ (.slice b9 al.length bD : Value).ownBlock ∧ k_ ≠ ab)) (n := ax.length) (c := cg) ?_).2.2; exact (by (with_reducible repeat (first | apply Kd.N_alloc | apply Kd.N_drewN | apply Kd.N_drew)); exact (fN3 ab ac.1 (fun k_ hk => hk.2)))); (case side4 => exact (Kd.qBS ac.1).2.1); rintro e eH ⟨br, rfl, aV, hb⟩; refine ⟨_, rfl, ?_⟩; have af := am (Kd.N_lower (Kd.N_mono (ok' := fun k_ => some k_ ≠ (.slice b9 al.length bD : Value).ownBlock ∧ some k_ ≠ (.slice cv ax.length cg : Value).ownBlock ∧ k_ ≠ ab) aV (fun k_ hk_ => ⟨(Kd.fresh' (Kd.R_lt (by (with_reducible repeat (first | apply Kd.R_alloc | apply Kd.R_drewN | apply Kd.R_drew)); exact (Kd.R_mono (fR3 ab (Kd.qCI aa.1 ae.1 (by decide)) (fun _ hk => hk.2)) (fun _ h_ => h_.1)))) k_ hk_), (Kd.fresh' (Kd.N_lt (by (with_reducible repeat (first | apply Kd.N_alloc | apply Kd.N_drewN | apply Kd.N_drew)); exact (fN3 ab ac.1 (fun k_ hk => hk.2)))) k_ hk_), (Kd.freshB (g := ab) (o := .cells #[.string (⟨#[110]⟩ : ByteArray), .slice b9 al.length bD, .slice cv ax.length cg] 25 (0, 0)) (by (with_reducible repeat (first | refine qBK ?_ _ | refine qBM ?_ | refine qBL ?_ _)); exact bp3 (pbk ae.1)) k_ hk_)⟩)) (qBJ pbg)); replace aa := am (Kd.R_below (by (with_reducible repeat (first | apply Kd.R_alloc | apply Kd.R_drewN | apply Kd.R_drew)); exact (Kd.R_mono (fR3 ab (Kd.qCI aa.1 ae.1 (by decide)) (fun _ hk => hk.2)) (fun _ h_ => h_.1))) hb); replace ac := am (Kd.qBX (by (with_reducible repeat (first | apply Kd.N_alloc | apply Kd.N_drewN | apply Kd.N_drew)); exact (fN3 ab ac.1 (fun k_ hk => hk.2))) (Kd.N_base aV) hb); replace ae := am (qCF (g := ab) (o := .cells #[.string (⟨#[110]⟩ : ByteArray), .slice b9 al.length bD, .slice cv ax.length cg] 25 (0, 0)) (by (with_reducible repeat (first | refine qBK ?_ _ | refine qBM ?_ | refine qBL ?_ _)); exact bp3 (pbk ae.1)) hb); replace HB := bst hb; (try clear hb); (try clear hk); (try clear aV)))
  go_ret
  exact ⟨per, pbg⟩
 subst c3
 rw [if_pos rfl] at H
 replace H := ife H
 rcases H with ⟨cP, cQ, H⟩ | ⟨cP, cQ, H⟩
 rotate_left
 ·obtain rfl := Option.some.inj H
  go_enter Try.func13, Try.ntmps13
  go_wp2_with (first | ((with_reducible refine qBN (N := 6) rfl ?_); (try (refine qBP (by rfl) ?_; dsimp only)); refine Kd.R_lit k64 _ 64 ?hg (N := 6) ?hd (xs := ([(⟨(⟨#[112]⟩ : ByteArray), 0, 0⟩ : S64)] : List (S64))) (inner := [.string (⟨#[112]⟩ : ByteArray), .int .i64 0, .int .i64 0]) (ok := fun _ => True) (okp := fun _ => True) ?hr ?hp (fun _ hk => hk) trivial (Below.refl _ _) (Nat.le_refl _) (by simp) ?_; (case hd => rfl); (case hg => rfl); (case hr => first | (go_simp; done) | (go_simp; rfl)); (case hp => exact (Reps.c3 (show Kd.M k64 _ _ _ (⟨(⟨#[112]⟩ : ByteArray), 0, 0⟩ : S64) [.string (⟨#[112]⟩ : ByteArray), .int .i64 0, .int .i64 0] from (k64_mkM _ _ _ (⟨(⟨#[112]⟩ : ByteArray), 0, 0⟩ : S64) )) (Reps.none _ _))); intro ap eA bS hb hg_ hnew_; clear hg_ hnew_; (first | rw [← aG.1] at bS | (simp only [Int.reduceToNat] at bS; rw [← aG.1] at bS)); have aa := am (Kd.qCH bS (qBJ pbl)); replace HB := bsl hb; clear hb bS) | ((with_reducible refine qBN (N := 8) rfl ?_); (try (refine qBP (by rfl) ?_; dsimp only)); refine Kd.R_lit k68 _ 68 ?hg (N := 8) ?hd (xs := ([(⟨0, 1⟩ : S68)] : List (S68))) (inner := [.int .i64 0, .int .i64 1]) (ok := fun _ => True) (okp := fun _ => True) ?hr ?hp (fun _ hk => hk) trivial (Below.refl _ _) (Nat.le_refl _) (by simp) ?_; (case hd => rfl); (case hg => rfl); (case hr => first | (go_simp; done) | (go_simp; rfl)); (case hp => exact (Reps.c2 (show Kd.M k68 _ _ _ (⟨0, 1⟩ : S68) [.int .i64 0, .int .i64 1] from (k68_mkM _ _ _ (⟨0, 1⟩ : S68) )) (Reps.none _ _))); intro bp d6 bT hb hg_ hnew_; clear hg_ hnew_; (first | rw [← aH.1] at bT | (simp only [Int.reduceToNat] at bT; rw [← aH.1] at bT)); have ah := am (Kd.qCH bT (qBJ pbl)); replace aa := rbw aa hb; replace HB := bsl hb; clear hb bT; obtain ⟨cB, cH, dp⟩ := Kd.R_slice ah.1; subst dp) | ((with_reducible refine qBN (N := 10) rfl ?_); (try (refine qBP (by rfl) ?_; dsimp only)); refine Kd.N_lit k38 _ 38 ?hg (N' := 10) ?hd (xs := ([(⟨(⟨#[116]⟩ : ByteArray), ([] : List (S68)), au, ([] : List (S68)), 0⟩ : S38)] : List (S38))) (inner := [.string (⟨#[116]⟩ : ByteArray), .slice none 0 0, .slice cB au.length cH, .slice none 0 0, .int .i64 0]) (ok := (fun k_ => some k_ ≠ (ap : Value).ownBlock)) (okp := (fun k_ => some k_ ≠ (ap : Value).ownBlock)) ?hr ?hp (fun _ hk => hk) ((show ∀ k_, d6.heap.size ≤ k_ → (fun k_ => some k_ ≠ (ap : Value).ownBlock) k_ from fun k_ hk => Kd.fresh' (Kd.R_lt (pkr aa.1)) k_ hk) _ (Nat.le_refl _)) (Below.refl _ _) (Nat.le_refl _) (by simp) ?_; (case hd => rfl); (case hg => rfl); (case hr => first | (go_simp; done) | (go_simp; rfl)); (case hp => exact (Reps.c5 (show Kd.FK k38 _ _ (⟨(⟨#[116]⟩ : ByteArray), ([] : List (S68)), au, ([] : List (S68)), 0⟩ : S38) [.string (⟨#[116]⟩ : ByteArray), .slice none 0 0, .slice cB au.length cH, .slice none 0 0, .int .i64 0] from (k38_mkF _ _ (⟨(⟨#[116]⟩ : ByteArray), ([] : List (S68)), au, ([] : List (S68)), 0⟩ : S38) (Nat.le_refl _) (Kd.F_nil _ _ _) (Kd.qBR (Kd.R_mono (ok' := (fun k_ => some k_ ≠ (ap : Value).ownBlock)) (Kd.qCO (ah.1) (Kd.R_typed aa.1) (by decide)) (fun k_ hk => hk.2))).2.1 (Kd.R_F (Kd.R_mono (ok' := (fun k_ => some k_ ≠ (ap : Value).ownBlock)) (Kd.qCO (ah.1) (Kd.R_typed aa.1) (by decide)) (fun k_ hk => hk.2))) (Nat.le_refl _) (Kd.F_nil _ _ _))) (Reps.none _ _))); intro bq eB bU hb hg_ hnew_; clear hg_ hnew_; (first | rw [← aI.1] at bU | (simp only [Int.reduceToNat] at bU; rw [← aI.1] at bU)); have ac := am (Kd.N_lower bU (qBJ pbl)); replace aa := rbw aa hb; replace HB := bsl hb; clear ah; clear hb bU; obtain ⟨cu, cf, dr⟩ := Kd.N_slice ac.1; subst dr; obtain ⟨b8, bC, dt⟩ := Kd.R_slice aa.1; subst dt) | ((with_reducible refine qBN (N := 1) rfl ?_); (try (refine qBP (by rfl) ?_; dsimp only)); refine box_ev (N := 1) (cs := #[.string (⟨#[]⟩ : ByteArray), .slice none 0 0, .slice none 0 0]) (t := 25) ?_; intro ab hg eC hbox hb; have ae := am hbox; have aM := gwl hg; have a4 := aM; replace aa := rbw aa hb; replace ac := am (Kd.N_below (Kd.N_elderB (pkn ac.1) ab (Nat.le_of_eq hg.symm)) hb); replace HB := bsl hb; clear hb hbox hg; have ed := cf3 ae.1) | ((with_reducible refine qBO (f := 14) rfl ?_); refine gC 14 Try.func14 _ (qAX.calls k (⟨#[110]⟩ : ByteArray) _ _ al _ _ ax 10 ao true aW _ ?side1 ?side2 ?side3 ?side4 A1.1) ?_; (case side1 => refine (Kd.qBR (e := 64) (base := w.heap.size) (ok := fun k_ => True) (n := al.length) (c := bC) ?_).2.2; exact (by (with_reducible repeat (first | apply Kd.R_alloc | apply Kd.R_drewN | apply Kd.R_drew)); exact (Kd.R_mono (fR3 ab (Kd.qCI aa.1 ae.1 (by decide)) (fun _ hk => hk.2)) (fun _ h_ => h_.1)))); (case side2 => exact (Kd.qBR aa.1).2.1); (case side3 => refine (Kd.qBS (e := 38) (base := w.heap.size) (ok := fun k_ => (some k_ ≠ (.slice b8 al.length bC : Value).ownBlock ∧ k_ ≠ ab)) (n := ax.length) (c := cf) ?_).2.2; exact (by (with_reducible repeat (first | apply Kd.N_alloc | apply Kd.N_drewN | apply Kd.N_drew)); exact (fN3 ab ac.1 (fun k_ hk => hk.2)))); (case side4 => exact (Kd.qBS ac.1).2.1); rintro e eD ⟨br, rfl, aV, hb⟩; refine ⟨_, rfl, ?_⟩; have af := am (Kd.N_lower (Kd.N_mono (ok' := fun k_ => some k_ ≠ (.slice b8 al.length bC : Value).ownBlock ∧ some k_ ≠ (.slice cu ax.length cf : Value).ownBlock ∧ k_ ≠ ab) aV (fun k_ hk_ => ⟨(Kd.fresh' (Kd.R_lt (by (with_reducible repeat (first | apply Kd.R_alloc | apply Kd.R_drewN | apply Kd.R_drew)); exact (Kd.R_mono (fR3 ab (Kd.qCI aa.1 ae.1 (by decide)) (fun _ hk => hk.2)) (fun _ h_ => h_.1)))) k_ hk_), (Kd.fresh' (Kd.N_lt (by (with_reducible repeat (first | apply Kd.N_alloc | apply Kd.N_drewN | apply Kd.N_drew)); exact (fN3 ab ac.1 (fun k_ hk => hk.2)))) k_ hk_), (Kd.freshB (g := ab) (o := .cells #[.string (⟨#[110]⟩ : ByteArray), .slice b8 al.length bC, .slice cu ax.length cf] 25 (0, 0)) (by (with_reducible repeat (first | refine qBK ?_ _ | refine qBM ?_ | refine qBL ?_ _)); exact bp3 (pbk ae.1)) k_ hk_)⟩)) (qBJ pbg)); replace aa := am (Kd.R_below (by (with_reducible repeat (first | apply Kd.R_alloc | apply Kd.R_drewN | apply Kd.R_drew)); exact (Kd.R_mono (fR3 ab (Kd.qCI aa.1 ae.1 (by decide)) (fun _ hk => hk.2)) (fun _ h_ => h_.1))) hb); replace ac := am (Kd.qBX (by (with_reducible repeat (first | apply Kd.N_alloc | apply Kd.N_drewN | apply Kd.N_drew)); exact (fN3 ab ac.1 (fun k_ hk => hk.2))) (Kd.N_base aV) hb); replace ae := am (qCF (g := ab) (o := .cells #[.string (⟨#[110]⟩ : ByteArray), .slice b8 al.length bC, .slice cu ax.length cf] 25 (0, 0)) (by (with_reducible repeat (first | refine qBK ?_ _ | refine qBM ?_ | refine qBL ?_ _)); exact bp3 (pbk ae.1)) hb); replace HB := bst hb; (try clear hb); (try clear hk); (try clear aV); obtain ⟨dI, dU, du⟩ := Kd.N_slice af.1; subst du))
  go_ret
  exact ⟨per, pbg⟩
 replace H := ifp H
 obtain ⟨c5, H⟩ := H
 have dJ := decide_eq_true c5
 have dK : decide (0 < ao.length) = true := decide_eq_true (by omega)
 clear c5
 replace H := ife H
 rcases H with ⟨cR, cS, H⟩ | ⟨cR, cS, H⟩
 rotate_left
 ·obtain rfl := Option.some.inj H
  go_enter Try.func13, Try.ntmps13
  go_wp2_with (first | ((with_reducible refine qBN (N := 6) rfl ?_); (try (refine qBP (by rfl) ?_; dsimp only)); refine Kd.R_lit k64 _ 64 ?hg (N := 6) ?hd (xs := ([(⟨(⟨#[112]⟩ : ByteArray), 0, 0⟩ : S64)] : List (S64))) (inner := [.string (⟨#[112]⟩ : ByteArray), .int .i64 0, .int .i64 0]) (ok := fun _ => True) (okp := fun _ => True) ?hr ?hp (fun _ hk => hk) trivial (Below.refl _ _) (Nat.le_refl _) (by simp) ?_; (case hd => rfl); (case hg => rfl); (case hr => first | (go_simp; done) | (go_simp; rfl)); (case hp => exact (Reps.c3 (show Kd.M k64 _ _ _ (⟨(⟨#[112]⟩ : ByteArray), 0, 0⟩ : S64) [.string (⟨#[112]⟩ : ByteArray), .int .i64 0, .int .i64 0] from (k64_mkM _ _ _ (⟨(⟨#[112]⟩ : ByteArray), 0, 0⟩ : S64) )) (Reps.none _ _))); intro ap ew bP hb hg_ hnew_; clear hg_ hnew_; (first | rw [← aG.1] at bP | (simp only [Int.reduceToNat] at bP; rw [← aG.1] at bP)); have aa := am (Kd.qCH bP (qBJ pbl)); replace HB := bsl hb; clear hb bP) | ((with_reducible refine qBN (N := 8) rfl ?_); (try (refine qBP (by rfl) ?_; dsimp only)); refine Kd.R_lit k68 _ 68 ?hg (N := 8) ?hd (xs := ([(⟨0, 1⟩ : S68)] : List (S68))) (inner := [.int .i64 0, .int .i64 1]) (ok := fun _ => True) (okp := fun _ => True) ?hr ?hp (fun _ hk => hk) trivial (Below.refl _ _) (Nat.le_refl _) (by simp) ?_; (case hd => rfl); (case hg => rfl); (case hr => first | (go_simp; done) | (go_simp; rfl)); (case hp => exact (Reps.c2 (show Kd.M k68 _ _ _ (⟨0, 1⟩ : S68) [.int .i64 0, .int .i64 1] from (k68_mkM _ _ _ (⟨0, 1⟩ : S68) )) (Reps.none _ _))); intro bp d5 bQ hb hg_ hnew_; clear hg_ hnew_; (first | rw [← aH.1] at bQ | (simp only [Int.reduceToNat] at bQ; rw [← aH.1] at bQ)); have ah := am (Kd.qCH bQ (qBJ pbl)); replace aa := rbw aa hb; replace HB := bsl hb; clear hb bQ; obtain ⟨cA, cG, dk⟩ := Kd.R_slice ah.1; subst dk) | ((with_reducible refine qBN (N := 10) rfl ?_); (try (refine qBP (by rfl) ?_; dsimp only)); refine Kd.N_lit k38 _ 38 ?hg (N' := 10) ?hd (xs := ([(⟨(⟨#[116]⟩ : ByteArray), ([] : List (S68)), au, ([] : List (S68)), 0⟩ : S38)] : List (S38))) (inner := [.string (⟨#[116]⟩ : ByteArray), .slice none 0 0, .slice cA au.length cG, .slice none 0 0, .int .i64 0]) (ok := (fun k_ => some k_ ≠ (ap : Value).ownBlock)) (okp := (fun k_ => some k_ ≠ (ap : Value).ownBlock)) ?hr ?hp (fun _ hk => hk) ((show ∀ k_, d5.heap.size ≤ k_ → (fun k_ => some k_ ≠ (ap : Value).ownBlock) k_ from fun k_ hk => Kd.fresh' (Kd.R_lt (pkr aa.1)) k_ hk) _ (Nat.le_refl _)) (Below.refl _ _) (Nat.le_refl _) (by simp) ?_; (case hd => rfl); (case hg => rfl); (case hr => first | (go_simp; done) | (go_simp; rfl)); (case hp => exact (Reps.c5 (show Kd.FK k38 _ _ (⟨(⟨#[116]⟩ : ByteArray), ([] : List (S68)), au, ([] : List (S68)), 0⟩ : S38) [.string (⟨#[116]⟩ : ByteArray), .slice none 0 0, .slice cA au.length cG, .slice none 0 0, .int .i64 0] from (k38_mkF _ _ (⟨(⟨#[116]⟩ : ByteArray), ([] : List (S68)), au, ([] : List (S68)), 0⟩ : S38) (Nat.le_refl _) (Kd.F_nil _ _ _) (Kd.qBR (Kd.R_mono (ok' := (fun k_ => some k_ ≠ (ap : Value).ownBlock)) (Kd.qCO (ah.1) (Kd.R_typed aa.1) (by decide)) (fun k_ hk => hk.2))).2.1 (Kd.R_F (Kd.R_mono (ok' := (fun k_ => some k_ ≠ (ap : Value).ownBlock)) (Kd.qCO (ah.1) (Kd.R_typed aa.1) (by decide)) (fun k_ hk => hk.2))) (Nat.le_refl _) (Kd.F_nil _ _ _))) (Reps.none _ _))); intro bq ex bR hb hg_ hnew_; clear hg_ hnew_; (first | rw [← aI.1] at bR | (simp only [Int.reduceToNat] at bR; rw [← aI.1] at bR)); have ac := am (Kd.N_lower bR (qBJ pbl)); replace aa := rbw aa hb; replace HB := bsl hb; clear ah; clear hb bR; obtain ⟨cr, ce, dl⟩ := Kd.N_slice ac.1; subst dl; obtain ⟨b7, bB, dm⟩ := Kd.R_slice aa.1; subst dm) | ((with_reducible refine qBN (N := 1) rfl ?_); (try (refine qBP (by rfl) ?_; dsimp only)); refine box_ev (N := 1) (cs := #[.string (⟨#[]⟩ : ByteArray), .slice none 0 0, .slice none 0 0]) (t := 25) ?_; intro ab hg ey hbox hb; have ae := am hbox; have aM := gwl hg; have a4 := aM; replace aa := rbw aa hb; replace ac := am (Kd.N_below (Kd.N_elderB (pkn ac.1) ab (Nat.le_of_eq hg.symm)) hb); replace HB := bsl hb; clear hb hbox hg; have ec := cf3 ae.1) | ((with_reducible refine qBO (f := 14) rfl ?_); refine gC 14 Try.func14 _ (qAX.calls k (⟨#[110]⟩ : ByteArray) _ _ al _ _ ax 10 ao true aW _ ?side1 ?side2 ?side3 ?side4 A1.1) ?_; (case side1 => refine (Kd.qBR (e := 64) (base := w.heap.size) (ok := fun k_ => True) (n := al.length) (c := bB) ?_).2.2; exact (by (with_reducible repeat (first | apply Kd.R_alloc | apply Kd.R_drewN | apply Kd.R_drew)); exact (Kd.R_mono (fR3 ab (Kd.qCI aa.1 ae.1 (by decide)) (fun _ hk => hk.2)) (fun _ h_ => h_.1)))); (case side2 => exact (Kd.qBR aa.1).2.1); (case side3 => refine (Kd.qBS (e := 38) (base := w.heap.size) (ok := fun k_ => (some k_ ≠ (.slice b7 al.length bB : Value).ownBlock ∧ k_ ≠ ab)) (n := ax.length) (c := ce) ?_).2.2; exact (by (with_reducible repeat (first | apply Kd.N_alloc | apply Kd.N_drewN | apply Kd.N_drew)); exact (fN3 ab ac.1 (fun k_ hk => hk.2)))); (case side4 => exact (Kd.qBS ac.1).2.1); rintro e ez ⟨br, rfl, aV, hb⟩; refine ⟨_, rfl, ?_⟩; have af := am (Kd.N_lower (Kd.N_mono (ok' := fun k_ => some k_ ≠ (.slice b7 al.length bB : Value).ownBlock ∧ some k_ ≠ (.slice cr ax.length ce : Value).ownBlock ∧ k_ ≠ ab) aV (fun k_ hk_ => ⟨(Kd.fresh' (Kd.R_lt (by (with_reducible repeat (first | apply Kd.R_alloc | apply Kd.R_drewN | apply Kd.R_drew)); exact (Kd.R_mono (fR3 ab (Kd.qCI aa.1 ae.1 (by decide)) (fun _ hk => hk.2)) (fun _ h_ => h_.1)))) k_ hk_), (Kd.fresh' (Kd.N_lt (by (with_reducible repeat (first | apply Kd.N_alloc | apply Kd.N_drewN | apply Kd.N_drew)); exact (fN3 ab ac.1 (fun k_ hk => hk.2)))) k_ hk_), (Kd.freshB (g := ab) (o := .cells #[.string (⟨#[110]⟩ : ByteArray), .slice b7 al.length bB, .slice cr ax.length ce] 25 (0, 0)) (by (with_reducible repeat (first | refine qBK ?_ _ | refine qBM ?_ | refine qBL ?_ _)); exact bp3 (pbk ae.1)) k_ hk_)⟩)) (qBJ pbg)); replace aa := am (Kd.R_below (by (with_reducible repeat (first | apply Kd.R_alloc | apply Kd.R_drewN | apply Kd.R_drew)); exact (Kd.R_mono (fR3 ab (Kd.qCI aa.1 ae.1 (by decide)) (fun _ hk => hk.2)) (fun _ h_ => h_.1))) hb); replace ac := am (Kd.qBX (by (with_reducible repeat (first | apply Kd.N_alloc | apply Kd.N_drewN | apply Kd.N_drew)); exact (fN3 ab ac.1 (fun k_ hk => hk.2))) (Kd.N_base aV) hb); replace ae := am (qCF (g := ab) (o := .cells #[.string (⟨#[110]⟩ : ByteArray), .slice b7 al.length bB, .slice cr ax.length ce] 25 (0, 0)) (by (with_reducible repeat (first | refine qBK ?_ _ | refine qBM ?_ | refine qBL ?_ _)); exact bp3 (pbk ae.1)) hb); replace HB := bst hb; (try clear hb); (try clear hk); (try clear aV); obtain ⟨dH, dS, dn⟩ := Kd.N_slice af.1; subst dn; have aO : 0 ≤ (0 : Int) := (by omega); have aP : 0 < (ao.length : Int) := dq; obtain ⟨a5, bg, bh, bi, ak, aD, aC⟩ := at_L11 (Kd.qBS af.1).2.2 0 aO aP; cases bi; obtain ⟨bw, aS, aR, aF⟩ := Kd.N_get af.1 [] 0 aO (by first | exact aP | exact dq | (have e_ := (Kd.qBS af.1).1; omega)); obtain ⟨a9, ba, rfl, ar, aq⟩ := Kd.qBV aR; have ai := aF 0 _ rfl; rw [Nat.add_zero, show ((Kd.slice 3 (Kd.int .i64))).sz = 1 from rfl, Nat.mul_one] at ai; replace ai := Option.some.inj (ai.symm.trans ak); injection ai with hva_ hvn_ hvc_; rw [hva_] at aq; rw [hvc_] at ar; have ay := am (show Kd.V (Kd.int .i64) 3 _ w.heap.size _ _ (rd_L11 ao 0) from Kd.V_mk ar aq); clear hva_ hvn_ hvc_ aq ar; clear aF aS; have b3 : (0 < ao.length) = True := eq_true (by omega); (try rw [show ((0 : Int)).toNat = 0 from rfl] at ak); (try rw [Addr.add_zero'] at ak); have az := am aC; have a6 := am aD; clear aC aD; replace aO := eq_true aO; replace aP := eq_true aP))
  go_ret
  exact ⟨per, pbg⟩
 replace H := ifp H
 obtain ⟨c7, H⟩ := H
 have dL := decide_eq_true c7
 have dM : decide (0 < (rd_L11 ao 0).length) = true := decide_eq_true (by omega)
 clear c7
 replace H := ife H
 rcases H with ⟨cT, cU, H⟩ | ⟨cT, cU, H⟩
 rotate_left
 ·obtain rfl := Option.some.inj H
  go_enter Try.func13, Try.ntmps13
  go_wp2_with (first | ((with_reducible refine qBN (N := 6) rfl ?_); (try (refine qBP (by rfl) ?_; dsimp only)); refine Kd.R_lit k64 _ 64 ?hg (N := 6) ?hd (xs := ([(⟨(⟨#[112]⟩ : ByteArray), 0, 0⟩ : S64)] : List (S64))) (inner := [.string (⟨#[112]⟩ : ByteArray), .int .i64 0, .int .i64 0]) (ok := fun _ => True) (okp := fun _ => True) ?hr ?hp (fun _ hk => hk) trivial (Below.refl _ _) (Nat.le_refl _) (by simp) ?_; (case hd => rfl); (case hg => rfl); (case hr => first | (go_simp; done) | (go_simp; rfl)); (case hp => exact (Reps.c3 (show Kd.M k64 _ _ _ (⟨(⟨#[112]⟩ : ByteArray), 0, 0⟩ : S64) [.string (⟨#[112]⟩ : ByteArray), .int .i64 0, .int .i64 0] from (k64_mkM _ _ _ (⟨(⟨#[112]⟩ : ByteArray), 0, 0⟩ : S64) )) (Reps.none _ _))); intro ap es bM hb hg_ hnew_; clear hg_ hnew_; (first | rw [← aG.1] at bM | (simp only [Int.reduceToNat] at bM; rw [← aG.1] at bM)); have aa := am (Kd.qCH bM (qBJ pbl)); replace HB := bsl hb; clear hb bM) | ((with_reducible refine qBN (N := 8) rfl ?_); (try (refine qBP (by rfl) ?_; dsimp only)); refine Kd.R_lit k68 _ 68 ?hg (N := 8) ?hd (xs := ([(⟨0, 1⟩ : S68)] : List (S68))) (inner := [.int .i64 0, .int .i64 1]) (ok := fun _ => True) (okp := fun _ => True) ?hr ?hp (fun _ hk => hk) trivial (Below.refl _ _) (Nat.le_refl _) (by simp) ?_; (case hd => rfl); (case hg => rfl); (case hr => first | (go_simp; done) | (go_simp; rfl)); (case hp => exact (Reps.c2 (show Kd.M k68 _ _ _ (⟨0, 1⟩ : S68) [.int .i64 0, .int .i64 1] from (k68_mkM _ _ _ (⟨0, 1⟩ : S68) )) (Reps.none _ _))); intro bp d4 bN hb hg_ hnew_; clear hg_ hnew_; (first | rw [← aH.1] at bN | (simp only [Int.reduceToNat] at bN; rw [← aH.1] at bN)); have ah := am (Kd.qCH bN (qBJ pbl)); replace aa := rbw aa hb; replace HB := bsl hb; clear hb bN; obtain ⟨cz, cF, dg⟩ := Kd.R_slice ah.1; subst dg) | ((with_reducible refine qBN (N := 10) rfl ?_); (try (refine qBP (by rfl) ?_; dsimp only)); refine Kd.N_lit k38 _ 38 ?hg (N' := 10) ?hd (xs := ([(⟨(⟨#[116]⟩ : ByteArray), ([] : List (S68)), au, ([] : List (S68)), 0⟩ : S38)] : List (S38))) (inner := [.string (⟨#[116]⟩ : ByteArray), .slice none 0 0, .slice cz au.length cF, .slice none 0 0, .int .i64 0]) (ok := (fun k_ => some k_ ≠ (ap : Value).ownBlock)) (okp := (fun k_ => some k_ ≠ (ap : Value).ownBlock)) ?hr ?hp (fun _ hk => hk) ((show ∀ k_, d4.heap.size ≤ k_ → (fun k_ => some k_ ≠ (ap : Value).ownBlock) k_ from fun k_ hk => Kd.fresh' (Kd.R_lt (pkr aa.1)) k_ hk) _ (Nat.le_refl _)) (Below.refl _ _) (Nat.le_refl _) (by simp) ?_; (case hd => rfl); (case hg => rfl); (case hr => first | (go_simp; done) | (go_simp; rfl)); (case hp => exact (Reps.c5 (show Kd.FK k38 _ _ (⟨(⟨#[116]⟩ : ByteArray), ([] : List (S68)), au, ([] : List (S68)), 0⟩ : S38) [.string (⟨#[116]⟩ : ByteArray), .slice none 0 0, .slice cz au.length cF, .slice none 0 0, .int .i64 0] from (k38_mkF _ _ (⟨(⟨#[116]⟩ : ByteArray), ([] : List (S68)), au, ([] : List (S68)), 0⟩ : S38) (Nat.le_refl _) (Kd.F_nil _ _ _) (Kd.qBR (Kd.R_mono (ok' := (fun k_ => some k_ ≠ (ap : Value).ownBlock)) (Kd.qCO (ah.1) (Kd.R_typed aa.1) (by decide)) (fun k_ hk => hk.2))).2.1 (Kd.R_F (Kd.R_mono (ok' := (fun k_ => some k_ ≠ (ap : Value).ownBlock)) (Kd.qCO (ah.1) (Kd.R_typed aa.1) (by decide)) (fun k_ hk => hk.2))) (Nat.le_refl _) (Kd.F_nil _ _ _))) (Reps.none _ _))); intro bq et bO hb hg_ hnew_; clear hg_ hnew_; (first | rw [← aI.1] at bO | (simp only [Int.reduceToNat] at bO; rw [← aI.1] at bO)); have ac := am (Kd.N_lower bO (qBJ pbl)); replace aa := rbw aa hb; replace HB := bsl hb; clear ah; clear hb bO; obtain ⟨cq, cd, dh⟩ := Kd.N_slice ac.1; subst dh; obtain ⟨b6, bA, di⟩ := Kd.R_slice aa.1; subst di) | ((with_reducible refine qBN (N := 1) rfl ?_); (try (refine qBP (by rfl) ?_; dsimp only)); refine box_ev (N := 1) (cs := #[.string (⟨#[]⟩ : ByteArray), .slice none 0 0, .slice none 0 0]) (t := 25) ?_; intro ab hg eu hbox hb; have ae := am hbox; have aM := gwl hg; have a4 := aM; replace aa := rbw aa hb; replace ac := am (Kd.N_below (Kd.N_elderB (pkn ac.1) ab (Nat.le_of_eq hg.symm)) hb); replace HB := bsl hb; clear hb hbox hg; have ea := cf3 ae.1) | ((with_reducible refine qBO (f := 14) rfl ?_); refine gC 14 Try.func14 _ (qAX.calls k (⟨#[110]⟩ : ByteArray) _ _ al _ _ ax 10 ao true aW _ ?side1 ?side2 ?side3 ?side4 A1.1) ?_; (case side1 => refine (Kd.qBR (e := 64) (base := w.heap.size) (ok := fun k_ => True) (n := al.length) (c := bA) ?_).2.2; exact (by (with_reducible repeat (first | apply Kd.R_alloc | apply Kd.R_drewN | apply Kd.R_drew)); exact (Kd.R_mono (fR3 ab (Kd.qCI aa.1 ae.1 (by decide)) (fun _ hk => hk.2)) (fun _ h_ => h_.1)))); (case side2 => exact (Kd.qBR aa.1).2.1); (case side3 => refine (Kd.qBS (e := 38) (base := w.heap.size) (ok := fun k_ => (some k_ ≠ (.slice b6 al.length bA : Value).ownBlock ∧ k_ ≠ ab)) (n := ax.length) (c := cd) ?_).2.2; exact (by (with_reducible repeat (first | apply Kd.N_alloc | apply Kd.N_drewN | apply Kd.N_drew)); exact (fN3 ab ac.1 (fun k_ hk => hk.2)))); (case side4 => exact (Kd.qBS ac.1).2.1); rintro e ev ⟨br, rfl, aV, hb⟩; refine ⟨_, rfl, ?_⟩; have af := am (Kd.N_lower (Kd.N_mono (ok' := fun k_ => some k_ ≠ (.slice b6 al.length bA : Value).ownBlock ∧ some k_ ≠ (.slice cq ax.length cd : Value).ownBlock ∧ k_ ≠ ab) aV (fun k_ hk_ => ⟨(Kd.fresh' (Kd.R_lt (by (with_reducible repeat (first | apply Kd.R_alloc | apply Kd.R_drewN | apply Kd.R_drew)); exact (Kd.R_mono (fR3 ab (Kd.qCI aa.1 ae.1 (by decide)) (fun _ hk => hk.2)) (fun _ h_ => h_.1)))) k_ hk_), (Kd.fresh' (Kd.N_lt (by (with_reducible repeat (first | apply Kd.N_alloc | apply Kd.N_drewN | apply Kd.N_drew)); exact (fN3 ab ac.1 (fun k_ hk => hk.2)))) k_ hk_), (Kd.freshB (g := ab) (o := .cells #[.string (⟨#[110]⟩ : ByteArray), .slice b6 al.length bA, .slice cq ax.length cd] 25 (0, 0)) (by (with_reducible repeat (first | refine qBK ?_ _ | refine qBM ?_ | refine qBL ?_ _)); exact bp3 (pbk ae.1)) k_ hk_)⟩)) (qBJ pbg)); replace aa := am (Kd.R_below (by (with_reducible repeat (first | apply Kd.R_alloc | apply Kd.R_drewN | apply Kd.R_drew)); exact (Kd.R_mono (fR3 ab (Kd.qCI aa.1 ae.1 (by decide)) (fun _ hk => hk.2)) (fun _ h_ => h_.1))) hb); replace ac := am (Kd.qBX (by (with_reducible repeat (first | apply Kd.N_alloc | apply Kd.N_drewN | apply Kd.N_drew)); exact (fN3 ab ac.1 (fun k_ hk => hk.2))) (Kd.N_base aV) hb); replace ae := am (qCF (g := ab) (o := .cells #[.string (⟨#[110]⟩ : ByteArray), .slice b6 al.length bA, .slice cq ax.length cd] 25 (0, 0)) (by (with_reducible repeat (first | refine qBK ?_ _ | refine qBM ?_ | refine qBL ?_ _)); exact bp3 (pbk ae.1)) hb); replace HB := bst hb; (try clear hb); (try clear hk); (try clear aV); obtain ⟨dG, dR, dj⟩ := Kd.N_slice af.1; subst dj; have aO : 0 ≤ (0 : Int) := (by omega); have aP : 0 < (ao.length : Int) := dq; obtain ⟨a5, bg, bh, bi, ak, aD, aC⟩ := at_L11 (Kd.qBS af.1).2.2 0 aO aP; cases bi; obtain ⟨bw, aS, aR, aF⟩ := Kd.N_get af.1 [] 0 aO (by first | exact aP | exact dq | (have e_ := (Kd.qBS af.1).1; omega)); obtain ⟨a9, ba, rfl, ar, aq⟩ := Kd.qBV aR; have ai := aF 0 _ rfl; rw [Nat.add_zero, show ((Kd.slice 3 (Kd.int .i64))).sz = 1 from rfl, Nat.mul_one] at ai; replace ai := Option.some.inj (ai.symm.trans ak); injection ai with hva_ hvn_ hvc_; rw [hva_] at aq; rw [hvc_] at ar; have ay := am (show Kd.V (Kd.int .i64) 3 _ w.heap.size _ _ (rd_L11 ao 0) from Kd.V_mk ar aq); clear hva_ hvn_ hvc_ aq ar; clear aF aS; have b3 : (0 < ao.length) = True := eq_true (by omega); (try rw [show ((0 : Int)).toNat = 0 from rfl] at ak); (try rw [Addr.add_zero'] at ak); have az := am aC; have a6 := am aD; clear aC aD; replace aO := eq_true aO; replace aP := eq_true aP; have aT : 0 ≤ (0 : Int) := (by omega); have aU : 0 < (ao.length : Int) := dq; obtain ⟨bb, bs, bv, bE, aw, aK, aJ⟩ := at_L11 (Kd.qBS af.1).2.2 0 aT aU; obtain rfl : a5 = bb := (by injection bE); obtain ⟨cj, aY, aX, aQ⟩ := Kd.N_get af.1 [] 0 aT (by first | exact aU | exact dq | (have e_ := (Kd.qBS af.1).1; omega)); obtain ⟨bn, bo, rfl, aE, aB⟩ := Kd.qBV aX; have av := aQ 0 _ rfl; rw [Nat.add_zero, show ((Kd.slice 3 (Kd.int .i64))).sz = 1 from rfl, Nat.mul_one] at av; replace av := Option.some.inj (av.symm.trans aw); injection av with hva_ hvn_ hvc_; rw [hva_] at aB; rw [hvc_] at aE; have aA := am (show Kd.V (Kd.int .i64) 3 _ w.heap.size _ _ (rd_L11 ao 0) from Kd.V_mk aE aB); clear hva_ hvn_ hvc_ aB aE; clear aQ aY; have cm : (0 < ao.length) = True := eq_true (by omega); (try rw [show ((0 : Int)).toNat = 0 from rfl] at aw); (try rw [Addr.add_zero'] at aw); have aj := am aJ; have bk := am aK; clear aJ aK; replace aT := eq_true aT; replace aU := eq_true aU; have ea_ := Option.some.inj (ak.symm.trans aw); injection ea_ with ea_ en_ ec_; subst ea_; subst ec_; clear en_; have aZ : 0 ≤ (0 : Int) := (by omega); have a1 : 0 < ((rd_L11 ao 0).length : Int) := dq; obtain ⟨ci, bF, aL⟩ := Kd.at_int (by repeat (first | (with_reducible exact aj.1) | (with_reducible refine Kd.C_alloc ?_ _) | (with_reducible refine Kd.C_drewN ?_ _) | (with_reducible refine Kd.C_drew ?_) | exact aj.1)) 0 aZ a1; cases bF; have cn : (0 < (rd_L11 ao 0).length) = True := eq_true (by omega); (try rw [show ((0 : Int)).toNat = 0 from rfl] at aL); (try rw [Addr.add_zero'] at aL); replace aZ := eq_true aZ; replace a1 := eq_true a1))
  go_ret
  exact ⟨per, pbg⟩
 obtain ⟨cw, b2⟩ : ∃ y_ : List Int, y_ = (([1000] : List Int)) := ⟨_, rfl⟩
 replace H : ((qAU.f k ao cw).bind fun a2 => (if a2 = true then ((qAW.f k ao).bind fun a3 => (some (!a3))) else (some false))) = some r := hrp b2 H
 have bl := am b2
 clear b2
 replace H := bnd H
 obtain ⟨a2, A9, H⟩ := H
 (try dsimp only at H)
 cases a2
 ·rw [if_neg Bool.false_ne_true] at H
  obtain rfl := Option.some.inj H
  go_enter Try.func13, Try.ntmps13
  go_wp2_with (first | ((with_reducible refine qBN (N := 6) rfl ?_); (try (refine qBP (by rfl) ?_; dsimp only)); refine Kd.R_lit k64 _ 64 ?hg (N := 6) ?hd (xs := ([(⟨(⟨#[112]⟩ : ByteArray), 0, 0⟩ : S64)] : List (S64))) (inner := [.string (⟨#[112]⟩ : ByteArray), .int .i64 0, .int .i64 0]) (ok := fun _ => True) (okp := fun _ => True) ?hr ?hp (fun _ hk => hk) trivial (Below.refl _ _) (Nat.le_refl _) (by simp) ?_; (case hd => rfl); (case hg => rfl); (case hr => first | (go_simp; done) | (go_simp; rfl)); (case hp => exact (Reps.c3 (show Kd.M k64 _ _ _ (⟨(⟨#[112]⟩ : ByteArray), 0, 0⟩ : S64) [.string (⟨#[112]⟩ : ByteArray), .int .i64 0, .int .i64 0] from (k64_mkM _ _ _ (⟨(⟨#[112]⟩ : ByteArray), 0, 0⟩ : S64) )) (Reps.none _ _))); intro ap em bJ hb hg_ hnew_; clear hg_ hnew_; (first | rw [← aG.1] at bJ | (simp only [Int.reduceToNat] at bJ; rw [← aG.1] at bJ)); have aa := am (Kd.qCH bJ (qBJ pbl)); replace HB := bsl hb; clear hb bJ) | ((with_reducible refine qBN (N := 8) rfl ?_); (try (refine qBP (by rfl) ?_; dsimp only)); refine Kd.R_lit k68 _ 68 ?hg (N := 8) ?hd (xs := ([(⟨0, 1⟩ : S68)] : List (S68))) (inner := [.int .i64 0, .int .i64 1]) (ok := fun _ => True) (okp := fun _ => True) ?hr ?hp (fun _ hk => hk) trivial (Below.refl _ _) (Nat.le_refl _) (by simp) ?_; (case hd => rfl); (case hg => rfl); (case hr => first | (go_simp; done) | (go_simp; rfl)); (case hp => exact (Reps.c2 (show Kd.M k68 _ _ _ (⟨0, 1⟩ : S68) [.int .i64 0, .int .i64 1] from (k68_mkM _ _ _ (⟨0, 1⟩ : S68) )) (Reps.none _ _))); intro bp d3 bK hb hg_ hnew_; clear hg_ hnew_; (first | rw [← aH.1] at bK | (simp only [Int.reduceToNat] at bK; rw [← aH.1] at bK)); have ah := am (Kd.qCH bK (qBJ pbl)); replace aa := rbw aa hb; replace HB := bsl hb; clear hb bK; obtain ⟨cy, cE, da⟩ := Kd.R_slice ah.1; subst da) | ((with_reducible refine qBN (N := 10) rfl ?_); (try (refine qBP (by rfl) ?_; dsimp only)); refine Kd.N_lit k38 _ 38 ?hg (N' := 10) ?hd (xs := ([(⟨(⟨#[116]⟩ : ByteArray), ([] : List (S68)), au, ([] : List (S68)), 0⟩ : S38)] : List (S38))) (inner := [.string (⟨#[116]⟩ : ByteArray), .slice none 0 0, .slice cy au.length cE, .slice none 0 0, .int .i64 0]) (ok := (fun k_ => some k_ ≠ (ap : Value).ownBlock)) (okp := (fun k_ => some k_ ≠ (ap : Value).ownBlock)) ?hr ?hp (fun _ hk => hk) ((show ∀ k_, d3.heap.size ≤ k_ → (fun k_ => some k_ ≠ (ap : Value).ownBlock) k_ from fun k_ hk => Kd.fresh' (Kd.R_lt (pkr aa.1)) k_ hk) _ (Nat.le_refl _)) (Below.refl _ _) (Nat.le_refl _) (by simp) ?_; (case hd => rfl); (case hg => rfl); (case hr => first | (go_simp; done) | (go_simp; rfl)); (case hp => exact (Reps.c5 (show Kd.FK k38 _ _ (⟨(⟨#[116]⟩ : ByteArray), ([] : List (S68)), au, ([] : List (S68)), 0⟩ : S38) [.string (⟨#[116]⟩ : ByteArray), .slice none 0 0, .slice cy au.length cE, .slice none 0 0, .int .i64 0] from (k38_mkF _ _ (⟨(⟨#[116]⟩ : ByteArray), ([] : List (S68)), au, ([] : List (S68)), 0⟩ : S38) (Nat.le_refl _) (Kd.F_nil _ _ _) (Kd.qBR (Kd.R_mono (ok' := (fun k_ => some k_ ≠ (ap : Value).ownBlock)) (Kd.qCO (ah.1) (Kd.R_typed aa.1) (by decide)) (fun k_ hk => hk.2))).2.1 (Kd.R_F (Kd.R_mono (ok' := (fun k_ => some k_ ≠ (ap : Value).ownBlock)) (Kd.qCO (ah.1) (Kd.R_typed aa.1) (by decide)) (fun k_ hk => hk.2))) (Nat.le_refl _) (Kd.F_nil _ _ _))) (Reps.none _ _))); intro bq en bL hb hg_ hnew_; clear hg_ hnew_; (first | rw [← aI.1] at bL | (simp only [Int.reduceToNat] at bL; rw [← aI.1] at bL)); have ac := am (Kd.N_lower bL (qBJ pbl)); replace aa := rbw aa hb; replace HB := bsl hb; clear ah; clear hb bL; obtain ⟨cp, cb, db⟩ := Kd.N_slice ac.1; subst db; obtain ⟨b5, bz, dc⟩ := Kd.R_slice aa.1; subst dc) | ((with_reducible refine qBN (N := 1) rfl ?_); (try (refine qBP (by rfl) ?_; dsimp only)); refine box_ev (N := 1) (cs := #[.string (⟨#[]⟩ : ByteArray), .slice none 0 0, .slice none 0 0]) (t := 25) ?_; intro ab hg eo hbox hb; have ae := am hbox; have aM := gwl hg; have a4 := aM; replace aa := rbw aa hb; replace ac := am (Kd.N_below (Kd.N_elderB (pkn ac.1) ab (Nat.le_of_eq hg.symm)) hb); replace HB := bsl hb; clear hb hbox hg; have d9 := cf3 ae.1) | ((with_reducible refine qBO (f := 14) rfl ?_); refine gC 14 Try.func14 _ (qAX.calls k (⟨#[110]⟩ : ByteArray) _ _ al _ _ ax 10 ao true aW _ ?side1 ?side2 ?side3 ?side4 A1.1) ?_; (case side1 => refine (Kd.qBR (e := 64) (base := w.heap.size) (ok := fun k_ => True) (n := al.length) (c := bz) ?_).2.2; exact (by (with_reducible repeat (first | apply Kd.R_alloc | apply Kd.R_drewN | apply Kd.R_drew)); exact (Kd.R_mono (fR3 ab (Kd.qCI aa.1 ae.1 (by decide)) (fun _ hk => hk.2)) (fun _ h_ => h_.1)))); (case side2 => exact (Kd.qBR aa.1).2.1); (case side3 => refine (Kd.qBS (e := 38) (base := w.heap.size) (ok := fun k_ => (some k_ ≠ (.slice b5 al.length bz : Value).ownBlock ∧ k_ ≠ ab)) (n := ax.length) (c := cb) ?_).2.2; exact (by (with_reducible repeat (first | apply Kd.N_alloc | apply Kd.N_drewN | apply Kd.N_drew)); exact (fN3 ab ac.1 (fun k_ hk => hk.2)))); (case side4 => exact (Kd.qBS ac.1).2.1); rintro e ep ⟨br, rfl, aV, hb⟩; refine ⟨_, rfl, ?_⟩; have af := am (Kd.N_lower (Kd.N_mono (ok' := fun k_ => some k_ ≠ (.slice b5 al.length bz : Value).ownBlock ∧ some k_ ≠ (.slice cp ax.length cb : Value).ownBlock ∧ k_ ≠ ab) aV (fun k_ hk_ => ⟨(Kd.fresh' (Kd.R_lt (by (with_reducible repeat (first | apply Kd.R_alloc | apply Kd.R_drewN | apply Kd.R_drew)); exact (Kd.R_mono (fR3 ab (Kd.qCI aa.1 ae.1 (by decide)) (fun _ hk => hk.2)) (fun _ h_ => h_.1)))) k_ hk_), (Kd.fresh' (Kd.N_lt (by (with_reducible repeat (first | apply Kd.N_alloc | apply Kd.N_drewN | apply Kd.N_drew)); exact (fN3 ab ac.1 (fun k_ hk => hk.2)))) k_ hk_), (Kd.freshB (g := ab) (o := .cells #[.string (⟨#[110]⟩ : ByteArray), .slice b5 al.length bz, .slice cp ax.length cb] 25 (0, 0)) (by (with_reducible repeat (first | refine qBK ?_ _ | refine qBM ?_ | refine qBL ?_ _)); exact bp3 (pbk ae.1)) k_ hk_)⟩)) (qBJ pbg)); replace aa := am (Kd.R_below (by (with_reducible repeat (first | apply Kd.R_alloc | apply Kd.R_drewN | apply Kd.R_drew)); exact (Kd.R_mono (fR3 ab (Kd.qCI aa.1 ae.1 (by decide)) (fun _ hk => hk.2)) (fun _ h_ => h_.1))) hb); replace ac := am (Kd.qBX (by (with_reducible repeat (first | apply Kd.N_alloc | apply Kd.N_drewN | apply Kd.N_drew)); exact (fN3 ab ac.1 (fun k_ hk => hk.2))) (Kd.N_base aV) hb); replace ae := am (qCF (g := ab) (o := .cells #[.string (⟨#[110]⟩ : ByteArray), .slice b5 al.length bz, .slice cp ax.length cb] 25 (0, 0)) (by (with_reducible repeat (first | refine qBK ?_ _ | refine qBM ?_ | refine qBL ?_ _)); exact bp3 (pbk ae.1)) hb); replace HB := bst hb; (try clear hb); (try clear hk); (try clear aV); obtain ⟨dE, dP, de⟩ := Kd.N_slice af.1; subst de; have aO : 0 ≤ (0 : Int) := (by omega); have aP : 0 < (ao.length : Int) := dq; obtain ⟨a5, bg, bh, bi, ak, aD, aC⟩ := at_L11 (Kd.qBS af.1).2.2 0 aO aP; cases bi; obtain ⟨bw, aS, aR, aF⟩ := Kd.N_get af.1 [] 0 aO (by first | exact aP | exact dq | (have e_ := (Kd.qBS af.1).1; omega)); obtain ⟨a9, ba, rfl, ar, aq⟩ := Kd.qBV aR; have ai := aF 0 _ rfl; rw [Nat.add_zero, show ((Kd.slice 3 (Kd.int .i64))).sz = 1 from rfl, Nat.mul_one] at ai; replace ai := Option.some.inj (ai.symm.trans ak); injection ai with hva_ hvn_ hvc_; rw [hva_] at aq; rw [hvc_] at ar; have ay := am (show Kd.V (Kd.int .i64) 3 _ w.heap.size _ _ (rd_L11 ao 0) from Kd.V_mk ar aq); clear hva_ hvn_ hvc_ aq ar; clear aF aS; have b3 : (0 < ao.length) = True := eq_true (by omega); (try rw [show ((0 : Int)).toNat = 0 from rfl] at ak); (try rw [Addr.add_zero'] at ak); have az := am aC; have a6 := am aD; clear aC aD; replace aO := eq_true aO; replace aP := eq_true aP; have aT : 0 ≤ (0 : Int) := (by omega); have aU : 0 < (ao.length : Int) := dq; obtain ⟨bb, bs, bv, bE, aw, aK, aJ⟩ := at_L11 (Kd.qBS af.1).2.2 0 aT aU; obtain rfl : a5 = bb := (by injection bE); obtain ⟨cj, aY, aX, aQ⟩ := Kd.N_get af.1 [] 0 aT (by first | exact aU | exact dq | (have e_ := (Kd.qBS af.1).1; omega)); obtain ⟨bn, bo, rfl, aE, aB⟩ := Kd.qBV aX; have av := aQ 0 _ rfl; rw [Nat.add_zero, show ((Kd.slice 3 (Kd.int .i64))).sz = 1 from rfl, Nat.mul_one] at av; replace av := Option.some.inj (av.symm.trans aw); injection av with hva_ hvn_ hvc_; rw [hva_] at aB; rw [hvc_] at aE; have aA := am (show Kd.V (Kd.int .i64) 3 _ w.heap.size _ _ (rd_L11 ao 0) from Kd.V_mk aE aB); clear hva_ hvn_ hvc_ aB aE; clear aQ aY; have cm : (0 < ao.length) = True := eq_true (by omega); (try rw [show ((0 : Int)).toNat = 0 from rfl] at aw); (try rw [Addr.add_zero'] at aw); have aj := am aJ; have bk := am aK; clear aJ aK; replace aT := eq_true aT; replace aU := eq_true aU; have ea_ := Option.some.inj (ak.symm.trans aw); injection ea_ with ea_ en_ ec_; subst ea_; subst ec_; clear en_; have aZ : 0 ≤ (0 : Int) := (by omega); have a1 : 0 < ((rd_L11 ao 0).length : Int) := dq; obtain ⟨ci, bF, aL⟩ := Kd.at_int (by repeat (first | (with_reducible exact aj.1) | (with_reducible refine Kd.C_alloc ?_ _) | (with_reducible refine Kd.C_drewN ?_ _) | (with_reducible refine Kd.C_drew ?_) | exact aj.1)) 0 aZ a1; cases bF; have cn : (0 < (rd_L11 ao 0).length) = True := eq_true (by omega); (try rw [show ((0 : Int)).toNat = 0 from rfl] at aL); (try rw [Addr.add_zero'] at aL); replace aZ := eq_true aZ; replace a1 := eq_true a1) | ((with_reducible refine qBN (N := 45) rfl ?_); (try (refine qBP (by rfl) ?_; dsimp only)); refine Kd.R_lit (Kd.int .i64) _ 3 ?hg (N := 45) ?hd (xs := ([1000] : List Int)) (inner := [.int .i64 1000]) (ok := fun _ => True) (okp := fun _ => True) ?hr ?hp (fun _ hk => hk) trivial (Below.refl _ _) (Nat.le_refl _) (by simp) ?_; (case hd => rfl); (case hg => rfl); (case hr => first | (go_simp; done) | (go_simp; rfl)); (case hp => exact (Reps.one (show Kd.M (Kd.int .i64) _ _ _ 1000 [.int .i64 1000] from rfl) (Reps.none _ _))); intro dy eq a8 hb hg_ hnew_; clear hg_ hnew_; (first | rw [← bl.1] at a8 | (simp only [Int.reduceToNat] at a8; rw [← bl.1] at a8)); have aN := am (Kd.qCH a8 (qBJ pbg)); replace aa := rbw aa hb; replace ac := am (Kd.qBX (pkn ac.1) (Kd.R_base a8) hb); replace af := am (Kd.qBX (pkn af.1) (Kd.R_base a8) hb); replace ay := am (Kd.qBY (pkv ay.1) (Kd.R_base a8) hb); replace aA := am (Kd.qBY (pkv aA.1) (Kd.R_base a8) hb); replace ae := bbh ae hb; replace az := cbb az hb; replace aj := cbb aj hb; replace HB := bst hb; clear hb a8; obtain ⟨dF, dQ, df⟩ := Kd.R_slice aN.1; subst df) | (go_at_call 17; (with_reducible refine (qAU.calls k _ _ ao _ _ cw false _ ?side1 ?side2 ?side3 ?side4 A9.1).mono ?_); (case side1 => exact csd ((Kd.qBS af.1).2.2)); (case side2 => exact (Kd.qBS af.1).2.1); (case side3 => exact csd ((Kd.qBR aN.1).2.2)); (case side4 => exact (Kd.qBR aN.1).2.1); rintro e er ⟨rfl, hb⟩; replace aa := rbw aa hb; replace ac := nbw ac hb; replace af := nbw af hb; replace ay := vbw ay hb; replace aA := vbw aA hb; replace aN := rbw aN hb; replace ae := bbh ae hb; replace az := cbb az hb; replace aj := cbb aj hb; replace HB := bst hb; (try clear hb)))
  go_ret
  exact ⟨per, pbg⟩
 rw [if_pos rfl] at H
 replace H := bnd H
 obtain ⟨a3, A11, H⟩ := H
 (try dsimp only at H)
 obtain rfl := Option.some.inj H
 go_enter Try.func13, Try.ntmps13
 go_wp2_with (first | ((with_reducible refine qBN (N := 6) rfl ?_); (try (refine qBP (by rfl) ?_; dsimp only)); refine Kd.R_lit k64 _ 64 ?hg (N := 6) ?hd (xs := ([(⟨(⟨#[112]⟩ : ByteArray), 0, 0⟩ : S64)] : List (S64))) (inner := [.string (⟨#[112]⟩ : ByteArray), .int .i64 0, .int .i64 0]) (ok := fun _ => True) (okp := fun _ => True) ?hr ?hp (fun _ hk => hk) trivial (Below.refl _ _) (Nat.le_refl _) (by simp) ?_; (case hd => rfl); (case hg => rfl); (case hr => first | (go_simp; done) | (go_simp; rfl)); (case hp => exact (Reps.c3 (show Kd.M k64 _ _ _ (⟨(⟨#[112]⟩ : ByteArray), 0, 0⟩ : S64) [.string (⟨#[112]⟩ : ByteArray), .int .i64 0, .int .i64 0] from (k64_mkM _ _ _ (⟨(⟨#[112]⟩ : ByteArray), 0, 0⟩ : S64) )) (Reps.none _ _))); intro ap ef bG hb hg_ hnew_; clear hg_ hnew_; (first | rw [← aG.1] at bG | (simp only [Int.reduceToNat] at bG; rw [← aG.1] at bG)); have aa := am (Kd.qCH bG (qBJ pbl)); replace HB := bsl hb; clear hb bG) | ((with_reducible refine qBN (N := 8) rfl ?_); (try (refine qBP (by rfl) ?_; dsimp only)); refine Kd.R_lit k68 _ 68 ?hg (N := 8) ?hd (xs := ([(⟨0, 1⟩ : S68)] : List (S68))) (inner := [.int .i64 0, .int .i64 1]) (ok := fun _ => True) (okp := fun _ => True) ?hr ?hp (fun _ hk => hk) trivial (Below.refl _ _) (Nat.le_refl _) (by simp) ?_; (case hd => rfl); (case hg => rfl); (case hr => first | (go_simp; done) | (go_simp; rfl)); (case hp => exact (Reps.c2 (show Kd.M k68 _ _ _ (⟨0, 1⟩ : S68) [.int .i64 0, .int .i64 1] from (k68_mkM _ _ _ (⟨0, 1⟩ : S68) )) (Reps.none _ _))); intro bp d2 bH hb hg_ hnew_; clear hg_ hnew_; (first | rw [← aH.1] at bH | (simp only [Int.reduceToNat] at bH; rw [← aH.1] at bH)); have ah := am (Kd.qCH bH (qBJ pbl)); replace aa := rbw aa hb; replace HB := bsl hb; clear hb bH; obtain ⟨cx, cD, cV⟩ := Kd.R_slice ah.1; subst cV) | ((with_reducible refine qBN (N := 10) rfl ?_); (try (refine qBP (by rfl) ?_; dsimp only)); refine Kd.N_lit k38 _ 38 ?hg (N' := 10) ?hd (xs := ([(⟨(⟨#[116]⟩ : ByteArray), ([] : List (S68)), au, ([] : List (S68)), 0⟩ : S38)] : List (S38))) (inner := [.string (⟨#[116]⟩ : ByteArray), .slice none 0 0, .slice cx au.length cD, .slice none 0 0, .int .i64 0]) (ok := (fun k_ => some k_ ≠ (ap : Value).ownBlock)) (okp := (fun k_ => some k_ ≠ (ap : Value).ownBlock)) ?hr ?hp (fun _ hk => hk) ((show ∀ k_, d2.heap.size ≤ k_ → (fun k_ => some k_ ≠ (ap : Value).ownBlock) k_ from fun k_ hk => Kd.fresh' (Kd.R_lt (pkr aa.1)) k_ hk) _ (Nat.le_refl _)) (Below.refl _ _) (Nat.le_refl _) (by simp) ?_; (case hd => rfl); (case hg => rfl); (case hr => first | (go_simp; done) | (go_simp; rfl)); (case hp => exact (Reps.c5 (show Kd.FK k38 _ _ (⟨(⟨#[116]⟩ : ByteArray), ([] : List (S68)), au, ([] : List (S68)), 0⟩ : S38) [.string (⟨#[116]⟩ : ByteArray), .slice none 0 0, .slice cx au.length cD, .slice none 0 0, .int .i64 0] from (k38_mkF _ _ (⟨(⟨#[116]⟩ : ByteArray), ([] : List (S68)), au, ([] : List (S68)), 0⟩ : S38) (Nat.le_refl _) (Kd.F_nil _ _ _) (Kd.qBR (Kd.R_mono (ok' := (fun k_ => some k_ ≠ (ap : Value).ownBlock)) (Kd.qCO (ah.1) (Kd.R_typed aa.1) (by decide)) (fun k_ hk => hk.2))).2.1 (Kd.R_F (Kd.R_mono (ok' := (fun k_ => some k_ ≠ (ap : Value).ownBlock)) (Kd.qCO (ah.1) (Kd.R_typed aa.1) (by decide)) (fun k_ hk => hk.2))) (Nat.le_refl _) (Kd.F_nil _ _ _))) (Reps.none _ _))); intro bq eg bI hb hg_ hnew_; clear hg_ hnew_; (first | rw [← aI.1] at bI | (simp only [Int.reduceToNat] at bI; rw [← aI.1] at bI)); have ac := am (Kd.N_lower bI (qBJ pbl)); replace aa := rbw aa hb; replace HB := bsl hb; clear ah; clear hb bI; obtain ⟨co, ca, cW⟩ := Kd.N_slice ac.1; subst cW; obtain ⟨b4, bx, cX⟩ := Kd.R_slice aa.1; subst cX) | ((with_reducible refine qBN (N := 1) rfl ?_); (try (refine qBP (by rfl) ?_; dsimp only)); refine box_ev (N := 1) (cs := #[.string (⟨#[]⟩ : ByteArray), .slice none 0 0, .slice none 0 0]) (t := 25) ?_; intro ab hg eh hbox hb; have ae := am hbox; have aM := gwl hg; have a4 := aM; replace aa := rbw aa hb; replace ac := am (Kd.N_below (Kd.N_elderB (pkn ac.1) ab (Nat.le_of_eq hg.symm)) hb); replace HB := bsl hb; clear hb hbox hg; have d8 := cf3 ae.1) | ((with_reducible refine qBO (f := 14) rfl ?_); refine gC 14 Try.func14 _ (qAX.calls k (⟨#[110]⟩ : ByteArray) _ _ al _ _ ax 10 ao true aW _ ?side1 ?side2 ?side3 ?side4 A1.1) ?_; (case side1 => refine (Kd.qBR (e := 64) (base := w.heap.size) (ok := fun k_ => True) (n := al.length) (c := bx) ?_).2.2; exact (by (with_reducible repeat (first | apply Kd.R_alloc | apply Kd.R_drewN | apply Kd.R_drew)); exact (Kd.R_mono (fR3 ab (Kd.qCI aa.1 ae.1 (by decide)) (fun _ hk => hk.2)) (fun _ h_ => h_.1)))); (case side2 => exact (Kd.qBR aa.1).2.1); (case side3 => refine (Kd.qBS (e := 38) (base := w.heap.size) (ok := fun k_ => (some k_ ≠ (.slice b4 al.length bx : Value).ownBlock ∧ k_ ≠ ab)) (n := ax.length) (c := ca) ?_).2.2; exact (by (with_reducible repeat (first | apply Kd.N_alloc | apply Kd.N_drewN | apply Kd.N_drew)); exact (fN3 ab ac.1 (fun k_ hk => hk.2)))); (case side4 => exact (Kd.qBS ac.1).2.1); rintro e ei ⟨br, rfl, aV, hb⟩; refine ⟨_, rfl, ?_⟩; have af := am (Kd.N_lower (Kd.N_mono (ok' := fun k_ => some k_ ≠ (.slice b4 al.length bx : Value).ownBlock ∧ some k_ ≠ (.slice co ax.length ca : Value).ownBlock ∧ k_ ≠ ab) aV (fun k_ hk_ => ⟨(Kd.fresh' (Kd.R_lt (by (with_reducible repeat (first | apply Kd.R_alloc | apply Kd.R_drewN | apply Kd.R_drew)); exact (Kd.R_mono (fR3 ab (Kd.qCI aa.1 ae.1 (by decide)) (fun _ hk => hk.2)) (fun _ h_ => h_.1)))) k_ hk_), (Kd.fresh' (Kd.N_lt (by (with_reducible repeat (first | apply Kd.N_alloc | apply Kd.N_drewN | apply Kd.N_drew)); exact (fN3 ab ac.1 (fun k_ hk => hk.2)))) k_ hk_), (Kd.freshB (g := ab) (o := .cells #[.string (⟨#[110]⟩ : ByteArray), .slice b4 al.length bx, .slice co ax.length ca] 25 (0, 0)) (by (with_reducible repeat (first | refine qBK ?_ _ | refine qBM ?_ | refine qBL ?_ _)); exact bp3 (pbk ae.1)) k_ hk_)⟩)) (qBJ pbg)); replace aa := am (Kd.R_below (by (with_reducible repeat (first | apply Kd.R_alloc | apply Kd.R_drewN | apply Kd.R_drew)); exact (Kd.R_mono (fR3 ab (Kd.qCI aa.1 ae.1 (by decide)) (fun _ hk => hk.2)) (fun _ h_ => h_.1))) hb); replace ac := am (Kd.qBX (by (with_reducible repeat (first | apply Kd.N_alloc | apply Kd.N_drewN | apply Kd.N_drew)); exact (fN3 ab ac.1 (fun k_ hk => hk.2))) (Kd.N_base aV) hb); replace ae := am (qCF (g := ab) (o := .cells #[.string (⟨#[110]⟩ : ByteArray), .slice b4 al.length bx, .slice co ax.length ca] 25 (0, 0)) (by (with_reducible repeat (first | refine qBK ?_ _ | refine qBM ?_ | refine qBL ?_ _)); exact bp3 (pbk ae.1)) hb); replace HB := bst hb; (try clear hb); (try clear hk); (try clear aV); obtain ⟨dC, dN, cY⟩ := Kd.N_slice af.1; subst cY; have aO : 0 ≤ (0 : Int) := (by omega); have aP : 0 < (ao.length : Int) := dq; obtain ⟨a5, bg, bh, bi, ak, aD, aC⟩ := at_L11 (Kd.qBS af.1).2.2 0 aO aP; cases bi; obtain ⟨bw, aS, aR, aF⟩ := Kd.N_get af.1 [] 0 aO (by first | exact aP | exact dq | (have e_ := (Kd.qBS af.1).1; omega)); obtain ⟨a9, ba, rfl, ar, aq⟩ := Kd.qBV aR; have ai := aF 0 _ rfl; rw [Nat.add_zero, show ((Kd.slice 3 (Kd.int .i64))).sz = 1 from rfl, Nat.mul_one] at ai; replace ai := Option.some.inj (ai.symm.trans ak); injection ai with hva_ hvn_ hvc_; rw [hva_] at aq; rw [hvc_] at ar; have ay := am (show Kd.V (Kd.int .i64) 3 _ w.heap.size _ _ (rd_L11 ao 0) from Kd.V_mk ar aq); clear hva_ hvn_ hvc_ aq ar; clear aF aS; have b3 : (0 < ao.length) = True := eq_true (by omega); (try rw [show ((0 : Int)).toNat = 0 from rfl] at ak); (try rw [Addr.add_zero'] at ak); have az := am aC; have a6 := am aD; clear aC aD; replace aO := eq_true aO; replace aP := eq_true aP; have aT : 0 ≤ (0 : Int) := (by omega); have aU : 0 < (ao.length : Int) := dq; obtain ⟨bb, bs, bv, bE, aw, aK, aJ⟩ := at_L11 (Kd.qBS af.1).2.2 0 aT aU; obtain rfl : a5 = bb := (by injection bE); obtain ⟨cj, aY, aX, aQ⟩ := Kd.N_get af.1 [] 0 aT (by first | exact aU | exact dq | (have e_ := (Kd.qBS af.1).1; omega)); obtain ⟨bn, bo, rfl, aE, aB⟩ := Kd.qBV aX; have av := aQ 0 _ rfl; rw [Nat.add_zero, show ((Kd.slice 3 (Kd.int .i64))).sz = 1 from rfl, Nat.mul_one] at av; replace av := Option.some.inj (av.symm.trans aw); injection av with hva_ hvn_ hvc_; rw [hva_] at aB; rw [hvc_] at aE; have aA := am (show Kd.V (Kd.int .i64) 3 _ w.heap.size _ _ (rd_L11 ao 0) from Kd.V_mk aE aB); clear hva_ hvn_ hvc_ aB aE; clear aQ aY; have cm : (0 < ao.length) = True := eq_true (by omega); (try rw [show ((0 : Int)).toNat = 0 from rfl] at aw); (try rw [Addr.add_zero'] at aw); have aj := am aJ; have bk := am aK; clear aJ aK; replace aT := eq_true aT; replace aU := eq_true aU; have ea_ := Option.some.inj (ak.symm.trans aw); injection ea_ with ea_ en_ ec_; subst ea_; subst ec_; clear en_; have aZ : 0 ≤ (0 : Int) := (by omega); have a1 : 0 < ((rd_L11 ao 0).length : Int) := dq; obtain ⟨ci, bF, aL⟩ := Kd.at_int (by repeat (first | (with_reducible exact aj.1) | (with_reducible refine Kd.C_alloc ?_ _) | (with_reducible refine Kd.C_drewN ?_ _) | (with_reducible refine Kd.C_drew ?_) | exact aj.1)) 0 aZ a1; cases bF; have cn : (0 < (rd_L11 ao 0).length) = True := eq_true (by omega); (try rw [show ((0 : Int)).toNat = 0 from rfl] at aL); (try rw [Addr.add_zero'] at aL); replace aZ := eq_true aZ; replace a1 := eq_true a1) | ((with_reducible refine qBN (N := 45) rfl ?_); (try (refine qBP (by rfl) ?_; dsimp only)); refine Kd.R_lit (Kd.int .i64) _ 3 ?hg (N := 45) ?hd (xs := ([1000] : List Int)) (inner := [.int .i64 1000]) (ok := fun _ => True) (okp := fun _ => True) ?hr ?hp (fun _ hk => hk) trivial (Below.refl _ _) (Nat.le_refl _) (by simp) ?_; (case hd => rfl); (case hg => rfl); (case hr => first | (go_simp; done) | (go_simp; rfl)); (case hp => exact (Reps.one (show Kd.M (Kd.int .i64) _ _ _ 1000 [.int .i64 1000] from rfl) (Reps.none _ _))); intro dy ej a7 hb hg_ hnew_; clear hg_ hnew_; (first | rw [← bl.1] at a7 | (simp only [Int.reduceToNat] at a7; rw [← bl.1] at a7)); have aN := am (Kd.qCH a7 (qBJ pbg)); replace aa := rbw aa hb; replace ac := am (Kd.qBX (pkn ac.1) (Kd.R_base a7) hb); replace af := am (Kd.qBX (pkn af.1) (Kd.R_base a7) hb); replace ay := am (Kd.qBY (pkv ay.1) (Kd.R_base a7) hb); replace aA := am (Kd.qBY (pkv aA.1) (Kd.R_base a7) hb); replace ae := bbh ae hb; replace az := cbb az hb; replace aj := cbb aj hb; replace HB := bst hb; clear hb a7; obtain ⟨dD, dO, cZ⟩ := Kd.R_slice aN.1; subst cZ) | (go_at_call 17; (with_reducible refine (qAU.calls k _ _ ao _ _ cw true _ ?side1 ?side2 ?side3 ?side4 A9.1).mono ?_); (case side1 => exact csd ((Kd.qBS af.1).2.2)); (case side2 => exact (Kd.qBS af.1).2.1); (case side3 => exact csd ((Kd.qBR aN.1).2.2)); (case side4 => exact (Kd.qBR aN.1).2.1); rintro e ek ⟨rfl, hb⟩; replace aa := rbw aa hb; replace ac := nbw ac hb; replace af := nbw af hb; replace ay := vbw ay hb; replace aA := vbw aA hb; replace aN := rbw aN hb; replace ae := bbh ae hb; replace az := cbb az hb; replace aj := cbb aj hb; replace HB := bst hb; (try clear hb)) | (go_at_call 22; (with_reducible refine (qAW.calls k _ _ ao a3 _ ?side1 ?side2 A11.1).mono ?_); (case side1 => exact csd ((Kd.qBS af.1).2.2)); (case side2 => exact (Kd.qBS af.1).2.1); rintro e el ⟨rfl, hb⟩; replace aa := rbw aa hb; replace ac := nbw ac hb; replace af := nbw af hb; replace ay := vbw ay hb; replace aA := vbw aA hb; replace aN := rbw aN hb; replace ae := bbh ae hb; replace az := cbb az hb; replace aj := cbb aj hb; replace HB := bst hb; (try clear hb)))
 go_ret
 exact ⟨per, pbg⟩

end Go.Proofs.Ytaoogghpadifiaa.P
