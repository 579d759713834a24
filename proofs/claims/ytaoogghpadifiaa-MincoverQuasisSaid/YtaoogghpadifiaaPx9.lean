-- LAID BY OUR PROGRAM OVER THE PRINT (xprint.py, part.py): Lean checks it.
import Derived.Test.YtaoogghpadifiaaPx0
namespace Go.Proofs.Ytaoogghpadifiaa.P
open Go.RowKit Go.Proofs.YtaoogghpadifiaaW.PrintWords Go.Proofs.YtaoogghpadifiaaW.PrintLast Go.Proofs.YtaoogghpadifiaaW.PrintMore
attribute [local go_sem] max2_int min2_int max_two min_two max_three min_three max_four min_four   -- for this text's walks alone
set_option linter.unusedVariables false
set_option linter.unusedSimpArgs false

/-! ### r05_Valid: function 81 -/
def r05_Valid.l0 : Nat → List Int → Int → Option (Bool)
 | 0, _, _ => none
 | k + 1, x0, x5 => if x5 < (x0.length : Int) then (if 0 ≤ x5 then (if (rd x0 x5) = (-1) then (r05_Valid.l0 k x0 (wrap64 (x5 + 1))) else (if (rd x0 x5) < 0 then (some false) else (if (rd x0 x5) > 1048576 then (some false) else (r05_Valid.l0 k x0 (wrap64 (x5 + 1)))))) else (none)) else (some true)
def r05_Valid.f (k : Nat) (l0 : List Int) (a1 : Int) : Option (Bool) := if (l0.length : Int) = a1 then (r05_Valid.l0 k l0 0) else (some false)
theorem r05_Valid.mono_l : ∀ k, M2 r05_Valid.l0 k
 | 0 => fun _ _ r h => by simp [r05_Valid.l0] at h
 | k + 1 => by
  have aC := r05_Valid.mono_l k
  ·intro y0 y1
   unfold r05_Valid.l0
   repeat' first | (with_reducible first | apply aC | apply lr | apply ln | apply li | refine lb ?_ fun _ => ?_)
theorem r05_Valid.mono : ∀ a0 a1 k, LeO (r05_Valid.f k a0 a1) (r05_Valid.f (k + 1) a0 a1) := by
 intro a0 a1 k
 have aC := r05_Valid.mono_l k
 unfold r05_Valid.f
 repeat' first | (with_reducible first | apply aC | apply lr | apply ln | apply li | refine lb ?_ fun _ => ?_)
set_option maxHeartbeats 8000000 in
set_option maxRecDepth 100000 in
theorem r05_Valid.calls (k : Nat) (A0 : Option Addr) (c0 : Nat) (l0 : List Int) (a1 : Int) (r : Bool) (w : World) (aF : Kd.C (Kd.int .i64) w A0 l0.length l0) (hc0 : l0.length ≤ c0) (h : r05_Valid.f k l0 a1 = some r) :
  Calls Try.prog 81 #[.slice A0 l0.length c0, .int .i64 a1] w fun e w' => e = .returned (.bool r) ∧ Drawn0 w w' := by
 have aj := am aF
 have aH := am hc0
 clear aF hc0
 have H := h
 unfold r05_Valid.f at H
 clear h
 replace H := ife H
 rcases H with ⟨aq, ar, H⟩ | ⟨aq, ar, H⟩
 rotate_left
 ·obtain rfl := Option.some.inj H
  go_enter Try.func81, Try.ntmps81
  go_wp2
  go_ret
  exact ⟨prs, pdr⟩
 have H' := am H
 clear H
 go_enter Try.func81, Try.ntmps81
 go_wp2
 go_loopg [5] k (fun kq v5 w' => ∃ (aa : Int), v5 = .int .i64 aa ∧ Aside0 (r05_Valid.l0 kq l0 aa = some r) ∧ Aside0 (kq ≤ k) ∧ Drawn0 w w')
 case atStart => exact ⟨(0), prs, H', ⟨Nat.le_refl _⟩, pdr⟩
 clear H'
 try clear aq ar
 obtain ⟨aa, rfl, HA, aw, ⟨m1, rfl⟩⟩ := hrel
 obtain _ | k1 := gk
 ·exact absurd HA.1 (by simp [r05_Valid.l0])
 have H := HA.1
 clear HA
 simp only [r05_Valid.l0] at H
 replace H := ifl H
 rcases H with ⟨ax, H⟩ | ⟨ax, H⟩
 rotate_left
 ·obtain rfl := Option.some.inj H
  go_wp2
  go_ret
  exact ⟨prs, pdr⟩
 replace H := ifp H
 obtain ⟨c5, H⟩ := H
 have aG := decide_eq_true c5
 clear c5
 replace H := ife H
 rcases H with ⟨ay, az, H⟩ | ⟨ay, az, H⟩
 ·have H' := am H
  clear H
  obtain ⟨ao, ap, ab, af, ac⟩ := dint aj.1 aa
  cases af
  go_wp2
  go_roundg k1
  case measure => have := aw.1; omega
  case rel => exact ⟨(wrap64 (aa + 1)), prs, H', ⟨by have := aw.1; omega⟩, pdr⟩
 replace H := ifl H
 rcases H with ⟨aA, H⟩ | ⟨aA, H⟩
 ·obtain rfl := Option.some.inj H
  obtain ⟨ao, ap, ab, af, ac⟩ := dint aj.1 aa
  cases af
  obtain ⟨au, av, ae, ai, ag⟩ := dint aj.1 aa
  obtain rfl : ab = ae := (by injection ai)
  go_wp2
  go_ret
  exact ⟨prs, pdr⟩
 replace H := ifg H
 rcases H with ⟨aB, H⟩ | ⟨aB, H⟩
 ·obtain rfl := Option.some.inj H
  obtain ⟨ao, ap, ab, af, ac⟩ := dint aj.1 aa
  cases af
  obtain ⟨au, av, ae, ai, ag⟩ := dint aj.1 aa
  obtain rfl : ab = ae := (by injection ai)
  obtain ⟨aD, aE, ah, al, ak⟩ := dint aj.1 aa
  obtain rfl : ab = ah := (by injection al)
  go_wp2
  go_ret
  exact ⟨prs, pdr⟩
 have H' := am H
 clear H
 obtain ⟨ao, ap, ab, af, ac⟩ := dint aj.1 aa
 cases af
 obtain ⟨au, av, ae, ai, ag⟩ := dint aj.1 aa
 obtain rfl : ab = ae := (by injection ai)
 obtain ⟨aD, aE, ah, al, ak⟩ := dint aj.1 aa
 obtain rfl : ab = ah := (by injection al)
 go_wp2
 go_roundg k1
 case measure => have := aw.1; omega
 case rel => exact ⟨(wrap64 (aa + 1)), prs, H', ⟨by have := aw.1; omega⟩, pdr⟩

/-! ### r05_Considered: function 41 -/
def r05_Considered.l0 : Nat → List (List Int) → List (List Int) → Int → Option ((List (List Int)))
 | 0, _, _, _ => none
 | k + 1, x0, x3, x4 => if x4 < (x0.length : Int) then (if 0 ≤ x4 then ((r05_Valid.f k (rd_L11 x0 x4) ((rd_L11 x0 x4).length : Int)).bind fun cF => (if cF = true then (if (x3.length : Int) = 0 then (if x3.length < 5864062014805 then (r05_Considered.l0 k x0 (x3 ++ [rd_L11 x0 x4]) (wrap64 (x4 + 1))) else (none)) else (if 0 < (x3.length : Int) then (if ((rd_L11 x0 x4).length : Int) = ((rd_L11 x3 0).length : Int) then (if x3.length < 5864062014805 then (r05_Considered.l0 k x0 (x3 ++ [rd_L11 x0 x4]) (wrap64 (x4 + 1))) else (none)) else (r05_Considered.l0 k x0 x3 (wrap64 (x4 + 1)))) else (none))) else (r05_Considered.l0 k x0 x3 (wrap64 (x4 + 1))))) else (none)) else (some x3)
def r05_Considered.f (k : Nat) (l0 : List (List Int)) : Option ((List (List Int))) := r05_Considered.l0 k l0 ([] : List (List Int)) 0
theorem r05_Considered.mono_l : ∀ k, M3 r05_Considered.l0 k
 | 0 => fun _ _ _ r h => by simp [r05_Considered.l0] at h
 | k + 1 => by
  have dc := r05_Considered.mono_l k
  ·intro y0 y1 y2
   unfold r05_Considered.l0
   repeat' first | (with_reducible first | apply dc | apply r05_Valid.mono | apply lr | apply ln | apply li | refine lb ?_ fun _ => ?_)
theorem r05_Considered.mono : ∀ a0 k, LeO (r05_Considered.f k a0) (r05_Considered.f (k + 1) a0) := by
 intro a0 k
 have dc := r05_Considered.mono_l k
 unfold r05_Considered.f
 repeat' first | (with_reducible first | apply dc | apply r05_Valid.mono | apply lr | apply ln | apply li | refine lb ?_ fun _ => ?_)
set_option maxHeartbeats 8000000 in
set_option maxRecDepth 100000 in
theorem r05_Considered.calls (k : Nat) (P0_ : Nat → Prop) (A0 : Option Addr) (c0 : Nat) (l0 : List (List Int)) (r : List (List Int)) (w : World) (hs0 : Kd.V (Kd.slice 3 (Kd.int .i64)) 39 w w.heap.size (fun k_ => P0_ k_) (.slice A0 l0.length c0) l0) (h : r05_Considered.f k l0 = some r) :
  Calls Try.prog 41 #[.slice A0 l0.length c0] w fun e w' => ∃ v0_ : Value, e = .returned (v0_) ∧ Kd.N (Kd.slice 3 (Kd.int .i64)) 39 w' w.heap.size (fun k_ => (P0_ k_ ∨ w.heap.size ≤ k_)) v0_ r ∧ Below w.heap.size w w' := by
 have dh := am (show Kd.V (Kd.slice 3 (Kd.int .i64)) 39 w w.heap.size (fun k_ => (P0_ k_ ∨ w.heap.size ≤ k_)) (.slice A0 l0.length c0) l0 from Kd.V_mono hs0 (fun k_ hk => .inl hk))
 have HB := am (Below.refl w.heap.size w)
 have H := h
 unfold r05_Considered.f at H
 clear h
 have H' := am H
 clear H
 go_enter Try.func41, Try.ntmps41
 go_wp2
 repeat (go_quiet (fail); try go_wp2)
 go_loopg [3, 4] k (fun kq v3 v4 w' => ∃ (aj : List (List Int)) (aa : Int), v4 = .int .i64 aa ∧ Aside0 (r05_Considered.l0 kq l0 aj aa = some r) ∧ Aside0 (kq ≤ k) ∧ Aside0 (Kd.V (Kd.slice 3 (Kd.int .i64)) 39 w' w.heap.size (fun k_ => (P0_ k_ ∨ w.heap.size ≤ k_) ∧ some k_ ≠ (v3 : Value).ownBlock) (.slice A0 l0.length c0) l0) ∧ Aside0 (Kd.N (Kd.slice 3 (Kd.int .i64)) 39 w' w.heap.size (fun k_ => (P0_ k_ ∨ w.heap.size ≤ k_)) v3 aj) ∧ Aside0 (Below w.heap.size w w'))
 case atStart => exact ⟨(([] : List (List Int))), (0), prs, H', ⟨Nat.le_refl _⟩, ⟨by (with_reducible repeat (first | apply Kd.V_alloc | apply Kd.V_drewN | apply Kd.V_drew)); exact Kd.V_mono dh.1 (fun _ hk => ⟨hk, (by simp [Value.ownBlock])⟩)⟩, ⟨knl⟩, ⟨pbg⟩⟩
 clear H'
 obtain ⟨aj, aa, rfl, HA, cw, ab, aK, HB⟩ := hrel
 obtain _ | k1 := gk
 ·exact absurd HA.1 (by simp [r05_Considered.l0])
 have H := HA.1
 clear HA
 simp only [r05_Considered.l0] at H
 replace H := ifl H
 rcases H with ⟨cX, H⟩ | ⟨cX, H⟩
 rotate_left
 ·obtain rfl := Option.some.inj H
  go_wp2
  repeat (go_quiet (fail); try go_wp2)
  go_ret
  exact ⟨_, per, by (with_reducible repeat (first | apply Kd.N_alloc | apply Kd.N_drewN | apply Kd.N_drew)); exact aK.1, pbg⟩
 replace H := ifp H
 obtain ⟨c3, H⟩ := H
 have di := decide_eq_true c3
 clear c3
 replace H := bnd H
 obtain ⟨cF, A4, H⟩ := H
 (try dsimp only at H)
 cases cF
 ·rw [if_neg Bool.false_ne_true] at H
  have H' := am H
  clear H
  have a1 : 0 ≤ (aa : Int) := dq
  have a5 : aa < (l0.length : Int) := dq
  obtain ⟨aQ, bv, bA, b1, ai, aD, ay⟩ := at_L11 (Kd.V_reads' ab.1).2.2 aa a1 a5
  cases b1
  obtain ⟨cd, bg, bb, aR⟩ := Kd.V_get ab.1 [] aa a1 (by first | exact a5 | exact dq | (have e_ := (Kd.V_reads' ab.1).1; omega))
  obtain ⟨bN, bR, rfl, ar, ak⟩ := Kd.FK_slice_open bb
  have ae := aR 0 _ rfl
  rw [Nat.add_zero, show ((Kd.slice 3 (Kd.int .i64))).sz = 1 from rfl, Nat.mul_one] at ae
  replace ae := Option.some.inj (ae.symm.trans ai)
  injection ae with hva_ hvn_ hvc_
  rw [hva_] at ak
  rw [hvc_] at ar
  have aW := am (show Kd.V (Kd.int .i64) 3 _ w.heap.size _ _ (rd_L11 l0 aa) from Kd.V_mk ar ak)
  clear hva_ hvn_ hvc_ ak ar aR bg
  have ac := am ay
  have ax := am aD
  clear ay aD
  replace a1 := eq_true a1
  replace a5 := eq_true a5
  have a2 : 0 ≤ (aa : Int) := dq
  have a6 : aa < (l0.length : Int) := dq
  obtain ⟨bw, bV, bY, b2, aI, aE, az⟩ := at_L11 (Kd.V_reads' ab.1).2.2 aa a2 a6
  obtain rfl : aQ = bw := (by injection b2)
  obtain ⟨ce, bh, bc, aT⟩ := Kd.V_get ab.1 [] aa a2 (by first | exact a6 | exact dq | (have e_ := (Kd.V_reads' ab.1).1; omega))
  obtain ⟨bO, bS, rfl, au, al⟩ := Kd.FK_slice_open bc
  have af := aT 0 _ rfl
  rw [Nat.add_zero, show ((Kd.slice 3 (Kd.int .i64))).sz = 1 from rfl, Nat.mul_one] at af
  replace af := Option.some.inj (af.symm.trans aI)
  injection af with hva_ hvn_ hvc_
  rw [hva_] at al
  rw [hvc_] at au
  have aX := am (show Kd.V (Kd.int .i64) 3 _ w.heap.size _ _ (rd_L11 l0 aa) from Kd.V_mk au al)
  clear hva_ hvn_ hvc_ al au aT bh
  have bG := am az
  have bD := am aE
  clear az aE
  replace a2 := eq_true a2
  replace a6 := eq_true a6
  have ea_ := Option.some.inj (ai.symm.trans aI)
  injection ea_ with ea_ en_ ec_
  subst ea_
  subst ec_
  clear en_
  iterate 4 (try go_wp2_with (first | (go_at_call 81; (with_reducible refine (r05_Valid.calls k1 _ _ (rd_L11 l0 aa) ((rd_L11 l0 aa).length : Int) false _ ?side1 ?side2 A4.1).mono ?_); (case side1 => exact csd ac.1); (case side2 => exact ax.1); rintro e w' ⟨rfl, ⟨nd, rfl⟩⟩; (try first | exact dw1 | exact dw2))); try go_quiet (first | (go_at_call 81; (with_reducible refine (r05_Valid.calls k1 _ _ (rd_L11 l0 aa) ((rd_L11 l0 aa).length : Int) false _ ?side1 ?side2 A4.1).mono ?_); (case side1 => exact csd ac.1); (case side2 => exact ax.1); rintro e w' ⟨rfl, ⟨nd, rfl⟩⟩; (try first | exact dw1 | exact dw2))))
  go_roundg k1
  case measure => have := cw.1; omega
  case rel => exact ⟨(aj), (wrap64 (aa + 1)), prs, H', ⟨by have := cw.1; omega⟩, ⟨pkv ab.1⟩, ⟨pkn aK.1⟩, ⟨pbg⟩⟩
 rw [if_pos rfl] at H
 by_cases c6 : (aj.length : Int) = 0
 ·rw [if_pos c6] at H
  have cY : ((aj.length : Int) == 0) = true := beq_iff_eq.mpr c6
  have cZ : ((aj.length : Int) != 0) = false := bne_eq_false_iff_eq.mpr c6
  clear c6
  replace H := ifp H
  obtain ⟨c7, H⟩ := H
  have cW := am c7
  clear c7
  obtain ⟨cS, ci⟩ : ∃ y_ : List (List Int), y_ = (aj ++ [rd_L11 l0 aa]) := ⟨_, rfl⟩
  replace H : (r05_Considered.l0 k1 l0 cS (wrap64 (aa + 1))) = some r := hrp ci H
  have cK := am ci
  clear ci
  have H' := am H
  clear H
  have a1 : 0 ≤ (aa : Int) := dq
  have a5 : aa < (l0.length : Int) := dq
  obtain ⟨aQ, bv, bA, b1, ai, aD, ay⟩ := at_L11 (Kd.V_reads' ab.1).2.2 aa a1 a5
  cases b1
  obtain ⟨cd, bg, bb, aR⟩ := Kd.V_get ab.1 [] aa a1 (by first | exact a5 | exact dq | (have e_ := (Kd.V_reads' ab.1).1; omega))
  obtain ⟨bN, bR, rfl, ar, ak⟩ := Kd.FK_slice_open bb
  have ae := aR 0 _ rfl
  rw [Nat.add_zero, show ((Kd.slice 3 (Kd.int .i64))).sz = 1 from rfl, Nat.mul_one] at ae
  replace ae := Option.some.inj (ae.symm.trans ai)
  injection ae with hva_ hvn_ hvc_
  rw [hva_] at ak
  rw [hvc_] at ar
  have aW := am (show Kd.V (Kd.int .i64) 3 _ w.heap.size _ _ (rd_L11 l0 aa) from Kd.V_mk ar ak)
  clear hva_ hvn_ hvc_ ak ar aR bg
  have ac := am ay
  have ax := am aD
  clear ay aD
  replace a1 := eq_true a1
  replace a5 := eq_true a5
  have a2 : 0 ≤ (aa : Int) := dq
  have a6 : aa < (l0.length : Int) := dq
  obtain ⟨bw, bV, bY, b2, aI, aE, az⟩ := at_L11 (Kd.V_reads' ab.1).2.2 aa a2 a6
  obtain rfl : aQ = bw := (by injection b2)
  obtain ⟨ce, bh, bc, aT⟩ := Kd.V_get ab.1 [] aa a2 (by first | exact a6 | exact dq | (have e_ := (Kd.V_reads' ab.1).1; omega))
  obtain ⟨bO, bS, rfl, au, al⟩ := Kd.FK_slice_open bc
  have af := aT 0 _ rfl
  rw [Nat.add_zero, show ((Kd.slice 3 (Kd.int .i64))).sz = 1 from rfl, Nat.mul_one] at af
  replace af := Option.some.inj (af.symm.trans aI)
  injection af with hva_ hvn_ hvc_
  rw [hva_] at al
  rw [hvc_] at au
  have aX := am (show Kd.V (Kd.int .i64) 3 _ w.heap.size _ _ (rd_L11 l0 aa) from Kd.V_mk au al)
  clear hva_ hvn_ hvc_ al au aT bh
  have bG := am az
  have bD := am aE
  clear az aE
  replace a2 := eq_true a2
  replace a6 := eq_true a6
  have ea_ := Option.some.inj (ai.symm.trans aI)
  injection ea_ with ea_ en_ ec_
  subst ea_
  subst ec_
  clear en_
  obtain ⟨cG, cR, db⟩ := Kd.N_slice aK.1
  subst db
  have bJ : 0 ≤ (aa : Int) := dq
  have bL : aa < (l0.length : Int) := dq
  obtain ⟨b9, cx, cz, cB, bs, bq, bo⟩ := at_L11 (Kd.V_reads' ab.1).2.2 aa bJ bL
  obtain rfl : aQ = b9 := (by injection cB)
  obtain ⟨cP, b7, b5, bB⟩ := Kd.V_get ab.1 [] aa bJ (by first | exact bL | exact dq | (have e_ := (Kd.V_reads' ab.1).1; omega))
  obtain ⟨cq, cu, rfl, a9, aY⟩ := Kd.FK_slice_open b5
  have aM := bB 0 _ rfl
  rw [Nat.add_zero, show ((Kd.slice 3 (Kd.int .i64))).sz = 1 from rfl, Nat.mul_one] at aM
  replace aM := Option.some.inj (aM.symm.trans bs)
  injection aM with hva_ hvn_ hvc_
  rw [hva_] at aY
  rw [hvc_] at a9
  have bk := am (show Kd.V (Kd.int .i64) 3 _ w.heap.size _ _ (rd_L11 l0 aa) from Kd.V_mk a9 aY)
  clear hva_ hvn_ hvc_ aY a9
  clear bB b7
  have co := am bo
  have cm := am bq
  clear bo bq
  replace bJ := eq_true bJ
  replace bL := eq_true bL
  have ea_ := Option.some.inj (ai.symm.trans bs)
  injection ea_ with ea_ en_ ec_
  subst ea_
  subst ec_
  clear en_
  iterate 4 (try go_wp2_with (first | (go_at_call 81; (with_reducible refine (r05_Valid.calls k1 _ _ (rd_L11 l0 aa) ((rd_L11 l0 aa).length : Int) true _ ?side1 ?side2 A4.1).mono ?_); (case side1 => exact csd ac.1); (case side2 => exact ax.1); rintro e w' ⟨rfl, ⟨nd, rfl⟩⟩; (try first | exact dw1 | exact dw2)) | ((with_reducible refine gate_builtin (b := .append) (xs := #[.tmp 38, .tmp 43]) rfl ?_); (try (refine gate_guard (by rfl) ?_; dsimp only)); at_builtin; refine Kd.N_append (Kd.slice 3 (Kd.int .i64)) (w0 := w) w.heap.size rfl (.tmp 38) (.tmp 43) 30 39 (.slice none 0 0) 24 rfl Try.underlying30 info39 rfl (by decide) (by omega) (.slice cG aj.length cR) aj (rd_L11 l0 aa) [.slice bv (rd_L11 l0 aa).length bA] (fun k_ => (P0_ k_ ∨ w.heap.size ≤ k_)) (fun k_ => ((fun k_ => (P0_ k_ ∨ w.heap.size ≤ k_))) k_ ∧ some k_ ≠ (.slice cG aj.length cR : Value).ownBlock) rfl rfl ?aP (fun _ hk => hk) ?aF ?aO ?aB ?aS ?aL ?_; (case aP => first | exact (Kd.FK_slice_mk (Kd.V_reads' (Kd.V_mono (ok' := (fun k_ => ((fun k_ => (P0_ k_ ∨ w.heap.size ≤ k_))) k_ ∧ some k_ ≠ (.slice cG aj.length cR : Value).ownBlock)) (bk.1) (fun k_ hk => ⟨hk.1, hk.2⟩))).2.1 (Kd.V_F (Kd.V_mono (ok' := (fun k_ => ((fun k_ => (P0_ k_ ∨ w.heap.size ≤ k_))) k_ ∧ some k_ ≠ (.slice cG aj.length cR : Value).ownBlock)) (bk.1) (fun k_ hk => ⟨hk.1, hk.2⟩)))) | exact (Kd.FK_slice_mk (Kd.V_reads' (Kd.V_mono (ok' := (fun k_ => ((fun k_ => (P0_ k_ ∨ w.heap.size ≤ k_))) k_ ∧ some k_ ≠ (.slice cG aj.length cR : Value).ownBlock)) (bk.1) (fun k_ hk => ⟨hk.1, hk.2⟩))).2.1 (Kd.V_F (Kd.V_mono (ok' := (fun k_ => ((fun k_ => (P0_ k_ ∨ w.heap.size ≤ k_))) k_ ∧ some k_ ≠ (.slice cG aj.length cR : Value).ownBlock)) (Kd.V_drewN bk.1 _) (fun k_ hk => ⟨hk.1, hk.2⟩))))); (case aB => exact pbl); (case aF => exact (fun k_ hk => (.inr (Nat.le_trans (below_size pbl) hk)))); (case aO => exact (pkn aK.1)); (case aS => exact (below_size pbl)); (case aL => have := cW.1; omega); intro dk w9 ho hb hg hat; rw [← cK.1] at ho; have cH := am ho; replace ab := am (Kd.V_afterv (ok := (fun k_ => (P0_ k_ ∨ w.heap.size ≤ k_))) (pkv ab.1) hg hat); replace aW := am (Kd.V_afterv (ok := (fun k_ => (P0_ k_ ∨ w.heap.size ≤ k_))) (pkv aW.1) hg hat); replace aX := am (Kd.V_afterv (ok := (fun k_ => (P0_ k_ ∨ w.heap.size ≤ k_))) (pkv aX.1) hg hat); replace bk := am (Kd.V_afterv (ok := (fun k_ => (P0_ k_ ∨ w.heap.size ≤ k_))) (pkv bk.1) hg hat); replace HB := am hb; clear aK; clear ho hb hg hat)); try go_quiet (first | (go_at_call 81; (with_reducible refine (r05_Valid.calls k1 _ _ (rd_L11 l0 aa) ((rd_L11 l0 aa).length : Int) true _ ?side1 ?side2 A4.1).mono ?_); (case side1 => exact csd ac.1); (case side2 => exact ax.1); rintro e w' ⟨rfl, ⟨nd, rfl⟩⟩; (try first | exact dw1 | exact dw2))))
  go_roundg k1
  case measure => have := cw.1; omega
  case rel => exact ⟨(cS), (wrap64 (aa + 1)), prs, H', ⟨by have := cw.1; omega⟩, ⟨pkv ab.1⟩, ⟨pkn cH.1⟩, ⟨pbg⟩⟩
 rw [if_neg c6] at H
 have cY : ((aj.length : Int) == 0) = false := beq_eq_false_iff_ne.mpr c6
 have cZ : ((aj.length : Int) != 0) = true := bne_iff_ne.mpr c6
 have dj : ¬ (aj = []) := fun h_ => c6 (by rw [h_]; rfl)
 replace H := ifp H
 obtain ⟨c10, H⟩ := H
 have de := decide_eq_true c10
 have df : decide (0 < aj.length) = true := decide_eq_true (by omega)
 clear c10
 by_cases cb : ((rd_L11 l0 aa).length : Int) = ((rd_L11 aj 0).length : Int)
 rotate_left
 ·rw [if_neg cb] at H
  have cM : (((rd_L11 l0 aa).length : Int) == ((rd_L11 aj 0).length : Int)) = false := beq_eq_false_iff_ne.mpr cb
  have cN : (((rd_L11 l0 aa).length : Int) != ((rd_L11 aj 0).length : Int)) = true := bne_iff_ne.mpr cb
  have cO : ((rd_L11 l0 aa).length == (rd_L11 aj 0).length) = false := by first | simpa using cb | (simp at cb ⊢; omega)
  have H' := am H
  clear H
  have a1 : 0 ≤ (aa : Int) := dq
  have a5 : aa < (l0.length : Int) := dq
  obtain ⟨aQ, bv, bA, b1, ai, aD, ay⟩ := at_L11 (Kd.V_reads' ab.1).2.2 aa a1 a5
  cases b1
  obtain ⟨cd, bg, bb, aR⟩ := Kd.V_get ab.1 [] aa a1 (by first | exact a5 | exact dq | (have e_ := (Kd.V_reads' ab.1).1; omega))
  obtain ⟨bN, bR, rfl, ar, ak⟩ := Kd.FK_slice_open bb
  have ae := aR 0 _ rfl
  rw [Nat.add_zero, show ((Kd.slice 3 (Kd.int .i64))).sz = 1 from rfl, Nat.mul_one] at ae
  replace ae := Option.some.inj (ae.symm.trans ai)
  injection ae with hva_ hvn_ hvc_
  rw [hva_] at ak
  rw [hvc_] at ar
  have aW := am (show Kd.V (Kd.int .i64) 3 _ w.heap.size _ _ (rd_L11 l0 aa) from Kd.V_mk ar ak)
  clear hva_ hvn_ hvc_ ak ar aR bg
  have ac := am ay
  have ax := am aD
  clear ay aD
  replace a1 := eq_true a1
  replace a5 := eq_true a5
  have a2 : 0 ≤ (aa : Int) := dq
  have a6 : aa < (l0.length : Int) := dq
  obtain ⟨bw, bV, bY, b2, aI, aE, az⟩ := at_L11 (Kd.V_reads' ab.1).2.2 aa a2 a6
  obtain rfl : aQ = bw := (by injection b2)
  obtain ⟨ce, bh, bc, aT⟩ := Kd.V_get ab.1 [] aa a2 (by first | exact a6 | exact dq | (have e_ := (Kd.V_reads' ab.1).1; omega))
  obtain ⟨bO, bS, rfl, au, al⟩ := Kd.FK_slice_open bc
  have af := aT 0 _ rfl
  rw [Nat.add_zero, show ((Kd.slice 3 (Kd.int .i64))).sz = 1 from rfl, Nat.mul_one] at af
  replace af := Option.some.inj (af.symm.trans aI)
  injection af with hva_ hvn_ hvc_
  rw [hva_] at al
  rw [hvc_] at au
  have aX := am (show Kd.V (Kd.int .i64) 3 _ w.heap.size _ _ (rd_L11 l0 aa) from Kd.V_mk au al)
  clear hva_ hvn_ hvc_ al au aT bh
  have bG := am az
  have bD := am aE
  clear az aE
  replace a2 := eq_true a2
  replace a6 := eq_true a6
  have ea_ := Option.some.inj (ai.symm.trans aI)
  injection ea_ with ea_ en_ ec_
  subst ea_
  subst ec_
  clear en_
  obtain ⟨cV, da, cE⟩ := Kd.N_slice aK.1
  subst cE
  have a3 : 0 ≤ (aa : Int) := dq
  have a7 : aa < (l0.length : Int) := dq
  obtain ⟨bx, bW, bZ, b3, aJ, aG, aA⟩ := at_L11 (Kd.V_reads' ab.1).2.2 aa a3 a7
  obtain rfl : aQ = bx := (by injection b3)
  obtain ⟨cf, bi, bd, aU⟩ := Kd.V_get ab.1 [] aa a3 (by first | exact a7 | exact dq | (have e_ := (Kd.V_reads' ab.1).1; omega))
  obtain ⟨bP, bT, rfl, av, ao⟩ := Kd.FK_slice_open bd
  have ag := aU 0 _ rfl
  rw [Nat.add_zero, show ((Kd.slice 3 (Kd.int .i64))).sz = 1 from rfl, Nat.mul_one] at ag
  replace ag := Option.some.inj (ag.symm.trans aJ)
  injection ag with hva_ hvn_ hvc_
  rw [hva_] at ao
  rw [hvc_] at av
  have bl := am (show Kd.V (Kd.int .i64) 3 _ w.heap.size _ _ (rd_L11 l0 aa) from Kd.V_mk av ao)
  clear hva_ hvn_ hvc_ ao av
  clear aU bi
  have bH := am aA
  have bE := am aG
  clear aA aG
  replace a3 := eq_true a3
  replace a7 := eq_true a7
  have ea_ := Option.some.inj (ai.symm.trans aJ)
  injection ea_ with ea_ en_ ec_
  subst ea_
  subst ec_
  clear en_
  have a4 : 0 ≤ (0 : Int) := (by omega)
  have a8 : 0 < (aj.length : Int) := dq
  obtain ⟨bz, bX, b0, b4, aq, aH, aC⟩ := at_L11 (Kd.N_reads' aK.1).2.2 0 a4 a8
  cases b4
  obtain ⟨cg, bj, bf, aV⟩ := Kd.N_get aK.1 [] 0 a4 (by first | exact a8 | exact dq | (have e_ := (Kd.N_reads' aK.1).1; omega))
  obtain ⟨bQ, bU, rfl, aw, ap⟩ := Kd.FK_slice_open bf
  have ah := aV 0 _ rfl
  rw [Nat.add_zero, show ((Kd.slice 3 (Kd.int .i64))).sz = 1 from rfl, Nat.mul_one] at ah
  replace ah := Option.some.inj (ah.symm.trans aq)
  injection ah with hva_ hvn_ hvc_
  rw [hva_] at ap
  rw [hvc_] at aw
  have bm := am (show Kd.V (Kd.int .i64) 3 _ w.heap.size _ _ (rd_L11 aj 0) from Kd.V_mk aw ap)
  clear hva_ hvn_ hvc_ ap aw
  clear aV bj
  have ck : (0 < aj.length) = True := eq_true (by omega)
  (try rw [show ((0 : Int)).toNat = 0 from rfl] at aq)
  (try rw [Addr.add_zero'] at aq)
  have bI := am aC
  have bF := am aH
  clear aC aH
  replace a4 := eq_true a4
  replace a8 := eq_true a8
  iterate 4 (try go_wp2_with (first | (go_at_call 81; (with_reducible refine (r05_Valid.calls k1 _ _ (rd_L11 l0 aa) ((rd_L11 l0 aa).length : Int) true _ ?side1 ?side2 A4.1).mono ?_); (case side1 => exact csd ac.1); (case side2 => exact ax.1); rintro e w' ⟨rfl, ⟨nd, rfl⟩⟩; (try first | exact dw1 | exact dw2))); try go_quiet (first | (go_at_call 81; (with_reducible refine (r05_Valid.calls k1 _ _ (rd_L11 l0 aa) ((rd_L11 l0 aa).length : Int) true _ ?side1 ?side2 A4.1).mono ?_); (case side1 => exact csd ac.1); (case side2 => exact ax.1); rintro e w' ⟨rfl, ⟨nd, rfl⟩⟩; (try first | exact dw1 | exact dw2))))
  go_roundg k1
  case measure => have := cw.1; omega
  case rel => exact ⟨(aj), (wrap64 (aa + 1)), prs, H', ⟨by have := cw.1; omega⟩, ⟨pkv ab.1⟩, ⟨pkn aK.1⟩, ⟨pbg⟩⟩
 rw [if_pos cb] at H
 have cM : (((rd_L11 l0 aa).length : Int) == ((rd_L11 aj 0).length : Int)) = true := beq_iff_eq.mpr cb
 have cN : (((rd_L11 l0 aa).length : Int) != ((rd_L11 aj 0).length : Int)) = false := bne_eq_false_iff_eq.mpr cb
 have cO : ((rd_L11 l0 aa).length == (rd_L11 aj 0).length) = true := by first | simpa using cb | (simp at cb ⊢; omega)
 clear cb
 replace H := ifp H
 obtain ⟨dg, H⟩ := H
 have cJ := am dg
 clear dg
 obtain ⟨cT, cj⟩ : ∃ y_ : List (List Int), y_ = (aj ++ [rd_L11 l0 aa]) := ⟨_, rfl⟩
 replace H : (r05_Considered.l0 k1 l0 cT (wrap64 (aa + 1))) = some r := hrp cj H
 have cL := am cj
 clear cj
 have H' := am H
 clear H
 have a1 : 0 ≤ (aa : Int) := dq
 have a5 : aa < (l0.length : Int) := dq
 obtain ⟨aQ, bv, bA, b1, ai, aD, ay⟩ := at_L11 (Kd.V_reads' ab.1).2.2 aa a1 a5
 cases b1
 obtain ⟨cd, bg, bb, aR⟩ := Kd.V_get ab.1 [] aa a1 (by first | exact a5 | exact dq | (have e_ := (Kd.V_reads' ab.1).1; omega))
 obtain ⟨bN, bR, rfl, ar, ak⟩ := Kd.FK_slice_open bb
 have ae := aR 0 _ rfl
 rw [Nat.add_zero, show ((Kd.slice 3 (Kd.int .i64))).sz = 1 from rfl, Nat.mul_one] at ae
 replace ae := Option.some.inj (ae.symm.trans ai)
 injection ae with hva_ hvn_ hvc_
 rw [hva_] at ak
 rw [hvc_] at ar
 have aW := am (show Kd.V (Kd.int .i64) 3 _ w.heap.size _ _ (rd_L11 l0 aa) from Kd.V_mk ar ak)
 clear hva_ hvn_ hvc_ ak ar aR bg
 have ac := am ay
 have ax := am aD
 clear ay aD
 replace a1 := eq_true a1
 replace a5 := eq_true a5
 have a2 : 0 ≤ (aa : Int) := dq
 have a6 : aa < (l0.length : Int) := dq
 obtain ⟨bw, bV, bY, b2, aI, aE, az⟩ := at_L11 (Kd.V_reads' ab.1).2.2 aa a2 a6
 obtain rfl : aQ = bw := (by injection b2)
 obtain ⟨ce, bh, bc, aT⟩ := Kd.V_get ab.1 [] aa a2 (by first | exact a6 | exact dq | (have e_ := (Kd.V_reads' ab.1).1; omega))
 obtain ⟨bO, bS, rfl, au, al⟩ := Kd.FK_slice_open bc
 have af := aT 0 _ rfl
 rw [Nat.add_zero, show ((Kd.slice 3 (Kd.int .i64))).sz = 1 from rfl, Nat.mul_one] at af
 replace af := Option.some.inj (af.symm.trans aI)
 injection af with hva_ hvn_ hvc_
 rw [hva_] at al
 rw [hvc_] at au
 have aX := am (show Kd.V (Kd.int .i64) 3 _ w.heap.size _ _ (rd_L11 l0 aa) from Kd.V_mk au al)
 clear hva_ hvn_ hvc_ al au aT bh
 have bG := am az
 have bD := am aE
 clear az aE
 replace a2 := eq_true a2
 replace a6 := eq_true a6
 have ea_ := Option.some.inj (ai.symm.trans aI)
 injection ea_ with ea_ en_ ec_
 subst ea_
 subst ec_
 clear en_
 obtain ⟨cU, ch, cD⟩ := Kd.N_slice aK.1
 subst cD
 have a3 : 0 ≤ (aa : Int) := dq
 have a7 : aa < (l0.length : Int) := dq
 obtain ⟨bx, bW, bZ, b3, aJ, aG, aA⟩ := at_L11 (Kd.V_reads' ab.1).2.2 aa a3 a7
 obtain rfl : aQ = bx := (by injection b3)
 obtain ⟨cf, bi, bd, aU⟩ := Kd.V_get ab.1 [] aa a3 (by first | exact a7 | exact dq | (have e_ := (Kd.V_reads' ab.1).1; omega))
 obtain ⟨bP, bT, rfl, av, ao⟩ := Kd.FK_slice_open bd
 have ag := aU 0 _ rfl
 rw [Nat.add_zero, show ((Kd.slice 3 (Kd.int .i64))).sz = 1 from rfl, Nat.mul_one] at ag
 replace ag := Option.some.inj (ag.symm.trans aJ)
 injection ag with hva_ hvn_ hvc_
 rw [hva_] at ao
 rw [hvc_] at av
 have bl := am (show Kd.V (Kd.int .i64) 3 _ w.heap.size _ _ (rd_L11 l0 aa) from Kd.V_mk av ao)
 clear hva_ hvn_ hvc_ ao av
 clear aU bi
 have bH := am aA
 have bE := am aG
 clear aA aG
 replace a3 := eq_true a3
 replace a7 := eq_true a7
 have ea_ := Option.some.inj (ai.symm.trans aJ)
 injection ea_ with ea_ en_ ec_
 subst ea_
 subst ec_
 clear en_
 have a4 : 0 ≤ (0 : Int) := (by omega)
 have a8 : 0 < (aj.length : Int) := dq
 obtain ⟨bz, bX, b0, b4, aq, aH, aC⟩ := at_L11 (Kd.N_reads' aK.1).2.2 0 a4 a8
 cases b4
 obtain ⟨cg, bj, bf, aV⟩ := Kd.N_get aK.1 [] 0 a4 (by first | exact a8 | exact dq | (have e_ := (Kd.N_reads' aK.1).1; omega))
 obtain ⟨bQ, bU, rfl, aw, ap⟩ := Kd.FK_slice_open bf
 have ah := aV 0 _ rfl
 rw [Nat.add_zero, show ((Kd.slice 3 (Kd.int .i64))).sz = 1 from rfl, Nat.mul_one] at ah
 replace ah := Option.some.inj (ah.symm.trans aq)
 injection ah with hva_ hvn_ hvc_
 rw [hva_] at ap
 rw [hvc_] at aw
 have bm := am (show Kd.V (Kd.int .i64) 3 _ w.heap.size _ _ (rd_L11 aj 0) from Kd.V_mk aw ap)
 clear hva_ hvn_ hvc_ ap aw
 clear aV bj
 have ck : (0 < aj.length) = True := eq_true (by omega)
 (try rw [show ((0 : Int)).toNat = 0 from rfl] at aq)
 (try rw [Addr.add_zero'] at aq)
 have bI := am aC
 have bF := am aH
 clear aC aH
 replace a4 := eq_true a4
 replace a8 := eq_true a8
 have bK : 0 ≤ (aa : Int) := dq
 have bM : aa < (l0.length : Int) := dq
 obtain ⟨ca, cy, cA, cC, bu, br, bp⟩ := at_L11 (Kd.V_reads' ab.1).2.2 aa bK bM
 obtain rfl : aQ = ca := (by injection cC)
 obtain ⟨cQ, b8, b6, bC⟩ := Kd.V_get ab.1 [] aa bK (by first | exact bM | exact dq | (have e_ := (Kd.V_reads' ab.1).1; omega))
 obtain ⟨cr, cv, rfl, ba, aZ⟩ := Kd.FK_slice_open b6
 have aN := bC 0 _ rfl
 rw [Nat.add_zero, show ((Kd.slice 3 (Kd.int .i64))).sz = 1 from rfl, Nat.mul_one] at aN
 replace aN := Option.some.inj (aN.symm.trans bu)
 injection aN with hva_ hvn_ hvc_
 rw [hva_] at aZ
 rw [hvc_] at ba
 have bn := am (show Kd.V (Kd.int .i64) 3 _ w.heap.size _ _ (rd_L11 l0 aa) from Kd.V_mk ba aZ)
 clear hva_ hvn_ hvc_ aZ ba
 clear bC b8
 have cp := am bp
 have cn := am br
 clear bp br
 replace bK := eq_true bK
 replace bM := eq_true bM
 have ea_ := Option.some.inj (ai.symm.trans bu)
 injection ea_ with ea_ en_ ec_
 subst ea_
 subst ec_
 clear en_
 iterate 4 (try go_wp2_with (first | (go_at_call 81; (with_reducible refine (r05_Valid.calls k1 _ _ (rd_L11 l0 aa) ((rd_L11 l0 aa).length : Int) true _ ?side1 ?side2 A4.1).mono ?_); (case side1 => exact csd ac.1); (case side2 => exact ax.1); rintro e w' ⟨rfl, ⟨nd, rfl⟩⟩; (try first | exact dw1 | exact dw2)) | ((with_reducible refine gate_builtin (b := .append) (xs := #[.tmp 38, .tmp 43]) rfl ?_); (try (refine gate_guard (by rfl) ?_; dsimp only)); at_builtin; refine Kd.N_append (Kd.slice 3 (Kd.int .i64)) (w0 := w) w.heap.size rfl (.tmp 38) (.tmp 43) 30 39 (.slice none 0 0) 24 rfl Try.underlying30 info39 rfl (by decide) (by omega) (.slice (some bz) aj.length ch) aj (rd_L11 l0 aa) [.slice bv (rd_L11 l0 aa).length bA] (fun k_ => (P0_ k_ ∨ w.heap.size ≤ k_)) (fun k_ => ((fun k_ => (P0_ k_ ∨ w.heap.size ≤ k_))) k_ ∧ some k_ ≠ (.slice (some bz) aj.length ch : Value).ownBlock) rfl rfl ?aP (fun _ hk => hk) ?aF ?aO ?aB ?aS ?aL ?_; (case aP => first | exact (Kd.FK_slice_mk (Kd.V_reads' (Kd.V_mono (ok' := (fun k_ => ((fun k_ => (P0_ k_ ∨ w.heap.size ≤ k_))) k_ ∧ some k_ ≠ (.slice (some bz) aj.length ch : Value).ownBlock)) (bn.1) (fun k_ hk => ⟨hk.1, hk.2⟩))).2.1 (Kd.V_F (Kd.V_mono (ok' := (fun k_ => ((fun k_ => (P0_ k_ ∨ w.heap.size ≤ k_))) k_ ∧ some k_ ≠ (.slice (some bz) aj.length ch : Value).ownBlock)) (bn.1) (fun k_ hk => ⟨hk.1, hk.2⟩)))) | exact (Kd.FK_slice_mk (Kd.V_reads' (Kd.V_mono (ok' := (fun k_ => ((fun k_ => (P0_ k_ ∨ w.heap.size ≤ k_))) k_ ∧ some k_ ≠ (.slice (some bz) aj.length ch : Value).ownBlock)) (bn.1) (fun k_ hk => ⟨hk.1, hk.2⟩))).2.1 (Kd.V_F (Kd.V_mono (ok' := (fun k_ => ((fun k_ => (P0_ k_ ∨ w.heap.size ≤ k_))) k_ ∧ some k_ ≠ (.slice (some bz) aj.length ch : Value).ownBlock)) (Kd.V_drewN bn.1 _) (fun k_ hk => ⟨hk.1, hk.2⟩))))); (case aB => exact pbl); (case aF => exact (fun k_ hk => (.inr (Nat.le_trans (below_size pbl) hk)))); (case aO => exact (pkn aK.1)); (case aS => exact (below_size pbl)); (case aL => have := cJ.1; omega); intro dl dm ho hb hg hat; rw [← cL.1] at ho; have cI := am ho; replace ab := am (Kd.V_afterv (ok := (fun k_ => (P0_ k_ ∨ w.heap.size ≤ k_))) (pkv ab.1) hg hat); replace aW := am (Kd.V_afterv (ok := (fun k_ => (P0_ k_ ∨ w.heap.size ≤ k_))) (pkv aW.1) hg hat); replace aX := am (Kd.V_afterv (ok := (fun k_ => (P0_ k_ ∨ w.heap.size ≤ k_))) (pkv aX.1) hg hat); replace bl := am (Kd.V_afterv (ok := (fun k_ => (P0_ k_ ∨ w.heap.size ≤ k_))) (pkv bl.1) hg hat); replace bm := am (Kd.V_afterv (ok := (fun k_ => (P0_ k_ ∨ w.heap.size ≤ k_))) (pkv bm.1) hg hat); replace bn := am (Kd.V_afterv (ok := (fun k_ => (P0_ k_ ∨ w.heap.size ≤ k_))) (pkv bn.1) hg hat); replace HB := am hb; clear aK; clear ho hb hg hat)); try go_quiet (first | (go_at_call 81; (with_reducible refine (r05_Valid.calls k1 _ _ (rd_L11 l0 aa) ((rd_L11 l0 aa).length : Int) true _ ?side1 ?side2 A4.1).mono ?_); (case side1 => exact csd ac.1); (case side2 => exact ax.1); rintro e w' ⟨rfl, ⟨nd, rfl⟩⟩; (try first | exact dw1 | exact dw2))))
 go_roundg k1
 case measure => have := cw.1; omega
 case rel => exact ⟨(cT), (wrap64 (aa + 1)), prs, H', ⟨by have := cw.1; omega⟩, ⟨pkv ab.1⟩, ⟨pkn cI.1⟩, ⟨pbg⟩⟩

end Go.Proofs.Ytaoogghpadifiaa.P
