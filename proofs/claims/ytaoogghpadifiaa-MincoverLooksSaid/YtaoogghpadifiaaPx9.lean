-- LAID BY OUR PROGRAM OVER THE PRINT (xprint.py, part.py): Lean checks it.
import Derived.Test.YtaoogghpadifiaaPx0
import Derived.Test.YtaoogghpadifiaaPx1
import Derived.Test.YtaoogghpadifiaaPx3
import Derived.Test.YtaoogghpadifiaaPx6
namespace Go.Proofs.Ytaoogghpadifiaa.P
open Go.RowKit Go.Proofs.YtaoogghpadifiaaW.PrintWords Go.Proofs.YtaoogghpadifiaaW.PrintLast Go.Proofs.YtaoogghpadifiaaW.PrintMore
attribute [local go_sem] max2_int min2_int max_two min_two max_three min_three max_four min_four   -- for this text's walks alone
set_option linter.unusedVariables false
set_option linter.unusedSimpArgs false

/-! ### r05_Finite: function 45 -/
def r05_Finite.l0 : Nat → List Int → List Int → Int → Option (List Int)
 | 0, _, _, _ => none
 | k + 1, x0, x3, x4 => if x4 < (x0.length : Int) then (if 0 ≤ x4 then (if (rd x0 x4) = (-1) then (r05_Finite.l0 k x0 x3 (wrap64 (x4 + 1))) else (if x3.length < 17592186044416 then (r05_Finite.l0 k x0 (x3 ++ [x4]) (wrap64 (x4 + 1))) else (none))) else (none)) else (some x3)
def r05_Finite.f (k : Nat) (l0 : List Int) : Option (List Int) := r05_Finite.l0 k l0 ([] : List Int) 0
theorem r05_Finite.mono_l : ∀ k, M3 r05_Finite.l0 k
 | 0 => fun _ _ _ r h => by simp [r05_Finite.l0] at h
 | k + 1 => by
  have au := r05_Finite.mono_l k
  ·intro y0 y1 y2
   unfold r05_Finite.l0
   repeat' first | (with_reducible first | apply au | apply lr | apply ln | apply li | refine lb ?_ fun _ => ?_)
theorem r05_Finite.mono : ∀ a0 k, LeO (r05_Finite.f k a0) (r05_Finite.f (k + 1) a0) := by
 intro a0 k
 have au := r05_Finite.mono_l k
 unfold r05_Finite.f
 repeat' first | (with_reducible first | apply au | apply lr | apply ln | apply li | refine lb ?_ fun _ => ?_)
set_option maxHeartbeats 8000000 in
set_option maxRecDepth 100000 in
theorem r05_Finite.calls (k : Nat) (A0 : Option Addr) (c0 : Nat) (l0 : List Int) (r : List Int) (w : World) (ay : Kd.C (Kd.int .i64) w A0 l0.length l0) (hc0 : l0.length ≤ c0) (h : r05_Finite.f k l0 = some r) :
  Calls Try.prog 45 #[.slice A0 l0.length c0] w fun e w' => ∃ v0_ : Value, e = .returned (v0_) ∧ Kd.R (Kd.int .i64) 3 w' w.heap.size (fun _ => True) v0_ r ∧ Below w.heap.size w w' := by
 have ax := am ay
 have aC := am hc0
 clear ay hc0
 have HB := am (Below.refl w.heap.size w)
 have H := h
 unfold r05_Finite.f at H
 clear h
 have H' := am H
 clear H
 go_enter Try.func45, Try.ntmps45
 go_wp2
 go_loopg [3, 4] k (fun kq v3 v4 w' => ∃ (ab : List Int) (aa : Int), v4 = .int .i64 aa ∧ Aside0 (r05_Finite.l0 kq l0 ab aa = some r) ∧ Aside0 (kq ≤ k) ∧ Aside0 (Kd.R (Kd.int .i64) 3 w' w.heap.size (fun _ => True) v3 ab) ∧ Aside0 (Below w.heap.size w w'))
 case atStart => exact ⟨(([] : List Int)), (0), prs, H', ⟨Nat.le_refl _⟩, ⟨knl⟩, ⟨pbg⟩⟩
 clear H'
 obtain ⟨ab, aa, rfl, HA, al, ae, HB⟩ := hrel
 obtain _ | k1 := gk
 ·exact absurd HA.1 (by simp [r05_Finite.l0])
 have H := HA.1
 clear HA
 simp only [r05_Finite.l0] at H
 replace H := ifl H
 rcases H with ⟨ap, H⟩ | ⟨ap, H⟩
 rotate_left
 ·obtain rfl := Option.some.inj H
  go_wp2
  go_ret
  exact ⟨_, per, by (with_reducible repeat (first | apply Kd.R_alloc | apply Kd.R_drewN | apply Kd.R_drew)); exact ae.1, pbg⟩
 replace H := ifp H
 obtain ⟨c3, H⟩ := H
 have az := decide_eq_true c3
 clear c3
 replace H := ife H
 rcases H with ⟨aq, ar, H⟩ | ⟨aq, ar, H⟩
 ·have H' := am H
  clear H
  obtain ⟨av, aw, aj, ag, af⟩ := bint ax.1 HB.1 aa
  cases ag
  go_wp2
  go_roundg k1
  case measure => have := al.1; omega
  case rel => exact ⟨(ab), (wrap64 (aa + 1)), prs, H', ⟨by have := al.1; omega⟩, ⟨pkr ae.1⟩, ⟨pbg⟩⟩
 replace H := ifp H
 obtain ⟨c5, H⟩ := H
 have ao := am c5
 clear c5
 obtain ⟨ak, ac⟩ : ∃ y_ : List Int, y_ = (ab ++ [aa]) := ⟨_, rfl⟩
 replace H : (r05_Finite.l0 k1 l0 ak (wrap64 (aa + 1))) = some r := hrp ac H
 have ai := am ac
 clear ac
 have H' := am H
 clear H
 obtain ⟨av, aw, aj, ag, af⟩ := bint ax.1 HB.1 aa
 cases ag
 go_wp2_with (first | ((with_reducible refine gate_builtin (b := .append) (xs := #[.tmp 16, .tmp 18]) rfl ?_); at_builtin; refine Kd.R_append (Kd.int .i64) (w0 := w) w.heap.size rfl (.tmp 16) (.tmp 18) 39 3 (.int .i64 0) 8 rfl Try.underlying39 info3 rfl (by decide) (by omega) u3 ab aa [.int .i64 aa] (fun _ => True) (fun _ => False) rfl rfl ?aP (fun _ hk => hk.elim) ?aF ?aO ?aB ?aS ?aL ?_; (case aP => exact rfl); (case aB => exact pbl); (case aF => exact (fun _ _ => trivial)); (case aO => exact (pkr ae.1)); (case aS => exact (below_size pbl)); (case aL => have := ao.1; omega); intro aA w6 ho hb hg hat; rw [← ai.1] at ho; have ah := am ho; replace HB := am hb; clear ae; clear ho hb hg hat))
 go_roundg k1
 case measure => have := al.1; omega
 case rel => exact ⟨(ak), (wrap64 (aa + 1)), prs, H', ⟨by have := al.1; omega⟩, ⟨pkr ah.1⟩, ⟨pbg⟩⟩

/-! ### r05_Covers: function 42 -/
def r05_Covers.f (k : Nat) (l0 : List Int) (l1 : List Int) : Option (Bool) := (r05_Finite.f k l1).bind fun aa => (if (aa.length : Int) = (l1.length : Int) then ((r05_Leq.f k l1 l0).bind fun ac => (some ac)) else (some false))
theorem r05_Covers.mono : ∀ a0 a1 k, LeO (r05_Covers.f k a0 a1) (r05_Covers.f (k + 1) a0 a1) := by
 intro a0 a1 k
 unfold r05_Covers.f
 repeat' first | (with_reducible first | apply r05_Finite.mono | apply r05_Leq.mono | apply lr | apply ln | apply li | refine lb ?_ fun _ => ?_)
set_option maxHeartbeats 8000000 in
set_option maxRecDepth 100000 in
theorem r05_Covers.calls (k : Nat) (A0 : Option Addr) (c0 : Nat) (l0 : List Int) (A1 : Option Addr) (c1 : Nat) (l1 : List Int) (r : Bool) (w : World) (ao : Kd.C (Kd.int .i64) w A0 l0.length l0) (hc0 : l0.length ≤ c0) (hr1 : Kd.C (Kd.int .i64) w A1 l1.length l1) (al : l1.length ≤ c1) (h : r05_Covers.f k l0 l1 = some r) :
  Calls Try.prog 42 #[.slice A0 l0.length c0, .slice A1 l1.length c1] w fun e w' => e = .returned (.bool r) ∧ Below w.heap.size w w' := by
 have aq := am ao
 have ap := am hc0
 clear ao hc0
 have ag := am hr1
 have af := am al
 clear hr1 al
 have HB := am (Below.refl w.heap.size w)
 have H := h
 unfold r05_Covers.f at H
 clear h
 replace H := bnd H
 obtain ⟨aa, A3, H⟩ := H
 (try dsimp only at H)
 by_cases c4 : (aa.length : Int) = (l1.length : Int)
 rotate_left
 ·rw [if_neg c4] at H
  have ah : ((aa.length : Int) == (l1.length : Int)) = false := beq_eq_false_iff_ne.mpr c4
  have ai : ((aa.length : Int) != (l1.length : Int)) = true := bne_iff_ne.mpr c4
  have aj : (aa.length == l1.length) = false := by first | simpa using c4 | (simp at c4 ⊢; omega)
  obtain rfl := Option.some.inj H
  go_enter Try.func42, Try.ntmps42
  go_wp2_with (first | ((with_reducible refine gate_callee (f := 45) rfl ?_); refine gC 6 Try.func45 _ (r05_Finite.calls k _ _ l1 aa _ (csd ag.1) af.1 A3.1) ?_; rintro e w8 ⟨ak, rfl, ae, hb⟩; refine ⟨_, rfl, ?_⟩; have ab := am (Kd.R_lower ae (below_size pbl)); replace HB := bsl hb; (try clear hb); (try clear ae); obtain ⟨aw, ay, au⟩ := Kd.R_slice ab.1; subst au))
  go_ret
  exact ⟨per, pbg⟩
 rw [if_pos c4] at H
 have ah : ((aa.length : Int) == (l1.length : Int)) = true := beq_iff_eq.mpr c4
 have ai : ((aa.length : Int) != (l1.length : Int)) = false := bne_eq_false_iff_eq.mpr c4
 have aj : (aa.length == l1.length) = true := by first | simpa using c4 | (simp at c4 ⊢; omega)
 clear c4
 replace H := bnd H
 obtain ⟨ac, A5, H⟩ := H
 (try dsimp only at H)
 obtain rfl := Option.some.inj H
 go_enter Try.func42, Try.ntmps42
 go_wp2_with (first | ((with_reducible refine gate_callee (f := 45) rfl ?_); refine gC 6 Try.func45 _ (r05_Finite.calls k _ _ l1 aa _ (csd ag.1) af.1 A3.1) ?_; rintro e w6 ⟨ak, rfl, ae, hb⟩; refine ⟨_, rfl, ?_⟩; have ab := am (Kd.R_lower ae (below_size pbl)); replace HB := bsl hb; (try clear hb); (try clear ae); obtain ⟨av, ax, ar⟩ := Kd.R_slice ab.1; subst ar) | (go_at_call 78; (with_reducible refine (r05_Leq.calls k _ _ l1 _ _ l0 ac _ ?side1 ?side2 ?side3 ?side4 A5.1).mono ?_); (case side1 => exact csb ag HB); (case side2 => exact af.1); (case side3 => exact csb aq HB); (case side4 => exact ap.1); rintro e w' ⟨rfl, ⟨nd, rfl⟩⟩))
 go_ret
 exact ⟨per, pbg⟩

/-! ### r23_Covers: function 18 -/
def r23_Covers.l0 : Nat → List Int → List (List Int) → Int → Option (Bool)
 | 0, _, _, _ => none
 | k + 1, x1, x5, x6 => if x6 < (x5.length : Int) then (if 0 ≤ x6 then ((r05_Covers.f k (rd_L11 x5 x6) x1).bind fun aB => (if aB = true then (some true) else (r23_Covers.l0 k x1 x5 (wrap64 (x6 + 1))))) else (none)) else (some false)
def r23_Covers.f (k : Nat) (l0 : List (List Int)) (l1 : List Int) : Option (Bool) := (r05_Considered.f k l0).bind fun al => (r23_Covers.l0 k l1 al 0)
theorem r23_Covers.mono_l : ∀ k, M3 r23_Covers.l0 k
 | 0 => fun _ _ _ r h => by simp [r23_Covers.l0] at h
 | k + 1 => by
  have aI := r23_Covers.mono_l k
  ·intro y0 y1 y2
   unfold r23_Covers.l0
   repeat' first | (with_reducible first | apply aI | apply r05_Considered.mono | apply r05_Covers.mono | apply lr | apply ln | apply li | refine lb ?_ fun _ => ?_)
theorem r23_Covers.mono : ∀ a0 a1 k, LeO (r23_Covers.f k a0 a1) (r23_Covers.f (k + 1) a0 a1) := by
 intro a0 a1 k
 have aI := r23_Covers.mono_l k
 unfold r23_Covers.f
 repeat' first | (with_reducible first | apply aI | apply r05_Considered.mono | apply r05_Covers.mono | apply lr | apply ln | apply li | refine lb ?_ fun _ => ?_)
set_option maxHeartbeats 8000000 in
set_option maxRecDepth 100000 in
theorem r23_Covers.calls (k : Nat) (A0 : Option Addr) (c0 : Nat) (l0 : List (List Int)) (A1 : Option Addr) (c1 : Nat) (l1 : List Int) (r : Bool) (w : World) (aP : Kd.C (Kd.slice 3 (Kd.int .i64)) w A0 l0.length l0) (hc0 : l0.length ≤ c0) (hr1 : Kd.C (Kd.int .i64) w A1 l1.length l1) (aN : l1.length ≤ c1) (h : r23_Covers.f k l0 l1 = some r) :
  Calls Try.prog 18 #[.slice A0 l0.length c0, .slice A1 l1.length c1] w fun e w' => e = .returned (.bool r) ∧ Below w.heap.size w w' := by
 have aT := am aP
 have aS := am hc0
 clear aP hc0
 have aM := am hr1
 have aK := am aN
 clear hr1 aN
 have HB := am (Below.refl w.heap.size w)
 have H := h
 unfold r23_Covers.f at H
 clear h
 replace H := bnd H
 obtain ⟨al, A3, H⟩ := H
 (try dsimp only at H)
 have H' := am H
 clear H
 go_enter Try.func18, Try.ntmps18
 go_wp2_with (first | ((with_reducible refine gate_callee (f := 41) rfl ?_); refine gC 8 Try.func41 _ (r05_Considered.calls k (fun k_ => k_ < w.heap.size) _ _ l0 al _ (Kd.V_mk aS.1 (Kd.F_below (Kd.C_F (Kd.heap_slice 3 (Kd.heap_int .i64)) aT.1) pbl)) A3.1) ?_; rintro e w4 ⟨aJ, rfl, aO, hb⟩; refine ⟨_, rfl, ?_⟩; have aC := am (Kd.N_lower (Kd.N_mono (ok' := fun k_ => True) aO (fun k_ hk_ => trivial)) (below_size pbl)); replace HB := bsl hb; (try clear hb); (try clear aO)))
 go_loopg [6] k (fun kq v6 w' => ∃ (af : Int), v6 = .int .i64 af ∧ Aside0 (r23_Covers.l0 kq l1 al af = some r) ∧ Aside0 (kq ≤ k) ∧ Aside0 (Kd.N (Kd.slice 3 (Kd.int .i64)) 39 w' w.heap.size (fun _ => True) aJ al) ∧ Aside0 (Below w.heap.size w w'))
 case atStart => exact ⟨(0), prs, H', ⟨Nat.le_refl _⟩, ⟨pkn aC.1⟩, ⟨pbg⟩⟩
 clear H'
 try clear c1
 obtain ⟨af, rfl, HA, aL, ah, HB⟩ := hrel
 obtain _ | k1 := gk
 ·exact absurd HA.1 (by simp [r23_Covers.l0])
 have H := HA.1
 clear HA
 simp only [r23_Covers.l0] at H
 replace H := ifl H
 rcases H with ⟨aF, H⟩ | ⟨aF, H⟩
 rotate_left
 ·obtain rfl := Option.some.inj H
  obtain ⟨aR, aW, aH⟩ := Kd.N_slice ah.1
  subst aH
  go_wp2
  go_ret
  exact ⟨per, pbg⟩
 replace H := ifp H
 obtain ⟨c6, H⟩ := H
 have aU := decide_eq_true c6
 clear c6
 replace H := bnd H
 obtain ⟨aB, A7, H⟩ := H
 (try dsimp only at H)
 cases aB
 rotate_left
 ·rw [if_pos rfl] at H
  obtain rfl := Option.some.inj H
  obtain ⟨aY, aZ, aX⟩ := Kd.N_slice ah.1
  subst aX
  have aq : 0 ≤ (af : Int) := dq
  have ar : af < (al.length : Int) := dq
  obtain ⟨aD, ay, az, aA, ap, aj, ai⟩ := at_L11 (Kd.N_reads' ah.1).2.2 af aq ar
  cases aA
  obtain ⟨aE, av, au, ak⟩ := Kd.N_get ah.1 [] af aq (by first | exact ar | exact dq | (have e_ := (Kd.N_reads' ah.1).1; omega))
  obtain ⟨aw, ax, rfl, ae, ac⟩ := Kd.FK_slice_open au
  have ab := ak 0 _ rfl
  rw [Nat.add_zero, show ((Kd.slice 3 (Kd.int .i64))).sz = 1 from rfl, Nat.mul_one] at ab
  replace ab := Option.some.inj (ab.symm.trans ap)
  injection ab with hva_ hvn_ hvc_
  rw [hva_] at ac
  rw [hvc_] at ae
  have ag := am (show Kd.V (Kd.int .i64) 3 _ w.heap.size _ _ (rd_L11 al af) from Kd.V_mk ae ac)
  clear hva_ hvn_ hvc_ ac ae ak av
  have aa := am ai
  have ao := am aj
  clear ai aj
  replace aq := eq_true aq
  replace ar := eq_true ar
  go_wp2_with (first | ((with_reducible refine gate_callee (f := 42) rfl ?_); refine gC 20 Try.func42 _ (r05_Covers.calls k1 _ _ (rd_L11 al af) _ _ l1 true _ ?side1 ?side2 ?side3 ?side4 A7.1) ?_; (case side1 => exact csd aa.1); (case side2 => exact ao.1); (case side3 => exact csb aM HB); (case side4 => exact aK.1); rintro e a2 ⟨rfl, hb⟩; refine ⟨_, rfl, ?_⟩; replace ah := nbw ah hb; replace ag := vbw ag hb; replace aa := cbb aa hb; replace HB := bsl hb; (try clear hb)))
  go_ret
  exact ⟨per, pbg⟩
 rw [if_neg Bool.false_ne_true] at H
 have H' := am H
 clear H
 obtain ⟨aQ, aV, aG⟩ := Kd.N_slice ah.1
 subst aG
 have aq : 0 ≤ (af : Int) := dq
 have ar : af < (al.length : Int) := dq
 obtain ⟨aD, ay, az, aA, ap, aj, ai⟩ := at_L11 (Kd.N_reads' ah.1).2.2 af aq ar
 cases aA
 obtain ⟨aE, av, au, ak⟩ := Kd.N_get ah.1 [] af aq (by first | exact ar | exact dq | (have e_ := (Kd.N_reads' ah.1).1; omega))
 obtain ⟨aw, ax, rfl, ae, ac⟩ := Kd.FK_slice_open au
 have ab := ak 0 _ rfl
 rw [Nat.add_zero, show ((Kd.slice 3 (Kd.int .i64))).sz = 1 from rfl, Nat.mul_one] at ab
 replace ab := Option.some.inj (ab.symm.trans ap)
 injection ab with hva_ hvn_ hvc_
 rw [hva_] at ac
 rw [hvc_] at ae
 have ag := am (show Kd.V (Kd.int .i64) 3 _ w.heap.size _ _ (rd_L11 al af) from Kd.V_mk ae ac)
 clear hva_ hvn_ hvc_ ac ae ak av
 have aa := am ai
 have ao := am aj
 clear ai aj
 replace aq := eq_true aq
 replace ar := eq_true ar
 go_wp2_with (first | ((with_reducible refine gate_callee (f := 42) rfl ?_); refine gC 20 Try.func42 _ (r05_Covers.calls k1 _ _ (rd_L11 al af) _ _ l1 false _ ?side1 ?side2 ?side3 ?side4 A7.1) ?_; (case side1 => exact csd aa.1); (case side2 => exact ao.1); (case side3 => exact csb aM HB); (case side4 => exact aK.1); rintro e a3 ⟨rfl, hb⟩; refine ⟨_, rfl, ?_⟩; replace ah := nbw ah hb; replace ag := vbw ag hb; replace aa := cbb aa hb; replace HB := bsl hb; (try clear hb)))
 go_roundg k1
 case measure => have := aL.1; omega
 case rel => exact ⟨(wrap64 (af + 1)), prs, H', ⟨by have := aL.1; omega⟩, ⟨pkn ah.1⟩, ⟨pbg⟩⟩

/-! ### mincover_Bounds: function 20 -/
mutual
def mincover_Bounds.l0 : Nat → List Int → List (List Int) → Int → Int → Option (List Int)
 | 0, _, _, _, _ => none
 | k + 1, x3, x9, x10, x11 => if x11 < x10 then (if 0 ≤ x11 then (if x11 < (x9.length : Int) then (if x11 = 0 then (if 0 ≤ ((rd_L11 x9 x11).length : Int) then (if (((rd_L11 x9 x11).length : Int) : Int).toNat ≤ 35184372088832 then (mincover_Bounds.j1 k (List.replicate (((rd_L11 x9 x11).length : Int) : Int).toNat 0) x9 x10 x11) else (none)) else (none)) else (mincover_Bounds.j1 k x3 x9 x10 x11)) else (none)) else (none)) else (some x3)
def mincover_Bounds.j1 : Nat → List Int → List (List Int) → Int → Int → Option (List Int)
 | 0, _, _, _, _ => none
 | k + 1, x3, x9, x10, x11 => if 0 ≤ x11 then (if x11 < (x9.length : Int) then (mincover_Bounds.l1 k x3 x9 x10 x11 (rd_L11 x9 x11) ((rd_L11 x9 x11).length : Int) 0) else (none)) else (none)
def mincover_Bounds.l1 : Nat → List Int → List (List Int) → Int → Int → List Int → Int → Int → Option (List Int)
 | 0, _, _, _, _, _, _, _ => none
 | k + 1, x3, x9, x10, x11, a6, bS, ay => if ay < bS then (if 0 ≤ ay then (if ay < (a6.length : Int) then (if (rd a6 ay) = (-1) then (if ay < (x3.length : Int) then (mincover_Bounds.l1 k (x3.set (ay : Int).toNat (rd a6 ay)) x9 x10 x11 a6 bS (wrap64 (ay + 1))) else (none)) else (if ay < (x3.length : Int) then (if (rd x3 ay) = (-1) then (mincover_Bounds.l1 k x3 x9 x10 x11 a6 bS (wrap64 (ay + 1))) else (if (rd a6 ay) > (rd x3 ay) then (mincover_Bounds.l1 k (x3.set (ay : Int).toNat (rd a6 ay)) x9 x10 x11 a6 bS (wrap64 (ay + 1))) else (mincover_Bounds.l1 k x3 x9 x10 x11 a6 bS (wrap64 (ay + 1))))) else (none))) else (none)) else (none)) else (mincover_Bounds.l0 k x3 x9 x10 (wrap64 (x11 + 1)))
end
def mincover_Bounds.f (k : Nat) (l0 : List (List Int)) : Option (List Int) := (mincover_elements.f k l0).bind fun ac => (mincover_Bounds.l0 k ([] : List Int) ac (ac.length : Int) 0)
theorem mincover_Bounds.mono_l : ∀ k, M4 mincover_Bounds.l0 k ∧ M4 mincover_Bounds.j1 k ∧ M7 mincover_Bounds.l1 k
 | 0 => ⟨fun _ _ _ _ r h => by simp [mincover_Bounds.l0] at h, fun _ _ _ _ r h => by simp [mincover_Bounds.j1] at h, fun _ _ _ _ _ _ _ r h => by simp [mincover_Bounds.l1] at h⟩
 | k + 1 => by
  obtain ⟨ck, cm, cn⟩ := mincover_Bounds.mono_l k
  refine ⟨?_, ?_, ?_⟩ <;> dsimp only [M4, M7] <;> intros <;> (first | unfold mincover_Bounds.l0 | unfold mincover_Bounds.j1 | unfold mincover_Bounds.l1) <;> repeat' first | (with_reducible first | apply ck | apply cm | apply cn | apply mincover_elements.mono | apply lr | apply ln | apply li | refine lb ?_ fun _ => ?_)
theorem mincover_Bounds.mono : ∀ a0 k, LeO (mincover_Bounds.f k a0) (mincover_Bounds.f (k + 1) a0) := by
 intro a0 k
 obtain ⟨ck, cm, cn⟩ := mincover_Bounds.mono_l k
 unfold mincover_Bounds.f
 repeat' first | (with_reducible first | apply ck | apply cm | apply cn | apply mincover_elements.mono | apply lr | apply ln | apply li | refine lb ?_ fun _ => ?_)
set_option maxHeartbeats 8000000 in
set_option maxRecDepth 100000 in
theorem mincover_Bounds.calls (k : Nat) (A0 : Option Addr) (c0 : Nat) (l0 : List (List Int)) (r : List Int) (w : World) (cJ : Kd.C (Kd.slice 3 (Kd.int .i64)) w A0 l0.length l0) (hc0 : l0.length ≤ c0) (h : mincover_Bounds.f k l0 = some r) :
  Calls Try.prog 20 #[.slice A0 l0.length c0] w fun e w' => ∃ v0_ : Value, e = .returned (v0_) ∧ Kd.R (Kd.int .i64) 3 w' w.heap.size (fun _ => True) v0_ r ∧ Below w.heap.size w w' := by
 have cS := am cJ
 have cR := am hc0
 clear cJ hc0
 have HB := am (Below.refl w.heap.size w)
 have H := h
 unfold mincover_Bounds.f at H
 clear h
 replace H := bnd H
 obtain ⟨ac, A2, H⟩ := H
 (try dsimp only at H)
 have H' := am H
 clear H
 go_enter Try.func20, Try.ntmps20
 go_wp2_with (first | ((with_reducible refine gate_callee (f := 39) rfl ?_); refine gC 9 Try.func39 _ (mincover_elements.calls k (fun k_ => k_ < w.heap.size) _ _ l0 ac _ (Kd.V_mk cR.1 (Kd.F_below (Kd.C_F (Kd.heap_slice 3 (Kd.heap_int .i64)) cS.1) pbl)) A2.1) ?_; rintro e w3 ⟨db, rfl, cI, hb⟩; refine ⟨_, rfl, ?_⟩; have a9 := am (Kd.N_lower (Kd.N_mono (ok' := fun k_ => True) cI (fun k_ hk_ => trivial)) (below_size pbl)); replace HB := bsl hb; (try clear hb); (try clear cI); obtain ⟨cO, b7, cY⟩ := Kd.N_slice a9.1; subst cY))
 go_loopg [3, 11] k (fun kq v3 cZ w' => ∃ (a7 : List Int) (aa : Int), cZ = .int .i64 aa ∧ Aside0 (mincover_Bounds.l0 kq a7 ac (ac.length : Int) aa = some r) ∧ Aside0 (kq ≤ k) ∧ Aside0 (Kd.R (Kd.int .i64) 3 w' w.heap.size (fun _ => True) v3 a7) ∧ Aside0 (Kd.N (Kd.slice 3 (Kd.int .i64)) 39 w' w.heap.size (fun k_ => some k_ ≠ (v3 : Value).ownBlock) (.slice cO ac.length b7) ac) ∧ Aside0 (Below w.heap.size w w'))
 case atStart => exact ⟨(([] : List Int)), (0), prs, H', ⟨Nat.le_refl _⟩, ⟨knl⟩, ⟨by (with_reducible repeat (first | apply Kd.N_alloc | apply Kd.N_drewN | apply Kd.N_drew)); exact Kd.N_mono a9.1 (fun _ hk => (by simp [Value.ownBlock]))⟩, ⟨pbg⟩⟩
 clear H'
 obtain ⟨a7, aa, rfl, HA, aP, ae, af, HB⟩ := hrel
 obtain _ | k1 := gk
 ·exact absurd HA.1 (by simp [mincover_Bounds.l0])
 have H := HA.1
 clear HA
 simp only [mincover_Bounds.l0] at H
 replace H := ifl H
 rcases H with ⟨bi, H⟩ | ⟨bi, H⟩
 rotate_left
 ·obtain rfl := Option.some.inj H
  go_wp2
  go_ret
  exact ⟨_, per, by (with_reducible repeat (first | apply Kd.R_alloc | apply Kd.R_drewN | apply Kd.R_drew)); exact ae.1, pbg⟩
 replace H := ifp H
 obtain ⟨c6, H⟩ := H
 have bK := decide_eq_true c6
 clear c6
 replace H := ifp H
 obtain ⟨c7, H⟩ := H
 have bL := decide_eq_true c7
 clear c7
 have b3 := am H
 clear H
 have aN : 0 ≤ (aa : Int) := dq
 have aO : aa < (ac.length : Int) := dq
 obtain ⟨aG, az, aS, b8, al, aK, aI⟩ := at_L11 (Kd.N_reads' af.1).2.2 aa aN aO
 cases b8
 obtain ⟨cG, bn, bl, aW⟩ := Kd.N_get af.1 [] aa aN (by first | exact aO | exact dq | (have e_ := (Kd.N_reads' af.1).1; omega))
 obtain ⟨bW, bY, rfl, av, ao⟩ := Kd.FK_slice_open bl
 have aj := aW 0 _ rfl
 rw [Nat.add_zero, show ((Kd.slice 3 (Kd.int .i64))).sz = 1 from rfl, Nat.mul_one] at aj
 replace aj := Option.some.inj (aj.symm.trans al)
 injection aj with hva_ hvn_ hvc_
 rw [hva_] at ao
 rw [hvc_] at av
 have aE := am (show Kd.V (Kd.int .i64) 3 _ w.heap.size _ _ (rd_L11 ac aa) from Kd.V_mk av ao)
 clear hva_ hvn_ hvc_ ao av aW bn
 have ag := am aI
 have HX_ := am al
 have bU := am aK
 clear aI aK
 replace aN := eq_true aN
 replace aO := eq_true aO
 go_upto_if 17 with (fail)
 go_cut [3] (fun v3 wc => ∃ (kq : Nat) (a8 : List Int), Aside0 (mincover_Bounds.j1 kq a8 ac (ac.length : Int) aa = some r) ∧ Aside0 (kq ≤ k1) ∧ Aside0 (Kd.R (Kd.int .i64) 3 wc w.heap.size (fun _ => True) v3 a8) ∧ Aside0 (Kd.N (Kd.slice 3 (Kd.int .i64)) 39 wc w.heap.size (fun k_ => some k_ ≠ (v3 : Value).ownBlock) (.slice (some aG) ac.length b7) ac) ∧ Aside0 (Kd.C (Kd.int .i64) wc az (rd_L11 ac aa).length (rd_L11 ac aa)) ∧ Aside0 (wc.cell? (aG.add aa.toNat) = some (.slice az (rd_L11 ac aa).length aS)) ∧ Aside0 (Below w.heap.size w wc))
 case first =>
  have H := b3.1
  clear b3
  replace H := ife H
  rcases H with ⟨aA, bj, H⟩ | ⟨aA, bj, H⟩
  rotate_left
  ·(first | rw [aA] | (simp only [i64_w, i32_w]; rw [aA]) | skip)
   have H' := am H
   clear H
   go_wp2
   go_meet
   case rel => exact ⟨_, (a7), H', ⟨by have := aP.1; first | omega | exact Nat.le_refl _⟩, ⟨pkr ae.1⟩, ⟨pkn af.1⟩, ⟨by repeat (first | (with_reducible exact ag.1) | (with_reducible refine Kd.C_alloc ?_ _) | (with_reducible refine Kd.C_drewN ?_ _) | (with_reducible refine Kd.C_drew ?_) | exact ag.1)⟩, ⟨HX_.1⟩, ⟨pbg⟩⟩
  (first | rw [aA] | (simp only [i64_w, i32_w]; rw [aA]) | skip)
  replace H := ifp H
  obtain ⟨c10, H⟩ := H
  have bb := eq_true c10
  have bc : decide (0 ≤ ((rd_L11 ac aa).length : Int)) = true := decide_eq_true c10
  clear c10
  replace H := ifp H
  obtain ⟨bB, H⟩ := H
  have bd := eq_true bB
  have bf : decide ((((rd_L11 ac aa).length : Int) : Int).toNat ≤ 35184372088832) = true := decide_eq_true bB
  clear bB
  obtain ⟨bT, aY⟩ : ∃ y_ : List Int, y_ = (List.replicate (((rd_L11 ac aa).length : Int) : Int).toNat 0) := ⟨_, rfl⟩
  replace H : (mincover_Bounds.j1 k1 bT ac (ac.length : Int) aa) = some r := hrp aY H
  have ba := am aY
  clear aY
  have H' := am H
  clear H
  go_wp2_with (first | ((with_reducible refine gate_dst (N := 20) rfl ?_); refine Kd.R_make (Kd.int .i64) _ 3 rfl (N := 20) rfl 39 _ _ rfl ((rd_L11 ac aa).length : Int) rfl rfl Try.underlying39 (.int .i64 0) 8 info3 rfl (by decide) (by omega) 0 (ok := fun _ => True) (okp := fun _ => True) rfl (fun _ hk => hk) trivial (dq) (Nat.le_trans (Nat.mul_le_mul_right _ (dq : ((rd_L11 ac aa).length : Int).toNat ≤ 35184372088832)) (by omega)) (Below.refl _ _) (Nat.le_refl _) ?_; intro dc de ax hb hg_ hnew_; clear hg_ hnew_; (first | rw [← ba.1] at ax | (simp only [Int.reduceToNat] at ax; rw [← ba.1] at ax)); have bw := am (Kd.R_lower (Kd.R_new' ax (Kd.R_lt (pkr ae.1))) (below_size pbl)); replace ae := am (Kd.R_elder' (pkr ae.1) (Kd.R_base ax) hb); replace af := am (Kd.N_elder' (pkn af.1) (Kd.R_base ax) hb); replace aE := am (Kd.V_elder' (pkv aE.1) (Kd.R_base ax) hb); replace ag := cbb ag hb; replace HB := bsl hb; have nx_ := am (cbl hb HX_.1); clear HX_; have HX_ := nx_; clear nx_; clear hb ax))
  go_meet
  case rel => exact ⟨_, (bT), H', ⟨by have := aP.1; first | omega | exact Nat.le_refl _⟩, ⟨by (with_reducible repeat (first | apply Kd.R_alloc | apply Kd.R_drewN | apply Kd.R_drew)); exact Kd.R_mono bw.1 (fun _ hk => trivial)⟩, ⟨by (with_reducible repeat (first | apply Kd.N_alloc | apply Kd.N_drewN | apply Kd.N_drew)); exact Kd.N_mono af.1 (fun _ hk => hk.2)⟩, ⟨by repeat (first | (with_reducible exact ag.1) | (with_reducible refine Kd.C_alloc ?_ _) | (with_reducible refine Kd.C_drewN ?_ _) | (with_reducible refine Kd.C_drew ?_) | exact ag.1)⟩, ⟨HX_.1⟩, ⟨pbg⟩⟩
 clear b3
 try clear bi c6 bK c7 bL c9 aA bj c10 bb bc bB bd bf al aN aO
 obtain ⟨kq, a8, HA, a4, ae, af, ag, HX_, HB⟩ := hcut
 obtain _ | cK := kq
 ·exact absurd HA.1 (by simp [mincover_Bounds.j1])
 have H := HA.1
 clear HA
 simp only [mincover_Bounds.j1] at H
 replace H := ifp H
 obtain ⟨b4, H⟩ := H
 have bC := decide_eq_true b4
 clear b4
 replace H := ifp H
 obtain ⟨b5, H⟩ := H
 have bD := decide_eq_true b5
 clear b5
 have H' := am H
 clear H
 have a2 : 0 ≤ (aa : Int) := dq
 have a3 : aa < (ac.length : Int) := dq
 obtain ⟨bA, b0, b6, b9, aq, aL, aJ⟩ := at_L11 (Kd.N_reads' af.1).2.2 aa a2 a3
 obtain rfl : aG = bA := (by injection b9)
 obtain ⟨cH, bo, bm, aX⟩ := Kd.N_get af.1 [] aa a2 (by first | exact a3 | exact dq | (have e_ := (Kd.N_reads' af.1).1; omega))
 obtain ⟨bX, bZ, rfl, aw, ap⟩ := Kd.FK_slice_open bm
 have ak := aX 0 _ rfl
 rw [Nat.add_zero, show ((Kd.slice 3 (Kd.int .i64))).sz = 1 from rfl, Nat.mul_one] at ak
 replace ak := Option.some.inj (ak.symm.trans aq)
 injection ak with hva_ hvn_ hvc_
 rw [hva_] at ap
 rw [hvc_] at aw
 have aF := am (show Kd.V (Kd.int .i64) 3 _ w.heap.size _ _ (rd_L11 ac aa) from Kd.V_mk aw ap)
 clear hva_ hvn_ hvc_ ap aw aX bo
 have hz_ := Option.some.inj (HX_.1.symm.trans aq)
 injection hz_ with hz1_ hz2_ hz3_
 subst hz1_
 subst hz3_
 clear hz2_ HX_ ag
 have ai := am aJ
 have bV := am aL
 clear aJ aL
 replace a2 := eq_true a2
 replace a3 := eq_true a3
 go_wp2
 go_loopg [23] cK (fun kq da w' => ∃ (ah : List Int) (ab : Int), da = .int .i64 ab ∧ Aside0 (mincover_Bounds.l1 kq ah ac (ac.length : Int) aa (rd_L11 ac aa) ((rd_L11 ac aa).length : Int) ab = some r) ∧ Aside0 (kq ≤ cK) ∧ Aside0 (Kd.R (Kd.int .i64) 3 w' w.heap.size (fun _ => True) u3 ah) ∧ Aside0 (Kd.N (Kd.slice 3 (Kd.int .i64)) 39 w' w.heap.size (fun k_ => some k_ ≠ (u3 : Value).ownBlock) (.slice (some aG) ac.length b7) ac) ∧ Aside0 (Kd.V (Kd.int .i64) 3 w' w.heap.size (fun k_ => some k_ ≠ (u3 : Value).ownBlock) (.slice az (rd_L11 ac aa).length aS) (rd_L11 ac aa)) ∧ Aside0 (Below w.heap.size w w'))
 case atStart => exact ⟨(a8), (0), prs, H', ⟨Nat.le_refl _⟩, ⟨pkr ae.1⟩, ⟨pkn af.1⟩, ⟨by (with_reducible repeat (first | apply Kd.V_alloc | apply Kd.V_drewN | apply Kd.V_drew)); exact Kd.V_mono aF.1 (fun _ hk => hk.1)⟩, ⟨pbg⟩⟩
 clear H'
 try clear c5 bi c6 bK c7 bL c9 aA bj c10 bb bc bB bd bf b4 bC b5 bD al aq aN a2 aO a3
 obtain ⟨ah, ab, rfl, HA, a5, ae, af, HL_, HB⟩ := hrel
 clear ai aF
 have ai := am (Kd.V_reads' HL_.1).2.2
 obtain _ | k3 := gk
 ·exact absurd HA.1 (by simp [mincover_Bounds.l1])
 have H := HA.1
 clear HA
 simp only [mincover_Bounds.l1] at H
 replace H := ifl H
 rcases H with ⟨bE, H⟩ | ⟨bE, H⟩
 rotate_left
 ·have H' := am H
  clear H
  go_wp2
  go_roundg k3
  case measure => have := aP.1; have := a4.1; have := a5.1; omega
  case rel => exact ⟨(ah), (wrap64 (aa + 1)), prs, H', ⟨by have := aP.1; have := a4.1; have := a5.1; omega⟩, ⟨pkr ae.1⟩, ⟨pkn af.1⟩, ⟨pbg⟩⟩
 replace H := ifp H
 obtain ⟨cy, H⟩ := H
 have cz := decide_eq_true cy
 clear cy
 replace H := ifp H
 obtain ⟨cA, H⟩ := H
 have cB := decide_eq_true cA
 clear cA
 replace H := ife H
 rcases H with ⟨bF, bG, H⟩ | ⟨bF, bG, H⟩
 ·replace H := ifp H
  obtain ⟨cC, H⟩ := H
  have cD := decide_eq_true cC
  clear cC
  obtain ⟨br, aZ⟩ : ∃ y_ : List Int, y_ = (ah.set (ab : Int).toNat (rd (rd_L11 ac aa) ab)) := ⟨_, rfl⟩
  replace H : (mincover_Bounds.l1 k3 br ac (ac.length : Int) aa (rd_L11 ac aa) ((rd_L11 ac aa).length : Int) (wrap64 (ab + 1))) = some r := hrp aZ H
  have bx := am aZ
  clear aZ
  have H' := am H
  clear H
  obtain ⟨bp, bq, aQ, aB, ar⟩ := dint ai.1 ab
  cases aB
  have co : 0 ≤ (ab : Int) := dq
  have cr : (ab : Int) < ((ah.length : Int) : Int) := dq
  obtain ⟨aC, aT, bM, bO, ce, cT, bu⟩ := Kd.R_form ae.1 (by omega)
  (first | cases bM | (injection bM with ea_ en_ ec_; (first | subst ea_ | (injection ea_ with ea_; subst ea_)); subst ec_; clear en_))
  have b1 := am bO
  have cP := am bu
  clear bO ce bu
  obtain ⟨ci, cg⟩ := Kd.R_celln 0 ae.1 (ab : Int) co cr
  replace co := eq_true co
  replace cr := eq_true cr
  have bg := Kd.R_putg ae.1 (ab : Int) (rd (rd_L11 ac aa) ab)
  go_wp2_with (first | ((with_reducible refine gate_store (t := 3) (p := 48) rfl ?_); refine store_event (t := 3) (p := 48) (v := ?vo_w23) (w1 := (wr.setCell ⟨aC, (ab : Int).toNat, none⟩ (.int .i64 (rd (rd_L11 ac aa) ab)))) ?hg ?ho ?hn ?hr ?_; (case ho => rfl); (case hg => rfl); (case hn => rfl); (case hr => first | (go_simp; done) | (go_simp; rfl)); intro cw hw; have hg : wr.grownBy cw (some aC) := (by rw [hw]; exact bg.2); have hp_ : Kd.R (Kd.int .i64) 3 cw w.heap.size (fun _ => True) (.slice (some ⟨aC, 0, none⟩) ah.length aT) br := (by rw [hw, bx.1]; exact bg.1); clear bg; replace ae := am hp_; replace af := am (Kd.N_afterv (v := (.slice (some ⟨aC, 0, none⟩) ah.length aT)) (v1 := (.slice (some ⟨aC, 0, none⟩) ah.length aT)) (ok := (fun _ => True)) (by (with_reducible repeat (first | apply Kd.N_alloc | apply Kd.N_drewN | apply Kd.N_drew)); exact Kd.N_mono af.1 (fun _ hk => ⟨trivial, hk⟩)) hg (.inl rfl)); replace HB := am ((by rw [hw]; exact below_set (HB.1) b1.1 : Below w.heap.size w cw)); have nl_ := am (Kd.V_afterv (v := (.slice (some ⟨aC, 0, none⟩) ah.length aT)) (v1 := (.slice (some ⟨aC, 0, none⟩) ah.length aT)) (ok := (fun _ => True)) (by (with_reducible repeat (first | apply Kd.V_alloc | apply Kd.V_drewN | apply Kd.V_drew)); exact Kd.V_mono HL_.1 (fun _ hk => ⟨trivial, hk⟩)) hg (.inl rfl)); clear HL_; have HL_ := nl_; clear nl_; clear hg hw hp_))
  go_roundg k3
  case measure => have := aP.1; have := a4.1; have := a5.1; omega
  case rel => exact ⟨(br), (wrap64 (ab + 1)), prs, H', ⟨by have := aP.1; have := a4.1; have := a5.1; omega⟩, ⟨pkr ae.1⟩, ⟨by (with_reducible repeat (first | apply Kd.N_alloc | apply Kd.N_drewN | apply Kd.N_drew)); exact Kd.N_mono af.1 (fun _ hk => hk.2)⟩, ⟨by (with_reducible repeat (first | apply Kd.V_alloc | apply Kd.V_drewN | apply Kd.V_drew)); exact Kd.V_mono HL_.1 (fun _ hk => hk.2)⟩, ⟨pbg⟩⟩
 replace H := ifp H
 obtain ⟨cE, H⟩ := H
 have cF := decide_eq_true cE
 clear cE
 replace H := ife H
 rcases H with ⟨bH, bI, H⟩ | ⟨bH, bI, H⟩
 ·have H' := am H
  clear H
  obtain ⟨bp, bq, aQ, aB, ar⟩ := dint ai.1 ab
  cases aB
  obtain ⟨cL, cV, ca⟩ := Kd.R_slice ae.1
  subst ca
  obtain ⟨bQ, bR, aH, aV, au⟩ := dint (Kd.R_reads' ae.1).2.2 ab
  cases aV
  go_wp2
  go_roundg k3
  case measure => have := aP.1; have := a4.1; have := a5.1; omega
  case rel => exact ⟨(ah), (wrap64 (ab + 1)), prs, H', ⟨by have := aP.1; have := a4.1; have := a5.1; omega⟩, ⟨pkr ae.1⟩, ⟨pkn af.1⟩, ⟨pkv HL_.1⟩, ⟨pbg⟩⟩
 replace H := ifg H
 rcases H with ⟨bJ, H⟩ | ⟨bJ, H⟩
 rotate_left
 ·have H' := am H
  clear H
  obtain ⟨bp, bq, aQ, aB, ar⟩ := dint ai.1 ab
  cases aB
  obtain ⟨cN, cX, cd⟩ := Kd.R_slice ae.1
  subst cd
  obtain ⟨bQ, bR, aH, aV, au⟩ := dint (Kd.R_reads' ae.1).2.2 ab
  cases aV
  obtain ⟨cq, cv, aR, bk, aM⟩ := dint (Kd.R_reads' ae.1).2.2 ab
  obtain rfl : aH = aR := (by injection bk)
  go_wp2
  go_roundg k3
  case measure => have := aP.1; have := a4.1; have := a5.1; omega
  case rel => exact ⟨(ah), (wrap64 (ab + 1)), prs, H', ⟨by have := aP.1; have := a4.1; have := a5.1; omega⟩, ⟨pkr ae.1⟩, ⟨pkn af.1⟩, ⟨pkv HL_.1⟩, ⟨pbg⟩⟩
 obtain ⟨bs, a1⟩ : ∃ y_ : List Int, y_ = (ah.set (ab : Int).toNat (rd (rd_L11 ac aa) ab)) := ⟨_, rfl⟩
 replace H : (mincover_Bounds.l1 k3 bs ac (ac.length : Int) aa (rd_L11 ac aa) ((rd_L11 ac aa).length : Int) (wrap64 (ab + 1))) = some r := hrp a1 H
 have bz := am a1
 clear a1
 have H' := am H
 clear H
 obtain ⟨bp, bq, aQ, aB, ar⟩ := dint ai.1 ab
 cases aB
 obtain ⟨cM, aU, cb⟩ := Kd.R_slice ae.1
 subst cb
 obtain ⟨bQ, bR, aH, aV, au⟩ := dint (Kd.R_reads' ae.1).2.2 ab
 cases aV
 obtain ⟨cq, cv, aR, bk, aM⟩ := dint (Kd.R_reads' ae.1).2.2 ab
 obtain rfl : aH = aR := (by injection bk)
 have cp : 0 ≤ (ab : Int) := dq
 have cu : (ab : Int) < ((ah.length : Int) : Int) := dq
 obtain ⟨aD, cW, bN, bP, cf, cU, bv⟩ := Kd.R_form ae.1 (by omega)
 (first | cases bN | (injection bN with ea_ en_ ec_; (first | subst ea_ | (injection ea_ with ea_; subst ea_)); subst ec_; clear en_))
 have b2 := am bP
 have cQ := am bv
 clear bP cf bv
 (first | simp only [add_plain] at au | skip)
 (first | simp only [add_plain] at aM | skip)
 obtain ⟨cj, ch⟩ := Kd.R_celln 0 ae.1 (ab : Int) cp cu
 replace cp := eq_true cp
 replace cu := eq_true cu
 have bh := Kd.R_putg ae.1 (ab : Int) (rd (rd_L11 ac aa) ab)
 go_wp2_with (first | ((with_reducible refine gate_store (t := 3) (p := 48) rfl ?_); refine store_event (t := 3) (p := 48) (v := ?vo_w31) (w1 := (wr.setCell ⟨aD, (ab : Int).toNat, none⟩ (.int .i64 (rd (rd_L11 ac aa) ab)))) ?hg ?ho ?hn ?hr ?_; (case ho => rfl); (case hg => rfl); (case hn => rfl); (case hr => first | (go_simp; done) | (go_simp; rfl)); intro cx hw; have hg : wr.grownBy cx (some aD) := (by rw [hw]; exact bh.2); have hp_ : Kd.R (Kd.int .i64) 3 cx w.heap.size (fun _ => True) (.slice (some ⟨aD, 0, none⟩) ah.length aU) bs := (by rw [hw, bz.1]; exact bh.1); clear bh; replace ae := am hp_; replace af := am (Kd.N_afterv (v := (.slice (some ⟨aD, 0, none⟩) ah.length aU)) (v1 := (.slice (some ⟨aD, 0, none⟩) ah.length aU)) (ok := (fun _ => True)) (by (with_reducible repeat (first | apply Kd.N_alloc | apply Kd.N_drewN | apply Kd.N_drew)); exact Kd.N_mono af.1 (fun _ hk => ⟨trivial, hk⟩)) hg (.inl rfl)); replace HB := am ((by rw [hw]; exact below_set (HB.1) b2.1 : Below w.heap.size w cx)); have nl_ := am (Kd.V_afterv (v := (.slice (some ⟨aD, 0, none⟩) ah.length aU)) (v1 := (.slice (some ⟨aD, 0, none⟩) ah.length aU)) (ok := (fun _ => True)) (by (with_reducible repeat (first | apply Kd.V_alloc | apply Kd.V_drewN | apply Kd.V_drew)); exact Kd.V_mono HL_.1 (fun _ hk => ⟨trivial, hk⟩)) hg (.inl rfl)); clear HL_; have HL_ := nl_; clear nl_; clear hg hw hp_))
 go_roundg k3
 case measure => have := aP.1; have := a4.1; have := a5.1; omega
 case rel => exact ⟨(bs), (wrap64 (ab + 1)), prs, H', ⟨by have := aP.1; have := a4.1; have := a5.1; omega⟩, ⟨pkr ae.1⟩, ⟨by (with_reducible repeat (first | apply Kd.N_alloc | apply Kd.N_drewN | apply Kd.N_drew)); exact Kd.N_mono af.1 (fun _ hk => hk.2)⟩, ⟨by (with_reducible repeat (first | apply Kd.V_alloc | apply Kd.V_drewN | apply Kd.V_drew)); exact Kd.V_mono HL_.1 (fun _ hk => hk.2)⟩, ⟨pbg⟩⟩

/-! ### r23_Bounds: function 21 -/
mutual
def r23_Bounds.l0 : Nat → List (List Int) → List Int → Int → Option (List Int)
 | 0, _, _, _ => none
 | k + 1, x3, x4, x5 => if x5 < (x3.length : Int) then (r23_Bounds.l1 k x3 x4 x5 0) else (some x4)
def r23_Bounds.l1 : Nat → List (List Int) → List Int → Int → Int → Option (List Int)
 | 0, _, _, _, _ => none
 | k + 1, x3, x4, x5, x6 => if x6 < (x4.length : Int) then (if 0 ≤ x5 then (if x5 < (x3.length : Int) then (if 0 ≤ x6 then (if x6 < ((rd_L11 x3 x5).length : Int) then (if (rd (rd_L11 x3 x5) x6) = (-1) then (r23_Bounds.l1 k x3 (x4.set (x6 : Int).toNat (-1)) x5 (wrap64 (x6 + 1))) else (if (rd x4 x6) = (-1) then (r23_Bounds.l1 k x3 (x4.set (x6 : Int).toNat (-1)) x5 (wrap64 (x6 + 1))) else (r23_Bounds.l1 k x3 (x4.set (x6 : Int).toNat (mx (rd x4 x6) (rd (rd_L11 x3 x5) x6))) x5 (wrap64 (x6 + 1))))) else (none)) else (none)) else (none)) else (none)) else (r23_Bounds.l0 k x3 x4 (wrap64 (x5 + 1)))
end
def r23_Bounds.f (k : Nat) (l0 : List (List Int)) : Option (List Int) := (r05_Considered.f k l0).bind fun ab => (if (ab.length : Int) = 0 then (some ([] : List Int)) else (if 0 < (ab.length : Int) then ((r04_Copy.f k (rd_L11 ab 0)).bind fun bl => (r23_Bounds.l0 k ab bl 0)) else (none)))
theorem r23_Bounds.mono_l : ∀ k, M3 r23_Bounds.l0 k ∧ M4 r23_Bounds.l1 k
 | 0 => ⟨fun _ _ _ r h => by simp [r23_Bounds.l0] at h, fun _ _ _ _ r h => by simp [r23_Bounds.l1] at h⟩
 | k + 1 => by
  obtain ⟨cJ, cK⟩ := r23_Bounds.mono_l k
  refine ⟨?_, ?_⟩ <;> dsimp only [M3, M4] <;> intros <;> (first | unfold r23_Bounds.l0 | unfold r23_Bounds.l1) <;> repeat' first | (with_reducible first | apply cJ | apply cK | apply r04_Copy.mono | apply r05_Considered.mono | apply lr | apply ln | apply li | refine lb ?_ fun _ => ?_)
theorem r23_Bounds.mono : ∀ a0 k, LeO (r23_Bounds.f k a0) (r23_Bounds.f (k + 1) a0) := by
 intro a0 k
 obtain ⟨cJ, cK⟩ := r23_Bounds.mono_l k
 unfold r23_Bounds.f
 repeat' first | (with_reducible first | apply cJ | apply cK | apply r04_Copy.mono | apply r05_Considered.mono | apply lr | apply ln | apply li | refine lb ?_ fun _ => ?_)
def r23_Bounds.T13 : Bool × List (List Nat × List Nat) := (true, [([], []), ([], []), ([], []), ([], []), ([2, 3], [2, 3]), ([4], [4]), ([], []), ([], []), ([6, 7], [6, 7]), ([8], [8]), ([], []), ([9, 10], [9, 10]), ([11], [11]), ([5, 12], [5, 12]), ([0, 1, 0, 1, 2, 3, 4, 5, 6, 7, 8, 9, 10, 11, 12, 13], [0, 1]), ([14, 13, 0, 1, 2, 3, 4, 5, 6, 7, 8, 9, 10, 11, 12, 13], [13, 14])])
def r23_Bounds.B13 : List Nat := [0, 0, 0, 0, 12, 28, 0, 0, 192, 448, 0, 1984, 4032, 8188, 16383, 32767]
theorem r23_Bounds.tab13 : rtab .any (opsOf Try.f21 13) = r23_Bounds.T13 := by kernel_rfl
theorem r23_Bounds.bits13 : waitsOk r23_Bounds.T13.2 r23_Bounds.B13 = true := by kernel_rfl
set_option maxHeartbeats 8000000 in
set_option maxRecDepth 100000 in
theorem r23_Bounds.calls (k : Nat) (A0 : Option Addr) (c0 : Nat) (l0 : List (List Int)) (r : List Int) (w : World) (dj : Kd.C (Kd.slice 3 (Kd.int .i64)) w A0 l0.length l0) (hc0 : l0.length ≤ c0) (h : r23_Bounds.f k l0 = some r) :
  Calls Try.prog 21 #[.slice A0 l0.length c0] w fun e w' => ∃ v0_ : Value, e = .returned (v0_) ∧ Kd.R (Kd.int .i64) 3 w' w.heap.size (fun _ => True) v0_ r ∧ Below w.heap.size w w' := by
 have cX := am dj
 have cW := am hc0
 clear dj hc0
 have HB := am (Below.refl w.heap.size w)
 have H := h
 unfold r23_Bounds.f at H
 clear h
 replace H := bnd H
 obtain ⟨ab, A2, H⟩ := H
 (try dsimp only at H)
 by_cases c3 : (ab.length : Int) = 0
 ·rw [if_pos c3] at H
  have bA : ((ab.length : Int) == 0) = true := beq_iff_eq.mpr c3
  have bB : ((ab.length : Int) != 0) = false := bne_eq_false_iff_eq.mpr c3
  clear c3
  obtain rfl := Option.some.inj H
  go_enter Try.func21, Try.ntmps21
  go_wp2_with (first | ((with_reducible refine gate_callee (f := 41) rfl ?_); refine gC 8 Try.func41 _ (r05_Considered.calls k (fun k_ => k_ < w.heap.size) _ _ l0 ab _ (Kd.V_mk cW.1 (Kd.F_below (Kd.C_F (Kd.heap_slice 3 (Kd.heap_int .i64)) cX.1) pbl)) A2.1) ?_; rintro e w4 ⟨cT, rfl, bf, hb⟩; refine ⟨_, rfl, ?_⟩; have ar := am (Kd.N_lower (Kd.N_mono (ok' := fun k_ => True) bf (fun k_ hk_ => trivial)) (below_size pbl)); replace HB := bsl hb; (try clear hb); (try clear bf); obtain ⟨dK, dM, dE⟩ := Kd.N_slice ar.1; subst dE))
  go_ret
  exact ⟨_, per, knl, pbg⟩
 rw [if_neg c3] at H
 have bA : ((ab.length : Int) == 0) = false := beq_eq_false_iff_ne.mpr c3
 have bB : ((ab.length : Int) != 0) = true := bne_iff_ne.mpr c3
 have b2 : ¬ (ab = []) := fun h_ => c3 (by rw [h_]; rfl)
 replace H := ifp H
 obtain ⟨c6, H⟩ := H
 have b3 := decide_eq_true c6
 have b4 : decide (0 < ab.length) = true := decide_eq_true (by omega)
 clear c6
 replace H := bnd H
 obtain ⟨bl, A7, H⟩ := H
 (try dsimp only at H)
 have H' := am H
 clear H
 go_enter Try.func21, Try.ntmps21
 go_wp2_with (first | ((with_reducible refine gate_callee (f := 41) rfl ?_); refine gC 8 Try.func41 _ (r05_Considered.calls k (fun k_ => k_ < w.heap.size) _ _ l0 ab _ (Kd.V_mk cW.1 (Kd.F_below (Kd.C_F (Kd.heap_slice 3 (Kd.heap_int .i64)) cX.1) pbl)) A2.1) ?_; rintro e w8 ⟨cT, rfl, bf, hb⟩; refine ⟨_, rfl, ?_⟩; have ar := am (Kd.N_lower (Kd.N_mono (ok' := fun k_ => True) bf (fun k_ hk_ => trivial)) (below_size pbl)); replace HB := bsl hb; (try clear hb); (try clear bf); obtain ⟨dL, cg, dF⟩ := Kd.N_slice ar.1; subst dF; have aZ : 0 ≤ (0 : Int) := (by omega); have a1 : 0 < (ab.length : Int) := dq; obtain ⟨au, cm, cr, cu, av, aT, aR⟩ := at_L11 (Kd.N_reads' ar.1).2.2 0 aZ a1; cases cu; obtain ⟨dh, bH, bF, a8⟩ := Kd.N_get ar.1 [] 0 aZ (by first | exact a1 | exact dq | (have e_ := (Kd.N_reads' ar.1).1; omega)); obtain ⟨ch, cj, rfl, aK, aG⟩ := Kd.FK_slice_open bF; have aA := a8 0 _ rfl; rw [Nat.add_zero, show ((Kd.slice 3 (Kd.int .i64))).sz = 1 from rfl, Nat.mul_one] at aA; replace aA := Option.some.inj (aA.symm.trans av); injection aA with hva_ hvn_ hvc_; rw [hva_] at aG; rw [hvc_] at aK; have aQ := am (show Kd.V (Kd.int .i64) 3 _ w.heap.size _ _ (rd_L11 ab 0) from Kd.V_mk aK aG); clear hva_ hvn_ hvc_ aG aK; clear a8 bH; have dk : (0 < ab.length) = True := eq_true (by omega); (try rw [show ((0 : Int)).toNat = 0 from rfl] at av); (try rw [Addr.add_zero'] at av); have az := am aR; have bg := am aT; clear aR aT; replace aZ := eq_true aZ; replace a1 := eq_true a1) | ((with_reducible refine gate_callee (f := 43) rfl ?_); refine gC 15 Try.func43 _ (r04_Copy.calls k _ _ (rd_L11 ab 0) bl _ ?side1 ?side2 A7.1) ?_; (case side1 => exact csd az.1); (case side2 => exact bg.1); rintro e dN ⟨bm, rfl, bf, hb⟩; refine ⟨_, rfl, ?_⟩; have bQ := am (Kd.R_lower bf (below_size pbl)); replace ar := am (Kd.N_elder' (pkn ar.1) (Kd.R_base bf) hb); replace aQ := am (Kd.V_elder' (pkv aQ.1) (Kd.R_base bf) hb); replace az := cbb az hb; replace HB := bsl hb; (try clear hb); (try clear bf)))
 go_loopg [5] k (fun kq v5 w' => ∃ (bn : List Int) (ae : Int), v5 = .int .i64 ae ∧ Aside0 (r23_Bounds.l0 kq ab bn ae = some r) ∧ Aside0 (kq ≤ k) ∧ Aside0 (Kd.N (Kd.slice 3 (Kd.int .i64)) 39 w' w.heap.size (fun k_ => some k_ ≠ (bm : Value).ownBlock) (.slice (some au) ab.length cg) ab) ∧ Aside0 (Kd.R (Kd.int .i64) 3 w' w.heap.size (fun _ => True) bm bn) ∧ Aside0 (Below w.heap.size w w'))
 case atStart => exact ⟨(bl), (0), prs, H', ⟨Nat.le_refl _⟩, ⟨by (with_reducible repeat (first | apply Kd.N_alloc | apply Kd.N_drewN | apply Kd.N_drew)); exact Kd.N_mono ar.1 (fun _ hk => hk.2)⟩, ⟨pkr bQ.1⟩, ⟨pbg⟩⟩
 clear H'
 try clear c3 bA bB b2 c6 b3 b4 av aZ a1
 obtain ⟨bn, ae, rfl, HA, bo, aj, ai, HB⟩ := hrel
 obtain _ | k1 := gk
 ·exact absurd HA.1 (by simp [r23_Bounds.l0])
 have H := HA.1
 clear HA
 simp only [r23_Bounds.l0] at H
 replace H := ifl H
 rcases H with ⟨bu, H⟩ | ⟨bu, H⟩
 rotate_left
 ·obtain rfl := Option.some.inj H
  go_wp2
  go_ret
  exact ⟨_, per, by (with_reducible repeat (first | apply Kd.R_alloc | apply Kd.R_drewN | apply Kd.R_drew)); exact ai.1, pbg⟩
 have H' := am H
 clear H
 go_wp2
 go_loopg [6] k1 (fun kq v6 w' => ∃ (ak : List Int) (aa : Int), v6 = .int .i64 aa ∧ Aside0 (r23_Bounds.l1 kq ab ak ae aa = some r) ∧ Aside0 (kq ≤ k1) ∧ Aside0 (Kd.N (Kd.slice 3 (Kd.int .i64)) 39 w' w.heap.size (fun k_ => some k_ ≠ (bm : Value).ownBlock) (.slice (some au) ab.length cg) ab) ∧ Aside0 (Kd.R (Kd.int .i64) 3 w' w.heap.size (fun _ => True) bm ak) ∧ Aside0 (Below w.heap.size w w'))
 case atStart => exact ⟨(bn), (0), prs, H', ⟨Nat.le_refl _⟩, ⟨pkn aj.1⟩, ⟨pkr ai.1⟩, ⟨pbg⟩⟩
 clear H'
 try clear c3 bA bB b2 c6 b3 b4 bu av aZ a1
 obtain ⟨ak, aa, rfl, HA, bp, aj, ai, HB⟩ := hrel
 obtain _ | k2 := gk
 ·exact absurd HA.1 (by simp [r23_Bounds.l1])
 have H := HA.1
 clear HA
 simp only [r23_Bounds.l1] at H
 replace H := ifl H
 rcases H with ⟨bX, H⟩ | ⟨bX, H⟩
 rotate_left
 ·have H' := am H
  clear H
  obtain ⟨dp, dD, cB⟩ := Kd.R_slice ai.1
  subst cB
  go_wp2
  go_roundg k2
  case measure => have := bo.1; have := bp.1; omega
  case rel => exact ⟨(ak), (wrap64 (ae + 1)), prs, H', ⟨by have := bo.1; have := bp.1; omega⟩, ⟨pkn aj.1⟩, ⟨pkr ai.1⟩, ⟨pbg⟩⟩
 replace H := ifp H
 obtain ⟨cY, H⟩ := H
 have cZ := decide_eq_true cY
 clear cY
 replace H := ifp H
 obtain ⟨da, H⟩ := H
 have db := decide_eq_true da
 clear da
 replace H := ifp H
 obtain ⟨dc, H⟩ := H
 have de := decide_eq_true dc
 clear dc
 replace H := ifp H
 obtain ⟨df, H⟩ := H
 have dg := decide_eq_true df
 clear df
 replace H := ife H
 rcases H with ⟨bY, bZ, H⟩ | ⟨bY, bZ, H⟩
 ·obtain ⟨bL, bb⟩ : ∃ y_ : List Int, y_ = (ak.set (aa : Int).toNat (-1)) := ⟨_, rfl⟩
  replace H : (r23_Bounds.l1 k2 ab bL ae (wrap64 (aa + 1))) = some r := hrp bb H
  have bS := am bb
  clear bb
  have H' := am H
  clear H
  obtain ⟨dl, a4, cy⟩ := Kd.R_slice ai.1
  subst cy
  have ax : 0 ≤ (ae : Int) := dq
  have ay : ae < (ab.length : Int) := dq
  obtain ⟨aM, a2, a3, a6, aw, ap, ao⟩ := at_L11 (Kd.N_reads' aj.1).2.2 ae ax ay
  obtain rfl : au = aM := (by injection a6)
  obtain ⟨bv, aE, aD, aq⟩ := Kd.N_get aj.1 [] ae ax (by first | exact ay | exact dq | (have e_ := (Kd.N_reads' aj.1).1; omega))
  obtain ⟨aX, aY, rfl, ah, ag⟩ := Kd.FK_slice_open aD
  have ac := aq 0 _ rfl
  rw [Nat.add_zero, show ((Kd.slice 3 (Kd.int .i64))).sz = 1 from rfl, Nat.mul_one] at ac
  replace ac := Option.some.inj (ac.symm.trans aw)
  injection ac with hva_ hvn_ hvc_
  rw [hva_] at ag
  rw [hvc_] at ah
  have al := am (show Kd.V (Kd.int .i64) 3 _ w.heap.size _ _ (rd_L11 ab ae) from Kd.V_mk ah ag)
  clear hva_ hvn_ hvc_ ag ah aq aE
  have af := am ao
  have aP := am ap
  clear ao ap
  replace ax := eq_true ax
  replace ay := eq_true ay
  obtain ⟨cb, cd, bq, a7, aV⟩ := dint (by repeat (first | (with_reducible exact af.1) | (with_reducible refine Kd.C_alloc ?_ _) | (with_reducible refine Kd.C_drewN ?_ _) | (with_reducible refine Kd.C_drew ?_) | exact af.1)) aa
  cases a7
  have cL : 0 ≤ (aa : Int) := dq
  have cP : (aa : Int) < ((ak.length : Int) : Int) := dq
  obtain ⟨aN, dy, b5, b8, cC, dv, bN⟩ := Kd.R_form ai.1 (by omega)
  (first | cases b5 | (injection b5 with ea_ en_ ec_; (first | subst ea_ | (injection ea_ with ea_; subst ea_)); subst ec_; clear en_))
  have co := am b8
  have dt := am bN
  clear b8 cC bN
  obtain ⟨cH, cF⟩ := Kd.R_celln 0 ai.1 (aa : Int) cL cP
  replace cL := eq_true cL
  replace cP := eq_true cP
  have bw := Kd.R_putg ai.1 (aa : Int) (-1)
  go_wp2_with (first | ((with_reducible refine gate_store (t := 3) (p := 45) rfl ?_); refine store_event (t := 3) (p := 45) (v := ?vo_w21) (w1 := (wr.setCell ⟨aN, (aa : Int).toNat, none⟩ (.int .i64 (-1)))) ?hg ?ho ?hn ?hr ?_; (case ho => rfl); (case hg => rfl); (case hn => rfl); (case hr => first | (go_simp; done) | (go_simp; rfl)); intro cU hw; have hg : wr.grownBy cU (some aN) := (by rw [hw]; exact bw.2); have hp_ : Kd.R (Kd.int .i64) 3 cU w.heap.size (fun _ => True) (.slice (some ⟨aN, 0, none⟩) ak.length a4) bL := (by rw [hw, bS.1]; exact bw.1); clear bw; replace aj := am (Kd.N_afterv (v := (.slice (some ⟨aN, 0, none⟩) ak.length a4)) (v1 := (.slice (some ⟨aN, 0, none⟩) ak.length a4)) (ok := (fun _ => True)) (by (with_reducible repeat (first | apply Kd.N_alloc | apply Kd.N_drewN | apply Kd.N_drew)); exact Kd.N_mono aj.1 (fun _ hk => ⟨trivial, hk⟩)) hg (.inl rfl)); replace ai := am hp_; replace al := am (Kd.V_afterv (v := (.slice (some ⟨aN, 0, none⟩) ak.length a4)) (v1 := (.slice (some ⟨aN, 0, none⟩) ak.length a4)) (ok := (fun k_ => some k_ ≠ (.slice (some au) ab.length cg : Value).ownBlock)) (by (with_reducible repeat (first | apply Kd.V_alloc | apply Kd.V_drewN | apply Kd.V_drew)); exact Kd.V_mono al.1 (fun _ hk => ⟨hk.2, hk.1⟩)) hg (.inl rfl)); replace HB := am ((by rw [hw]; exact below_set (HB.1) co.1 : Below w.heap.size w cU)); clear hg hw hp_))
  go_roundg k2
  case measure => have := bo.1; have := bp.1; omega
  case rel => exact ⟨(bL), (wrap64 (aa + 1)), prs, H', ⟨by have := bo.1; have := bp.1; omega⟩, ⟨by (with_reducible repeat (first | apply Kd.N_alloc | apply Kd.N_drewN | apply Kd.N_drew)); exact Kd.N_mono aj.1 (fun _ hk => hk.2)⟩, ⟨pkr ai.1⟩, ⟨pbg⟩⟩
 replace H := ife H
 rcases H with ⟨b0, b1, H⟩ | ⟨b0, b1, H⟩
 ·obtain ⟨bM, bc⟩ : ∃ y_ : List Int, y_ = (ak.set (aa : Int).toNat (-1)) := ⟨_, rfl⟩
  replace H : (r23_Bounds.l1 k2 ab bM ae (wrap64 (aa + 1))) = some r := hrp bc H
  have bT := am bc
  clear bc
  have H' := am H
  clear H
  obtain ⟨dm, a5, cz⟩ := Kd.R_slice ai.1
  subst cz
  have ax : 0 ≤ (ae : Int) := dq
  have ay : ae < (ab.length : Int) := dq
  obtain ⟨aM, a2, a3, a6, aw, ap, ao⟩ := at_L11 (Kd.N_reads' aj.1).2.2 ae ax ay
  obtain rfl : au = aM := (by injection a6)
  obtain ⟨bv, aE, aD, aq⟩ := Kd.N_get aj.1 [] ae ax (by first | exact ay | exact dq | (have e_ := (Kd.N_reads' aj.1).1; omega))
  obtain ⟨aX, aY, rfl, ah, ag⟩ := Kd.FK_slice_open aD
  have ac := aq 0 _ rfl
  rw [Nat.add_zero, show ((Kd.slice 3 (Kd.int .i64))).sz = 1 from rfl, Nat.mul_one] at ac
  replace ac := Option.some.inj (ac.symm.trans aw)
  injection ac with hva_ hvn_ hvc_
  rw [hva_] at ag
  rw [hvc_] at ah
  have al := am (show Kd.V (Kd.int .i64) 3 _ w.heap.size _ _ (rd_L11 ab ae) from Kd.V_mk ah ag)
  clear hva_ hvn_ hvc_ ag ah aq aE
  have af := am ao
  have aP := am ap
  clear ao ap
  replace ax := eq_true ax
  replace ay := eq_true ay
  obtain ⟨cb, cd, bq, a7, aV⟩ := dint (by repeat (first | (with_reducible exact af.1) | (with_reducible refine Kd.C_alloc ?_ _) | (with_reducible refine Kd.C_drewN ?_ _) | (with_reducible refine Kd.C_drew ?_) | exact af.1)) aa
  cases a7
  obtain ⟨cO, cS, br, bD, aC⟩ := dint (Kd.R_reads' ai.1).2.2 aa
  cases bD
  have cM : 0 ≤ (aa : Int) := dq
  have cQ : (aa : Int) < ((ak.length : Int) : Int) := dq
  obtain ⟨aO, dz, b6, b9, cD, dw, bO⟩ := Kd.R_form ai.1 (by omega)
  (first | cases b6 | (injection b6 with ea_ en_ ec_; (first | subst ea_ | (injection ea_ with ea_; subst ea_)); subst ec_; clear en_))
  have cp := am b9
  have du := am bO
  clear b9 cD bO
  (first | simp only [add_plain] at aC | skip)
  obtain ⟨cI, cG⟩ := Kd.R_celln 0 ai.1 (aa : Int) cM cQ
  replace cM := eq_true cM
  replace cQ := eq_true cQ
  have bx := Kd.R_putg ai.1 (aa : Int) (-1)
  go_wp2_with (first | ((with_reducible refine gate_store (t := 3) (p := 45) rfl ?_); refine store_event (t := 3) (p := 45) (v := ?vo_w26) (w1 := (wr.setCell ⟨aO, (aa : Int).toNat, none⟩ (.int .i64 (-1)))) ?hg ?ho ?hn ?hr ?_; (case ho => rfl); (case hg => rfl); (case hn => rfl); (case hr => first | (go_simp; done) | (go_simp; rfl)); intro cV hw; have hg : wr.grownBy cV (some aO) := (by rw [hw]; exact bx.2); have hp_ : Kd.R (Kd.int .i64) 3 cV w.heap.size (fun _ => True) (.slice (some ⟨aO, 0, none⟩) ak.length a5) bM := (by rw [hw, bT.1]; exact bx.1); clear bx; replace aj := am (Kd.N_afterv (v := (.slice (some ⟨aO, 0, none⟩) ak.length a5)) (v1 := (.slice (some ⟨aO, 0, none⟩) ak.length a5)) (ok := (fun _ => True)) (by (with_reducible repeat (first | apply Kd.N_alloc | apply Kd.N_drewN | apply Kd.N_drew)); exact Kd.N_mono aj.1 (fun _ hk => ⟨trivial, hk⟩)) hg (.inl rfl)); replace ai := am hp_; replace al := am (Kd.V_afterv (v := (.slice (some ⟨aO, 0, none⟩) ak.length a5)) (v1 := (.slice (some ⟨aO, 0, none⟩) ak.length a5)) (ok := (fun k_ => some k_ ≠ (.slice (some au) ab.length cg : Value).ownBlock)) (by (with_reducible repeat (first | apply Kd.V_alloc | apply Kd.V_drewN | apply Kd.V_drew)); exact Kd.V_mono al.1 (fun _ hk => ⟨hk.2, hk.1⟩)) hg (.inl rfl)); replace HB := am ((by rw [hw]; exact below_set (HB.1) cp.1 : Below w.heap.size w cV)); clear hg hw hp_))
  go_roundg k2
  case measure => have := bo.1; have := bp.1; omega
  case rel => exact ⟨(bM), (wrap64 (aa + 1)), prs, H', ⟨by have := bo.1; have := bp.1; omega⟩, ⟨by (with_reducible repeat (first | apply Kd.N_alloc | apply Kd.N_drewN | apply Kd.N_drew)); exact Kd.N_mono aj.1 (fun _ hk => hk.2)⟩, ⟨pkr ai.1⟩, ⟨pbg⟩⟩
 obtain ⟨bi, ba⟩ : ∃ j_ : Int, (mx (rd ak aa) (rd (rd_L11 ab ae) aa)) = j_ := ⟨_, rfl⟩
 replace H : (r23_Bounds.l1 k2 ab (ak.set (aa : Int).toNat (bi)) ae (wrap64 (aa + 1))) = some r := by first | (rw [ba] at H; exact H) | (simp only [ba] at H ⊢; exact H)
 have hji27_ : (if (rd ak aa) < (rd (rd_L11 ab ae) aa) then (rd (rd_L11 ab ae) aa) else (rd ak aa)) = bi := ba
 obtain ⟨ce, bd⟩ : ∃ y_ : List Int, y_ = (ak.set (aa : Int).toNat (bi)) := ⟨_, rfl⟩
 replace H : (r23_Bounds.l1 k2 ab ce ae (wrap64 (aa + 1))) = some r := hrp bd H
 have bU := am bd
 clear bd
 have H' := am H
 clear H
 obtain ⟨dn, dC, cA⟩ := Kd.R_slice ai.1
 subst cA
 have ax : 0 ≤ (ae : Int) := dq
 have ay : ae < (ab.length : Int) := dq
 obtain ⟨aM, a2, a3, a6, aw, ap, ao⟩ := at_L11 (Kd.N_reads' aj.1).2.2 ae ax ay
 obtain rfl : au = aM := (by injection a6)
 obtain ⟨bv, aE, aD, aq⟩ := Kd.N_get aj.1 [] ae ax (by first | exact ay | exact dq | (have e_ := (Kd.N_reads' aj.1).1; omega))
 obtain ⟨aX, aY, rfl, ah, ag⟩ := Kd.FK_slice_open aD
 have ac := aq 0 _ rfl
 rw [Nat.add_zero, show ((Kd.slice 3 (Kd.int .i64))).sz = 1 from rfl, Nat.mul_one] at ac
 replace ac := Option.some.inj (ac.symm.trans aw)
 injection ac with hva_ hvn_ hvc_
 rw [hva_] at ag
 rw [hvc_] at ah
 have al := am (show Kd.V (Kd.int .i64) 3 _ w.heap.size _ _ (rd_L11 ab ae) from Kd.V_mk ah ag)
 clear hva_ hvn_ hvc_ ag ah aq aE
 have af := am ao
 have aP := am ap
 clear ao ap
 replace ax := eq_true ax
 replace ay := eq_true ay
 obtain ⟨cb, cd, bq, a7, aV⟩ := dint (by repeat (first | (with_reducible exact af.1) | (with_reducible refine Kd.C_alloc ?_ _) | (with_reducible refine Kd.C_drewN ?_ _) | (with_reducible refine Kd.C_drew ?_) | exact af.1)) aa
 cases a7
 obtain ⟨cO, cS, br, bD, aC⟩ := dint (Kd.R_reads' ai.1).2.2 aa
 cases bD
 try go_wp2
 replace aj := am (Kd.N_drew aj.1)
 replace ai := am (Kd.R_drew ai.1)
 replace al := am (Kd.V_drew al.1)
 replace af := am (Kd.C_drew af.1)
 replace HB := am (below_drew1 HB.1)
 obtain ⟨dG, dI, bV, cv, aI⟩ := dint (Kd.R_reads' ai.1).2.2 aa
 obtain rfl : br = bV := (by injection cv)
 have bj : 0 ≤ (ae : Int) := dq
 have bk : ae < (ab.length : Int) := dq
 obtain ⟨bW, cn, bC, cw, aJ, aU, aS⟩ := at_L11 (Kd.N_reads' aj.1).2.2 ae bj bk
 obtain rfl : au = bW := (by injection cw)
 obtain ⟨di, bI, bG, a9⟩ := Kd.N_get aj.1 [] ae bj (by first | exact bk | exact dq | (have e_ := (Kd.N_reads' aj.1).1; omega))
 obtain ⟨ci, ck, rfl, aL, aH⟩ := Kd.FK_slice_open bG
 have aB := a9 0 _ rfl
 rw [Nat.add_zero, show ((Kd.slice 3 (Kd.int .i64))).sz = 1 from rfl, Nat.mul_one] at aB
 replace aB := Option.some.inj (aB.symm.trans aJ)
 injection aB with hva_ hvn_ hvc_
 rw [hva_] at aH
 rw [hvc_] at aL
 have bh := am (show Kd.V (Kd.int .i64) 3 _ w.heap.size _ _ (rd_L11 ab ae) from Kd.V_mk aL aH)
 clear hva_ hvn_ hvc_ aH aL a9 bI
 have aF := am aS
 have cf := am aU
 clear aS aU
 replace bj := eq_true bj
 replace bk := eq_true bk
 obtain ⟨dH, dJ, bs, cx, aW⟩ := dint (by repeat (first | (with_reducible exact aF.1) | (with_reducible refine Kd.C_alloc ?_ _) | (with_reducible refine Kd.C_drewN ?_ _) | (with_reducible refine Kd.C_drew ?_) | exact aF.1)) aa
 cases cx
 have cN : 0 ≤ (aa : Int) := dq
 have cR : (aa : Int) < ((ak.length : Int) : Int) := dq
 obtain ⟨bE, dB, b7, ca, cE, dx, bP⟩ := Kd.R_form ai.1 (by omega)
 (first | cases b7 | (injection b7 with ea_ en_ ec_; (first | subst ea_ | (injection ea_ with ea_; subst ea_)); subst ec_; clear en_))
 have dr := am ca
 have cq := am bP
 clear ca cE bP
 (first | simp only [add_plain] at aC | skip)
 (first | simp only [add_plain] at aI | skip)
 obtain ⟨bK, bJ⟩ := Kd.R_celln 0 ai.1 (aa : Int) cN cR
 replace cN := eq_true cN
 replace cR := eq_true cR
 have bz := Kd.R_putn ai.1 (aa : Int) bi
 rw [← bU.1] at bz
 have bR := am bz
 clear bz
 refine start_ (n := 16) (S := fun w' => w'.cell? ⟨bE, (aa).toNat, none⟩ = some (.int .i64 (rd ak aa)) ∧ w'.cell? (au.add (ae).toNat) = some (.slice (some bs) (rd_L11 ab ae).length bC) ∧ w'.cell? (bs.add (aa).toNat) = some (.int .i64 (rd (rd_L11 ab ae) aa))) (ds := [15]) #[false, false, false, false, false, false, false, false, false, false, false, false, false, false, false, false] (by kernel_rfl) rfl rfl ⟨aI, aJ, aW⟩ (fun hHeld => ?_); refine with_tabW r23_Bounds.tab13 r23_Bounds.bits13 (fun HT_ HW_ => ?_)
 generalize wr.drew = dO at aj ai al af HB cq bh bR aF bJ bK aC aI aJ aW hHeld ⊢
 refine pu HT_.1 0 46 ?_
 refine pu HT_.1 1 47 ?_
 refine pu HT_.1 2 48 ?_
 refine pu HT_.1 3 49 ?_
 refine pu HT_.1 4 50 ?_
 refine pu HT_.1 6 52 ?_
 refine pu HT_.1 7 53 ?_
 refine pu HT_.1 8 54 ?_
 refine pu HT_.1 10 56 ?_
 refine tk HT_.1 HW_.1 hHeld 5 51 ?_
 refine tk HT_.1 HW_.1 hHeld 9 55 ?_
 refine pu HT_.1 11 57 ?_
 refine tk HT_.1 HW_.1 hHeld 12 58 ?_
 refine pu HT_.1 13 59 ?_
 refine pu HT_.1 14 60 ?_
 refine la HT_.1 15 none rfl fun K hK => ?_
 refine skip_ (w1 := ?_) (by rfl) rfl ?_ ?_
 rotate_left
 ·go_simp
  rfl
 refine hK.out _ _ ?_
 clear hK K
 refine done_ (done_of HT_.1 (by kernel_rfl)) ?_
 try go_wp2
 go_roundg k2
 case measure => have := bo.1; have := bp.1; omega
 case rel => exact ⟨(ce), (wrap64 (aa + 1)), prs, H', ⟨by have := bo.1; have := bp.1; omega⟩, ⟨by (with_reducible repeat (first | apply Kd.N_alloc | apply Kd.N_drewN | apply Kd.N_drew)); exact Kd.N_mono (Kd.N_far (p := ⟨bE, (aa : Int).toNat, none⟩) (Kd.N_mono aj.1 (fun k_ hk => (⟨hk, fun e_ => hk (by rw [e_]; rfl)⟩ : _ ∧ k_ ≠ bE))) (fun _ hk => hk.2) _) (fun _ hk => hk.1)⟩, ⟨pkr bR.1⟩, ⟨pbg⟩⟩

/-! ### r23_Bounded: function 23 -/
def r23_Bounded.f (k : Nat) (l0 : List (List Int)) : Option (Bool) := (r05_Considered.f k l0).bind fun ac => ((r23_Bounds.f k l0).bind fun af => (if (ac.length : Int) > 0 then ((r05_Finite.f k af).bind fun ag => (some ((ag.length : Int) == (af.length : Int)))) else (some false)))
theorem r23_Bounded.mono : ∀ a0 k, LeO (r23_Bounded.f k a0) (r23_Bounded.f (k + 1) a0) := by
 intro a0 k
 unfold r23_Bounded.f
 repeat' first | (with_reducible first | apply r05_Considered.mono | apply r05_Finite.mono | apply r23_Bounds.mono | apply lr | apply ln | apply li | refine lb ?_ fun _ => ?_)
set_option maxHeartbeats 8000000 in
set_option maxRecDepth 100000 in
theorem r23_Bounded.calls (k : Nat) (A0 : Option Addr) (c0 : Nat) (l0 : List (List Int)) (r : Bool) (w : World) (au : Kd.C (Kd.slice 3 (Kd.int .i64)) w A0 l0.length l0) (hc0 : l0.length ≤ c0) (h : r23_Bounded.f k l0 = some r) :
  Calls Try.prog 23 #[.slice A0 l0.length c0] w fun e w' => e = .returned (.bool r) ∧ Below w.heap.size w w' := by
 have aj := am au
 have ai := am hc0
 clear au hc0
 have HB := am (Below.refl w.heap.size w)
 have H := h
 unfold r23_Bounded.f at H
 clear h
 replace H := bnd H
 obtain ⟨ac, A2, H⟩ := H
 (try dsimp only at H)
 replace H := bnd H
 obtain ⟨af, A3, H⟩ := H
 (try dsimp only at H)
 by_cases c4 : (ac.length : Int) > 0
 rotate_left
 ·rw [if_neg c4] at H
  have ak : decide (0 < (ac.length : Int)) = false := decide_eq_false c4
  have al : decide (0 < ac.length) = false := decide_eq_false (by omega)
  clear c4
  obtain rfl := Option.some.inj H
  go_enter Try.func23, Try.ntmps23
  go_wp2_with (first | ((with_reducible refine gate_callee (f := 41) rfl ?_); refine gC 6 Try.func41 _ (r05_Considered.calls k (fun k_ => k_ < w.heap.size) _ _ l0 ac _ (Kd.V_mk ai.1 (Kd.F_below (Kd.C_F (Kd.heap_slice 3 (Kd.heap_int .i64)) aj.1) pbl)) A2.1) ?_; rintro e aH ⟨aq, rfl, ae, hb⟩; refine ⟨_, rfl, ?_⟩; have aa := am (Kd.N_lower (Kd.N_mono (ok' := fun k_ => True) ae (fun k_ hk_ => trivial)) (below_size pbl)); replace HB := bsl hb; (try clear hb); (try clear ae)) | ((with_reducible refine gate_callee (f := 21) rfl ?_); refine gC 8 Try.func21 _ (r23_Bounds.calls k _ _ l0 af _ (csb aj HB) ai.1 A3.1) ?_; rintro e aI ⟨ar, rfl, ae, hb⟩; refine ⟨_, rfl, ?_⟩; have ab := am (Kd.R_lower ae (below_size pbl)); replace aa := am (Kd.N_elder' (pkn aa.1) (Kd.R_base ae) hb); replace HB := bsl hb; (try clear hb); (try clear ae); obtain ⟨aw, ay, ap⟩ := Kd.N_slice aa.1; subst ap))
  go_ret
  exact ⟨per, pbg⟩
 rw [if_pos c4] at H
 have ak : decide (0 < (ac.length : Int)) = true := decide_eq_true c4
 have al : decide (0 < ac.length) = true := decide_eq_true (by omega)
 clear c4
 replace H := bnd H
 obtain ⟨ag, A5, H⟩ := H
 (try dsimp only at H)
 obtain rfl := Option.some.inj H
 go_enter Try.func23, Try.ntmps23
 go_wp2_with (first | ((with_reducible refine gate_callee (f := 41) rfl ?_); refine gC 6 Try.func41 _ (r05_Considered.calls k (fun k_ => k_ < w.heap.size) _ _ l0 ac _ (Kd.V_mk ai.1 (Kd.F_below (Kd.C_F (Kd.heap_slice 3 (Kd.heap_int .i64)) aj.1) pbl)) A2.1) ?_; rintro e w6 ⟨aq, rfl, ae, hb⟩; refine ⟨_, rfl, ?_⟩; have aa := am (Kd.N_lower (Kd.N_mono (ok' := fun k_ => True) ae (fun k_ hk_ => trivial)) (below_size pbl)); replace HB := bsl hb; (try clear hb); (try clear ae)) | ((with_reducible refine gate_callee (f := 21) rfl ?_); refine gC 8 Try.func21 _ (r23_Bounds.calls k _ _ l0 af _ (csb aj HB) ai.1 A3.1) ?_; rintro e w7 ⟨ar, rfl, ae, hb⟩; refine ⟨_, rfl, ?_⟩; have ab := am (Kd.R_lower ae (below_size pbl)); replace aa := am (Kd.N_elder' (pkn aa.1) (Kd.R_base ae) hb); replace HB := bsl hb; (try clear hb); (try clear ae); obtain ⟨aC, aE, az⟩ := Kd.N_slice aa.1; subst az; obtain ⟨aD, aF, aA⟩ := Kd.R_slice ab.1; subst aA) | (go_at_call 45; (with_reducible refine (r05_Finite.calls k _ _ af ag _ ?side1 ?side2 A5.1).mono ?_); (case side1 => exact csd ((Kd.R_reads' ab.1).2.2)); (case side2 => exact (Kd.R_reads' ab.1).2.1); rintro e aG ⟨aB, rfl, ae, hb⟩; have ah := am (Kd.R_lower (Kd.R_new' ae (Kd.R_lt (pkr ab.1))) (below_size pbl)); replace aa := am (Kd.N_elder' (pkn aa.1) (Kd.R_base ae) hb); replace ab := am (Kd.R_elder' (pkr ab.1) (Kd.R_base ae) hb); replace HB := bsl hb; (try clear hb); (try clear ae); obtain ⟨av, ax, ao⟩ := Kd.R_slice ah.1; subst ao))
 go_ret
 exact ⟨per, pbg⟩

/-! ### petrinetlaw23_MincoverLooks: function 5 -/
def petrinetlaw23_MincoverLooks.f (k : Nat) (l0 : List (List Int)) (l1 : List Int) : Option (Bool) := if (l0.length : Int) > 60 then ((petrinetlaw23_exampleHolds.f k).bind fun aj => (some aj)) else ((mincover_Covers.f k l0 l1).bind fun ac => ((r23_Covers.f k l0 l1).bind fun ae => (if (ac == ae) = true then ((mincover_Bounds.f k l0).bind fun ah => ((r23_Bounds.f k l0).bind fun ai => ((r04_Same.f k ah ai).bind fun ak => (if ak = true then ((mincover_Bounded.f k l0).bind fun af => ((r23_Bounded.f k l0).bind fun ag => (if (af == ag) = true then ((petrinetlaw23_exampleHolds.f k).bind fun al => (some al)) else (none)))) else (none))))) else (none))))
theorem petrinetlaw23_MincoverLooks.mono : ∀ a0 a1 k, LeO (petrinetlaw23_MincoverLooks.f k a0 a1) (petrinetlaw23_MincoverLooks.f (k + 1) a0 a1) := by
 intro a0 a1 k
 unfold petrinetlaw23_MincoverLooks.f
 repeat' first | (with_reducible first | apply mincover_Bounded.mono | apply mincover_Bounds.mono | apply mincover_Covers.mono | apply petrinetlaw23_exampleHolds.mono | apply r04_Same.mono | apply r23_Bounded.mono | apply r23_Bounds.mono | apply r23_Covers.mono | apply lr | apply ln | apply li | refine lb ?_ fun _ => ?_)
set_option maxHeartbeats 8000000 in
set_option maxRecDepth 100000 in
theorem petrinetlaw23_MincoverLooks.calls (k : Nat) (A0 : Option Addr) (c0 : Nat) (l0 : List (List Int)) (A1 : Option Addr) (c1 : Nat) (l1 : List Int) (r : Bool) (w : World) (aE : Kd.C (Kd.slice 3 (Kd.int .i64)) w A0 l0.length l0) (hc0 : l0.length ≤ c0) (hr1 : Kd.C (Kd.int .i64) w A1 l1.length l1) (aD : l1.length ≤ c1) (h : petrinetlaw23_MincoverLooks.f k l0 l1 = some r) :
  Calls Try.prog 5 #[.slice A0 l0.length c0, .slice A1 l1.length c1] w fun e w' => e = .returned (.bool r) ∧ Below w.heap.size w w' := by
 have ap := am aE
 have ao := am hc0
 clear aE hc0
 have az := am hr1
 have ay := am aD
 clear hr1 aD
 have HB := am (Below.refl w.heap.size w)
 have H := h
 unfold petrinetlaw23_MincoverLooks.f at H
 clear h
 by_cases c3 : (l0.length : Int) > 60
 ·rw [if_pos c3] at H
  have au : decide (60 < (l0.length : Int)) = true := decide_eq_true c3
  have av : decide (60 < l0.length) = true := decide_eq_true (by omega)
  clear c3
  replace H := bnd H
  obtain ⟨aj, A4, H⟩ := H
  (try dsimp only at H)
  obtain rfl := Option.some.inj H
  go_enter Try.func5, Try.ntmps5
  go_wp2_with (first | ((with_reducible refine gate_callee (f := 13) rfl ?_); refine gC 8 Try.func13 _ (petrinetlaw23_exampleHolds.calls k  aj _ A4.1) ?_; rintro e w5 ⟨rfl, hb⟩; refine ⟨_, rfl, ?_⟩; replace HB := bsl hb; (try clear hb)))
  go_ret
  exact ⟨per, pbg⟩
 rw [if_neg c3] at H
 have au : decide (60 < (l0.length : Int)) = false := decide_eq_false c3
 have av : decide (60 < l0.length) = false := decide_eq_false (by omega)
 clear c3
 replace H := bnd H
 obtain ⟨ac, A6, H⟩ := H
 (try dsimp only at H)
 replace H := bnd H
 obtain ⟨ae, A7, H⟩ := H
 (try dsimp only at H)
 replace H := ifp H
 obtain ⟨c8, H⟩ := H
 have aI := c8
 (try (have aJ : decide (ac = ae) = true := by simpa using c8))
 (try (have aK : (ac == ae) = true := by simpa using c8))
 clear c8
 replace H := bnd H
 obtain ⟨ah, A9, H⟩ := H
 (try dsimp only at H)
 replace H := bnd H
 obtain ⟨ai, A10, H⟩ := H
 (try dsimp only at H)
 replace H := bnd H
 obtain ⟨ak, A11, H⟩ := H
 (try dsimp only at H)
 cases ak
 ·rw [if_neg Bool.false_ne_true] at H
  exact absurd H (by simp)
 rw [if_pos rfl] at H
 replace H := bnd H
 obtain ⟨af, A13, H⟩ := H
 (try dsimp only at H)
 replace H := bnd H
 obtain ⟨ag, A14, H⟩ := H
 (try dsimp only at H)
 replace H := ifp H
 obtain ⟨ar, H⟩ := H
 have aA := ar
 (try (have aB : decide (af = ag) = true := by simpa using ar))
 (try (have aC : (af == ag) = true := by simpa using ar))
 clear ar
 replace H := bnd H
 obtain ⟨al, aF, H⟩ := H
 (try dsimp only at H)
 obtain rfl := Option.some.inj H
 go_enter Try.func5, Try.ntmps5
 go_wp2_with (first | ((with_reducible refine gate_callee (f := 17) rfl ?_); refine gC 11 Try.func17 _ (mincover_Covers.calls k _ _ l0 _ _ l1 ac _ (csd ap.1) ao.1 (csd az.1) ay.1 A6.1) ?_; rintro e aP ⟨rfl, hb⟩; refine ⟨_, rfl, ?_⟩; replace HB := bsl hb; (try clear hb)) | ((with_reducible refine gate_callee (f := 18) rfl ?_); refine gC 14 Try.func18 _ (r23_Covers.calls k _ _ l0 _ _ l1 ae _ (csb ap HB) ao.1 (csb az HB) ay.1 A7.1) ?_; rintro e aQ ⟨rfl, hb⟩; refine ⟨_, rfl, ?_⟩; replace HB := bsl hb; (try clear hb)) | (go_at_call 20; (with_reducible refine (mincover_Bounds.calls k _ _ l0 ah _ ?side1 ?side2 A9.1).mono ?_); (case side1 => exact csb ap HB); (case side2 => exact ao.1); rintro e aR ⟨aN, rfl, aq, hb⟩; have aa := am (Kd.R_lower aq (below_size pbl)); replace HB := bsl hb; (try clear hb); (try clear aq)) | (go_at_call 21; (with_reducible refine (r23_Bounds.calls k _ _ l0 ai _ ?side1 ?side2 A10.1).mono ?_); (case side1 => exact csb ap HB); (case side2 => exact ao.1); rintro e aS ⟨aO, rfl, aq, hb⟩; have ab := am (Kd.R_lower (Kd.R_new' aq (Kd.R_lt (pkr aa.1))) (below_size pbl)); replace aa := am (Kd.R_elder' (pkr aa.1) (Kd.R_base aq) hb); replace HB := bsl hb; (try clear hb); (try clear aq); obtain ⟨aG, aL, aw⟩ := Kd.R_slice aa.1; subst aw; obtain ⟨aH, aM, ax⟩ := Kd.R_slice ab.1; subst ax) | (go_at_call 19; (with_reducible refine (r04_Same.calls k _ _ ah _ _ ai true _ ?side1 ?side2 ?side3 ?side4 A11.1).mono ?_); (case side1 => exact csd ((Kd.R_reads' aa.1).2.2)); (case side2 => exact (Kd.R_reads' aa.1).2.1); (case side3 => exact csd ((Kd.R_reads' ab.1).2.2)); (case side4 => exact (Kd.R_reads' ab.1).2.1); rintro e w' ⟨rfl, ⟨nd, rfl⟩⟩) | (go_at_call 22; (with_reducible refine (mincover_Bounded.calls k _ _ l0 af _ ?side1 ?side2 A13.1).mono ?_); (case side1 => exact csd ((Kd.C_below ap.1 pbl))); (case side2 => exact ao.1); rintro e aT ⟨rfl, hb⟩; replace aa := rbw aa hb; replace ab := rbw ab hb; replace HB := bsl hb; (try clear hb)) | (go_at_call 23; (with_reducible refine (r23_Bounded.calls k _ _ l0 ag _ ?side1 ?side2 A14.1).mono ?_); (case side1 => exact csb ap HB); (case side2 => exact ao.1); rintro e aU ⟨rfl, hb⟩; replace aa := rbw aa hb; replace ab := rbw ab hb; replace HB := bsl hb; (try clear hb)) | (go_at_call 13; (with_reducible refine (petrinetlaw23_exampleHolds.calls k  al _ aF.1).mono ?_); rintro e aV ⟨rfl, hb⟩; replace aa := rbw aa hb; replace ab := rbw ab hb; replace HB := bsl hb; (try clear hb)))
 go_ret
 exact ⟨per, pbg⟩

end Go.Proofs.Ytaoogghpadifiaa.P
