-- LAID BY OUR PROGRAM OVER THE PRINT (xprint.py, part.py): Lean checks it.
import Derived.Test.YtaoogghpadifiaaPx0
import Derived.Test.YtaoogghpadifiaaPx1
import Derived.Test.YtaoogghpadifiaaPx4
import Derived.Test.YtaoogghpadifiaaPx7
import Derived.Test.YtaoogghpadifiaaPx9
import Derived.Test.YtaoogghpadifiaaPx10
import Derived.Test.YtaoogghpadifiaaPx17
namespace Go.Proofs.Ytaoogghpadifiaa.P
open Go.RowKit Go.Proofs.YtaoogghpadifiaaW.PrintWords Go.Proofs.YtaoogghpadifiaaW.PrintLast Go.Proofs.YtaoogghpadifiaaW.PrintMore
attribute [local go_sem] max2_int min2_int max_two min_two max_three min_three max_four min_four   -- for this text's walks alone
set_option linter.unusedVariables false
set_option linter.unusedSimpArgs false

/-! ### r23_Quasi: function 25 -/
mutual
def r23_Quasi.l0 : Nat → List (List Int) → List Bool → Int → ByteArray → List (S64) → List (S38) → Option (List Int)
 | 0, _, _, _, _, _, _ => none
 | k + 1, x5, x6, x7, aq, ar, au => if x7 < (x5.length : Int) then (if 0 ≤ x7 then ((r22_Enabled.f k aq ar au (rd_L11 x5 x7)).bind fun av => (r23_Quasi.l1 k x5 x6 x7 av 0 aq ar au)) else (none)) else (r23_Quasi.l2 k x6 ([] : List Int) 0)
def r23_Quasi.l1 : Nat → List (List Int) → List Bool → Int → List Int → Int → ByteArray → List (S64) → List (S38) → Option (List Int)
 | 0, _, _, _, _, _, _, _, _ => none
 | k + 1, x5, x6, x7, x8, x9, aq, ar, au => if x9 < (x8.length : Int) then (if 0 ≤ x9 then (if 0 ≤ (rd x8 x9) then (if (rd x8 x9) < (x6.length : Int) then (r23_Quasi.l1 k x5 (x6.set ((rd x8 x9) : Int).toNat true) x7 x8 (wrap64 (x9 + 1)) aq ar au) else (none)) else (none)) else (none)) else (r23_Quasi.l0 k x5 x6 (wrap64 (x7 + 1)) aq ar au)
def r23_Quasi.l2 : Nat → List Bool → List Int → Int → Option (List Int)
 | 0, _, _, _ => none
 | k + 1, x6, x10, x11 => if x11 < (x6.length : Int) then (if 0 ≤ x11 then (if rdOf false x6 x11 = true then (if x10.length < 17592186044416 then (r23_Quasi.l2 k x6 (x10 ++ [x11]) (wrap64 (x11 + 1))) else (none)) else (r23_Quasi.l2 k x6 x10 (wrap64 (x11 + 1)))) else (none)) else (some x10)
end
def r23_Quasi.f (k : Nat) (ai : ByteArray) (af : List (S64)) (ac : List (S38)) (l1 : List (List Int)) : Option (List Int) := (r05_Considered.f k l1).bind fun aj => (if 0 ≤ (ac.length : Int) then (if ((ac.length : Int) : Int).toNat ≤ 281474976710656 then (r23_Quasi.l0 k aj (List.replicate ((ac.length : Int) : Int).toNat false) 0 ai af ac) else (none)) else (none))
theorem r23_Quasi.mono_l : ∀ k, M6 r23_Quasi.l0 k ∧ M8 r23_Quasi.l1 k ∧ M3 r23_Quasi.l2 k
 | 0 => ⟨fun _ _ _ _ _ _ r h => by simp [r23_Quasi.l0] at h, fun _ _ _ _ _ _ _ _ r h => by simp [r23_Quasi.l1] at h, fun _ _ _ r h => by simp [r23_Quasi.l2] at h⟩
 | k + 1 => by
  obtain ⟨cp, cq, cr⟩ := r23_Quasi.mono_l k
  refine ⟨?_, ?_, ?_⟩ <;> dsimp only [M3, M6, M8] <;> intros <;> (first | unfold r23_Quasi.l0 | unfold r23_Quasi.l1 | unfold r23_Quasi.l2) <;> repeat' first | (with_reducible first | apply cp | apply cq | apply cr | apply r05_Considered.mono | apply r22_Enabled.mono | apply lr | apply ln | apply li | refine lb ?_ fun _ => ?_)
theorem r23_Quasi.mono : ∀ a0 a1 a2 a3 k, LeO (r23_Quasi.f k a0 a1 a2 a3) (r23_Quasi.f (k + 1) a0 a1 a2 a3) := by
 intro a0 a1 a2 a3 k
 obtain ⟨cp, cq, cr⟩ := r23_Quasi.mono_l k
 unfold r23_Quasi.f
 repeat' first | (with_reducible first | apply cp | apply cq | apply cr | apply r05_Considered.mono | apply r22_Enabled.mono | apply lr | apply ln | apply li | refine lb ?_ fun _ => ?_)
set_option maxHeartbeats 8000000 in
set_option maxRecDepth 100000 in
theorem r23_Quasi.calls (k : Nat) (ai : ByteArray) (aH : Option Addr) (aJ : Nat) (af : List (S64)) (aI : Option Addr) (aK : Nat) (ac : List (S38)) (A1 : Option Addr) (c1 : Nat) (l1 : List (List Int)) (r : List Int) (w : World) (bo : Kd.C k64 w aH af.length af) (bm : af.length ≤ aJ) (bp : Kd.C k38 w aI ac.length ac) (bn : ac.length ≤ aK) (hr1 : Kd.C (Kd.slice 3 (Kd.int .i64)) w A1 l1.length l1) (cG : l1.length ≤ c1) (h : r23_Quasi.f k ai af ac l1 = some r) :
  Calls Try.prog 25 #[.agg #[.string ai, .slice aH af.length aJ, .slice aI ac.length aK], .slice A1 l1.length c1] w fun e w' => ∃ v0_ : Value, e = .returned (v0_) ∧ Kd.R (Kd.int .i64) 3 w' w.heap.size (fun _ => True) v0_ r ∧ Below w.heap.size w w' := by
 have cX := Try.underlying25
 have bJ := am bo
 have bD := am bm
 clear bo bm
 have bK := am bp
 have bE := am bn
 clear bp bn
 have cQ := am hr1
 have cP := am cG
 clear hr1 cG
 have HB := am (Below.refl w.heap.size w)
 have H := h
 unfold r23_Quasi.f at H
 clear h
 replace H := bnd H
 obtain ⟨aj, A3, H⟩ := H
 (try dsimp only at H)
 replace H := ifp H
 obtain ⟨c4, H⟩ := H
 have br := eq_true c4
 have bs : decide (0 ≤ (ac.length : Int)) = true := decide_eq_true c4
 clear c4
 replace H := ifp H
 obtain ⟨c5, H⟩ := H
 have bu := eq_true c5
 have bv : decide (((ac.length : Int) : Int).toNat ≤ 281474976710656) = true := decide_eq_true c5
 clear c5
 obtain ⟨bY, a6⟩ : ∃ y_ : List Bool, y_ = (List.replicate ((ac.length : Int) : Int).toNat false) := ⟨_, rfl⟩
 replace H : (r23_Quasi.l0 k aj bY 0 ai af ac) = some r := hrp a6 H
 have bi := am a6
 clear a6
 have H' := am H
 clear H
 go_enter Try.func25, Try.ntmps25
 go_wp2_with (first | ((with_reducible refine gate_dst (N := 2) rfl ?_); refine box_ev ?_; intro ag hg w6 hbox hb; have aa := am hbox; have bf := gwl hg; have cB := bf; replace HB := bsl hb; clear hb hbox hg) | ((with_reducible refine gate_callee (f := 41) rfl ?_); refine gC 13 Try.func41 _ (r05_Considered.calls k (fun k_ => k_ < w.heap.size) _ _ l1 aj _ (Kd.V_mk cP.1 (Kd.F_below (Kd.C_F (Kd.heap_slice 3 (Kd.heap_int .i64)) cQ.1) pbg)) A3.1) ?_; rintro e w7 ⟨cy, rfl, bA, hb⟩; refine ⟨_, rfl, ?_⟩; have aX := am (Kd.N_lower (Kd.N_mono (ok' := fun k_ => k_ ≠ ag) bA (fun k_ hk_ => Or.elim hk_ (fun hs_ => fun e_ => Nat.not_le.2 hs_ (by rw [e_]; exact bf.1)) (fun hn_ => (Kd.freshB (g := ag) (o := .cells #[.string ai, .slice aH af.length aJ, .slice aI ac.length aK] 25 (0, 0)) (by exact pbk aa.1) k_ hn_)))) (below_size pbg)); replace aa := bbh aa hb; replace HB := bst hb; (try clear hb); (try clear bA); have cA := cf3 aa.1) | ((with_reducible refine gate_dst (N := 17) rfl ?_); refine Kd.R_make Kd.bool _ 4 rfl (N := 17) rfl 57 _ _ rfl (ac.length : Int) rfl rfl Try.underlying57 (.bool false) 1 info4 rfl (by decide) (by omega) false (ok := fun _ => True) (okp := fun _ => True) rfl (fun _ hk => hk) trivial (dq) (Nat.le_trans (Nat.mul_le_mul_right _ (dq : (ac.length : Int).toNat ≤ 281474976710656)) (by omega)) (Below.refl _ _) (Nat.le_refl _) ?_; intro a9 w9 aT hb hg_ hnew_; clear hg_ hnew_; (first | rw [← bi.1] at aT | (simp only [Int.reduceToNat] at aT; rw [← bi.1] at aT)); have bG := am (Kd.R_lower aT (below_size pbg)); replace aX := am (Kd.N_elder' (pkn aX.1) (Kd.R_base aT) hb); replace aa := bbh aa hb; replace HB := bst hb; clear hb aT))
 go_loopg [7] k (fun kq v7 w' => ∃ (ay : List Bool) (ak : Int), v7 = .int .i64 ak ∧ Aside0 (r23_Quasi.l0 kq aj ay ak ai af ac = some r) ∧ Aside0 (kq ≤ k) ∧ Aside0 (Kd.N (Kd.slice 3 (Kd.int .i64)) 39 w' w.heap.size (fun k_ => some k_ ≠ (a9 : Value).ownBlock ∧ k_ ≠ ag) cy aj) ∧ Aside0 (Kd.R Kd.bool 4 w' w.heap.size (fun _ => True) a9 ay) ∧ Aside0 (w'.heap[ag]? = some (.cells #[.string ai, (.slice aH af.length aJ), (.slice aI ac.length aK)] 25 (0, 0))) ∧ Aside0 (Below w.heap.size w w'))
 case atStart => exact ⟨(bY), (0), prs, H', ⟨Nat.le_refl _⟩, ⟨by (with_reducible repeat (first | apply Kd.N_alloc | apply Kd.N_drewN | apply Kd.N_drew)); exact Kd.N_mono aX.1 (fun _ hk => ⟨hk.2, hk.1⟩)⟩, ⟨pkr bG.1⟩, ⟨pbk aa.1⟩, ⟨pbg⟩⟩
 clear H'
 try clear c1 c4 br bs c5 bu bv cA
 obtain ⟨ay, ak, rfl, HA, bg, ah, ab, aa, HB⟩ := hrel
 obtain _ | k1 := gk
 ·exact absurd HA.1 (by simp [r23_Quasi.l0])
 have H := HA.1
 clear HA
 simp only [r23_Quasi.l0] at H
 replace H := ifl H
 rcases H with ⟨aY, H⟩ | ⟨aY, H⟩
 rotate_left
 ·have H' := am H
  clear H
  obtain ⟨cK, cT, ci⟩ := Kd.N_slice ah.1
  subst ci
  go_wp2
  go_loopg [10, 11] k1 (fun kq cY cZ w' => ∃ (ap : List Int) (ae : Int), cZ = .int .i64 ae ∧ Aside0 (r23_Quasi.l2 kq ay ap ae = some r) ∧ Aside0 (kq ≤ k1) ∧ Aside0 (Kd.R Kd.bool 4 w' w.heap.size (fun _ => True) a9 ay) ∧ Aside0 (Kd.R (Kd.int .i64) 3 w' w.heap.size (fun _ => True) cY ap) ∧ Aside0 (w'.heap[ag]? = some (.cells #[.string ai, (.slice aH af.length aJ), (.slice aI ac.length aK)] 25 (0, 0))) ∧ Aside0 (Below w.heap.size w w'))
  case atStart => exact ⟨(([] : List Int)), (0), prs, H', ⟨Nat.le_refl _⟩, ⟨pkr ab.1⟩, ⟨knl⟩, ⟨pbk aa.1⟩, ⟨pbg⟩⟩
  clear H'
  try clear c1 c4 br bs c5 bu bv aY b0 bk dc bl b7 bR b8 bS b9 bT b2 b3 cA bB ao bd aU cu aV cw
  obtain ⟨ap, ae, rfl, HA, bb, ab, aA, aa, HB⟩ := hrel
  obtain _ | k2 := gk
  ·exact absurd HA.1 (by simp [r23_Quasi.l2])
  have H := HA.1
  clear HA
  simp only [r23_Quasi.l2] at H
  replace H := ifl H
  rcases H with ⟨bU, H⟩ | ⟨bU, H⟩
  rotate_left
  ·obtain rfl := Option.some.inj H
   obtain ⟨cN, cW, cm⟩ := Kd.R_slice ab.1
   subst cm
   go_wp2
   go_ret
   exact ⟨_, per, by (with_reducible repeat (first | apply Kd.R_alloc | apply Kd.R_drewN | apply Kd.R_drew)); exact aA.1, pbg⟩
  replace H := ifp H
  obtain ⟨cC, H⟩ := H
  have cD := decide_eq_true cC
  clear cC
  obtain ⟨bQ, a4⟩ : ∃ b_ : Bool, b_ = (rdOf false ay ae) := ⟨_, rfl⟩
  replace H : (if bQ = true then (if ap.length < 17592186044416 then (r23_Quasi.l2 k2 ay (ap ++ [ae]) (wrap64 (ae + 1))) else (none)) else (r23_Quasi.l2 k2 ay ap (wrap64 (ae + 1)))) = some r := by rw [← a4] at H; exact H
  have bh := am a4
  clear a4
  by_cases b1 : bQ = true
  rotate_left
  ·replace b1 := Bool.eq_false_iff.mpr b1
   subst b1
   rw [if_neg Bool.false_ne_true] at H
   have H' := am H
   clear H
   obtain ⟨cM, cV, ck⟩ := Kd.R_slice ab.1
   subst ck
   obtain ⟨cv, cx, bP, bw, aE⟩ := dbool (Kd.R_reads' ab.1).2.2 ae
   (try rw [← bh.1] at aE)
   cases bw
   go_wp2
   go_roundg k2
   case measure => have := bg.1; have := bb.1; omega
   case rel => exact ⟨(ap), (wrap64 (ae + 1)), prs, H', ⟨by have := bg.1; have := bb.1; omega⟩, ⟨pkr ab.1⟩, ⟨pkr aA.1⟩, ⟨pbk aa.1⟩, ⟨pbg⟩⟩
  subst b1
  rw [if_pos rfl] at H
  replace H := ifp H
  obtain ⟨cE, H⟩ := H
  have bL := am cE
  clear cE
  obtain ⟨bZ, a8⟩ : ∃ y_ : List Int, y_ = (ap ++ [ae]) := ⟨_, rfl⟩
  replace H : (r23_Quasi.l2 k2 ay bZ (wrap64 (ae + 1))) = some r := hrp a8 H
  have bN := am a8
  clear a8
  have H' := am H
  clear H
  obtain ⟨cL, cU, cj⟩ := Kd.R_slice ab.1
  subst cj
  obtain ⟨cv, cx, bP, bw, aE⟩ := dbool (Kd.R_reads' ab.1).2.2 ae
  (try rw [← bh.1] at aE)
  cases bw
  go_wp2_with (first | ((with_reducible refine gate_builtin (b := .append) (xs := #[.tmp 52, .tmp 54]) rfl ?_); at_builtin; refine Kd.R_append (Kd.int .i64) (w0 := w) w.heap.size rfl (.tmp 52) (.tmp 54) 39 3 (.int .i64 0) 8 rfl Try.underlying39 info3 rfl (by decide) (by omega) u10 ap ae [.int .i64 ae] (fun _ => True) (fun _ => False) rfl rfl ?aP (fun _ hk => hk.elim) ?aF ?aO ?aB ?aS ?aL ?_; (case aP => exact rfl); (case aB => exact pbg); (case aF => exact (fun _ _ => trivial)); (case aO => exact (pkr aA.1)); (case aS => exact (below_size pbg)); (case aL => have := bL.1; omega); intro da dh ho hb hg hat; rw [← bN.1] at ho; have bI := am ho; replace ab := am (Kd.R_over' (pkr ab.1) (Kd.R_typed (pkr aA.1)) (by decide) hg); replace aa := (bgr aa hg (Kd.R_ne aA.1 aa.1 (by decide))); replace HB := am hb; clear aA; clear ho hb hg hat))
  go_roundg k2
  case measure => have := bg.1; have := bb.1; omega
  case rel => exact ⟨(bZ), (wrap64 (ae + 1)), prs, H', ⟨by have := bg.1; have := bb.1; omega⟩, ⟨pkr ab.1⟩, ⟨pkr bI.1⟩, ⟨pbk aa.1⟩, ⟨pbg⟩⟩
 replace H := ifp H
 obtain ⟨b0, H⟩ := H
 have bk := decide_eq_true b0
 clear b0
 replace H := bnd H
 obtain ⟨av, A13, H⟩ := H
 (try dsimp only at H)
 have H' := am H
 clear H
 obtain ⟨cH, ca, cf⟩ := Kd.N_slice ah.1
 subst cf
 try go_wp2
 replace ah := am (Kd.N_drew ah.1)
 replace ab := am (Kd.R_drew ab.1)
 replace aa := am (blk_drew aa.1)
 replace HB := am (below_drew1 HB.1)
 have aU : 0 ≤ (ak : Int) := dq
 have aV : ak < (aj.length : Int) := dq
 obtain ⟨bj, aW, aZ, cd, ao, aN, aM⟩ := at_L11 (Kd.N_reads' ah.1).2.2 ak aU aV
 cases cd
 obtain ⟨cF, bz, bx, a5⟩ := Kd.N_get ah.1 [] ak aU (by first | exact aV | exact dq | (have e_ := (Kd.N_reads' ah.1).1; omega))
 obtain ⟨b4, b5, rfl, aG, aD⟩ := Kd.FK_slice_open bx
 have ax := a5 0 _ rfl
 rw [Nat.add_zero, show ((Kd.slice 3 (Kd.int .i64))).sz = 1 from rfl, Nat.mul_one] at ax
 replace ax := Option.some.inj (ax.symm.trans ao)
 injection ax with hva_ hvn_ hvc_
 rw [hva_] at aD
 rw [hvc_] at aG
 have aC := am (show Kd.V (Kd.int .i64) 3 _ w.heap.size _ _ (rd_L11 aj ak) from Kd.V_mk aG aD)
 clear hva_ hvn_ hvc_ aD aG a5 bz
 have al := am aM
 have ba := am aN
 clear aM aN
 replace aU := eq_true aU
 replace aV := eq_true aV
 refine start_ (n := 7) (S := fun w' => w'.cell? ⟨ag, 0, none⟩ = some (.string ai) ∧ w'.cell? ⟨ag, 1, none⟩ = some (.slice aH af.length aJ) ∧ w'.cell? ⟨ag, 2, none⟩ = some (.slice aI ac.length aK) ∧ w'.cell? (bj.add (ak).toNat) = some (.slice aW (rd_L11 aj ak).length aZ)) (ds := []) #[false, false, false, false, false, false, false] (by kernel_rfl) rfl rfl ⟨(blk_cell aa.1 0).trans rfl, (blk_cell aa.1 1).trans rfl, (blk_cell aa.1 2).trans rfl, ao⟩ (fun hHeld => ?_)
 generalize wr.drew = df at ah ab aa HB aC al ao hHeld ⊢
 refine pure_ (i := 1) (N := some 25) (v := ?_) (a' := ?_) #[false, true, false, false, false, false, false] rfl rfl (by kernel_rfl) (fun _ _ _ h => h) (Or.inl ⟨by rfl, ?_⟩) ?_ ?_
 rotate_left
 ·intro w'
  go_simp
  with_reducible rfl
 rotate_left
 ·simp only [Act.put, List.setIfInBounds_toArray, List.set_cons_zero, List.set_cons_succ, i64_w, i32_w]
  rfl
 refine pure_ (i := 2) (N := some 26) (v := ?_) (a' := ?_) #[false, true, true, false, false, false, false] rfl rfl (by kernel_rfl) (fun _ _ _ h => h) (Or.inl ⟨by rfl, ?_⟩) ?_ ?_
 rotate_left
 ·intro w'
  go_simp
  with_reducible rfl
 rotate_left
 ·simp only [Act.put, List.setIfInBounds_toArray, List.set_cons_zero, List.set_cons_succ, i64_w, i32_w]
  rfl
 refine pure_ (i := 3) (N := some 27) (v := ?_) (a' := ?_) #[false, true, true, true, false, false, false] rfl rfl (by kernel_rfl) (fun _ _ _ h => h) (Or.inl ⟨by rfl, ?_⟩) ?_ ?_
 rotate_left
 ·intro w'
  go_simp
  with_reducible rfl
 rotate_left
 ·simp only [Act.put, List.setIfInBounds_toArray, List.set_cons_zero, List.set_cons_succ, i64_w, i32_w]
  rfl
 refine take_ (i := 0) (N := some 24) (v := ?_) (a' := ?_) #[true, true, true, true, false, false, false] rfl rfl (by kernel_rfl) (fun _ _ _ h => h) (Or.inl ⟨by rfl, ?_⟩) hHeld ?_ ?_
 rotate_left
 ·rintro w' ⟨s0, s1, s2, s3⟩
  go_simp
  with_reducible rfl
 rotate_left
 ·simp only [Act.put, List.setIfInBounds_toArray, List.set_cons_zero, List.set_cons_succ, i64_w, i32_w]
  rfl
 refine take_ (i := 4) (N := some 28) (v := ?_) (a' := ?_) #[true, true, true, true, true, false, false] rfl rfl (by kernel_rfl) (fun _ _ _ h => h) (Or.inl ⟨by rfl, ?_⟩) hHeld ?_ ?_
 rotate_left
 ·rintro w' ⟨s0, s1, s2, s3⟩
  go_simp
  with_reducible rfl
 rotate_left
 ·simp only [Act.put, List.setIfInBounds_toArray, List.set_cons_zero, List.set_cons_succ, i64_w, i32_w]
  rfl
 refine one_ (i := 5) (N := some 29) #[true, true, true, true, true, true, false] rfl rfl (by kernel_rfl) (by decide) (fun K hK => ?_)
 refine goes_ Try.func49 (by kernel_rfl) rfl #[.agg #[.string ai, .slice aH af.length aJ, .slice aI ac.length aK], .slice aW (rd_L11 aj ak).length aZ] (by rfl) rfl rfl pgz ?_
 with_reducible refine (r22_Enabled.calls k1 ai _ _ af _ _ ac _ _ (rd_L11 aj ak) av _ ?side1 ?side2 ?side3 ?side4 ?side5 ?side6 A13.1).mono ?_
 (case side1 => exact csb bJ HB)
 (case side2 => exact bD.1)
 (case side3 => exact csb bK HB)
 (case side4 => exact bE.1)
 (case side5 => exact csd al.1)
 (case side6 => exact ba.1)
 rintro e dg ⟨bX, rfl, bA, hb⟩
 have HS3_ := (hb.cell (World.block_lt_of_cell? _ _ (hHeld.2.2.2))).trans (hHeld.2.2.2)
 refine ⟨_, rfl, ?_⟩
 have bH := am (Kd.R_lower bA (below_size pbg))
 replace ah := am (Kd.N_elder' (pkn ah.1) (Kd.R_base bA) hb)
 replace ab := rbw ab hb
 replace aC := am (Kd.V_elder' (pkv aC.1) (Kd.R_base bA) hb)
 replace aa := bbh aa hb
 replace al := cbb al hb
 replace HB := bst hb
 (try clear hb)
 (try clear de)
 (try clear hk)
 (try clear hi)
 (try clear bA)
 refine hK.out _ _ ⟨(blk_cell aa.1 0).trans rfl, (blk_cell aa.1 1).trans rfl, (blk_cell aa.1 2).trans rfl, HS3_⟩ (fun hHeld => ?_)
 clear hK K
 refine nm_ 29 ?_
 refine pure_ (i := 6) (N := some 8) (v := ?_) (a' := ?_) #[true, true, true, true, true, true, true] rfl rfl (by kernel_rfl) (fun _ _ _ h => h) (Or.inl ⟨by rfl, ?_⟩) ?_ ?_
 rotate_left
 ·intro w'
  go_simp
  with_reducible rfl
 rotate_left
 ·simp only [Act.put, List.setIfInBounds_toArray, List.set_cons_zero, List.set_cons_succ, i64_w, i32_w]
  rfl
 refine done_ (by kernel_rfl) ?_
 try go_wp2
 go_loopg [9] k1 (fun kq v9 w' => ∃ (az : List Bool) (aw : Int), v9 = .int .i64 aw ∧ Aside0 (r23_Quasi.l1 kq aj az ak av aw ai af ac = some r) ∧ Aside0 (kq ≤ k1) ∧ Aside0 (Kd.N (Kd.slice 3 (Kd.int .i64)) 39 w' w.heap.size (fun k_ => some k_ ≠ (a9 : Value).ownBlock ∧ some k_ ≠ (bX : Value).ownBlock ∧ k_ ≠ ag) (.slice (some bj) aj.length ca) aj) ∧ Aside0 (Kd.R Kd.bool 4 w' w.heap.size (fun _ => True) a9 az) ∧ Aside0 (Kd.R (Kd.int .i64) 3 w' w.heap.size (fun _ => True) bX av) ∧ Aside0 (w'.heap[ag]? = some (.cells #[.string ai, (.slice aH af.length aJ), (.slice aI ac.length aK)] 25 (0, 0))) ∧ Aside0 (Below w.heap.size w w'))
 case atStart => exact ⟨(ay), (0), prs, H', ⟨Nat.le_refl _⟩, ⟨by (with_reducible repeat (first | apply Kd.N_alloc | apply Kd.N_drewN | apply Kd.N_drew)); exact Kd.N_mono ah.1 (fun _ hk => ⟨hk.1.1, ⟨hk.2, hk.1.2⟩⟩)⟩, ⟨pkr ab.1⟩, ⟨pkr bH.1⟩, ⟨pbk aa.1⟩, ⟨pbg⟩⟩
 clear H'
 try clear c1 c4 br bs c5 bu bv db aY b0 bk cA ao aU aV
 obtain ⟨az, aw, rfl, HA, bb, ah, ab, aQ, aa, HB⟩ := hrel
 obtain _ | k2 := gk
 ·exact absurd HA.1 (by simp [r23_Quasi.l1])
 have H := HA.1
 clear HA
 simp only [r23_Quasi.l1] at H
 replace H := ifl H
 rcases H with ⟨bl, H⟩ | ⟨bl, H⟩
 rotate_left
 ·have H' := am H
  clear H
  obtain ⟨cJ, cS, ch⟩ := Kd.R_slice aQ.1
  subst ch
  go_wp2
  go_roundg k2
  case measure => have := bg.1; have := bb.1; omega
  case rel => exact ⟨(az), (wrap64 (ak + 1)), prs, H', ⟨by have := bg.1; have := bb.1; omega⟩, ⟨by (with_reducible repeat (first | apply Kd.N_alloc | apply Kd.N_drewN | apply Kd.N_drew)); exact Kd.N_mono ah.1 (fun _ hk => ⟨hk.1, hk.2.2⟩)⟩, ⟨pkr ab.1⟩, ⟨pbk aa.1⟩, ⟨pbg⟩⟩
 replace H := ifp H
 obtain ⟨b7, H⟩ := H
 have bR := decide_eq_true b7
 clear b7
 replace H := ifp H
 obtain ⟨b8, H⟩ := H
 have bS := decide_eq_true b8
 clear b8
 replace H := ifp H
 obtain ⟨b9, H⟩ := H
 have bT := decide_eq_true b9
 clear b9
 obtain ⟨bC, a7⟩ : ∃ y_ : List Bool, y_ = (az.set ((rd av aw) : Int).toNat true) := ⟨_, rfl⟩
 replace H : (r23_Quasi.l1 k2 aj bC ak av (wrap64 (aw + 1)) ai af ac) = some r := hrp a7 H
 have bM := am a7
 clear a7
 have H' := am H
 clear H
 obtain ⟨cI, cb, cg⟩ := Kd.R_slice aQ.1
 subst cg
 obtain ⟨cu, cw, bO, ce, bd⟩ := dint (Kd.R_reads' aQ.1).2.2 aw
 cases ce
 have b2 : 0 ≤ ((rd av aw) : Int) := dq
 have b3 : ((rd av aw) : Int) < ((az.length : Int) : Int) := dq
 obtain ⟨aR, bc, bV, bW, cn, cR, bF⟩ := Kd.R_form ab.1 (by omega)
 (first | cases bV | (injection bV with ea_ en_ ec_; (first | subst ea_ | (injection ea_ with ea_; subst ea_)); subst ec_; clear en_))
 have b6 := am bW
 have cO := am bF
 clear bW cn bF
 obtain ⟨bB, co⟩ := Kd.R_celln false ab.1 ((rd av aw) : Int) b2 b3
 replace b2 := eq_true b2
 replace b3 := eq_true b3
 have bq := Kd.R_putg ab.1 ((rd av aw) : Int) true
 go_wp2_with (first | ((with_reducible refine gate_store (t := 4) (p := 41) rfl ?_); refine store_event (t := 4) (p := 41) (v := ?vo_w24) (w1 := (wr.setCell ⟨aR, ((rd av aw) : Int).toNat, none⟩ (.bool true))) ?hg ?ho ?hn ?hr ?_; (case ho => rfl); (case hg => rfl); (case hn => rfl); (case hr => first | (go_simp; done) | (go_simp; rfl)); intro cz hw; have hg : wr.grownBy cz (some aR) := (by rw [hw]; exact bq.2); have hp_ : Kd.R Kd.bool 4 cz w.heap.size (fun _ => True) (.slice (some ⟨aR, 0, none⟩) az.length bc) bC := (by rw [hw, bM.1]; exact bq.1); clear bq; replace ah := am (Kd.N_afterv (v := (.slice (some ⟨aR, 0, none⟩) az.length bc)) (v1 := (.slice (some ⟨aR, 0, none⟩) az.length bc)) (ok := (fun k_ => some k_ ≠ (.slice (some bO) av.length cb : Value).ownBlock ∧ k_ ≠ ag)) (by (with_reducible repeat (first | apply Kd.N_alloc | apply Kd.N_drewN | apply Kd.N_drew)); exact Kd.N_mono ah.1 (fun _ hk => ⟨⟨hk.2.1, hk.2.2⟩, hk.1⟩)) hg (.inl rfl)); replace aQ := am (Kd.R_over' (v := (.slice (some ⟨aR, 0, none⟩) az.length bc)) (pkr aQ.1) (Kd.R_typed ab.1) (by decide) hg); replace aa := (bgr aa hg (Kd.R_ne ab.1 aa.1 (by decide))); replace ab := am hp_; replace HB := am ((by rw [hw]; exact below_set (HB.1) b6.1 : Below w.heap.size w cz)); clear hg hw hp_))
 go_roundg k2
 case measure => have := bg.1; have := bb.1; omega
 case rel => exact ⟨(bC), (wrap64 (aw + 1)), prs, H', ⟨by have := bg.1; have := bb.1; omega⟩, ⟨by (with_reducible repeat (first | apply Kd.N_alloc | apply Kd.N_drewN | apply Kd.N_drew)); exact Kd.N_mono ah.1 (fun _ hk => ⟨hk.2, ⟨hk.1.1, hk.1.2⟩⟩)⟩, ⟨pkr ab.1⟩, ⟨pkr aQ.1⟩, ⟨pbk aa.1⟩, ⟨pbg⟩⟩

/-! ### petrinetlaw23_MincoverQuasis: function 6 -/
def petrinetlaw23_MincoverQuasis.j0 : Nat → List (List Int) → Bool → ByteArray → List (S64) → List (S38) → Option (Bool)
 | 0, _, _, _, _, _ => none
 | k + 1, x1, bC, az, aA, aB => if bC = true then ((petrinetlaw23_exampleHolds.f k).bind fun aS => (some aS)) else ((mincover_Quasi.f k az aA aB x1).bind fun aM => ((r23_Quasi.f k az aA aB x1).bind fun aN => ((r04_Same.f k aM aN).bind fun aT => (if aT = true then ((petrinetlaw23_exampleHolds.f k).bind fun aU => (some aU)) else (none)))))
def petrinetlaw23_MincoverQuasis.f (k : Nat) (aw : ByteArray) (ak : List (S64)) (al : List (S38)) (l1 : List (List Int)) : Option (Bool) := (r09_Small.f k aw ak al).bind fun ai => (if ai.2.2.2 = true then (petrinetlaw23_MincoverQuasis.j0 k l1 (decide ((l1.length : Int) > 60)) ai.1 ai.2.1 ai.2.2.1) else (petrinetlaw23_MincoverQuasis.j0 k l1 true ai.1 ai.2.1 ai.2.2.1))
theorem petrinetlaw23_MincoverQuasis.mono_l : ∀ k, M5 petrinetlaw23_MincoverQuasis.j0 k
 | 0 => fun _ _ _ _ _ r h => by simp [petrinetlaw23_MincoverQuasis.j0] at h
 | k + 1 => by
  have bg := petrinetlaw23_MincoverQuasis.mono_l k
  ·intro y0 y1 y2 y3 y4
   unfold petrinetlaw23_MincoverQuasis.j0
   repeat' first | (with_reducible first | apply bg | apply mincover_Quasi.mono | apply petrinetlaw23_exampleHolds.mono | apply r04_Same.mono | apply r09_Small.mono | apply r23_Quasi.mono | apply lr | apply ln | apply li | refine lb ?_ fun _ => ?_)
theorem petrinetlaw23_MincoverQuasis.mono : ∀ a0 a1 a2 a3 k, LeO (petrinetlaw23_MincoverQuasis.f k a0 a1 a2 a3) (petrinetlaw23_MincoverQuasis.f (k + 1) a0 a1 a2 a3) := by
 intro a0 a1 a2 a3 k
 have bg := petrinetlaw23_MincoverQuasis.mono_l k
 unfold petrinetlaw23_MincoverQuasis.f
 repeat' first | (with_reducible first | apply bg | apply mincover_Quasi.mono | apply petrinetlaw23_exampleHolds.mono | apply r04_Same.mono | apply r09_Small.mono | apply r23_Quasi.mono | apply lr | apply ln | apply li | refine lb ?_ fun _ => ?_)
def petrinetlaw23_MincoverQuasis.T4 : Bool × List (List Nat × List Nat) := (true, [([], []), ([], []), ([0, 1], [0, 1]), ([], []), ([], []), ([3, 4, 2], [3, 4]), ([2, 5, 5], [2, 5]), ([6, 6], [6]), ([7, 7], [7]), ([7, 8], [7, 8]), ([9, 8, 0, 1, 2, 3, 4, 5, 6, 7, 8, 9], [9])])
def petrinetlaw23_MincoverQuasis.B4 : List Nat := [0, 0, 3, 0, 0, 31, 63, 127, 255, 511, 1023]
theorem petrinetlaw23_MincoverQuasis.tab4 : rtab .any (opsOf Try.f6 4) = petrinetlaw23_MincoverQuasis.T4 := by kernel_rfl
theorem petrinetlaw23_MincoverQuasis.bits4 : waitsOk petrinetlaw23_MincoverQuasis.T4.2 petrinetlaw23_MincoverQuasis.B4 = true := by kernel_rfl
set_option maxHeartbeats 8000000 in
set_option maxRecDepth 100000 in
theorem petrinetlaw23_MincoverQuasis.calls (k : Nat) (aw : ByteArray) (aE : Option Addr) (aI : Nat) (ak : List (S64)) (aF : Option Addr) (aJ : Nat) (al : List (S38)) (A1 : Option Addr) (c1 : Nat) (l1 : List (List Int)) (r : Bool) (w : World) (aQ : Kd.C k64 w aE ak.length ak) (aO : ak.length ≤ aI) (aR : Kd.C k38 w aF al.length al) (aP : al.length ≤ aJ) (hr1 : Kd.C (Kd.slice 3 (Kd.int .i64)) w A1 l1.length l1) (bn : l1.length ≤ c1) (h : petrinetlaw23_MincoverQuasis.f k aw ak al l1 = some r) :
  Calls Try.prog 6 #[.agg #[.string aw, .slice aE ak.length aI, .slice aF al.length aJ], .slice A1 l1.length c1] w fun e w' => e = .returned (.bool r) ∧ Below w.heap.size w w' := by
 have bv := Try.underlying25
 have aY := am aQ
 have aW := am aO
 clear aQ aO
 have aZ := am aR
 have aX := am aP
 clear aR aP
 have bl := am hr1
 have bk := am bn
 clear hr1 bn
 have HB := am (Below.refl w.heap.size w)
 have H := h
 unfold petrinetlaw23_MincoverQuasis.f at H
 clear h
 replace H := bnd H
 obtain ⟨⟨ax, ao, ap, a7⟩, A3, H⟩ := H
 (try dsimp only at H)
 have ba := am H
 clear H
 go_enter Try.func6, Try.ntmps6
 go_upto_region 2 with (first | ((with_reducible refine gate_dst (N := 2) rfl ?_); (try (refine gate_guard (by rfl) ?_; dsimp only)); refine box_ev ?_; intro aj hg w5 hbox hb; have ae := am hbox; have aq := gwl hg; have bi := aq; replace HB := bsl hb; clear hb hbox hg; have bD := cf3 ae.1) | ((with_reducible refine gate_callee (f := 10) rfl ?_); refine gC 9 Try.func10 _ (r09_Small.calls k aw (fun k_ => k_ < w.heap.size) _ _ ak (fun k_ => k_ < w.heap.size) _ _ al ax ao ap a7 _ (Kd.V_mk aW.1 (Kd.F_below (Kd.C_F k64_heap aY.1) pbg)) (Kd.V_mk aX.1 (Kd.F_below (Kd.C_F k38_heap aZ.1) pbg)) A3.1) ?_; rintro e w7 ⟨bx, bz, rfl, aD, ho1, hb⟩; refine ⟨_, rfl, ?_⟩; have ar := am (Kd.V_lower (Kd.V_mono (ok' := fun k_ => k_ ≠ aj) aD (fun k_ hk_ => Or.elim hk_ (fun hs_ => Or.elim hs_ (fun hs_ => fun e_ => Nat.not_le.2 hs_ (by rw [e_]; exact aq.1)) (fun hs_ => fun e_ => Nat.not_le.2 hs_ (by rw [e_]; exact aq.1))) (fun hn_ => (Kd.freshB (g := aj) (o := .cells #[.string aw, .slice aE ak.length aI, .slice aF al.length aJ] 25 (0, 0)) (by exact pbk ae.1) k_ hn_)))) (below_size pbg)); have au := am (Kd.V_lower (Kd.V_mono (ok' := fun k_ => k_ ≠ aj) ho1 (fun k_ hk_ => Or.elim hk_ (fun hs_ => Or.elim hs_ (fun hs_ => fun e_ => Nat.not_le.2 hs_ (by rw [e_]; exact aq.1)) (fun hs_ => fun e_ => Nat.not_le.2 hs_ (by rw [e_]; exact aq.1))) (fun hn_ => (Kd.freshB (g := aj) (o := .cells #[.string aw, .slice aE ak.length aI, .slice aF al.length aJ] 25 (0, 0)) (by exact pbk ae.1) k_ hn_)))) (below_size pbg)); replace ae := bbh ae hb; replace HB := bst hb; (try clear hb); (try clear aD); (try clear ho1)) | ((with_reducible refine gate_dst (N := 5) rfl ?_); (try (refine gate_guard (by rfl) ?_; dsimp only)); refine box_ev (N := 5) (cs := #[.string (⟨#[]⟩ : ByteArray), .slice none 0 0, .slice none 0 0]) (t := 25) ?_; intro af hg w8 hbox hb; have ac := am hbox; have aV := gwb hg; have bj := aV; have ag := nlt hg ae; have aC := ngt hg ae; replace ar := vbb ar hg hb; replace au := vbb au hg hb; replace ae := bbh ae hb; replace HB := bst hb; clear hb hbox hg; have bs := aC.1; have bu := ag.1; have bh := cf3 ac.1; obtain ⟨aG, aK, bd⟩ := Kd.V_slice ar.1; subst bd; obtain ⟨aH, aL, bf⟩ := Kd.V_slice au.1; subst bf))
 (try simp only [Act.put, List.setIfInBounds_toArray, List.set_cons_zero, List.set_cons_succ])
 go_cut [18] (fun bw wc => ∃ (kq : Nat) (ay : Bool), bw = .bool ay ∧ Aside0 (petrinetlaw23_MincoverQuasis.j0 kq l1 ay ax ao ap = some r) ∧ Aside0 (kq ≤ k) ∧ Aside0 (Kd.V k64 64 wc w.heap.size (fun k_ => k_ ≠ aj ∧ k_ ≠ af) (.slice aG ao.length aK) ao) ∧ Aside0 (Kd.V k38 38 wc w.heap.size (fun k_ => k_ ≠ aj ∧ k_ ≠ af) (.slice aH ap.length aL) ap) ∧ Aside0 (wc.heap[aj]? = some (.cells #[.string aw, (.slice aE ak.length aI), (.slice aF al.length aJ)] 25 (0, 0))) ∧ Aside0 (wc.heap[af]? = some (.cells #[.string ax, (.slice aG ao.length aK), (.slice aH ap.length aL)] 25 (0, 0))) ∧ Aside0 (Below w.heap.size w wc))
 case first =>
  have H := ba.1
  clear ba
  cases a7
  rotate_left
  ·rw [if_pos rfl] at H
   have H' := am H
   clear H
   go_wp2
   go_meet
   case rel => exact ⟨_, (decide ((l1.length : Int) > 60)), prs, H', ⟨by first | omega | exact Nat.le_refl _⟩, ⟨by (with_reducible repeat (first | apply Kd.V_alloc | apply Kd.V_drewN | apply Kd.V_drew)); exact Kd.V_mono (fV3 af (Kd.V_mono ar.1 (fun k_ hk => (⟨hk, hk.2⟩ : _ ∧ k_ ≠ af))) (fun _ hk => hk.2)) (fun _ hk => ⟨hk.1.1, hk.1.2⟩)⟩, ⟨by (with_reducible repeat (first | apply Kd.V_alloc | apply Kd.V_drewN | apply Kd.V_drew)); exact Kd.V_mono (fV3 af (Kd.V_mono au.1 (fun k_ hk => (⟨hk, hk.2⟩ : _ ∧ k_ ≠ af))) (fun _ hk => hk.2)) (fun _ hk => ⟨hk.1.1, hk.1.2⟩)⟩, ⟨by (with_reducible repeat (first | refine blk_drewN ?_ _ | refine blk_drew ?_ | refine blk_alloc ?_ _)); refine bf3 ?_ ag.1; exact pbk ae.1⟩, ⟨by (with_reducible repeat (first | refine blk_drewN ?_ _ | refine blk_drew ?_ | refine blk_alloc ?_ _)); exact bp3 (pbk ac.1)⟩, ⟨pbg⟩⟩
  rw [if_neg Bool.false_ne_true] at H
  have H' := am H
  clear H
  go_wp2
  go_meet
  case rel => exact ⟨_, (true), prs, H', ⟨by first | omega | exact Nat.le_refl _⟩, ⟨by (with_reducible repeat (first | apply Kd.V_alloc | apply Kd.V_drewN | apply Kd.V_drew)); exact Kd.V_mono (fV3 af (Kd.V_mono ar.1 (fun k_ hk => (⟨hk, hk.2⟩ : _ ∧ k_ ≠ af))) (fun _ hk => hk.2)) (fun _ hk => ⟨hk.1.1, hk.1.2⟩)⟩, ⟨by (with_reducible repeat (first | apply Kd.V_alloc | apply Kd.V_drewN | apply Kd.V_drew)); exact Kd.V_mono (fV3 af (Kd.V_mono au.1 (fun k_ hk => (⟨hk, hk.2⟩ : _ ∧ k_ ≠ af))) (fun _ hk => hk.2)) (fun _ hk => ⟨hk.1.1, hk.1.2⟩)⟩, ⟨by (with_reducible repeat (first | refine blk_drewN ?_ _ | refine blk_drew ?_ | refine blk_alloc ?_ _)); refine bf3 ?_ ag.1; exact pbk ae.1⟩, ⟨by (with_reducible repeat (first | refine blk_drewN ?_ _ | refine blk_drew ?_ | refine blk_alloc ?_ _)); exact bp3 (pbk ac.1)⟩, ⟨pbg⟩⟩
 clear ba
 try clear c1 bF bh bD
 obtain ⟨kq, ay, rfl, HA, bE, aa, ab, ae, ac, HB⟩ := hcut
 obtain _ | a6 := kq
 ·exact absurd HA.1 (by simp [petrinetlaw23_MincoverQuasis.j0])
 have H := HA.1
 clear HA
 simp only [petrinetlaw23_MincoverQuasis.j0] at H
 cases ay
 rotate_left
 ·rw [if_pos rfl] at H
  replace H := bnd H
  obtain ⟨aS, A15, H⟩ := H
  (try dsimp only at H)
  obtain rfl := Option.some.inj H
  go_wp2_with (first | ((with_reducible refine gate_callee (f := 13) rfl ?_); refine gC 19 Try.func13 _ (petrinetlaw23_exampleHolds.calls a6  aS _ A15.1) ?_; rintro e bG ⟨rfl, hb⟩; refine ⟨_, rfl, ?_⟩; replace aa := vbw aa hb; replace ab := vbw ab hb; replace ae := bbh ae hb; replace ac := bbh ac hb; replace HB := bst hb; (try clear hb)))
  go_ret
  exact ⟨per, pbg⟩
 rw [if_neg Bool.false_ne_true] at H
 replace H := bnd H
 obtain ⟨aM, bo, H⟩ := H
 (try dsimp only at H)
 replace H := bnd H
 obtain ⟨aN, bp, H⟩ := H
 (try dsimp only at H)
 replace H := bnd H
 obtain ⟨aT, bq, H⟩ := H
 (try dsimp only at H)
 cases aT
 ·rw [if_neg Bool.false_ne_true] at H
  exact absurd H (by simp)
 rw [if_pos rfl] at H
 replace H := bnd H
 obtain ⟨aU, br, H⟩ := H
 (try dsimp only at H)
 obtain rfl := Option.some.inj H
 try go_wp2
 replace aa := am (Kd.V_drew aa.1)
 replace ab := am (Kd.V_drew ab.1)
 replace ae := am (blk_drew ae.1)
 replace ac := am (blk_drew ac.1)
 replace HB := am (below_drew1 HB.1)
 refine start_ (n := 11) (S := fun w' => w'.cell? ⟨af, 0, none⟩ = some (.string ax) ∧ w'.cell? ⟨af, 1, none⟩ = some (.slice aG ao.length aK) ∧ w'.cell? ⟨af, 2, none⟩ = some (.slice aH ap.length aL)) (ds := []) #[false, false, false, false, false, false, false, false, false, false, false] (by kernel_rfl) rfl rfl ⟨(blk_cell ac.1 0).trans rfl, (blk_cell ac.1 1).trans rfl, (blk_cell ac.1 2).trans rfl⟩ (fun hHeld => ?_); refine with_tabW petrinetlaw23_MincoverQuasis.tab4 petrinetlaw23_MincoverQuasis.bits4 (fun HT_ HW_ => ?_)
 generalize wc.drew = bH at aa ab ae ac HB hHeld ⊢
 refine pu HT_.1 1 21 ?_
 refine pu HT_.1 4 24 ?_
 refine tk HT_.1 HW_.1 hHeld 0 20 ?_
 refine tk HT_.1 HW_.1 hHeld 3 23 ?_
 refine on HT_.1 2 (some 22) rfl fun K hK => ?_
 refine goes_ Try.func24 (by kernel_rfl) rfl #[.agg #[.string ax, .slice aG ao.length aK, .slice aH ap.length aL], .slice A1 l1.length c1] (by rfl) rfl rfl pgz ?_
 with_reducible refine (mincover_Quasi.calls a6 ax _ _ ao _ _ ap _ _ l1 aM _ ?side1 ?side2 ?side3 ?side4 ?side5 ?side6 bo.1).mono ?_
 (case side1 => exact csd ((Kd.V_reads' aa.1).2.2))
 (case side2 => exact (Kd.V_reads' aa.1).2.1)
 (case side3 => exact csd ((Kd.V_reads' ab.1).2.2))
 (case side4 => exact (Kd.V_reads' ab.1).2.1)
 (case side5 => exact csb bl HB)
 (case side6 => exact bk.1)
 rintro e bI ⟨bA, rfl, aD, hb⟩
 refine ⟨_, rfl, ?_⟩
 have ah := am (Kd.R_lower aD (below_size pbg))
 replace aa := am (Kd.V_elder' (pkv aa.1) (Kd.R_base aD) hb)
 replace ab := am (Kd.V_elder' (pkv ab.1) (Kd.R_base aD) hb)
 replace ae := bbh ae hb
 replace ac := bbh ac hb
 replace HB := bst hb
 (try clear hb)
 (try clear bm)
 (try clear hk)
 (try clear hi)
 (try clear aD)
 refine hK.out _ _ ⟨(blk_cell ac.1 0).trans rfl, (blk_cell ac.1 1).trans rfl, (blk_cell ac.1 2).trans rfl⟩ (fun hHeld => ?_)
 clear hK K
 refine nm_ 22 ?_
 refine on HT_.1 5 (some 25) rfl fun K hK => ?_
 refine goes_ Try.func25 (by kernel_rfl) rfl #[.agg #[.string ax, .slice aG ao.length aK, .slice aH ap.length aL], .slice A1 l1.length c1] (by rfl) rfl rfl pgz ?_
 with_reducible refine (r23_Quasi.calls a6 ax _ _ ao _ _ ap _ _ l1 aN _ ?side1 ?side2 ?side3 ?side4 ?side5 ?side6 bp.1).mono ?_
 (case side1 => exact csd ((Kd.V_reads' aa.1).2.2))
 (case side2 => exact (Kd.V_reads' aa.1).2.1)
 (case side3 => exact csd ((Kd.V_reads' ab.1).2.2))
 (case side4 => exact (Kd.V_reads' ab.1).2.1)
 (case side5 => exact csb bl HB)
 (case side6 => exact bk.1)
 rintro e bJ ⟨bB, rfl, aD, hb⟩
 refine ⟨_, rfl, ?_⟩
 have av := am (Kd.R_lower (Kd.R_new' aD (Kd.R_lt (pkr ah.1))) (below_size pbg))
 replace aa := am (Kd.V_elder' (pkv aa.1) (Kd.R_base aD) hb)
 replace ab := am (Kd.V_elder' (pkv ab.1) (Kd.R_base aD) hb)
 replace ah := am (Kd.R_elder' (pkr ah.1) (Kd.R_base aD) hb)
 replace ae := bbh ae hb
 replace ac := bbh ac hb
 replace HB := bst hb
 (try clear hb)
 (try clear bm)
 (try clear hk)
 (try clear hi)
 (try clear aD)
 obtain ⟨a8, bb, a4⟩ := Kd.R_slice ah.1
 (first | subst a4 | (injection a4 with f1_ f2_ f3_; have f4_ := f1_.symm; have f5_ := f3_.symm; clear f1_ f2_ f3_; subst f4_; subst f5_))
 obtain ⟨a9, bc, a5⟩ := Kd.R_slice av.1
 (first | subst a5 | (injection a5 with f1_ f2_ f3_; have f4_ := f1_.symm; have f5_ := f3_.symm; clear f1_ f2_ f3_; subst f4_; subst f5_))
 refine hK.out _ _ ⟨(blk_cell ac.1 0).trans rfl, (blk_cell ac.1 1).trans rfl, (blk_cell ac.1 2).trans rfl⟩ (fun hHeld => ?_)
 clear hK K
 refine nm_ 25 ?_
 refine on HT_.1 6 (some 26) rfl fun K hK => ?_
 refine goes_ Try.func19 (by kernel_rfl) rfl #[.slice a8 aM.length bb, .slice a9 aN.length bc] (by rfl) rfl rfl pgz ?_
 with_reducible refine (r04_Same.calls a6 _ _ aM _ _ aN true _ ?side1 ?side2 ?side3 ?side4 bq.1).mono ?_
 (case side1 => exact csd ((Kd.R_reads' ah.1).2.2))
 (case side2 => exact (Kd.R_reads' ah.1).2.1)
 (case side3 => exact csd ((Kd.R_reads' av.1).2.2))
 (case side4 => exact (Kd.R_reads' av.1).2.1)
 rintro e w' ⟨rfl, ⟨nd, rfl⟩⟩
 refine ⟨_, rfl, ?_⟩
 refine hK.out _ _ ⟨(blk_cell ac.1 0).trans rfl, (blk_cell ac.1 1).trans rfl, (blk_cell ac.1 2).trans rfl⟩ (fun hHeld => ?_)
 clear hK K
 refine nm_ 26 ?_
 refine pu HT_.1 7 27 ?_
 refine on HT_.1 8 (some 28) rfl fun K hK => ?_
 refine goes_ Try.func13 (by kernel_rfl) rfl #[] (by rfl) rfl rfl pgz ?_
 with_reducible refine (petrinetlaw23_exampleHolds.calls a6  aU _ br.1).mono ?_
 rintro e bK ⟨rfl, hb⟩
 refine ⟨_, rfl, ?_⟩
 replace aa := vbw aa hb
 replace ab := vbw ab hb
 replace ah := rbw ah hb
 replace av := rbw av hb
 replace ae := bbh ae hb
 replace ac := bbh ac hb
 replace HB := bst hb
 (try clear hb)
 (try clear bm)
 (try clear hk)
 (try clear hi)
 refine hK.out _ _ ⟨(blk_cell ac.1 0).trans rfl, (blk_cell ac.1 1).trans rfl, (blk_cell ac.1 2).trans rfl⟩ (fun hHeld => ?_)
 clear hK K
 refine nm_ 28 ?_
 refine pu HT_.1 9 29 ?_
 refine pu HT_.1 10 4 ?_
 refine done_ (done_of HT_.1 (by kernel_rfl)) ?_
 try go_wp2
 go_ret
 exact ⟨per, pbg⟩

end Go.Proofs.Ytaoogghpadifiaa.P
