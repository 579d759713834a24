-- LAID BY OUR PROGRAM OVER THE PRINT (xprint.py, part.py): Lean checks it.
import Derived.Test.YteknagfpiadaiaaPx0
import Derived.Test.YteknagfpiadaiaaPx1
import Derived.Test.YteknagfpiadaiaaPx2
import Derived.Test.YteknagfpiadaiaaPx3
import Derived.Test.YteknagfpiadaiaaPx4
import Derived.Test.YteknagfpiadaiaaPx8
import Derived.Test.YteknagfpiadaiaaPx9
import Derived.Test.YteknagfpiadaiaaPx15
namespace Go.Proofs.Yteknagfpiadaiaa.P
open Go.RowKit Go.Proofs.YteknagfpiadaiaaW.PrintWords Go.Proofs.YteknagfpiadaiaaW.PrintLast Go.Proofs.YteknagfpiadaiaaW.PrintMore
attribute [local go_sem] max2_int min2_int max_two min_two max_three min_three max_four min_four   -- for this text's walks alone
set_option linter.unusedVariables false
set_option linter.unusedSimpArgs false

/-! ### r22_Reach: function 29 -/
mutual
def r22_Reach.l0 : Nat → Int → List (List Int) → Int → ByteArray → List (S57) → List (S60) → Option ((List (List Int)) × Bool)
 | 0, _, _, _, _, _, _ => none
 | k + 1, x1, x6, x7, ag, ah, ai => if x7 < (x6.length : Int) then (if 0 ≤ x7 then ((r11_Fires.f k ag ah ai (rd_L11 x6 x7)).bind fun aq => (r22_Reach.l1 k x1 x6 x7 aq 0 ag ah ai)) else (none)) else (some (x6, true))
def r22_Reach.l1 : Nat → Int → List (List Int) → Int → List Int → Int → ByteArray → List (S57) → List (S60) → Option ((List (List Int)) × Bool)
 | 0, _, _, _, _, _, _, _, _ => none
 | k + 1, x1, x6, x7, x8, x9, ag, ah, ai => if x9 < (x8.length : Int) then (if 0 ≤ x7 then (if x7 < (x6.length : Int) then (if 0 ≤ x9 then ((r11_After.f k ag ah ai (rd_L11 x6 x7) (rd x8 x9)).bind fun bW => (if bW.2 = true then (r22_Reach.l2 k x1 x6 x7 x8 x9 bW.1 false 0 ag ah ai) else (some (([] : List (List Int)), false)))) else (none)) else (none)) else (none)) else (r22_Reach.l0 k x1 x6 (wrap64 (x7 + 1)) ag ah ai)
def r22_Reach.l2 : Nat → Int → List (List Int) → Int → List Int → Int → List Int → Bool → Int → ByteArray → List (S57) → List (S60) → Option ((List (List Int)) × Bool)
 | 0, _, _, _, _, _, _, _, _, _, _, _ => none
 | k + 1, x1, x6, x7, x8, x9, x10, x12, x13, ag, ah, ai => if x13 < (x6.length : Int) then (if x12 = true then (r22_Reach.l2 k x1 x6 x7 x8 x9 x10 true (wrap64 (x13 + 1)) ag ah ai) else (if 0 ≤ x13 then ((r04_Same.f k (rd_L11 x6 x13) x10).bind fun bR => (r22_Reach.l2 k x1 x6 x7 x8 x9 x10 bR (wrap64 (x13 + 1)) ag ah ai)) else (none))) else (if x12 = true then (r22_Reach.j3 k x1 x6 x7 x8 x9 x10 x12 false ag ah ai) else (r22_Reach.j3 k x1 x6 x7 x8 x9 x10 x12 ((x6.length : Int) == x1) ag ah ai))
def r22_Reach.j3 : Nat → Int → List (List Int) → Int → List Int → Int → List Int → Bool → Bool → ByteArray → List (S57) → List (S60) → Option ((List (List Int)) × Bool)
 | 0, _, _, _, _, _, _, _, _, _, _, _ => none
 | k + 1, x1, x6, x7, x8, x9, x10, x12, dL, ag, ah, ai => if dL = true then (some (([] : List (List Int)), false)) else (if x12 = true then (r22_Reach.l1 k x1 x6 x7 x8 (wrap64 (x9 + 1)) ag ah ai) else (if x6.length < 5864062014805 then (r22_Reach.l1 k x1 (x6 ++ [x10]) x7 x8 (wrap64 (x9 + 1)) ag ah ai) else (none)))
end
def r22_Reach.f (k : Nat) (ap : ByteArray) (ak : List (S57)) (al : List (S60)) (a1 : Int) : Option ((List (List Int)) × Bool) := (r09_Initial.f k ap ak al).bind fun bg => (r22_Reach.l0 k a1 (([bg] : List (List Int))) 0 ap ak al)
theorem r22_Reach.mono_l : ∀ k, M6 r22_Reach.l0 k ∧ M8 r22_Reach.l1 k ∧ M11 r22_Reach.l2 k ∧ M11 r22_Reach.j3 k
 | 0 => ⟨fun _ _ _ _ _ _ r h => by simp [r22_Reach.l0] at h, fun _ _ _ _ _ _ _ _ r h => by simp [r22_Reach.l1] at h, fun _ _ _ _ _ _ _ _ _ _ _ r h => by simp [r22_Reach.l2] at h, fun _ _ _ _ _ _ _ _ _ _ _ r h => by simp [r22_Reach.j3] at h⟩
 | k + 1 => by
  obtain ⟨cW, cX, cY, cZ⟩ := r22_Reach.mono_l k
  refine ⟨?_, ?_, ?_, ?_⟩ <;> dsimp only [M6, M8, M11] <;> intros <;> (first | unfold r22_Reach.l0 | unfold r22_Reach.l1 | unfold r22_Reach.l2 | unfold r22_Reach.j3) <;> repeat' first | (with_reducible first | apply cW | apply cX | apply cY | apply cZ | apply r04_Same.mono | apply r09_Initial.mono | apply r11_After.mono | apply r11_Fires.mono | apply lr | apply ln | apply li | refine lb ?_ fun _ => ?_)
theorem r22_Reach.mono : ∀ a0 a1 a2 a3 k, LeO (r22_Reach.f k a0 a1 a2 a3) (r22_Reach.f (k + 1) a0 a1 a2 a3) := by
 intro a0 a1 a2 a3 k
 obtain ⟨cW, cX, cY, cZ⟩ := r22_Reach.mono_l k
 unfold r22_Reach.f
 repeat' first | (with_reducible first | apply cW | apply cX | apply cY | apply cZ | apply r04_Same.mono | apply r09_Initial.mono | apply r11_After.mono | apply r11_Fires.mono | apply lr | apply ln | apply li | refine lb ?_ fun _ => ?_)
def r22_Reach.T9 : Bool × List (List Nat × List Nat) := (true, [([], []), ([], []), ([], []), ([1, 2], [1, 2]), ([3], [3]), ([], []), ([], []), ([5, 6], [5, 6]), ([7], [7]), ([0, 4, 8], [0, 4, 8]), ([9], [9]), ([10], [10]), ([10], [10]), ([11, 9, 0, 1, 2, 3, 4, 5, 6, 7, 8, 9, 10, 11], [11]), ([12, 13, 0, 1, 2, 3, 4, 5, 6, 7, 8, 9, 10, 11, 12, 13], [12])])
def r22_Reach.B9 : List Nat := [0, 0, 0, 6, 14, 0, 0, 96, 224, 511, 1023, 2047, 2047, 4095, 16383]
theorem r22_Reach.tab9 : rtab .any (opsOf Try.f29 9) = r22_Reach.T9 := by kernel_rfl
theorem r22_Reach.bits9 : waitsOk r22_Reach.T9.2 r22_Reach.B9 = true := by kernel_rfl
set_option maxHeartbeats 8000000 in
set_option maxRecDepth 100000 in
theorem r22_Reach.calls (k : Nat) (ap : ByteArray) (aI : Option Addr) (aM : Nat) (ak : List (S57)) (aJ : Option Addr) (aN : Nat) (al : List (S60)) (a1 : Int) (r1 : List (List Int)) (r2 : Bool) (w : World) (b3 : Kd.C k57 w aI ak.length ak) (b1 : ak.length ≤ aM) (b4 : Kd.C k60 w aJ al.length al) (b2 : al.length ≤ aN) (h : r22_Reach.f k ap ak al a1 = some (r1, r2)) :
  Calls Try.prog 29 #[.agg #[.string ap, .slice aI ak.length aM, .slice aJ al.length aN], .int .i64 a1] w fun e w' => ∃ v0_ : Value, e = .returned (.tuple #[v0_, .bool r2]) ∧ Kd.N (Kd.slice 3 (Kd.int .i64)) 26 w' w.heap.size (fun k_ => (w.heap.size ≤ k_)) v0_ r1 ∧ Below w.heap.size w w' := by
 have dE := Try.underlying25
 have bp := am b3
 have bm := am b1
 clear b3 b1
 have bq := am b4
 have bn := am b2
 clear b4 b2
 have HB := am (Below.refl w.heap.size w)
 have H := h
 unfold r22_Reach.f at H
 clear h
 replace H := bnd H
 obtain ⟨bg, A3, H⟩ := H
 (try dsimp only at H)
 obtain ⟨cy, bJ⟩ : ∃ y_ : List (List Int), y_ = (([bg] : List (List Int))) := ⟨_, rfl⟩
 replace H : (r22_Reach.l0 k a1 cy 0 ap ak al) = some (r1, r2) := hrp bJ H
 have bV := am bJ
 clear bJ
 have H' := am H
 clear H
 go_enter Try.func29, Try.ntmps29
 go_wp2_with (first | ((with_reducible refine gate_dst (N := 2) rfl ?_); (try (refine gate_guard (by rfl) ?_; dsimp only)); refine box_ev ?_; intro ae hg w4 hbox hb; have aa := am hbox; have cg := gwl hg; have de := cg; replace HB := bsl hb; clear hb hbox hg; have z5 := cf3 aa.1) | ((with_reducible refine gate_callee (f := 26) rfl ?_); refine gC 15 Try.func26 _ (r09_Initial.calls k ap _ _ ak _ _ al bg _ (csb bp HB) bm.1 (csb bq HB) bn.1 A3.1) ?_; rintro e w6 ⟨dH, rfl, ba, hb⟩; refine ⟨_, rfl, ?_⟩; have bo := am (Kd.R_lower (Kd.R_newM (M := fun k_ => (w.heap.size ≤ k_)) ba (below_size pbg) (fun k_ h_ => h_)) (below_size pbg)); replace aa := bbh aa hb; replace HB := bst hb; (try clear hb); (try clear ba); obtain ⟨dc, di, dD⟩ := Kd.R_slice bo.1; subst dD) | ((with_reducible refine gate_dst (N := 16) rfl ?_); (try (refine gate_guard (by rfl) ?_; dsimp only)); refine Kd.N_lit (Kd.slice 3 (Kd.int .i64)) _ 26 ?hg (N' := 16) ?hd (xs := ([bg] : List (List Int))) (inner := [.slice dc bg.length di]) (ok := (fun k_ => (w.heap.size ≤ k_) ∧ k_ ≠ ae)) (okp := (fun k_ => (w.heap.size ≤ k_) ∧ k_ ≠ ae)) ?hr ?hp (fun _ hk => hk) ((show ∀ k_, w6.heap.size ≤ k_ → (fun k_ => (w.heap.size ≤ k_) ∧ k_ ≠ ae) k_ from fun k_ hk => ⟨(Nat.le_trans (below_size pbg) hk), Kd.freshB (g := ae) (o := .cells #[.string ap, .slice aI ak.length aM, .slice aJ al.length aN] 25 (0, 0)) (by exact pbk aa.1) k_ hk⟩) _ (Nat.le_refl _)) (Below.refl _ _) (Nat.le_refl _) (by simp) ?_; (case hd => rfl); (case hg => rfl); (case hr => first | (go_simp; done) | (go_simp; rfl)); (case hp => exact (Reps.one (show Kd.FK (Kd.slice 3 (Kd.int .i64)) _ _ bg [.slice dc bg.length di] from (Kd.FK_slice_mk (Kd.R_reads' (Kd.R_mono (ok' := (fun k_ => (w.heap.size ≤ k_) ∧ k_ ≠ ae)) (Kd.R_types (bo.1) aa.1 (by decide)) (fun k_ hk => ⟨hk.1.1, hk.2⟩))).2.1 (Kd.R_F (Kd.R_mono (ok' := (fun k_ => (w.heap.size ≤ k_) ∧ k_ ≠ ae)) (Kd.R_types (bo.1) aa.1 (by decide)) (fun k_ hk => ⟨hk.1.1, hk.2⟩))))) (Reps.none _ _))); intro dI w8 cw hb hg_ hnew_; clear hg_ hnew_; (first | rw [← bV.1] at cw | (simp only [Int.reduceToNat] at cw; rw [← bV.1] at cw)); have ch := am (Kd.N_lower cw (below_size pbg)); replace aa := bbh aa hb; replace HB := bst hb; clear bo; clear hb cw))
 go_loopg [6, 7] k (fun kq v6 v7 w' => ∃ (bd : List (List Int)) (af : Int), v7 = .int .i64 af ∧ Aside0 (r22_Reach.l0 kq a1 bd af ap ak al = some (r1, r2)) ∧ Aside0 (kq ≤ k) ∧ Aside0 (Kd.N (Kd.slice 3 (Kd.int .i64)) 26 w' w.heap.size (fun k_ => (w.heap.size ≤ k_) ∧ k_ ≠ ae) v6 bd) ∧ Aside0 (w'.heap[ae]? = some (.cells #[.string ap, (.slice aI ak.length aM), (.slice aJ al.length aN)] 25 (0, 0))) ∧ Aside0 (Below w.heap.size w w'))
 case atStart => exact ⟨(cy), (0), prs, H', ⟨Nat.le_refl _⟩, ⟨pkn ch.1⟩, ⟨pbk aa.1⟩, ⟨pbg⟩⟩
 clear H'
 try clear z5
 obtain ⟨bd, af, rfl, HA, bB, ac, aa, HB⟩ := hrel
 obtain _ | k1 := gk
 ·exact absurd HA.1 (by simp [r22_Reach.l0])
 have H := HA.1
 clear HA
 simp only [r22_Reach.l0] at H
 replace H := ifl H
 rcases H with ⟨bs, H⟩ | ⟨bs, H⟩
 rotate_left
 ·simp only [Option.some.injEq, Prod.mk.injEq] at H
  obtain ⟨rfl, rfl⟩ := H
  obtain ⟨dv, dC, cV⟩ := Kd.N_slice ac.1
  subst cV
  go_wp2
  go_ret2
  exact ⟨_, per, by (with_reducible repeat (first | apply Kd.N_alloc | apply Kd.N_drewN | apply Kd.N_drew)); exact Kd.N_mono ac.1 (fun _ hk => hk.1), pbg⟩
 replace H := ifp H
 obtain ⟨cp, H⟩ := H
 have bE := decide_eq_true cp
 clear cp
 replace H := bnd H
 obtain ⟨aq, A12, H⟩ := H
 (try dsimp only at H)
 have H' := am H
 clear H
 obtain ⟨dl, dx, cP⟩ := Kd.N_slice ac.1
 subst cP
 try go_wp2
 replace ac := am (Kd.N_drew ac.1)
 replace aa := am (blk_drew aa.1)
 replace HB := am (below_drew1 HB.1)
 have bj : 0 ≤ (af : Int) := dq
 have bk : af < (bd.length : Int) := dq
 obtain ⟨cn, bD, bG, cN, aE, bw, bu⟩ := at_L11 (Kd.N_reads' ac.1).2.2 af bj bk
 cases cN
 obtain ⟨dg, ca, b8, bH⟩ := Kd.N_get ac.1 [] af bj (by first | exact bk | exact dq | (have e_ := (Kd.N_reads' ac.1).1; omega))
 obtain ⟨cE, cG, rfl, bb, a8⟩ := Kd.FK_slice_open b8
 have aT := bH 0 _ rfl
 rw [Nat.add_zero, show ((Kd.slice 3 (Kd.int .i64))).sz = 1 from rfl, Nat.mul_one] at aT
 replace aT := Option.some.inj (aT.symm.trans aE)
 injection aT with hva_ hvn_ hvc_
 rw [hva_] at a8
 rw [hvc_] at bb
 have a7 := am (show Kd.V (Kd.int .i64) 3 _ w.heap.size _ _ (rd_L11 bd af) from Kd.V_mk bb a8)
 clear hva_ hvn_ hvc_ a8 bb bH ca
 have aK := am bu
 have bO := am bw
 clear bu bw
 replace bj := eq_true bj
 replace bk := eq_true bk
 refine start_ (n := 7) (S := fun w' => w'.cell? ⟨ae, 0, none⟩ = some (.string ap) ∧ w'.cell? ⟨ae, 1, none⟩ = some (.slice aI ak.length aM) ∧ w'.cell? ⟨ae, 2, none⟩ = some (.slice aJ al.length aN) ∧ w'.cell? (cn.add (af).toNat) = some (.slice bD (rd_L11 bd af).length bG)) (ds := []) #[false, false, false, false, false, false, false] (by kernel_rfl) rfl rfl ⟨(blk_cell aa.1 0).trans rfl, (blk_cell aa.1 1).trans rfl, (blk_cell aa.1 2).trans rfl, aE⟩ (fun hHeld => ?_)
 generalize wr.drew = dP at ac aa HB a7 aK aE hHeld ⊢
 refine pure_ (i := 1) (N := some 24) (v := ?_) (a' := ?_) #[false, true, false, false, false, false, false] rfl rfl (by kernel_rfl) (fun _ _ _ h => h) (Or.inl ⟨by rfl, ?_⟩) ?_ ?_
 rotate_left
 ·intro w'
  go_simp
  with_reducible rfl
 rotate_left
 ·simp only [Act.put, List.setIfInBounds_toArray, List.set_cons_zero, List.set_cons_succ, i64_w, i32_w]
  rfl
 refine pure_ (i := 2) (N := some 25) (v := ?_) (a' := ?_) #[false, true, true, false, false, false, false] rfl rfl (by kernel_rfl) (fun _ _ _ h => h) (Or.inl ⟨by rfl, ?_⟩) ?_ ?_
 rotate_left
 ·intro w'
  go_simp
  with_reducible rfl
 rotate_left
 ·simp only [Act.put, List.setIfInBounds_toArray, List.set_cons_zero, List.set_cons_succ, i64_w, i32_w]
  rfl
 refine pure_ (i := 3) (N := some 26) (v := ?_) (a' := ?_) #[false, true, true, true, false, false, false] rfl rfl (by kernel_rfl) (fun _ _ _ h => h) (Or.inl ⟨by rfl, ?_⟩) ?_ ?_
 rotate_left
 ·intro w'
  go_simp
  with_reducible rfl
 rotate_left
 ·simp only [Act.put, List.setIfInBounds_toArray, List.set_cons_zero, List.set_cons_succ, i64_w, i32_w]
  rfl
 refine take_ (i := 0) (N := some 23) (v := ?_) (a' := ?_) #[true, true, true, true, false, false, false] rfl rfl (by kernel_rfl) (fun _ _ _ h => h) (Or.inl ⟨by rfl, ?_⟩) hHeld ?_ ?_
 rotate_left
 ·rintro w' ⟨s0, s1, s2, s3⟩
  go_simp
  with_reducible rfl
 rotate_left
 ·simp only [Act.put, List.setIfInBounds_toArray, List.set_cons_zero, List.set_cons_succ, i64_w, i32_w]
  rfl
 refine take_ (i := 4) (N := some 27) (v := ?_) (a' := ?_) #[true, true, true, true, true, false, false] rfl rfl (by kernel_rfl) (fun _ _ _ h => h) (Or.inl ⟨by rfl, ?_⟩) hHeld ?_ ?_
 rotate_left
 ·rintro w' ⟨s0, s1, s2, s3⟩
  go_simp
  with_reducible rfl
 rotate_left
 ·simp only [Act.put, List.setIfInBounds_toArray, List.set_cons_zero, List.set_cons_succ, i64_w, i32_w]
  rfl
 refine one_ (i := 5) (N := some 28) #[true, true, true, true, true, true, false] rfl rfl (by kernel_rfl) (by decide) (fun K hK => ?_)
 refine goes_ Try.func56 (by kernel_rfl) rfl #[.agg #[.string ap, .slice aI ak.length aM, .slice aJ al.length aN], .slice bD (rd_L11 bd af).length bG] (by rfl) rfl rfl pgz ?_
 with_reducible refine (r11_Fires.calls k1 ap _ _ ak _ _ al _ _ (rd_L11 bd af) aq _ ?side1 ?side2 ?side3 ?side4 ?side5 ?side6 A12.1).mono ?_
 (case side1 => exact csb bp HB)
 (case side2 => exact bm.1)
 (case side3 => exact csb bq HB)
 (case side4 => exact bn.1)
 (case side5 => repeat (first | exact (by repeat (first | (with_reducible exact aK.1) | (with_reducible refine Kd.C_alloc ?_ _) | (with_reducible refine Kd.C_drewN ?_ _) | (with_reducible refine Kd.C_drew ?_) | exact aK.1)) | (with_reducible refine Kd.C_alloc ?_ _) | (with_reducible refine Kd.C_drewN ?_ _) | (with_reducible refine Kd.C_drew ?_)))
 (case side6 => exact bO.1)
 rintro e dQ ⟨cx, rfl, ba, hb⟩
 have HS3_ := (hb.cell (World.block_lt_of_cell? _ _ (hHeld.2.2.2))).trans (hHeld.2.2.2)
 refine ⟨_, rfl, ?_⟩
 have ci := am (Kd.R_lower (Kd.R_newM (M := fun k_ => (w.heap.size ≤ k_)) ba (below_size pbg) (fun k_ h_ => h_)) (below_size pbg))
 replace ac := am (Kd.N_elder' (pkn ac.1) (Kd.R_base ba) hb)
 replace a7 := am (Kd.V_elder' (pkv a7.1) (Kd.R_base ba) hb)
 replace aa := bbh aa hb
 replace aK := cbb aK hb
 replace HB := bst hb
 (try clear hb)
 (try clear dj)
 (try clear hk)
 (try clear hi)
 (try clear ba)
 refine hK.out _ _ ⟨(blk_cell aa.1 0).trans rfl, (blk_cell aa.1 1).trans rfl, (blk_cell aa.1 2).trans rfl, HS3_⟩ (fun hHeld => ?_)
 clear hK K
 refine nm_ 28 ?_
 refine pure_ (i := 6) (N := some 8) (v := ?_) (a' := ?_) #[true, true, true, true, true, true, true] rfl rfl (by kernel_rfl) (fun _ _ _ h => h) (Or.inl ⟨by rfl, ?_⟩) ?_ ?_
 rotate_left
 ·intro w'
  go_simp
  with_reducible rfl
 rotate_left
 ·simp only [Act.put, List.setIfInBounds_toArray, List.set_cons_zero, List.set_cons_succ, i64_w, i32_w]
  rfl
 refine done_ (by kernel_rfl) ?_
 try go_wp2
 go_loopg [6, 9] k1 (fun kq v6 v9 w' => ∃ (aj : List (List Int)) (aC : Int), v9 = .int .i64 aC ∧ Aside0 (r22_Reach.l1 kq a1 aj af aq aC ap ak al = some (r1, r2)) ∧ Aside0 (kq ≤ k1) ∧ Aside0 (Kd.N (Kd.slice 3 (Kd.int .i64)) 26 w' w.heap.size (fun k_ => (w.heap.size ≤ k_) ∧ some k_ ≠ (cx : Value).ownBlock ∧ k_ ≠ ae) v6 aj) ∧ Aside0 (Kd.R (Kd.int .i64) 3 w' w.heap.size (fun k_ => (w.heap.size ≤ k_)) cx aq) ∧ Aside0 (w'.heap[ae]? = some (.cells #[.string ap, (.slice aI ak.length aM), (.slice aJ al.length aN)] 25 (0, 0))) ∧ Aside0 (Below w.heap.size w w'))
 case atStart => exact ⟨(bd), (0), prs, H', ⟨Nat.le_refl _⟩, ⟨by (with_reducible repeat (first | apply Kd.N_alloc | apply Kd.N_drewN | apply Kd.N_drew)); exact Kd.N_mono ac.1 (fun _ hk => ⟨hk.1.1, ⟨hk.2, hk.1.2⟩⟩)⟩, ⟨by (with_reducible repeat (first | apply Kd.R_alloc | apply Kd.R_drewN | apply Kd.R_drew)); exact Kd.R_mono ci.1 (fun _ hk => hk.1)⟩, ⟨pbk aa.1⟩, ⟨pbg⟩⟩
 clear H'
 try clear c10 bs cp bE z5 aE bj bk
 obtain ⟨aj, aC, rfl, HA, bC, ac, ao, aa, HB⟩ := hrel
 obtain _ | k2 := gk
 ·exact absurd HA.1 (by simp [r22_Reach.l1])
 have H := HA.1
 clear HA
 simp only [r22_Reach.l1] at H
 replace H := ifl H
 rcases H with ⟨bF, H⟩ | ⟨bF, H⟩
 rotate_left
 ·have H' := am H
  clear H
  obtain ⟨du, dB, cU⟩ := Kd.R_slice ao.1
  subst cU
  go_wp2
  go_roundg k2
  case measure => have := bB.1; have := bC.1; omega
  case rel => exact ⟨(aj), (wrap64 (af + 1)), prs, H', ⟨by have := bB.1; have := bC.1; omega⟩, ⟨by (with_reducible repeat (first | apply Kd.N_alloc | apply Kd.N_drewN | apply Kd.N_drew)); exact Kd.N_mono ac.1 (fun _ hk => ⟨hk.1, hk.2.2⟩)⟩, ⟨pbk aa.1⟩, ⟨pbg⟩⟩
 replace H := ifp H
 obtain ⟨cB, H⟩ := H
 have bX := decide_eq_true cB
 clear cB
 replace H := ifp H
 obtain ⟨cC, H⟩ := H
 have bY := decide_eq_true cC
 clear cC
 replace H := ifp H
 obtain ⟨cD, H⟩ := H
 have bZ := decide_eq_true cD
 clear cD
 replace H := bnd H
 obtain ⟨⟨a5, da⟩, db, H⟩ := H
 (try dsimp only at H)
 cases da
 ·rw [if_neg Bool.false_ne_true] at H
  simp only [Option.some.injEq, Prod.mk.injEq] at H
  obtain ⟨rfl, rfl⟩ := H
  obtain ⟨dr, dz, cT⟩ := Kd.R_slice ao.1
  subst cT
  try go_wp2
  replace ac := am (Kd.N_drew ac.1)
  replace ao := am (Kd.R_drew ao.1)
  replace aa := am (blk_drew aa.1)
  replace HB := am (below_drew1 HB.1)
  obtain ⟨dt, dA, cv⟩ := Kd.N_slice ac.1
  (first | subst cv | (injection cv with f1_ f2_ f3_; have f4_ := f1_.symm; have f5_ := f3_.symm; clear f1_ f2_ f3_; subst f4_; subst f5_))
  have aX : 0 ≤ (af : Int) := dq
  have aY : af < (aj.length : Int) := dq
  obtain ⟨aG, aH, aV, b6, au, aR, aQ⟩ := at_L11 (Kd.N_reads' ac.1).2.2 af aX aY
  cases b6
  obtain ⟨cr, bi, bh, aW⟩ := Kd.N_get ac.1 [] af aX (by first | exact aY | exact dq | (have e_ := (Kd.N_reads' ac.1).1; omega))
  obtain ⟨bS, bT, rfl, az, ax⟩ := Kd.FK_slice_open bh
  have ar := aW 0 _ rfl
  rw [Nat.add_zero, show ((Kd.slice 3 (Kd.int .i64))).sz = 1 from rfl, Nat.mul_one] at ar
  replace ar := Option.some.inj (ar.symm.trans au)
  injection ar with hva_ hvn_ hvc_
  rw [hva_] at ax
  rw [hvc_] at az
  have aw := am (show Kd.V (Kd.int .i64) 3 _ w.heap.size _ _ (rd_L11 aj af) from Kd.V_mk az ax)
  clear hva_ hvn_ hvc_ ax az aW bi
  have ab := am aQ
  have a6 := am aR
  clear aQ aR
  replace aX := eq_true aX
  replace aY := eq_true aY
  obtain ⟨ce, cf, av, b7, ay⟩ := dint (Kd.R_reads' ao.1).2.2 aC
  cases b7
  refine start_ (n := 15) (S := fun w' => w'.cell? ⟨ae, 0, none⟩ = some (.string ap) ∧ w'.cell? ⟨ae, 1, none⟩ = some (.slice aI ak.length aM) ∧ w'.cell? ⟨ae, 2, none⟩ = some (.slice aJ al.length aN) ∧ w'.cell? (aG.add (af).toNat) = some (.slice aH (rd_L11 aj af).length aV) ∧ w'.cell? (av.add (aC).toNat) = some (.int .i64 (rd aq aC))) (ds := []) #[false, false, false, false, false, false, false, false, false, false, false, false, false, false, false] (by kernel_rfl) rfl rfl ⟨(blk_cell aa.1 0).trans rfl, (blk_cell aa.1 1).trans rfl, (blk_cell aa.1 2).trans rfl, au, ay⟩ (fun hHeld => ?_); refine with_tabW r22_Reach.tab9 r22_Reach.bits9 (fun HT_ HW_ => ?_)
  generalize wr.drew = dV at ac ao aa HB aw ab au ay hHeld ⊢
  refine pu HT_.1 1 37 ?_
  refine pu HT_.1 2 38 ?_
  refine pu HT_.1 3 39 ?_
  refine pu HT_.1 5 41 ?_
  refine pu HT_.1 6 42 ?_
  refine pu HT_.1 7 43 ?_
  refine tk HT_.1 HW_.1 hHeld 0 36 ?_
  refine tk HT_.1 HW_.1 hHeld 4 40 ?_
  refine tk HT_.1 HW_.1 hHeld 8 44 ?_
  refine on HT_.1 9 (some 45) rfl fun K hK => ?_
  refine goes_ Try.func57 (by kernel_rfl) rfl #[.agg #[.string ap, .slice aI ak.length aM, .slice aJ al.length aN], .slice aH (rd_L11 aj af).length aV, .int .i64 (rd aq aC)] (by rfl) rfl rfl pgz ?_
  with_reducible refine (r11_After.calls k2 ap _ _ ak _ _ al _ _ (rd_L11 aj af) (rd aq aC) a5 false _ ?side1 ?side2 ?side3 ?side4 ?side5 ?side6 db.1).mono ?_
  (case side1 => exact csb bp HB)
  (case side2 => exact bm.1)
  (case side3 => exact csb bq HB)
  (case side4 => exact bn.1)
  (case side5 => repeat (first | exact (by repeat (first | (with_reducible exact ab.1) | (with_reducible refine Kd.C_alloc ?_ _) | (with_reducible refine Kd.C_drewN ?_ _) | (with_reducible refine Kd.C_drew ?_) | exact ab.1)) | (with_reducible refine Kd.C_alloc ?_ _) | (with_reducible refine Kd.C_drewN ?_ _) | (with_reducible refine Kd.C_drew ?_)))
  (case side6 => exact a6.1)
  rintro e dW ⟨bl, rfl, ba, hb⟩
  have HS3_ := (hb.cell (World.block_lt_of_cell? _ _ (hHeld.2.2.2.1))).trans (hHeld.2.2.2.1)
  have HS4_ := (hb.cell (World.block_lt_of_cell? _ _ (hHeld.2.2.2.2))).trans (hHeld.2.2.2.2)
  refine ⟨_, rfl, ?_⟩
  have bU := am (Kd.R_lower (Kd.R_new' (Kd.R_newM (M := fun k_ => (w.heap.size ≤ k_)) ba (below_size pbg) (fun k_ h_ => h_)) (Kd.R_lt (pkr ao.1))) (below_size pbg))
  replace ac := am (Kd.N_elder' (pkn ac.1) (Kd.R_base ba) hb)
  replace ao := am (Kd.R_elder' (pkr ao.1) (Kd.R_base ba) hb)
  replace aw := am (Kd.V_elder' (pkv aw.1) (Kd.R_base ba) hb)
  replace aa := bbh aa hb
  replace ab := cbb ab hb
  replace HB := bst hb
  (try clear hb)
  (try clear dj)
  (try clear hk)
  (try clear hi)
  (try clear ba)
  refine hK.out _ _ ⟨(blk_cell aa.1 0).trans rfl, (blk_cell aa.1 1).trans rfl, (blk_cell aa.1 2).trans rfl, HS3_, HS4_⟩ (fun hHeld => ?_)
  clear hK K
  refine nm_ 45 ?_
  refine pu HT_.1 10 35 ?_
  refine pu HT_.1 11 46 ?_
  refine pu HT_.1 12 47 ?_
  refine pu HT_.1 13 10 ?_
  refine pu HT_.1 14 11 ?_
  refine done_ (done_of HT_.1 (by kernel_rfl)) ?_
  try go_wp2
  go_ret2
  exact ⟨_, per, knl, pbg⟩
 rw [if_pos rfl] at H
 have H' := am H
 clear H
 obtain ⟨dm, a4, cQ⟩ := Kd.R_slice ao.1
 subst cQ
 try go_wp2
 replace ac := am (Kd.N_drew ac.1)
 replace ao := am (Kd.R_drew ao.1)
 replace aa := am (blk_drew aa.1)
 replace HB := am (below_drew1 HB.1)
 obtain ⟨dn, bA, cu⟩ := Kd.N_slice ac.1
 (first | subst cu | (injection cu with f1_ f2_ f3_; have f4_ := f1_.symm; have f5_ := f3_.symm; clear f1_ f2_ f3_; subst f4_; subst f5_))
 have aX : 0 ≤ (af : Int) := dq
 have aY : af < (aj.length : Int) := dq
 obtain ⟨aG, aH, aV, b6, au, aR, aQ⟩ := at_L11 (Kd.N_reads' ac.1).2.2 af aX aY
 cases b6
 obtain ⟨cr, bi, bh, aW⟩ := Kd.N_get ac.1 [] af aX (by first | exact aY | exact dq | (have e_ := (Kd.N_reads' ac.1).1; omega))
 obtain ⟨bS, bT, rfl, az, ax⟩ := Kd.FK_slice_open bh
 have ar := aW 0 _ rfl
 rw [Nat.add_zero, show ((Kd.slice 3 (Kd.int .i64))).sz = 1 from rfl, Nat.mul_one] at ar
 replace ar := Option.some.inj (ar.symm.trans au)
 injection ar with hva_ hvn_ hvc_
 rw [hva_] at ax
 rw [hvc_] at az
 have aw := am (show Kd.V (Kd.int .i64) 3 _ w.heap.size _ _ (rd_L11 aj af) from Kd.V_mk az ax)
 clear hva_ hvn_ hvc_ ax az aW bi
 have ab := am aQ
 have a6 := am aR
 clear aQ aR
 replace aX := eq_true aX
 replace aY := eq_true aY
 obtain ⟨ce, cf, av, b7, ay⟩ := dint (Kd.R_reads' ao.1).2.2 aC
 cases b7
 refine start_ (n := 15) (S := fun w' => w'.cell? ⟨ae, 0, none⟩ = some (.string ap) ∧ w'.cell? ⟨ae, 1, none⟩ = some (.slice aI ak.length aM) ∧ w'.cell? ⟨ae, 2, none⟩ = some (.slice aJ al.length aN) ∧ w'.cell? (aG.add (af).toNat) = some (.slice aH (rd_L11 aj af).length aV) ∧ w'.cell? (av.add (aC).toNat) = some (.int .i64 (rd aq aC))) (ds := []) #[false, false, false, false, false, false, false, false, false, false, false, false, false, false, false] (by kernel_rfl) rfl rfl ⟨(blk_cell aa.1 0).trans rfl, (blk_cell aa.1 1).trans rfl, (blk_cell aa.1 2).trans rfl, au, ay⟩ (fun hHeld => ?_); refine with_tabW r22_Reach.tab9 r22_Reach.bits9 (fun HT_ HW_ => ?_)
 generalize wr.drew = dR at ac ao aa HB aw ab au ay hHeld ⊢
 refine pu HT_.1 1 37 ?_
 refine pu HT_.1 2 38 ?_
 refine pu HT_.1 3 39 ?_
 refine pu HT_.1 5 41 ?_
 refine pu HT_.1 6 42 ?_
 refine pu HT_.1 7 43 ?_
 refine tk HT_.1 HW_.1 hHeld 0 36 ?_
 refine tk HT_.1 HW_.1 hHeld 4 40 ?_
 refine tk HT_.1 HW_.1 hHeld 8 44 ?_
 refine on HT_.1 9 (some 45) rfl fun K hK => ?_
 refine goes_ Try.func57 (by kernel_rfl) rfl #[.agg #[.string ap, .slice aI ak.length aM, .slice aJ al.length aN], .slice aH (rd_L11 aj af).length aV, .int .i64 (rd aq aC)] (by rfl) rfl rfl pgz ?_
 with_reducible refine (r11_After.calls k2 ap _ _ ak _ _ al _ _ (rd_L11 aj af) (rd aq aC) a5 true _ ?side1 ?side2 ?side3 ?side4 ?side5 ?side6 db.1).mono ?_
 (case side1 => exact csb bp HB)
 (case side2 => exact bm.1)
 (case side3 => exact csb bq HB)
 (case side4 => exact bn.1)
 (case side5 => repeat (first | exact (by repeat (first | (with_reducible exact ab.1) | (with_reducible refine Kd.C_alloc ?_ _) | (with_reducible refine Kd.C_drewN ?_ _) | (with_reducible refine Kd.C_drew ?_) | exact ab.1)) | (with_reducible refine Kd.C_alloc ?_ _) | (with_reducible refine Kd.C_drewN ?_ _) | (with_reducible refine Kd.C_drew ?_)))
 (case side6 => exact a6.1)
 rintro e dS ⟨bl, rfl, ba, hb⟩
 have HS3_ := (hb.cell (World.block_lt_of_cell? _ _ (hHeld.2.2.2.1))).trans (hHeld.2.2.2.1)
 have HS4_ := (hb.cell (World.block_lt_of_cell? _ _ (hHeld.2.2.2.2))).trans (hHeld.2.2.2.2)
 refine ⟨_, rfl, ?_⟩
 have bU := am (Kd.R_lower (Kd.R_new' (Kd.R_newM (M := fun k_ => (w.heap.size ≤ k_)) ba (below_size pbg) (fun k_ h_ => h_)) (Kd.R_lt (pkr ao.1))) (below_size pbg))
 replace ac := am (Kd.N_elder' (pkn ac.1) (Kd.R_base ba) hb)
 replace ao := am (Kd.R_elder' (pkr ao.1) (Kd.R_base ba) hb)
 replace aw := am (Kd.V_elder' (pkv aw.1) (Kd.R_base ba) hb)
 replace aa := bbh aa hb
 replace ab := cbb ab hb
 replace HB := bst hb
 (try clear hb)
 (try clear dj)
 (try clear hk)
 (try clear hi)
 (try clear ba)
 refine hK.out _ _ ⟨(blk_cell aa.1 0).trans rfl, (blk_cell aa.1 1).trans rfl, (blk_cell aa.1 2).trans rfl, HS3_, HS4_⟩ (fun hHeld => ?_)
 clear hK K
 refine nm_ 45 ?_
 refine pu HT_.1 10 35 ?_
 refine pu HT_.1 11 46 ?_
 refine pu HT_.1 12 47 ?_
 refine pu HT_.1 13 10 ?_
 refine pu HT_.1 14 11 ?_
 refine done_ (done_of HT_.1 (by kernel_rfl)) ?_
 try go_wp2
 go_loopg [12, 13] k2 (fun kq dF dG w' => ∃ (aZ : Bool) (aD : Int), dF = .bool aZ ∧ dG = .int .i64 aD ∧ Aside0 (r22_Reach.l2 kq a1 aj af aq aC a5 aZ aD ap ak al = some (r1, r2)) ∧ Aside0 (kq ≤ k2) ∧ Aside0 (Kd.N (Kd.slice 3 (Kd.int .i64)) 26 w' w.heap.size (fun k_ => (w.heap.size ≤ k_) ∧ some k_ ≠ ((.slice (some av) aq.length a4) : Value).ownBlock ∧ some k_ ≠ (bl : Value).ownBlock ∧ k_ ≠ ae) (.slice (some aG) aj.length bA) aj) ∧ Aside0 (Kd.R (Kd.int .i64) 3 w' w.heap.size (fun k_ => (w.heap.size ≤ k_) ∧ some k_ ≠ (bl : Value).ownBlock) (.slice (some av) aq.length a4) aq) ∧ Aside0 (Kd.R (Kd.int .i64) 3 w' w.heap.size (fun k_ => (w.heap.size ≤ k_) ∧ some k_ ≠ ((.slice (some av) aq.length a4) : Value).ownBlock) bl a5) ∧ Aside0 (w'.heap[ae]? = some (.cells #[.string ap, (.slice aI ak.length aM), (.slice aJ al.length aN)] 25 (0, 0))) ∧ Aside0 (Kd.C (Kd.int .i64) w' aH (rd_L11 aj af).length (rd_L11 aj af)) ∧ Aside0 (Below w.heap.size w w'))
 case atStart => exact ⟨(false), (0), prs, prs, H', ⟨Nat.le_refl _⟩, ⟨by (with_reducible repeat (first | apply Kd.N_alloc | apply Kd.N_drewN | apply Kd.N_drew)); exact Kd.N_mono ac.1 (fun _ hk => ⟨hk.1.1, ⟨hk.1.2.1, ⟨hk.2, hk.1.2.2⟩⟩⟩)⟩, ⟨pkr ao.1⟩, ⟨by (with_reducible repeat (first | apply Kd.R_alloc | apply Kd.R_drewN | apply Kd.R_drew)); exact Kd.R_mono bU.1 (fun _ hk => ⟨hk.1.1, hk.2⟩)⟩, ⟨pbk aa.1⟩, ⟨by repeat (first | (with_reducible exact ab.1) | (with_reducible refine Kd.C_alloc ?_ _) | (with_reducible refine Kd.C_drewN ?_ _) | (with_reducible refine Kd.C_drew ?_) | exact ab.1)⟩, ⟨pbg⟩⟩
 clear H'
 try clear c10 bs cp bE dw bF cB bX cC bY cD bZ z5 aE au ay bj aX ce bk aY cf
 obtain ⟨aZ, aD, rfl, rfl, HA, bN, ac, ao, aA, aa, ab, HB⟩ := hrel
 obtain _ | k3 := gk
 ·exact absurd HA.1 (by simp [r22_Reach.l2])
 have H := HA.1
 clear HA
 simp only [r22_Reach.l2] at H
 replace H := ifl H
 rcases H with ⟨b0, H⟩ | ⟨b0, H⟩
 ·cases aZ
  rotate_left
  ·rw [if_pos rfl] at H
   have H' := am H
   clear H
   go_wp2
   go_roundg k3
   case measure => have := bB.1; have := bC.1; have := bN.1; omega
   case rel => exact ⟨(true), (wrap64 (aD + 1)), prs, prs, H', ⟨by have := bB.1; have := bC.1; have := bN.1; omega⟩, ⟨pkn ac.1⟩, ⟨pkr ao.1⟩, ⟨pkr aA.1⟩, ⟨pbk aa.1⟩, ⟨by repeat (first | (with_reducible exact ab.1) | (with_reducible refine Kd.C_alloc ?_ _) | (with_reducible refine Kd.C_drewN ?_ _) | (with_reducible refine Kd.C_drew ?_) | exact ab.1)⟩, ⟨pbg⟩⟩
  rw [if_neg Bool.false_ne_true] at H
  replace H := ifp H
  obtain ⟨cK, H⟩ := H
  have cq := decide_eq_true cK
  clear cK
  replace H := bnd H
  obtain ⟨bR, dk, H⟩ := H
  (try dsimp only at H)
  have H' := am H
  clear H
  have bL : 0 ≤ (aD : Int) := dq
  have bM : aD < (aj.length : Int) := dq
  obtain ⟨co, cI, cL, cO, bz, bx, bv⟩ := at_L11 (Kd.N_reads' ac.1).2.2 aD bL bM
  obtain rfl : aG = co := (by injection cO)
  obtain ⟨dh, cb, b9, bI⟩ := Kd.N_get ac.1 [] aD bL (by first | exact bM | exact dq | (have e_ := (Kd.N_reads' ac.1).1; omega))
  obtain ⟨cF, cH, rfl, bc, a9⟩ := Kd.FK_slice_open b9
  have aU := bI 0 _ rfl
  rw [Nat.add_zero, show ((Kd.slice 3 (Kd.int .i64))).sz = 1 from rfl, Nat.mul_one] at aU
  replace aU := Option.some.inj (aU.symm.trans bz)
  injection aU with hva_ hvn_ hvc_
  rw [hva_] at a9
  rw [hvc_] at bc
  have cA := am (show Kd.V (Kd.int .i64) 3 _ w.heap.size _ _ (rd_L11 aj aD) from Kd.V_mk bc a9)
  clear hva_ hvn_ hvc_ a9 bc bI cb
  have br := am bv
  have bP := am bx
  clear bv bx
  replace bL := eq_true bL
  replace bM := eq_true bM
  obtain ⟨dp, dy, cR⟩ := Kd.R_slice aA.1
  subst cR
  go_wp2_with (first | (go_at_call 14; (with_reducible refine (r04_Same.calls k3 _ _ (rd_L11 aj aD) _ _ a5 bR _ ?side1 ?side2 ?side3 ?side4 dk.1).mono ?_); (case side1 => repeat (first | exact (by repeat (first | (with_reducible exact br.1) | (with_reducible refine Kd.C_alloc ?_ _) | (with_reducible refine Kd.C_drewN ?_ _) | (with_reducible refine Kd.C_drew ?_) | exact br.1)) | (with_reducible refine Kd.C_alloc ?_ _) | (with_reducible refine Kd.C_drewN ?_ _) | (with_reducible refine Kd.C_drew ?_))); (case side2 => exact bP.1); (case side3 => exact csd ((Kd.R_reads' aA.1).2.2)); (case side4 => exact (Kd.R_reads' aA.1).2.1); rintro e w' ⟨rfl, ⟨nd, rfl⟩⟩))
  go_roundg k3
  case measure => have := bB.1; have := bC.1; have := bN.1; omega
  case rel => exact ⟨(bR), (wrap64 (aD + 1)), prs, prs, H', ⟨by have := bB.1; have := bC.1; have := bN.1; omega⟩, ⟨pkn ac.1⟩, ⟨pkr ao.1⟩, ⟨pkr aA.1⟩, ⟨pbk aa.1⟩, ⟨by repeat (first | (with_reducible exact ab.1) | (with_reducible refine Kd.C_alloc ?_ _) | (with_reducible refine Kd.C_drewN ?_ _) | (with_reducible refine Kd.C_drew ?_) | exact ab.1)⟩, ⟨pbg⟩⟩
 have b5 := am H
 clear H
 go_upto_region 17 with (fail)
 go_cut [72] (fun dK wc => ∃ (kq : Nat) (bf : Bool), dK = .bool bf ∧ Aside0 (r22_Reach.j3 kq a1 aj af aq aC a5 aZ bf ap ak al = some (r1, r2)) ∧ Aside0 (kq ≤ k3) ∧ Aside0 (Kd.N (Kd.slice 3 (Kd.int .i64)) 26 wc w.heap.size (fun k_ => (w.heap.size ≤ k_) ∧ some k_ ≠ ((.slice (some av) aq.length a4) : Value).ownBlock ∧ some k_ ≠ (bl : Value).ownBlock ∧ k_ ≠ ae) (.slice (some aG) aj.length bA) aj) ∧ Aside0 (Kd.R (Kd.int .i64) 3 wc w.heap.size (fun k_ => (w.heap.size ≤ k_) ∧ some k_ ≠ (bl : Value).ownBlock) (.slice (some av) aq.length a4) aq) ∧ Aside0 (Kd.R (Kd.int .i64) 3 wc w.heap.size (fun k_ => (w.heap.size ≤ k_) ∧ some k_ ≠ ((.slice (some av) aq.length a4) : Value).ownBlock) bl a5) ∧ Aside0 (wc.heap[ae]? = some (.cells #[.string ap, (.slice aI ak.length aM), (.slice aJ al.length aN)] 25 (0, 0))) ∧ Aside0 (Kd.C (Kd.int .i64) wc aH (rd_L11 aj af).length (rd_L11 aj af)) ∧ Aside0 (Below w.heap.size w wc))
 case first =>
  have H := b5.1
  clear b5
  cases aZ
  rotate_left
  ·rw [if_pos rfl] at H
   have H' := am H
   clear H
   go_wp2
   go_meet
   case rel => exact ⟨_, (false), prs, H', ⟨by have := bB.1; have := bC.1; have := bN.1; first | omega | exact Nat.le_refl _⟩, ⟨pkn ac.1⟩, ⟨pkr ao.1⟩, ⟨pkr aA.1⟩, ⟨pbk aa.1⟩, ⟨by repeat (first | (with_reducible exact ab.1) | (with_reducible refine Kd.C_alloc ?_ _) | (with_reducible refine Kd.C_drewN ?_ _) | (with_reducible refine Kd.C_drew ?_) | exact ab.1)⟩, ⟨pbg⟩⟩
  rw [if_neg Bool.false_ne_true] at H
  have H' := am H
  clear H
  go_wp2
  go_meet
  case rel => exact ⟨_, (((aj.length : Int) == a1)), prs, H', ⟨by have := bB.1; have := bC.1; have := bN.1; first | omega | exact Nat.le_refl _⟩, ⟨pkn ac.1⟩, ⟨pkr ao.1⟩, ⟨pkr aA.1⟩, ⟨pbk aa.1⟩, ⟨by repeat (first | (with_reducible exact ab.1) | (with_reducible refine Kd.C_alloc ?_ _) | (with_reducible refine Kd.C_drewN ?_ _) | (with_reducible refine Kd.C_drew ?_) | exact ab.1)⟩, ⟨pbg⟩⟩
 clear b5
 try clear c10 bs cp bE dw bF cB bX cC bY cD bZ dM b0 dN cK cq dO z5 aE au ay bz bj aX ce bL bk aY cf bM
 obtain ⟨kq, bf, rfl, HA, bQ, ac, ao, aA, aa, ab, HB⟩ := hcut
 obtain _ | cd := kq
 ·exact absurd HA.1 (by simp [r22_Reach.j3])
 have H := HA.1
 clear HA
 simp only [r22_Reach.j3] at H
 cases bf
 rotate_left
 ·rw [if_pos rfl] at H
  simp only [Option.some.injEq, Prod.mk.injEq] at H
  obtain ⟨rfl, rfl⟩ := H
  go_wp2
  go_ret2
  exact ⟨_, per, knl, pbg⟩
 rw [if_neg Bool.false_ne_true] at H
 cases aZ
 rotate_left
 ·rw [if_pos rfl] at H
  have H' := am H
  clear H
  go_wp2
  go_roundg cd
  case measure => have := bB.1; have := bC.1; have := bN.1; have := bQ.1; omega
  case rel => exact ⟨(aj), (wrap64 (aC + 1)), prs, H', ⟨by have := bB.1; have := bC.1; have := bN.1; have := bQ.1; omega⟩, ⟨by (with_reducible repeat (first | apply Kd.N_alloc | apply Kd.N_drewN | apply Kd.N_drew)); exact Kd.N_mono ac.1 (fun _ hk => ⟨hk.1, ⟨hk.2.1, hk.2.2.2⟩⟩)⟩, ⟨by (with_reducible repeat (first | apply Kd.R_alloc | apply Kd.R_drewN | apply Kd.R_drew)); exact Kd.R_mono ao.1 (fun _ hk => hk.1)⟩, ⟨pbk aa.1⟩, ⟨pbg⟩⟩
 rw [if_neg Bool.false_ne_true] at H
 replace H := ifp H
 obtain ⟨df, H⟩ := H
 have ck := am df
 clear df
 obtain ⟨cz, bK⟩ : ∃ y_ : List (List Int), y_ = (aj ++ [a5]) := ⟨_, rfl⟩
 replace H : (r22_Reach.l1 cd a1 cz af aq (wrap64 (aC + 1)) ap ak al) = some (r1, r2) := hrp bK H
 have cm := am bK
 clear bK
 have H' := am H
 clear H
 obtain ⟨cJ, cM, cS⟩ := Kd.R_slice aA.1
 subst cS
 go_wp2_with (first | ((with_reducible refine gate_builtin (b := .append) (xs := #[.tmp 75, .tmp 77]) rfl ?_); (try (refine gate_guard (by rfl) ?_; dsimp only)); at_builtin; refine Kd.N_append (Kd.slice 3 (Kd.int .i64)) (w0 := w) w.heap.size rfl (.tmp 75) (.tmp 77) 50 26 (.slice none 0 0) 24 rfl Try.underlying50 info26 rfl (by decide) (by omega) (.slice (some aG) aj.length bA) aj a5 [.slice cJ a5.length cM] (fun k_ => (w.heap.size ≤ k_) ∧ some k_ ≠ (.slice (some av) aq.length a4 : Value).ownBlock ∧ k_ ≠ ae) (fun k_ => ((fun k_ => (w.heap.size ≤ k_) ∧ some k_ ≠ (.slice (some av) aq.length a4 : Value).ownBlock ∧ k_ ≠ ae)) k_ ∧ some k_ ≠ (.slice (some aG) aj.length bA : Value).ownBlock) rfl rfl ?aP (fun _ hk => hk) ?aF ?aO ?aB ?aS ?aL ?_; (case aP => exact (Kd.FK_slice_mk (Kd.R_reads' (Kd.R_mono (ok' := (fun k_ => ((fun k_ => (w.heap.size ≤ k_) ∧ some k_ ≠ (.slice (some av) aq.length a4 : Value).ownBlock ∧ k_ ≠ ae)) k_ ∧ some k_ ≠ (.slice (some aG) aj.length bA : Value).ownBlock)) (Kd.R_types (Kd.R_apart' (aA.1) (Kd.N_typed ac.1) (by decide)) aa.1 (by decide)) (fun k_ hk => ⟨⟨hk.1.1.1, ⟨hk.1.1.2, hk.2⟩⟩, hk.1.2⟩))).2.1 (Kd.R_F (Kd.R_mono (ok' := (fun k_ => ((fun k_ => (w.heap.size ≤ k_) ∧ some k_ ≠ (.slice (some av) aq.length a4 : Value).ownBlock ∧ k_ ≠ ae)) k_ ∧ some k_ ≠ (.slice (some aG) aj.length bA : Value).ownBlock)) (Kd.R_types (Kd.R_apart' (aA.1) (Kd.N_typed ac.1) (by decide)) aa.1 (by decide)) (fun k_ hk => ⟨⟨hk.1.1.1, ⟨hk.1.1.2, hk.2⟩⟩, hk.1.2⟩))))); (case aB => exact pbg); (case aF => exact (fun k_ hk => ⟨(Nat.le_trans (below_size pbg) hk), Kd.fresh' (Kd.R_lt (pkr ao.1)) k_ hk, Kd.freshB (g := ae) (o := .cells #[.string ap, .slice aI ak.length aM, .slice aJ al.length aN] 25 (0, 0)) (by exact pbk aa.1) k_ hk⟩)); (case aO => exact (by (with_reducible repeat (first | apply Kd.N_alloc | apply Kd.N_drewN | apply Kd.N_drew)); exact Kd.N_mono ac.1 (fun _ hk => ⟨hk.1, ⟨hk.2.1, hk.2.2.2⟩⟩))); (case aS => exact (below_size pbg)); (case aL => have := ck.1; omega); intro dJ dU ho hb hg hat; rw [← cm.1] at ho; have cj := am ho; replace ao := am (Kd.R_over' (pkr ao.1) (Kd.N_typed (pkn ac.1)) (by decide) hg); replace aa := (bgr aa hg (Kd.N_ne ac.1 aa.1 (by decide))); replace HB := am hb; (try clear ac aA); clear ho hb hg hat))
 go_roundg cd
 case measure => have := bB.1; have := bC.1; have := bN.1; have := bQ.1; omega
 case rel => exact ⟨(cz), (wrap64 (aC + 1)), prs, H', ⟨by have := bB.1; have := bC.1; have := bN.1; have := bQ.1; omega⟩, ⟨pkn cj.1⟩, ⟨by (with_reducible repeat (first | apply Kd.R_alloc | apply Kd.R_drewN | apply Kd.R_drew)); exact Kd.R_mono ao.1 (fun _ hk => hk.1)⟩, ⟨pbk aa.1⟩, ⟨pbg⟩⟩

/-! ### petrinetlaw22_KarpmillerFinite: function 7 -/
mutual
def petrinetlaw22_KarpmillerFinite.j0 : Nat → Bool → ByteArray → List (S57) → List (S60) → Option (Bool)
 | 0, _, _, _, _ => none
 | k + 1, eD, aE, aF, aG => if eD = true then ((petrinetlaw22_alive.f k).bind fun bZ => (some bZ)) else ((karpmiller_Tree.f k aE aF aG 200).bind fun bm => (if bm.2.2 = 0 then (petrinetlaw22_KarpmillerFinite.j1 k bm.1 (!bm.2.1) aE aF aG) else (petrinetlaw22_KarpmillerFinite.j1 k bm.1 true aE aF aG)))
def petrinetlaw22_KarpmillerFinite.j1 : Nat → List (S48) → Bool → ByteArray → List (S57) → List (S60) → Option (Bool)
 | 0, _, _, _, _, _ => none
 | k + 1, x3, eE, aE, aF, aG => if eE = true then ((petrinetlaw22_alive.f k).bind fun b1 => (some b1)) else ((r22_Reach.f k aE aF aG 200).bind fun bI => ((karpmiller_Unbounded.f k x3).bind fun aR => (if (aR.length : Int) > 0 then (if bI.2 = true then (none) else ((petrinetlaw22_alive.f k).bind fun b2 => (some b2))) else (if bI.2 = true then (petrinetlaw22_KarpmillerFinite.l0 k x3 bI.1 0) else (none)))))
def petrinetlaw22_KarpmillerFinite.l0 : Nat → List (S48) → List (List Int) → Int → Option (Bool)
 | 0, _, _, _ => none
 | k + 1, x3, x6, x8 => if x8 < (x3.length : Int) then (petrinetlaw22_KarpmillerFinite.l1 k x3 x6 x8 false 0) else (petrinetlaw22_KarpmillerFinite.l2 k x3 x6 0)
def petrinetlaw22_KarpmillerFinite.l1 : Nat → List (S48) → List (List Int) → Int → Bool → Int → Option (Bool)
 | 0, _, _, _, _, _ => none
 | k + 1, x3, x6, x8, x9, x10 => if x10 < (x6.length : Int) then (if x9 = true then (petrinetlaw22_KarpmillerFinite.l1 k x3 x6 x8 true (wrap64 (x10 + 1))) else (if 0 ≤ x8 then (if x8 < (x3.length : Int) then (if 0 ≤ x10 then ((r04_Same.f k ((rd_T48 x3 x8).f2) (rd_L11 x6 x10)).bind fun bP => (petrinetlaw22_KarpmillerFinite.l1 k x3 x6 x8 bP (wrap64 (x10 + 1)))) else (none)) else (none)) else (none))) else (if x9 = true then (petrinetlaw22_KarpmillerFinite.l0 k x3 x6 (wrap64 (x8 + 1))) else (none))
def petrinetlaw22_KarpmillerFinite.l2 : Nat → List (S48) → List (List Int) → Int → Option (Bool)
 | 0, _, _, _ => none
 | k + 1, x3, x6, x11 => if x11 < (x6.length : Int) then (petrinetlaw22_KarpmillerFinite.l3 k x3 x6 x11 false 0) else ((petrinetlaw22_alive.f k).bind fun b3 => (some b3))
def petrinetlaw22_KarpmillerFinite.l3 : Nat → List (S48) → List (List Int) → Int → Bool → Int → Option (Bool)
 | 0, _, _, _, _, _ => none
 | k + 1, x3, x6, x11, x12, x13 => if x13 < (x3.length : Int) then (if x12 = true then (petrinetlaw22_KarpmillerFinite.l3 k x3 x6 x11 true (wrap64 (x13 + 1))) else (if 0 ≤ x13 then (if 0 ≤ x11 then (if x11 < (x6.length : Int) then ((r04_Same.f k ((rd_T48 x3 x13).f2) (rd_L11 x6 x11)).bind fun bQ => (petrinetlaw22_KarpmillerFinite.l3 k x3 x6 x11 bQ (wrap64 (x13 + 1)))) else (none)) else (none)) else (none))) else (if x12 = true then (petrinetlaw22_KarpmillerFinite.l2 k x3 x6 (wrap64 (x11 + 1))) else (none))
end
def petrinetlaw22_KarpmillerFinite.f (k : Nat) (ag : ByteArray) (ae : List (S57)) (af : List (S60)) : Option (Bool) := (r09_Light.f k ag ae af).bind fun cu => (if cu = true then ((r09_Valid.f k ag ae af).bind fun bO => (petrinetlaw22_KarpmillerFinite.j0 k (!bO) ag ae af)) else (petrinetlaw22_KarpmillerFinite.j0 k true ag ae af))
theorem petrinetlaw22_KarpmillerFinite.mono_l : ∀ k, M4 petrinetlaw22_KarpmillerFinite.j0 k ∧ M5 petrinetlaw22_KarpmillerFinite.j1 k ∧ M3 petrinetlaw22_KarpmillerFinite.l0 k ∧ M5 petrinetlaw22_KarpmillerFinite.l1 k ∧ M3 petrinetlaw22_KarpmillerFinite.l2 k ∧ M5 petrinetlaw22_KarpmillerFinite.l3 k
 | 0 => ⟨fun _ _ _ _ r h => by simp [petrinetlaw22_KarpmillerFinite.j0] at h, fun _ _ _ _ _ r h => by simp [petrinetlaw22_KarpmillerFinite.j1] at h, fun _ _ _ r h => by simp [petrinetlaw22_KarpmillerFinite.l0] at h, fun _ _ _ _ _ r h => by simp [petrinetlaw22_KarpmillerFinite.l1] at h, fun _ _ _ r h => by simp [petrinetlaw22_KarpmillerFinite.l2] at h, fun _ _ _ _ _ r h => by simp [petrinetlaw22_KarpmillerFinite.l3] at h⟩
 | k + 1 => by
  obtain ⟨dI, dJ, dK, dL, dM, dN⟩ := petrinetlaw22_KarpmillerFinite.mono_l k
  refine ⟨?_, ?_, ?_, ?_, ?_, ?_⟩ <;> dsimp only [M3, M4, M5] <;> intros <;> (first | unfold petrinetlaw22_KarpmillerFinite.j0 | unfold petrinetlaw22_KarpmillerFinite.j1 | unfold petrinetlaw22_KarpmillerFinite.l0 | unfold petrinetlaw22_KarpmillerFinite.l1 | unfold petrinetlaw22_KarpmillerFinite.l2 | unfold petrinetlaw22_KarpmillerFinite.l3) <;> repeat' first | (with_reducible first | apply dI | apply dJ | apply dK | apply dL | apply dM | apply dN | apply karpmiller_Tree.mono | apply karpmiller_Unbounded.mono | apply petrinetlaw22_alive.mono | apply r04_Same.mono | apply r09_Light.mono | apply r09_Valid.mono | apply r22_Reach.mono | apply lr | apply ln | apply li | refine lb ?_ fun _ => ?_)
theorem petrinetlaw22_KarpmillerFinite.mono : ∀ a0 a1 a2 k, LeO (petrinetlaw22_KarpmillerFinite.f k a0 a1 a2) (petrinetlaw22_KarpmillerFinite.f (k + 1) a0 a1 a2) := by
 intro a0 a1 a2 k
 obtain ⟨dI, dJ, dK, dL, dM, dN⟩ := petrinetlaw22_KarpmillerFinite.mono_l k
 unfold petrinetlaw22_KarpmillerFinite.f
 repeat' first | (with_reducible first | apply dI | apply dJ | apply dK | apply dL | apply dM | apply dN | apply karpmiller_Tree.mono | apply karpmiller_Unbounded.mono | apply petrinetlaw22_alive.mono | apply r04_Same.mono | apply r09_Light.mono | apply r09_Valid.mono | apply r22_Reach.mono | apply lr | apply ln | apply li | refine lb ?_ fun _ => ?_)
set_option maxHeartbeats 8000000 in
set_option maxRecDepth 100000 in
theorem petrinetlaw22_KarpmillerFinite.calls (k : Nat) (ag : ByteArray) (az : Option Addr) (aB : Nat) (ae : List (S57)) (aA : Option Addr) (aC : Nat) (af : List (S60)) (r : Bool) (w : World) (cb : Kd.C k57 w az ae.length ae) (b9 : ae.length ≤ aB) (cd : Kd.C k60 w aA af.length af) (ca : af.length ≤ aC) (h : petrinetlaw22_KarpmillerFinite.f k ag ae af = some r) :
  Calls Try.prog 7 #[.agg #[.string ag, .slice az ae.length aB, .slice aA af.length aC]] w fun e w' => e = .returned (.bool r) ∧ Below w.heap.size w w' := by
 have em := Try.underlying25
 have aq := am cb
 have ao := am b9
 clear cb b9
 have ar := am cd
 have ap := am ca
 clear cd ca
 have HB := am (Below.refl w.heap.size w)
 have H := h
 unfold petrinetlaw22_KarpmillerFinite.f at H
 clear h
 have dl := am H
 clear H
 go_enter Try.func7, Try.ntmps7
 go_upto_region 1 with (first | ((with_reducible refine gate_dst (N := 1) rfl ?_); refine box_ev ?_; intro ac hg w3 hbox hb; have aa := am hbox; have ba := gwl hg; have b4 := ba; replace HB := bsl hb; clear hb hbox hg))
 repeat (go_quiet (first | ((with_reducible refine gate_dst (N := 1) rfl ?_); refine box_ev ?_; intro ac hg w3 hbox hb; have aa := am hbox; have ba := gwl hg; have b4 := ba; replace HB := bsl hb; clear hb hbox hg)); go_upto_region 1 with (first | ((with_reducible refine gate_dst (N := 1) rfl ?_); refine box_ev ?_; intro ac hg w3 hbox hb; have aa := am hbox; have ba := gwl hg; have b4 := ba; replace HB := bsl hb; clear hb hbox hg)))
 (try simp only [Act.put, List.setIfInBounds_toArray, List.set_cons_zero, List.set_cons_succ])
 go_cut [21] (fun er wc => ∃ (kq : Nat) (bB : Bool), er = .bool bB ∧ Aside0 (petrinetlaw22_KarpmillerFinite.j0 kq bB ag ae af = some r) ∧ Aside0 (kq ≤ k) ∧ Aside0 (wc.heap[ac]? = some (.cells #[.string ag, (.slice az ae.length aB), (.slice aA af.length aC)] 25 (0, 0))) ∧ Aside0 (Below w.heap.size w wc))
 case first =>
  have H := dl.1
  clear dl
  replace H := bnd H
  obtain ⟨cu, A4, H⟩ := H
  (try dsimp only at H)
  cases cu
  ·rw [if_neg Bool.false_ne_true] at H
   have H' := am H
   clear H
   have cz := cf3 aa.1
   iterate 4 (try go_wp2_with (first | (go_at_call 21; (with_reducible refine (r09_Light.calls k ag _ _ ae _ _ af false _ ?side1 ?side2 ?side3 ?side4 A4.1).mono ?_); (case side1 => exact csb aq HB); (case side2 => exact ao.1); (case side3 => exact csb ar HB); (case side4 => exact ap.1); rintro e eu ⟨rfl, hb⟩; replace aa := bbh aa hb; replace HB := bst hb; (try clear hb))); try go_quiet (first | (go_at_call 21; (with_reducible refine (r09_Light.calls k ag _ _ ae _ _ af false _ ?side1 ?side2 ?side3 ?side4 A4.1).mono ?_); (case side1 => exact csb aq HB); (case side2 => exact ao.1); (case side3 => exact csb ar HB); (case side4 => exact ap.1); rintro e eu ⟨rfl, hb⟩; replace aa := bbh aa hb; replace HB := bst hb; (try clear hb))))
   go_meet
   case rel => exact ⟨_, (true), prs, H', ⟨by first | omega | exact Nat.le_refl _⟩, ⟨pbk aa.1⟩, ⟨pbg⟩⟩
  rw [if_pos rfl] at H
  replace H := bnd H
  obtain ⟨bO, A6, H⟩ := H
  (try dsimp only at H)
  have H' := am H
  clear H
  have z7 := cf3 aa.1
  iterate 4 (try go_wp2_with (first | (go_at_call 21; (with_reducible refine (r09_Light.calls k ag _ _ ae _ _ af true _ ?side1 ?side2 ?side3 ?side4 A4.1).mono ?_); (case side1 => exact csb aq HB); (case side2 => exact ao.1); (case side3 => exact csb ar HB); (case side4 => exact ap.1); rintro e w8 ⟨rfl, hb⟩; replace aa := bbh aa hb; replace HB := bst hb; (try clear hb); have z9 := cf3 aa.1) | (go_at_call 25; (with_reducible refine (r09_Valid.calls k ag _ _ ae _ _ af bO _ ?side1 ?side2 ?side3 ?side4 A6.1).mono ?_); (case side1 => exact csb aq HB); (case side2 => exact ao.1); (case side3 => exact csb ar HB); (case side4 => exact ap.1); rintro e et ⟨rfl, hb⟩; replace aa := bbh aa hb; replace HB := bst hb; (try clear hb))); try go_quiet (first | (go_at_call 21; (with_reducible refine (r09_Light.calls k ag _ _ ae _ _ af true _ ?side1 ?side2 ?side3 ?side4 A4.1).mono ?_); (case side1 => exact csb aq HB); (case side2 => exact ao.1); (case side3 => exact csb ar HB); (case side4 => exact ap.1); rintro e w8 ⟨rfl, hb⟩; replace aa := bbh aa hb; replace HB := bst hb; (try clear hb); have z9 := cf3 aa.1) | (go_at_call 25; (with_reducible refine (r09_Valid.calls k ag _ _ ae _ _ af bO _ ?side1 ?side2 ?side3 ?side4 A6.1).mono ?_); (case side1 => exact csb aq HB); (case side2 => exact ao.1); (case side3 => exact csb ar HB); (case side4 => exact ap.1); rintro e et ⟨rfl, hb⟩; replace aa := bbh aa hb; replace HB := bst hb; (try clear hb))))
  go_meet
  case rel => exact ⟨_, (!bO), prs, H', ⟨by first | omega | exact Nat.le_refl _⟩, ⟨pbk aa.1⟩, ⟨pbg⟩⟩
 clear dl
 try clear c5 cz z7 z9
 obtain ⟨kq, bB, rfl, HA, bk, aa, HB⟩ := hcut
 obtain _ | cy := kq
 ·exact absurd HA.1 (by simp [petrinetlaw22_KarpmillerFinite.j0])
 have H := HA.1
 clear HA
 simp only [petrinetlaw22_KarpmillerFinite.j0] at H
 cases bB
 rotate_left
 ·rw [if_pos rfl] at H
  replace H := bnd H
  obtain ⟨bZ, A14, H⟩ := H
  (try dsimp only at H)
  obtain rfl := Option.some.inj H
  iterate 4 (try go_wp2_with (first | (go_at_call 11; (with_reducible refine (petrinetlaw22_alive.calls cy  bZ _ A14.1).mono ?_); rintro e ev ⟨rfl, hb⟩; replace aa := bbh aa hb; replace HB := bst hb; (try clear hb))); try go_quiet (first | (go_at_call 11; (with_reducible refine (petrinetlaw22_alive.calls cy  bZ _ A14.1).mono ?_); rintro e ev ⟨rfl, hb⟩; replace aa := bbh aa hb; replace HB := bst hb; (try clear hb))))
  go_ret
  exact ⟨per, pbg⟩
 rw [if_neg Bool.false_ne_true] at H
 replace H := bnd H
 obtain ⟨⟨ah, b0, cv⟩, dc, H⟩ := H
 (try dsimp only at H)
 have ce := am H
 clear H
 have cE := cf3 aa.1
 go_upto_region 4 with (first | (go_at_call 18; (with_reducible refine (karpmiller_Tree.calls cy ag _ _ ae _ _ af 200 ah b0 cv _ ?side1 ?side2 ?side3 ?side4 dc.1).mono ?_); (case side1 => exact csb aq HB); (case side2 => exact ao.1); (case side3 => exact csb ar HB); (case side4 => exact ap.1); rintro e d9 ⟨bf, rfl, al, hb⟩; have bl := am (Kd.N_lower (Kd.N_mono (ok' := fun k_ => k_ ≠ ac) al (fun k_ hk_ => (Kd.freshB (g := ac) (o := .cells #[.string ag, .slice az ae.length aB, .slice aA af.length aC] 25 (0, 0)) (by exact pbk aa.1) k_ hk_))) (below_size pbg)); replace aa := bbh aa hb; replace HB := bst hb; (try clear hb); (try clear al)))
 repeat (go_quiet (first | (go_at_call 18; (with_reducible refine (karpmiller_Tree.calls cy ag _ _ ae _ _ af 200 ah b0 cv _ ?side1 ?side2 ?side3 ?side4 dc.1).mono ?_); (case side1 => exact csb aq HB); (case side2 => exact ao.1); (case side3 => exact csb ar HB); (case side4 => exact ap.1); rintro e d9 ⟨bf, rfl, al, hb⟩; have bl := am (Kd.N_lower (Kd.N_mono (ok' := fun k_ => k_ ≠ ac) al (fun k_ hk_ => (Kd.freshB (g := ac) (o := .cells #[.string ag, .slice az ae.length aB, .slice aA af.length aC] 25 (0, 0)) (by exact pbk aa.1) k_ hk_))) (below_size pbg)); replace aa := bbh aa hb; replace HB := bst hb; (try clear hb); (try clear al))); go_upto_region 4 with (first | (go_at_call 18; (with_reducible refine (karpmiller_Tree.calls cy ag _ _ ae _ _ af 200 ah b0 cv _ ?side1 ?side2 ?side3 ?side4 dc.1).mono ?_); (case side1 => exact csb aq HB); (case side2 => exact ao.1); (case side3 => exact csb ar HB); (case side4 => exact ap.1); rintro e d9 ⟨bf, rfl, al, hb⟩; have bl := am (Kd.N_lower (Kd.N_mono (ok' := fun k_ => k_ ≠ ac) al (fun k_ hk_ => (Kd.freshB (g := ac) (o := .cells #[.string ag, .slice az ae.length aB, .slice aA af.length aC] 25 (0, 0)) (by exact pbk aa.1) k_ hk_))) (below_size pbg)); replace aa := bbh aa hb; replace HB := bst hb; (try clear hb); (try clear al))))
 (try simp only [Act.put, List.setIfInBounds_toArray, List.set_cons_zero, List.set_cons_succ])
 go_cut [34] (fun es wc => ∃ (kq : Nat) (a9 : Bool), es = .bool a9 ∧ Aside0 (petrinetlaw22_KarpmillerFinite.j1 kq ah a9 ag ae af = some r) ∧ Aside0 (kq ≤ cy) ∧ Aside0 (Kd.N k48 48 wc w.heap.size (fun k_ => k_ ≠ ac) bf ah) ∧ Aside0 (wc.heap[ac]? = some (.cells #[.string ag, (.slice az ae.length aB), (.slice aA af.length aC)] 25 (0, 0))) ∧ Aside0 (Below w.heap.size w wc))
 case first =>
  have H := ce.1
  clear ce
  replace H := ife H
  rcases H with ⟨ay, aS, H⟩ | ⟨ay, aS, H⟩
  rotate_left
  ·(first | rw [ay] | (simp only [i64_w, i32_w]; rw [ay]) | skip)
   have H' := am H
   clear H
   go_wp2
   repeat (go_quiet (fail); try go_wp2)
   go_meet
   case rel => exact ⟨_, (true), prs, H', ⟨by have := bk.1; first | omega | exact Nat.le_refl _⟩, ⟨pkn bl.1⟩, ⟨pbk aa.1⟩, ⟨pbg⟩⟩
  (first | rw [ay] | (simp only [i64_w, i32_w]; rw [ay]) | skip)
  have H' := am H
  clear H
  go_wp2
  repeat (go_quiet (fail); try go_wp2)
  go_meet
  case rel => exact ⟨_, (!b0), prs, H', ⟨by have := bk.1; first | omega | exact Nat.le_refl _⟩, ⟨pkn bl.1⟩, ⟨pbk aa.1⟩, ⟨pbg⟩⟩
 clear ce
 try clear c5 cL ay aS cz cE z7 z9
 obtain ⟨kq, a9, rfl, HA, aH, ab, aa, HB⟩ := hcut
 obtain _ | aD := kq
 ·exact absurd HA.1 (by simp [petrinetlaw22_KarpmillerFinite.j1])
 have H := HA.1
 clear HA
 simp only [petrinetlaw22_KarpmillerFinite.j1] at H
 cases a9
 rotate_left
 ·rw [if_pos rfl] at H
  replace H := bnd H
  obtain ⟨b1, dO, H⟩ := H
  (try dsimp only at H)
  obtain rfl := Option.some.inj H
  iterate 4 (try go_wp2_with (first | (go_at_call 11; (with_reducible refine (petrinetlaw22_alive.calls aD  b1 _ dO.1).mono ?_); rintro e ew ⟨rfl, hb⟩; replace ab := nbw ab hb; replace aa := bbh aa hb; replace HB := bst hb; (try clear hb))); try go_quiet (first | (go_at_call 11; (with_reducible refine (petrinetlaw22_alive.calls aD  b1 _ dO.1).mono ?_); rintro e ew ⟨rfl, hb⟩; replace ab := nbw ab hb; replace aa := bbh aa hb; replace HB := bst hb; (try clear hb))))
  go_ret
  exact ⟨per, pbg⟩
 rw [if_neg Bool.false_ne_true] at H
 replace H := bnd H
 obtain ⟨⟨ak, cD⟩, cF, H⟩ := H
 (try dsimp only at H)
 replace H := bnd H
 obtain ⟨aR, cG, H⟩ := H
 (try dsimp only at H)
 by_cases bS : (aR.length : Int) > 0
 ·rw [if_pos bS] at H
  have bb : decide (0 < (aR.length : Int)) = true := decide_eq_true bS
  have bc : decide (0 < aR.length) = true := decide_eq_true (by omega)
  clear bS
  cases cD
  rotate_left
  ·rw [if_pos rfl] at H
   exact absurd H (by simp)
  rw [if_neg Bool.false_ne_true] at H
  replace H := bnd H
  obtain ⟨b2, dP, H⟩ := H
  (try dsimp only at H)
  obtain rfl := Option.some.inj H
  have da := cf3 aa.1
  iterate 4 (try go_wp2_with (first | (go_at_call 29; (with_reducible refine (r22_Reach.calls aD ag _ _ ae _ _ af 200 ak false _ ?side1 ?side2 ?side3 ?side4 cF.1).mono ?_); (case side1 => exact csb aq HB); (case side2 => exact ao.1); (case side3 => exact csb ar HB); (case side4 => exact ap.1); rintro e ex ⟨a8, rfl, al, hb⟩; have aj := am (Kd.N_lower (Kd.N_mono (ok' := fun k_ => some k_ ≠ (bf : Value).ownBlock ∧ k_ ≠ ac) al (fun k_ hk_ => ⟨(Kd.fresh' (Kd.N_lt (pkn ab.1)) k_ hk_), (Kd.freshB (g := ac) (o := .cells #[.string ag, .slice az ae.length aB, .slice aA af.length aC] 25 (0, 0)) (by exact pbk aa.1) k_ hk_)⟩)) (below_size pbg)); replace ab := am (Kd.N_elder' (pkn ab.1) (Kd.N_base al) hb); replace aa := bbh aa hb; replace HB := bst hb; (try clear hb); (try clear al); obtain ⟨di, dw, cf⟩ := Kd.N_slice ab.1; subst cf) | (go_at_call 30; (with_reducible refine (karpmiller_Unbounded.calls aD _ _ ah aR _ ?side1 ?side2 cG.1).mono ?_); (case side1 => exact csd ((Kd.N_reads' ab.1).2.2)); (case side2 => exact (Kd.N_reads' ab.1).2.1); rintro e ey ⟨cw, rfl, al, hb⟩; have ax := am (Kd.R_lower al (below_size pbg)); replace ab := am (Kd.N_elder' (pkn ab.1) (Kd.R_base al) hb); replace aj := am (Kd.N_elder' (pkn aj.1) (Kd.R_base al) hb); replace aa := bbh aa hb; replace HB := bst hb; (try clear hb); (try clear al); obtain ⟨dj, dx, cg⟩ := Kd.R_slice ax.1; subst cg) | (go_at_call 11; (with_reducible refine (petrinetlaw22_alive.calls aD  b2 _ dP.1).mono ?_); rintro e ez ⟨rfl, hb⟩; replace ab := nbw ab hb; replace aj := nbw aj hb; replace ax := rbw ax hb; replace aa := bbh aa hb; replace HB := bst hb; (try clear hb))); try go_quiet (first | (go_at_call 29; (with_reducible refine (r22_Reach.calls aD ag _ _ ae _ _ af 200 ak false _ ?side1 ?side2 ?side3 ?side4 cF.1).mono ?_); (case side1 => exact csb aq HB); (case side2 => exact ao.1); (case side3 => exact csb ar HB); (case side4 => exact ap.1); rintro e ex ⟨a8, rfl, al, hb⟩; have aj := am (Kd.N_lower (Kd.N_mono (ok' := fun k_ => some k_ ≠ (bf : Value).ownBlock ∧ k_ ≠ ac) al (fun k_ hk_ => ⟨(Kd.fresh' (Kd.N_lt (pkn ab.1)) k_ hk_), (Kd.freshB (g := ac) (o := .cells #[.string ag, .slice az ae.length aB, .slice aA af.length aC] 25 (0, 0)) (by exact pbk aa.1) k_ hk_)⟩)) (below_size pbg)); replace ab := am (Kd.N_elder' (pkn ab.1) (Kd.N_base al) hb); replace aa := bbh aa hb; replace HB := bst hb; (try clear hb); (try clear al); obtain ⟨di, dw, cf⟩ := Kd.N_slice ab.1; subst cf) | (go_at_call 30; (with_reducible refine (karpmiller_Unbounded.calls aD _ _ ah aR _ ?side1 ?side2 cG.1).mono ?_); (case side1 => exact csd ((Kd.N_reads' ab.1).2.2)); (case side2 => exact (Kd.N_reads' ab.1).2.1); rintro e ey ⟨cw, rfl, al, hb⟩; have ax := am (Kd.R_lower al (below_size pbg)); replace ab := am (Kd.N_elder' (pkn ab.1) (Kd.R_base al) hb); replace aj := am (Kd.N_elder' (pkn aj.1) (Kd.R_base al) hb); replace aa := bbh aa hb; replace HB := bst hb; (try clear hb); (try clear al); obtain ⟨dj, dx, cg⟩ := Kd.R_slice ax.1; subst cg) | (go_at_call 11; (with_reducible refine (petrinetlaw22_alive.calls aD  b2 _ dP.1).mono ?_); rintro e ez ⟨rfl, hb⟩; replace ab := nbw ab hb; replace aj := nbw aj hb; replace ax := rbw ax hb; replace aa := bbh aa hb; replace HB := bst hb; (try clear hb))))
  go_ret
  exact ⟨per, pbg⟩
 rw [if_neg bS] at H
 have bb : decide (0 < (aR.length : Int)) = false := decide_eq_false bS
 have bc : decide (0 < aR.length) = false := decide_eq_false (by omega)
 clear bS
 cases cD
 ·rw [if_neg Bool.false_ne_true] at H
  exact absurd H (by simp)
 rw [if_pos rfl] at H
 have H' := am H
 clear H
 have db := cf3 aa.1
 iterate 4 (try go_wp2_with (first | (go_at_call 29; (with_reducible refine (r22_Reach.calls aD ag _ _ ae _ _ af 200 ak true _ ?side1 ?side2 ?side3 ?side4 cF.1).mono ?_); (case side1 => exact csb aq HB); (case side2 => exact ao.1); (case side3 => exact csb ar HB); (case side4 => exact ap.1); rintro e eA ⟨a8, rfl, al, hb⟩; have aj := am (Kd.N_lower (Kd.N_mono (ok' := fun k_ => some k_ ≠ (bf : Value).ownBlock ∧ k_ ≠ ac) al (fun k_ hk_ => ⟨(Kd.fresh' (Kd.N_lt (pkn ab.1)) k_ hk_), (Kd.freshB (g := ac) (o := .cells #[.string ag, .slice az ae.length aB, .slice aA af.length aC] 25 (0, 0)) (by exact pbk aa.1) k_ hk_)⟩)) (below_size pbg)); replace ab := am (Kd.N_elder' (pkn ab.1) (Kd.N_base al) hb); replace aa := bbh aa hb; replace HB := bst hb; (try clear hb); (try clear al); obtain ⟨aT, aU, ch⟩ := Kd.N_slice ab.1; subst ch) | (go_at_call 30; (with_reducible refine (karpmiller_Unbounded.calls aD _ _ ah aR _ ?side1 ?side2 cG.1).mono ?_); (case side1 => exact csd ((Kd.N_reads' ab.1).2.2)); (case side2 => exact (Kd.N_reads' ab.1).2.1); rintro e eB ⟨cw, rfl, al, hb⟩; have ax := am (Kd.R_lower al (below_size pbg)); replace ab := am (Kd.N_elder' (pkn ab.1) (Kd.R_base al) hb); replace aj := am (Kd.N_elder' (pkn aj.1) (Kd.R_base al) hb); replace aa := bbh aa hb; replace HB := bst hb; (try clear hb); (try clear al); obtain ⟨dk, dy, ci⟩ := Kd.R_slice ax.1; subst ci)); try go_quiet (first | (go_at_call 29; (with_reducible refine (r22_Reach.calls aD ag _ _ ae _ _ af 200 ak true _ ?side1 ?side2 ?side3 ?side4 cF.1).mono ?_); (case side1 => exact csb aq HB); (case side2 => exact ao.1); (case side3 => exact csb ar HB); (case side4 => exact ap.1); rintro e eA ⟨a8, rfl, al, hb⟩; have aj := am (Kd.N_lower (Kd.N_mono (ok' := fun k_ => some k_ ≠ (bf : Value).ownBlock ∧ k_ ≠ ac) al (fun k_ hk_ => ⟨(Kd.fresh' (Kd.N_lt (pkn ab.1)) k_ hk_), (Kd.freshB (g := ac) (o := .cells #[.string ag, .slice az ae.length aB, .slice aA af.length aC] 25 (0, 0)) (by exact pbk aa.1) k_ hk_)⟩)) (below_size pbg)); replace ab := am (Kd.N_elder' (pkn ab.1) (Kd.N_base al) hb); replace aa := bbh aa hb; replace HB := bst hb; (try clear hb); (try clear al); obtain ⟨aT, aU, ch⟩ := Kd.N_slice ab.1; subst ch) | (go_at_call 30; (with_reducible refine (karpmiller_Unbounded.calls aD _ _ ah aR _ ?side1 ?side2 cG.1).mono ?_); (case side1 => exact csd ((Kd.N_reads' ab.1).2.2)); (case side2 => exact (Kd.N_reads' ab.1).2.1); rintro e eB ⟨cw, rfl, al, hb⟩; have ax := am (Kd.R_lower al (below_size pbg)); replace ab := am (Kd.N_elder' (pkn ab.1) (Kd.R_base al) hb); replace aj := am (Kd.N_elder' (pkn aj.1) (Kd.R_base al) hb); replace aa := bbh aa hb; replace HB := bst hb; (try clear hb); (try clear al); obtain ⟨dk, dy, ci⟩ := Kd.R_slice ax.1; subst ci)))
 go_loopg [8] aD (fun kq v8 w' => ∃ (aI : Int), v8 = .int .i64 aI ∧ Aside0 (petrinetlaw22_KarpmillerFinite.l0 kq ah ak aI = some r) ∧ Aside0 (kq ≤ aD) ∧ Aside0 (Kd.N k48 48 w' w.heap.size (fun k_ => some k_ ≠ (a8 : Value).ownBlock ∧ k_ ≠ ac) (.slice aT ah.length aU) ah) ∧ Aside0 (Kd.N (Kd.slice 3 (Kd.int .i64)) 26 w' w.heap.size (fun k_ => some k_ ≠ ((.slice aT ah.length aU) : Value).ownBlock ∧ k_ ≠ ac) a8 ak) ∧ Aside0 (w'.heap[ac]? = some (.cells #[.string ag, (.slice az ae.length aB), (.slice aA af.length aC)] 25 (0, 0))) ∧ Aside0 (Below w.heap.size w w'))
 case atStart => exact ⟨(0), prs, H', ⟨Nat.le_refl _⟩, ⟨by (with_reducible repeat (first | apply Kd.N_alloc | apply Kd.N_drewN | apply Kd.N_drew)); exact Kd.N_mono ab.1 (fun _ hk => ⟨hk.1.2, hk.1.1⟩)⟩, ⟨by (with_reducible repeat (first | apply Kd.N_alloc | apply Kd.N_drewN | apply Kd.N_drew)); exact Kd.N_mono aj.1 (fun _ hk => ⟨hk.1.1, hk.1.2⟩)⟩, ⟨pbk aa.1⟩, ⟨pbg⟩⟩
 clear H'
 try clear c5 dm cL ay aS dn bS bb bc dp cz cE da db z7 z9
 obtain ⟨aI, rfl, HA, bH, ab, ai, aa, HB⟩ := hrel
 obtain _ | k3 := gk
 ·exact absurd HA.1 (by simp [petrinetlaw22_KarpmillerFinite.l0])
 have H := HA.1
 clear HA
 simp only [petrinetlaw22_KarpmillerFinite.l0] at H
 replace H := ifl H
 rcases H with ⟨bn, H⟩ | ⟨bn, H⟩
 ·have H' := am H
  clear H
  go_wp2
  repeat (go_quiet (fail); try go_wp2)
  go_loopg [9, 10] k3 (fun kq v9 en w' => ∃ (bR : Bool) (au : Int), v9 = .bool bR ∧ en = .int .i64 au ∧ Aside0 (petrinetlaw22_KarpmillerFinite.l1 kq ah ak aI bR au = some r) ∧ Aside0 (kq ≤ k3) ∧ Aside0 (Kd.N k48 48 w' w.heap.size (fun k_ => some k_ ≠ (a8 : Value).ownBlock ∧ k_ ≠ ac) (.slice aT ah.length aU) ah) ∧ Aside0 (Kd.N (Kd.slice 3 (Kd.int .i64)) 26 w' w.heap.size (fun k_ => some k_ ≠ ((.slice aT ah.length aU) : Value).ownBlock ∧ k_ ≠ ac) a8 ak) ∧ Aside0 (w'.heap[ac]? = some (.cells #[.string ag, (.slice az ae.length aB), (.slice aA af.length aC)] 25 (0, 0))) ∧ Aside0 (Below w.heap.size w w'))
  case atStart => exact ⟨(false), (0), prs, prs, H', ⟨Nat.le_refl _⟩, ⟨pkn ab.1⟩, ⟨pkn ai.1⟩, ⟨pbk aa.1⟩, ⟨pbg⟩⟩
  clear H'
  try clear c5 dm cL ay aS dn bS bb bc dp dY bn cz cE da db z7 z9
  obtain ⟨bR, au, rfl, rfl, HA, bC, ab, ai, aa, HB⟩ := hrel
  obtain _ | k4 := gk
  ·exact absurd HA.1 (by simp [petrinetlaw22_KarpmillerFinite.l1])
  have H := HA.1
  clear HA
  simp only [petrinetlaw22_KarpmillerFinite.l1] at H
  replace H := ifl H
  rcases H with ⟨bJ, H⟩ | ⟨bJ, H⟩
  rotate_left
  ·cases bR
   ·rw [if_neg Bool.false_ne_true] at H
    exact absurd H (by simp)
   rw [if_pos rfl] at H
   have H' := am H
   clear H
   obtain ⟨ed, ek, dF⟩ := Kd.N_slice ai.1
   subst dF
   go_wp2
   repeat (go_quiet (fail); try go_wp2)
   go_roundg k4
   case measure => have := bk.1; have := aH.1; have := bH.1; have := bC.1; omega
   case rel => exact ⟨(wrap64 (aI + 1)), prs, H', ⟨by have := bk.1; have := aH.1; have := bH.1; have := bC.1; omega⟩, ⟨pkn ab.1⟩, ⟨pkn ai.1⟩, ⟨pbk aa.1⟩, ⟨pbg⟩⟩
  cases bR
  rotate_left
  ·rw [if_pos rfl] at H
   have H' := am H
   clear H
   obtain ⟨ea, ei, dD⟩ := Kd.N_slice ai.1
   subst dD
   go_wp2
   repeat (go_quiet (fail); try go_wp2)
   go_roundg k4
   case measure => have := bk.1; have := aH.1; have := bH.1; have := bC.1; omega
   case rel => exact ⟨(true), (wrap64 (au + 1)), prs, prs, H', ⟨by have := bk.1; have := aH.1; have := bH.1; have := bC.1; omega⟩, ⟨pkn ab.1⟩, ⟨pkn ai.1⟩, ⟨pbk aa.1⟩, ⟨pbg⟩⟩
  rw [if_neg Bool.false_ne_true] at H
  replace H := ifp H
  obtain ⟨cM, H⟩ := H
  have b5 := decide_eq_true cM
  clear cM
  replace H := ifp H
  obtain ⟨cN, H⟩ := H
  have b6 := decide_eq_true cN
  clear cN
  replace H := ifp H
  obtain ⟨cO, H⟩ := H
  have b7 := decide_eq_true cO
  clear cO
  replace H := bnd H
  obtain ⟨bP, dQ, H⟩ := H
  (try dsimp only at H)
  have H' := am H
  clear H
  obtain ⟨ec, ej, dE⟩ := Kd.N_slice ai.1
  subst dE
  have bD : 0 ≤ (aI : Int) := dq
  have bF : aI < (ah.length : Int) := dq
  obtain ⟨dU, de, dr, dz, bx, bz, aZ, bA, bs, bo⟩ := at_T48 (Kd.N_reads' ab.1).2.2 aI bD bF
  cases dz
  obtain ⟨d5, co, cj, bK⟩ := Kd.N_get ab.1 z48 aI bD (by first | exact bF | exact dq | (have e_ := (Kd.N_reads' ab.1).1; omega))
  obtain ⟨cS, cW, rfl, a4, aV⟩ := k48_openF cj
  have aN := bK 2 _ rfl
  rw [add_field _ _ 2 (by omega)] at aN
  replace aN := Option.some.inj (aN.symm.trans aZ)
  injection aN with hva_ hvn_ hvc_
  rw [hva_] at aV
  rw [hvc_] at a4
  have cH := am (show Kd.V (Kd.int .i64) 3 _ w.heap.size _ _ ((rd_T48 ah aI).f2) from Kd.V_mk a4 aV)
  clear hva_ hvn_ hvc_ aV a4 bK co
  have aJ := am bo
  have bg := am bs
  clear bo bs
  replace bD := eq_true bD
  replace bF := eq_true bF
  have bE : 0 ≤ (au : Int) := dq
  have bG : au < (ak.length : Int) := dq
  obtain ⟨dV, df, dt, dA, a3, bu, bp⟩ := at_L11 (Kd.N_reads' ai.1).2.2 au bE bG
  cases dA
  obtain ⟨d6, cp, ck, bL⟩ := Kd.N_get ai.1 [] au bE (by first | exact bG | exact dq | (have e_ := (Kd.N_reads' ai.1).1; omega))
  obtain ⟨cT, cX, rfl, a5, aW⟩ := Kd.FK_slice_open ck
  have aO := bL 0 _ rfl
  rw [Nat.add_zero, show ((Kd.slice 3 (Kd.int .i64))).sz = 1 from rfl, Nat.mul_one] at aO
  replace aO := Option.some.inj (aO.symm.trans a3)
  injection aO with hva_ hvn_ hvc_
  rw [hva_] at aW
  rw [hvc_] at a5
  have cI := am (show Kd.V (Kd.int .i64) 3 _ w.heap.size _ _ (rd_L11 ak au) from Kd.V_mk a5 aW)
  clear hva_ hvn_ hvc_ aW a5 bL cp
  have aK := am bp
  have bh := am bu
  clear bp bu
  replace bE := eq_true bE
  replace bG := eq_true bG
  iterate 4 (try go_wp2_with (first | (go_at_call 14; (with_reducible refine (r04_Same.calls k4 _ _ ((rd_T48 ah aI).f2) _ _ (rd_L11 ak au) bP _ ?side1 ?side2 ?side3 ?side4 dQ.1).mono ?_); (case side1 => repeat (first | exact (by repeat (first | (with_reducible exact aJ.1) | (with_reducible refine Kd.C_alloc ?_ _) | (with_reducible refine Kd.C_drewN ?_ _) | (with_reducible refine Kd.C_drew ?_) | exact aJ.1)) | (with_reducible refine Kd.C_alloc ?_ _) | (with_reducible refine Kd.C_drewN ?_ _) | (with_reducible refine Kd.C_drew ?_))); (case side2 => exact bg.1); (case side3 => repeat (first | exact (by repeat (first | (with_reducible exact aK.1) | (with_reducible refine Kd.C_alloc ?_ _) | (with_reducible refine Kd.C_drewN ?_ _) | (with_reducible refine Kd.C_drew ?_) | exact aK.1)) | (with_reducible refine Kd.C_alloc ?_ _) | (with_reducible refine Kd.C_drewN ?_ _) | (with_reducible refine Kd.C_drew ?_))); (case side4 => exact bh.1); rintro e w' ⟨rfl, ⟨nd, rfl⟩⟩; (try first | exact ⟨rfl, _, World.drewN_drewN _ _ _⟩ | exact ⟨rfl, _, Eq.trans (World.drewN_drewN _ _ _) (congrArg (World.drewN _) (Nat.add_assoc _ _ _))⟩))); try go_quiet (first | (go_at_call 14; (with_reducible refine (r04_Same.calls k4 _ _ ((rd_T48 ah aI).f2) _ _ (rd_L11 ak au) bP _ ?side1 ?side2 ?side3 ?side4 dQ.1).mono ?_); (case side1 => repeat (first | exact (by repeat (first | (with_reducible exact aJ.1) | (with_reducible refine Kd.C_alloc ?_ _) | (with_reducible refine Kd.C_drewN ?_ _) | (with_reducible refine Kd.C_drew ?_) | exact aJ.1)) | (with_reducible refine Kd.C_alloc ?_ _) | (with_reducible refine Kd.C_drewN ?_ _) | (with_reducible refine Kd.C_drew ?_))); (case side2 => exact bg.1); (case side3 => repeat (first | exact (by repeat (first | (with_reducible exact aK.1) | (with_reducible refine Kd.C_alloc ?_ _) | (with_reducible refine Kd.C_drewN ?_ _) | (with_reducible refine Kd.C_drew ?_) | exact aK.1)) | (with_reducible refine Kd.C_alloc ?_ _) | (with_reducible refine Kd.C_drewN ?_ _) | (with_reducible refine Kd.C_drew ?_))); (case side4 => exact bh.1); rintro e w' ⟨rfl, ⟨nd, rfl⟩⟩; (try first | exact ⟨rfl, _, World.drewN_drewN _ _ _⟩ | exact ⟨rfl, _, Eq.trans (World.drewN_drewN _ _ _) (congrArg (World.drewN _) (Nat.add_assoc _ _ _))⟩))))
  go_roundg k4
  case measure => have := bk.1; have := aH.1; have := bH.1; have := bC.1; omega
  case rel => exact ⟨(bP), (wrap64 (au + 1)), prs, prs, H', ⟨by have := bk.1; have := aH.1; have := bH.1; have := bC.1; omega⟩, ⟨pkn ab.1⟩, ⟨pkn ai.1⟩, ⟨pbk aa.1⟩, ⟨pbg⟩⟩
 have H' := am H
 clear H
 go_wp2
 repeat (go_quiet (fail); try go_wp2)
 go_loopg [11] k3 (fun kq eo w' => ∃ (av : Int), eo = .int .i64 av ∧ Aside0 (petrinetlaw22_KarpmillerFinite.l2 kq ah ak av = some r) ∧ Aside0 (kq ≤ k3) ∧ Aside0 (Kd.N k48 48 w' w.heap.size (fun k_ => some k_ ≠ (a8 : Value).ownBlock ∧ k_ ≠ ac) (.slice aT ah.length aU) ah) ∧ Aside0 (Kd.N (Kd.slice 3 (Kd.int .i64)) 26 w' w.heap.size (fun k_ => some k_ ≠ ((.slice aT ah.length aU) : Value).ownBlock ∧ k_ ≠ ac) a8 ak) ∧ Aside0 (w'.heap[ac]? = some (.cells #[.string ag, (.slice az ae.length aB), (.slice aA af.length aC)] 25 (0, 0))) ∧ Aside0 (Below w.heap.size w w'))
 case atStart => exact ⟨(0), prs, H', ⟨Nat.le_refl _⟩, ⟨pkn ab.1⟩, ⟨pkn ai.1⟩, ⟨pbk aa.1⟩, ⟨pbg⟩⟩
 clear H'
 try clear c5 dm cL ay aS dn bS bb bc dp dY bn ef bJ eg cM b5 cN b6 cO b7 eh cz cE da db z7 z9 bx bz aZ bA a3 bD bE bF bG
 obtain ⟨av, rfl, HA, bC, ab, ai, aa, HB⟩ := hrel
 obtain _ | k4 := gk
 ·exact absurd HA.1 (by simp [petrinetlaw22_KarpmillerFinite.l2])
 have H := HA.1
 clear HA
 simp only [petrinetlaw22_KarpmillerFinite.l2] at H
 replace H := ifl H
 rcases H with ⟨b8, H⟩ | ⟨b8, H⟩
 rotate_left
 ·replace H := bnd H
  obtain ⟨b3, dS, H⟩ := H
  (try dsimp only at H)
  obtain rfl := Option.some.inj H
  obtain ⟨ee, el, dH⟩ := Kd.N_slice ai.1
  subst dH
  iterate 4 (try go_wp2_with (first | (go_at_call 11; (with_reducible refine (petrinetlaw22_alive.calls k4  b3 _ dS.1).mono ?_); rintro e eC ⟨rfl, hb⟩; replace ab := nbw ab hb; replace ai := nbw ai hb; replace aa := bbh aa hb; replace HB := bst hb; (try clear hb))); try go_quiet (first | (go_at_call 11; (with_reducible refine (petrinetlaw22_alive.calls k4  b3 _ dS.1).mono ?_); rintro e eC ⟨rfl, hb⟩; replace ab := nbw ab hb; replace ai := nbw ai hb; replace aa := bbh aa hb; replace HB := bst hb; (try clear hb))))
  go_ret
  exact ⟨per, pbg⟩
 have H' := am H
 clear H
 obtain ⟨cA, cC, dG⟩ := Kd.N_slice ai.1
 subst dG
 go_wp2
 repeat (go_quiet (fail); try go_wp2)
 go_loopg [12, 13] k4 (fun kq ep eq w' => ∃ (bd : Bool) (aw : Int), ep = .bool bd ∧ eq = .int .i64 aw ∧ Aside0 (petrinetlaw22_KarpmillerFinite.l3 kq ah ak av bd aw = some r) ∧ Aside0 (kq ≤ k4) ∧ Aside0 (Kd.N k48 48 w' w.heap.size (fun k_ => some k_ ≠ ((.slice cA ak.length cC) : Value).ownBlock ∧ k_ ≠ ac) (.slice aT ah.length aU) ah) ∧ Aside0 (Kd.N (Kd.slice 3 (Kd.int .i64)) 26 w' w.heap.size (fun k_ => some k_ ≠ ((.slice aT ah.length aU) : Value).ownBlock ∧ k_ ≠ ac) (.slice cA ak.length cC) ak) ∧ Aside0 (w'.heap[ac]? = some (.cells #[.string ag, (.slice az ae.length aB), (.slice aA af.length aC)] 25 (0, 0))) ∧ Aside0 (Below w.heap.size w w'))
 case atStart => exact ⟨(false), (0), prs, prs, H', ⟨Nat.le_refl _⟩, ⟨pkn ab.1⟩, ⟨pkn ai.1⟩, ⟨pbk aa.1⟩, ⟨pbg⟩⟩
 clear H'
 try clear c5 dm cL ay aS dn bS bb bc dp dY eF bn ef bJ eg cM b5 cN b6 cO b7 eh b8 cz cE da db z7 z9 bx bz aZ bA a3 bD bE bF bG
 obtain ⟨bd, aw, rfl, rfl, HA, cx, ab, ai, aa, HB⟩ := hrel
 obtain _ | k5 := gk
 ·exact absurd HA.1 (by simp [petrinetlaw22_KarpmillerFinite.l3])
 have H := HA.1
 clear HA
 simp only [petrinetlaw22_KarpmillerFinite.l3] at H
 replace H := ifl H
 rcases H with ⟨cB, H⟩ | ⟨cB, H⟩
 rotate_left
 ·cases bd
  ·rw [if_neg Bool.false_ne_true] at H
   exact absurd H (by simp)
  rw [if_pos rfl] at H
  have H' := am H
  clear H
  go_wp2
  repeat (go_quiet (fail); try go_wp2)
  go_roundg k5
  case measure => have := bk.1; have := aH.1; have := bH.1; have := bC.1; have := cx.1; omega
  case rel => exact ⟨(wrap64 (av + 1)), prs, H', ⟨by have := bk.1; have := aH.1; have := bH.1; have := bC.1; have := cx.1; omega⟩, ⟨pkn ab.1⟩, ⟨pkn ai.1⟩, ⟨pbk aa.1⟩, ⟨pbg⟩⟩
 cases bd
 rotate_left
 ·rw [if_pos rfl] at H
  have H' := am H
  clear H
  go_wp2
  repeat (go_quiet (fail); try go_wp2)
  go_roundg k5
  case measure => have := bk.1; have := aH.1; have := bH.1; have := bC.1; have := cx.1; omega
  case rel => exact ⟨(true), (wrap64 (aw + 1)), prs, prs, H', ⟨by have := bk.1; have := aH.1; have := bH.1; have := bC.1; have := cx.1; omega⟩, ⟨pkn ab.1⟩, ⟨pkn ai.1⟩, ⟨pbk aa.1⟩, ⟨pbg⟩⟩
 rw [if_neg Bool.false_ne_true] at H
 replace H := ifp H
 obtain ⟨dZ, H⟩ := H
 have d0 := decide_eq_true dZ
 clear dZ
 replace H := ifp H
 obtain ⟨d1, H⟩ := H
 have d2 := decide_eq_true d1
 clear d1
 replace H := ifp H
 obtain ⟨d3, H⟩ := H
 have d4 := decide_eq_true d3
 clear d3
 replace H := bnd H
 obtain ⟨bQ, dR, H⟩ := H
 (try dsimp only at H)
 have H' := am H
 clear H
 have bV : 0 ≤ (aw : Int) := dq
 have bX : aw < (ah.length : Int) := dq
 obtain ⟨dW, dg, du, dB, cP, cQ, bT, cR, bv, bq⟩ := at_T48 (Kd.N_reads' ab.1).2.2 aw bV bX
 cases dB
 obtain ⟨d7, cq, cm, bM⟩ := Kd.N_get ab.1 z48 aw bV (by first | exact bX | exact dq | (have e_ := (Kd.N_reads' ab.1).1; omega))
 obtain ⟨cU, cY, rfl, a6, aX⟩ := k48_openF cm
 have aP := bM 2 _ rfl
 rw [add_field _ _ 2 (by omega)] at aP
 replace aP := Option.some.inj (aP.symm.trans bT)
 injection aP with hva_ hvn_ hvc_
 rw [hva_] at aX
 rw [hvc_] at a6
 have cJ := am (show Kd.V (Kd.int .i64) 3 _ w.heap.size _ _ ((rd_T48 ah aw).f2) from Kd.V_mk a6 aX)
 clear hva_ hvn_ hvc_ aX a6 bM cq
 have aL := am bq
 have bi := am bv
 clear bq bv
 replace bV := eq_true bV
 replace bX := eq_true bX
 have bW : 0 ≤ (av : Int) := dq
 have bY : av < (ak.length : Int) := dq
 obtain ⟨dX, dh, dv, dC, bU, bw, br⟩ := at_L11 (Kd.N_reads' ai.1).2.2 av bW bY
 cases dC
 obtain ⟨d8, cr, cn, bN⟩ := Kd.N_get ai.1 [] av bW (by first | exact bY | exact dq | (have e_ := (Kd.N_reads' ai.1).1; omega))
 obtain ⟨cV, cZ, rfl, a7, aY⟩ := Kd.FK_slice_open cn
 have aQ := bN 0 _ rfl
 rw [Nat.add_zero, show ((Kd.slice 3 (Kd.int .i64))).sz = 1 from rfl, Nat.mul_one] at aQ
 replace aQ := Option.some.inj (aQ.symm.trans bU)
 injection aQ with hva_ hvn_ hvc_
 rw [hva_] at aY
 rw [hvc_] at a7
 have cK := am (show Kd.V (Kd.int .i64) 3 _ w.heap.size _ _ (rd_L11 ak av) from Kd.V_mk a7 aY)
 clear hva_ hvn_ hvc_ aY a7 bN cr
 have aM := am br
 have bj := am bw
 clear br bw
 replace bW := eq_true bW
 replace bY := eq_true bY
 iterate 4 (try go_wp2_with (first | (go_at_call 14; (with_reducible refine (r04_Same.calls k5 _ _ ((rd_T48 ah aw).f2) _ _ (rd_L11 ak av) bQ _ ?side1 ?side2 ?side3 ?side4 dR.1).mono ?_); (case side1 => repeat (first | exact (by repeat (first | (with_reducible exact aL.1) | (with_reducible refine Kd.C_alloc ?_ _) | (with_reducible refine Kd.C_drewN ?_ _) | (with_reducible refine Kd.C_drew ?_) | exact aL.1)) | (with_reducible refine Kd.C_alloc ?_ _) | (with_reducible refine Kd.C_drewN ?_ _) | (with_reducible refine Kd.C_drew ?_))); (case side2 => exact bi.1); (case side3 => repeat (first | exact (by repeat (first | (with_reducible exact aM.1) | (with_reducible refine Kd.C_alloc ?_ _) | (with_reducible refine Kd.C_drewN ?_ _) | (with_reducible refine Kd.C_drew ?_) | exact aM.1)) | (with_reducible refine Kd.C_alloc ?_ _) | (with_reducible refine Kd.C_drewN ?_ _) | (with_reducible refine Kd.C_drew ?_))); (case side4 => exact bj.1); rintro e w' ⟨rfl, ⟨nd, rfl⟩⟩; (try first | exact ⟨rfl, _, World.drewN_drewN _ _ _⟩ | exact ⟨rfl, _, Eq.trans (World.drewN_drewN _ _ _) (congrArg (World.drewN _) (Nat.add_assoc _ _ _))⟩))); try go_quiet (first | (go_at_call 14; (with_reducible refine (r04_Same.calls k5 _ _ ((rd_T48 ah aw).f2) _ _ (rd_L11 ak av) bQ _ ?side1 ?side2 ?side3 ?side4 dR.1).mono ?_); (case side1 => repeat (first | exact (by repeat (first | (with_reducible exact aL.1) | (with_reducible refine Kd.C_alloc ?_ _) | (with_reducible refine Kd.C_drewN ?_ _) | (with_reducible refine Kd.C_drew ?_) | exact aL.1)) | (with_reducible refine Kd.C_alloc ?_ _) | (with_reducible refine Kd.C_drewN ?_ _) | (with_reducible refine Kd.C_drew ?_))); (case side2 => exact bi.1); (case side3 => repeat (first | exact (by repeat (first | (with_reducible exact aM.1) | (with_reducible refine Kd.C_alloc ?_ _) | (with_reducible refine Kd.C_drewN ?_ _) | (with_reducible refine Kd.C_drew ?_) | exact aM.1)) | (with_reducible refine Kd.C_alloc ?_ _) | (with_reducible refine Kd.C_drewN ?_ _) | (with_reducible refine Kd.C_drew ?_))); (case side4 => exact bj.1); rintro e w' ⟨rfl, ⟨nd, rfl⟩⟩; (try first | exact ⟨rfl, _, World.drewN_drewN _ _ _⟩ | exact ⟨rfl, _, Eq.trans (World.drewN_drewN _ _ _) (congrArg (World.drewN _) (Nat.add_assoc _ _ _))⟩))))
 go_roundg k5
 case measure => have := bk.1; have := aH.1; have := bH.1; have := bC.1; have := cx.1; omega
 case rel => exact ⟨(bQ), (wrap64 (aw + 1)), prs, prs, H', ⟨by have := bk.1; have := aH.1; have := bH.1; have := bC.1; have := cx.1; omega⟩, ⟨pkn ab.1⟩, ⟨pkn ai.1⟩, ⟨pbk aa.1⟩, ⟨pbg⟩⟩

end Go.Proofs.Yteknagfpiadaiaa.P
