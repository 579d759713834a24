-- LAID BY OUR PROGRAM OVER THE PRINT (xprint.py, part.py): Lean checks it.
import Derived.Test.YteknagfpiadaiaaPx0
import Derived.Test.YteknagfpiadaiaaPx2
import Derived.Test.YteknagfpiadaiaaPx3
import Derived.WalkMore
namespace Go.Proofs.Yteknagfpiadaiaa.P
open Go.RowKit Go.Proofs.YteknagfpiadaiaaW.PrintWords Go.Proofs.YteknagfpiadaiaaW.PrintLast Go.Proofs.YteknagfpiadaiaaW.PrintMore
attribute [local go_sem] max2_int min2_int max_two min_two max_three min_three max_four min_four   -- for this text's walks alone
set_option linter.unusedVariables false
set_option linter.unusedSimpArgs false

/-! ### karpmiller_Valid: function 23 -/
mutual
def karpmiller_Valid.j0 : Nat → List (S48) → List (S48) → Bool → Option (Bool)
 | 0, _, _, _ => none
 | k + 1, x1, x5, cY => if cY = true then (some false) else (karpmiller_Valid.l0 k x1 x5 (x5.length : Int) 0)
def karpmiller_Valid.l0 : Nat → List (S48) → List (S48) → Int → Int → Option (Bool)
 | 0, _, _, _, _ => none
 | k + 1, x1, bE, cR, bv => if bv < cR then (if 0 ≤ bv then (if bv < (bE.length : Int) then (if bv < (x1.length : Int) then (if ((rd_T48 bE bv).f0) = ((rd_T48 x1 bv).f0) then (if ((rd_T48 bE bv).f1) = ((rd_T48 x1 bv).f1) then (if (((rd_T48 bE bv).f3) != ((rd_T48 x1 bv).f3)) = true then (some false) else ((karpmiller_equal.f k ((rd_T48 bE bv).f2) ((rd_T48 x1 bv).f2)).bind fun bD => (if bD = true then (karpmiller_Valid.l0 k x1 bE cR (wrap64 (bv + 1))) else (some false)))) else (some false)) else (some false)) else (none)) else (none)) else (none)) else (some true)
end
def karpmiller_Valid.f (k : Nat) (aY : ByteArray) (aS : List (S57)) (aT : List (S60)) (l1 : List (S48)) : Option (Bool) := (karpmiller_Tree.f k aY aS aT (l1.length : Int)).bind fun bi => (if bi.2.2 = 0 then (if bi.2.1 = true then (karpmiller_Valid.j0 k l1 bi.1 ((bi.1.length : Int) != (l1.length : Int))) else (karpmiller_Valid.j0 k l1 bi.1 true)) else (karpmiller_Valid.j0 k l1 bi.1 true))
theorem karpmiller_Valid.mono_l : ∀ k, M3 karpmiller_Valid.j0 k ∧ M4 karpmiller_Valid.l0 k
 | 0 => ⟨fun _ _ _ r h => by simp [karpmiller_Valid.j0] at h, fun _ _ _ _ r h => by simp [karpmiller_Valid.l0] at h⟩
 | k + 1 => by
  obtain ⟨b0, b1⟩ := karpmiller_Valid.mono_l k
  refine ⟨?_, ?_⟩ <;> dsimp only [M3, M4] <;> intros <;> (first | unfold karpmiller_Valid.j0 | unfold karpmiller_Valid.l0) <;> repeat' first | (with_reducible first | apply b0 | apply b1 | apply karpmiller_Tree.mono | apply karpmiller_equal.mono | apply lr | apply ln | apply li | refine lb ?_ fun _ => ?_)
theorem karpmiller_Valid.mono : ∀ a0 a1 a2 a3 k, LeO (karpmiller_Valid.f k a0 a1 a2 a3) (karpmiller_Valid.f (k + 1) a0 a1 a2 a3) := by
 intro a0 a1 a2 a3 k
 obtain ⟨b0, b1⟩ := karpmiller_Valid.mono_l k
 unfold karpmiller_Valid.f
 repeat' first | (with_reducible first | apply b0 | apply b1 | apply karpmiller_Tree.mono | apply karpmiller_equal.mono | apply lr | apply ln | apply li | refine lb ?_ fun _ => ?_)
set_option maxHeartbeats 8000000 in
set_option maxRecDepth 100000 in
theorem karpmiller_Valid.calls (k : Nat) (aY : ByteArray) (a6 : Option Addr) (a8 : Nat) (aS : List (S57)) (a7 : Option Addr) (a9 : Nat) (aT : List (S60)) (A1 : Option Addr) (c1 : Nat) (l1 : List (S48)) (r : Bool) (w : World) (bA : Kd.C k57 w a6 aS.length aS) (bx : aS.length ≤ a8) (bB : Kd.C k60 w a7 aT.length aT) (bz : aT.length ≤ a9) (cP : Kd.C k48 w A1 l1.length l1) (cg : l1.length ≤ c1) (h : karpmiller_Valid.f k aY aS aT l1 = some r) :
  Calls Try.prog 23 #[.agg #[.string aY, .slice a6 aS.length a8, .slice a7 aT.length a9], .slice A1 l1.length c1] w fun e w' => e = .returned (.bool r) ∧ Below w.heap.size w w' := by
 have cU := Try.underlying25
 have cV := Try.underlying48
 have bJ := am bA
 have bG := am bx
 clear bA bx
 have bK := am bB
 have bH := am bz
 clear bB bz
 have bL := am cP
 have cZ := am cg
 clear cP cg
 have HB := am (Below.refl w.heap.size w)
 have H := h
 unfold karpmiller_Valid.f at H
 clear h
 replace H := bnd H
 obtain ⟨⟨ai, bU, b2⟩, A3, H⟩ := H
 (try dsimp only at H)
 have bW := am H
 clear H
 go_enter Try.func23, Try.ntmps23
 go_upto_region 2 with (first | ((with_reducible refine gate_dst (N := 2) rfl ?_); (try (refine gate_guard (by rfl) ?_; dsimp only)); refine box_ev ?_; intro aD hg w5 hbox hb; have au := am hbox; have bF := gwl hg; have b5 := bF; replace HB := bsl hb; clear hb hbox hg; have z6 := cf3 au.1) | ((with_reducible refine gate_callee (f := 18) rfl ?_); refine gC 15 Try.func18 _ (karpmiller_Tree.calls k aY _ _ aS _ _ aT (l1.length : Int) ai bU b2 _ (csb bJ HB) bG.1 (csb bK HB) bH.1 A3.1) ?_; rintro e w7 ⟨b3, rfl, cO, hb⟩; refine ⟨_, rfl, ?_⟩; have bq := am (Kd.N_lower (Kd.N_mono (ok' := fun k_ => k_ ≠ aD) cO (fun k_ hk_ => (Kd.freshB (g := aD) (o := .cells #[.string aY, .slice a6 aS.length a8, .slice a7 aT.length a9] 25 (0, 0)) (by exact pbk au.1) k_ hk_))) (below_size pbg)); replace au := bbh au hb; replace HB := bst hb; (try clear hb); (try clear cO)))
 (try simp only [Act.put, List.setIfInBounds_toArray, List.set_cons_zero, List.set_cons_succ])
 go_cut [31] (fun cW wc => ∃ (kq : Nat) (bu : Bool), cW = .bool bu ∧ Aside0 (karpmiller_Valid.j0 kq l1 ai bu = some r) ∧ Aside0 (kq ≤ k) ∧ Aside0 (Kd.N k48 48 wc w.heap.size (fun k_ => k_ ≠ aD) b3 ai) ∧ Aside0 (wc.heap[aD]? = some (.cells #[.string aY, (.slice a6 aS.length a8), (.slice a7 aT.length a9)] 25 (0, 0))) ∧ Aside0 (Below w.heap.size w wc))
 case first =>
  have H := bW.1
  clear bW
  replace H := ife H
  rcases H with ⟨bn, bC, H⟩ | ⟨bn, bC, H⟩
  rotate_left
  ·(first | rw [bn] | (simp only [i64_w, i32_w]; rw [bn]) | skip)
   have H' := am H
   clear H
   go_wp2
   go_meet
   case rel => exact ⟨_, (true), prs, H', ⟨by first | omega | exact Nat.le_refl _⟩, ⟨pkn bq.1⟩, ⟨pbk au.1⟩, ⟨pbg⟩⟩
  (first | rw [bn] | (simp only [i64_w, i32_w]; rw [bn]) | skip)
  cases bU
  ·rw [if_neg Bool.false_ne_true] at H
   have H' := am H
   clear H
   go_wp2
   go_meet
   case rel => exact ⟨_, (true), prs, H', ⟨by first | omega | exact Nat.le_refl _⟩, ⟨pkn bq.1⟩, ⟨pbk au.1⟩, ⟨pbg⟩⟩
  rw [if_pos rfl] at H
  have H' := am H
  clear H
  obtain ⟨cS, cT, bY⟩ := Kd.N_slice bq.1
  subst bY
  go_wp2
  go_meet
  case rel => exact ⟨_, (((ai.length : Int) != (l1.length : Int))), prs, H', ⟨by first | omega | exact Nat.le_refl _⟩, ⟨pkn bq.1⟩, ⟨pbk au.1⟩, ⟨pbg⟩⟩
 clear bW
 try clear c1 c8 bn bC c9 z6
 obtain ⟨kq, bu, rfl, HA, b6, bI, au, HB⟩ := hcut
 obtain _ | cQ := kq
 ·exact absurd HA.1 (by simp [karpmiller_Valid.j0])
 have H := HA.1
 clear HA
 simp only [karpmiller_Valid.j0] at H
 cases bu
 rotate_left
 ·rw [if_pos rfl] at H
  obtain rfl := Option.some.inj H
  go_wp2
  go_ret
  exact ⟨per, pbg⟩
 rw [if_neg Bool.false_ne_true] at H
 have H' := am H
 clear H
 obtain ⟨bV, bX, bZ⟩ := Kd.N_slice bI.1
 subst bZ
 go_wp2
 go_loopg [34] cQ (fun kq cX w' => ∃ (aa : Int), cX = .int .i64 aa ∧ Aside0 (karpmiller_Valid.l0 kq l1 ai (ai.length : Int) aa = some r) ∧ Aside0 (kq ≤ cQ) ∧ Aside0 (Kd.N k48 48 w' w.heap.size (fun k_ => k_ ≠ aD) (.slice bV ai.length bX) ai) ∧ Aside0 (w'.heap[aD]? = some (.cells #[.string aY, (.slice a6 aS.length a8), (.slice a7 aT.length a9)] 25 (0, 0))) ∧ Aside0 (Below w.heap.size w w'))
 case atStart => exact ⟨(0), prs, H', ⟨Nat.le_refl _⟩, ⟨pkn bI.1⟩, ⟨pbk au.1⟩, ⟨pbg⟩⟩
 clear H'
 try clear c1 c8 bn bC c9 z6
 obtain ⟨aa, rfl, HA, b7, ax, au, HB⟩ := hrel
 obtain _ | k2 := gk
 ·exact absurd HA.1 (by simp [karpmiller_Valid.l0])
 have H := HA.1
 clear HA
 simp only [karpmiller_Valid.l0] at H
 replace H := ifl H
 rcases H with ⟨bM, H⟩ | ⟨bM, H⟩
 rotate_left
 ·obtain rfl := Option.some.inj H
  go_wp2
  go_ret
  exact ⟨per, pbg⟩
 replace H := ifp H
 obtain ⟨b8, H⟩ := H
 have b9 := decide_eq_true b8
 clear b8
 replace H := ifp H
 obtain ⟨ca, H⟩ := H
 have cb := decide_eq_true ca
 clear ca
 replace H := ifp H
 obtain ⟨cd, H⟩ := H
 have ce := decide_eq_true cd
 clear cd
 replace H := ife H
 rcases H with ⟨bN, bO, H⟩ | ⟨bN, bO, H⟩
 rotate_left
 ·obtain rfl := Option.some.inj H
  have aQ : 0 ≤ (aa : Int) := dq
  have aR : aa < (ai.length : Int) := dq
  obtain ⟨br, ap, ar, bl, bc, bd, aP, bf, aI, aG⟩ := at_T48 (Kd.N_reads' ax.1).2.2 aa aQ aR
  cases bl
  obtain ⟨bs, aV, aU, aO⟩ := Kd.N_get ax.1 z48 aa aQ (by first | exact aR | exact dq | (have e_ := (Kd.N_reads' ax.1).1; omega))
  obtain ⟨bg, bh, rfl, aB, aA⟩ := k48_openF aU
  have av := aO 2 _ rfl
  rw [add_field _ _ 2 (by omega)] at av
  replace av := Option.some.inj (av.symm.trans aP)
  injection av with hva_ hvn_ hvc_
  rw [hva_] at aA
  rw [hvc_] at aB
  have aq := am (show Kd.V (Kd.int .i64) 3 _ w.heap.size _ _ ((rd_T48 ai aa).f2) from Kd.V_mk aB aA)
  clear hva_ hvn_ hvc_ aA aB aO aV
  have az := am aG
  have aZ := am aI
  clear aG aI
  replace aQ := eq_true aQ
  replace aR := eq_true aR
  go_wp2_with (first | ((with_reducible refine gate_dst (N := 9) rfl ?_); (try (refine gate_guard (by rfl) ?_; dsimp only)); refine box_ev (N := 9) (cs := #[.int .i64 0, .int .i64 0, .slice none 0 0, .bool false]) (t := 48) ?_; intro ab hg dj hbox hb; have ay := am hbox; have aC := gwb hg; have bo := aC; have ao := nlt hg au; have aK := ngt hg au; replace ax := am (Kd.N_below (Kd.N_elderB (pkn ax.1) ab (Nat.le_of_eq hg.symm)) hb); replace aq := vbb aq hg hb; replace au := bbh au hb; replace az := cbb az hb; replace HB := bst hb; clear hb hbox hg; have cw := aK.1; have cL := ao.1; have dz := cf4 ay.1; have aW : 0 ≤ (aa : Int) := dq; have aX : aa < (l1.length : Int) := dq; obtain ⟨aF, bj, bk, bm, ac, aj, ak, al, aJ, aH⟩ := at_T48 bL.1 aa aW aX; cases bm; have ae : aF.block ≠ ab := Nat.ne_of_lt (Nat.lt_of_lt_of_le (by have := World.block_lt_of_cell? _ _ ac; first | rwa [add_block] at this | exact this) aC.1); have af : aF.block ≠ ab := Nat.ne_of_lt (Nat.lt_of_lt_of_le (by have := World.block_lt_of_cell? _ _ ac; first | rwa [add_block] at this | exact this) aC.1); have ag : aF.block ≠ ab := Nat.ne_of_lt (Nat.lt_of_lt_of_le (by have := World.block_lt_of_cell? _ _ ac; first | rwa [add_block] at this | exact this) aC.1); have ah : aF.block ≠ ab := Nat.ne_of_lt (Nat.lt_of_lt_of_le (by have := World.block_lt_of_cell? _ _ ac; first | rwa [add_block] at this | exact this) aC.1); replace ac := cbl HB.1 ac; replace aj := cbl HB.1 aj; replace ak := cbl HB.1 ak; replace al := cbl HB.1 al; have a5 := am aH; have a4 := am aJ; clear aH aJ; replace ac := (cell_far (p := ⟨ab, 0, none⟩) (by first | (rw [add_block]; exact ae) | (show (Addr.add _ _).block ≠ _; rw [add_block]; exact ae) | exact ae) (.int .i64 ((rd_T48 ai aa).f0))).trans ac; replace aj := (cell_far (p := ⟨ab, 0, none⟩) (by first | (rw [add_block]; exact ae) | (show (Addr.add _ _).block ≠ _; rw [add_block]; exact ae) | exact ae) (.int .i64 ((rd_T48 ai aa).f0))).trans aj; replace ak := (cell_far (p := ⟨ab, 0, none⟩) (by first | (rw [add_block]; exact ae) | (show (Addr.add _ _).block ≠ _; rw [add_block]; exact ae) | exact ae) (.int .i64 ((rd_T48 ai aa).f0))).trans ak; replace al := (cell_far (p := ⟨ab, 0, none⟩) (by first | (rw [add_block]; exact ae) | (show (Addr.add _ _).block ≠ _; rw [add_block]; exact ae) | exact ae) (.int .i64 ((rd_T48 ai aa).f0))).trans al; replace ac := (cell_far (p := ⟨ab, 1, none⟩) (by first | (rw [add_block]; exact af) | (show (Addr.add _ _).block ≠ _; rw [add_block]; exact af) | exact af) (.int .i64 ((rd_T48 ai aa).f1))).trans ac; replace aj := (cell_far (p := ⟨ab, 1, none⟩) (by first | (rw [add_block]; exact af) | (show (Addr.add _ _).block ≠ _; rw [add_block]; exact af) | exact af) (.int .i64 ((rd_T48 ai aa).f1))).trans aj; replace ak := (cell_far (p := ⟨ab, 1, none⟩) (by first | (rw [add_block]; exact af) | (show (Addr.add _ _).block ≠ _; rw [add_block]; exact af) | exact af) (.int .i64 ((rd_T48 ai aa).f1))).trans ak; replace al := (cell_far (p := ⟨ab, 1, none⟩) (by first | (rw [add_block]; exact af) | (show (Addr.add _ _).block ≠ _; rw [add_block]; exact af) | exact af) (.int .i64 ((rd_T48 ai aa).f1))).trans al; replace ac := (cell_far (p := ⟨ab, 2, none⟩) (by first | (rw [add_block]; exact ag) | (show (Addr.add _ _).block ≠ _; rw [add_block]; exact ag) | exact ag) (.slice ap ((rd_T48 ai aa).f2).length ar)).trans ac; replace aj := (cell_far (p := ⟨ab, 2, none⟩) (by first | (rw [add_block]; exact ag) | (show (Addr.add _ _).block ≠ _; rw [add_block]; exact ag) | exact ag) (.slice ap ((rd_T48 ai aa).f2).length ar)).trans aj; replace ak := (cell_far (p := ⟨ab, 2, none⟩) (by first | (rw [add_block]; exact ag) | (show (Addr.add _ _).block ≠ _; rw [add_block]; exact ag) | exact ag) (.slice ap ((rd_T48 ai aa).f2).length ar)).trans ak; replace al := (cell_far (p := ⟨ab, 2, none⟩) (by first | (rw [add_block]; exact ag) | (show (Addr.add _ _).block ≠ _; rw [add_block]; exact ag) | exact ag) (.slice ap ((rd_T48 ai aa).f2).length ar)).trans al; replace ac := (cell_far (p := ⟨ab, 3, none⟩) (by first | (rw [add_block]; exact ah) | (show (Addr.add _ _).block ≠ _; rw [add_block]; exact ah) | exact ah) (.bool ((rd_T48 ai aa).f3))).trans ac; replace aj := (cell_far (p := ⟨ab, 3, none⟩) (by first | (rw [add_block]; exact ah) | (show (Addr.add _ _).block ≠ _; rw [add_block]; exact ah) | exact ah) (.bool ((rd_T48 ai aa).f3))).trans aj; replace ak := (cell_far (p := ⟨ab, 3, none⟩) (by first | (rw [add_block]; exact ah) | (show (Addr.add _ _).block ≠ _; rw [add_block]; exact ah) | exact ah) (.bool ((rd_T48 ai aa).f3))).trans ak; replace al := (cell_far (p := ⟨ab, 3, none⟩) (by first | (rw [add_block]; exact ah) | (show (Addr.add _ _).block ≠ _; rw [add_block]; exact ah) | exact ah) (.bool ((rd_T48 ai aa).f3))).trans al; clear ae; clear af; clear ag; clear ah; replace aW := eq_true aW; replace aX := eq_true aX) | ((with_reducible refine gate_dst (N := 10) rfl ?_); (try (refine gate_guard (by rfl) ?_; dsimp only)); refine box_ev (N := 10) (cs := #[.int .i64 0, .int .i64 0, .slice none 0 0, .bool false]) (t := 48) ?_; intro aw hg dk hbox hb; have ba := am hbox; have bb := gwb hg; have bp := bb; have aE := am ((by rw [hg]; exact Nat.ne_of_lt (blk_lt (g := aD) (o := .cells #[.string aY, .slice a6 aS.length a8, .slice a7 aT.length a9] 25 (0, 0)) (by (with_reducible repeat (first | refine blk_drewN ?_ _ | refine blk_drew ?_ | refine blk_alloc ?_ _)); refine bf4 ?_ ao.1; exact pbk au.1)) : aD ≠ aw)); have aM := am ((by rw [hg]; exact Nat.ne_of_gt (blk_lt (g := aD) (o := .cells #[.string aY, .slice a6 aS.length a8, .slice a7 aT.length a9] 25 (0, 0)) (by (with_reducible repeat (first | refine blk_drewN ?_ _ | refine blk_drew ?_ | refine blk_alloc ?_ _)); refine bf4 ?_ ao.1; exact pbk au.1)) : aw ≠ aD)); have aL := am ((by rw [hg]; exact Nat.ne_of_lt (blk_lt (g := ab) (o := .cells #[.int .i64 ((rd_T48 ai aa).f0), .int .i64 ((rd_T48 ai aa).f1), .slice ap ((rd_T48 ai aa).f2).length ar, .bool ((rd_T48 ai aa).f3)] 48 (0, 0)) (by (with_reducible repeat (first | refine blk_drewN ?_ _ | refine blk_drew ?_ | refine blk_alloc ?_ _)); exact bp4 (pbk ay.1))) : ab ≠ aw)); have aN := am ((by rw [hg]; exact Nat.ne_of_gt (blk_lt (g := ab) (o := .cells #[.int .i64 ((rd_T48 ai aa).f0), .int .i64 ((rd_T48 ai aa).f1), .slice ap ((rd_T48 ai aa).f2).length ar, .bool ((rd_T48 ai aa).f3)] 48 (0, 0)) (by (with_reducible repeat (first | refine blk_drewN ?_ _ | refine blk_drew ?_ | refine blk_alloc ?_ _)); exact bp4 (pbk ay.1))) : aw ≠ ab)); replace ax := am (Kd.N_below (Kd.N_elderB (by (with_reducible repeat (first | apply Kd.N_alloc | apply Kd.N_drewN | apply Kd.N_drew)); exact (fN4 ab ax.1 (fun k_ hk => hk.2))) aw (Nat.le_of_eq hg.symm)) hb); replace au := bbx au (fun h_ => by (with_reducible repeat (first | refine blk_drewN ?_ _ | refine blk_drew ?_ | refine blk_alloc ?_ _)); refine bf4 ?_ ao.1; exact pbk h_) hb; replace az := am (Kd.C_below ((Kd.V_reads' (by (with_reducible repeat (first | apply Kd.V_alloc | apply Kd.V_drewN | apply Kd.V_drew)); exact (fV4 ab aq.1 (fun k_ hk => hk.2)))).2.2) hb); replace aq := am (Kd.V_below (Kd.V_elderB (by (with_reducible repeat (first | apply Kd.V_alloc | apply Kd.V_drewN | apply Kd.V_drew)); exact (fV4 ab aq.1 (fun k_ hk => hk.2))) aw (Nat.le_of_eq hg.symm)) hb); replace ay := am (blk_below (g := ab) (o := .cells #[.int .i64 ((rd_T48 ai aa).f0), .int .i64 ((rd_T48 ai aa).f1), .slice ap ((rd_T48 ai aa).f2).length ar, .bool ((rd_T48 ai aa).f3)] 48 (0, 0)) (by (with_reducible repeat (first | refine blk_drewN ?_ _ | refine blk_drew ?_ | refine blk_alloc ?_ _)); exact bp4 (pbk ay.1)) hb); replace HB := bst hb; clear hb hbox hg; have cx := aM.1; have cM := aE.1; have cy := aN.1; have cN := aL.1; have z60 := cf4 ba.1; have dA := cf4 ay.1))
  go_ret
  exact ⟨per, pbg⟩
 replace H := ife H
 rcases H with ⟨bP, bQ, H⟩ | ⟨bP, bQ, H⟩
 rotate_left
 ·obtain rfl := Option.some.inj H
  have aQ : 0 ≤ (aa : Int) := dq
  have aR : aa < (ai.length : Int) := dq
  obtain ⟨br, ap, ar, bl, bc, bd, aP, bf, aI, aG⟩ := at_T48 (Kd.N_reads' ax.1).2.2 aa aQ aR
  cases bl
  obtain ⟨bs, aV, aU, aO⟩ := Kd.N_get ax.1 z48 aa aQ (by first | exact aR | exact dq | (have e_ := (Kd.N_reads' ax.1).1; omega))
  obtain ⟨bg, bh, rfl, aB, aA⟩ := k48_openF aU
  have av := aO 2 _ rfl
  rw [add_field _ _ 2 (by omega)] at av
  replace av := Option.some.inj (av.symm.trans aP)
  injection av with hva_ hvn_ hvc_
  rw [hva_] at aA
  rw [hvc_] at aB
  have aq := am (show Kd.V (Kd.int .i64) 3 _ w.heap.size _ _ ((rd_T48 ai aa).f2) from Kd.V_mk aB aA)
  clear hva_ hvn_ hvc_ aA aB aO aV
  have az := am aG
  have aZ := am aI
  clear aG aI
  replace aQ := eq_true aQ
  replace aR := eq_true aR
  go_wp2_with (first | ((with_reducible refine gate_dst (N := 9) rfl ?_); (try (refine gate_guard (by rfl) ?_; dsimp only)); refine box_ev (N := 9) (cs := #[.int .i64 0, .int .i64 0, .slice none 0 0, .bool false]) (t := 48) ?_; intro ab hg dh hbox hb; have ay := am hbox; have aC := gwb hg; have bo := aC; have ao := nlt hg au; have aK := ngt hg au; replace ax := am (Kd.N_below (Kd.N_elderB (pkn ax.1) ab (Nat.le_of_eq hg.symm)) hb); replace aq := vbb aq hg hb; replace au := bbh au hb; replace az := cbb az hb; replace HB := bst hb; clear hb hbox hg; have cr := aK.1; have cI := ao.1; have z48 := cf4 ay.1; have aW : 0 ≤ (aa : Int) := dq; have aX : aa < (l1.length : Int) := dq; obtain ⟨aF, bj, bk, bm, ac, aj, ak, al, aJ, aH⟩ := at_T48 bL.1 aa aW aX; cases bm; have ae : aF.block ≠ ab := Nat.ne_of_lt (Nat.lt_of_lt_of_le (by have := World.block_lt_of_cell? _ _ ac; first | rwa [add_block] at this | exact this) aC.1); have af : aF.block ≠ ab := Nat.ne_of_lt (Nat.lt_of_lt_of_le (by have := World.block_lt_of_cell? _ _ ac; first | rwa [add_block] at this | exact this) aC.1); have ag : aF.block ≠ ab := Nat.ne_of_lt (Nat.lt_of_lt_of_le (by have := World.block_lt_of_cell? _ _ ac; first | rwa [add_block] at this | exact this) aC.1); have ah : aF.block ≠ ab := Nat.ne_of_lt (Nat.lt_of_lt_of_le (by have := World.block_lt_of_cell? _ _ ac; first | rwa [add_block] at this | exact this) aC.1); replace ac := cbl HB.1 ac; replace aj := cbl HB.1 aj; replace ak := cbl HB.1 ak; replace al := cbl HB.1 al; have a5 := am aH; have a4 := am aJ; clear aH aJ; replace ac := (cell_far (p := ⟨ab, 0, none⟩) (by first | (rw [add_block]; exact ae) | (show (Addr.add _ _).block ≠ _; rw [add_block]; exact ae) | exact ae) (.int .i64 ((rd_T48 ai aa).f0))).trans ac; replace aj := (cell_far (p := ⟨ab, 0, none⟩) (by first | (rw [add_block]; exact ae) | (show (Addr.add _ _).block ≠ _; rw [add_block]; exact ae) | exact ae) (.int .i64 ((rd_T48 ai aa).f0))).trans aj; replace ak := (cell_far (p := ⟨ab, 0, none⟩) (by first | (rw [add_block]; exact ae) | (show (Addr.add _ _).block ≠ _; rw [add_block]; exact ae) | exact ae) (.int .i64 ((rd_T48 ai aa).f0))).trans ak; replace al := (cell_far (p := ⟨ab, 0, none⟩) (by first | (rw [add_block]; exact ae) | (show (Addr.add _ _).block ≠ _; rw [add_block]; exact ae) | exact ae) (.int .i64 ((rd_T48 ai aa).f0))).trans al; replace ac := (cell_far (p := ⟨ab, 1, none⟩) (by first | (rw [add_block]; exact af) | (show (Addr.add _ _).block ≠ _; rw [add_block]; exact af) | exact af) (.int .i64 ((rd_T48 ai aa).f1))).trans ac; replace aj := (cell_far (p := ⟨ab, 1, none⟩) (by first | (rw [add_block]; exact af) | (show (Addr.add _ _).block ≠ _; rw [add_block]; exact af) | exact af) (.int .i64 ((rd_T48 ai aa).f1))).trans aj; replace ak := (cell_far (p := ⟨ab, 1, none⟩) (by first | (rw [add_block]; exact af) | (show (Addr.add _ _).block ≠ _; rw [add_block]; exact af) | exact af) (.int .i64 ((rd_T48 ai aa).f1))).trans ak; replace al := (cell_far (p := ⟨ab, 1, none⟩) (by first | (rw [add_block]; exact af) | (show (Addr.add _ _).block ≠ _; rw [add_block]; exact af) | exact af) (.int .i64 ((rd_T48 ai aa).f1))).trans al; replace ac := (cell_far (p := ⟨ab, 2, none⟩) (by first | (rw [add_block]; exact ag) | (show (Addr.add _ _).block ≠ _; rw [add_block]; exact ag) | exact ag) (.slice ap ((rd_T48 ai aa).f2).length ar)).trans ac; replace aj := (cell_far (p := ⟨ab, 2, none⟩) (by first | (rw [add_block]; exact ag) | (show (Addr.add _ _).block ≠ _; rw [add_block]; exact ag) | exact ag) (.slice ap ((rd_T48 ai aa).f2).length ar)).trans aj; replace ak := (cell_far (p := ⟨ab, 2, none⟩) (by first | (rw [add_block]; exact ag) | (show (Addr.add _ _).block ≠ _; rw [add_block]; exact ag) | exact ag) (.slice ap ((rd_T48 ai aa).f2).length ar)).trans ak; replace al := (cell_far (p := ⟨ab, 2, none⟩) (by first | (rw [add_block]; exact ag) | (show (Addr.add _ _).block ≠ _; rw [add_block]; exact ag) | exact ag) (.slice ap ((rd_T48 ai aa).f2).length ar)).trans al; replace ac := (cell_far (p := ⟨ab, 3, none⟩) (by first | (rw [add_block]; exact ah) | (show (Addr.add _ _).block ≠ _; rw [add_block]; exact ah) | exact ah) (.bool ((rd_T48 ai aa).f3))).trans ac; replace aj := (cell_far (p := ⟨ab, 3, none⟩) (by first | (rw [add_block]; exact ah) | (show (Addr.add _ _).block ≠ _; rw [add_block]; exact ah) | exact ah) (.bool ((rd_T48 ai aa).f3))).trans aj; replace ak := (cell_far (p := ⟨ab, 3, none⟩) (by first | (rw [add_block]; exact ah) | (show (Addr.add _ _).block ≠ _; rw [add_block]; exact ah) | exact ah) (.bool ((rd_T48 ai aa).f3))).trans ak; replace al := (cell_far (p := ⟨ab, 3, none⟩) (by first | (rw [add_block]; exact ah) | (show (Addr.add _ _).block ≠ _; rw [add_block]; exact ah) | exact ah) (.bool ((rd_T48 ai aa).f3))).trans al; clear ae; clear af; clear ag; clear ah; replace aW := eq_true aW; replace aX := eq_true aX) | ((with_reducible refine gate_dst (N := 10) rfl ?_); (try (refine gate_guard (by rfl) ?_; dsimp only)); refine box_ev (N := 10) (cs := #[.int .i64 0, .int .i64 0, .slice none 0 0, .bool false]) (t := 48) ?_; intro aw hg di hbox hb; have ba := am hbox; have bb := gwb hg; have bp := bb; have aE := am ((by rw [hg]; exact Nat.ne_of_lt (blk_lt (g := aD) (o := .cells #[.string aY, .slice a6 aS.length a8, .slice a7 aT.length a9] 25 (0, 0)) (by (with_reducible repeat (first | refine blk_drewN ?_ _ | refine blk_drew ?_ | refine blk_alloc ?_ _)); refine bf4 ?_ ao.1; exact pbk au.1)) : aD ≠ aw)); have aM := am ((by rw [hg]; exact Nat.ne_of_gt (blk_lt (g := aD) (o := .cells #[.string aY, .slice a6 aS.length a8, .slice a7 aT.length a9] 25 (0, 0)) (by (with_reducible repeat (first | refine blk_drewN ?_ _ | refine blk_drew ?_ | refine blk_alloc ?_ _)); refine bf4 ?_ ao.1; exact pbk au.1)) : aw ≠ aD)); have aL := am ((by rw [hg]; exact Nat.ne_of_lt (blk_lt (g := ab) (o := .cells #[.int .i64 ((rd_T48 ai aa).f0), .int .i64 ((rd_T48 ai aa).f1), .slice ap ((rd_T48 ai aa).f2).length ar, .bool ((rd_T48 ai aa).f3)] 48 (0, 0)) (by (with_reducible repeat (first | refine blk_drewN ?_ _ | refine blk_drew ?_ | refine blk_alloc ?_ _)); exact bp4 (pbk ay.1))) : ab ≠ aw)); have aN := am ((by rw [hg]; exact Nat.ne_of_gt (blk_lt (g := ab) (o := .cells #[.int .i64 ((rd_T48 ai aa).f0), .int .i64 ((rd_T48 ai aa).f1), .slice ap ((rd_T48 ai aa).f2).length ar, .bool ((rd_T48 ai aa).f3)] 48 (0, 0)) (by (with_reducible repeat (first | refine blk_drewN ?_ _ | refine blk_drew ?_ | refine blk_alloc ?_ _)); exact bp4 (pbk ay.1))) : aw ≠ ab)); replace ax := am (Kd.N_below (Kd.N_elderB (by (with_reducible repeat (first | apply Kd.N_alloc | apply Kd.N_drewN | apply Kd.N_drew)); exact (fN4 ab ax.1 (fun k_ hk => hk.2))) aw (Nat.le_of_eq hg.symm)) hb); replace au := bbx au (fun h_ => by (with_reducible repeat (first | refine blk_drewN ?_ _ | refine blk_drew ?_ | refine blk_alloc ?_ _)); refine bf4 ?_ ao.1; exact pbk h_) hb; replace az := am (Kd.C_below ((Kd.V_reads' (by (with_reducible repeat (first | apply Kd.V_alloc | apply Kd.V_drewN | apply Kd.V_drew)); exact (fV4 ab aq.1 (fun k_ hk => hk.2)))).2.2) hb); replace aq := am (Kd.V_below (Kd.V_elderB (by (with_reducible repeat (first | apply Kd.V_alloc | apply Kd.V_drewN | apply Kd.V_drew)); exact (fV4 ab aq.1 (fun k_ hk => hk.2))) aw (Nat.le_of_eq hg.symm)) hb); replace ay := am (blk_below (g := ab) (o := .cells #[.int .i64 ((rd_T48 ai aa).f0), .int .i64 ((rd_T48 ai aa).f1), .slice ap ((rd_T48 ai aa).f2).length ar, .bool ((rd_T48 ai aa).f3)] 48 (0, 0)) (by (with_reducible repeat (first | refine blk_drewN ?_ _ | refine blk_drew ?_ | refine blk_alloc ?_ _)); exact bp4 (pbk ay.1)) hb); replace HB := bst hb; clear hb hbox hg; have cu := aM.1; have cJ := aE.1; have cv := aN.1; have cK := aL.1; have dx := cf4 ba.1; have dy := cf4 ay.1))
  go_ret
  exact ⟨per, pbg⟩
 by_cases bw : (((rd_T48 ai aa).f3) != ((rd_T48 l1 aa).f3)) = true
 ·rw [if_pos bw] at H
  have bR : (((rd_T48 ai aa).f3) != ((rd_T48 l1 aa).f3)) = true := bw
  (try (have bS : decide (((rd_T48 ai aa).f3) = ((rd_T48 l1 aa).f3)) = false := by simpa using bw))
  (try (have bT : (((rd_T48 ai aa).f3) == ((rd_T48 l1 aa).f3)) = false := by simpa using bw))
  (try (have cf : ¬ (((rd_T48 ai aa).f3) = ((rd_T48 l1 aa).f3)) := by simpa using bw))
  clear bw
  obtain rfl := Option.some.inj H
  have aQ : 0 ≤ (aa : Int) := dq
  have aR : aa < (ai.length : Int) := dq
  obtain ⟨br, ap, ar, bl, bc, bd, aP, bf, aI, aG⟩ := at_T48 (Kd.N_reads' ax.1).2.2 aa aQ aR
  cases bl
  obtain ⟨bs, aV, aU, aO⟩ := Kd.N_get ax.1 z48 aa aQ (by first | exact aR | exact dq | (have e_ := (Kd.N_reads' ax.1).1; omega))
  obtain ⟨bg, bh, rfl, aB, aA⟩ := k48_openF aU
  have av := aO 2 _ rfl
  rw [add_field _ _ 2 (by omega)] at av
  replace av := Option.some.inj (av.symm.trans aP)
  injection av with hva_ hvn_ hvc_
  rw [hva_] at aA
  rw [hvc_] at aB
  have aq := am (show Kd.V (Kd.int .i64) 3 _ w.heap.size _ _ ((rd_T48 ai aa).f2) from Kd.V_mk aB aA)
  clear hva_ hvn_ hvc_ aA aB aO aV
  have az := am aG
  have aZ := am aI
  clear aG aI
  replace aQ := eq_true aQ
  replace aR := eq_true aR
  go_wp2_with (first | ((with_reducible refine gate_dst (N := 9) rfl ?_); (try (refine gate_guard (by rfl) ?_; dsimp only)); refine box_ev (N := 9) (cs := #[.int .i64 0, .int .i64 0, .slice none 0 0, .bool false]) (t := 48) ?_; intro ab hg da hbox hb; have ay := am hbox; have aC := gwb hg; have bo := aC; have ao := nlt hg au; have aK := ngt hg au; replace ax := am (Kd.N_below (Kd.N_elderB (pkn ax.1) ab (Nat.le_of_eq hg.symm)) hb); replace aq := vbb aq hg hb; replace au := bbh au hb; replace az := cbb az hb; replace HB := bst hb; clear hb hbox hg; have ch := aK.1; have cz := ao.1; have dl := cf4 ay.1; have aW : 0 ≤ (aa : Int) := dq; have aX : aa < (l1.length : Int) := dq; obtain ⟨aF, bj, bk, bm, ac, aj, ak, al, aJ, aH⟩ := at_T48 bL.1 aa aW aX; cases bm; have ae : aF.block ≠ ab := Nat.ne_of_lt (Nat.lt_of_lt_of_le (by have := World.block_lt_of_cell? _ _ ac; first | rwa [add_block] at this | exact this) aC.1); have af : aF.block ≠ ab := Nat.ne_of_lt (Nat.lt_of_lt_of_le (by have := World.block_lt_of_cell? _ _ ac; first | rwa [add_block] at this | exact this) aC.1); have ag : aF.block ≠ ab := Nat.ne_of_lt (Nat.lt_of_lt_of_le (by have := World.block_lt_of_cell? _ _ ac; first | rwa [add_block] at this | exact this) aC.1); have ah : aF.block ≠ ab := Nat.ne_of_lt (Nat.lt_of_lt_of_le (by have := World.block_lt_of_cell? _ _ ac; first | rwa [add_block] at this | exact this) aC.1); replace ac := cbl HB.1 ac; replace aj := cbl HB.1 aj; replace ak := cbl HB.1 ak; replace al := cbl HB.1 al; have a5 := am aH; have a4 := am aJ; clear aH aJ; replace ac := (cell_far (p := ⟨ab, 0, none⟩) (by first | (rw [add_block]; exact ae) | (show (Addr.add _ _).block ≠ _; rw [add_block]; exact ae) | exact ae) (.int .i64 ((rd_T48 ai aa).f0))).trans ac; replace aj := (cell_far (p := ⟨ab, 0, none⟩) (by first | (rw [add_block]; exact ae) | (show (Addr.add _ _).block ≠ _; rw [add_block]; exact ae) | exact ae) (.int .i64 ((rd_T48 ai aa).f0))).trans aj; replace ak := (cell_far (p := ⟨ab, 0, none⟩) (by first | (rw [add_block]; exact ae) | (show (Addr.add _ _).block ≠ _; rw [add_block]; exact ae) | exact ae) (.int .i64 ((rd_T48 ai aa).f0))).trans ak; replace al := (cell_far (p := ⟨ab, 0, none⟩) (by first | (rw [add_block]; exact ae) | (show (Addr.add _ _).block ≠ _; rw [add_block]; exact ae) | exact ae) (.int .i64 ((rd_T48 ai aa).f0))).trans al; replace ac := (cell_far (p := ⟨ab, 1, none⟩) (by first | (rw [add_block]; exact af) | (show (Addr.add _ _).block ≠ _; rw [add_block]; exact af) | exact af) (.int .i64 ((rd_T48 ai aa).f1))).trans ac; replace aj := (cell_far (p := ⟨ab, 1, none⟩) (by first | (rw [add_block]; exact af) | (show (Addr.add _ _).block ≠ _; rw [add_block]; exact af) | exact af) (.int .i64 ((rd_T48 ai aa).f1))).trans aj; replace ak := (cell_far (p := ⟨ab, 1, none⟩) (by first | (rw [add_block]; exact af) | (show (Addr.add _ _).block ≠ _; rw [add_block]; exact af) | exact af) (.int .i64 ((rd_T48 ai aa).f1))).trans ak; replace al := (cell_far (p := ⟨ab, 1, none⟩) (by first | (rw [add_block]; exact af) | (show (Addr.add _ _).block ≠ _; rw [add_block]; exact af) | exact af) (.int .i64 ((rd_T48 ai aa).f1))).trans al; replace ac := (cell_far (p := ⟨ab, 2, none⟩) (by first | (rw [add_block]; exact ag) | (show (Addr.add _ _).block ≠ _; rw [add_block]; exact ag) | exact ag) (.slice ap ((rd_T48 ai aa).f2).length ar)).trans ac; replace aj := (cell_far (p := ⟨ab, 2, none⟩) (by first | (rw [add_block]; exact ag) | (show (Addr.add _ _).block ≠ _; rw [add_block]; exact ag) | exact ag) (.slice ap ((rd_T48 ai aa).f2).length ar)).trans aj; replace ak := (cell_far (p := ⟨ab, 2, none⟩) (by first | (rw [add_block]; exact ag) | (show (Addr.add _ _).block ≠ _; rw [add_block]; exact ag) | exact ag) (.slice ap ((rd_T48 ai aa).f2).length ar)).trans ak; replace al := (cell_far (p := ⟨ab, 2, none⟩) (by first | (rw [add_block]; exact ag) | (show (Addr.add _ _).block ≠ _; rw [add_block]; exact ag) | exact ag) (.slice ap ((rd_T48 ai aa).f2).length ar)).trans al; replace ac := (cell_far (p := ⟨ab, 3, none⟩) (by first | (rw [add_block]; exact ah) | (show (Addr.add _ _).block ≠ _; rw [add_block]; exact ah) | exact ah) (.bool ((rd_T48 ai aa).f3))).trans ac; replace aj := (cell_far (p := ⟨ab, 3, none⟩) (by first | (rw [add_block]; exact ah) | (show (Addr.add _ _).block ≠ _; rw [add_block]; exact ah) | exact ah) (.bool ((rd_T48 ai aa).f3))).trans aj; replace ak := (cell_far (p := ⟨ab, 3, none⟩) (by first | (rw [add_block]; exact ah) | (show (Addr.add _ _).block ≠ _; rw [add_block]; exact ah) | exact ah) (.bool ((rd_T48 ai aa).f3))).trans ak; replace al := (cell_far (p := ⟨ab, 3, none⟩) (by first | (rw [add_block]; exact ah) | (show (Addr.add _ _).block ≠ _; rw [add_block]; exact ah) | exact ah) (.bool ((rd_T48 ai aa).f3))).trans al; clear ae; clear af; clear ag; clear ah; replace aW := eq_true aW; replace aX := eq_true aX) | ((with_reducible refine gate_dst (N := 10) rfl ?_); (try (refine gate_guard (by rfl) ?_; dsimp only)); refine box_ev (N := 10) (cs := #[.int .i64 0, .int .i64 0, .slice none 0 0, .bool false]) (t := 48) ?_; intro aw hg db hbox hb; have ba := am hbox; have bb := gwb hg; have bp := bb; have aE := am ((by rw [hg]; exact Nat.ne_of_lt (blk_lt (g := aD) (o := .cells #[.string aY, .slice a6 aS.length a8, .slice a7 aT.length a9] 25 (0, 0)) (by (with_reducible repeat (first | refine blk_drewN ?_ _ | refine blk_drew ?_ | refine blk_alloc ?_ _)); refine bf4 ?_ ao.1; exact pbk au.1)) : aD ≠ aw)); have aM := am ((by rw [hg]; exact Nat.ne_of_gt (blk_lt (g := aD) (o := .cells #[.string aY, .slice a6 aS.length a8, .slice a7 aT.length a9] 25 (0, 0)) (by (with_reducible repeat (first | refine blk_drewN ?_ _ | refine blk_drew ?_ | refine blk_alloc ?_ _)); refine bf4 ?_ ao.1; exact pbk au.1)) : aw ≠ aD)); have aL := am ((by rw [hg]; exact Nat.ne_of_lt (blk_lt (g := ab) (o := .cells #[.int .i64 ((rd_T48 ai aa).f0), .int .i64 ((rd_T48 ai aa).f1), .slice ap ((rd_T48 ai aa).f2).length ar, .bool ((rd_T48 ai aa).f3)] 48 (0, 0)) (by (with_reducible repeat (first | refine blk_drewN ?_ _ | refine blk_drew ?_ | refine blk_alloc ?_ _)); exact bp4 (pbk ay.1))) : ab ≠ aw)); have aN := am ((by rw [hg]; exact Nat.ne_of_gt (blk_lt (g := ab) (o := .cells #[.int .i64 ((rd_T48 ai aa).f0), .int .i64 ((rd_T48 ai aa).f1), .slice ap ((rd_T48 ai aa).f2).length ar, .bool ((rd_T48 ai aa).f3)] 48 (0, 0)) (by (with_reducible repeat (first | refine blk_drewN ?_ _ | refine blk_drew ?_ | refine blk_alloc ?_ _)); exact bp4 (pbk ay.1))) : aw ≠ ab)); replace ax := am (Kd.N_below (Kd.N_elderB (by (with_reducible repeat (first | apply Kd.N_alloc | apply Kd.N_drewN | apply Kd.N_drew)); exact (fN4 ab ax.1 (fun k_ hk => hk.2))) aw (Nat.le_of_eq hg.symm)) hb); replace au := bbx au (fun h_ => by (with_reducible repeat (first | refine blk_drewN ?_ _ | refine blk_drew ?_ | refine blk_alloc ?_ _)); refine bf4 ?_ ao.1; exact pbk h_) hb; replace az := am (Kd.C_below ((Kd.V_reads' (by (with_reducible repeat (first | apply Kd.V_alloc | apply Kd.V_drewN | apply Kd.V_drew)); exact (fV4 ab aq.1 (fun k_ hk => hk.2)))).2.2) hb); replace aq := am (Kd.V_below (Kd.V_elderB (by (with_reducible repeat (first | apply Kd.V_alloc | apply Kd.V_drewN | apply Kd.V_drew)); exact (fV4 ab aq.1 (fun k_ hk => hk.2))) aw (Nat.le_of_eq hg.symm)) hb); replace ay := am (blk_below (g := ab) (o := .cells #[.int .i64 ((rd_T48 ai aa).f0), .int .i64 ((rd_T48 ai aa).f1), .slice ap ((rd_T48 ai aa).f2).length ar, .bool ((rd_T48 ai aa).f3)] 48 (0, 0)) (by (with_reducible repeat (first | refine blk_drewN ?_ _ | refine blk_drew ?_ | refine blk_alloc ?_ _)); exact bp4 (pbk ay.1)) hb); replace HB := bst hb; clear hb hbox hg; have ci := aM.1; have cA := aE.1; have cj := aN.1; have cB := aL.1; have dm := cf4 ba.1; have dn := cf4 ay.1))
  go_ret
  exact ⟨per, pbg⟩
 rw [if_neg bw] at H
 have bR : (((rd_T48 ai aa).f3) != ((rd_T48 l1 aa).f3)) = false := by simpa using bw
 (try (have bS : decide (((rd_T48 ai aa).f3) = ((rd_T48 l1 aa).f3)) = true := by simpa using bw))
 (try (have bT : (((rd_T48 ai aa).f3) == ((rd_T48 l1 aa).f3)) = true := by simpa using bw))
 clear bw
 replace H := bnd H
 obtain ⟨bD, b4, H⟩ := H
 (try dsimp only at H)
 cases bD
 ·rw [if_neg Bool.false_ne_true] at H
  obtain rfl := Option.some.inj H
  have aQ : 0 ≤ (aa : Int) := dq
  have aR : aa < (ai.length : Int) := dq
  obtain ⟨br, ap, ar, bl, bc, bd, aP, bf, aI, aG⟩ := at_T48 (Kd.N_reads' ax.1).2.2 aa aQ aR
  cases bl
  obtain ⟨bs, aV, aU, aO⟩ := Kd.N_get ax.1 z48 aa aQ (by first | exact aR | exact dq | (have e_ := (Kd.N_reads' ax.1).1; omega))
  obtain ⟨bg, bh, rfl, aB, aA⟩ := k48_openF aU
  have av := aO 2 _ rfl
  rw [add_field _ _ 2 (by omega)] at av
  replace av := Option.some.inj (av.symm.trans aP)
  injection av with hva_ hvn_ hvc_
  rw [hva_] at aA
  rw [hvc_] at aB
  have aq := am (show Kd.V (Kd.int .i64) 3 _ w.heap.size _ _ ((rd_T48 ai aa).f2) from Kd.V_mk aB aA)
  clear hva_ hvn_ hvc_ aA aB aO aV
  have az := am aG
  have aZ := am aI
  clear aG aI
  replace aQ := eq_true aQ
  replace aR := eq_true aR
  go_wp2_with (first | ((with_reducible refine gate_dst (N := 9) rfl ?_); (try (refine gate_guard (by rfl) ?_; dsimp only)); refine box_ev (N := 9) (cs := #[.int .i64 0, .int .i64 0, .slice none 0 0, .bool false]) (t := 48) ?_; intro ab hg df hbox hb; have ay := am hbox; have aC := gwb hg; have bo := aC; have ao := nlt hg au; have aK := ngt hg au; replace ax := am (Kd.N_below (Kd.N_elderB (pkn ax.1) ab (Nat.le_of_eq hg.symm)) hb); replace aq := vbb aq hg hb; replace au := bbh au hb; replace az := cbb az hb; replace HB := bst hb; clear hb hbox hg; have co := aK.1; have cF := ao.1; have du := cf4 ay.1; have aW : 0 ≤ (aa : Int) := dq; have aX : aa < (l1.length : Int) := dq; obtain ⟨aF, bj, bk, bm, ac, aj, ak, al, aJ, aH⟩ := at_T48 bL.1 aa aW aX; cases bm; have ae : aF.block ≠ ab := Nat.ne_of_lt (Nat.lt_of_lt_of_le (by have := World.block_lt_of_cell? _ _ ac; first | rwa [add_block] at this | exact this) aC.1); have af : aF.block ≠ ab := Nat.ne_of_lt (Nat.lt_of_lt_of_le (by have := World.block_lt_of_cell? _ _ ac; first | rwa [add_block] at this | exact this) aC.1); have ag : aF.block ≠ ab := Nat.ne_of_lt (Nat.lt_of_lt_of_le (by have := World.block_lt_of_cell? _ _ ac; first | rwa [add_block] at this | exact this) aC.1); have ah : aF.block ≠ ab := Nat.ne_of_lt (Nat.lt_of_lt_of_le (by have := World.block_lt_of_cell? _ _ ac; first | rwa [add_block] at this | exact this) aC.1); replace ac := cbl HB.1 ac; replace aj := cbl HB.1 aj; replace ak := cbl HB.1 ak; replace al := cbl HB.1 al; have a5 := am aH; have a4 := am aJ; clear aH aJ; replace ac := (cell_far (p := ⟨ab, 0, none⟩) (by first | (rw [add_block]; exact ae) | (show (Addr.add _ _).block ≠ _; rw [add_block]; exact ae) | exact ae) (.int .i64 ((rd_T48 ai aa).f0))).trans ac; replace aj := (cell_far (p := ⟨ab, 0, none⟩) (by first | (rw [add_block]; exact ae) | (show (Addr.add _ _).block ≠ _; rw [add_block]; exact ae) | exact ae) (.int .i64 ((rd_T48 ai aa).f0))).trans aj; replace ak := (cell_far (p := ⟨ab, 0, none⟩) (by first | (rw [add_block]; exact ae) | (show (Addr.add _ _).block ≠ _; rw [add_block]; exact ae) | exact ae) (.int .i64 ((rd_T48 ai aa).f0))).trans ak; replace al := (cell_far (p := ⟨ab, 0, none⟩) (by first | (rw [add_block]; exact ae) | (show (Addr.add _ _).block ≠ _; rw [add_block]; exact ae) | exact ae) (.int .i64 ((rd_T48 ai aa).f0))).trans al; replace ac := (cell_far (p := ⟨ab, 1, none⟩) (by first | (rw [add_block]; exact af) | (show (Addr.add _ _).block ≠ _; rw [add_block]; exact af) | exact af) (.int .i64 ((rd_T48 ai aa).f1))).trans ac; replace aj := (cell_far (p := ⟨ab, 1, none⟩) (by first | (rw [add_block]; exact af) | (show (Addr.add _ _).block ≠ _; rw [add_block]; exact af) | exact af) (.int .i64 ((rd_T48 ai aa).f1))).trans aj; replace ak := (cell_far (p := ⟨ab, 1, none⟩) (by first | (rw [add_block]; exact af) | (show (Addr.add _ _).block ≠ _; rw [add_block]; exact af) | exact af) (.int .i64 ((rd_T48 ai aa).f1))).trans ak; replace al := (cell_far (p := ⟨ab, 1, none⟩) (by first | (rw [add_block]; exact af) | (show (Addr.add _ _).block ≠ _; rw [add_block]; exact af) | exact af) (.int .i64 ((rd_T48 ai aa).f1))).trans al; replace ac := (cell_far (p := ⟨ab, 2, none⟩) (by first | (rw [add_block]; exact ag) | (show (Addr.add _ _).block ≠ _; rw [add_block]; exact ag) | exact ag) (.slice ap ((rd_T48 ai aa).f2).length ar)).trans ac; replace aj := (cell_far (p := ⟨ab, 2, none⟩) (by first | (rw [add_block]; exact ag) | (show (Addr.add _ _).block ≠ _; rw [add_block]; exact ag) | exact ag) (.slice ap ((rd_T48 ai aa).f2).length ar)).trans aj; replace ak := (cell_far (p := ⟨ab, 2, none⟩) (by first | (rw [add_block]; exact ag) | (show (Addr.add _ _).block ≠ _; rw [add_block]; exact ag) | exact ag) (.slice ap ((rd_T48 ai aa).f2).length ar)).trans ak; replace al := (cell_far (p := ⟨ab, 2, none⟩) (by first | (rw [add_block]; exact ag) | (show (Addr.add _ _).block ≠ _; rw [add_block]; exact ag) | exact ag) (.slice ap ((rd_T48 ai aa).f2).length ar)).trans al; replace ac := (cell_far (p := ⟨ab, 3, none⟩) (by first | (rw [add_block]; exact ah) | (show (Addr.add _ _).block ≠ _; rw [add_block]; exact ah) | exact ah) (.bool ((rd_T48 ai aa).f3))).trans ac; replace aj := (cell_far (p := ⟨ab, 3, none⟩) (by first | (rw [add_block]; exact ah) | (show (Addr.add _ _).block ≠ _; rw [add_block]; exact ah) | exact ah) (.bool ((rd_T48 ai aa).f3))).trans aj; replace ak := (cell_far (p := ⟨ab, 3, none⟩) (by first | (rw [add_block]; exact ah) | (show (Addr.add _ _).block ≠ _; rw [add_block]; exact ah) | exact ah) (.bool ((rd_T48 ai aa).f3))).trans ak; replace al := (cell_far (p := ⟨ab, 3, none⟩) (by first | (rw [add_block]; exact ah) | (show (Addr.add _ _).block ≠ _; rw [add_block]; exact ah) | exact ah) (.bool ((rd_T48 ai aa).f3))).trans al; clear ae; clear af; clear ag; clear ah; replace aW := eq_true aW; replace aX := eq_true aX) | ((with_reducible refine gate_dst (N := 10) rfl ?_); (try (refine gate_guard (by rfl) ?_; dsimp only)); refine box_ev (N := 10) (cs := #[.int .i64 0, .int .i64 0, .slice none 0 0, .bool false]) (t := 48) ?_; intro aw hg dg hbox hb; have ba := am hbox; have bb := gwb hg; have bp := bb; have aE := am ((by rw [hg]; exact Nat.ne_of_lt (blk_lt (g := aD) (o := .cells #[.string aY, .slice a6 aS.length a8, .slice a7 aT.length a9] 25 (0, 0)) (by (with_reducible repeat (first | refine blk_drewN ?_ _ | refine blk_drew ?_ | refine blk_alloc ?_ _)); refine bf4 ?_ ao.1; exact pbk au.1)) : aD ≠ aw)); have aM := am ((by rw [hg]; exact Nat.ne_of_gt (blk_lt (g := aD) (o := .cells #[.string aY, .slice a6 aS.length a8, .slice a7 aT.length a9] 25 (0, 0)) (by (with_reducible repeat (first | refine blk_drewN ?_ _ | refine blk_drew ?_ | refine blk_alloc ?_ _)); refine bf4 ?_ ao.1; exact pbk au.1)) : aw ≠ aD)); have aL := am ((by rw [hg]; exact Nat.ne_of_lt (blk_lt (g := ab) (o := .cells #[.int .i64 ((rd_T48 ai aa).f0), .int .i64 ((rd_T48 ai aa).f1), .slice ap ((rd_T48 ai aa).f2).length ar, .bool ((rd_T48 ai aa).f3)] 48 (0, 0)) (by (with_reducible repeat (first | refine blk_drewN ?_ _ | refine blk_drew ?_ | refine blk_alloc ?_ _)); exact bp4 (pbk ay.1))) : ab ≠ aw)); have aN := am ((by rw [hg]; exact Nat.ne_of_gt (blk_lt (g := ab) (o := .cells #[.int .i64 ((rd_T48 ai aa).f0), .int .i64 ((rd_T48 ai aa).f1), .slice ap ((rd_T48 ai aa).f2).length ar, .bool ((rd_T48 ai aa).f3)] 48 (0, 0)) (by (with_reducible repeat (first | refine blk_drewN ?_ _ | refine blk_drew ?_ | refine blk_alloc ?_ _)); exact bp4 (pbk ay.1))) : aw ≠ ab)); replace ax := am (Kd.N_below (Kd.N_elderB (by (with_reducible repeat (first | apply Kd.N_alloc | apply Kd.N_drewN | apply Kd.N_drew)); exact (fN4 ab ax.1 (fun k_ hk => hk.2))) aw (Nat.le_of_eq hg.symm)) hb); replace au := bbx au (fun h_ => by (with_reducible repeat (first | refine blk_drewN ?_ _ | refine blk_drew ?_ | refine blk_alloc ?_ _)); refine bf4 ?_ ao.1; exact pbk h_) hb; replace az := am (Kd.C_below ((Kd.V_reads' (by (with_reducible repeat (first | apply Kd.V_alloc | apply Kd.V_drewN | apply Kd.V_drew)); exact (fV4 ab aq.1 (fun k_ hk => hk.2)))).2.2) hb); replace aq := am (Kd.V_below (Kd.V_elderB (by (with_reducible repeat (first | apply Kd.V_alloc | apply Kd.V_drewN | apply Kd.V_drew)); exact (fV4 ab aq.1 (fun k_ hk => hk.2))) aw (Nat.le_of_eq hg.symm)) hb); replace ay := am (blk_below (g := ab) (o := .cells #[.int .i64 ((rd_T48 ai aa).f0), .int .i64 ((rd_T48 ai aa).f1), .slice ap ((rd_T48 ai aa).f2).length ar, .bool ((rd_T48 ai aa).f3)] 48 (0, 0)) (by (with_reducible repeat (first | refine blk_drewN ?_ _ | refine blk_drew ?_ | refine blk_alloc ?_ _)); exact bp4 (pbk ay.1)) hb); replace HB := bst hb; clear hb hbox hg; have cp := aM.1; have cG := aE.1; have cq := aN.1; have cH := aL.1; have dv := cf4 ba.1; have dw := cf4 ay.1) | (go_at_call 53; (with_reducible refine (karpmiller_equal.calls k2 _ _ ((rd_T48 ai aa).f2) _ _ ((rd_T48 l1 aa).f2) false _ ?side1 ?side2 ?side3 ?side4 b4.1).mono ?_); (case side1 => repeat (first | exact ((Kd.V_reads' (by (with_reducible repeat (first | apply Kd.V_alloc | apply Kd.V_drewN | apply Kd.V_drew)); exact (fV4 aw aq.1 (fun k_ hk => hk.2)))).2.2) | (with_reducible refine Kd.C_alloc ?_ _) | (with_reducible refine Kd.C_drewN ?_ _) | (with_reducible refine Kd.C_drew ?_))); (case side2 => exact aZ.1); (case side3 => exact Kd.C_below a5.1 pbg); (case side4 => exact a4.1); rintro e w' ⟨rfl, ⟨nd, rfl⟩⟩))
  go_ret
  exact ⟨per, pbg⟩
 rw [if_pos rfl] at H
 have H' := am H
 clear H
 have aQ : 0 ≤ (aa : Int) := dq
 have aR : aa < (ai.length : Int) := dq
 obtain ⟨br, ap, ar, bl, bc, bd, aP, bf, aI, aG⟩ := at_T48 (Kd.N_reads' ax.1).2.2 aa aQ aR
 cases bl
 obtain ⟨bs, aV, aU, aO⟩ := Kd.N_get ax.1 z48 aa aQ (by first | exact aR | exact dq | (have e_ := (Kd.N_reads' ax.1).1; omega))
 obtain ⟨bg, bh, rfl, aB, aA⟩ := k48_openF aU
 have av := aO 2 _ rfl
 rw [add_field _ _ 2 (by omega)] at av
 replace av := Option.some.inj (av.symm.trans aP)
 injection av with hva_ hvn_ hvc_
 rw [hva_] at aA
 rw [hvc_] at aB
 have aq := am (show Kd.V (Kd.int .i64) 3 _ w.heap.size _ _ ((rd_T48 ai aa).f2) from Kd.V_mk aB aA)
 clear hva_ hvn_ hvc_ aA aB aO aV
 have az := am aG
 have aZ := am aI
 clear aG aI
 replace aQ := eq_true aQ
 replace aR := eq_true aR
 go_wp2_with (first | ((with_reducible refine gate_dst (N := 9) rfl ?_); (try (refine gate_guard (by rfl) ?_; dsimp only)); refine box_ev (N := 9) (cs := #[.int .i64 0, .int .i64 0, .slice none 0 0, .bool false]) (t := 48) ?_; intro ab hg dc hbox hb; have ay := am hbox; have aC := gwb hg; have bo := aC; have ao := nlt hg au; have aK := ngt hg au; replace ax := am (Kd.N_below (Kd.N_elderB (pkn ax.1) ab (Nat.le_of_eq hg.symm)) hb); replace aq := vbb aq hg hb; replace au := bbh au hb; replace az := cbb az hb; replace HB := bst hb; clear hb hbox hg; have ck := aK.1; have cC := ao.1; have dp := cf4 ay.1; have aW : 0 ≤ (aa : Int) := dq; have aX : aa < (l1.length : Int) := dq; obtain ⟨aF, bj, bk, bm, ac, aj, ak, al, aJ, aH⟩ := at_T48 bL.1 aa aW aX; cases bm; have ae : aF.block ≠ ab := Nat.ne_of_lt (Nat.lt_of_lt_of_le (by have := World.block_lt_of_cell? _ _ ac; first | rwa [add_block] at this | exact this) aC.1); have af : aF.block ≠ ab := Nat.ne_of_lt (Nat.lt_of_lt_of_le (by have := World.block_lt_of_cell? _ _ ac; first | rwa [add_block] at this | exact this) aC.1); have ag : aF.block ≠ ab := Nat.ne_of_lt (Nat.lt_of_lt_of_le (by have := World.block_lt_of_cell? _ _ ac; first | rwa [add_block] at this | exact this) aC.1); have ah : aF.block ≠ ab := Nat.ne_of_lt (Nat.lt_of_lt_of_le (by have := World.block_lt_of_cell? _ _ ac; first | rwa [add_block] at this | exact this) aC.1); replace ac := cbl HB.1 ac; replace aj := cbl HB.1 aj; replace ak := cbl HB.1 ak; replace al := cbl HB.1 al; have a5 := am aH; have a4 := am aJ; clear aH aJ; replace ac := (cell_far (p := ⟨ab, 0, none⟩) (by first | (rw [add_block]; exact ae) | (show (Addr.add _ _).block ≠ _; rw [add_block]; exact ae) | exact ae) (.int .i64 ((rd_T48 ai aa).f0))).trans ac; replace aj := (cell_far (p := ⟨ab, 0, none⟩) (by first | (rw [add_block]; exact ae) | (show (Addr.add _ _).block ≠ _; rw [add_block]; exact ae) | exact ae) (.int .i64 ((rd_T48 ai aa).f0))).trans aj; replace ak := (cell_far (p := ⟨ab, 0, none⟩) (by first | (rw [add_block]; exact ae) | (show (Addr.add _ _).block ≠ _; rw [add_block]; exact ae) | exact ae) (.int .i64 ((rd_T48 ai aa).f0))).trans ak; replace al := (cell_far (p := ⟨ab, 0, none⟩) (by first | (rw [add_block]; exact ae) | (show (Addr.add _ _).block ≠ _; rw [add_block]; exact ae) | exact ae) (.int .i64 ((rd_T48 ai aa).f0))).trans al; replace ac := (cell_far (p := ⟨ab, 1, none⟩) (by first | (rw [add_block]; exact af) | (show (Addr.add _ _).block ≠ _; rw [add_block]; exact af) | exact af) (.int .i64 ((rd_T48 ai aa).f1))).trans ac; replace aj := (cell_far (p := ⟨ab, 1, none⟩) (by first | (rw [add_block]; exact af) | (show (Addr.add _ _).block ≠ _; rw [add_block]; exact af) | exact af) (.int .i64 ((rd_T48 ai aa).f1))).trans aj; replace ak := (cell_far (p := ⟨ab, 1, none⟩) (by first | (rw [add_block]; exact af) | (show (Addr.add _ _).block ≠ _; rw [add_block]; exact af) | exact af) (.int .i64 ((rd_T48 ai aa).f1))).trans ak; replace al := (cell_far (p := ⟨ab, 1, none⟩) (by first | (rw [add_block]; exact af) | (show (Addr.add _ _).block ≠ _; rw [add_block]; exact af) | exact af) (.int .i64 ((rd_T48 ai aa).f1))).trans al; replace ac := (cell_far (p := ⟨ab, 2, none⟩) (by first | (rw [add_block]; exact ag) | (show (Addr.add _ _).block ≠ _; rw [add_block]; exact ag) | exact ag) (.slice ap ((rd_T48 ai aa).f2).length ar)).trans ac; replace aj := (cell_far (p := ⟨ab, 2, none⟩) (by first | (rw [add_block]; exact ag) | (show (Addr.add _ _).block ≠ _; rw [add_block]; exact ag) | exact ag) (.slice ap ((rd_T48 ai aa).f2).length ar)).trans aj; replace ak := (cell_far (p := ⟨ab, 2, none⟩) (by first | (rw [add_block]; exact ag) | (show (Addr.add _ _).block ≠ _; rw [add_block]; exact ag) | exact ag) (.slice ap ((rd_T48 ai aa).f2).length ar)).trans ak; replace al := (cell_far (p := ⟨ab, 2, none⟩) (by first | (rw [add_block]; exact ag) | (show (Addr.add _ _).block ≠ _; rw [add_block]; exact ag) | exact ag) (.slice ap ((rd_T48 ai aa).f2).length ar)).trans al; replace ac := (cell_far (p := ⟨ab, 3, none⟩) (by first | (rw [add_block]; exact ah) | (show (Addr.add _ _).block ≠ _; rw [add_block]; exact ah) | exact ah) (.bool ((rd_T48 ai aa).f3))).trans ac; replace aj := (cell_far (p := ⟨ab, 3, none⟩) (by first | (rw [add_block]; exact ah) | (show (Addr.add _ _).block ≠ _; rw [add_block]; exact ah) | exact ah) (.bool ((rd_T48 ai aa).f3))).trans aj; replace ak := (cell_far (p := ⟨ab, 3, none⟩) (by first | (rw [add_block]; exact ah) | (show (Addr.add _ _).block ≠ _; rw [add_block]; exact ah) | exact ah) (.bool ((rd_T48 ai aa).f3))).trans ak; replace al := (cell_far (p := ⟨ab, 3, none⟩) (by first | (rw [add_block]; exact ah) | (show (Addr.add _ _).block ≠ _; rw [add_block]; exact ah) | exact ah) (.bool ((rd_T48 ai aa).f3))).trans al; clear ae; clear af; clear ag; clear ah; replace aW := eq_true aW; replace aX := eq_true aX) | ((with_reducible refine gate_dst (N := 10) rfl ?_); (try (refine gate_guard (by rfl) ?_; dsimp only)); refine box_ev (N := 10) (cs := #[.int .i64 0, .int .i64 0, .slice none 0 0, .bool false]) (t := 48) ?_; intro aw hg de hbox hb; have ba := am hbox; have bb := gwb hg; have bp := bb; have aE := am ((by rw [hg]; exact Nat.ne_of_lt (blk_lt (g := aD) (o := .cells #[.string aY, .slice a6 aS.length a8, .slice a7 aT.length a9] 25 (0, 0)) (by (with_reducible repeat (first | refine blk_drewN ?_ _ | refine blk_drew ?_ | refine blk_alloc ?_ _)); refine bf4 ?_ ao.1; exact pbk au.1)) : aD ≠ aw)); have aM := am ((by rw [hg]; exact Nat.ne_of_gt (blk_lt (g := aD) (o := .cells #[.string aY, .slice a6 aS.length a8, .slice a7 aT.length a9] 25 (0, 0)) (by (with_reducible repeat (first | refine blk_drewN ?_ _ | refine blk_drew ?_ | refine blk_alloc ?_ _)); refine bf4 ?_ ao.1; exact pbk au.1)) : aw ≠ aD)); have aL := am ((by rw [hg]; exact Nat.ne_of_lt (blk_lt (g := ab) (o := .cells #[.int .i64 ((rd_T48 ai aa).f0), .int .i64 ((rd_T48 ai aa).f1), .slice ap ((rd_T48 ai aa).f2).length ar, .bool ((rd_T48 ai aa).f3)] 48 (0, 0)) (by (with_reducible repeat (first | refine blk_drewN ?_ _ | refine blk_drew ?_ | refine blk_alloc ?_ _)); exact bp4 (pbk ay.1))) : ab ≠ aw)); have aN := am ((by rw [hg]; exact Nat.ne_of_gt (blk_lt (g := ab) (o := .cells #[.int .i64 ((rd_T48 ai aa).f0), .int .i64 ((rd_T48 ai aa).f1), .slice ap ((rd_T48 ai aa).f2).length ar, .bool ((rd_T48 ai aa).f3)] 48 (0, 0)) (by (with_reducible repeat (first | refine blk_drewN ?_ _ | refine blk_drew ?_ | refine blk_alloc ?_ _)); exact bp4 (pbk ay.1))) : aw ≠ ab)); replace ax := am (Kd.N_below (Kd.N_elderB (by (with_reducible repeat (first | apply Kd.N_alloc | apply Kd.N_drewN | apply Kd.N_drew)); exact (fN4 ab ax.1 (fun k_ hk => hk.2))) aw (Nat.le_of_eq hg.symm)) hb); replace au := bbx au (fun h_ => by (with_reducible repeat (first | refine blk_drewN ?_ _ | refine blk_drew ?_ | refine blk_alloc ?_ _)); refine bf4 ?_ ao.1; exact pbk h_) hb; replace az := am (Kd.C_below ((Kd.V_reads' (by (with_reducible repeat (first | apply Kd.V_alloc | apply Kd.V_drewN | apply Kd.V_drew)); exact (fV4 ab aq.1 (fun k_ hk => hk.2)))).2.2) hb); replace aq := am (Kd.V_below (Kd.V_elderB (by (with_reducible repeat (first | apply Kd.V_alloc | apply Kd.V_drewN | apply Kd.V_drew)); exact (fV4 ab aq.1 (fun k_ hk => hk.2))) aw (Nat.le_of_eq hg.symm)) hb); replace ay := am (blk_below (g := ab) (o := .cells #[.int .i64 ((rd_T48 ai aa).f0), .int .i64 ((rd_T48 ai aa).f1), .slice ap ((rd_T48 ai aa).f2).length ar, .bool ((rd_T48 ai aa).f3)] 48 (0, 0)) (by (with_reducible repeat (first | refine blk_drewN ?_ _ | refine blk_drew ?_ | refine blk_alloc ?_ _)); exact bp4 (pbk ay.1)) hb); replace HB := bst hb; clear hb hbox hg; have cm := aM.1; have cD := aE.1; have cn := aN.1; have cE := aL.1; have dr := cf4 ba.1; have dt := cf4 ay.1) | (go_at_call 53; (with_reducible refine (karpmiller_equal.calls k2 _ _ ((rd_T48 ai aa).f2) _ _ ((rd_T48 l1 aa).f2) true _ ?side1 ?side2 ?side3 ?side4 b4.1).mono ?_); (case side1 => repeat (first | exact ((Kd.V_reads' (by (with_reducible repeat (first | apply Kd.V_alloc | apply Kd.V_drewN | apply Kd.V_drew)); exact (fV4 aw aq.1 (fun k_ hk => hk.2)))).2.2) | (with_reducible refine Kd.C_alloc ?_ _) | (with_reducible refine Kd.C_drewN ?_ _) | (with_reducible refine Kd.C_drew ?_))); (case side2 => exact aZ.1); (case side3 => exact Kd.C_below a5.1 pbg); (case side4 => exact a4.1); rintro e w' ⟨rfl, ⟨nd, rfl⟩⟩))
 go_roundg k2
 case measure => have := b6.1; have := b7.1; omega
 case rel => exact ⟨(wrap64 (aa + 1)), prs, H', ⟨by have := b6.1; have := b7.1; omega⟩, ⟨by (with_reducible repeat (first | apply Kd.N_alloc | apply Kd.N_drewN | apply Kd.N_drew)); exact Kd.N_mono (fN4 aw (Kd.N_mono ax.1 (fun k_ hk => (⟨hk, hk.2⟩ : _ ∧ k_ ≠ aw))) (fun _ hk => hk.2)) (fun _ hk => hk.1.1.1)⟩, ⟨by (with_reducible repeat (first | refine blk_drewN ?_ _ | refine blk_drew ?_ | refine blk_alloc ?_ _)); refine bf4 ?_ aE.1; exact pbk au.1⟩, ⟨pbg⟩⟩

/-! ### karpmiller_Unbounded: function 30 -/
-- IMPORTS Derived.WalkMore
mutual
def karpmiller_Unbounded.l0 : Nat → List (S48) → Int → List (S48) → Int → Int → Option (List Int)
 | 0, _, _, _, _, _ => none
 | k + 1, x0, x3, x10, x11, x12 => if x12 < x11 then (if 0 ≤ x12 then (if x12 < (x10.length : Int) then (karpmiller_Unbounded.l0 k x0 (mx x3 (((rd_T48 x10 x12).f2).length : Int)) x10 x11 (wrap64 (x12 + 1))) else (none)) else (none)) else (karpmiller_Unbounded.l1 k x0 x3 ([] : List Int) 0)
def karpmiller_Unbounded.l1 : Nat → List (S48) → Int → List Int → Int → Option (List Int)
 | 0, _, _, _, _ => none
 | k + 1, x0, x3, x6, x7 => if x7 < x3 then (karpmiller_Unbounded.l2 k x0 x3 x6 x7 x0 (x0.length : Int) 0) else (some x6)
def karpmiller_Unbounded.l2 : Nat → List (S48) → Int → List Int → Int → List (S48) → Int → Int → Option (List Int)
 | 0, _, _, _, _, _, _, _ => none
 | k + 1, x0, x3, x6, x7, bh, bv, aZ => if aZ < bv then (if 0 ≤ aZ then (if aZ < (bh.length : Int) then (if x7 < (((rd_T48 bh aZ).f2).length : Int) then (if 0 ≤ x7 then (if (rd ((rd_T48 bh aZ).f2) x7) = (-1) then (if x6.length < 17592186044416 then (karpmiller_Unbounded.l1 k x0 x3 (x6 ++ [x7]) (wrap64 (x7 + 1))) else (none)) else (karpmiller_Unbounded.l2 k x0 x3 x6 x7 bh bv (wrap64 (aZ + 1)))) else (none)) else (karpmiller_Unbounded.l2 k x0 x3 x6 x7 bh bv (wrap64 (aZ + 1)))) else (none)) else (none)) else (karpmiller_Unbounded.l1 k x0 x3 x6 (wrap64 (x7 + 1)))
end
def karpmiller_Unbounded.f (k : Nat) (l0 : List (S48)) : Option (List Int) := karpmiller_Unbounded.l0 k l0 0 l0 (l0.length : Int) 0
theorem karpmiller_Unbounded.mono_l : ∀ k, M5 karpmiller_Unbounded.l0 k ∧ M4 karpmiller_Unbounded.l1 k ∧ M7 karpmiller_Unbounded.l2 k
 | 0 => ⟨fun _ _ _ _ _ r h => by simp [karpmiller_Unbounded.l0] at h, fun _ _ _ _ r h => by simp [karpmiller_Unbounded.l1] at h, fun _ _ _ _ _ _ _ r h => by simp [karpmiller_Unbounded.l2] at h⟩
 | k + 1 => by
  obtain ⟨bq, br, bs⟩ := karpmiller_Unbounded.mono_l k
  refine ⟨?_, ?_, ?_⟩ <;> dsimp only [M4, M5, M7] <;> intros <;> (first | unfold karpmiller_Unbounded.l0 | unfold karpmiller_Unbounded.l1 | unfold karpmiller_Unbounded.l2) <;> repeat' first | (with_reducible first | apply bq | apply br | apply bs | apply lr | apply ln | apply li | refine lb ?_ fun _ => ?_)
theorem karpmiller_Unbounded.mono : ∀ a0 k, LeO (karpmiller_Unbounded.f k a0) (karpmiller_Unbounded.f (k + 1) a0) := by
 intro a0 k
 obtain ⟨bq, br, bs⟩ := karpmiller_Unbounded.mono_l k
 unfold karpmiller_Unbounded.f
 repeat' first | (with_reducible first | apply bq | apply br | apply bs | apply lr | apply ln | apply li | refine lb ?_ fun _ => ?_)
set_option maxHeartbeats 8000000 in
set_option maxRecDepth 100000 in
theorem karpmiller_Unbounded.calls (k : Nat) (A0 : Option Addr) (c0 : Nat) (l0 : List (S48)) (r : List Int) (w : World) (bG : Kd.C k48 w A0 l0.length l0) (hc0 : l0.length ≤ c0) (h : karpmiller_Unbounded.f k l0 = some r) :
  Calls Try.prog 30 #[.slice A0 l0.length c0] w fun e w' => ∃ v0_ : Value, e = .returned (v0_) ∧ Kd.R (Kd.int .i64) 3 w' w.heap.size (fun _ => True) v0_ r ∧ Below w.heap.size w w' := by
 have bH := Try.underlying48
 have bk := am bG
 have bL := am hc0
 clear bG hc0
 have HB := am (Below.refl w.heap.size w)
 have H := h
 unfold karpmiller_Unbounded.f at H
 clear h
 have H' := am H
 clear H
 go_enter Try.func30, Try.ntmps30
 have fl_ := trivial
 iterate 3 (try ((first | clear fl_ | go_step3); go_wp2))
 go_loopg [3, 12] k (fun kq v3 bI w' => ∃ (au : Int) (ap : Int), v3 = .int .i64 au ∧ bI = .int .i64 ap ∧ Aside0 (karpmiller_Unbounded.l0 kq l0 au l0 (l0.length : Int) ap = some r) ∧ Aside0 (kq ≤ k) ∧ Aside0 (Below w.heap.size w w'))
 case atStart => exact ⟨(0), (0), prs, prs, H', ⟨Nat.le_refl _⟩, ⟨pbg⟩⟩
 clear H'
 obtain ⟨au, ap, rfl, rfl, HA, aN, HB⟩ := hrel
 obtain _ | k1 := gk
 ·exact absurd HA.1 (by simp [karpmiller_Unbounded.l0])
 have H := HA.1
 clear HA
 simp only [karpmiller_Unbounded.l0] at H
 replace H := ifl H
 rcases H with ⟨aX, H⟩ | ⟨aX, H⟩
 ·replace H := ifp H
  obtain ⟨c3, H⟩ := H
  have a9 := decide_eq_true c3
  clear c3
  replace H := ifp H
  obtain ⟨c4, H⟩ := H
  have ba := decide_eq_true c4
  clear c4
  obtain ⟨bu, aQ⟩ : ∃ j_ : Int, (mx au (((rd_T48 l0 ap).f2).length : Int)) = j_ := ⟨_, rfl⟩
  replace H : (karpmiller_Unbounded.l0 k1 l0 bu l0 (l0.length : Int) (wrap64 (ap + 1))) = some r := by first | (rw [aQ] at H; exact H) | (simp only [aQ] at H ⊢; exact H)
  have hji5_ : (if au < (((rd_T48 l0 ap).f2).length : Int) then (((rd_T48 l0 ap).f2).length : Int) else au) = bu := aQ
  have H' := am H
  clear H
  obtain ⟨bc, bf, bx, bm, bn, bp, az, aA, aC, aD, bj, bl⟩ := bT48 bk.1 HB.1 ap
  cases bp
  have fl_ := trivial
  iterate 3 (try ((first | clear fl_ | go_step3); go_wp2_with (first | ((with_reducible refine gate_dst (N := 5) rfl ?_); refine box_ev (N := 5) (cs := #[.int .i64 0, .int .i64 0, .slice none 0 0, .bool false]) (t := 48) ?_; intro bF hg w6 hbox hb; have a1 := am hbox; have a2 := gwl hg; have bw := a2; replace HB := bsl hb; clear hb hbox hg; have z7 := cf4 a1.1))))
  go_roundg k1
  case measure => have := aN.1; omega
  case rel => exact ⟨(bu), (wrap64 (ap + 1)), (by first | rfl | (simp; done) | (simp only [← aQ] <;> (first | rfl | simp)) | (simp [*]; done)), prs, H', ⟨by have := aN.1; omega⟩, ⟨pbg⟩⟩
 have H' := am H
 clear H
 have fl_ := trivial
 iterate 3 (try ((first | clear fl_ | go_step3); go_wp2))
 go_loopg [6, 7] k1 (fun kq v6 v7 w' => ∃ (aR : List Int) (al : Int), v7 = .int .i64 al ∧ Aside0 (karpmiller_Unbounded.l1 kq l0 au aR al = some r) ∧ Aside0 (kq ≤ k1) ∧ Aside0 (Kd.R (Kd.int .i64) 3 w' w.heap.size (fun _ => True) v6 aR) ∧ Aside0 (Below w.heap.size w w'))
 case atStart => exact ⟨(([] : List Int)), (0), prs, H', ⟨Nat.le_refl _⟩, ⟨knl⟩, ⟨pbg⟩⟩
 clear H'
 try clear aX c3 a9 c4 ba z7 az aA aC aD bc bf
 obtain ⟨aR, al, rfl, HA, aU, ao, HB⟩ := hrel
 obtain _ | k2 := gk
 ·exact absurd HA.1 (by simp [karpmiller_Unbounded.l1])
 have H := HA.1
 clear HA
 simp only [karpmiller_Unbounded.l1] at H
 replace H := ifl H
 rcases H with ⟨bb, H⟩ | ⟨bb, H⟩
 rotate_left
 ·obtain rfl := Option.some.inj H
  have fl_ := trivial
  iterate 3 (try ((first | clear fl_ | go_step3); go_wp2))
  (try rw [Exit.noGoto_ret])
  go_ret
  exact ⟨_, per, by (with_reducible repeat (first | apply Kd.R_alloc | apply Kd.R_drewN | apply Kd.R_drew)); exact ao.1, pbg⟩
 have H' := am H
 clear H
 have fl_ := trivial
 iterate 3 (try ((first | clear fl_ | go_step3); go_wp2))
 go_loopg [6, 29] k2 (fun kq v6 bK w' => ∃ (av : List Int) (ac : Int), bK = .int .i64 ac ∧ Aside0 (karpmiller_Unbounded.l2 kq l0 au av al l0 (l0.length : Int) ac = some r) ∧ Aside0 (kq ≤ k2) ∧ Aside0 (Kd.R (Kd.int .i64) 3 w' w.heap.size (fun _ => True) v6 av) ∧ Aside0 (Below w.heap.size w w'))
 case atStart => exact ⟨(aR), (0), prs, H', ⟨Nat.le_refl _⟩, ⟨pkr ao.1⟩, ⟨pbg⟩⟩
 clear H'
 try clear c2 aX c3 a9 c4 ba bb z7 az aA aC aD bc bf
 obtain ⟨av, ac, rfl, HA, aV, ao, HB⟩ := hrel
 obtain _ | k3 := gk
 ·exact absurd HA.1 (by simp [karpmiller_Unbounded.l2])
 have H := HA.1
 clear HA
 simp only [karpmiller_Unbounded.l2] at H
 replace H := ifl H
 rcases H with ⟨bo, H⟩ | ⟨bo, H⟩
 rotate_left
 ·have H' := am H
  clear H
  have fl_ := trivial
  iterate 3 (try ((first | clear fl_ | go_step3); go_wp2))
  go_roundg k3
  case measure => have := aN.1; have := aU.1; have := aV.1; omega
  case rel => exact ⟨(av), (wrap64 (al + 1)), prs, H', ⟨by have := aN.1; have := aU.1; have := aV.1; omega⟩, ⟨pkr ao.1⟩, ⟨pbg⟩⟩
 replace H := ifp H
 obtain ⟨c10, H⟩ := H
 have bz := decide_eq_true c10
 clear c10
 replace H := ifp H
 obtain ⟨bA, H⟩ := H
 have bB := decide_eq_true bA
 clear bA
 replace H := ifl H
 rcases H with ⟨a6, H⟩ | ⟨a6, H⟩
 rotate_left
 ·have H' := am H
  clear H
  obtain ⟨bd, bg, aW, aJ, ar, aK, aE, aG, aH, aI, ay, aq⟩ := bT48 bk.1 HB.1 ac
  cases aK
  have fl_ := trivial
  iterate 3 (try ((first | clear fl_ | go_step3); go_wp2_with (first | ((with_reducible refine gate_dst (N := 9) rfl ?_); refine box_ev (N := 9) (cs := #[.int .i64 0, .int .i64 0, .slice none 0 0, .bool false]) (t := 48) ?_; intro ab hg bP hbox hb; have ak := am hbox; have ai := gwl hg; have aT := ai; replace ao := rbw ao hb; replace HB := bsl hb; clear hb hbox hg; have bS := cf4 ak.1))))
  go_roundg k3
  case measure => have := aN.1; have := aU.1; have := aV.1; omega
  case rel => exact ⟨(av), (wrap64 (ac + 1)), prs, H', ⟨by have := aN.1; have := aU.1; have := aV.1; omega⟩, ⟨by (with_reducible repeat (first | apply Kd.R_alloc | apply Kd.R_drewN | apply Kd.R_drew)); exact Kd.R_mono (fR4 ab (Kd.R_types ao.1 ak.1 (by decide)) (fun _ hk => hk.2)) (fun _ hk => trivial)⟩, ⟨pbg⟩⟩
 replace H := ifp H
 obtain ⟨bC, H⟩ := H
 have bD := decide_eq_true bC
 clear bC
 replace H := ife H
 rcases H with ⟨a7, a8, H⟩ | ⟨a7, a8, H⟩
 rotate_left
 ·have H' := am H
  clear H
  obtain ⟨bd, bg, aW, aJ, ar, aK, aE, aG, aH, aI, ay, aq⟩ := bT48 bk.1 HB.1 ac
  cases aK
  have fl_ := trivial
  iterate 3 (try ((first | clear fl_ | go_step3); go_wp2_with (first | ((with_reducible refine gate_dst (N := 9) rfl ?_); refine box_ev (N := 9) (cs := #[.int .i64 0, .int .i64 0, .slice none 0 0, .bool false]) (t := 48) ?_; intro ab hg bO hbox hb; have ak := am hbox; have ai := gwl hg; have aT := ai; replace ao := rbw ao hb; replace HB := bsl hb; clear hb hbox hg; have bR := cf4 ak.1; have aw : 0 ≤ (al : Int) := dq; have ax : al < (((rd_T48 l0 ac).f2).length : Int) := dq; obtain ⟨aj, aY, aa⟩ := Kd.at_int aq.1 al aw ax; cases aY; have ae : aj.block ≠ ab := Nat.ne_of_lt (Nat.lt_of_lt_of_le (by have := World.block_lt_of_cell? _ _ aa; first | rwa [add_block] at this | exact this) ai.1); have af : aj.block ≠ ab := Nat.ne_of_lt (Nat.lt_of_lt_of_le (by have := World.block_lt_of_cell? _ _ aa; first | rwa [add_block] at this | exact this) ai.1); have ag : aj.block ≠ ab := Nat.ne_of_lt (Nat.lt_of_lt_of_le (by have := World.block_lt_of_cell? _ _ aa; first | rwa [add_block] at this | exact this) ai.1); have ah : aj.block ≠ ab := Nat.ne_of_lt (Nat.lt_of_lt_of_le (by have := World.block_lt_of_cell? _ _ aa; first | rwa [add_block] at this | exact this) ai.1); replace aa := cbl HB.1 aa; replace aa := (cell_far (p := ⟨ab, 0, none⟩) (by first | (rw [add_block]; exact ae) | (show (Addr.add _ _).block ≠ _; rw [add_block]; exact ae) | exact ae) (.int .i64 ((rd_T48 l0 ac).f0))).trans aa; replace aa := (cell_far (p := ⟨ab, 1, none⟩) (by first | (rw [add_block]; exact af) | (show (Addr.add _ _).block ≠ _; rw [add_block]; exact af) | exact af) (.int .i64 ((rd_T48 l0 ac).f1))).trans aa; replace aa := (cell_far (p := ⟨ab, 2, none⟩) (by first | (rw [add_block]; exact ag) | (show (Addr.add _ _).block ≠ _; rw [add_block]; exact ag) | exact ag) (.slice (some aj) ((rd_T48 l0 ac).f2).length ar)).trans aa; replace aa := (cell_far (p := ⟨ab, 3, none⟩) (by first | (rw [add_block]; exact ah) | (show (Addr.add _ _).block ≠ _; rw [add_block]; exact ah) | exact ah) (.bool ((rd_T48 l0 ac).f3))).trans aa; clear ae; clear af; clear ag; clear ah; replace aw := eq_true aw; replace ax := eq_true ax))))
  go_roundg k3
  case measure => have := aN.1; have := aU.1; have := aV.1; omega
  case rel => exact ⟨(av), (wrap64 (ac + 1)), prs, H', ⟨by have := aN.1; have := aU.1; have := aV.1; omega⟩, ⟨by (with_reducible repeat (first | apply Kd.R_alloc | apply Kd.R_drewN | apply Kd.R_drew)); exact Kd.R_mono (fR4 ab (Kd.R_types ao.1 ak.1 (by decide)) (fun _ hk => hk.2)) (fun _ hk => trivial)⟩, ⟨pbg⟩⟩
 replace H := ifp H
 obtain ⟨bE, H⟩ := H
 have a4 := am bE
 clear bE
 obtain ⟨bi, aM⟩ : ∃ y_ : List Int, y_ = (av ++ [al]) := ⟨_, rfl⟩
 replace H : (karpmiller_Unbounded.l1 k3 l0 au bi (wrap64 (al + 1))) = some r := hrp aM H
 have a5 := am aM
 clear aM
 have H' := am H
 clear H
 obtain ⟨bd, bg, aW, aJ, ar, aK, aE, aG, aH, aI, ay, aq⟩ := bT48 bk.1 HB.1 ac
 cases aK
 have fl_ := trivial
 iterate 3 (try ((first | clear fl_ | go_step3); go_wp2_with (first | ((with_reducible refine gate_dst (N := 9) rfl ?_); refine box_ev (N := 9) (cs := #[.int .i64 0, .int .i64 0, .slice none 0 0, .bool false]) (t := 48) ?_; intro ab hg bM hbox hb; have ak := am hbox; have ai := gwl hg; have aT := ai; replace ao := rbw ao hb; replace HB := bsl hb; clear hb hbox hg; have bQ := cf4 ak.1; have aw : 0 ≤ (al : Int) := dq; have ax : al < (((rd_T48 l0 ac).f2).length : Int) := dq; obtain ⟨aj, aY, aa⟩ := Kd.at_int aq.1 al aw ax; cases aY; have ae : aj.block ≠ ab := Nat.ne_of_lt (Nat.lt_of_lt_of_le (by have := World.block_lt_of_cell? _ _ aa; first | rwa [add_block] at this | exact this) ai.1); have af : aj.block ≠ ab := Nat.ne_of_lt (Nat.lt_of_lt_of_le (by have := World.block_lt_of_cell? _ _ aa; first | rwa [add_block] at this | exact this) ai.1); have ag : aj.block ≠ ab := Nat.ne_of_lt (Nat.lt_of_lt_of_le (by have := World.block_lt_of_cell? _ _ aa; first | rwa [add_block] at this | exact this) ai.1); have ah : aj.block ≠ ab := Nat.ne_of_lt (Nat.lt_of_lt_of_le (by have := World.block_lt_of_cell? _ _ aa; first | rwa [add_block] at this | exact this) ai.1); replace aa := cbl HB.1 aa; replace aa := (cell_far (p := ⟨ab, 0, none⟩) (by first | (rw [add_block]; exact ae) | (show (Addr.add _ _).block ≠ _; rw [add_block]; exact ae) | exact ae) (.int .i64 ((rd_T48 l0 ac).f0))).trans aa; replace aa := (cell_far (p := ⟨ab, 1, none⟩) (by first | (rw [add_block]; exact af) | (show (Addr.add _ _).block ≠ _; rw [add_block]; exact af) | exact af) (.int .i64 ((rd_T48 l0 ac).f1))).trans aa; replace aa := (cell_far (p := ⟨ab, 2, none⟩) (by first | (rw [add_block]; exact ag) | (show (Addr.add _ _).block ≠ _; rw [add_block]; exact ag) | exact ag) (.slice (some aj) ((rd_T48 l0 ac).f2).length ar)).trans aa; replace aa := (cell_far (p := ⟨ab, 3, none⟩) (by first | (rw [add_block]; exact ah) | (show (Addr.add _ _).block ≠ _; rw [add_block]; exact ah) | exact ah) (.bool ((rd_T48 l0 ac).f3))).trans aa; clear ae; clear af; clear ag; clear ah; replace aw := eq_true aw; replace ax := eq_true ax) | ((with_reducible refine gate_builtin (b := .append) (xs := #[.tmp 46, .tmp 48]) rfl ?_); at_builtin; refine Kd.R_append (Kd.int .i64) (w0 := w) w.heap.size rfl (.tmp 46) (.tmp 48) 26 3 (.int .i64 0) 8 rfl Try.underlying26 info3 rfl (by decide) (by omega) u6 av al [.int .i64 al] (fun _ => True) (fun _ => False) rfl (by first | (go_simp; done) | (go_simp; rfl)) ?aP (fun _ hk => hk.elim) ?aF ?aO ?aB ?aS ?aL ?_; (case aP => exact rfl); (case aB => exact pbg); (case aF => exact (fun _ _ => trivial)); (case aO => exact (by (with_reducible repeat (first | apply Kd.R_alloc | apply Kd.R_drewN | apply Kd.R_drew)); exact Kd.R_mono (fR4 ab (Kd.R_types ao.1 ak.1 (by decide)) (fun _ hk => hk.2)) (fun _ hk => trivial))); (case aS => exact (below_size pbg)); (case aL => have := a4.1; omega); intro bJ bN ho hb hg hat; rw [← a5.1] at ho; have a3 := am ho; replace ak := am (blk_grown (g := ab) (o := .cells #[.int .i64 ((rd_T48 l0 ac).f0), .int .i64 ((rd_T48 l0 ac).f1), .slice (some aj) ((rd_T48 l0 ac).f2).length ar, .bool ((rd_T48 l0 ac).f3)] 48 (0, 0)) (by (with_reducible repeat (first | refine blk_drewN ?_ _ | refine blk_drew ?_ | refine blk_alloc ?_ _)); exact bp4 (pbk ak.1)) hg (Kd.R_ne ao.1 ak.1 (by decide))); replace HB := am hb; clear ao; clear ho hb hg hat))))
 go_roundg k3
 case measure => have := aN.1; have := aU.1; have := aV.1; omega
 case rel => exact ⟨(bi), (wrap64 (al + 1)), prs, H', ⟨by have := aN.1; have := aU.1; have := aV.1; omega⟩, ⟨pkr a3.1⟩, ⟨pbg⟩⟩

/-! ### petrinetlaw22_alive: function 11 -/
def petrinetlaw22_alive.f (k : Nat)  : Option (Bool) := (petrinetlaw22_source.f).bind fun bD => ((karpmiller_Tree.f k bD.1 bD.2.1 bD.2.2 9).bind fun ar => ((karpmiller_Unbounded.f k ar.1).bind fun aU => (if (ar.1.length : Int) = 3 then (if ar.2.1 = true then (if ar.2.2 = 0 then (if 0 < (ar.1.length : Int) then ((r04_Same.f k ((rd_T48 ar.1 0).f2) (([0] : List Int))).bind fun bP => (if bP = true then (if 1 < (ar.1.length : Int) then ((r04_Same.f k ((rd_T48 ar.1 1).f2) (([(-1)] : List Int))).bind fun bp => (if bp = true then (if 2 < (ar.1.length : Int) then ((r04_Same.f k ((rd_T48 ar.1 2).f2) (([(-1)] : List Int))).bind fun bd => (if bd = true then (if ((rd_T48 ar.1 1).f3 = true) then (none) else (if (rd_T48 ar.1 2).f3 = true then ((r04_Same.f k aU (([0] : List Int))).bind fun aA => (if aA = true then ((petrinetlaw22_source.f).bind fun ac => ((karpmiller_Valid.f k ac.1 ac.2.1 ac.2.2 ar.1).bind fun aB => (some aB))) else (none))) else (none))) else (none))) else (none)) else (none))) else (none)) else (none))) else (none)) else (none)) else (none)) else (none))))
theorem petrinetlaw22_alive.mono : ∀ k, LeO (petrinetlaw22_alive.f k ) (petrinetlaw22_alive.f (k + 1) ) := by
 intro  k
 unfold petrinetlaw22_alive.f
 repeat' first | (with_reducible first | apply karpmiller_Tree.mono | apply karpmiller_Unbounded.mono | apply karpmiller_Valid.mono | apply r04_Same.mono | apply lr | apply ln | apply li | refine lb ?_ fun _ => ?_)
set_option maxHeartbeats 8000000 in
set_option maxRecDepth 100000 in
theorem petrinetlaw22_alive.calls (k : Nat)  (r : Bool) (w : World) (h : petrinetlaw22_alive.f k  = some r) :
  Calls Try.prog 11 #[] w fun e w' => e = .returned (.bool r) ∧ Below w.heap.size w w' := by
 have HB := am (Below.refl w.heap.size w)
 have H := h
 unfold petrinetlaw22_alive.f at H
 clear h
 replace H := bnd H
 obtain ⟨⟨cC, b3, b4⟩, A1, H⟩ := H
 (try dsimp only at H)
 replace H := bnd H
 obtain ⟨⟨ab, dI, ck⟩, A2, H⟩ := H
 (try dsimp only at H)
 replace H := bnd H
 obtain ⟨aU, A3, H⟩ := H
 (try dsimp only at H)
 replace H := ifp H
 obtain ⟨c4, H⟩ := H
 have d7 : ((ab.length : Int) == 3) = true := beq_iff_eq.mpr c4
 have d8 : ((ab.length : Int) != 3) = false := bne_eq_false_iff_eq.mpr c4
 clear c4
 cases dI
 ·rw [if_neg Bool.false_ne_true] at H
  exact absurd H (by simp)
 rw [if_pos rfl] at H
 replace H := ifp H
 obtain ⟨c6, H⟩ := H
 have d9 : (ck == 0) = true := beq_iff_eq.mpr c6
 have ea : (ck != 0) = false := bne_eq_false_iff_eq.mpr c6
 clear c6
 replace H := ifp H
 obtain ⟨c7, H⟩ := H
 have ec := decide_eq_true c7
 have ed : decide (0 < ab.length) = true := decide_eq_true (by omega)
 clear c7
 obtain ⟨cm, bL⟩ : ∃ y_ : List Int, y_ = (([0] : List Int)) := ⟨_, rfl⟩
 replace H : ((r04_Same.f k ((rd_T48 ab 0).f2) cm).bind fun bP => (if bP = true then (if 1 < (ab.length : Int) then ((r04_Same.f k ((rd_T48 ab 1).f2) (([(-1)] : List Int))).bind fun bp => (if bp = true then (if 2 < (ab.length : Int) then ((r04_Same.f k ((rd_T48 ab 2).f2) (([(-1)] : List Int))).bind fun bd => (if bd = true then (if ((rd_T48 ab 1).f3 = true) then (none) else (if (rd_T48 ab 2).f3 = true then ((r04_Same.f k aU (([0] : List Int))).bind fun aA => (if aA = true then ((petrinetlaw22_source.f).bind fun ac => ((karpmiller_Valid.f k ac.1 ac.2.1 ac.2.2 ab).bind fun aB => (some aB))) else (none))) else (none))) else (none))) else (none)) else (none))) else (none)) else (none))) = some r := hrp bL H
 have b5 := am bL
 clear bL
 replace H := bnd H
 obtain ⟨bP, A8, H⟩ := H
 (try dsimp only at H)
 cases bP
 ·rw [if_neg Bool.false_ne_true] at H
  exact absurd H (by simp)
 rw [if_pos rfl] at H
 replace H := ifp H
 obtain ⟨c10, H⟩ := H
 have dL := decide_eq_true c10
 have dM : decide (1 < ab.length) = true := decide_eq_true (by omega)
 clear c10
 obtain ⟨cn, bM⟩ : ∃ y_ : List Int, y_ = (([(-1)] : List Int)) := ⟨_, rfl⟩
 replace H : ((r04_Same.f k ((rd_T48 ab 1).f2) cn).bind fun bp => (if bp = true then (if 2 < (ab.length : Int) then ((r04_Same.f k ((rd_T48 ab 2).f2) (([(-1)] : List Int))).bind fun bd => (if bd = true then (if ((rd_T48 ab 1).f3 = true) then (none) else (if (rd_T48 ab 2).f3 = true then ((r04_Same.f k aU (([0] : List Int))).bind fun aA => (if aA = true then ((petrinetlaw22_source.f).bind fun ac => ((karpmiller_Valid.f k ac.1 ac.2.1 ac.2.2 ab).bind fun aB => (some aB))) else (none))) else (none))) else (none))) else (none)) else (none))) = some r := hrp bM H
 have b6 := am bM
 clear bM
 replace H := bnd H
 obtain ⟨bp, A11, H⟩ := H
 (try dsimp only at H)
 cases bp
 ·rw [if_neg Bool.false_ne_true] at H
  exact absurd H (by simp)
 rw [if_pos rfl] at H
 replace H := ifp H
 obtain ⟨dN, H⟩ := H
 have dO := decide_eq_true dN
 have dP : decide (2 < ab.length) = true := decide_eq_true (by omega)
 clear dN
 obtain ⟨co, bN⟩ : ∃ y_ : List Int, y_ = (([(-1)] : List Int)) := ⟨_, rfl⟩
 replace H : ((r04_Same.f k ((rd_T48 ab 2).f2) co).bind fun bd => (if bd = true then (if ((rd_T48 ab 1).f3 = true) then (none) else (if (rd_T48 ab 2).f3 = true then ((r04_Same.f k aU (([0] : List Int))).bind fun aA => (if aA = true then ((petrinetlaw22_source.f).bind fun ac => ((karpmiller_Valid.f k ac.1 ac.2.1 ac.2.2 ab).bind fun aB => (some aB))) else (none))) else (none))) else (none))) = some r := hrp bN H
 have b7 := am bN
 clear bN
 replace H := bnd H
 obtain ⟨bd, A14, H⟩ := H
 (try dsimp only at H)
 cases bd
 ·rw [if_neg Bool.false_ne_true] at H
  exact absurd H (by simp)
 rw [if_pos rfl] at H
 obtain ⟨cy, bE⟩ : ∃ b_ : Bool, b_ = ((rd_T48 ab 1).f3) := ⟨_, rfl⟩
 replace H : (if (cy = true) then (none) else (if (rd_T48 ab 2).f3 = true then ((r04_Same.f k aU (([0] : List Int))).bind fun aA => (if aA = true then ((petrinetlaw22_source.f).bind fun ac => ((karpmiller_Valid.f k ac.1 ac.2.1 ac.2.2 ab).bind fun aB => (some aB))) else (none))) else (none))) = some r := by rw [← bE] at H; exact H
 have bm := am bE
 clear bE
 by_cases cI : (cy = true)
 ·subst cI
  rw [if_pos rfl] at H
  exact absurd H (by simp)
 replace cI := Bool.eq_false_iff.mpr cI
 subst cI
 rw [if_neg Bool.false_ne_true] at H
 obtain ⟨cz, bF⟩ : ∃ b_ : Bool, b_ = ((rd_T48 ab 2).f3) := ⟨_, rfl⟩
 replace H : (if cz = true then ((r04_Same.f k aU (([0] : List Int))).bind fun aA => (if aA = true then ((petrinetlaw22_source.f).bind fun ac => ((karpmiller_Valid.f k ac.1 ac.2.1 ac.2.2 ab).bind fun aB => (some aB))) else (none))) else (none)) = some r := by rw [← bF] at H; exact H
 have bn := am bF
 clear bF
 by_cases cJ : cz = true
 rotate_left
 ·replace cJ := Bool.eq_false_iff.mpr cJ
  subst cJ
  rw [if_neg Bool.false_ne_true] at H
  exact absurd H (by simp)
 subst cJ
 rw [if_pos rfl] at H
 obtain ⟨cp, bO⟩ : ∃ y_ : List Int, y_ = (([0] : List Int)) := ⟨_, rfl⟩
 replace H : ((r04_Same.f k aU cp).bind fun aA => (if aA = true then ((petrinetlaw22_source.f).bind fun ac => ((karpmiller_Valid.f k ac.1 ac.2.1 ac.2.2 ab).bind fun aB => (some aB))) else (none))) = some r := hrp bO H
 have b8 := am bO
 clear bO
 replace H := bnd H
 obtain ⟨aA, d1, H⟩ := H
 (try dsimp only at H)
 cases aA
 ·rw [if_neg Bool.false_ne_true] at H
  exact absurd H (by simp)
 rw [if_pos rfl] at H
 replace H := bnd H
 obtain ⟨⟨cD, cE, cF⟩, d2, H⟩ := H
 (try dsimp only at H)
 replace H := bnd H
 obtain ⟨aB, d3, H⟩ := H
 (try dsimp only at H)
 obtain rfl := Option.some.inj H
 go_enter Try.func11, Try.ntmps11
 have tk0_ := am True.intro
 have tk1_ := am True.intro
 have tk2_ := am True.intro
 have tk3_ := am True.intro
 go_wp2_with (first | ((with_reducible refine gate_callee (f := 35) rfl ?_); refine gC 6 Try.func35 _ (petrinetlaw22_source.calls  cC b3 b4 _ A1.1) ?_; rintro e eo ⟨dJ, eg, rfl, aV, bC, hb⟩; refine ⟨_, rfl, ?_⟩; have af := am (Kd.R_lower (Kd.R_mono (ok' := fun k_ => True) aV (fun _ hk_ => trivial)) (below_size pbl)); have ag := am (Kd.N_lower (Kd.N_mono (ok' := fun k_ => some k_ ≠ (dJ : Value).ownBlock) bC (fun k_ hk_ => hk_.2)) (below_size pbl)); replace HB := bsl hb; (try clear hb); (try clear aV); (try clear bC); obtain ⟨cq, cA, dy⟩ := Kd.R_slice af.1; subst dy; obtain ⟨cr, cB, dz⟩ := Kd.N_slice ag.1; subst dz) | ((with_reducible refine gate_callee (f := 18) rfl ?_); refine gC 7 Try.func18 _ (karpmiller_Tree.calls k cC _ _ b3 _ _ b4 9 ab true ck _ (csd ((Kd.R_reads' af.1).2.2)) ((Kd.R_reads' af.1).2.1) (csd ((Kd.N_reads' ag.1).2.2)) ((Kd.N_reads' ag.1).2.1) A2.1) ?_; rintro e ep ⟨eh, rfl, aV, hb⟩; refine ⟨_, rfl, ?_⟩; have aa := am (Kd.N_lower (Kd.N_mono (ok' := fun k_ => some k_ ≠ (.slice cq b3.length cA : Value).ownBlock ∧ some k_ ≠ (.slice cr b4.length cB : Value).ownBlock) aV (fun k_ hk_ => ⟨(Kd.fresh' (Kd.R_lt (pkr af.1)) k_ hk_), (Kd.fresh' (Kd.N_lt (pkn ag.1)) k_ hk_)⟩)) (below_size pbl)); replace af := rbw af hb; replace ag := am (Kd.N_elder' (pkn ag.1) (Kd.N_base aV) hb); replace HB := bsl hb; (try clear hb); (try clear aV); obtain ⟨d4, dk, dA⟩ := Kd.N_slice aa.1; subst dA) | ((with_reducible refine gate_callee (f := 30) rfl ?_); refine gC 12 Try.func30 _ (karpmiller_Unbounded.calls k _ _ ab aU _ (csd ((Kd.N_reads' aa.1).2.2)) ((Kd.N_reads' aa.1).2.1) A3.1) ?_; rintro e eq ⟨ei, rfl, aV, hb⟩; refine ⟨_, rfl, ?_⟩; have aj := am (Kd.R_lower aV (below_size pbl)); replace af := rbw af hb; replace ag := am (Kd.N_elder' (pkn ag.1) (Kd.R_base aV) hb); replace aa := am (Kd.N_elder' (pkn aa.1) (Kd.R_base aV) hb); replace HB := bsl hb; (try clear hb); (try clear aV); have bT : 0 ≤ (0 : Int) := (by omega); have bY : 0 < (ab.length : Int) := dq; obtain ⟨bo, cU, df, dt, a3, a4, aO, aC, bw, bq⟩ := at_T48 (Kd.N_reads' aa.1).2.2 0 bT bY; (try rw [← bm.1] at aC); (try rw [← bn.1] at aC); cases dt; obtain ⟨dQ, cf, b9, bG⟩ := Kd.N_get aa.1 z48 0 bT (by first | exact bY | exact dq | (have e_ := (Kd.N_reads' aa.1).1; omega)); obtain ⟨cK, cP, rfl, bf, aW⟩ := k48_openF b9; have aJ := bG 2 _ rfl; rw [add_field _ _ 2 (by omega)] at aJ; replace aJ := Option.some.inj (aJ.symm.trans aO); injection aJ with hva_ hvn_ hvc_; rw [hva_] at aW; rw [hvc_] at bf; have ah := am (show Kd.V (Kd.int .i64) 3 _ w.heap.size _ _ ((rd_T48 ab 0).f2) from Kd.V_mk bf aW); clear hva_ hvn_ hvc_ aW bf; clear bG cf; have dW : (0 < ab.length) = True := eq_true (by omega); (try rw [show ((0 : Int)).toNat = 0 from rfl] at a3); (try rw [show 0 * 4 = 0 from rfl] at a3); (try rw [Addr.add_zero'] at a3); (try rw [show ((0 : Int)).toNat = 0 from rfl] at a4); (try rw [show 0 * 4 = 0 from rfl] at a4); (try rw [Addr.add_zero'] at a4); (try rw [show ((0 : Int)).toNat = 0 from rfl] at aO); (try rw [show 0 * 4 = 0 from rfl] at aO); (try rw [Addr.add_zero'] at aO); (try rw [show ((0 : Int)).toNat = 0 from rfl] at aC); (try rw [show 0 * 4 = 0 from rfl] at aC); (try rw [Addr.add_zero'] at aC); have ae := am bq; have bQ := am bw; clear bq bw; replace bT := eq_true bT; replace bY := eq_true bY) | ((with_reducible refine gate_dst (N := 28) rfl ?_); (try (refine gate_guard (by rfl) ?_; dsimp only)); refine Kd.R_lit (Kd.int .i64) _ 3 ?hg (N := 28) ?hd (xs := ([0] : List Int)) (inner := [.int .i64 0]) (ok := fun _ => True) (okp := fun _ => True) ?hr ?hp (fun _ hk => hk) trivial (Below.refl _ _) (Nat.le_refl _) (by simp) ?_; (case hd => rfl); (case hg => rfl); (case hr => first | (go_simp; done) | (go_simp; rfl)); (case hp => exact (Reps.one (show Kd.M (Kd.int .i64) _ _ _ 0 [.int .i64 0] from rfl) (Reps.none _ _))); intro ej er a2 hb hg_ hnew_; clear hg_ hnew_; (first | rw [← b5.1] at a2 | (simp only [Int.reduceToNat] at a2; rw [← b5.1] at a2)); have ao := am (Kd.R_lower (Kd.R_new' a2 (Kd.R_lt (pkr aj.1))) (below_size pbl)); replace af := rbw af hb; replace ag := am (Kd.N_elder' (pkn ag.1) (Kd.R_base a2) hb); replace aa := am (Kd.N_elder' (pkn aa.1) (Kd.R_base a2) hb); replace aj := am (Kd.R_elder' (pkr aj.1) (Kd.R_base a2) hb); replace ah := am (Kd.V_elder' (pkv ah.1) (Kd.R_base a2) hb); replace ae := cbb ae hb; replace HB := bsl hb; clear hb a2; obtain ⟨cZ, dl, dB⟩ := Kd.R_slice ao.1; subst dB) | (go_at_call 14; have _t := tk0_; (with_reducible refine (r04_Same.calls k _ _ ((rd_T48 ab 0).f2) _ _ cm true _ ?side1 ?side2 ?side3 ?side4 A8.1).mono ?_); (case side1 => repeat (first | exact (by repeat (first | (with_reducible exact ae.1) | (with_reducible refine Kd.C_alloc ?_ _) | (with_reducible refine Kd.C_drewN ?_ _) | (with_reducible refine Kd.C_drew ?_) | exact ae.1)) | (with_reducible refine Kd.C_alloc ?_ _) | (with_reducible refine Kd.C_drewN ?_ _) | (with_reducible refine Kd.C_drew ?_))); (case side2 => exact bQ.1); (case side3 => exact csd ((Kd.R_reads' ao.1).2.2)); (case side4 => exact (Kd.R_reads' ao.1).2.1); rintro e w' ⟨rfl, ⟨nd, rfl⟩⟩; have bU : 0 ≤ (1 : Int) := (by omega); have bZ : 1 < (ab.length : Int) := dq; obtain ⟨cu, cV, dg, du, a5, a6, aP, aD, bx, br⟩ := at_T48 (Kd.N_reads' aa.1).2.2 1 bU bZ; (try rw [← bm.1] at aD); (try rw [← bn.1] at aD); obtain rfl : bo = cu := (by injection du); obtain ⟨dR, cg, ca, bH⟩ := Kd.N_get aa.1 z48 1 bU (by first | exact bZ | exact dq | (have e_ := (Kd.N_reads' aa.1).1; omega)); obtain ⟨cL, cQ, rfl, bg, aX⟩ := k48_openF ca; have aK := bH 2 _ rfl; rw [add_field _ _ 2 (by omega)] at aK; replace aK := Option.some.inj (aK.symm.trans aP); injection aK with hva_ hvn_ hvc_; rw [hva_] at aX; rw [hvc_] at bg; have ak := am (show Kd.V (Kd.int .i64) 3 _ w.heap.size _ _ ((rd_T48 ab 1).f2) from Kd.V_mk bg aX); clear hva_ hvn_ hvc_ aX bg; clear bH cg; (try simp only [show (1 : Int).toNat = 1 from rfl, Nat.reduceMul, Nat.reduceEqDiff, Go.Addr.add, ↓reduceIte] at a5); (try simp only [show (1 : Int).toNat = 1 from rfl, Nat.reduceMul, Nat.reduceEqDiff, Go.Addr.add, ↓reduceIte] at a6); (try simp only [show (1 : Int).toNat = 1 from rfl, Nat.reduceMul, Nat.reduceEqDiff, Go.Addr.add, ↓reduceIte] at aP); (try simp only [show (1 : Int).toNat = 1 from rfl, Nat.reduceMul, Nat.reduceEqDiff, Go.Addr.add, ↓reduceIte] at aD); have dX : (1 < ab.length) = True := eq_true (by omega); (try rw [show ((1 : Int)).toNat = 1 from rfl] at a5); (try rw [show 1 * 4 = 4 from rfl] at a5); (try rw [show ((1 : Int)).toNat = 1 from rfl] at a6); (try rw [show 1 * 4 = 4 from rfl] at a6); (try rw [show ((1 : Int)).toNat = 1 from rfl] at aP); (try rw [show 1 * 4 = 4 from rfl] at aP); (try rw [show ((1 : Int)).toNat = 1 from rfl] at aD); (try rw [show 1 * 4 = 4 from rfl] at aD); have ai := am br; have bR := am bx; clear br bx; replace bU := eq_true bU; replace bZ := eq_true bZ; clear tk0_ _t) | ((with_reducible refine gate_dst (N := 36) rfl ?_); (try (refine gate_guard (by rfl) ?_; dsimp only)); refine Kd.R_lit (Kd.int .i64) _ 3 ?hg (N := 36) ?hd (xs := ([(-1)] : List Int)) (inner := [.int .i64 (-1)]) (ok := fun _ => True) (okp := fun _ => True) ?hr ?hp (fun _ hk => hk) trivial (Below.refl _ _) (Nat.le_refl _) (by simp) ?_; (case hd => rfl); (case hg => rfl); (case hr => first | (go_simp; done) | (go_simp; rfl)); (case hp => exact (Reps.one (show Kd.M (Kd.int .i64) _ _ _ (-1) [.int .i64 (-1)] from rfl) (Reps.none _ _))); intro ek es aT hb hg_ hnew_; clear hg_ hnew_; (first | rw [← b6.1] at aT | (simp only [Int.reduceToNat] at aT; rw [← b6.1] at aT)); have aq := am (Kd.R_lower (Kd.R_new' (Kd.R_new' aT (Kd.R_lt (pkr aj.1))) (Kd.R_lt (pkr ao.1))) (below_size pbl)); replace af := rbw af hb; replace ag := am (Kd.N_elder' (pkn ag.1) (Kd.R_base aT) hb); replace aa := am (Kd.N_elder' (pkn aa.1) (Kd.R_base aT) hb); replace aj := am (Kd.R_elder' (pkr aj.1) (Kd.R_base aT) hb); replace ah := am (Kd.V_elder' (pkv ah.1) (Kd.R_base aT) hb); replace ao := am (Kd.R_elder' (pkr ao.1) (Kd.R_base aT) hb); replace ak := am (Kd.V_elder' (pkv ak.1) (Kd.R_base aT) hb); replace ae := cbb ae hb; replace ai := cbb ai hb; replace HB := bsl hb; clear hb aT; obtain ⟨da, dm, dC⟩ := Kd.R_slice aq.1; subst dC) | (go_at_call 14; have _t := tk1_; (with_reducible refine (r04_Same.calls k _ _ ((rd_T48 ab 1).f2) _ _ cn true _ ?side1 ?side2 ?side3 ?side4 A11.1).mono ?_); (case side1 => repeat (first | exact (by repeat (first | (with_reducible exact ai.1) | (with_reducible refine Kd.C_alloc ?_ _) | (with_reducible refine Kd.C_drewN ?_ _) | (with_reducible refine Kd.C_drew ?_) | exact ai.1)) | (with_reducible refine Kd.C_alloc ?_ _) | (with_reducible refine Kd.C_drewN ?_ _) | (with_reducible refine Kd.C_drew ?_))); (case side2 => exact bR.1); (case side3 => exact csd ((Kd.R_reads' aq.1).2.2)); (case side4 => exact (Kd.R_reads' aq.1).2.1); rintro e w' ⟨rfl, ⟨nd, rfl⟩⟩; have bV : 0 ≤ (2 : Int) := (by omega); have b0 : 2 < (ab.length : Int) := dq; obtain ⟨cv, cW, dh, dv, a7, a8, aQ, aE, bz, bs⟩ := at_T48 (Kd.N_reads' aa.1).2.2 2 bV b0; (try rw [← bm.1] at aE); (try rw [← bn.1] at aE); obtain rfl : bo = cv := (by injection dv); obtain ⟨dS, ch, cb, bI⟩ := Kd.N_get aa.1 z48 2 bV (by first | exact b0 | exact dq | (have e_ := (Kd.N_reads' aa.1).1; omega)); obtain ⟨cM, cR, rfl, bh, aY⟩ := k48_openF cb; have aL := bI 2 _ rfl; rw [add_field _ _ 2 (by omega)] at aL; replace aL := Option.some.inj (aL.symm.trans aQ); injection aL with hva_ hvn_ hvc_; rw [hva_] at aY; rw [hvc_] at bh; have ap := am (show Kd.V (Kd.int .i64) 3 _ w.heap.size _ _ ((rd_T48 ab 2).f2) from Kd.V_mk bh aY); clear hva_ hvn_ hvc_ aY bh; clear bI ch; (try simp only [show (2 : Int).toNat = 2 from rfl, Nat.reduceMul, Nat.reduceEqDiff, Go.Addr.add, ↓reduceIte] at a7); (try simp only [show (2 : Int).toNat = 2 from rfl, Nat.reduceMul, Nat.reduceEqDiff, Go.Addr.add, ↓reduceIte] at a8); (try simp only [show (2 : Int).toNat = 2 from rfl, Nat.reduceMul, Nat.reduceEqDiff, Go.Addr.add, ↓reduceIte] at aQ); (try simp only [show (2 : Int).toNat = 2 from rfl, Nat.reduceMul, Nat.reduceEqDiff, Go.Addr.add, ↓reduceIte] at aE); have dY : (2 < ab.length) = True := eq_true (by omega); (try rw [show ((2 : Int)).toNat = 2 from rfl] at a7); (try rw [show 2 * 4 = 8 from rfl] at a7); (try rw [show ((2 : Int)).toNat = 2 from rfl] at a8); (try rw [show 2 * 4 = 8 from rfl] at a8); (try rw [show ((2 : Int)).toNat = 2 from rfl] at aQ); (try rw [show 2 * 4 = 8 from rfl] at aQ); (try rw [show ((2 : Int)).toNat = 2 from rfl] at aE); (try rw [show 2 * 4 = 8 from rfl] at aE); have al := am bs; have bS := am bz; clear bs bz; replace bV := eq_true bV; replace b0 := eq_true b0; clear tk1_ _t) | ((with_reducible refine gate_dst (N := 44) rfl ?_); (try (refine gate_guard (by rfl) ?_; dsimp only)); refine Kd.R_lit (Kd.int .i64) _ 3 ?hg (N := 44) ?hd (xs := ([(-1)] : List Int)) (inner := [.int .i64 (-1)]) (ok := fun _ => True) (okp := fun _ => True) ?hr ?hp (fun _ hk => hk) trivial (Below.refl _ _) (Nat.le_refl _) (by simp) ?_; (case hd => rfl); (case hg => rfl); (case hr => first | (go_simp; done) | (go_simp; rfl)); (case hp => exact (Reps.one (show Kd.M (Kd.int .i64) _ _ _ (-1) [.int .i64 (-1)] from rfl) (Reps.none _ _))); intro el et aH hb hg_ hnew_; clear hg_ hnew_; (first | rw [← b7.1] at aH | (simp only [Int.reduceToNat] at aH; rw [← b7.1] at aH)); have au := am (Kd.R_lower (Kd.R_new' (Kd.R_new' (Kd.R_new' aH (Kd.R_lt (pkr aj.1))) (Kd.R_lt (pkr ao.1))) (Kd.R_lt (pkr aq.1))) (below_size pbl)); replace af := rbw af hb; replace ag := am (Kd.N_elder' (pkn ag.1) (Kd.R_base aH) hb); replace aa := am (Kd.N_elder' (pkn aa.1) (Kd.R_base aH) hb); replace aj := am (Kd.R_elder' (pkr aj.1) (Kd.R_base aH) hb); replace ah := am (Kd.V_elder' (pkv ah.1) (Kd.R_base aH) hb); replace ao := am (Kd.R_elder' (pkr ao.1) (Kd.R_base aH) hb); replace ak := am (Kd.V_elder' (pkv ak.1) (Kd.R_base aH) hb); replace aq := am (Kd.R_elder' (pkr aq.1) (Kd.R_base aH) hb); replace ap := am (Kd.V_elder' (pkv ap.1) (Kd.R_base aH) hb); replace ae := cbb ae hb; replace ai := cbb ai hb; replace al := cbb al hb; replace HB := bsl hb; clear hb aH; obtain ⟨db, dn, dD⟩ := Kd.R_slice au.1; subst dD) | (go_at_call 14; have _t := tk2_; (with_reducible refine (r04_Same.calls k _ _ ((rd_T48 ab 2).f2) _ _ co true _ ?side1 ?side2 ?side3 ?side4 A14.1).mono ?_); (case side1 => repeat (first | exact (by repeat (first | (with_reducible exact al.1) | (with_reducible refine Kd.C_alloc ?_ _) | (with_reducible refine Kd.C_drewN ?_ _) | (with_reducible refine Kd.C_drew ?_) | exact al.1)) | (with_reducible refine Kd.C_alloc ?_ _) | (with_reducible refine Kd.C_drewN ?_ _) | (with_reducible refine Kd.C_drew ?_))); (case side2 => exact bS.1); (case side3 => exact csd ((Kd.R_reads' au.1).2.2)); (case side4 => exact (Kd.R_reads' au.1).2.1); rintro e w' ⟨rfl, ⟨nd, rfl⟩⟩; have bW : 0 ≤ (1 : Int) := (by omega); have b1 : 1 < (ab.length : Int) := dq; obtain ⟨cw, cX, di, dw, a9, ba, aR, aF, bA, bu⟩ := at_T48 (Kd.N_reads' aa.1).2.2 1 bW b1; (try rw [← bm.1] at aF); (try rw [← bn.1] at aF); obtain rfl : bo = cw := (by injection dw); obtain ⟨dU, ci, cd, bJ⟩ := Kd.N_get aa.1 z48 1 bW (by first | exact b1 | exact dq | (have e_ := (Kd.N_reads' aa.1).1; omega)); obtain ⟨cN, cS, rfl, bi, aZ⟩ := k48_openF cd; have aM := bJ 2 _ rfl; rw [add_field _ _ 2 (by omega)] at aM; replace aM := Option.some.inj (aM.symm.trans aR); injection aM with hva_ hvn_ hvc_; rw [hva_] at aZ; rw [hvc_] at bi; have av := am (show Kd.V (Kd.int .i64) 3 _ w.heap.size _ _ ((rd_T48 ab 1).f2) from Kd.V_mk bi aZ); clear hva_ hvn_ hvc_ aZ bi; clear bJ ci; (try simp only [show (1 : Int).toNat = 1 from rfl, Nat.reduceMul, Nat.reduceEqDiff, Go.Addr.add, ↓reduceIte] at a9); (try simp only [show (1 : Int).toNat = 1 from rfl, Nat.reduceMul, Nat.reduceEqDiff, Go.Addr.add, ↓reduceIte] at ba); (try simp only [show (1 : Int).toNat = 1 from rfl, Nat.reduceMul, Nat.reduceEqDiff, Go.Addr.add, ↓reduceIte] at aR); (try simp only [show (1 : Int).toNat = 1 from rfl, Nat.reduceMul, Nat.reduceEqDiff, Go.Addr.add, ↓reduceIte] at aF); have dZ : (1 < ab.length) = True := eq_true (by omega); (try rw [show ((1 : Int)).toNat = 1 from rfl] at a9); (try rw [show 1 * 4 = 4 from rfl] at a9); (try rw [show ((1 : Int)).toNat = 1 from rfl] at ba); (try rw [show 1 * 4 = 4 from rfl] at ba); (try rw [show ((1 : Int)).toNat = 1 from rfl] at aR); (try rw [show 1 * 4 = 4 from rfl] at aR); (try rw [show ((1 : Int)).toNat = 1 from rfl] at aF); (try rw [show 1 * 4 = 4 from rfl] at aF); have ax := am bu; have cG := am bA; clear bu bA; replace bW := eq_true bW; replace b1 := eq_true b1; have bX : 0 ≤ (2 : Int) := (by omega); have b2 : 2 < (ab.length : Int) := dq; obtain ⟨cx, cY, dj, dx, bb, bc, aS, aG, bB, bv⟩ := at_T48 (Kd.N_reads' aa.1).2.2 2 bX b2; (try rw [← bm.1] at aG); (try rw [← bn.1] at aG); obtain rfl : bo = cx := (by injection dx); obtain ⟨dV, cj, ce, bK⟩ := Kd.N_get aa.1 z48 2 bX (by first | exact b2 | exact dq | (have e_ := (Kd.N_reads' aa.1).1; omega)); obtain ⟨cO, cT, rfl, bj, a1⟩ := k48_openF ce; have aN := bK 2 _ rfl; rw [add_field _ _ 2 (by omega)] at aN; replace aN := Option.some.inj (aN.symm.trans aS); injection aN with hva_ hvn_ hvc_; rw [hva_] at a1; rw [hvc_] at bj; have aw := am (show Kd.V (Kd.int .i64) 3 _ w.heap.size _ _ ((rd_T48 ab 2).f2) from Kd.V_mk bj a1); clear hva_ hvn_ hvc_ a1 bj; clear bK cj; (try simp only [show (2 : Int).toNat = 2 from rfl, Nat.reduceMul, Nat.reduceEqDiff, Go.Addr.add, ↓reduceIte] at bb); (try simp only [show (2 : Int).toNat = 2 from rfl, Nat.reduceMul, Nat.reduceEqDiff, Go.Addr.add, ↓reduceIte] at bc); (try simp only [show (2 : Int).toNat = 2 from rfl, Nat.reduceMul, Nat.reduceEqDiff, Go.Addr.add, ↓reduceIte] at aS); (try simp only [show (2 : Int).toNat = 2 from rfl, Nat.reduceMul, Nat.reduceEqDiff, Go.Addr.add, ↓reduceIte] at aG); have d0 : (2 < ab.length) = True := eq_true (by omega); (try rw [show ((2 : Int)).toNat = 2 from rfl] at bb); (try rw [show 2 * 4 = 8 from rfl] at bb); (try rw [show ((2 : Int)).toNat = 2 from rfl] at bc); (try rw [show 2 * 4 = 8 from rfl] at bc); (try rw [show ((2 : Int)).toNat = 2 from rfl] at aS); (try rw [show 2 * 4 = 8 from rfl] at aS); (try rw [show ((2 : Int)).toNat = 2 from rfl] at aG); (try rw [show 2 * 4 = 8 from rfl] at aG); have ay := am bv; have cH := am bB; clear bv bB; replace bX := eq_true bX; replace b2 := eq_true b2; clear tk2_ _t) | ((with_reducible refine gate_dst (N := 62) rfl ?_); (try (refine gate_guard (by rfl) ?_; dsimp only)); refine Kd.R_lit (Kd.int .i64) _ 3 ?hg (N := 62) ?hd (xs := ([0] : List Int)) (inner := [.int .i64 0]) (ok := fun _ => True) (okp := fun _ => True) ?hr ?hp (fun _ hk => hk) trivial (Below.refl _ _) (Nat.le_refl _) (by simp) ?_; (case hd => rfl); (case hg => rfl); (case hr => first | (go_simp; done) | (go_simp; rfl)); (case hp => exact (Reps.one (show Kd.M (Kd.int .i64) _ _ _ 0 [.int .i64 0] from rfl) (Reps.none _ _))); intro em eu az hb hg_ hnew_; clear hg_ hnew_; (first | rw [← b8.1] at az | (simp only [Int.reduceToNat] at az; rw [← b8.1] at az)); have aI := am (Kd.R_lower (Kd.R_new' (Kd.R_new' (Kd.R_new' (Kd.R_new' az (Kd.R_lt (pkr aj.1))) (Kd.R_lt (pkr ao.1))) (Kd.R_lt (pkr aq.1))) (Kd.R_lt (pkr au.1))) (below_size pbl)); replace af := rbw af hb; replace ag := am (Kd.N_elder' (pkn ag.1) (Kd.R_base az) hb); replace aa := am (Kd.N_elder' (pkn aa.1) (Kd.R_base az) hb); replace aj := am (Kd.R_elder' (pkr aj.1) (Kd.R_base az) hb); replace ah := am (Kd.V_elder' (pkv ah.1) (Kd.R_base az) hb); replace ao := am (Kd.R_elder' (pkr ao.1) (Kd.R_base az) hb); replace ak := am (Kd.V_elder' (pkv ak.1) (Kd.R_base az) hb); replace aq := am (Kd.R_elder' (pkr aq.1) (Kd.R_base az) hb); replace ap := am (Kd.V_elder' (pkv ap.1) (Kd.R_base az) hb); replace au := am (Kd.R_elder' (pkr au.1) (Kd.R_base az) hb); replace av := am (Kd.V_elder' (pkv av.1) (Kd.R_base az) hb); replace aw := am (Kd.V_elder' (pkv aw.1) (Kd.R_base az) hb); replace ae := cbb ae hb; replace ai := cbb ai hb; replace al := cbb al hb; replace ax := cbb ax hb; replace ay := cbb ay hb; replace HB := bsl hb; clear hb az; obtain ⟨dc, dp, dE⟩ := Kd.R_slice aj.1; subst dE; obtain ⟨de, dr, dF⟩ := Kd.R_slice aI.1; subst dF) | (go_at_call 14; have _t := tk3_; (with_reducible refine (r04_Same.calls k _ _ aU _ _ cp true _ ?side1 ?side2 ?side3 ?side4 d1.1).mono ?_); (case side1 => exact csd ((Kd.R_reads' aj.1).2.2)); (case side2 => exact (Kd.R_reads' aj.1).2.1); (case side3 => exact csd ((Kd.R_reads' aI.1).2.2)); (case side4 => exact (Kd.R_reads' aI.1).2.1); rintro e w' ⟨rfl, ⟨nd, rfl⟩⟩; clear tk3_ _t) | (go_at_call 35; (with_reducible refine (petrinetlaw22_source.calls  cD cE cF _ d2.1).mono ?_); rintro e ev ⟨dK, en, rfl, aV, bC, hb⟩; have bk := am (Kd.R_lower (Kd.R_new' (Kd.R_mono (ok' := fun k_ => True) aV (fun _ hk_ => trivial)) (Kd.R_lt (pkr af.1))) (below_size pbl)); have bl := am (Kd.N_lower (Kd.N_mono (ok' := fun k_ => some k_ ≠ (dK : Value).ownBlock ∧ some k_ ≠ (.slice cq b3.length cA : Value).ownBlock ∧ some k_ ≠ (.slice cr b4.length cB : Value).ownBlock ∧ some k_ ≠ (.slice (some bo) ab.length dk : Value).ownBlock ∧ some k_ ≠ (.slice dc aU.length dp : Value).ownBlock ∧ some k_ ≠ (.slice cZ cm.length dl : Value).ownBlock ∧ some k_ ≠ (.slice da cn.length dm : Value).ownBlock ∧ some k_ ≠ (.slice db co.length dn : Value).ownBlock ∧ some k_ ≠ (.slice de cp.length dr : Value).ownBlock) bC (fun k_ hk_ => ⟨hk_.2, (Kd.fresh' (Kd.R_lt (pkr af.1)) k_ hk_.1), (Kd.fresh' (Kd.N_lt (pkn ag.1)) k_ hk_.1), (Kd.fresh' (Kd.N_lt (pkn aa.1)) k_ hk_.1), (Kd.fresh' (Kd.R_lt (pkr aj.1)) k_ hk_.1), (Kd.fresh' (Kd.R_lt (pkr ao.1)) k_ hk_.1), (Kd.fresh' (Kd.R_lt (pkr aq.1)) k_ hk_.1), (Kd.fresh' (Kd.R_lt (pkr au.1)) k_ hk_.1), (Kd.fresh' (Kd.R_lt (pkr aI.1)) k_ hk_.1)⟩)) (below_size pbl)); replace af := am (Kd.R_elder' (pkr af.1) (Kd.R_base aV) hb); replace ag := am (Kd.N_mono (Kd.N_told (Kd.N_told (Kd.N_old (pkn ag.1) hb) (Kd.R_base aV)) (Kd.N_base bC)) (fun _ h_ => h_.1)); replace aa := am (Kd.N_mono (Kd.N_told (Kd.N_told (Kd.N_old (pkn aa.1) hb) (Kd.R_base aV)) (Kd.N_base bC)) (fun _ h_ => h_.1)); replace aj := rbw aj hb; replace ah := am (Kd.V_mono (Kd.V_told (Kd.V_told (Kd.V_old (pkv ah.1) hb) (Kd.R_base aV)) (Kd.N_base bC)) (fun _ h_ => h_.1)); replace ao := rbw ao hb; replace ak := am (Kd.V_mono (Kd.V_told (Kd.V_told (Kd.V_old (pkv ak.1) hb) (Kd.R_base aV)) (Kd.N_base bC)) (fun _ h_ => h_.1)); replace aq := rbw aq hb; replace ap := am (Kd.V_mono (Kd.V_told (Kd.V_told (Kd.V_old (pkv ap.1) hb) (Kd.R_base aV)) (Kd.N_base bC)) (fun _ h_ => h_.1)); replace au := rbw au hb; replace av := am (Kd.V_mono (Kd.V_told (Kd.V_told (Kd.V_old (pkv av.1) hb) (Kd.R_base aV)) (Kd.N_base bC)) (fun _ h_ => h_.1)); replace aw := am (Kd.V_mono (Kd.V_told (Kd.V_told (Kd.V_old (pkv aw.1) hb) (Kd.R_base aV)) (Kd.N_base bC)) (fun _ h_ => h_.1)); replace aI := rbw aI hb; replace ae := cbb ae hb; replace ai := cbb ai hb; replace al := cbb al hb; replace ax := cbb ax hb; replace ay := cbb ay hb; replace HB := bsl hb; (try clear hb); (try clear aV); (try clear bC); obtain ⟨d5, ee, dG⟩ := Kd.R_slice bk.1; subst dG; obtain ⟨d6, ef, dH⟩ := Kd.N_slice bl.1; subst dH) | (go_at_call 23; (with_reducible refine (karpmiller_Valid.calls k cD _ _ cE _ _ cF _ _ ab aB _ ?side1 ?side2 ?side3 ?side4 ?side5 ?side6 d3.1).mono ?_); (case side1 => exact csd ((Kd.R_reads' bk.1).2.2)); (case side2 => exact (Kd.R_reads' bk.1).2.1); (case side3 => exact csd ((Kd.N_reads' bl.1).2.2)); (case side4 => exact (Kd.N_reads' bl.1).2.1); (case side5 => exact csd ((Kd.N_reads' aa.1).2.2)); (case side6 => exact (Kd.N_reads' aa.1).2.1); rintro e ew ⟨rfl, hb⟩; replace af := rbw af hb; replace ag := nbw ag hb; replace aa := nbw aa hb; replace aj := rbw aj hb; replace ah := vbw ah hb; replace ao := rbw ao hb; replace ak := vbw ak hb; replace aq := rbw aq hb; replace ap := vbw ap hb; replace au := rbw au hb; replace av := vbw av hb; replace aw := vbw aw hb; replace aI := rbw aI hb; replace bk := rbw bk hb; replace bl := nbw bl hb; replace ae := cbb ae hb; replace ai := cbb ai hb; replace al := cbb al hb; replace ax := cbb ax hb; replace ay := cbb ay hb; replace HB := bsl hb; (try clear hb)))
 go_ret
 exact ⟨per, pbg⟩

end Go.Proofs.Yteknagfpiadaiaa.P
