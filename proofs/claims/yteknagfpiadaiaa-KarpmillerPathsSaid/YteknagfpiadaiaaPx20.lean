-- LAID BY OUR PROGRAM OVER THE PRINT (xprint.py, part.py): Lean checks it.
import Derived.Test.YteknagfpiadaiaaPx0
import Derived.Test.YteknagfpiadaiaaPx1
import Derived.Test.YteknagfpiadaiaaPx2
import Derived.Test.YteknagfpiadaiaaPx3
import Derived.Test.YteknagfpiadaiaaPx4
import Derived.Test.YteknagfpiadaiaaPx8
import Derived.Test.YteknagfpiadaiaaPx10
import Derived.Test.YteknagfpiadaiaaPx18
namespace Go.Proofs.Yteknagfpiadaiaa.P
open Go.RowKit Go.Proofs.YteknagfpiadaiaaW.PrintWords Go.Proofs.YteknagfpiadaiaaW.PrintLast Go.Proofs.YteknagfpiadaiaaW.PrintMore
attribute [local go_sem] max2_int min2_int max_two min_two max_three min_three max_four min_four   -- for this text's walks alone
set_option linter.unusedVariables false
set_option linter.unusedSimpArgs false

/-! ### petrinetlaw22_KarpmillerPaths: function 9 -/
mutual
def petrinetlaw22_KarpmillerPaths.j0 : Nat → Bool → ByteArray → List (S57) → List (S60) → Option (Bool)
 | 0, _, _, _, _ => none
 | k + 1, eQ, ap, aq, ar => if eQ = true then ((petrinetlaw22_alive.f k).bind fun cH => (some cH)) else ((karpmiller_Tree.f k ap aq ar 100).bind fun bg => (if bg.2.2 = 0 then (if (bg.1.length : Int) = 0 then (none) else ((karpmiller_Path.f k bg.1 0).bind fun cf => (petrinetlaw22_KarpmillerPaths.j1 k bg.1 ((cf.length : Int) != 0) ap aq ar))) else ((petrinetlaw22_alive.f k).bind fun cI => (some cI))))
def petrinetlaw22_KarpmillerPaths.j1 : Nat → List (S48) → Bool → ByteArray → List (S57) → List (S60) → Option (Bool)
 | 0, _, _, _, _, _ => none
 | k + 1, x3, eR, ap, aq, ar => if eR = true then (none) else (petrinetlaw22_KarpmillerPaths.l0 k x3 1 ap aq ar)
def petrinetlaw22_KarpmillerPaths.l0 : Nat → List (S48) → Int → ByteArray → List (S57) → List (S60) → Option (Bool)
 | 0, _, _, _, _, _ => none
 | k + 1, x3, x6, ap, aq, ar => if x6 < (x3.length : Int) then (if 0 ≤ x6 then (if ((rd_T48 x3 x6).f0) < 0 then (none) else (petrinetlaw22_KarpmillerPaths.j3 k x3 x6 ((rd_T48 x3 x6).f0) (decide (((rd_T48 x3 x6).f0) ≥ x6)) ap aq ar)) else (none)) else ((petrinetlaw22_alive.f k).bind fun cJ => (some cJ))
def petrinetlaw22_KarpmillerPaths.j3 : Nat → List (S48) → Int → Int → Bool → ByteArray → List (S57) → List (S60) → Option (Bool)
 | 0, _, _, _, _, _, _, _ => none
 | k + 1, x3, x6, x7, eS, ap, aq, ar => if eS = true then (none) else (if 0 ≤ x7 then (if x7 < (x3.length : Int) then (if 0 ≤ x6 then (if x6 < (x3.length : Int) then ((karpmiller_Fire.f k ap aq ar ((rd_T48 x3 x7).f2) ((rd_T48 x3 x6).f1)).bind fun cg => ((karpmiller_Path.f k x3 x7).bind fun bD => (if bD.length < 17592186044416 then (if cg.2 = true then ((r05_Leq.f k cg.1 ((rd_T48 x3 x6).f2)).bind fun bU => (if bU = true then ((karpmiller_Path.f k x3 x6).bind fun bE => ((r04_Same.f k bE (bD ++ [(rd_T48 x3 x6).f1])).bind fun bV => (if bV = true then (petrinetlaw22_KarpmillerPaths.l0 k x3 (wrap64 (x6 + 1)) ap aq ar) else (none)))) else (none))) else (none)) else (none)))) else (none)) else (none)) else (none)) else (none))
end
def petrinetlaw22_KarpmillerPaths.f (k : Nat) (ak : ByteArray) (ag : List (S57)) (ah : List (S60)) : Option (Bool) := (r09_Light.f k ak ag ah).bind fun cG => (if cG = true then ((r09_Valid.f k ak ag ah).bind fun ce => (petrinetlaw22_KarpmillerPaths.j0 k (!ce) ak ag ah)) else (petrinetlaw22_KarpmillerPaths.j0 k true ak ag ah))
theorem petrinetlaw22_KarpmillerPaths.mono_l : ∀ k, M4 petrinetlaw22_KarpmillerPaths.j0 k ∧ M5 petrinetlaw22_KarpmillerPaths.j1 k ∧ M5 petrinetlaw22_KarpmillerPaths.l0 k ∧ M7 petrinetlaw22_KarpmillerPaths.j3 k
 | 0 => ⟨fun _ _ _ _ r h => by simp [petrinetlaw22_KarpmillerPaths.j0] at h, fun _ _ _ _ _ r h => by simp [petrinetlaw22_KarpmillerPaths.j1] at h, fun _ _ _ _ _ r h => by simp [petrinetlaw22_KarpmillerPaths.l0] at h, fun _ _ _ _ _ _ _ r h => by simp [petrinetlaw22_KarpmillerPaths.j3] at h⟩
 | k + 1 => by
  obtain ⟨dZ, d0, d1, d2⟩ := petrinetlaw22_KarpmillerPaths.mono_l k
  refine ⟨?_, ?_, ?_, ?_⟩ <;> dsimp only [M4, M5, M7] <;> intros <;> (first | unfold petrinetlaw22_KarpmillerPaths.j0 | unfold petrinetlaw22_KarpmillerPaths.j1 | unfold petrinetlaw22_KarpmillerPaths.l0 | unfold petrinetlaw22_KarpmillerPaths.j3) <;> repeat' first | (with_reducible first | apply dZ | apply d0 | apply d1 | apply d2 | apply karpmiller_Fire.mono | apply karpmiller_Path.mono | apply karpmiller_Tree.mono | apply petrinetlaw22_alive.mono | apply r04_Same.mono | apply r05_Leq.mono | apply r09_Light.mono | apply r09_Valid.mono | apply lr | apply ln | apply li | refine lb ?_ fun _ => ?_)
theorem petrinetlaw22_KarpmillerPaths.mono : ∀ a0 a1 a2 k, LeO (petrinetlaw22_KarpmillerPaths.f k a0 a1 a2) (petrinetlaw22_KarpmillerPaths.f (k + 1) a0 a1 a2) := by
 intro a0 a1 a2 k
 obtain ⟨dZ, d0, d1, d2⟩ := petrinetlaw22_KarpmillerPaths.mono_l k
 unfold petrinetlaw22_KarpmillerPaths.f
 repeat' first | (with_reducible first | apply dZ | apply d0 | apply d1 | apply d2 | apply karpmiller_Fire.mono | apply karpmiller_Path.mono | apply karpmiller_Tree.mono | apply petrinetlaw22_alive.mono | apply r04_Same.mono | apply r05_Leq.mono | apply r09_Light.mono | apply r09_Valid.mono | apply lr | apply ln | apply li | refine lb ?_ fun _ => ?_)
def petrinetlaw22_KarpmillerPaths.T14 : Bool × List (List Nat × List Nat) := (true, [([], []), ([], []), ([], []), ([1, 2], [1, 2]), ([3], [3]), ([4], [4]), ([], []), ([], []), ([6, 7], [6, 7]), ([8], [8]), ([9], [9]), ([0, 5, 10], [0, 5, 10]), ([11], [11]), ([12], [12]), ([12], [12]), ([13, 11, 0, 1, 2, 3, 4, 5, 6, 7, 8, 9, 10, 11, 12, 13], [13]), ([14, 15, 0, 1, 2, 3, 4, 5, 6, 7, 8, 9, 10, 11, 12, 13, 14, 15], [14])])
def petrinetlaw22_KarpmillerPaths.B14 : List Nat := [0, 0, 0, 6, 14, 30, 0, 0, 192, 448, 960, 2047, 4095, 8191, 8191, 16383, 65535]
theorem petrinetlaw22_KarpmillerPaths.tab14 : rtab .any (opsOf Try.f9 14) = petrinetlaw22_KarpmillerPaths.T14 := by kernel_rfl
theorem petrinetlaw22_KarpmillerPaths.bits14 : waitsOk petrinetlaw22_KarpmillerPaths.T14.2 petrinetlaw22_KarpmillerPaths.B14 = true := by kernel_rfl
set_option maxHeartbeats 8000000 in
set_option maxRecDepth 100000 in
theorem petrinetlaw22_KarpmillerPaths.calls (k : Nat) (ak : ByteArray) (aI : Option Addr) (aK : Nat) (ag : List (S57)) (aJ : Option Addr) (aM : Nat) (ah : List (S60)) (r : Bool) (w : World) (cm : Kd.C k57 w aI ag.length ag) (cj : ag.length ≤ aK) (cn : Kd.C k60 w aJ ah.length ah) (ck : ah.length ≤ aM) (h : petrinetlaw22_KarpmillerPaths.f k ak ag ah = some r) :
  Calls Try.prog 9 #[.agg #[.string ak, .slice aI ag.length aK, .slice aJ ah.length aM]] w fun e w' => e = .returned (.bool r) ∧ Below w.heap.size w w' := by
 have eJ := Try.underlying25
 have aU := am cm
 have aQ := am cj
 clear cm cj
 have aV := am cn
 have aR := am ck
 clear cn ck
 have HB := am (Below.refl w.heap.size w)
 have H := h
 unfold petrinetlaw22_KarpmillerPaths.f at H
 clear h
 have dG := am H
 clear H
 go_enter Try.func9, Try.ntmps9
 go_upto_region 1 with (first | ((with_reducible refine gate_dst (N := 1) rfl ?_); (try (refine gate_guard (by rfl) ?_; dsimp only)); refine box_ev ?_; intro ai hg w3 hbox hb; have aa := am hbox; have cN := gwl hg; have d6 := cN; replace HB := bsl hb; clear hb hbox hg))
 (try simp only [Act.put, List.setIfInBounds_toArray, List.set_cons_zero, List.set_cons_succ])
 go_cut [18] (fun eK wc => ∃ (kq : Nat) (bC : Bool), eK = .bool bC ∧ Aside0 (petrinetlaw22_KarpmillerPaths.j0 kq bC ak ag ah = some r) ∧ Aside0 (kq ≤ k) ∧ Aside0 (wc.heap[ai]? = some (.cells #[.string ak, (.slice aI ag.length aK), (.slice aJ ah.length aM)] 25 (0, 0))) ∧ Aside0 (Below w.heap.size w wc))
 case first =>
  have H := dG.1
  clear dG
  replace H := bnd H
  obtain ⟨cG, A4, H⟩ := H
  (try dsimp only at H)
  cases cG
  ·rw [if_neg Bool.false_ne_true] at H
   have H' := am H
   clear H
   have dD := cf3 aa.1
   go_wp2_with (first | ((with_reducible refine gate_callee (f := 21) rfl ?_); refine gC 12 Try.func21 _ (r09_Light.calls k ak _ _ ag _ _ ah false _ (csb aU HB) aQ.1 (csb aV HB) aR.1 A4.1) ?_; rintro e eW ⟨rfl, hb⟩; refine ⟨_, rfl, ?_⟩; replace aa := bbh aa hb; replace HB := bst hb; (try clear hb)))
   go_meet
   case rel => exact ⟨_, (true), prs, H', ⟨by first | omega | exact Nat.le_refl _⟩, ⟨pbk aa.1⟩, ⟨pbg⟩⟩
  rw [if_pos rfl] at H
  replace H := bnd H
  obtain ⟨ce, A6, H⟩ := H
  (try dsimp only at H)
  have H' := am H
  clear H
  have z7 := cf3 aa.1
  go_wp2_with (first | ((with_reducible refine gate_callee (f := 21) rfl ?_); refine gC 12 Try.func21 _ (r09_Light.calls k ak _ _ ag _ _ ah true _ (csb aU HB) aQ.1 (csb aV HB) aR.1 A4.1) ?_; rintro e w8 ⟨rfl, hb⟩; refine ⟨_, rfl, ?_⟩; replace aa := bbh aa hb; replace HB := bst hb; (try clear hb); have z9 := cf3 aa.1) | (go_at_call 25; (with_reducible refine (r09_Valid.calls k ak _ _ ag _ _ ah ce _ ?side1 ?side2 ?side3 ?side4 A6.1).mono ?_); (case side1 => exact csb aU HB); (case side2 => exact aQ.1); (case side3 => exact csb aV HB); (case side4 => exact aR.1); rintro e eV ⟨rfl, hb⟩; replace aa := bbh aa hb; replace HB := bst hb; (try clear hb)))
  go_meet
  case rel => exact ⟨_, (!ce), prs, H', ⟨by first | omega | exact Nat.le_refl _⟩, ⟨pbk aa.1⟩, ⟨pbg⟩⟩
 clear dG
 try clear c5 dD z7 z9
 obtain ⟨kq, bC, rfl, HA, dh, aa, HB⟩ := hcut
 obtain _ | cM := kq
 ·exact absurd HA.1 (by simp [petrinetlaw22_KarpmillerPaths.j0])
 have H := HA.1
 clear HA
 simp only [petrinetlaw22_KarpmillerPaths.j0] at H
 cases bC
 rotate_left
 ·rw [if_pos rfl] at H
  replace H := bnd H
  obtain ⟨cH, A14, H⟩ := H
  (try dsimp only at H)
  obtain rfl := Option.some.inj H
  go_wp2_with (first | ((with_reducible refine gate_callee (f := 11) rfl ?_); refine gC 19 Try.func11 _ (petrinetlaw22_alive.calls cM  cH _ A14.1) ?_; rintro e eX ⟨rfl, hb⟩; refine ⟨_, rfl, ?_⟩; replace aa := bbh aa hb; replace HB := bst hb; (try clear hb)))
  go_ret
  exact ⟨per, pbg⟩
 rw [if_neg Bool.false_ne_true] at H
 replace H := bnd H
 obtain ⟨⟨ab, cZ, da⟩, d5, H⟩ := H
 (try dsimp only at H)
 replace H := ife H
 rcases H with ⟨bh, bi, H⟩ | ⟨bh, bi, H⟩
 rotate_left
 ·replace H := bnd H
  obtain ⟨cI, eu, H⟩ := H
  (try dsimp only at H)
  obtain rfl := Option.some.inj H
  have fb := cf3 aa.1
  go_wp2_with (first | ((with_reducible refine gate_callee (f := 18) rfl ?_); refine gC 22 Try.func18 _ (karpmiller_Tree.calls cM ak _ _ ag _ _ ah 100 ab cZ da _ (csb aU HB) aQ.1 (csb aV HB) aR.1 d5.1) ?_; rintro e e9 ⟨cL, rfl, aw, hb⟩; refine ⟨_, rfl, ?_⟩; have ax := am (Kd.N_lower (Kd.N_mono (ok' := fun k_ => k_ ≠ ai) aw (fun k_ hk_ => (Kd.freshB (g := ai) (o := .cells #[.string ak, .slice aI ag.length aK, .slice aJ ah.length aM] 25 (0, 0)) (by exact pbk aa.1) k_ hk_))) (below_size pbg)); replace aa := bbh aa hb; replace HB := bst hb; (try clear hb); (try clear aw)) | ((with_reducible refine gate_callee (f := 11) rfl ?_); refine gC 28 Try.func11 _ (petrinetlaw22_alive.calls cM  cI _ eu.1) ?_; rintro e fa ⟨rfl, hb⟩; refine ⟨_, rfl, ?_⟩; replace ax := nbw ax hb; replace aa := bbh aa hb; replace HB := bst hb; (try clear hb)))
  go_ret
  exact ⟨per, pbg⟩
 have cq := am H
 clear H
 have d4 := cf3 aa.1
 go_upto_region 6 with (first | ((with_reducible refine gate_callee (f := 18) rfl ?_); refine gC 22 Try.func18 _ (karpmiller_Tree.calls cM ak _ _ ag _ _ ah 100 ab cZ da _ (csb aU HB) aQ.1 (csb aV HB) aR.1 d5.1) ?_; rintro e eY ⟨cL, rfl, aw, hb⟩; refine ⟨_, rfl, ?_⟩; have ax := am (Kd.N_lower (Kd.N_mono (ok' := fun k_ => k_ ≠ ai) aw (fun k_ hk_ => (Kd.freshB (g := ai) (o := .cells #[.string ak, .slice aI ag.length aK, .slice aJ ah.length aM] 25 (0, 0)) (by exact pbk aa.1) k_ hk_))) (below_size pbg)); replace aa := bbh aa hb; replace HB := bst hb; (try clear hb); (try clear aw)))
 (try simp only [Act.put, List.setIfInBounds_toArray, List.set_cons_zero, List.set_cons_succ])
 go_cut [37] (fun eL wc => ∃ (kq : Nat) (bb : Bool), eL = .bool bb ∧ Aside0 (petrinetlaw22_KarpmillerPaths.j1 kq ab bb ak ag ah = some r) ∧ Aside0 (kq ≤ cM) ∧ Aside0 (Kd.N k48 48 wc w.heap.size (fun k_ => k_ ≠ ai) cL ab) ∧ Aside0 (wc.heap[ai]? = some (.cells #[.string ak, (.slice aI ag.length aK), (.slice aJ ah.length aM)] 25 (0, 0))) ∧ Aside0 (Below w.heap.size w wc))
 case first =>
  have H := cq.1
  clear cq
  by_cases ch : (ab.length : Int) = 0
  ·rw [if_pos ch] at H
   exact absurd H (by simp)
  rw [if_neg ch] at H
  have bd : ((ab.length : Int) == 0) = false := beq_eq_false_iff_ne.mpr ch
  have bI : ((ab.length : Int) != 0) = true := bne_iff_ne.mpr ch
  have bJ : ¬ (ab = []) := fun h_ => ch (by rw [h_]; rfl)
  (first | rw [bd] | (simp only [i64_w, i32_w]; rw [bd]) | skip)
  replace H := bnd H
  obtain ⟨cf, en, H⟩ := H
  (try dsimp only at H)
  have H' := am H
  clear H
  obtain ⟨ev, eD, dR⟩ := Kd.N_slice ax.1
  subst dR
  go_wp2_with (first | (go_at_call 31; (with_reducible refine (karpmiller_Path.calls cM _ _ ab 0 cf _ ?side1 ?side2 en.1).mono ?_); (case side1 => exact csd ((Kd.N_reads' ax.1).2.2)); (case side2 => exact (Kd.N_reads' ax.1).2.1); rintro e eZ ⟨eN, rfl, aw, hb⟩; have cP := am (Kd.R_lower aw (below_size pbg)); replace ax := am (Kd.N_elder' (pkn ax.1) (Kd.R_base aw) hb); replace aa := bbh aa hb; replace HB := bst hb; (try clear hb); (try clear aw); obtain ⟨ew, eE, dS⟩ := Kd.R_slice cP.1; subst dS))
  go_meet
  case rel => exact ⟨_, (((cf.length : Int) != 0)), prs, H', ⟨by have := dh.1; first | omega | exact Nat.le_refl _⟩, ⟨by (with_reducible repeat (first | apply Kd.N_alloc | apply Kd.N_drewN | apply Kd.N_drew)); exact Kd.N_mono ax.1 (fun _ hk => hk.1)⟩, ⟨pbk aa.1⟩, ⟨pbg⟩⟩
 clear cq
 try clear c5 d7 bh bi ch bd bI bJ dD d4 z7 z9
 obtain ⟨kq, bb, rfl, HA, cu, ae, aa, HB⟩ := hcut
 obtain _ | cY := kq
 ·exact absurd HA.1 (by simp [petrinetlaw22_KarpmillerPaths.j1])
 have H := HA.1
 clear HA
 simp only [petrinetlaw22_KarpmillerPaths.j1] at H
 cases bb
 rotate_left
 ·rw [if_pos rfl] at H
  exact absurd H (by simp)
 rw [if_neg Bool.false_ne_true] at H
 have H' := am H
 clear H
 go_wp2
 go_loopg [6] cY (fun kq v6 w' => ∃ (ac : Int), v6 = .int .i64 ac ∧ Aside0 (petrinetlaw22_KarpmillerPaths.l0 kq ab ac ak ag ah = some r) ∧ Aside0 (kq ≤ cY) ∧ Aside0 (Kd.N k48 48 w' w.heap.size (fun k_ => k_ ≠ ai) cL ab) ∧ Aside0 (w'.heap[ai]? = some (.cells #[.string ak, (.slice aI ag.length aK), (.slice aJ ah.length aM)] 25 (0, 0))) ∧ Aside0 (Below w.heap.size w w'))
 case atStart => exact ⟨(1), prs, H', ⟨Nat.le_refl _⟩, ⟨pkn ae.1⟩, ⟨pbk aa.1⟩, ⟨pbg⟩⟩
 clear H'
 try clear c5 d7 eC bh bi ch bd bI bJ dD d4 z7 z9
 obtain ⟨ac, rfl, HA, dH, ae, aa, HB⟩ := hrel
 obtain _ | k3 := gk
 ·exact absurd HA.1 (by simp [petrinetlaw22_KarpmillerPaths.l0])
 have H := HA.1
 clear HA
 simp only [petrinetlaw22_KarpmillerPaths.l0] at H
 replace H := ifl H
 rcases H with ⟨ci, H⟩ | ⟨ci, H⟩
 rotate_left
 ·replace H := bnd H
  obtain ⟨cJ, et, H⟩ := H
  (try dsimp only at H)
  obtain rfl := Option.some.inj H
  obtain ⟨eB, eI, dY⟩ := Kd.N_slice ae.1
  subst dY
  go_wp2_with (first | ((with_reducible refine gate_callee (f := 11) rfl ?_); refine gC 102 Try.func11 _ (petrinetlaw22_alive.calls k3  cJ _ et.1) ?_; rintro e e8 ⟨rfl, hb⟩; refine ⟨_, rfl, ?_⟩; replace ae := nbw ae hb; replace aa := bbh aa hb; replace HB := bst hb; (try clear hb)))
  go_ret
  exact ⟨per, pbg⟩
 replace H := ifp H
 obtain ⟨dI, H⟩ := H
 have cW := decide_eq_true dI
 clear dI
 have cr := am H
 clear H
 obtain ⟨ex, bZ, dU⟩ := Kd.N_slice ae.1
 subst dU
 have bS : 0 ≤ (ac : Int) := dq
 have bT : ac < (ab.length : Int) := dq
 obtain ⟨af, co, dJ, dM, b0, b1, bu, b2, bo, bj⟩ := at_T48 (Kd.N_reads' ae.1).2.2 ac bS bT
 cases dM
 obtain ⟨ei, cB, cw, bM⟩ := Kd.N_get ae.1 z48 ac bS (by first | exact bT | exact dq | (have e_ := (Kd.N_reads' ae.1).1; omega))
 obtain ⟨dt, dy, rfl, a6, aW⟩ := k48_openF cw
 have aC := bM 2 _ rfl
 rw [add_field _ _ 2 (by omega)] at aC
 replace aC := Option.some.inj (aC.symm.trans bu)
 injection aC with hva_ hvn_ hvc_
 rw [hva_] at aW
 rw [hvc_] at a6
 have di := am (show Kd.V (Kd.int .i64) 3 _ w.heap.size _ _ ((rd_T48 ab ac).f2) from Kd.V_mk a6 aW)
 clear hva_ hvn_ hvc_ aW a6 bM cB
 have aj := am bj
 have de := am bo
 clear bj bo
 replace bS := eq_true bS
 replace bT := eq_true bT
 go_upto_region 12 with (fail)
 go_cut [55] (fun eM wc => ∃ (kq : Nat) (bc : Bool), eM = .bool bc ∧ Aside0 (petrinetlaw22_KarpmillerPaths.j3 kq ab ac ((rd_T48 ab ac).f0) bc ak ag ah = some r) ∧ Aside0 (kq ≤ k3) ∧ Aside0 (Kd.N k48 48 wc w.heap.size (fun k_ => k_ ≠ ai) (.slice (some af) ab.length bZ) ab) ∧ Aside0 (wc.heap[ai]? = some (.cells #[.string ak, (.slice aI ag.length aK), (.slice aJ ah.length aM)] 25 (0, 0))) ∧ Aside0 (Kd.C (Kd.int .i64) wc co ((rd_T48 ab ac).f2).length ((rd_T48 ab ac).f2)) ∧ Aside0 (Below w.heap.size w wc))
 case first =>
  have H := cr.1
  clear cr
  by_cases cX : ((rd_T48 ab ac).f0) < 0
  ·rw [if_pos cX] at H
   exact absurd H (by simp)
  rw [if_neg cX] at H
  have bK : decide (((rd_T48 ab ac).f0) < 0) = false := decide_eq_false cX
  clear cX
  (first | rw [bK] | (simp only [i64_w, i32_w]; rw [bK]) | skip)
  have H' := am H
  clear H
  go_wp2
  go_meet
  case rel => exact ⟨_, (decide (((rd_T48 ab ac).f0) ≥ ac)), prs, H', ⟨by have := dh.1; have := cu.1; have := dH.1; first | omega | exact Nat.le_refl _⟩, ⟨pkn ae.1⟩, ⟨pbk aa.1⟩, ⟨by repeat (first | (with_reducible exact aj.1) | (with_reducible refine Kd.C_alloc ?_ _) | (with_reducible refine Kd.C_drewN ?_ _) | (with_reducible refine Kd.C_drew ?_) | exact aj.1)⟩, ⟨pbg⟩⟩
 clear cr
 try clear c5 d7 eC bh bi ch bd bI bJ eT ci dI cW cX bK dD d4 z7 z9 b0 b1 bu b2 bS bT
 obtain ⟨kq, bc, rfl, HA, cO, ae, aa, aj, HB⟩ := hcut
 obtain _ | aN := kq
 ·exact absurd HA.1 (by simp [petrinetlaw22_KarpmillerPaths.j3])
 have H := HA.1
 clear HA
 simp only [petrinetlaw22_KarpmillerPaths.j3] at H
 cases bc
 rotate_left
 ·rw [if_pos rfl] at H
  exact absurd H (by simp)
 rw [if_neg Bool.false_ne_true] at H
 replace H := ifp H
 obtain ⟨d8, H⟩ := H
 have d9 := decide_eq_true d8
 clear d8
 replace H := ifp H
 obtain ⟨ea, H⟩ := H
 have ec := decide_eq_true ea
 clear ea
 replace H := ifp H
 obtain ⟨ed, H⟩ := H
 have ee := decide_eq_true ed
 clear ed
 replace H := ifp H
 obtain ⟨ef, H⟩ := H
 have eg := decide_eq_true ef
 clear ef
 replace H := bnd H
 obtain ⟨⟨cK, db⟩, eo, H⟩ := H
 (try dsimp only at H)
 replace H := bnd H
 obtain ⟨bD, ep, H⟩ := H
 (try dsimp only at H)
 replace H := ifp H
 obtain ⟨eh, H⟩ := H
 have cQ := am eh
 clear eh
 obtain ⟨dc, bR⟩ : ∃ y_ : List Int, y_ = (bD ++ [(rd_T48 ab ac).f1]) := ⟨_, rfl⟩
 replace H : (if db = true then ((r05_Leq.f aN cK ((rd_T48 ab ac).f2)).bind fun bU => (if bU = true then ((karpmiller_Path.f aN ab ac).bind fun bE => ((r04_Same.f aN bE dc).bind fun bV => (if bV = true then (petrinetlaw22_KarpmillerPaths.l0 aN ab (wrap64 (ac + 1)) ak ag ah) else (none)))) else (none))) else (none)) = some r := hrp bR H
 have cR := am bR
 clear bR
 cases db
 ·rw [if_neg Bool.false_ne_true] at H
  exact absurd H (by simp)
 rw [if_pos rfl] at H
 replace H := bnd H
 obtain ⟨bU, eq, H⟩ := H
 (try dsimp only at H)
 cases bU
 ·rw [if_neg Bool.false_ne_true] at H
  exact absurd H (by simp)
 rw [if_pos rfl] at H
 replace H := bnd H
 obtain ⟨bE, er, H⟩ := H
 (try dsimp only at H)
 replace H := bnd H
 obtain ⟨bV, es, H⟩ := H
 (try dsimp only at H)
 cases bV
 ·rw [if_neg Bool.false_ne_true] at H
  exact absurd H (by simp)
 rw [if_pos rfl] at H
 have H' := am H
 clear H
 try go_wp2
 replace ae := am (Kd.N_drew ae.1)
 replace aa := am (blk_drew aa.1)
 replace aj := am (Kd.C_drew aj.1)
 replace HB := am (below_drew1 HB.1)
 have b5 : 0 ≤ (((rd_T48 ab ac).f0) : Int) := dq
 have b9 : ((rd_T48 ab ac).f0) < (ab.length : Int) := dq
 obtain ⟨cS, bF, bL, dN, bv, bw, a4, bx, bp, bk⟩ := at_T48 (Kd.N_reads' ae.1).2.2 ((rd_T48 ab ac).f0) b5 b9
 obtain rfl : af = cS := (by injection dN)
 obtain ⟨ej, cC, cx, bN⟩ := Kd.N_get ae.1 z48 ((rd_T48 ab ac).f0) b5 (by first | exact b9 | exact dq | (have e_ := (Kd.N_reads' ae.1).1; omega))
 obtain ⟨du, dz, rfl, a7, aX⟩ := k48_openF cx
 have aD := bN 2 _ rfl
 rw [add_field _ _ 2 (by omega)] at aD
 replace aD := Option.some.inj (aD.symm.trans a4)
 injection aD with hva_ hvn_ hvc_
 rw [hva_] at aX
 rw [hvc_] at a7
 have al := am (show Kd.V (Kd.int .i64) 3 _ w.heap.size _ _ ((rd_T48 ab ((rd_T48 ab ac).f0)).f2) from Kd.V_mk a7 aX)
 clear hva_ hvn_ hvc_ aX a7 bN cC
 have au := am bk
 have bX := am bp
 clear bk bp
 replace b5 := eq_true b5
 replace b9 := eq_true b9
 have b6 : 0 ≤ (ac : Int) := dq
 have ca : ac < (ab.length : Int) := dq
 obtain ⟨cT, cp, cv, dO, bz, bA, a5, bB, bq, bl⟩ := at_T48 (Kd.N_reads' ae.1).2.2 ac b6 ca
 obtain rfl : af = cT := (by injection dO)
 obtain ⟨ek, cD, cy, bO⟩ := Kd.N_get ae.1 z48 ac b6 (by first | exact ca | exact dq | (have e_ := (Kd.N_reads' ae.1).1; omega))
 obtain ⟨dv, dA, rfl, a8, aY⟩ := k48_openF cy
 have aE := bO 2 _ rfl
 rw [add_field _ _ 2 (by omega)] at aE
 replace aE := Option.some.inj (aE.symm.trans a5)
 injection aE with hva_ hvn_ hvc_
 rw [hva_] at aY
 rw [hvc_] at a8
 have ao := am (show Kd.V (Kd.int .i64) 3 _ w.heap.size _ _ ((rd_T48 ab ac).f2) from Kd.V_mk a8 aY)
 clear hva_ hvn_ hvc_ aY a8 bO cD
 have ay := am bl
 have df := am bq
 clear bl bq
 replace b6 := eq_true b6
 replace ca := eq_true ca
 refine start_ (n := 17) (S := fun w' => w'.cell? ⟨ai, 0, none⟩ = some (.string ak) ∧ w'.cell? ⟨ai, 1, none⟩ = some (.slice aI ag.length aK) ∧ w'.cell? ⟨ai, 2, none⟩ = some (.slice aJ ah.length aM) ∧ w'.cell? (af.add ((((rd_T48 ab ac).f0)).toNat * 4)) = some (.int .i64 ((rd_T48 ab ((rd_T48 ab ac).f0)).f0)) ∧ w'.cell? ⟨(af.add ((((rd_T48 ab ac).f0)).toNat * 4)).block, (af.add ((((rd_T48 ab ac).f0)).toNat * 4)).off + 1, none⟩ = some (.int .i64 ((rd_T48 ab ((rd_T48 ab ac).f0)).f1)) ∧ w'.cell? ⟨(af.add ((((rd_T48 ab ac).f0)).toNat * 4)).block, (af.add ((((rd_T48 ab ac).f0)).toNat * 4)).off + 2, none⟩ = some (.slice bF ((rd_T48 ab ((rd_T48 ab ac).f0)).f2).length bL) ∧ w'.cell? ⟨(af.add ((((rd_T48 ab ac).f0)).toNat * 4)).block, (af.add ((((rd_T48 ab ac).f0)).toNat * 4)).off + 3, none⟩ = some (.bool ((rd_T48 ab ((rd_T48 ab ac).f0)).f3)) ∧ w'.cell? (af.add ((ac).toNat * 4)) = some (.int .i64 ((rd_T48 ab ac).f0)) ∧ w'.cell? ⟨(af.add ((ac).toNat * 4)).block, (af.add ((ac).toNat * 4)).off + 1, none⟩ = some (.int .i64 ((rd_T48 ab ac).f1)) ∧ w'.cell? ⟨(af.add ((ac).toNat * 4)).block, (af.add ((ac).toNat * 4)).off + 2, none⟩ = some (.slice cp ((rd_T48 ab ac).f2).length cv) ∧ w'.cell? ⟨(af.add ((ac).toNat * 4)).block, (af.add ((ac).toNat * 4)).off + 3, none⟩ = some (.bool ((rd_T48 ab ac).f3))) (ds := []) #[false, false, false, false, false, false, false, false, false, false, false, false, false, false, false, false, false] (by kernel_rfl) rfl rfl ⟨(blk_cell aa.1 0).trans rfl, (blk_cell aa.1 1).trans rfl, (blk_cell aa.1 2).trans rfl, bv, bw, a4, bx, bz, bA, a5, bB⟩ (fun hHeld => ?_); refine with_tabW petrinetlaw22_KarpmillerPaths.tab14 petrinetlaw22_KarpmillerPaths.bits14 (fun HT_ HW_ => ?_)
 generalize wc.drew = e0 at ae aa aj HB al ao au ay bv bw a4 bx bz bA a5 bB hHeld ⊢
 refine pu HT_.1 1 58 ?_
 refine pu HT_.1 2 59 ?_
 refine pu HT_.1 3 60 ?_
 refine pu HT_.1 4 61 ?_
 refine pu HT_.1 6 63 ?_
 refine pu HT_.1 7 64 ?_
 refine pu HT_.1 8 65 ?_
 refine pu HT_.1 9 66 ?_
 refine tk HT_.1 HW_.1 hHeld 0 57 ?_
 refine tk HT_.1 HW_.1 hHeld 5 62 ?_
 refine tk HT_.1 HW_.1 hHeld 10 67 ?_
 refine on HT_.1 11 (some 68) rfl fun K hK => ?_
 refine goes_ Try.func12 (by kernel_rfl) rfl #[.agg #[.string ak, .slice aI ag.length aK, .slice aJ ah.length aM], .slice bF ((rd_T48 ab ((rd_T48 ab ac).f0)).f2).length bL, .int .i64 ((rd_T48 ab ac).f1)] (by rfl) rfl rfl pgz ?_
 with_reducible refine (karpmiller_Fire.calls aN ak _ _ ag _ _ ah _ _ ((rd_T48 ab ((rd_T48 ab ac).f0)).f2) ((rd_T48 ab ac).f1) cK true _ ?side1 ?side2 ?side3 ?side4 ?side5 ?side6 eo.1).mono ?_
 (case side1 => exact csb aU HB)
 (case side2 => exact aQ.1)
 (case side3 => exact csb aV HB)
 (case side4 => exact aR.1)
 (case side5 => repeat (first | exact (by repeat (first | (with_reducible exact au.1) | (with_reducible refine Kd.C_alloc ?_ _) | (with_reducible refine Kd.C_drewN ?_ _) | (with_reducible refine Kd.C_drew ?_) | exact au.1)) | (with_reducible refine Kd.C_alloc ?_ _) | (with_reducible refine Kd.C_drewN ?_ _) | (with_reducible refine Kd.C_drew ?_)))
 (case side6 => exact bX.1)
 rintro e e4 ⟨bW, rfl, aw, hb⟩
 have HS3_ := (hb.cell (World.block_lt_of_cell? _ _ (hHeld.2.2.2.1))).trans (hHeld.2.2.2.1)
 have HS4_ := (hb.cell (World.block_lt_of_cell? _ _ (hHeld.2.2.2.2.1))).trans (hHeld.2.2.2.2.1)
 have HS5_ := (hb.cell (World.block_lt_of_cell? _ _ (hHeld.2.2.2.2.2.1))).trans (hHeld.2.2.2.2.2.1)
 have HS6_ := (hb.cell (World.block_lt_of_cell? _ _ (hHeld.2.2.2.2.2.2.1))).trans (hHeld.2.2.2.2.2.2.1)
 have HS7_ := (hb.cell (World.block_lt_of_cell? _ _ (hHeld.2.2.2.2.2.2.2.1))).trans (hHeld.2.2.2.2.2.2.2.1)
 have HS8_ := (hb.cell (World.block_lt_of_cell? _ _ (hHeld.2.2.2.2.2.2.2.2.1))).trans (hHeld.2.2.2.2.2.2.2.2.1)
 have HS9_ := (hb.cell (World.block_lt_of_cell? _ _ (hHeld.2.2.2.2.2.2.2.2.2.1))).trans (hHeld.2.2.2.2.2.2.2.2.2.1)
 have HS10_ := (hb.cell (World.block_lt_of_cell? _ _ (hHeld.2.2.2.2.2.2.2.2.2.2))).trans (hHeld.2.2.2.2.2.2.2.2.2.2)
 refine ⟨_, rfl, ?_⟩
 have av := am (Kd.R_lower aw (below_size pbg))
 replace ae := am (Kd.N_elder' (pkn ae.1) (Kd.R_base aw) hb)
 replace al := am (Kd.V_elder' (pkv al.1) (Kd.R_base aw) hb)
 replace ao := am (Kd.V_elder' (pkv ao.1) (Kd.R_base aw) hb)
 replace aa := bbh aa hb
 replace aj := cbb aj hb
 replace au := cbb au hb
 replace ay := cbb ay hb
 replace HB := bst hb
 (try clear hb)
 (try clear eU)
 (try clear hk)
 (try clear hi)
 (try clear aw)
 refine hK.out _ _ ⟨(blk_cell aa.1 0).trans rfl, (blk_cell aa.1 1).trans rfl, (blk_cell aa.1 2).trans rfl, HS3_, HS4_, HS5_, HS6_, HS7_, HS8_, HS9_, HS10_⟩ (fun hHeld => ?_)
 clear hK K
 refine nm_ 68 ?_
 refine pu HT_.1 12 56 ?_
 refine pu HT_.1 13 69 ?_
 refine pu HT_.1 14 70 ?_
 refine pu HT_.1 15 8 ?_
 refine pu HT_.1 16 9 ?_
 refine done_ (done_of HT_.1 (by kernel_rfl)) ?_
 try go_wp2_with (first | ((with_reducible refine gate_callee (f := 31) rfl ?_); refine gC 73 Try.func31 _ (karpmiller_Path.calls aN _ _ ab ((rd_T48 ab ac).f0) bD _ (csd ((Kd.N_reads' ae.1).2.2)) ((Kd.N_reads' ae.1).2.1) ep.1) ?_; rintro e e5 ⟨d3, rfl, aw, hb⟩; refine ⟨_, rfl, ?_⟩; have bG := am (Kd.R_lower (Kd.R_new' aw (Kd.R_lt (pkr av.1))) (below_size pbg)); replace ae := am (Kd.N_elder' (pkn ae.1) (Kd.R_base aw) hb); replace al := am (Kd.V_elder' (pkv al.1) (Kd.R_base aw) hb); replace ao := am (Kd.V_elder' (pkv ao.1) (Kd.R_base aw) hb); replace av := am (Kd.R_elder' (pkr av.1) (Kd.R_base aw) hb); replace aa := bbh aa hb; replace aj := cbb aj hb; replace au := cbb au hb; replace ay := cbb ay hb; replace HB := bst hb; (try clear hb); (try clear aw); have b7 : 0 ≤ (ac : Int) := dq; have cb : ac < (ab.length : Int) := dq; obtain ⟨cU, dE, dK, dP, dk, dl, b3, dm, br, bm⟩ := at_T48 (Kd.N_reads' ae.1).2.2 ac b7 cb; obtain rfl : af = cU := (by injection dP); obtain ⟨el, cE, cz, bP⟩ := Kd.N_get ae.1 z48 ac b7 (by first | exact cb | exact dq | (have e_ := (Kd.N_reads' ae.1).1; omega)); obtain ⟨dw, dB, rfl, a9, aZ⟩ := k48_openF cz; have aG := bP 2 _ rfl; rw [add_field _ _ 2 (by omega)] at aG; replace aG := Option.some.inj (aG.symm.trans b3); injection aG with hva_ hvn_ hvc_; rw [hva_] at aZ; rw [hvc_] at a9; have az := am (show Kd.V (Kd.int .i64) 3 _ w.heap.size _ _ ((rd_T48 ab ac).f2) from Kd.V_mk a9 aZ); clear hva_ hvn_ hvc_ aZ a9; clear bP cE; have dj := am bm; have dg := am br; clear bm br; replace b7 := eq_true b7; replace cb := eq_true cb) | ((with_reducible refine gate_builtin (b := .append) (xs := #[.tmp 74, .tmp 80]) rfl ?_); (try (refine gate_guard (by rfl) ?_; dsimp only)); at_builtin; refine Kd.R_append (Kd.int .i64) (w0 := w) w.heap.size rfl (.tmp 74) (.tmp 80) 26 3 (.int .i64 0) 8 rfl Try.underlying26 info3 rfl (by decide) (by omega) d3 bD ((rd_T48 ab ac).f1) [.int .i64 ((rd_T48 ab ac).f1)] (fun k_ => some k_ ≠ (bW : Value).ownBlock) (fun _ => False) rfl rfl ?aP (fun _ hk => hk.elim) ?aF ?aO ?aB ?aS ?aL ?_; (case aP => exact rfl); (case aB => exact pbg); (case aF => exact (fun k_ hk => Kd.fresh' (Kd.R_lt (pkr av.1)) k_ hk)); (case aO => exact (by (with_reducible repeat (first | apply Kd.R_alloc | apply Kd.R_drewN | apply Kd.R_drew)); exact Kd.R_mono bG.1 (fun _ hk => hk.2))); (case aS => exact (below_size pbg)); (case aL => have := cQ.1; omega); intro eO e6 ho hb hg hat; rw [← cR.1] at ho; have aT := am ho; replace ae := am (Kd.N_afterv (ok := (fun k_ => some k_ ≠ (bW : Value).ownBlock ∧ k_ ≠ ai)) (by (with_reducible repeat (first | apply Kd.N_alloc | apply Kd.N_drewN | apply Kd.N_drew)); exact Kd.N_mono ae.1 (fun _ hk => ⟨⟨hk.1.2, hk.1.1⟩, hk.2⟩)) hg hat); replace aa := (bgr aa hg (Kd.R_ne bG.1 aa.1 (by decide))); replace al := am (Kd.V_afterv (ok := (fun k_ => some k_ ≠ (.slice (some af) ab.length bZ : Value).ownBlock ∧ some k_ ≠ (bW : Value).ownBlock ∧ k_ ≠ ai)) (by (with_reducible repeat (first | apply Kd.V_alloc | apply Kd.V_drewN | apply Kd.V_drew)); exact Kd.V_mono al.1 (fun _ hk => ⟨⟨hk.1.1.2, ⟨hk.1.2, hk.1.1.1⟩⟩, hk.2⟩)) hg hat); replace ao := am (Kd.V_afterv (ok := (fun k_ => some k_ ≠ (.slice (some af) ab.length bZ : Value).ownBlock ∧ some k_ ≠ (bW : Value).ownBlock ∧ k_ ≠ ai)) (by (with_reducible repeat (first | apply Kd.V_alloc | apply Kd.V_drewN | apply Kd.V_drew)); exact Kd.V_mono ao.1 (fun _ hk => ⟨⟨hk.1.1.2, ⟨hk.1.2, hk.1.1.1⟩⟩, hk.2⟩)) hg hat); replace av := am (Kd.R_after (ok := (fun _ => True)) (pkr av.1) hg hat); replace az := am (Kd.V_afterv (ok := (fun k_ => some k_ ≠ (.slice (some af) ab.length bZ : Value).ownBlock ∧ some k_ ≠ (bW : Value).ownBlock ∧ k_ ≠ ai)) (by (with_reducible repeat (first | apply Kd.V_alloc | apply Kd.V_drewN | apply Kd.V_drew)); exact Kd.V_mono az.1 (fun _ hk => ⟨⟨hk.2, ⟨hk.1.1.2, hk.1.1.1⟩⟩, hk.1.2⟩)) hg hat); replace HB := am hb; clear bG; clear ho hb hg hat; have b8 : 0 ≤ (ac : Int) := dq; have cd : ac < (ab.length : Int) := dq; obtain ⟨cV, dF, dL, dQ, dn, dp, b4, dr, bs, bn⟩ := at_T48 (Kd.N_reads' ae.1).2.2 ac b8 cd; obtain rfl : af = cV := (by injection dQ); obtain ⟨em, cF, cA, bQ⟩ := Kd.N_get ae.1 z48 ac b8 (by first | exact cd | exact dq | (have e_ := (Kd.N_reads' ae.1).1; omega)); obtain ⟨dx, dC, rfl, ba, a3⟩ := k48_openF cA; have aH := bQ 2 _ rfl; rw [add_field _ _ 2 (by omega)] at aH; replace aH := Option.some.inj (aH.symm.trans b4); injection aH with hva_ hvn_ hvc_; rw [hva_] at a3; rw [hvc_] at ba; have bf := am (show Kd.V (Kd.int .i64) 3 _ w.heap.size _ _ ((rd_T48 ab ac).f2) from Kd.V_mk ba a3); clear hva_ hvn_ hvc_ a3 ba; clear bQ cF; have aA := am bn; have bY := am bs; clear bn bs; replace b8 := eq_true b8; replace cd := eq_true cd; obtain ⟨ey, eF, dV⟩ := Kd.R_slice av.1; subst dV) | (go_at_call 34; (with_reducible refine (r05_Leq.calls aN _ _ cK _ _ ((rd_T48 ab ac).f2) true _ ?side1 ?side2 ?side3 ?side4 eq.1).mono ?_); (case side1 => exact csd ((Kd.R_reads' av.1).2.2)); (case side2 => exact (Kd.R_reads' av.1).2.1); (case side3 => repeat (first | exact (by repeat (first | (with_reducible exact aA.1) | (with_reducible refine Kd.C_alloc ?_ _) | (with_reducible refine Kd.C_drewN ?_ _) | (with_reducible refine Kd.C_drew ?_) | exact aA.1)) | (with_reducible refine Kd.C_alloc ?_ _) | (with_reducible refine Kd.C_drewN ?_ _) | (with_reducible refine Kd.C_drew ?_))); (case side4 => exact bY.1); rintro e w' ⟨rfl, ⟨nd, rfl⟩⟩) | (go_at_call 31; (with_reducible refine (karpmiller_Path.calls aN _ _ ab ac bE _ ?side1 ?side2 er.1).mono ?_); (case side1 => exact csd ((Kd.N_reads' ae.1).2.2)); (case side2 => exact (Kd.N_reads' ae.1).2.1); rintro e e7 ⟨eP, rfl, aw, hb⟩; have bH := am (Kd.R_lower (Kd.R_new' (Kd.R_new' aw (Kd.R_lt (pkr av.1))) (Kd.R_lt (pkr aT.1))) (below_size pbg)); replace ae := am (Kd.N_elder' (pkn ae.1) (Kd.R_base aw) hb); replace al := am (Kd.V_elder' (pkv al.1) (Kd.R_base aw) hb); replace ao := am (Kd.V_elder' (pkv ao.1) (Kd.R_base aw) hb); replace av := am (Kd.R_elder' (pkr av.1) (Kd.R_base aw) hb); replace az := am (Kd.V_elder' (pkv az.1) (Kd.R_base aw) hb); replace aT := am (Kd.R_elder' (pkr aT.1) (Kd.R_base aw) hb); replace bf := am (Kd.V_elder' (pkv bf.1) (Kd.R_base aw) hb); replace aa := bbh aa hb; replace aA := cbb aA hb; replace HB := bst hb; (try clear hb); (try clear aw); obtain ⟨ez, eG, dW⟩ := Kd.R_slice bH.1; subst dW; obtain ⟨eA, eH, dX⟩ := Kd.R_slice aT.1; subst dX) | (go_at_call 14; (with_reducible refine (r04_Same.calls aN _ _ bE _ _ dc true _ ?side1 ?side2 ?side3 ?side4 es.1).mono ?_); (case side1 => exact csd ((Kd.R_reads' bH.1).2.2)); (case side2 => exact (Kd.R_reads' bH.1).2.1); (case side3 => exact csd ((Kd.R_reads' aT.1).2.2)); (case side4 => exact (Kd.R_reads' aT.1).2.1); rintro e w' ⟨rfl, ⟨nd, rfl⟩⟩))
 go_roundg aN
 case measure => have := dh.1; have := cu.1; have := dH.1; have := cO.1; omega
 case rel => exact ⟨(wrap64 (ac + 1)), prs, H', ⟨by have := dh.1; have := cu.1; have := dH.1; have := cO.1; omega⟩, ⟨by (with_reducible repeat (first | apply Kd.N_alloc | apply Kd.N_drewN | apply Kd.N_drew)); exact Kd.N_mono ae.1 (fun _ hk => hk.1.1.2)⟩, ⟨pbk aa.1⟩, ⟨pbg⟩⟩

end Go.Proofs.Yteknagfpiadaiaa.P
