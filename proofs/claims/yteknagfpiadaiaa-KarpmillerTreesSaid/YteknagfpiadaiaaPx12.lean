-- LAID BY OUR PROGRAM OVER THE PRINT (xprint.py, part.py): Lean checks it.
import Derived.Test.YteknagfpiadaiaaPx0
import Derived.Test.YteknagfpiadaiaaPx3
import Derived.Test.YteknagfpiadaiaaPx4
import Derived.Test.YteknagfpiadaiaaPx8
import Derived.Test.YteknagfpiadaiaaPx11
namespace Go.Proofs.Yteknagfpiadaiaa.P
open Go.RowKit Go.Proofs.YteknagfpiadaiaaW.PrintWords Go.Proofs.YteknagfpiadaiaaW.PrintLast Go.Proofs.YteknagfpiadaiaaW.PrintMore
attribute [local go_sem] max2_int min2_int max_two min_two max_three min_three max_four min_four   -- for this text's walks alone
set_option linter.unusedVariables false
set_option linter.unusedSimpArgs false

/-! ### petrinetlaw22_slight: function 17 -/
def petrinetlaw22_slight.l0 : Nat → List (S57) → Int → ByteArray → List (S57) → List (S60) → Option (Bool)
 | 0, _, _, _, _, _ => none
 | k + 1, x3, x4, ap, af, aq => if x4 < (af.length : Int) then (if 0 ≤ x4 then (if x3.length < 4398046511104 then (petrinetlaw22_slight.l0 k (x3 ++ [(⟨(rd_T57 af x4).f0, 0, (rd_T57 af x4).f2⟩ : S57)]) (wrap64 (x4 + 1)) ap af aq) else (none)) else (none)) else ((r09_Light.f k ap x3 aq).bind fun aH => (some aH))
def petrinetlaw22_slight.f (k : Nat) (ah : ByteArray) (aa : List (S57)) (ae : List (S60)) : Option (Bool) := petrinetlaw22_slight.l0 k ([] : List (S57)) 0 ah aa ae
theorem petrinetlaw22_slight.mono_l : ∀ k, M5 petrinetlaw22_slight.l0 k
 | 0 => fun _ _ _ _ _ r h => by simp [petrinetlaw22_slight.l0] at h
 | k + 1 => by
  have a4 := petrinetlaw22_slight.mono_l k
  ·intro y0 y1 y2 y3 y4
   unfold petrinetlaw22_slight.l0
   repeat' first | (with_reducible first | apply a4 | apply r09_Light.mono | apply lr | apply ln | apply li | refine lb ?_ fun _ => ?_)
theorem petrinetlaw22_slight.mono : ∀ a0 a1 a2 k, LeO (petrinetlaw22_slight.f k a0 a1 a2) (petrinetlaw22_slight.f (k + 1) a0 a1 a2) := by
 intro a0 a1 a2 k
 have a4 := petrinetlaw22_slight.mono_l k
 unfold petrinetlaw22_slight.f
 repeat' first | (with_reducible first | apply a4 | apply r09_Light.mono | apply lr | apply ln | apply li | refine lb ?_ fun _ => ?_)
attribute [local go_sem] isc
set_option maxHeartbeats 8000000 in
set_option maxRecDepth 100000 in
theorem petrinetlaw22_slight.calls (k : Nat) (ah : ByteArray) (ax : Option Addr) (ay : Nat) (aa : List (S57)) (au : Option Addr) (av : Nat) (ae : List (S60)) (r : Bool) (w : World) (aD : Kd.C k57 w ax aa.length aa) (aA : aa.length ≤ ay) (aE : Kd.C k60 w au ae.length ae) (aC : ae.length ≤ av) (h : petrinetlaw22_slight.f k ah aa ae = some r) :
  Calls Try.prog 17 #[.agg #[.string ah, .slice ax aa.length ay, .slice au ae.length av]] w fun e w' => e = .returned (.bool r) ∧ Below w.heap.size w w' := by
 have bd := Try.underlying25
 have bf := Try.underlying57
 have aN := am aD
 have a7 := am aA
 clear aD aA
 have aQ := am aE
 have aK := am aC
 clear aE aC
 have HB := am (Below.refl w.heap.size w)
 have H := h
 unfold petrinetlaw22_slight.f at H
 clear h
 have H' := am H
 clear H
 go_enter Try.func17, Try.ntmps17
 go_wp2_with (first | ((with_reducible refine gate_dst (N := 1) rfl ?_); refine box_ev ?_; intro ao hg w2 hbox hb; have ab := am hbox; have aI := gwl hg; have a5 := aI; replace HB := bsl hb; clear hb hbox hg))
 go_loopg [3, 4] k (fun kq v3 v4 w' => ∃ (ai : List (S57)) (ac : Int), v4 = .int .i64 ac ∧ Aside0 (petrinetlaw22_slight.l0 kq ai ac ah aa ae = some r) ∧ Aside0 (kq ≤ k) ∧ Aside0 (Kd.R k57 57 w' w.heap.size (fun _ => True) v3 ai) ∧ Aside0 (w'.heap[ao]? = some (.cells #[.string ah, (.slice ax aa.length ay), (.slice au ae.length av)] 25 (0, 0))) ∧ Aside0 (Below w.heap.size w w'))
 case atStart => exact ⟨(([] : List (S57))), (0), prs, H', ⟨Nat.le_refl _⟩, ⟨knl⟩, ⟨pbk ab.1⟩, ⟨pbg⟩⟩
 clear H'
 obtain ⟨ai, ac, rfl, HA, a8, ag, ab, HB⟩ := hrel
 obtain _ | k1 := gk
 ·exact absurd HA.1 (by simp [petrinetlaw22_slight.l0])
 have H := HA.1
 clear HA
 simp only [petrinetlaw22_slight.l0] at H
 replace H := ifl H
 rcases H with ⟨aY, H⟩ | ⟨aY, H⟩
 rotate_left
 ·replace H := bnd H
  obtain ⟨aH, A11, H⟩ := H
  (try dsimp only at H)
  obtain rfl := Option.some.inj H
  have bl := cf3 ab.1
  obtain ⟨aG, az, a3⟩ := Kd.R_slice ag.1
  subst a3
  go_wp2_with (first | ((with_reducible refine gate_callee (f := 21) rfl ?_); refine gC 26 Try.func21 _ (r09_Light.calls k1 ah _ _ ai _ _ ae aH _ ?side1 ?side2 ?side3 ?side4 A11.1) ?_; (case side1 => refine (Kd.R_reads' (e := 57) (base := w.heap.size) (ok := fun k_ => True) (n := ai.length) (c := az) ?_).2.2; exact (by (with_reducible repeat (first | apply Kd.R_alloc | apply Kd.R_drewN | apply Kd.R_drew)); exact (Kd.R_mono (Kd.R_far (p := ⟨ao, 1, none⟩) (Kd.R_types ag.1 ab.1 (by decide)) (fun _ hk => hk.2) (.slice aG ai.length az)) (fun _ h_ => h_.1)))); (case side2 => exact (Kd.R_reads' ag.1).2.1); (case side3 => exact Kd.C_below aQ.1 pbg); (case side4 => exact aK.1); rintro e bk ⟨rfl, hb⟩; refine ⟨_, rfl, ?_⟩; replace ag := am (Kd.R_below (by (with_reducible repeat (first | apply Kd.R_alloc | apply Kd.R_drewN | apply Kd.R_drew)); exact (Kd.R_mono (Kd.R_far (p := ⟨ao, 1, none⟩) (Kd.R_types ag.1 ab.1 (by decide)) (fun _ hk => hk.2) (.slice aG ai.length az)) (fun _ h_ => h_.1))) hb); replace ab := am (blk_below (g := ao) (o := .cells #[.string ah, .slice aG ai.length az, .slice au ae.length av] 25 (0, 0)) (by (with_reducible repeat (first | refine blk_drewN ?_ _ | refine blk_drew ?_ | refine blk_alloc ?_ _)); refine blk_put (cs := #[.string ah, .slice ax aa.length ay, .slice au ae.length av]) ?_ 1 _ rfl; exact pbk ab.1) hb); replace HB := bst hb; (try clear hb); (try clear hk)))
  go_ret
  exact ⟨per, pbg⟩
 replace H := ifp H
 obtain ⟨c4, H⟩ := H
 have ba := decide_eq_true c4
 clear c4
 replace H := ifp H
 obtain ⟨c5, H⟩ := H
 have aX := am c5
 clear c5
 obtain ⟨aT, aw⟩ : ∃ y_ : List (S57), y_ = (ai ++ [(⟨(rd_T57 aa ac).f0, 0, (rd_T57 aa ac).f2⟩ : S57)]) := ⟨_, rfl⟩
 replace H : (petrinetlaw22_slight.l0 k1 aT (wrap64 (ac + 1)) ah aa ae) = some r := hrp aw H
 have aR := am aw
 clear aw
 have H' := am H
 clear H
 have z6 := cf3 ab.1
 obtain ⟨bg, bh, a9, aZ, aU, aV, aW⟩ := bT57 aN.1 HB.1 ac
 cases aZ
 go_wp2_with (first | ((with_reducible refine gate_dst (N := 5) rfl ?_); refine box_ev (N := 5) (cs := #[.string (⟨#[]⟩ : ByteArray), .int .i64 0, .int .i64 0]) (t := 57) ?_; intro ak hg w7 hbox hb; have al := am hbox; have aJ := gwb hg; have a6 := aJ; have aj := nlt hg ab; have ar := ngt hg ab; replace ag := am (Kd.R_below (Kd.R_elderB (pkr ag.1) ak (Nat.le_of_eq hg.symm)) hb); replace ab := bbh ab hb; replace HB := bst hb; clear hb hbox hg; have bb := ar.1; have bc := aj.1; have z9 := cf3 al.1) | ((with_reducible refine gate_builtin (b := .append) (xs := #[.tmp 19, .tmp 21]) rfl ?_); at_builtin; refine Kd.R_append k57 (w0 := w) w.heap.size rfl (.tmp 19) (.tmp 21) 22 57 (.agg #[(.string ⟨#[]⟩), (.int .i64 0), (.int .i64 0)]) 32 rfl Try.underlying22 info57 rfl (by decide) (by omega) u3 ai (⟨(rd_T57 aa ac).f0, 0, (rd_T57 aa ac).f2⟩ : S57) [.string ((rd_T57 aa ac).f0), .int .i64 0, .int .i64 ((rd_T57 aa ac).f2)] (fun k_ => k_ ≠ ak) (fun _ => False) rfl (by first | (go_simp; done) | (go_simp; rfl)) ?aP (fun _ hk => hk.elim) ?aF ?aO ?aB ?aS ?aL ?_; (case aP => exact k57_mkM _ _ _ (⟨(rd_T57 aa ac).f0, 0, (rd_T57 aa ac).f2⟩ : S57)); (case aB => exact pbg); (case aF => exact (fun k_ hk => Kd.freshB (g := ak) (o := .cells #[.string ((rd_T57 aa ac).f0), .int .i64 0, .int .i64 ((rd_T57 aa ac).f2)] 57 (0, 0)) (by (with_reducible repeat (first | refine blk_drewN ?_ _ | refine blk_drew ?_ | refine blk_alloc ?_ _)); refine blk_put (cs := #[.string ((rd_T57 aa ac).f0), .int .i64 ((rd_T57 aa ac).f1), .int .i64 ((rd_T57 aa ac).f2)]) ?_ 1 _ rfl; (with_reducible repeat (first | refine blk_drewN ?_ _ | refine blk_drew ?_ | refine blk_alloc ?_ _)); exact bp3 (pbk al.1)) k_ hk)); (case aO => exact (by (with_reducible repeat (first | apply Kd.R_alloc | apply Kd.R_drewN | apply Kd.R_drew)); exact Kd.R_mono (fR4 ak (Kd.R_mono ag.1 (fun k_ hk => (⟨hk, hk.2⟩ : _ ∧ k_ ≠ ak))) (fun _ hk => hk.2)) (fun _ hk => hk.1.2))); (case aS => exact (below_size pbg)); (case aL => have := aX.1; omega); intro bi bj ho hb hg hat; rw [← aR.1] at ho; have aM := am ho; replace ab := (bgx ab (fun h_ => by (with_reducible repeat (first | refine blk_drewN ?_ _ | refine blk_drew ?_ | refine blk_alloc ?_ _)); refine bf4 ?_ aj.1; exact pbk h_) hg (Kd.R_ne ag.1 ab.1 (by decide))); replace al := am (blk_grown (g := ak) (o := .cells #[.string ((rd_T57 aa ac).f0), .int .i64 0, .int .i64 ((rd_T57 aa ac).f2)] 57 (0, 0)) (by (with_reducible repeat (first | refine blk_drewN ?_ _ | refine blk_drew ?_ | refine blk_alloc ?_ _)); refine blk_put (cs := #[.string ((rd_T57 aa ac).f0), .int .i64 ((rd_T57 aa ac).f1), .int .i64 ((rd_T57 aa ac).f2)]) ?_ 1 _ rfl; (with_reducible repeat (first | refine blk_drewN ?_ _ | refine blk_drew ?_ | refine blk_alloc ?_ _)); exact bp3 (pbk al.1)) hg (Kd.R_away ag.1 (fun _ hk => hk.2))); replace HB := am hb; clear ag; clear ho hb hg hat))
 go_roundg k1
 case measure => have := a8.1; omega
 case rel => exact ⟨(aT), (wrap64 (ac + 1)), prs, H', ⟨by have := a8.1; omega⟩, ⟨by (with_reducible repeat (first | apply Kd.R_alloc | apply Kd.R_drewN | apply Kd.R_drew)); exact Kd.R_mono aM.1 (fun _ hk => trivial)⟩, ⟨pbk ab.1⟩, ⟨pbg⟩⟩

/-! ### petrinetlaw22_KarpmillerTrees: function 4 -/
def petrinetlaw22_KarpmillerTrees.j0 : Nat → Int → Bool → ByteArray → List (S57) → List (S60) → Option (Bool)
 | 0, _, _, _, _, _ => none
 | k + 1, x1, bl, ap, aq, ar => if bl = true then ((petrinetlaw22_alive.f k).bind fun aG => (some aG)) else ((karpmiller_Tree.f k ap aq ar x1).bind fun ax => ((r22_Tree.f k ap aq ar x1).bind fun ay => ((r22_Same.f k ax.1 ay.1).bind fun aL => (if aL = true then (if (ax.2.1 == ay.2.1) = true then (if ax.2.2 = ay.2.2 then ((petrinetlaw22_alive.f k).bind fun aM => (some aM)) else (none)) else (none)) else (none)))))
def petrinetlaw22_KarpmillerTrees.f (k : Nat) (ae : ByteArray) (ab : List (S57)) (ac : List (S60)) (a1 : Int) : Option (Bool) := (petrinetlaw22_slight.f k ae ab ac).bind fun aF => (if aF = true then (if a1 > 300 then (petrinetlaw22_KarpmillerTrees.j0 k a1 (decide (a1 ≤ 20000)) ae ab ac) else (petrinetlaw22_KarpmillerTrees.j0 k a1 false ae ab ac)) else (petrinetlaw22_KarpmillerTrees.j0 k a1 true ae ab ac))
theorem petrinetlaw22_KarpmillerTrees.mono_l : ∀ k, M5 petrinetlaw22_KarpmillerTrees.j0 k
 | 0 => fun _ _ _ _ _ r h => by simp [petrinetlaw22_KarpmillerTrees.j0] at h
 | k + 1 => by
  have aX := petrinetlaw22_KarpmillerTrees.mono_l k
  ·intro y0 y1 y2 y3 y4
   unfold petrinetlaw22_KarpmillerTrees.j0
   repeat' first | (with_reducible first | apply aX | apply karpmiller_Tree.mono | apply petrinetlaw22_alive.mono | apply petrinetlaw22_slight.mono | apply r22_Same.mono | apply r22_Tree.mono | apply lr | apply ln | apply li | refine lb ?_ fun _ => ?_)
theorem petrinetlaw22_KarpmillerTrees.mono : ∀ a0 a1 a2 a3 k, LeO (petrinetlaw22_KarpmillerTrees.f k a0 a1 a2 a3) (petrinetlaw22_KarpmillerTrees.f (k + 1) a0 a1 a2 a3) := by
 intro a0 a1 a2 a3 k
 have aX := petrinetlaw22_KarpmillerTrees.mono_l k
 unfold petrinetlaw22_KarpmillerTrees.f
 repeat' first | (with_reducible first | apply aX | apply karpmiller_Tree.mono | apply petrinetlaw22_alive.mono | apply petrinetlaw22_slight.mono | apply r22_Same.mono | apply r22_Tree.mono | apply lr | apply ln | apply li | refine lb ?_ fun _ => ?_)
set_option maxHeartbeats 8000000 in
set_option maxRecDepth 100000 in
theorem petrinetlaw22_KarpmillerTrees.calls (k : Nat) (ae : ByteArray) (av : Option Addr) (az : Nat) (ab : List (S57)) (aw : Option Addr) (aA : Nat) (ac : List (S60)) (a1 : Int) (r : Bool) (w : World) (aD : Kd.C k57 w av ab.length ab) (aB : ab.length ≤ az) (aE : Kd.C k60 w aw ac.length ac) (aC : ac.length ≤ aA) (h : petrinetlaw22_KarpmillerTrees.f k ae ab ac a1 = some r) :
  Calls Try.prog 4 #[.agg #[.string ae, .slice av ab.length az, .slice aw ac.length aA], .int .i64 a1] w fun e w' => e = .returned (.bool r) ∧ Below w.heap.size w w' := by
 have bi := Try.underlying25
 have aj := am aD
 have ah := am aB
 clear aD aB
 have ak := am aE
 have ai := am aC
 clear aE aC
 have HB := am (Below.refl w.heap.size w)
 have H := h
 unfold petrinetlaw22_KarpmillerTrees.f at H
 clear h
 have aT := am H
 clear H
 go_enter Try.func4, Try.ntmps4
 go_upto_region 1 with (first | ((with_reducible refine gate_dst (N := 2) rfl ?_); refine box_ev ?_; intro al hg w4 hbox hb; have aa := am hbox; have aO := gwl hg; have aZ := aO; replace HB := bsl hb; clear hb hbox hg))
 (try simp only [Act.put, List.setIfInBounds_toArray, List.set_cons_zero, List.set_cons_succ])
 go_cut [21] (fun bj wc => ∃ (kq : Nat) (ao : Bool), bj = .bool ao ∧ Aside0 (petrinetlaw22_KarpmillerTrees.j0 kq a1 ao ae ab ac = some r) ∧ Aside0 (kq ≤ k) ∧ Aside0 (wc.heap[al]? = some (.cells #[.string ae, (.slice av ab.length az), (.slice aw ac.length aA)] 25 (0, 0))) ∧ Aside0 (Below w.heap.size w wc))
 case first =>
  have H := aT.1
  clear aT
  replace H := bnd H
  obtain ⟨aF, A5, H⟩ := H
  (try dsimp only at H)
  cases aF
  ·rw [if_neg Bool.false_ne_true] at H
   have H' := am H
   clear H
   have bn := cf3 aa.1
   go_wp2_with (first | ((with_reducible refine gate_callee (f := 17) rfl ?_); refine gC 12 Try.func17 _ (petrinetlaw22_slight.calls k ae _ _ ab _ _ ac false _ (csb aj HB) ah.1 (csb ak HB) ai.1 A5.1) ?_; rintro e bq ⟨rfl, hb⟩; refine ⟨_, rfl, ?_⟩; replace aa := bbh aa hb; replace HB := bst hb; (try clear hb)))
   go_meet
   case rel => exact ⟨_, (true), prs, H', ⟨by first | omega | exact Nat.le_refl _⟩, ⟨pbk aa.1⟩, ⟨pbg⟩⟩
  rw [if_pos rfl] at H
  replace H := ifg H
  rcases H with ⟨au, H⟩ | ⟨au, H⟩
  rotate_left
  ·(first | rw [au] | (simp only [i64_w, i32_w]; rw [au]) | skip)
   have H' := am H
   clear H
   have bm := cf3 aa.1
   go_wp2_with (first | ((with_reducible refine gate_callee (f := 17) rfl ?_); refine gC 12 Try.func17 _ (petrinetlaw22_slight.calls k ae _ _ ab _ _ ac true _ (csb aj HB) ah.1 (csb ak HB) ai.1 A5.1) ?_; rintro e bp ⟨rfl, hb⟩; refine ⟨_, rfl, ?_⟩; replace aa := bbh aa hb; replace HB := bst hb; (try clear hb)))
   go_meet
   case rel => exact ⟨_, (false), prs, H', ⟨by first | omega | exact Nat.le_refl _⟩, ⟨pbk aa.1⟩, ⟨pbg⟩⟩
  (first | rw [au] | (simp only [i64_w, i32_w]; rw [au]) | skip)
  have H' := am H
  clear H
  have z8 := cf3 aa.1
  go_wp2_with (first | ((with_reducible refine gate_callee (f := 17) rfl ?_); refine gC 12 Try.func17 _ (petrinetlaw22_slight.calls k ae _ _ ab _ _ ac true _ (csb aj HB) ah.1 (csb ak HB) ai.1 A5.1) ?_; rintro e w9 ⟨rfl, hb⟩; refine ⟨_, rfl, ?_⟩; replace aa := bbh aa hb; replace HB := bst hb; (try clear hb)))
  go_meet
  case rel => exact ⟨_, (decide (a1 ≤ 20000)), prs, H', ⟨by first | omega | exact Nat.le_refl _⟩, ⟨pbk aa.1⟩, ⟨pbg⟩⟩
 clear aT
 try clear c6 c7 au bm bn z8
 obtain ⟨kq, ao, rfl, HA, bo, aa, HB⟩ := hcut
 obtain _ | aP := kq
 ·exact absurd HA.1 (by simp [petrinetlaw22_KarpmillerTrees.j0])
 have H := HA.1
 clear HA
 simp only [petrinetlaw22_KarpmillerTrees.j0] at H
 cases ao
 rotate_left
 ·rw [if_pos rfl] at H
  replace H := bnd H
  obtain ⟨aG, A15, H⟩ := H
  (try dsimp only at H)
  obtain rfl := Option.some.inj H
  go_wp2_with (first | ((with_reducible refine gate_callee (f := 11) rfl ?_); refine gC 22 Try.func11 _ (petrinetlaw22_alive.calls aP  aG _ A15.1) ?_; rintro e br ⟨rfl, hb⟩; refine ⟨_, rfl, ?_⟩; replace aa := bbh aa hb; replace HB := bst hb; (try clear hb)))
  go_ret
  exact ⟨per, pbg⟩
 rw [if_neg Bool.false_ne_true] at H
 replace H := bnd H
 obtain ⟨⟨aQ, aH, aI⟩, a9, H⟩ := H
 (try dsimp only at H)
 replace H := bnd H
 obtain ⟨⟨aR, aJ, aK⟩, ba, H⟩ := H
 (try dsimp only at H)
 replace H := bnd H
 obtain ⟨aL, bb, H⟩ := H
 (try dsimp only at H)
 cases aL
 ·rw [if_neg Bool.false_ne_true] at H
  exact absurd H (by simp)
 rw [if_pos rfl] at H
 replace H := ifp H
 obtain ⟨aS, H⟩ := H
 have a4 := aS
 (try (have a5 : decide (aH = aJ) = true := by simpa using aS))
 (try (have a6 : (aH == aJ) = true := by simpa using aS))
 clear aS
 replace H := ifp H
 obtain ⟨aU, H⟩ := H
 have a7 : (aI == aK) = true := beq_iff_eq.mpr aU
 have a8 : (aI != aK) = false := bne_eq_false_iff_eq.mpr aU
 clear aU
 replace H := bnd H
 obtain ⟨aM, bc, H⟩ := H
 (try dsimp only at H)
 obtain rfl := Option.some.inj H
 have bx := cf3 aa.1
 go_wp2_with (first | ((with_reducible refine gate_callee (f := 18) rfl ?_); refine gC 26 Try.func18 _ (karpmiller_Tree.calls aP ae _ _ ab _ _ ac a1 aQ aH aI _ (csb aj HB) ah.1 (csb ak HB) ai.1 a9.1) ?_; rintro e bs ⟨aY, rfl, aN, hb⟩; refine ⟨_, rfl, ?_⟩; have af := am (Kd.N_lower (Kd.N_mono (ok' := fun k_ => k_ ≠ al) aN (fun k_ hk_ => (Kd.freshB (g := al) (o := .cells #[.string ae, .slice av ab.length az, .slice aw ac.length aA] 25 (0, 0)) (by exact pbk aa.1) k_ hk_))) (below_size pbg)); replace aa := bbh aa hb; replace HB := bst hb; (try clear hb); (try clear aN); have bz := cf3 aa.1) | ((with_reducible refine gate_callee (f := 19) rfl ?_); refine gC 33 Try.func19 _ (r22_Tree.calls aP ae _ _ ab _ _ ac a1 aR aJ aK _ (csb aj HB) ah.1 (csb ak HB) ai.1 ba.1) ?_; rintro e bu ⟨bk, rfl, aN, hb⟩; refine ⟨_, rfl, ?_⟩; have ag := am (Kd.N_lower (Kd.N_mono (ok' := fun k_ => some k_ ≠ (aY : Value).ownBlock ∧ k_ ≠ al) aN (fun k_ hk_ => ⟨(Kd.fresh' (Kd.N_lt (pkn af.1)) k_ hk_), (Kd.freshB (g := al) (o := .cells #[.string ae, .slice av ab.length az, .slice aw ac.length aA] 25 (0, 0)) (by exact pbk aa.1) k_ hk_)⟩)) (below_size pbg)); replace af := am (Kd.N_elder' (pkn af.1) (Kd.N_base aN) hb); replace aa := bbh aa hb; replace HB := bst hb; (try clear hb); (try clear aN); obtain ⟨bd, bg, aV⟩ := Kd.N_slice af.1; subst aV; obtain ⟨bf, bh, aW⟩ := Kd.N_slice ag.1; subst aW) | ((with_reducible refine gate_callee (f := 20) rfl ?_); refine gC 39 Try.func20 _ (r22_Same.calls aP _ _ aQ _ _ aR true _ (csd ((Kd.N_reads' af.1).2.2)) ((Kd.N_reads' af.1).2.1) (csd ((Kd.N_reads' ag.1).2.2)) ((Kd.N_reads' ag.1).2.1) bb.1) ?_; rintro e bv ⟨rfl, hb⟩; refine ⟨_, rfl, ?_⟩; replace af := nbw af hb; replace ag := nbw ag hb; replace aa := bbh aa hb; replace HB := bst hb; (try clear hb)) | (go_at_call 11; (with_reducible refine (petrinetlaw22_alive.calls aP  aM _ bc.1).mono ?_); rintro e bw ⟨rfl, hb⟩; replace af := nbw af hb; replace ag := nbw ag hb; replace aa := bbh aa hb; replace HB := bst hb; (try clear hb)))
 go_ret
 exact ⟨per, pbg⟩

end Go.Proofs.Yteknagfpiadaiaa.P
