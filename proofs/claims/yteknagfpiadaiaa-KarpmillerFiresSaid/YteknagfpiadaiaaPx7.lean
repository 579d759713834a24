-- LAID BY OUR PROGRAM OVER THE PRINT (xprint.py, part.py): Lean checks it.
import Derived.Test.YteknagfpiadaiaaPx0
import Derived.Test.YteknagfpiadaiaaPx1
import Derived.Test.YteknagfpiadaiaaPx2
import Derived.Test.YteknagfpiadaiaaPx3
import Derived.Test.YteknagfpiadaiaaPx4
import Derived.Test.YteknagfpiadaiaaPx6
namespace Go.Proofs.Yteknagfpiadaiaa.P
open Go.RowKit Go.Proofs.YteknagfpiadaiaaW.PrintWords Go.Proofs.YteknagfpiadaiaaW.PrintLast Go.Proofs.YteknagfpiadaiaaW.PrintMore
attribute [local go_sem] max2_int min2_int max_two min_two max_three min_three max_four min_four   -- for this text's walks alone
set_option linter.unusedVariables false
set_option linter.unusedSimpArgs false

/-! ### petrinetlaw22_KarpmillerFires: function 3 -/
def petrinetlaw22_KarpmillerFires.j0 : Nat → List Int → Int → Bool → ByteArray → List (S57) → List (S60) → Option (Bool)
 | 0, _, _, _, _, _, _ => none
 | k + 1, x1, x2, b6, ap, aq, ar => if b6 = true then ((petrinetlaw22_alive.f k).bind fun aX => (some aX)) else ((karpmiller_Fire.f k ap aq ar x1 x2).bind fun aQ => ((r22_Fire.f k ap aq ar x1 x2).bind fun aR => ((karpmiller_Enabled.f k ap aq ar x1).bind fun aO => ((r22_Enabled.f k ap aq ar x1).bind fun aP => ((r04_Same.f k aO aP).bind fun a7 => (if a7 = true then ((r04_Same.f k aQ.1 aR.1).bind fun a8 => (if a8 = true then (if (aQ.2 == aR.2) = true then ((petrinetlaw22_alive.f k).bind fun a9 => (some a9)) else (none)) else (none))) else (none)))))))
def petrinetlaw22_KarpmillerFires.f (k : Nat) (aE : ByteArray) (aw : List (S57)) (ax : List (S60)) (l1 : List Int) (a2 : Int) : Option (Bool) := (r09_Small.f k aE aw ax).bind fun au => (if au.2.2.2 = true then (petrinetlaw22_KarpmillerFires.j0 k l1 a2 (decide ((l1.length : Int) > 40)) au.1 au.2.1 au.2.2.1) else (petrinetlaw22_KarpmillerFires.j0 k l1 a2 true au.1 au.2.1 au.2.2.1))
theorem petrinetlaw22_KarpmillerFires.mono_l : ∀ k, M6 petrinetlaw22_KarpmillerFires.j0 k
 | 0 => fun _ _ _ _ _ _ r h => by simp [petrinetlaw22_KarpmillerFires.j0] at h
 | k + 1 => by
  have bB := petrinetlaw22_KarpmillerFires.mono_l k
  ·intro y0 y1 y2 y3 y4 y5
   unfold petrinetlaw22_KarpmillerFires.j0
   repeat' first | (with_reducible first | apply bB | apply karpmiller_Enabled.mono | apply karpmiller_Fire.mono | apply petrinetlaw22_alive.mono | apply r04_Same.mono | apply r09_Small.mono | apply r22_Enabled.mono | apply r22_Fire.mono | apply lr | apply ln | apply li | refine lb ?_ fun _ => ?_)
theorem petrinetlaw22_KarpmillerFires.mono : ∀ a0 a1 a2 a3 a4 k, LeO (petrinetlaw22_KarpmillerFires.f k a0 a1 a2 a3 a4) (petrinetlaw22_KarpmillerFires.f (k + 1) a0 a1 a2 a3 a4) := by
 intro a0 a1 a2 a3 a4 k
 have bB := petrinetlaw22_KarpmillerFires.mono_l k
 unfold petrinetlaw22_KarpmillerFires.f
 repeat' first | (with_reducible first | apply bB | apply karpmiller_Enabled.mono | apply karpmiller_Fire.mono | apply petrinetlaw22_alive.mono | apply r04_Same.mono | apply r09_Small.mono | apply r22_Enabled.mono | apply r22_Fire.mono | apply lr | apply ln | apply li | refine lb ?_ fun _ => ?_)
def petrinetlaw22_KarpmillerFires.T6 : Bool × List (List Nat × List Nat) := (true, [([], []), ([], []), ([0, 1], [0, 1]), ([], []), ([], []), ([3, 4, 2], [3, 4]), ([2, 5, 5], [2, 5]), ([6, 6], [6]), ([7], [7]), ([7], [7]), ([8, 9, 7, 7], [7, 8, 9]), ([7, 10], [7, 10]), ([11, 10], [11]), ([12], [12]), ([12], [12]), ([13, 14, 12], [12, 13, 14]), ([12, 15], [12, 15]), ([16, 12], [16]), ([17, 17], [17]), ([17, 18], [17, 18]), ([19, 18, 0, 1, 2, 3, 4, 5, 6, 7, 8, 9, 10, 11, 12, 13, 14, 15, 16, 17, 18, 19], [19])])
def petrinetlaw22_KarpmillerFires.B6 : List Nat := [0, 0, 3, 0, 0, 31, 63, 127, 255, 255, 1023, 2047, 4095, 8191, 8191, 32767, 65535, 131071, 262143, 524287, 1048575]
theorem petrinetlaw22_KarpmillerFires.tab6 : rtab .any (opsOf Try.f3 6) = petrinetlaw22_KarpmillerFires.T6 := by kernel_rfl
theorem petrinetlaw22_KarpmillerFires.bits6 : waitsOk petrinetlaw22_KarpmillerFires.T6.2 petrinetlaw22_KarpmillerFires.B6 = true := by kernel_rfl
set_option maxHeartbeats 8000000 in
set_option maxRecDepth 100000 in
theorem petrinetlaw22_KarpmillerFires.calls (k : Nat) (aE : ByteArray) (aG : Option Addr) (aK : Nat) (aw : List (S57)) (aH : Option Addr) (aL : Nat) (ax : List (S60)) (A1 : Option Addr) (c1 : Nat) (l1 : List Int) (a2 : Int) (r : Bool) (w : World) (aU : Kd.C k57 w aG aw.length aw) (aS : aw.length ≤ aK) (aV : Kd.C k60 w aH ax.length ax) (aT : ax.length ≤ aL) (bO : Kd.C (Kd.int .i64) w A1 l1.length l1) (bI : l1.length ≤ c1) (h : petrinetlaw22_KarpmillerFires.f k aE aw ax l1 a2 = some r) :
  Calls Try.prog 3 #[.agg #[.string aE, .slice aG aw.length aK, .slice aH ax.length aL], .slice A1 l1.length c1, .int .i64 a2] w fun e w' => e = .returned (.bool r) ∧ Below w.heap.size w w' := by
 have bX := Try.underlying25
 have bd := am aU
 have bb := am aS
 clear aU aS
 have bf := am aV
 have bc := am aT
 clear aV aT
 have bm := am bO
 have bl := am bI
 clear bO bI
 have HB := am (Below.refl w.heap.size w)
 have H := h
 unfold petrinetlaw22_KarpmillerFires.f at H
 clear h
 replace H := bnd H
 obtain ⟨⟨ay, al, ao, bk⟩, A4, H⟩ := H
 (try dsimp only at H)
 have bs := am H
 clear H
 go_enter Try.func3, Try.ntmps3
 go_upto_region 2 with (first | ((with_reducible refine gate_dst (N := 3) rfl ?_); (try (refine gate_guard (by rfl) ?_; dsimp only)); refine box_ev ?_; intro av hg w6 hbox hb; have ae := am hbox; have aA := gwl hg; have bC := aA; replace HB := bsl hb; clear hb hbox hg; have z7 := cf3 ae.1) | ((with_reducible refine gate_callee (f := 10) rfl ?_); refine gC 15 Try.func10 _ (r09_Small.calls k aE (fun k_ => k_ < w.heap.size) _ _ aw (fun k_ => k_ < w.heap.size) _ _ ax ay al ao bk _ (Kd.V_mk bb.1 (Kd.F_below (Kd.C_F k57_heap bd.1) pbg)) (Kd.V_mk bc.1 (Kd.F_below (Kd.C_F k60_heap bf.1) pbg)) A4.1) ?_; rintro e w8 ⟨bZ, b0, rfl, aj, bN, hb⟩; refine ⟨_, rfl, ?_⟩; have aB := am (Kd.V_lower (Kd.V_mono (ok' := fun k_ => k_ ≠ av) aj (fun k_ hk_ => Or.elim hk_ (fun hs_ => Or.elim hs_ (fun hs_ => fun e_ => Nat.not_le.2 hs_ (by rw [e_]; exact aA.1)) (fun hs_ => fun e_ => Nat.not_le.2 hs_ (by rw [e_]; exact aA.1))) (fun hn_ => (Kd.freshB (g := av) (o := .cells #[.string aE, .slice aG aw.length aK, .slice aH ax.length aL] 25 (0, 0)) (by exact pbk ae.1) k_ hn_)))) (below_size pbg)); have aC := am (Kd.V_lower (Kd.V_mono (ok' := fun k_ => k_ ≠ av) bN (fun k_ hk_ => Or.elim hk_ (fun hs_ => Or.elim hs_ (fun hs_ => fun e_ => Nat.not_le.2 hs_ (by rw [e_]; exact aA.1)) (fun hs_ => fun e_ => Nat.not_le.2 hs_ (by rw [e_]; exact aA.1))) (fun hn_ => (Kd.freshB (g := av) (o := .cells #[.string aE, .slice aG aw.length aK, .slice aH ax.length aL] 25 (0, 0)) (by exact pbk ae.1) k_ hn_)))) (below_size pbg)); replace ae := bbh ae hb; replace HB := bst hb; (try clear hb); (try clear aj); (try clear bN)) | ((with_reducible refine gate_dst (N := 7) rfl ?_); (try (refine gate_guard (by rfl) ?_; dsimp only)); refine box_ev (N := 7) (cs := #[.string (⟨#[]⟩ : ByteArray), .slice none 0 0, .slice none 0 0]) (t := 25) ?_; intro ah hg w9 hbox hb; have ac := am hbox; have ba := gwb hg; have bD := ba; have ai := nlt hg ae; have az := ngt hg ae; replace aB := vbb aB hg hb; replace aC := vbb aC hg hb; replace ae := bbh ae hb; replace HB := bst hb; clear hb hbox hg; have bJ := az.1; have bL := ai.1; have b7 := cf3 ac.1; obtain ⟨aI, aM, bz⟩ := Kd.V_slice aB.1; subst bz; obtain ⟨aJ, aN, bA⟩ := Kd.V_slice aC.1; subst bA))
 (try simp only [Act.put, List.setIfInBounds_toArray, List.set_cons_zero, List.set_cons_succ])
 go_cut [24] (fun bY wc => ∃ (kq : Nat) (aF : Bool), bY = .bool aF ∧ Aside0 (petrinetlaw22_KarpmillerFires.j0 kq l1 a2 aF ay al ao = some r) ∧ Aside0 (kq ≤ k) ∧ Aside0 (Kd.V k57 57 wc w.heap.size (fun k_ => k_ ≠ av ∧ k_ ≠ ah) (.slice aI al.length aM) al) ∧ Aside0 (Kd.V k60 60 wc w.heap.size (fun k_ => k_ ≠ av ∧ k_ ≠ ah) (.slice aJ ao.length aN) ao) ∧ Aside0 (wc.heap[av]? = some (.cells #[.string aE, (.slice aG aw.length aK), (.slice aH ax.length aL)] 25 (0, 0))) ∧ Aside0 (wc.heap[ah]? = some (.cells #[.string ay, (.slice aI al.length aM), (.slice aJ ao.length aN)] 25 (0, 0))) ∧ Aside0 (Below w.heap.size w wc))
 case first =>
  have H := bs.1
  clear bs
  cases bk
  rotate_left
  ·rw [if_pos rfl] at H
   have H' := am H
   clear H
   go_wp2
   go_meet
   case rel => exact ⟨_, (decide ((l1.length : Int) > 40)), prs, H', ⟨by first | omega | exact Nat.le_refl _⟩, ⟨by (with_reducible repeat (first | apply Kd.V_alloc | apply Kd.V_drewN | apply Kd.V_drew)); exact Kd.V_mono (fV3 ah (Kd.V_mono aB.1 (fun k_ hk => (⟨hk, hk.2⟩ : _ ∧ k_ ≠ ah))) (fun _ hk => hk.2)) (fun _ hk => ⟨hk.1.1, hk.1.2⟩)⟩, ⟨by (with_reducible repeat (first | apply Kd.V_alloc | apply Kd.V_drewN | apply Kd.V_drew)); exact Kd.V_mono (fV3 ah (Kd.V_mono aC.1 (fun k_ hk => (⟨hk, hk.2⟩ : _ ∧ k_ ≠ ah))) (fun _ hk => hk.2)) (fun _ hk => ⟨hk.1.1, hk.1.2⟩)⟩, ⟨by (with_reducible repeat (first | refine blk_drewN ?_ _ | refine blk_drew ?_ | refine blk_alloc ?_ _)); refine bf3 ?_ ai.1; exact pbk ae.1⟩, ⟨by (with_reducible repeat (first | refine blk_drewN ?_ _ | refine blk_drew ?_ | refine blk_alloc ?_ _)); exact bp3 (pbk ac.1)⟩, ⟨pbg⟩⟩
  rw [if_neg Bool.false_ne_true] at H
  have H' := am H
  clear H
  go_wp2
  go_meet
  case rel => exact ⟨_, (true), prs, H', ⟨by first | omega | exact Nat.le_refl _⟩, ⟨by (with_reducible repeat (first | apply Kd.V_alloc | apply Kd.V_drewN | apply Kd.V_drew)); exact Kd.V_mono (fV3 ah (Kd.V_mono aB.1 (fun k_ hk => (⟨hk, hk.2⟩ : _ ∧ k_ ≠ ah))) (fun _ hk => hk.2)) (fun _ hk => ⟨hk.1.1, hk.1.2⟩)⟩, ⟨by (with_reducible repeat (first | apply Kd.V_alloc | apply Kd.V_drewN | apply Kd.V_drew)); exact Kd.V_mono (fV3 ah (Kd.V_mono aC.1 (fun k_ hk => (⟨hk, hk.2⟩ : _ ∧ k_ ≠ ah))) (fun _ hk => hk.2)) (fun _ hk => ⟨hk.1.1, hk.1.2⟩)⟩, ⟨by (with_reducible repeat (first | refine blk_drewN ?_ _ | refine blk_drew ?_ | refine blk_alloc ?_ _)); refine bf3 ?_ ai.1; exact pbk ae.1⟩, ⟨by (with_reducible repeat (first | refine blk_drewN ?_ _ | refine blk_drew ?_ | refine blk_alloc ?_ _)); exact bp3 (pbk ac.1)⟩, ⟨pbg⟩⟩
 clear bs
 try clear c1 b9 b7 z7
 obtain ⟨kq, aF, rfl, HA, b8, aa, ab, ae, ac, HB⟩ := hcut
 obtain _ | aW := kq
 ·exact absurd HA.1 (by simp [petrinetlaw22_KarpmillerFires.j0])
 have H := HA.1
 clear HA
 simp only [petrinetlaw22_KarpmillerFires.j0] at H
 cases aF
 rotate_left
 ·rw [if_pos rfl] at H
  replace H := bnd H
  obtain ⟨aX, bP, H⟩ := H
  (try dsimp only at H)
  obtain rfl := Option.some.inj H
  go_wp2_with (first | ((with_reducible refine gate_callee (f := 11) rfl ?_); refine gC 25 Try.func11 _ (petrinetlaw22_alive.calls aW  aX _ bP.1) ?_; rintro e ca ⟨rfl, hb⟩; refine ⟨_, rfl, ?_⟩; replace aa := vbw aa hb; replace ab := vbw ab hb; replace ae := bbh ae hb; replace ac := bbh ac hb; replace HB := bst hb; (try clear hb)))
  go_ret
  exact ⟨per, pbg⟩
 rw [if_neg Bool.false_ne_true] at H
 replace H := bnd H
 obtain ⟨⟨aY, aZ⟩, bQ, H⟩ := H
 (try dsimp only at H)
 replace H := bnd H
 obtain ⟨⟨a5, a6⟩, bR, H⟩ := H
 (try dsimp only at H)
 replace H := bnd H
 obtain ⟨aO, bS, H⟩ := H
 (try dsimp only at H)
 replace H := bnd H
 obtain ⟨aP, bT, H⟩ := H
 (try dsimp only at H)
 replace H := bnd H
 obtain ⟨a7, bU, H⟩ := H
 (try dsimp only at H)
 cases a7
 ·rw [if_neg Bool.false_ne_true] at H
  exact absurd H (by simp)
 rw [if_pos rfl] at H
 replace H := bnd H
 obtain ⟨a8, bV, H⟩ := H
 (try dsimp only at H)
 cases a8
 ·rw [if_neg Bool.false_ne_true] at H
  exact absurd H (by simp)
 rw [if_pos rfl] at H
 replace H := ifp H
 obtain ⟨bn, H⟩ := H
 have bE := bn
 (try (have bF : decide (aZ = a6) = true := by simpa using bn))
 (try (have bG : (aZ == a6) = true := by simpa using bn))
 clear bn
 replace H := bnd H
 obtain ⟨a9, bW, H⟩ := H
 (try dsimp only at H)
 obtain rfl := Option.some.inj H
 have bK := az.1
 have bM := ai.1
 have ch := cf3 ac.1
 try go_wp2_with (first | ((with_reducible refine gate_callee (f := 12) rfl ?_); refine gC 30 Try.func12 _ (karpmiller_Fire.calls aW ay _ _ al _ _ ao _ _ l1 a2 aY aZ _ (csd ((Kd.V_reads' aa.1).2.2)) ((Kd.V_reads' aa.1).2.1) (csd ((Kd.V_reads' ab.1).2.2)) ((Kd.V_reads' ab.1).2.1) (csb bm HB) bl.1 bQ.1) ?_; rintro e cb ⟨b1, rfl, aj, hb⟩; refine ⟨_, rfl, ?_⟩; have af := am (Kd.R_lower aj (below_size pbg)); replace aa := am (Kd.V_elder' (pkv aa.1) (Kd.R_base aj) hb); replace ab := am (Kd.V_elder' (pkv ab.1) (Kd.R_base aj) hb); replace ae := bbh ae hb; replace ac := bbh ac hb; replace HB := bst hb; (try clear hb); (try clear aj); have ci := cf3 ac.1) | ((with_reducible refine gate_callee (f := 13) rfl ?_); refine gC 37 Try.func13 _ (r22_Fire.calls aW ay _ _ al _ _ ao _ _ l1 a2 a5 a6 _ (csd ((Kd.V_reads' aa.1).2.2)) ((Kd.V_reads' aa.1).2.1) (csd ((Kd.V_reads' ab.1).2.2)) ((Kd.V_reads' ab.1).2.1) (csb bm HB) bl.1 bR.1) ?_; rintro e b5 ⟨b2, rfl, aj, hb⟩; refine ⟨_, rfl, ?_⟩; have ag := am (Kd.R_lower (Kd.R_new' aj (Kd.R_lt (pkr af.1))) (below_size pbg)); replace aa := am (Kd.V_elder' (pkv aa.1) (Kd.R_base aj) hb); replace ab := am (Kd.V_elder' (pkv ab.1) (Kd.R_base aj) hb); replace af := am (Kd.R_elder' (pkr af.1) (Kd.R_base aj) hb); replace ae := bbh ae hb; replace ac := bbh ac hb; replace HB := bst hb; (try clear hb); (try clear aj)))
 replace aa := am (Kd.V_drew aa.1)
 replace ab := am (Kd.V_drew ab.1)
 replace af := am (Kd.R_drew af.1)
 replace ag := am (Kd.R_drew ag.1)
 replace ae := am (blk_drew ae.1)
 replace ac := am (blk_drew ac.1)
 replace HB := am (below_drew1 HB.1)
 refine start_ (n := 21) (S := fun w' => w'.cell? ⟨ah, 0, none⟩ = some (.string ay) ∧ w'.cell? ⟨ah, 1, none⟩ = some (.slice aI al.length aM) ∧ w'.cell? ⟨ah, 2, none⟩ = some (.slice aJ ao.length aN)) (ds := []) #[false, false, false, false, false, false, false, false, false, false, false, false, false, false, false, false, false, false, false, false, false] (by kernel_rfl) rfl rfl ⟨(blk_cell ac.1 0).trans rfl, (blk_cell ac.1 1).trans rfl, (blk_cell ac.1 2).trans rfl⟩ (fun hHeld => ?_); refine with_tabW petrinetlaw22_KarpmillerFires.tab6 petrinetlaw22_KarpmillerFires.bits6 (fun HT_ HW_ => ?_)
 generalize b5.drew = cd at aa ab af ag ae ac HB hHeld ⊢
 refine pu HT_.1 1 41 ?_
 refine pu HT_.1 4 44 ?_
 refine tk HT_.1 HW_.1 hHeld 0 40 ?_
 refine tk HT_.1 HW_.1 hHeld 3 43 ?_
 refine on HT_.1 2 (some 42) rfl fun K hK => ?_
 refine goes_ Try.func15 (by kernel_rfl) rfl #[.agg #[.string ay, .slice aI al.length aM, .slice aJ ao.length aN], .slice A1 l1.length c1] (by rfl) rfl rfl pgz ?_
 with_reducible refine (karpmiller_Enabled.calls aW ay _ _ al _ _ ao _ _ l1 aO _ ?side1 ?side2 ?side3 ?side4 ?side5 ?side6 bS.1).mono ?_
 (case side1 => exact csd ((Kd.V_reads' aa.1).2.2))
 (case side2 => exact (Kd.V_reads' aa.1).2.1)
 (case side3 => exact csd ((Kd.V_reads' ab.1).2.2))
 (case side4 => exact (Kd.V_reads' ab.1).2.1)
 (case side5 => exact csb bm HB)
 (case side6 => exact bl.1)
 rintro e ce ⟨b3, rfl, aj, hb⟩
 refine ⟨_, rfl, ?_⟩
 have ak := am (Kd.R_lower (Kd.R_new' (Kd.R_new' aj (Kd.R_lt (pkr af.1))) (Kd.R_lt (pkr ag.1))) (below_size pbg))
 replace aa := am (Kd.V_elder' (pkv aa.1) (Kd.R_base aj) hb)
 replace ab := am (Kd.V_elder' (pkv ab.1) (Kd.R_base aj) hb)
 replace af := am (Kd.R_elder' (pkr af.1) (Kd.R_base aj) hb)
 replace ag := am (Kd.R_elder' (pkr ag.1) (Kd.R_base aj) hb)
 replace ae := bbh ae hb
 replace ac := bbh ac hb
 replace HB := bst hb
 (try clear hb)
 (try clear bH)
 (try clear hk)
 (try clear hi)
 (try clear aj)
 refine hK.out _ _ ⟨(blk_cell ac.1 0).trans rfl, (blk_cell ac.1 1).trans rfl, (blk_cell ac.1 2).trans rfl⟩ (fun hHeld => ?_)
 clear hK K
 refine nm_ 42 ?_
 refine on HT_.1 5 (some 45) rfl fun K hK => ?_
 refine goes_ Try.func16 (by kernel_rfl) rfl #[.agg #[.string ay, .slice aI al.length aM, .slice aJ ao.length aN], .slice A1 l1.length c1] (by rfl) rfl rfl pgz ?_
 with_reducible refine (r22_Enabled.calls aW ay _ _ al _ _ ao _ _ l1 aP _ ?side1 ?side2 ?side3 ?side4 ?side5 ?side6 bT.1).mono ?_
 (case side1 => exact csd ((Kd.V_reads' aa.1).2.2))
 (case side2 => exact (Kd.V_reads' aa.1).2.1)
 (case side3 => exact csd ((Kd.V_reads' ab.1).2.2))
 (case side4 => exact (Kd.V_reads' ab.1).2.1)
 (case side5 => exact csb bm HB)
 (case side6 => exact bl.1)
 rintro e cf ⟨b4, rfl, aj, hb⟩
 refine ⟨_, rfl, ?_⟩
 have aD := am (Kd.R_lower (Kd.R_new' (Kd.R_new' (Kd.R_new' aj (Kd.R_lt (pkr af.1))) (Kd.R_lt (pkr ag.1))) (Kd.R_lt (pkr ak.1))) (below_size pbg))
 replace aa := am (Kd.V_elder' (pkv aa.1) (Kd.R_base aj) hb)
 replace ab := am (Kd.V_elder' (pkv ab.1) (Kd.R_base aj) hb)
 replace af := am (Kd.R_elder' (pkr af.1) (Kd.R_base aj) hb)
 replace ag := am (Kd.R_elder' (pkr ag.1) (Kd.R_base aj) hb)
 replace ak := am (Kd.R_elder' (pkr ak.1) (Kd.R_base aj) hb)
 replace ae := bbh ae hb
 replace ac := bbh ac hb
 replace HB := bst hb
 (try clear hb)
 (try clear bH)
 (try clear hk)
 (try clear hi)
 (try clear aj)
 obtain ⟨bo, bu, bg⟩ := Kd.R_slice ak.1
 (first | subst bg | (injection bg with f1_ f2_ f3_; have f4_ := f1_.symm; have f5_ := f3_.symm; clear f1_ f2_ f3_; subst f4_; subst f5_))
 obtain ⟨bp, bv, bh⟩ := Kd.R_slice aD.1
 (first | subst bh | (injection bh with f1_ f2_ f3_; have f4_ := f1_.symm; have f5_ := f3_.symm; clear f1_ f2_ f3_; subst f4_; subst f5_))
 refine hK.out _ _ ⟨(blk_cell ac.1 0).trans rfl, (blk_cell ac.1 1).trans rfl, (blk_cell ac.1 2).trans rfl⟩ (fun hHeld => ?_)
 clear hK K
 refine nm_ 45 ?_
 refine on HT_.1 6 (some 46) rfl fun K hK => ?_
 refine goes_ Try.func14 (by kernel_rfl) rfl #[.slice bo aO.length bu, .slice bp aP.length bv] (by rfl) rfl rfl pgz ?_
 with_reducible refine (r04_Same.calls aW _ _ aO _ _ aP true _ ?side1 ?side2 ?side3 ?side4 bU.1).mono ?_
 (case side1 => exact csd ((Kd.R_reads' ak.1).2.2))
 (case side2 => exact (Kd.R_reads' ak.1).2.1)
 (case side3 => exact csd ((Kd.R_reads' aD.1).2.2))
 (case side4 => exact (Kd.R_reads' aD.1).2.1)
 rintro e w' ⟨rfl, ⟨nd, rfl⟩⟩
 refine ⟨_, rfl, ?_⟩
 obtain ⟨bq, bw, bi⟩ := Kd.R_slice af.1
 (first | subst bi | (injection bi with f1_ f2_ f3_; have f4_ := f1_.symm; have f5_ := f3_.symm; clear f1_ f2_ f3_; subst f4_; subst f5_))
 obtain ⟨br, bx, bj⟩ := Kd.R_slice ag.1
 (first | subst bj | (injection bj with f1_ f2_ f3_; have f4_ := f1_.symm; have f5_ := f3_.symm; clear f1_ f2_ f3_; subst f4_; subst f5_))
 refine hK.out _ _ ⟨(blk_cell ac.1 0).trans rfl, (blk_cell ac.1 1).trans rfl, (blk_cell ac.1 2).trans rfl⟩ (fun hHeld => ?_)
 clear hK K
 refine nm_ 46 ?_
 refine pu HT_.1 7 47 ?_
 refine pu HT_.1 8 48 ?_
 refine pu HT_.1 9 49 ?_
 refine on HT_.1 10 (some 50) rfl fun K hK => ?_
 refine goes_ Try.func14 (by kernel_rfl) rfl #[.slice bq aY.length bw, .slice br a5.length bx] (by rfl) rfl rfl pgz ?_
 with_reducible refine (r04_Same.calls aW _ _ aY _ _ a5 true _ ?side1 ?side2 ?side3 ?side4 bV.1).mono ?_
 (case side1 => exact csd ((Kd.R_reads' af.1).2.2))
 (case side2 => exact (Kd.R_reads' af.1).2.1)
 (case side3 => exact csd ((Kd.R_reads' ag.1).2.2))
 (case side4 => exact (Kd.R_reads' ag.1).2.1)
 rintro e w' ⟨rfl, ⟨nd, rfl⟩⟩
 refine ⟨_, rfl, ?_⟩
 refine hK.out _ _ ⟨(blk_cell ac.1 0).trans rfl, (blk_cell ac.1 1).trans rfl, (blk_cell ac.1 2).trans rfl⟩ (fun hHeld => ?_)
 clear hK K
 refine nm_ 50 ?_
 refine pu HT_.1 11 51 ?_
 refine pu HT_.1 12 52 ?_
 refine pu HT_.1 13 53 ?_
 refine pu HT_.1 14 54 ?_
 refine pu HT_.1 15 55 ?_
 refine pu HT_.1 16 56 ?_
 refine pu HT_.1 17 57 ?_
 refine on HT_.1 18 (some 58) rfl fun K hK => ?_
 refine goes_ Try.func11 (by kernel_rfl) rfl #[] (by rfl) rfl rfl pgz ?_
 with_reducible refine (petrinetlaw22_alive.calls aW  a9 _ bW.1).mono ?_
 rintro e cg ⟨rfl, hb⟩
 refine ⟨_, rfl, ?_⟩
 replace aa := vbw aa hb
 replace ab := vbw ab hb
 replace af := rbw af hb
 replace ag := rbw ag hb
 replace ak := rbw ak hb
 replace aD := rbw aD hb
 replace ae := bbh ae hb
 replace ac := bbh ac hb
 replace HB := bst hb
 (try clear hb)
 (try clear bH)
 (try clear hk)
 (try clear hi)
 refine hK.out _ _ ⟨(blk_cell ac.1 0).trans rfl, (blk_cell ac.1 1).trans rfl, (blk_cell ac.1 2).trans rfl⟩ (fun hHeld => ?_)
 clear hK K
 refine nm_ 58 ?_
 refine pu HT_.1 19 59 ?_
 refine pu HT_.1 20 6 ?_
 refine done_ (done_of HT_.1 (by kernel_rfl)) ?_
 try go_wp2
 go_ret
 exact ⟨per, pbg⟩

end Go.Proofs.Yteknagfpiadaiaa.P
