-- LAID BY OUR PROGRAM OVER THE PRINT (xprint.py, part.py): Lean checks it.
import Derived.Test.YtaoogghpadifiaaPx0
import Derived.Test.YtaoogghpadifiaaPx1
import Derived.Test.YtaoogghpadifiaaPx2
import Derived.Test.YtaoogghpadifiaaPx6
namespace Go.Proofs.Ytaoogghpadifiaa.P
open Go.RowKit Go.Proofs.YtaoogghpadifiaaW.PrintWords Go.Proofs.YtaoogghpadifiaaW.PrintLast Go.Proofs.YtaoogghpadifiaaW.PrintMore
attribute [local go_sem] max2_int min2_int max_two min_two max_three min_three max_four min_four   -- for this text's walks alone
set_option linter.unusedVariables false
set_option linter.unusedSimpArgs false

/-! ### petrinetlaw23_MincoverOrder: function 4 -/
mutual
def petrinetlaw23_MincoverOrder.j0 : Nat → Bool → ByteArray → List (S64) → List (S38) → Option (Bool)
 | 0, _, _, _, _ => none
 | k + 1, ea, aN, aQ, ar => if ea = true then ((petrinetlaw23_exampleHolds.f k).bind fun cd => (some cd)) else (petrinetlaw23_MincoverOrder.l0 k (wrap64 ((ar.length : Int) - 1)) aN aQ ar aN aQ ([] : List (S38)))
def petrinetlaw23_MincoverOrder.l0 : Nat → Int → ByteArray → List (S64) → List (S38) → ByteArray → List (S64) → List (S38) → Option (Bool)
 | 0, _, _, _, _, _, _, _ => none
 | k + 1, x6, aN, aQ, ar, bH, bI, br => if x6 ≥ 0 then (if 0 ≤ x6 then (if x6 < (ar.length : Int) then (if br.length < 1466015503701 then (petrinetlaw23_MincoverOrder.l0 k (wrap64 (x6 - 1)) aN aQ ar bH bI (br ++ [(⟨(rd_T38 ar x6).f0, (rd_T38 ar x6).f1, (rd_T38 ar x6).f2, (rd_T38 ar x6).f3, (rd_T38 ar x6).f4⟩ : S38)])) else (none)) else (none)) else (none)) else ((mincover_Set.f k aN aQ ar 200).bind fun bc => ((mincover_Set.f k bH bI br 200).bind fun bd => (if bc.2.2 = 0 then (if bd.2.2 = 0 then (if bc.2.1 = true then (petrinetlaw23_MincoverOrder.j2 k bc.1 bd.1 (!bd.2.1)) else (petrinetlaw23_MincoverOrder.j2 k bc.1 bd.1 true)) else (petrinetlaw23_MincoverOrder.j2 k bc.1 bd.1 true)) else (petrinetlaw23_MincoverOrder.j2 k bc.1 bd.1 true))))
def petrinetlaw23_MincoverOrder.j2 : Nat → List (List Int) → List (List Int) → Bool → Option (Bool)
 | 0, _, _, _ => none
 | k + 1, x7, x10, ec => if ec = true then ((petrinetlaw23_exampleHolds.f k).bind fun ce => (some ce)) else ((r04_Lists.f k x7 x10).bind fun cf => (if cf = true then ((petrinetlaw23_exampleHolds.f k).bind fun cg => (some cg)) else (none)))
end
def petrinetlaw23_MincoverOrder.f (k : Nat) (aU : ByteArray) (aH : List (S64)) (aI : List (S38)) : Option (Bool) := (r09_Small.f k aU aH aI).bind fun aJ => (if aJ.2.2.2 = true then ((r09_Light.f k aJ.1 aJ.2.1 aJ.2.2.1).bind fun bW => (petrinetlaw23_MincoverOrder.j0 k (!bW) aJ.1 aJ.2.1 aJ.2.2.1)) else (petrinetlaw23_MincoverOrder.j0 k true aJ.1 aJ.2.1 aJ.2.2.1))
theorem petrinetlaw23_MincoverOrder.mono_l : ∀ k, M4 petrinetlaw23_MincoverOrder.j0 k ∧ M7 petrinetlaw23_MincoverOrder.l0 k ∧ M3 petrinetlaw23_MincoverOrder.j2 k
 | 0 => ⟨fun _ _ _ _ r h => by simp [petrinetlaw23_MincoverOrder.j0] at h, fun _ _ _ _ _ _ _ r h => by simp [petrinetlaw23_MincoverOrder.l0] at h, fun _ _ _ r h => by simp [petrinetlaw23_MincoverOrder.j2] at h⟩
 | k + 1 => by
  obtain ⟨df, dg, dh⟩ := petrinetlaw23_MincoverOrder.mono_l k
  refine ⟨?_, ?_, ?_⟩ <;> dsimp only [M3, M4, M7] <;> intros <;> (first | unfold petrinetlaw23_MincoverOrder.j0 | unfold petrinetlaw23_MincoverOrder.l0 | unfold petrinetlaw23_MincoverOrder.j2) <;> repeat' first | (with_reducible first | apply df | apply dg | apply dh | apply mincover_Set.mono | apply petrinetlaw23_exampleHolds.mono | apply r04_Lists.mono | apply r09_Light.mono | apply r09_Small.mono | apply lr | apply ln | apply li | refine lb ?_ fun _ => ?_)
theorem petrinetlaw23_MincoverOrder.mono : ∀ a0 a1 a2 k, LeO (petrinetlaw23_MincoverOrder.f k a0 a1 a2) (petrinetlaw23_MincoverOrder.f (k + 1) a0 a1 a2) := by
 intro a0 a1 a2 k
 obtain ⟨df, dg, dh⟩ := petrinetlaw23_MincoverOrder.mono_l k
 unfold petrinetlaw23_MincoverOrder.f
 repeat' first | (with_reducible first | apply df | apply dg | apply dh | apply mincover_Set.mono | apply petrinetlaw23_exampleHolds.mono | apply r04_Lists.mono | apply r09_Light.mono | apply r09_Small.mono | apply lr | apply ln | apply li | refine lb ?_ fun _ => ?_)
def petrinetlaw23_MincoverOrder.T9 : Bool × List (List Nat × List Nat) := (true, [([], []), ([0], [0]), ([], []), ([2], [2]), ([], []), ([3, 4], [3, 4]), ([5], [5]), ([6], [6]), ([1, 7], [1, 7]), ([0, 1, 2, 3, 4, 5, 6, 7, 8], []), ([9, 8, 8, 0, 1, 2, 3, 4, 5, 6, 7, 8], [8, 9])])
def petrinetlaw23_MincoverOrder.B9 : List Nat := [0, 1, 0, 4, 0, 28, 60, 124, 255, 511, 1023]
theorem petrinetlaw23_MincoverOrder.tab9 : rtab .any (opsOf Try.f4 9) = petrinetlaw23_MincoverOrder.T9 := by kernel_rfl
theorem petrinetlaw23_MincoverOrder.bits9 : waitsOk petrinetlaw23_MincoverOrder.T9.2 petrinetlaw23_MincoverOrder.B9 = true := by kernel_rfl
set_option maxHeartbeats 8000000 in
set_option maxRecDepth 100000 in
theorem petrinetlaw23_MincoverOrder.calls (k : Nat) (aU : ByteArray) (a7 : Option Addr) (ba : Nat) (aH : List (S64)) (a8 : Option Addr) (bb : Nat) (aI : List (S38)) (r : Bool) (w : World) (b6 : Kd.C k64 w a7 aH.length aH) (b4 : aH.length ≤ ba) (b7 : Kd.C k38 w a8 aI.length aI) (b5 : aI.length ≤ bb) (h : petrinetlaw23_MincoverOrder.f k aU aH aI = some r) :
  Calls Try.prog 4 #[.agg #[.string aU, .slice a7 aH.length ba, .slice a8 aI.length bb]] w fun e w' => e = .returned (.bool r) ∧ Below w.heap.size w w' := by
 have d2 := Try.underlying25
 have d3 := Try.underlying38
 have cq := am b6
 have co := am b4
 clear b6 b4
 have cr := am b7
 have cp := am b5
 clear b7 b5
 have HB := am (Below.refl w.heap.size w)
 have H := h
 unfold petrinetlaw23_MincoverOrder.f at H
 clear h
 replace H := bnd H
 obtain ⟨⟨au, aq, ao, cz⟩, A2, H⟩ := H
 (try dsimp only at H)
 have cT := am H
 clear H
 go_enter Try.func4, Try.ntmps4
 go_upto_region 2 with (first | ((with_reducible refine gate_dst (N := 1) rfl ?_); refine box_ev ?_; intro aj hg w4 hbox hb; have ai := am hbox; have bu := gwl hg; have dr := bu; replace HB := bsl hb; clear hb hbox hg; have dn := cf3 ai.1) | ((with_reducible refine gate_callee (f := 10) rfl ?_); refine gC 15 Try.func10 _ (r09_Small.calls k aU (fun k_ => k_ < w.heap.size) _ _ aH (fun k_ => k_ < w.heap.size) _ _ aI au aq ao cz _ (Kd.V_mk co.1 (Kd.F_below (Kd.C_F k64_heap cq.1) pbg)) (Kd.V_mk cp.1 (Kd.F_below (Kd.C_F k38_heap cr.1) pbg)) A2.1) ?_; rintro e w6 ⟨d5, d6, rfl, bv, ho1, hb⟩; refine ⟨_, rfl, ?_⟩; have aK := am (Kd.V_lower (Kd.V_mono (ok' := fun k_ => k_ ≠ aj) bv (fun k_ hk_ => Or.elim hk_ (fun hs_ => Or.elim hs_ (fun hs_ => fun e_ => Nat.not_le.2 hs_ (by rw [e_]; exact bu.1)) (fun hs_ => fun e_ => Nat.not_le.2 hs_ (by rw [e_]; exact bu.1))) (fun hn_ => (Kd.freshB (g := aj) (o := .cells #[.string aU, .slice a7 aH.length ba, .slice a8 aI.length bb] 25 (0, 0)) (by exact pbk ai.1) k_ hn_)))) (below_size pbg)); have aM := am (Kd.V_lower (Kd.V_mono (ok' := fun k_ => k_ ≠ aj) ho1 (fun k_ hk_ => Or.elim hk_ (fun hs_ => Or.elim hs_ (fun hs_ => fun e_ => Nat.not_le.2 hs_ (by rw [e_]; exact bu.1)) (fun hs_ => fun e_ => Nat.not_le.2 hs_ (by rw [e_]; exact bu.1))) (fun hn_ => (Kd.freshB (g := aj) (o := .cells #[.string aU, .slice a7 aH.length ba, .slice a8 aI.length bb] 25 (0, 0)) (by exact pbk ai.1) k_ hn_)))) (below_size pbg)); replace ai := bbh ai hb; replace HB := bst hb; (try clear hb); (try clear bv); (try clear ho1)) | ((with_reducible refine gate_dst (N := 3) rfl ?_); refine box_ev (N := 3) (cs := #[.string (⟨#[]⟩ : ByteArray), .slice none 0 0, .slice none 0 0]) (t := 25) ?_; intro ah hg w7 hbox hb; have ag := am hbox; have cm := gwb hg; have dt := cm; have av := nlt hg ai; have aG := ngt hg ai; replace aK := vbb aK hg hb; replace aM := vbb aM hg hb; replace ai := bbh ai hb; replace HB := bst hb; clear hb hbox hg; have dZ := aG.1; have d0 := av.1; have dp := cf3 ag.1; obtain ⟨ax, aw, cZ⟩ := Kd.V_slice aK.1; subst cZ; obtain ⟨a9, aV, da⟩ := Kd.V_slice aM.1; subst da))
 (try simp only [Act.put, List.setIfInBounds_toArray, List.set_cons_zero, List.set_cons_succ])
 go_cut [24] (fun d4 wc => ∃ (kq : Nat) (bG : Bool), d4 = .bool bG ∧ Aside0 (petrinetlaw23_MincoverOrder.j0 kq bG au aq ao = some r) ∧ Aside0 (kq ≤ k) ∧ Aside0 (Kd.V k64 64 wc w.heap.size (fun k_ => k_ ≠ aj ∧ k_ ≠ ah) (.slice ax aq.length aw) aq) ∧ Aside0 (Kd.V k38 38 wc w.heap.size (fun k_ => k_ ≠ aj ∧ k_ ≠ ah) (.slice a9 ao.length aV) ao) ∧ Aside0 (wc.heap[aj]? = some (.cells #[.string aU, (.slice a7 aH.length ba), (.slice a8 aI.length bb)] 25 (0, 0))) ∧ Aside0 (wc.heap[ah]? = some (.cells #[.string au, (.slice ax aq.length aw), (.slice a9 ao.length aV)] 25 (0, 0))) ∧ Aside0 (Below w.heap.size w wc))
 case first =>
  have H := cT.1
  clear cT
  cases cz
  ·rw [if_neg Bool.false_ne_true] at H
   have H' := am H
   clear H
   go_wp2
   go_meet
   case rel => exact ⟨_, (true), prs, H', ⟨by first | omega | exact Nat.le_refl _⟩, ⟨by (with_reducible repeat (first | apply Kd.V_alloc | apply Kd.V_drewN | apply Kd.V_drew)); exact Kd.V_mono (fV3 ah (Kd.V_mono aK.1 (fun k_ hk => (⟨hk, hk.2⟩ : _ ∧ k_ ≠ ah))) (fun _ hk => hk.2)) (fun _ hk => ⟨hk.1.1, hk.1.2⟩)⟩, ⟨by (with_reducible repeat (first | apply Kd.V_alloc | apply Kd.V_drewN | apply Kd.V_drew)); exact Kd.V_mono (fV3 ah (Kd.V_mono aM.1 (fun k_ hk => (⟨hk, hk.2⟩ : _ ∧ k_ ≠ ah))) (fun _ hk => hk.2)) (fun _ hk => ⟨hk.1.1, hk.1.2⟩)⟩, ⟨by (with_reducible repeat (first | refine blk_drewN ?_ _ | refine blk_drew ?_ | refine blk_alloc ?_ _)); refine bf3 ?_ av.1; exact pbk ai.1⟩, ⟨by (with_reducible repeat (first | refine blk_drewN ?_ _ | refine blk_drew ?_ | refine blk_alloc ?_ _)); exact bp3 (pbk ag.1)⟩, ⟨pbg⟩⟩
  rw [if_pos rfl] at H
  replace H := bnd H
  obtain ⟨bW, A13, H⟩ := H
  (try dsimp only at H)
  have H' := am H
  clear H
  have dy := aG.1
  have dG := av.1
  have ci := cf3 ag.1
  go_wp2_with (first | (go_at_call 11; (with_reducible refine (r09_Light.calls k au _ _ aq _ _ ao bW _ ?side1 ?side2 ?side3 ?side4 A13.1).mono ?_); (case side1 => refine (Kd.V_reads' (e := 64) (base := w.heap.size) (ok := fun k_ => (k_ ≠ aj ∧ k_ ≠ ah)) (n := aq.length) (c := aw) ?_).2.2; exact (by (with_reducible repeat (first | apply Kd.V_alloc | apply Kd.V_drewN | apply Kd.V_drew)); exact (fV3 ah aK.1 (fun k_ hk => hk.2)))); (case side2 => exact (Kd.V_reads' aK.1).2.1); (case side3 => refine (Kd.V_reads' (e := 38) (base := w.heap.size) (ok := fun k_ => (k_ ≠ aj ∧ k_ ≠ ah)) (n := ao.length) (c := aV) ?_).2.2; exact (by (with_reducible repeat (first | apply Kd.V_alloc | apply Kd.V_drewN | apply Kd.V_drew)); exact (fV3 ah aM.1 (fun k_ hk => hk.2)))); (case side4 => exact (Kd.V_reads' aM.1).2.1); rintro e eh ⟨rfl, hb⟩; replace aK := am (Kd.V_below (by (with_reducible repeat (first | apply Kd.V_alloc | apply Kd.V_drewN | apply Kd.V_drew)); exact (fV3 ah aK.1 (fun k_ hk => hk.2))) hb); replace aM := am (Kd.V_below (by (with_reducible repeat (first | apply Kd.V_alloc | apply Kd.V_drewN | apply Kd.V_drew)); exact (fV3 ah aM.1 (fun k_ hk => hk.2))) hb); replace ai := bbx ai (fun h_ => by (with_reducible repeat (first | refine blk_drewN ?_ _ | refine blk_drew ?_ | refine blk_alloc ?_ _)); refine bf3 ?_ av.1; exact pbk h_) hb; replace ag := am (blk_below (g := ah) (o := .cells #[.string au, .slice ax aq.length aw, .slice a9 ao.length aV] 25 (0, 0)) (by (with_reducible repeat (first | refine blk_drewN ?_ _ | refine blk_drew ?_ | refine blk_alloc ?_ _)); exact bp3 (pbk ag.1)) hb); replace HB := bst hb; (try clear hb); (try clear hk)))
  go_meet
  case rel => exact ⟨_, (!bW), prs, H', ⟨by first | omega | exact Nat.le_refl _⟩, ⟨pkv aK.1⟩, ⟨pkv aM.1⟩, ⟨pbk ai.1⟩, ⟨pbk ag.1⟩, ⟨pbg⟩⟩
 clear cT
 try clear dv ci dn dp
 obtain ⟨kq, bG, rfl, HA, cj, ab, aa, ai, ag, HB⟩ := hcut
 obtain _ | di := kq
 ·exact absurd HA.1 (by simp [petrinetlaw23_MincoverOrder.j0])
 have H := HA.1
 clear HA
 simp only [petrinetlaw23_MincoverOrder.j0] at H
 cases bG
 rotate_left
 ·rw [if_pos rfl] at H
  replace H := bnd H
  obtain ⟨cd, dN, H⟩ := H
  (try dsimp only at H)
  obtain rfl := Option.some.inj H
  go_wp2_with (first | ((with_reducible refine gate_callee (f := 13) rfl ?_); refine gC 25 Try.func13 _ (petrinetlaw23_exampleHolds.calls di  cd _ dN.1) ?_; rintro e ei ⟨rfl, hb⟩; refine ⟨_, rfl, ?_⟩; replace ab := vbw ab hb; replace aa := vbw aa hb; replace ai := bbh ai hb; replace ag := bbh ag hb; replace HB := bst hb; (try clear hb)))
  go_ret
  exact ⟨per, pbg⟩
 rw [if_neg Bool.false_ne_true] at H
 have H' := am H
 clear H
 have dz := aG.1
 have dH := av.1
 have cC := cf3 ag.1
 go_wp2_with (first | ((with_reducible refine gate_dst (N := 5) rfl ?_); refine box_ev (N := 5) (cs := #[.string (⟨#[]⟩ : ByteArray), .slice none 0 0, .slice none 0 0]) (t := 25) ?_; intro af hg ej hbox hb; have al := am hbox; have cn := gwb hg; have du := cn; have ay := nlt hg ai; have aR := ngt hg ai; have az := nlt hg ag; have aT := ngt hg ag; replace ab := vbb ab hg hb; replace aa := vbb aa hg hb; replace ai := bbh ai hb; replace ag := bbh ag hb; replace HB := bst hb; clear hb hbox hg; have dB := aR.1; have dI := ay.1; have dC := aT.1; have dJ := az.1; have cD := cf3 al.1; have cE := cf3 ag.1))
 go_loopg [6] di (fun kq v6 w' => ∃ (ap : Int) (ak : List (S38)) (u580002 : Value), v6 = .int .i64 ap ∧ Aside0 (petrinetlaw23_MincoverOrder.l0 kq ap au aq ao au aq ak = some r) ∧ Aside0 (kq ≤ di) ∧ Aside0 (Kd.V k64 64 w' w.heap.size (fun k_ => some k_ ≠ (u580002 : Value).ownBlock ∧ k_ ≠ aj ∧ k_ ≠ ah ∧ k_ ≠ af) (.slice ax aq.length aw) aq) ∧ Aside0 (Kd.V k38 38 w' w.heap.size (fun k_ => some k_ ≠ (u580002 : Value).ownBlock ∧ k_ ≠ aj ∧ k_ ≠ ah ∧ k_ ≠ af) (.slice a9 ao.length aV) ao) ∧ Aside0 (Kd.V k64 64 w' w.heap.size (fun k_ => some k_ ≠ (u580002 : Value).ownBlock ∧ k_ ≠ aj ∧ k_ ≠ ah ∧ k_ ≠ af) (.slice ax aq.length aw) aq) ∧ Aside0 (Kd.N k38 38 w' w.heap.size (fun k_ => k_ ≠ aj ∧ k_ ≠ ah ∧ k_ ≠ af) u580002 ak) ∧ Aside0 (w'.heap[aj]? = some (.cells #[.string aU, (.slice a7 aH.length ba), (.slice a8 aI.length bb)] 25 (0, 0))) ∧ Aside0 (w'.heap[ah]? = some (.cells #[.string au, (.slice ax aq.length aw), (.slice a9 ao.length aV)] 25 (0, 0))) ∧ Aside0 (w'.heap[af]? = some (.cells #[.string au, (.slice ax aq.length aw), u580002] 25 (0, 0))) ∧ Aside0 (Below w.heap.size w w'))
 case atStart => exact ⟨(wrap64 ((ao.length : Int) - 1)), (([] : List (S38))), (.slice none 0 0), prs, H', ⟨Nat.le_refl _⟩, ⟨by (with_reducible repeat (first | apply Kd.V_alloc | apply Kd.V_drewN | apply Kd.V_drew)); exact Kd.V_mono (fV4 af (Kd.V_mono ab.1 (fun k_ hk => (⟨hk, hk.2⟩ : _ ∧ k_ ≠ af))) (fun _ hk => hk.2)) (fun _ hk => ⟨(by simp [Value.ownBlock]), ⟨hk.1.1.1, ⟨hk.1.1.2, hk.1.2⟩⟩⟩)⟩, ⟨by (with_reducible repeat (first | apply Kd.V_alloc | apply Kd.V_drewN | apply Kd.V_drew)); exact Kd.V_mono (fV4 af (Kd.V_mono aa.1 (fun k_ hk => (⟨hk, hk.2⟩ : _ ∧ k_ ≠ af))) (fun _ hk => hk.2)) (fun _ hk => ⟨(by simp [Value.ownBlock]), ⟨hk.1.1.1, ⟨hk.1.1.2, hk.1.2⟩⟩⟩)⟩, ⟨by (with_reducible repeat (first | apply Kd.V_alloc | apply Kd.V_drewN | apply Kd.V_drew)); exact Kd.V_mono (fV4 af (Kd.V_mono ab.1 (fun k_ hk => (⟨hk, hk.2⟩ : _ ∧ k_ ≠ af))) (fun _ hk => hk.2)) (fun _ hk => ⟨(by simp [Value.ownBlock]), ⟨hk.1.1.1, ⟨hk.1.1.2, hk.1.2⟩⟩⟩)⟩, ⟨knl⟩, ⟨by (with_reducible repeat (first | refine blk_drewN ?_ _ | refine blk_drew ?_ | refine blk_alloc ?_ _)); refine bf4 ?_ ay.1; exact pbk ai.1⟩, ⟨by (with_reducible repeat (first | refine blk_drewN ?_ _ | refine blk_drew ?_ | refine blk_alloc ?_ _)); refine bf4 ?_ az.1; exact pbk ag.1⟩, ⟨by (with_reducible repeat (first | refine blk_drewN ?_ _ | refine blk_drew ?_ | refine blk_alloc ?_ _)); refine blk_put (cs := #[.string au, .slice ax aq.length aw, .slice a9 ao.length aV]) ?_ 2 _ rfl; (with_reducible repeat (first | refine blk_drewN ?_ _ | refine blk_drew ?_ | refine blk_alloc ?_ _)); exact bp3 (pbk al.1)⟩, ⟨pbg⟩⟩
 clear H'
 try clear dv ci cC cD cE dn dp
 obtain ⟨ap, ak, u580002, rfl, HA, ck, ab, aa, ae, ac, ai, ag, al, HB⟩ := hrel
 obtain _ | k2 := gk
 ·exact absurd HA.1 (by simp [petrinetlaw23_MincoverOrder.l0])
 have H := HA.1
 clear HA
 simp only [petrinetlaw23_MincoverOrder.l0] at H
 replace H := ifh H
 rcases H with ⟨b0, H⟩ | ⟨b0, H⟩
 ·replace H := ifp H
  obtain ⟨cU, H⟩ := H
  have cw := decide_eq_true cU
  clear cU
  replace H := ifp H
  obtain ⟨cV, H⟩ := H
  have cx := decide_eq_true cV
  clear cV
  replace H := ifp H
  obtain ⟨cW, H⟩ := H
  have cu := am cW
  clear cW
  obtain ⟨ch, bQ⟩ : ∃ y_ : List (S38), y_ = (ak ++ [(⟨(rd_T38 ao ap).f0, (rd_T38 ao ap).f1, (rd_T38 ao ap).f2, (rd_T38 ao ap).f3, (rd_T38 ao ap).f4⟩ : S38)]) := ⟨_, rfl⟩
  replace H : (petrinetlaw23_MincoverOrder.l0 k2 (wrap64 (ap - 1)) au aq ao au aq ch) = some r := hrp bQ H
  have cv := am bQ
  clear bQ
  have H' := am H
  clear H
  try go_wp2
  replace ab := am (Kd.V_drew ab.1)
  replace aa := am (Kd.V_drew aa.1)
  replace ae := am (Kd.V_drew ae.1)
  replace ac := am (Kd.N_drew ac.1)
  replace ai := am (blk_drew ai.1)
  replace ag := am (blk_drew ag.1)
  replace al := am (blk_drew al.1)
  replace HB := am (below_drew1 HB.1)
  have bR : 0 ≤ (ap : Int) := dq
  have bS : ap < (ao.length : Int) := dq
  obtain ⟨aA, bK, bN, bL, bO, bM, bP, cY, bm, aZ, a3, a4, bn, bD, bA, bE, bB, bF, bC⟩ := at_T38 (Kd.V_reads' aa.1).2.2 ap bR bS
  cases cY
  obtain ⟨dw, ca, b9, bl⟩ := Kd.V_get aa.1 z38 ap bR (by first | exact bS | exact dq | (have e_ := (Kd.V_reads' aa.1).1; omega))
  obtain ⟨cM, cP, cN, cQ, cO, cR, rfl, bo, bi, bp, bj, bq, bk⟩ := k38_openF b9
  have aW := bl 1 _ rfl
  rw [add_field _ _ 1 (by omega)] at aW
  replace aW := Option.some.inj (aW.symm.trans aZ)
  injection aW with hva_ hvn_ hvc_
  rw [hva_] at bi
  rw [hvc_] at bo
  have aC := am (show Kd.V k68 68 _ w.heap.size _ _ ((rd_T38 ao ap).f1) from Kd.V_mk bo bi)
  clear hva_ hvn_ hvc_ bi bo
  have aX := bl 2 _ rfl
  rw [add_field _ _ 2 (by omega)] at aX
  replace aX := Option.some.inj (aX.symm.trans a3)
  injection aX with hva_ hvn_ hvc_
  rw [hva_] at bj
  rw [hvc_] at bp
  have aD := am (show Kd.V k68 68 _ w.heap.size _ _ ((rd_T38 ao ap).f2) from Kd.V_mk bp bj)
  clear hva_ hvn_ hvc_ bj bp
  have aY := bl 3 _ rfl
  rw [add_field _ _ 3 (by omega)] at aY
  replace aY := Option.some.inj (aY.symm.trans a4)
  injection aY with hva_ hvn_ hvc_
  rw [hva_] at bk
  rw [hvc_] at bq
  have aE := am (show Kd.V k68 68 _ w.heap.size _ _ ((rd_T38 ao ap).f3) from Kd.V_mk bq bk)
  clear hva_ hvn_ hvc_ bk bq bl ca
  have bT := am bA
  have cF := am bD
  clear bA bD
  have bU := am bB
  have cG := am bE
  clear bB bE
  have bV := am bC
  have cH := am bF
  clear bC bF
  replace bR := eq_true bR
  replace bS := eq_true bS
  refine start_ (n := 11) (S := fun w' => w'.cell? ⟨af, 0, none⟩ = some (.string au) ∧ w'.cell? ⟨af, 1, none⟩ = some (.slice ax aq.length aw) ∧ w'.cell? ⟨af, 2, none⟩ = some (u580002) ∧ w'.cell? ⟨ah, 0, none⟩ = some (.string au) ∧ w'.cell? ⟨ah, 1, none⟩ = some (.slice ax aq.length aw) ∧ w'.cell? ⟨ah, 2, none⟩ = some (.slice (some aA) ao.length aV) ∧ w'.cell? (aA.add ((ap).toNat * 5)) = some (.string ((rd_T38 ao ap).f0)) ∧ w'.cell? ⟨(aA.add ((ap).toNat * 5)).block, (aA.add ((ap).toNat * 5)).off + 1, none⟩ = some (.slice bK ((rd_T38 ao ap).f1).length bN) ∧ w'.cell? ⟨(aA.add ((ap).toNat * 5)).block, (aA.add ((ap).toNat * 5)).off + 2, none⟩ = some (.slice bL ((rd_T38 ao ap).f2).length bO) ∧ w'.cell? ⟨(aA.add ((ap).toNat * 5)).block, (aA.add ((ap).toNat * 5)).off + 3, none⟩ = some (.slice bM ((rd_T38 ao ap).f3).length bP) ∧ w'.cell? ⟨(aA.add ((ap).toNat * 5)).block, (aA.add ((ap).toNat * 5)).off + 4, none⟩ = some (.int .i64 ((rd_T38 ao ap).f4))) (ds := [8, 10]) #[false, false, false, false, false, false, false, false, false, false, false] (by kernel_rfl) rfl rfl ⟨(blk_cell al.1 0).trans rfl, (blk_cell al.1 1).trans rfl, (blk_cell al.1 2).trans rfl, (blk_cell ag.1 0).trans rfl, (blk_cell ag.1 1).trans rfl, (blk_cell ag.1 2).trans rfl, bm, aZ, a3, a4, bn⟩ (fun hHeld => ?_); refine with_tabW petrinetlaw23_MincoverOrder.tab9 petrinetlaw23_MincoverOrder.bits9 (fun HT_ HW_ => ?_)
  generalize wr.drew = ek at ab aa ae ac ai ag al HB aC aD aE bT bU bV bm aZ a3 a4 bn hHeld ⊢
  refine pu HT_.1 0 36 ?_
  refine pu HT_.1 2 38 ?_
  refine pu HT_.1 4 40 ?_
  refine tk HT_.1 HW_.1 hHeld 1 37 ?_
  refine tk HT_.1 HW_.1 hHeld 3 39 ?_
  refine pu HT_.1 5 41 ?_
  refine tk HT_.1 HW_.1 hHeld 6 42 ?_
  refine on HT_.1 7 (some 43) rfl fun K hK => ?_
  refine value_ (w1 := ?_) (v := ?_) (by rfl) rfl ?_ ?_
  rotate_left 2
  ·go_simp
   constructor
   ·rfl
   ·rfl
  refine hK.out _ _ ⟨(blk_cell (blk_alloc al.1 _) 0).trans rfl, (blk_cell (blk_alloc al.1 _) 1).trans rfl, (blk_cell (blk_alloc al.1 _) 2).trans rfl, (blk_cell (blk_alloc ag.1 _) 0).trans rfl, (blk_cell (blk_alloc ag.1 _) 1).trans rfl, (blk_cell (blk_alloc ag.1 _) 2).trans rfl, (World.cell?_alloc_lt _ _ _ (World.block_lt_of_cell? _ _ (hHeld.2.2.2.2.2.2.1))).trans (hHeld.2.2.2.2.2.2.1), (World.cell?_alloc_lt _ _ _ (World.block_lt_of_cell? _ _ (hHeld.2.2.2.2.2.2.2.1))).trans (hHeld.2.2.2.2.2.2.2.1), (World.cell?_alloc_lt _ _ _ (World.block_lt_of_cell? _ _ (hHeld.2.2.2.2.2.2.2.2.1))).trans (hHeld.2.2.2.2.2.2.2.2.1), (World.cell?_alloc_lt _ _ _ (World.block_lt_of_cell? _ _ (hHeld.2.2.2.2.2.2.2.2.2.1))).trans (hHeld.2.2.2.2.2.2.2.2.2.1), (World.cell?_alloc_lt _ _ _ (World.block_lt_of_cell? _ _ (hHeld.2.2.2.2.2.2.2.2.2.2))).trans (hHeld.2.2.2.2.2.2.2.2.2.2)⟩ (fun hHeld => ?_)
  clear hK K
  refine nm_ 43 ?_
  refine la HT_.1 8 (some 44) rfl fun K hK => ?_
  refine Kd.N_append_step k38 (w0 := w) w.heap.size (by rfl) (.tmp 37) (.tmp 43) 23 38 (.agg #[(.string ⟨#[]⟩), (.slice none 0 0), (.slice none 0 0), (.slice none 0 0), (.int .i64 0)]) 96 rfl Try.underlying23 info38 rfl (by decide) (by omega) u580002 ak (⟨(rd_T38 ao ap).f0, (rd_T38 ao ap).f1, (rd_T38 ao ap).f2, (rd_T38 ao ap).f3, (rd_T38 ao ap).f4⟩ : S38) [.string ((rd_T38 ao ap).f0), .slice bK ((rd_T38 ao ap).f1).length bN, .slice bL ((rd_T38 ao ap).f2).length bO, .slice bM ((rd_T38 ao ap).f3).length bP, .int .i64 ((rd_T38 ao ap).f4)] (fun k_ => k_ ≠ aj ∧ k_ ≠ ah ∧ k_ ≠ af) (fun k_ => ((fun k_ => k_ ≠ aj ∧ k_ ≠ ah ∧ k_ ≠ af)) k_ ∧ some k_ ≠ (u580002 : Value).ownBlock) rfl rfl ?aP (fun _ hk => hk) ?aF ?aO ?aB ?aS ?aL ?_
  (case aP => exact (k38_mkF _ _ (⟨(rd_T38 ao ap).f0, (rd_T38 ao ap).f1, (rd_T38 ao ap).f2, (rd_T38 ao ap).f3, (rd_T38 ao ap).f4⟩ : S38) (Kd.V_reads' (Kd.V_mono (ok' := (fun k_ => ((fun k_ => k_ ≠ aj ∧ k_ ≠ ah ∧ k_ ≠ af)) k_ ∧ some k_ ≠ (u580002 : Value).ownBlock)) (aC.1) (fun k_ hk => ⟨⟨hk.2.1, ⟨hk.2.2.1, hk.2.2.2⟩⟩, hk.1⟩))).2.1 (Kd.V_F (Kd.V_mono (ok' := (fun k_ => ((fun k_ => k_ ≠ aj ∧ k_ ≠ ah ∧ k_ ≠ af)) k_ ∧ some k_ ≠ (u580002 : Value).ownBlock)) (aC.1) (fun k_ hk => ⟨⟨hk.2.1, ⟨hk.2.2.1, hk.2.2.2⟩⟩, hk.1⟩))) (Kd.V_reads' (Kd.V_mono (ok' := (fun k_ => ((fun k_ => k_ ≠ aj ∧ k_ ≠ ah ∧ k_ ≠ af)) k_ ∧ some k_ ≠ (u580002 : Value).ownBlock)) (aD.1) (fun k_ hk => ⟨⟨hk.2.1, ⟨hk.2.2.1, hk.2.2.2⟩⟩, hk.1⟩))).2.1 (Kd.V_F (Kd.V_mono (ok' := (fun k_ => ((fun k_ => k_ ≠ aj ∧ k_ ≠ ah ∧ k_ ≠ af)) k_ ∧ some k_ ≠ (u580002 : Value).ownBlock)) (aD.1) (fun k_ hk => ⟨⟨hk.2.1, ⟨hk.2.2.1, hk.2.2.2⟩⟩, hk.1⟩))) (Kd.V_reads' (Kd.V_mono (ok' := (fun k_ => ((fun k_ => k_ ≠ aj ∧ k_ ≠ ah ∧ k_ ≠ af)) k_ ∧ some k_ ≠ (u580002 : Value).ownBlock)) (aE.1) (fun k_ hk => ⟨⟨hk.2.1, ⟨hk.2.2.1, hk.2.2.2⟩⟩, hk.1⟩))).2.1 (Kd.V_F (Kd.V_mono (ok' := (fun k_ => ((fun k_ => k_ ≠ aj ∧ k_ ≠ ah ∧ k_ ≠ af)) k_ ∧ some k_ ≠ (u580002 : Value).ownBlock)) (aE.1) (fun k_ hk => ⟨⟨hk.2.1, ⟨hk.2.2.1, hk.2.2.2⟩⟩, hk.1⟩)))))
  (case aB => exact pbg)
  (case aF => exact (fun k_ hk => ⟨Kd.freshB (g := aj) (o := .cells #[.string aU, .slice a7 aH.length ba, .slice a8 aI.length bb] 25 (0, 0)) (by exact pbk ai.1) k_ hk, Kd.freshB (g := ah) (o := .cells #[.string au, .slice ax aq.length aw, .slice (some aA) ao.length aV] 25 (0, 0)) (by exact pbk ag.1) k_ hk, Kd.freshB (g := af) (o := .cells #[.string au, .slice ax aq.length aw, u580002] 25 (0, 0)) (by exact pbk al.1) k_ hk⟩))
  (case aO => exact (pkn ac.1))
  (case aS => exact (below_size pbg))
  (case aL => have := cu.1; omega)
  intro d7 d9 ho hb hg hat
  rw [← cv.1] at ho
  have n0_ := am (Kd.V_afterv (ok := (fun k_ => k_ ≠ aj ∧ k_ ≠ ah ∧ k_ ≠ af)) (by (with_reducible repeat (first | apply Kd.V_alloc | apply Kd.V_drewN | apply Kd.V_drew)); exact Kd.V_mono ab.1 (fun _ hk => ⟨⟨hk.2.1, ⟨hk.2.2.1, hk.2.2.2⟩⟩, hk.1⟩)) hg hat)
  have n1_ := am (Kd.V_afterv (ok := (fun k_ => k_ ≠ aj ∧ k_ ≠ ah ∧ k_ ≠ af)) (by (with_reducible repeat (first | apply Kd.V_alloc | apply Kd.V_drewN | apply Kd.V_drew)); exact Kd.V_mono aa.1 (fun _ hk => ⟨⟨hk.2.1, ⟨hk.2.2.1, hk.2.2.2⟩⟩, hk.1⟩)) hg hat)
  have n2_ := am (Kd.V_afterv (ok := (fun k_ => k_ ≠ aj ∧ k_ ≠ ah ∧ k_ ≠ af)) (by (with_reducible repeat (first | apply Kd.V_alloc | apply Kd.V_drewN | apply Kd.V_drew)); exact Kd.V_mono ae.1 (fun _ hk => ⟨⟨hk.2.1, ⟨hk.2.2.1, hk.2.2.2⟩⟩, hk.1⟩)) hg hat)
  have n3_ := (bgr ai hg (Kd.N_ne ac.1 ai.1 (by decide)))
  have n4_ := (bgr ag hg (Kd.N_ne ac.1 ag.1 (by decide)))
  have n5_ := (bgr al hg (Kd.N_ne ac.1 al.1 (by decide)))
  have n6_ := am (Kd.V_afterv (ok := (fun k_ => k_ ≠ aj ∧ k_ ≠ ah ∧ k_ ≠ af)) (by (with_reducible repeat (first | apply Kd.V_alloc | apply Kd.V_drewN | apply Kd.V_drew)); exact Kd.V_mono aC.1 (fun _ hk => ⟨⟨hk.2.1, ⟨hk.2.2.1, hk.2.2.2⟩⟩, hk.1⟩)) hg hat)
  have n7_ := am (Kd.V_afterv (ok := (fun k_ => k_ ≠ aj ∧ k_ ≠ ah ∧ k_ ≠ af)) (by (with_reducible repeat (first | apply Kd.V_alloc | apply Kd.V_drewN | apply Kd.V_drew)); exact Kd.V_mono aD.1 (fun _ hk => ⟨⟨hk.2.1, ⟨hk.2.2.1, hk.2.2.2⟩⟩, hk.1⟩)) hg hat)
  have n8_ := am (Kd.V_afterv (ok := (fun k_ => k_ ≠ aj ∧ k_ ≠ ah ∧ k_ ≠ af)) (by (with_reducible repeat (first | apply Kd.V_alloc | apply Kd.V_drewN | apply Kd.V_drew)); exact Kd.V_mono aE.1 (fun _ hk => ⟨⟨hk.2.1, ⟨hk.2.2.1, hk.2.2.2⟩⟩, hk.1⟩)) hg hat)
  have n9_ := am hb
  have n10_ := am ho
  clear ab aa ae ai ag al aC aD aE HB ac
  have ab := n0_
  have aa := n1_
  have ae := n2_
  have ai := n3_
  have ag := n4_
  have al := n5_
  have aC := n6_
  have aD := n7_
  have aE := n8_
  have HB := n9_
  have bZ := n10_
  clear n0_ n1_ n2_ n3_ n4_ n5_ n6_ n7_ n8_ n9_ n10_ ho hb hg hat
  obtain ⟨cS, cX, cy⟩ := Kd.N_slice bZ.1
  (first | subst cy | (injection cy with f1_ f2_ f3_; have f4_ := f1_.symm; have f5_ := f3_.symm; clear f1_ f2_ f3_; subst f4_; subst f5_))
  refine hK.out _ _ ?_
  clear hK K
  refine nm_ 44 ?_
  refine pu HT_.1 9 45 ?_
  refine la HT_.1 10 none rfl fun K hK => ?_
  have d1 : d9.cell? ⟨af, 2, none⟩ = some (u580002) := (blk_cell al.1 2).trans rfl
  have dx := blk_frozen al.1 2
  have cK := ay.1
  have cL := az.1
  have cI := aR.1
  have cJ := aT.1
  refine skip_ (w1 := ?_) (by rfl) rfl ?_ ?_
  rotate_left
  ·go_simp
   rfl
  refine hK.out _ _ ?_
  clear hK K
  refine done_ (done_of HT_.1 (by kernel_rfl)) ?_
  try go_wp2
  go_roundg k2
  case measure => have := cj.1; have := ck.1; omega
  case rel => exact ⟨(wrap64 (ap - 1)), (ch), (.slice cS ch.length cX), prs, H', ⟨by have := cj.1; have := ck.1; omega⟩, ⟨by (with_reducible repeat (first | apply Kd.V_alloc | apply Kd.V_drewN | apply Kd.V_drew)); exact Kd.V_mono (Kd.V_far (p := ⟨af, 2, none⟩) (Kd.V_mono ab.1 (fun k_ hk => (⟨hk, hk.1.2.2⟩ : _ ∧ k_ ≠ af))) (fun _ hk => hk.2) _) (fun _ hk => ⟨hk.1.2, ⟨hk.1.1.1, ⟨hk.1.1.2.1, hk.1.1.2.2⟩⟩⟩)⟩, ⟨by (with_reducible repeat (first | apply Kd.V_alloc | apply Kd.V_drewN | apply Kd.V_drew)); exact Kd.V_mono (Kd.V_far (p := ⟨af, 2, none⟩) (Kd.V_mono aa.1 (fun k_ hk => (⟨hk, hk.1.2.2⟩ : _ ∧ k_ ≠ af))) (fun _ hk => hk.2) _) (fun _ hk => ⟨hk.1.2, ⟨hk.1.1.1, ⟨hk.1.1.2.1, hk.1.1.2.2⟩⟩⟩)⟩, ⟨by (with_reducible repeat (first | apply Kd.V_alloc | apply Kd.V_drewN | apply Kd.V_drew)); exact Kd.V_mono (Kd.V_far (p := ⟨af, 2, none⟩) (Kd.V_mono ae.1 (fun k_ hk => (⟨hk, hk.1.2.2⟩ : _ ∧ k_ ≠ af))) (fun _ hk => hk.2) _) (fun _ hk => ⟨hk.1.2, ⟨hk.1.1.1, ⟨hk.1.1.2.1, hk.1.1.2.2⟩⟩⟩)⟩, ⟨by (with_reducible repeat (first | apply Kd.N_alloc | apply Kd.N_drewN | apply Kd.N_drew)); exact Kd.N_mono (Kd.N_far (p := ⟨af, 2, none⟩) (Kd.N_mono bZ.1 (fun k_ hk => (⟨hk, hk.2.2⟩ : _ ∧ k_ ≠ af))) (fun _ hk => hk.2) _) (fun _ hk => ⟨hk.1.1, ⟨hk.1.2.1, hk.1.2.2⟩⟩)⟩, ⟨by (with_reducible repeat (first | refine blk_drewN ?_ _ | refine blk_drew ?_ | refine blk_alloc ?_ _)); refine blk_far ?_ ay.1 _; exact pbk ai.1⟩, ⟨by (with_reducible repeat (first | refine blk_drewN ?_ _ | refine blk_drew ?_ | refine blk_alloc ?_ _)); refine blk_far ?_ az.1 _; exact pbk ag.1⟩, ⟨by (with_reducible repeat (first | refine blk_drewN ?_ _ | refine blk_drew ?_ | refine blk_alloc ?_ _)); refine blk_put (cs := #[.string au, .slice ax aq.length aw, u580002]) ?_ 2 _ rfl; exact pbk al.1⟩, ⟨pbg⟩⟩
 replace H := bnd H
 obtain ⟨⟨bX, cA, dj⟩, dO, H⟩ := H
 (try dsimp only at H)
 replace H := bnd H
 obtain ⟨⟨bY, cB, dk⟩, dP, H⟩ := H
 (try dsimp only at H)
 have b8 := am H
 clear H
 have dD := aG.1
 have dK := av.1
 have dE := az.1
 have dL := aT.1
 have dl := cf3 ag.1
 go_upto_region 12 with (first | ((with_reducible refine gate_callee (f := 14) rfl ?_); refine gC 48 Try.func14 _ (mincover_Set.calls k2 au _ _ aq _ _ ao 200 bX cA dj _ (csd ((Kd.V_reads' ab.1).2.2)) ((Kd.V_reads' ab.1).2.1) (csd ((Kd.V_reads' aa.1).2.2)) ((Kd.V_reads' aa.1).2.1) dO.1) ?_; rintro e el ⟨bx, rfl, bv, hb⟩; refine ⟨_, rfl, ?_⟩; have a5 := am (Kd.N_lower (Kd.N_mono (ok' := fun k_ => some k_ ≠ (u580002 : Value).ownBlock ∧ k_ ≠ aj ∧ k_ ≠ ah ∧ k_ ≠ af) bv (fun k_ hk_ => ⟨(Kd.fresh' (Kd.N_lt (pkn ac.1)) k_ hk_), (Kd.freshB (g := aj) (o := .cells #[.string aU, .slice a7 aH.length ba, .slice a8 aI.length bb] 25 (0, 0)) (by exact pbk ai.1) k_ hk_), (Kd.freshB (g := ah) (o := .cells #[.string au, .slice ax aq.length aw, .slice a9 ao.length aV] 25 (0, 0)) (by exact pbk ag.1) k_ hk_), (Kd.freshB (g := af) (o := .cells #[.string au, .slice ax aq.length aw, u580002] 25 (0, 0)) (by exact pbk al.1) k_ hk_)⟩)) (below_size pbg)); replace ab := am (Kd.V_elder' (pkv ab.1) (Kd.N_base bv) hb); replace aa := am (Kd.V_elder' (pkv aa.1) (Kd.N_base bv) hb); replace ae := am (Kd.V_elder' (pkv ae.1) (Kd.N_base bv) hb); replace ac := am (Kd.N_elder' (pkn ac.1) (Kd.N_base bv) hb); replace ai := bbh ai hb; replace ag := bbh ag hb; replace al := bbh al hb; replace HB := bst hb; (try clear hb); (try clear bv); have dF := aR.1; have dM := ay.1; have dm := cf3 al.1; obtain ⟨bg, bh, db⟩ := Kd.N_slice ac.1; subst db) | ((with_reducible refine gate_callee (f := 14) rfl ?_); refine gC 54 Try.func14 _ (mincover_Set.calls k2 au _ _ aq _ _ ak 200 bY cB dk _ (csd ((Kd.V_reads' ae.1).2.2)) ((Kd.V_reads' ae.1).2.1) (csd ((Kd.N_reads' ac.1).2.2)) ((Kd.N_reads' ac.1).2.1) dP.1) ?_; rintro e em ⟨bJ, rfl, bv, hb⟩; refine ⟨_, rfl, ?_⟩; have bz := am (Kd.N_lower (Kd.N_mono (ok' := fun k_ => some k_ ≠ (.slice bg ak.length bh : Value).ownBlock ∧ some k_ ≠ (bx : Value).ownBlock ∧ k_ ≠ aj ∧ k_ ≠ ah ∧ k_ ≠ af) bv (fun k_ hk_ => ⟨(Kd.fresh' (Kd.N_lt (pkn ac.1)) k_ hk_), (Kd.fresh' (Kd.N_lt (pkn a5.1)) k_ hk_), (Kd.freshB (g := aj) (o := .cells #[.string aU, .slice a7 aH.length ba, .slice a8 aI.length bb] 25 (0, 0)) (by exact pbk ai.1) k_ hk_), (Kd.freshB (g := ah) (o := .cells #[.string au, .slice ax aq.length aw, .slice a9 ao.length aV] 25 (0, 0)) (by exact pbk ag.1) k_ hk_), (Kd.freshB (g := af) (o := .cells #[.string au, .slice ax aq.length aw, .slice bg ak.length bh] 25 (0, 0)) (by exact pbk al.1) k_ hk_)⟩)) (below_size pbg)); replace ab := am (Kd.V_elder' (pkv ab.1) (Kd.N_base bv) hb); replace aa := am (Kd.V_elder' (pkv aa.1) (Kd.N_base bv) hb); replace ae := am (Kd.V_elder' (pkv ae.1) (Kd.N_base bv) hb); replace ac := am (Kd.N_elder' (pkn ac.1) (Kd.N_base bv) hb); replace a5 := am (Kd.N_elder' (pkn a5.1) (Kd.N_base bv) hb); replace ai := bbh ai hb; replace ag := bbh ag hb; replace al := bbh al hb; replace HB := bst hb; (try clear hb); (try clear bv)))
 (try simp only [Act.put, List.setIfInBounds_toArray, List.set_cons_zero, List.set_cons_succ])
 go_cut [71] (fun d8 wc => ∃ (kq : Nat) (bs : Bool), d8 = .bool bs ∧ Aside0 (petrinetlaw23_MincoverOrder.j2 kq bX bY bs = some r) ∧ Aside0 (kq ≤ k2) ∧ Aside0 (Kd.N (Kd.slice 3 (Kd.int .i64)) 39 wc w.heap.size (fun k_ => some k_ ≠ (bJ : Value).ownBlock ∧ some k_ ≠ ((.slice bg ak.length bh) : Value).ownBlock ∧ k_ ≠ aj ∧ k_ ≠ ah ∧ k_ ≠ af) bx bX) ∧ Aside0 (Kd.N (Kd.slice 3 (Kd.int .i64)) 39 wc w.heap.size (fun k_ => some k_ ≠ (bx : Value).ownBlock ∧ some k_ ≠ ((.slice bg ak.length bh) : Value).ownBlock ∧ k_ ≠ aj ∧ k_ ≠ ah ∧ k_ ≠ af) bJ bY) ∧ Aside0 (Kd.V k64 64 wc w.heap.size (fun k_ => some k_ ≠ (bx : Value).ownBlock ∧ some k_ ≠ (bJ : Value).ownBlock ∧ some k_ ≠ ((.slice bg ak.length bh) : Value).ownBlock ∧ k_ ≠ aj ∧ k_ ≠ ah ∧ k_ ≠ af) (.slice ax aq.length aw) aq) ∧ Aside0 (Kd.V k38 38 wc w.heap.size (fun k_ => some k_ ≠ (bx : Value).ownBlock ∧ some k_ ≠ (bJ : Value).ownBlock ∧ some k_ ≠ ((.slice bg ak.length bh) : Value).ownBlock ∧ k_ ≠ aj ∧ k_ ≠ ah ∧ k_ ≠ af) (.slice a9 ao.length aV) ao) ∧ Aside0 (Kd.V k64 64 wc w.heap.size (fun k_ => some k_ ≠ (bx : Value).ownBlock ∧ some k_ ≠ (bJ : Value).ownBlock ∧ some k_ ≠ ((.slice bg ak.length bh) : Value).ownBlock ∧ k_ ≠ aj ∧ k_ ≠ ah ∧ k_ ≠ af) (.slice ax aq.length aw) aq) ∧ Aside0 (Kd.N k38 38 wc w.heap.size (fun k_ => some k_ ≠ (bx : Value).ownBlock ∧ some k_ ≠ (bJ : Value).ownBlock ∧ k_ ≠ aj ∧ k_ ≠ ah ∧ k_ ≠ af) (.slice bg ak.length bh) ak) ∧ Aside0 (wc.heap[aj]? = some (.cells #[.string aU, (.slice a7 aH.length ba), (.slice a8 aI.length bb)] 25 (0, 0))) ∧ Aside0 (wc.heap[ah]? = some (.cells #[.string au, (.slice ax aq.length aw), (.slice a9 ao.length aV)] 25 (0, 0))) ∧ Aside0 (wc.heap[af]? = some (.cells #[.string au, (.slice ax aq.length aw), (.slice bg ak.length bh)] 25 (0, 0))) ∧ Aside0 (Below w.heap.size w wc))
 case first =>
  have H := b8.1
  clear b8
  replace H := ife H
  rcases H with ⟨bf, b1, H⟩ | ⟨bf, b1, H⟩
  rotate_left
  ·(first | rw [bf] | (simp only [i64_w, i32_w]; rw [bf]) | skip)
   have H' := am H
   clear H
   go_wp2
   go_meet
   case rel => exact ⟨_, (true), prs, H', ⟨by have := cj.1; have := ck.1; first | omega | exact Nat.le_refl _⟩, ⟨by (with_reducible repeat (first | apply Kd.N_alloc | apply Kd.N_drewN | apply Kd.N_drew)); exact Kd.N_mono a5.1 (fun _ hk => ⟨hk.2, ⟨hk.1.1, ⟨hk.1.2.1, ⟨hk.1.2.2.1, hk.1.2.2.2⟩⟩⟩⟩)⟩, ⟨by (with_reducible repeat (first | apply Kd.N_alloc | apply Kd.N_drewN | apply Kd.N_drew)); exact Kd.N_mono bz.1 (fun _ hk => ⟨hk.2.1, ⟨hk.1, ⟨hk.2.2.1, ⟨hk.2.2.2.1, hk.2.2.2.2⟩⟩⟩⟩)⟩, ⟨by (with_reducible repeat (first | apply Kd.V_alloc | apply Kd.V_drewN | apply Kd.V_drew)); exact Kd.V_mono ab.1 (fun _ hk => ⟨hk.1.2, ⟨hk.2, ⟨hk.1.1.1, ⟨hk.1.1.2.1, ⟨hk.1.1.2.2.1, hk.1.1.2.2.2⟩⟩⟩⟩⟩)⟩, ⟨by (with_reducible repeat (first | apply Kd.V_alloc | apply Kd.V_drewN | apply Kd.V_drew)); exact Kd.V_mono aa.1 (fun _ hk => ⟨hk.1.2, ⟨hk.2, ⟨hk.1.1.1, ⟨hk.1.1.2.1, ⟨hk.1.1.2.2.1, hk.1.1.2.2.2⟩⟩⟩⟩⟩)⟩, ⟨by (with_reducible repeat (first | apply Kd.V_alloc | apply Kd.V_drewN | apply Kd.V_drew)); exact Kd.V_mono ae.1 (fun _ hk => ⟨hk.1.2, ⟨hk.2, ⟨hk.1.1.1, ⟨hk.1.1.2.1, ⟨hk.1.1.2.2.1, hk.1.1.2.2.2⟩⟩⟩⟩⟩)⟩, ⟨by (with_reducible repeat (first | apply Kd.N_alloc | apply Kd.N_drewN | apply Kd.N_drew)); exact Kd.N_mono ac.1 (fun _ hk => ⟨hk.1.2, ⟨hk.2, ⟨hk.1.1.1, ⟨hk.1.1.2.1, hk.1.1.2.2⟩⟩⟩⟩)⟩, ⟨pbk ai.1⟩, ⟨pbk ag.1⟩, ⟨pbk al.1⟩, ⟨pbg⟩⟩
  (first | rw [bf] | (simp only [i64_w, i32_w]; rw [bf]) | skip)
  replace H := ife H
  rcases H with ⟨b2, b3, H⟩ | ⟨b2, b3, H⟩
  rotate_left
  ·have H' := am H
   clear H
   go_wp2
   go_meet
   case rel => exact ⟨_, (true), prs, H', ⟨by have := cj.1; have := ck.1; first | omega | exact Nat.le_refl _⟩, ⟨by (with_reducible repeat (first | apply Kd.N_alloc | apply Kd.N_drewN | apply Kd.N_drew)); exact Kd.N_mono a5.1 (fun _ hk => ⟨hk.2, ⟨hk.1.1, ⟨hk.1.2.1, ⟨hk.1.2.2.1, hk.1.2.2.2⟩⟩⟩⟩)⟩, ⟨by (with_reducible repeat (first | apply Kd.N_alloc | apply Kd.N_drewN | apply Kd.N_drew)); exact Kd.N_mono bz.1 (fun _ hk => ⟨hk.2.1, ⟨hk.1, ⟨hk.2.2.1, ⟨hk.2.2.2.1, hk.2.2.2.2⟩⟩⟩⟩)⟩, ⟨by (with_reducible repeat (first | apply Kd.V_alloc | apply Kd.V_drewN | apply Kd.V_drew)); exact Kd.V_mono ab.1 (fun _ hk => ⟨hk.1.2, ⟨hk.2, ⟨hk.1.1.1, ⟨hk.1.1.2.1, ⟨hk.1.1.2.2.1, hk.1.1.2.2.2⟩⟩⟩⟩⟩)⟩, ⟨by (with_reducible repeat (first | apply Kd.V_alloc | apply Kd.V_drewN | apply Kd.V_drew)); exact Kd.V_mono aa.1 (fun _ hk => ⟨hk.1.2, ⟨hk.2, ⟨hk.1.1.1, ⟨hk.1.1.2.1, ⟨hk.1.1.2.2.1, hk.1.1.2.2.2⟩⟩⟩⟩⟩)⟩, ⟨by (with_reducible repeat (first | apply Kd.V_alloc | apply Kd.V_drewN | apply Kd.V_drew)); exact Kd.V_mono ae.1 (fun _ hk => ⟨hk.1.2, ⟨hk.2, ⟨hk.1.1.1, ⟨hk.1.1.2.1, ⟨hk.1.1.2.2.1, hk.1.1.2.2.2⟩⟩⟩⟩⟩)⟩, ⟨by (with_reducible repeat (first | apply Kd.N_alloc | apply Kd.N_drewN | apply Kd.N_drew)); exact Kd.N_mono ac.1 (fun _ hk => ⟨hk.1.2, ⟨hk.2, ⟨hk.1.1.1, ⟨hk.1.1.2.1, hk.1.1.2.2⟩⟩⟩⟩)⟩, ⟨pbk ai.1⟩, ⟨pbk ag.1⟩, ⟨pbk al.1⟩, ⟨pbg⟩⟩
  cases cA
  rotate_left
  ·rw [if_pos rfl] at H
   have H' := am H
   clear H
   go_wp2
   go_meet
   case rel => exact ⟨_, (!cB), prs, H', ⟨by have := cj.1; have := ck.1; first | omega | exact Nat.le_refl _⟩, ⟨by (with_reducible repeat (first | apply Kd.N_alloc | apply Kd.N_drewN | apply Kd.N_drew)); exact Kd.N_mono a5.1 (fun _ hk => ⟨hk.2, ⟨hk.1.1, ⟨hk.1.2.1, ⟨hk.1.2.2.1, hk.1.2.2.2⟩⟩⟩⟩)⟩, ⟨by (with_reducible repeat (first | apply Kd.N_alloc | apply Kd.N_drewN | apply Kd.N_drew)); exact Kd.N_mono bz.1 (fun _ hk => ⟨hk.2.1, ⟨hk.1, ⟨hk.2.2.1, ⟨hk.2.2.2.1, hk.2.2.2.2⟩⟩⟩⟩)⟩, ⟨by (with_reducible repeat (first | apply Kd.V_alloc | apply Kd.V_drewN | apply Kd.V_drew)); exact Kd.V_mono ab.1 (fun _ hk => ⟨hk.1.2, ⟨hk.2, ⟨hk.1.1.1, ⟨hk.1.1.2.1, ⟨hk.1.1.2.2.1, hk.1.1.2.2.2⟩⟩⟩⟩⟩)⟩, ⟨by (with_reducible repeat (first | apply Kd.V_alloc | apply Kd.V_drewN | apply Kd.V_drew)); exact Kd.V_mono aa.1 (fun _ hk => ⟨hk.1.2, ⟨hk.2, ⟨hk.1.1.1, ⟨hk.1.1.2.1, ⟨hk.1.1.2.2.1, hk.1.1.2.2.2⟩⟩⟩⟩⟩)⟩, ⟨by (with_reducible repeat (first | apply Kd.V_alloc | apply Kd.V_drewN | apply Kd.V_drew)); exact Kd.V_mono ae.1 (fun _ hk => ⟨hk.1.2, ⟨hk.2, ⟨hk.1.1.1, ⟨hk.1.1.2.1, ⟨hk.1.1.2.2.1, hk.1.1.2.2.2⟩⟩⟩⟩⟩)⟩, ⟨by (with_reducible repeat (first | apply Kd.N_alloc | apply Kd.N_drewN | apply Kd.N_drew)); exact Kd.N_mono ac.1 (fun _ hk => ⟨hk.1.2, ⟨hk.2, ⟨hk.1.1.1, ⟨hk.1.1.2.1, hk.1.1.2.2⟩⟩⟩⟩)⟩, ⟨pbk ai.1⟩, ⟨pbk ag.1⟩, ⟨pbk al.1⟩, ⟨pbg⟩⟩
  rw [if_neg Bool.false_ne_true] at H
  have H' := am H
  clear H
  go_wp2
  go_meet
  case rel => exact ⟨_, (true), prs, H', ⟨by have := cj.1; have := ck.1; first | omega | exact Nat.le_refl _⟩, ⟨by (with_reducible repeat (first | apply Kd.N_alloc | apply Kd.N_drewN | apply Kd.N_drew)); exact Kd.N_mono a5.1 (fun _ hk => ⟨hk.2, ⟨hk.1.1, ⟨hk.1.2.1, ⟨hk.1.2.2.1, hk.1.2.2.2⟩⟩⟩⟩)⟩, ⟨by (with_reducible repeat (first | apply Kd.N_alloc | apply Kd.N_drewN | apply Kd.N_drew)); exact Kd.N_mono bz.1 (fun _ hk => ⟨hk.2.1, ⟨hk.1, ⟨hk.2.2.1, ⟨hk.2.2.2.1, hk.2.2.2.2⟩⟩⟩⟩)⟩, ⟨by (with_reducible repeat (first | apply Kd.V_alloc | apply Kd.V_drewN | apply Kd.V_drew)); exact Kd.V_mono ab.1 (fun _ hk => ⟨hk.1.2, ⟨hk.2, ⟨hk.1.1.1, ⟨hk.1.1.2.1, ⟨hk.1.1.2.2.1, hk.1.1.2.2.2⟩⟩⟩⟩⟩)⟩, ⟨by (with_reducible repeat (first | apply Kd.V_alloc | apply Kd.V_drewN | apply Kd.V_drew)); exact Kd.V_mono aa.1 (fun _ hk => ⟨hk.1.2, ⟨hk.2, ⟨hk.1.1.1, ⟨hk.1.1.2.1, ⟨hk.1.1.2.2.1, hk.1.1.2.2.2⟩⟩⟩⟩⟩)⟩, ⟨by (with_reducible repeat (first | apply Kd.V_alloc | apply Kd.V_drewN | apply Kd.V_drew)); exact Kd.V_mono ae.1 (fun _ hk => ⟨hk.1.2, ⟨hk.2, ⟨hk.1.1.1, ⟨hk.1.1.2.1, ⟨hk.1.1.2.2.1, hk.1.1.2.2.2⟩⟩⟩⟩⟩)⟩, ⟨by (with_reducible repeat (first | apply Kd.N_alloc | apply Kd.N_drewN | apply Kd.N_drew)); exact Kd.N_mono ac.1 (fun _ hk => ⟨hk.1.2, ⟨hk.2, ⟨hk.1.1.1, ⟨hk.1.1.2.1, hk.1.1.2.2⟩⟩⟩⟩)⟩, ⟨pbk ai.1⟩, ⟨pbk ag.1⟩, ⟨pbk al.1⟩, ⟨pbg⟩⟩
 clear b8
 try clear dv ed b0 cU cw cV cx cW ee bf b1 ef b2 b3 eg ci cC cD cE dl dm dn dp bm aZ a3 a4 bn bR bS
 obtain ⟨kq, bs, rfl, HA, dW, bw, a6, ab, aa, ae, ac, ai, ag, al, HB⟩ := hcut
 obtain _ | cb := kq
 ·exact absurd HA.1 (by simp [petrinetlaw23_MincoverOrder.j2])
 have H := HA.1
 clear HA
 simp only [petrinetlaw23_MincoverOrder.j2] at H
 cases bs
 rotate_left
 ·rw [if_pos rfl] at H
  replace H := bnd H
  obtain ⟨ce, dQ, H⟩ := H
  (try dsimp only at H)
  obtain rfl := Option.some.inj H
  go_wp2_with (first | ((with_reducible refine gate_callee (f := 13) rfl ?_); refine gC 72 Try.func13 _ (petrinetlaw23_exampleHolds.calls cb  ce _ dQ.1) ?_; rintro e en ⟨rfl, hb⟩; refine ⟨_, rfl, ?_⟩; replace bw := nbw bw hb; replace a6 := nbw a6 hb; replace ab := vbw ab hb; replace aa := vbw aa hb; replace ae := vbw ae hb; replace ac := nbw ac hb; replace ai := bbh ai hb; replace ag := bbh ag hb; replace al := bbh al hb; replace HB := bst hb; (try clear hb)))
  go_ret
  exact ⟨per, pbg⟩
 rw [if_neg Bool.false_ne_true] at H
 replace H := bnd H
 obtain ⟨cf, dR, H⟩ := H
 (try dsimp only at H)
 cases cf
 ·rw [if_neg Bool.false_ne_true] at H
  exact absurd H (by simp)
 rw [if_pos rfl] at H
 replace H := bnd H
 obtain ⟨cg, dS, H⟩ := H
 (try dsimp only at H)
 obtain rfl := Option.some.inj H
 obtain ⟨dU, dX, dc⟩ := Kd.N_slice bw.1
 subst dc
 obtain ⟨dV, dY, de⟩ := Kd.N_slice a6.1
 subst de
 go_wp2_with (first | ((with_reducible refine gate_callee (f := 16) rfl ?_); refine gC 75 Try.func16 _ (r04_Lists.calls cb _ _ bX _ _ bY true _ (csd ((Kd.N_reads' bw.1).2.2)) ((Kd.N_reads' bw.1).2.1) (csd ((Kd.N_reads' a6.1).2.2)) ((Kd.N_reads' a6.1).2.1) dR.1) ?_; rintro e w' ⟨rfl, ⟨nd, rfl⟩⟩; refine ⟨_, rfl, ?_⟩) | (go_at_call 13; (with_reducible refine (petrinetlaw23_exampleHolds.calls cb  cg _ dS.1).mono ?_); rintro e eo ⟨rfl, hb⟩; replace bw := nbw bw hb; replace a6 := nbw a6 hb; replace ab := vbw ab hb; replace aa := vbw aa hb; replace ae := vbw ae hb; replace ac := nbw ac hb; replace ai := bbh ai hb; replace ag := bbh ag hb; replace al := bbh al hb; replace HB := bst hb; (try clear hb)))
 go_ret
 exact ⟨per, pbg⟩

end Go.Proofs.Ytaoogghpadifiaa.P
