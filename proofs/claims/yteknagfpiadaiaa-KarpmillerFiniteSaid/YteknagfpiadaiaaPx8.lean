-- LAID BY OUR PROGRAM OVER THE PRINT (xprint.py, part.py): Lean checks it.
import Derived.Test.YteknagfpiadaiaaPx0
import Derived.Test.YteknagfpiadaiaaPx1
namespace Go.Proofs.Yteknagfpiadaiaa.P
open Go.RowKit Go.Proofs.YteknagfpiadaiaaW.PrintWords Go.Proofs.YteknagfpiadaiaaW.PrintLast Go.Proofs.YteknagfpiadaiaaW.PrintMore
attribute [local go_sem] max2_int min2_int max_two min_two max_three min_three max_four min_four   -- for this text's walks alone
set_option linter.unusedVariables false
set_option linter.unusedSimpArgs false

/-! ### r09_light: function 52 -/
def r09_light.l0 : Nat → List (S78) → Int → Option (Bool)
 | 0, _, _ => none
 | k + 1, x0, x3 => if x3 < (x0.length : Int) then (if 0 ≤ x3 then (if ((rd_T78 x0 x3).f1) > 3 then (some false) else (r09_light.l0 k x0 (wrap64 (x3 + 1)))) else (none)) else (some true)
def r09_light.f (k : Nat) (l0 : List (S78)) : Option (Bool) := if (l0.length : Int) > 6 then (some false) else (r09_light.l0 k l0 0)
theorem r09_light.mono_l : ∀ k, M2 r09_light.l0 k
 | 0 => fun _ _ r h => by simp [r09_light.l0] at h
 | k + 1 => by
  have ak := r09_light.mono_l k
  ·intro y0 y1
   unfold r09_light.l0
   repeat' first | (with_reducible first | apply ak | apply lr | apply ln | apply li | refine lb ?_ fun _ => ?_)
theorem r09_light.mono : ∀ a0 k, LeO (r09_light.f k a0) (r09_light.f (k + 1) a0) := by
 intro a0 k
 have ak := r09_light.mono_l k
 unfold r09_light.f
 repeat' first | (with_reducible first | apply ak | apply lr | apply ln | apply li | refine lb ?_ fun _ => ?_)
set_option maxHeartbeats 8000000 in
set_option maxRecDepth 100000 in
theorem r09_light.calls (k : Nat) (A0 : Option Addr) (c0 : Nat) (l0 : List (S78)) (r : Bool) (w : World) (ar : Kd.C k78 w A0 l0.length l0) (hc0 : l0.length ≤ c0) (h : r09_light.f k l0 = some r) :
  Calls Try.prog 52 #[.slice A0 l0.length c0] w fun e w' => e = .returned (.bool r) ∧ Drawn0 w w' := by
 have aq := am ar
 have av := am hc0
 clear ar hc0
 have H := h
 unfold r09_light.f at H
 clear h
 by_cases c2 : (l0.length : Int) > 6
 ·rw [if_pos c2] at H
  have ag : decide (6 < (l0.length : Int)) = true := decide_eq_true c2
  have ah : decide (6 < l0.length) = true := decide_eq_true (by omega)
  clear c2
  obtain rfl := Option.some.inj H
  go_enter Try.func52, Try.ntmps52
  go_wp2
  go_ret
  exact ⟨prs, pdr⟩
 rw [if_neg c2] at H
 have ag : decide (6 < (l0.length : Int)) = false := decide_eq_false c2
 have ah : decide (6 < l0.length) = false := decide_eq_false (by omega)
 clear c2
 have H' := am H
 clear H
 go_enter Try.func52, Try.ntmps52
 go_wp2
 go_loopg [3] k (fun kq v3 w' => ∃ (aa : Int), v3 = .int .i64 aa ∧ Aside0 (r09_light.l0 kq l0 aa = some r) ∧ Aside0 (kq ≤ k) ∧ Drawn0 w w')
 case atStart => exact ⟨(0), prs, H', ⟨Nat.le_refl _⟩, pdr⟩
 clear H'
 try clear c2 ag ah
 obtain ⟨aa, rfl, HA, ap, ⟨m1, rfl⟩⟩ := hrel
 obtain _ | k1 := gk
 ·exact absurd HA.1 (by simp [r09_light.l0])
 have H := HA.1
 clear HA
 simp only [r09_light.l0] at H
 replace H := ifl H
 rcases H with ⟨ai, H⟩ | ⟨ai, H⟩
 rotate_left
 ·obtain rfl := Option.some.inj H
  go_wp2
  go_ret
  exact ⟨prs, pdr⟩
 replace H := ifp H
 obtain ⟨c4, H⟩ := H
 have au := decide_eq_true c4
 clear c4
 replace H := ifg H
 rcases H with ⟨aj, H⟩ | ⟨aj, H⟩
 ·obtain rfl := Option.some.inj H
  obtain ⟨al, ao, af, ae, ab, ac⟩ := dT78 aq.1 aa
  cases ae
  go_wp2
  go_ret
  exact ⟨prs, pdr⟩
 have H' := am H
 clear H
 obtain ⟨al, ao, af, ae, ab, ac⟩ := dT78 aq.1 aa
 cases ae
 go_wp2
 go_roundg k1
 case measure => have := ap.1; omega
 case rel => exact ⟨(wrap64 (aa + 1)), prs, H', ⟨by have := ap.1; omega⟩, pdr⟩

/-! ### r09_Light: function 21 -/
mutual
def r09_Light.j0 : Nat → Bool → ByteArray → List (S57) → List (S60) → Option (Bool)
 | 0, _, _, _, _ => none
 | k + 1, cT, aA, ar, ap => if cT = true then (some false) else (r09_Light.l0 k 0 aA ar ap)
def r09_Light.l0 : Nat → Int → ByteArray → List (S57) → List (S60) → Option (Bool)
 | 0, _, _, _, _ => none
 | k + 1, x5, aA, ar, ap => if x5 < (ar.length : Int) then (if 0 ≤ x5 then (if ((rd_T57 ar x5).f1) > 3 then (some false) else (r09_Light.l0 k (wrap64 (x5 + 1)) aA ar ap)) else (none)) else (r09_Light.l1 k 0 aA ar ap)
def r09_Light.l1 : Nat → Int → ByteArray → List (S57) → List (S60) → Option (Bool)
 | 0, _, _, _, _ => none
 | k + 1, x6, aA, ar, ap => if x6 < (ap.length : Int) then (if 0 ≤ x6 then ((r09_light.f k ((rd_T60 ap x6).f1)).bind fun bx => (if bx = true then ((r09_light.f k ((rd_T60 ap x6).f2)).bind fun bz => (if bz = true then ((r09_light.f k ((rd_T60 ap x6).f3)).bind fun bA => (if bA = true then (r09_Light.l1 k (wrap64 (x6 + 1)) aA ar ap) else (some false))) else (some false))) else (some false))) else (none)) else (some true)
end
def r09_Light.f (k : Nat) (aB : ByteArray) (aq : List (S57)) (ak : List (S60)) : Option (Bool) := (r09_Small.f k aB aq ak).bind fun bF => (if bF.2.2.2 = true then (if (aq.length : Int) > 6 then (r09_Light.j0 k true aB aq ak) else (r09_Light.j0 k (decide ((ak.length : Int) > 6)) aB aq ak)) else (r09_Light.j0 k true aB aq ak))
theorem r09_Light.mono_l : ∀ k, M4 r09_Light.j0 k ∧ M4 r09_Light.l0 k ∧ M4 r09_Light.l1 k
 | 0 => ⟨fun _ _ _ _ r h => by simp [r09_Light.j0] at h, fun _ _ _ _ r h => by simp [r09_Light.l0] at h, fun _ _ _ _ r h => by simp [r09_Light.l1] at h⟩
 | k + 1 => by
  obtain ⟨bT, bU, bV⟩ := r09_Light.mono_l k
  refine ⟨?_, ?_, ?_⟩ <;> dsimp only [M4] <;> intros <;> (first | unfold r09_Light.j0 | unfold r09_Light.l0 | unfold r09_Light.l1) <;> repeat' first | (with_reducible first | apply bT | apply bU | apply bV | apply r09_Small.mono | apply r09_light.mono | apply lr | apply ln | apply li | refine lb ?_ fun _ => ?_)
theorem r09_Light.mono : ∀ a0 a1 a2 k, LeO (r09_Light.f k a0 a1 a2) (r09_Light.f (k + 1) a0 a1 a2) := by
 intro a0 a1 a2 k
 obtain ⟨bT, bU, bV⟩ := r09_Light.mono_l k
 unfold r09_Light.f
 repeat' first | (with_reducible first | apply bT | apply bU | apply bV | apply r09_Small.mono | apply r09_light.mono | apply lr | apply ln | apply li | refine lb ?_ fun _ => ?_)
set_option maxHeartbeats 8000000 in
set_option maxRecDepth 100000 in
theorem r09_Light.calls (k : Nat) (aB : ByteArray) (aT : Option Addr) (aY : Nat) (aq : List (S57)) (aU : Option Addr) (aZ : Nat) (ak : List (S60)) (r : Bool) (w : World) (br : Kd.C k57 w aT aq.length aq) (bp : aq.length ≤ aY) (bs : Kd.C k60 w aU ak.length ak) (bq : ak.length ≤ aZ) (h : r09_Light.f k aB aq ak = some r) :
  Calls Try.prog 21 #[.agg #[.string aB, .slice aT aq.length aY, .slice aU ak.length aZ]] w fun e w' => e = .returned (.bool r) ∧ Below w.heap.size w w' := by
 have cO := Try.underlying25
 have cP := Try.underlying60
 have bj := am br
 have bC := am bp
 clear br bp
 have aS := am bs
 have bD := am bq
 clear bs bq
 have HB := am (Below.refl w.heap.size w)
 have H := h
 unfold r09_Light.f at H
 clear h
 replace H := bnd H
 obtain ⟨⟨bm, aI, aJ, bK⟩, A2, H⟩ := H
 (try dsimp only at H)
 have bP := am H
 clear H
 go_enter Try.func21, Try.ntmps21
 go_upto_region 2 with (first | ((with_reducible refine gate_dst (N := 1) rfl ?_); (try (refine gate_guard (by rfl) ?_; dsimp only)); refine box_ev ?_; intro au hg w4 hbox hb; have aa := am hbox; have aR := gwl hg; have bZ := aR; replace HB := bsl hb; clear hb hbox hg; have z5 := cf3 aa.1) | ((with_reducible refine gate_callee (f := 10) rfl ?_); refine gC 10 Try.func10 _ (r09_Small.calls k aB (fun k_ => k_ < w.heap.size) _ _ aq (fun k_ => k_ < w.heap.size) _ _ ak bm aI aJ bK _ (Kd.V_mk bC.1 (Kd.F_below (Kd.C_F k57_heap bj.1) pbg)) (Kd.V_mk bD.1 (Kd.F_below (Kd.C_F k60_heap aS.1) pbg)) A2.1) ?_; rintro e w6 ⟨cR, cS, rfl, cJ, cK, hb⟩; refine ⟨_, rfl, ?_⟩; have aK := am (Kd.V_lower (Kd.V_mono (ok' := fun k_ => k_ ≠ au) cJ (fun k_ hk_ => Or.elim hk_ (fun hs_ => Or.elim hs_ (fun hs_ => fun e_ => Nat.not_le.2 hs_ (by rw [e_]; exact aR.1)) (fun hs_ => fun e_ => Nat.not_le.2 hs_ (by rw [e_]; exact aR.1))) (fun hn_ => (Kd.freshB (g := au) (o := .cells #[.string aB, .slice aT aq.length aY, .slice aU ak.length aZ] 25 (0, 0)) (by exact pbk aa.1) k_ hn_)))) (below_size pbg)); have aL := am (Kd.V_lower (Kd.V_mono (ok' := fun k_ => k_ ≠ au) cK (fun k_ hk_ => Or.elim hk_ (fun hs_ => Or.elim hs_ (fun hs_ => fun e_ => Nat.not_le.2 hs_ (by rw [e_]; exact aR.1)) (fun hs_ => fun e_ => Nat.not_le.2 hs_ (by rw [e_]; exact aR.1))) (fun hn_ => (Kd.freshB (g := au) (o := .cells #[.string aB, .slice aT aq.length aY, .slice aU ak.length aZ] 25 (0, 0)) (by exact pbk aa.1) k_ hn_)))) (below_size pbg)); replace aa := bbh aa hb; replace HB := bst hb; (try clear hb); (try clear cJ); (try clear cK)) | ((with_reducible refine gate_dst (N := 3) rfl ?_); (try (refine gate_guard (by rfl) ?_; dsimp only)); refine box_ev (N := 3) (cs := #[.string (⟨#[]⟩ : ByteArray), .slice none 0 0, .slice none 0 0]) (t := 25) ?_; intro ah hg w7 hbox hb; have af := am hbox; have bB := gwb hg; have b0 := bB; have ae := nlt hg aa; have ag := ngt hg aa; replace aK := vbb aK hg hb; replace aL := vbb aL hg hb; replace aa := bbh aa hb; replace HB := bst hb; clear hb hbox hg; have cM := ag.1; have cN := ae.1; have z9 := cf3 af.1; obtain ⟨bc, bf, bR⟩ := Kd.V_slice aK.1; subst bR; obtain ⟨bd, bg, bS⟩ := Kd.V_slice aL.1; subst bS))
 (try simp only [Act.put, List.setIfInBounds_toArray, List.set_cons_zero, List.set_cons_succ])
 go_cut [26] (fun cQ wc => ∃ (kq : Nat) (bb : Bool), cQ = .bool bb ∧ Aside0 (r09_Light.j0 kq bb aB aq ak = some r) ∧ Aside0 (kq ≤ k) ∧ Aside0 (Kd.V k57 57 wc w.heap.size (fun k_ => k_ ≠ au ∧ k_ ≠ ah) (.slice bc aI.length bf) aI) ∧ Aside0 (Kd.V k60 60 wc w.heap.size (fun k_ => k_ ≠ au ∧ k_ ≠ ah) (.slice bd aJ.length bg) aJ) ∧ Aside0 (wc.heap[au]? = some (.cells #[.string aB, (.slice aT aq.length aY), (.slice aU ak.length aZ)] 25 (0, 0))) ∧ Aside0 (wc.heap[ah]? = some (.cells #[.string bm, (.slice bc aI.length bf), (.slice bd aJ.length bg)] 25 (0, 0))) ∧ Aside0 (Below w.heap.size w wc))
 case first =>
  have H := bP.1
  clear bP
  cases bK
  ·rw [if_neg Bool.false_ne_true] at H
   have H' := am H
   clear H
   go_wp2
   go_meet
   case rel => exact ⟨_, (true), prs, H', ⟨by first | omega | exact Nat.le_refl _⟩, ⟨by (with_reducible repeat (first | apply Kd.V_alloc | apply Kd.V_drewN | apply Kd.V_drew)); exact Kd.V_mono (fV3 ah (Kd.V_mono aK.1 (fun k_ hk => (⟨hk, hk.2⟩ : _ ∧ k_ ≠ ah))) (fun _ hk => hk.2)) (fun _ hk => ⟨hk.1.1, hk.1.2⟩)⟩, ⟨by (with_reducible repeat (first | apply Kd.V_alloc | apply Kd.V_drewN | apply Kd.V_drew)); exact Kd.V_mono (fV3 ah (Kd.V_mono aL.1 (fun k_ hk => (⟨hk, hk.2⟩ : _ ∧ k_ ≠ ah))) (fun _ hk => hk.2)) (fun _ hk => ⟨hk.1.1, hk.1.2⟩)⟩, ⟨by (with_reducible repeat (first | refine blk_drewN ?_ _ | refine blk_drew ?_ | refine blk_alloc ?_ _)); refine bf3 ?_ ae.1; exact pbk aa.1⟩, ⟨by (with_reducible repeat (first | refine blk_drewN ?_ _ | refine blk_drew ?_ | refine blk_alloc ?_ _)); exact bp3 (pbk af.1)⟩, ⟨pbg⟩⟩
  rw [if_pos rfl] at H
  by_cases bl : (aq.length : Int) > 6
  ·rw [if_pos bl] at H
   have aE : decide (6 < (aq.length : Int)) = true := decide_eq_true bl
   have a7 : decide (6 < aq.length) = true := decide_eq_true (by omega)
   clear bl
   (first | rw [aE] | (simp only [i64_w, i32_w]; rw [aE]) | skip)
   have H' := am H
   clear H
   have b5 := ae.1
   have cp := ag.1
   have bW := cf3 aa.1
   go_wp2
   go_meet
   case rel => exact ⟨_, (true), prs, H', ⟨by first | omega | exact Nat.le_refl _⟩, ⟨by (with_reducible repeat (first | apply Kd.V_alloc | apply Kd.V_drewN | apply Kd.V_drew)); exact Kd.V_mono (fV3 ah (Kd.V_mono aK.1 (fun k_ hk => (⟨hk, hk.2⟩ : _ ∧ k_ ≠ ah))) (fun _ hk => hk.2)) (fun _ hk => ⟨hk.1.1, hk.1.2⟩)⟩, ⟨by (with_reducible repeat (first | apply Kd.V_alloc | apply Kd.V_drewN | apply Kd.V_drew)); exact Kd.V_mono (fV3 ah (Kd.V_mono aL.1 (fun k_ hk => (⟨hk, hk.2⟩ : _ ∧ k_ ≠ ah))) (fun _ hk => hk.2)) (fun _ hk => ⟨hk.1.1, hk.1.2⟩)⟩, ⟨by (with_reducible repeat (first | refine blk_drewN ?_ _ | refine blk_drew ?_ | refine blk_alloc ?_ _)); refine bf3 ?_ ae.1; exact pbk aa.1⟩, ⟨by (with_reducible repeat (first | refine blk_drewN ?_ _ | refine blk_drew ?_ | refine blk_alloc ?_ _)); exact bp3 (pbk af.1)⟩, ⟨pbg⟩⟩
  rw [if_neg bl] at H
  have aE : decide (6 < (aq.length : Int)) = false := decide_eq_false bl
  have a7 : decide (6 < aq.length) = false := decide_eq_false (by omega)
  clear bl
  (first | rw [aE] | (simp only [i64_w, i32_w]; rw [aE]) | skip)
  have H' := am H
  clear H
  have b6 := ae.1
  have cq := ag.1
  have bX := cf3 aa.1
  go_wp2
  go_meet
  case rel => exact ⟨_, (decide ((ak.length : Int) > 6)), prs, H', ⟨by first | omega | exact Nat.le_refl _⟩, ⟨by (with_reducible repeat (first | apply Kd.V_alloc | apply Kd.V_drewN | apply Kd.V_drew)); exact Kd.V_mono (fV3 ah (Kd.V_mono aK.1 (fun k_ hk => (⟨hk, hk.2⟩ : _ ∧ k_ ≠ ah))) (fun _ hk => hk.2)) (fun _ hk => ⟨hk.1.1, hk.1.2⟩)⟩, ⟨by (with_reducible repeat (first | apply Kd.V_alloc | apply Kd.V_drewN | apply Kd.V_drew)); exact Kd.V_mono (fV3 ah (Kd.V_mono aL.1 (fun k_ hk => (⟨hk, hk.2⟩ : _ ∧ k_ ≠ ah))) (fun _ hk => hk.2)) (fun _ hk => ⟨hk.1.1, hk.1.2⟩)⟩, ⟨by (with_reducible repeat (first | refine blk_drewN ?_ _ | refine blk_drew ?_ | refine blk_alloc ?_ _)); refine bf3 ?_ ae.1; exact pbk aa.1⟩, ⟨by (with_reducible repeat (first | refine blk_drewN ?_ _ | refine blk_drew ?_ | refine blk_alloc ?_ _)); exact bp3 (pbk af.1)⟩, ⟨pbg⟩⟩
 clear bP
 try clear b2 bl aE a7 bW bX z5 z9
 obtain ⟨kq, bb, rfl, HA, bM, ab, ac, aa, af, HB⟩ := hcut
 obtain _ | cL := kq
 ·exact absurd HA.1 (by simp [r09_Light.j0])
 have H := HA.1
 clear HA
 simp only [r09_Light.j0] at H
 cases bb
 rotate_left
 ·rw [if_pos rfl] at H
  obtain rfl := Option.some.inj H
  go_wp2
  go_ret
  exact ⟨per, pbg⟩
 rw [if_neg Bool.false_ne_true] at H
 have H' := am H
 clear H
 go_wp2
 go_loopg [5] cL (fun kq v5 w' => ∃ (bh : Int), v5 = .int .i64 bh ∧ Aside0 (r09_Light.l0 kq bh aB aq ak = some r) ∧ Aside0 (kq ≤ cL) ∧ Aside0 (Kd.V k57 57 w' w.heap.size (fun k_ => k_ ≠ au ∧ k_ ≠ ah) (.slice bc aI.length bf) aI) ∧ Aside0 (Kd.V k60 60 w' w.heap.size (fun k_ => k_ ≠ au ∧ k_ ≠ ah) (.slice bd aJ.length bg) aJ) ∧ Aside0 (w'.heap[au]? = some (.cells #[.string aB, (.slice aT aq.length aY), (.slice aU ak.length aZ)] 25 (0, 0))) ∧ Aside0 (w'.heap[ah]? = some (.cells #[.string bm, (.slice bc aI.length bf), (.slice bd aJ.length bg)] 25 (0, 0))) ∧ Aside0 (Below w.heap.size w w'))
 case atStart => exact ⟨(0), prs, H', ⟨Nat.le_refl _⟩, ⟨pkv ab.1⟩, ⟨pkv ac.1⟩, ⟨pbk aa.1⟩, ⟨pbk af.1⟩, ⟨pbg⟩⟩
 clear H'
 try clear b2 bl aE a7 bW bX z5 z9
 obtain ⟨bh, rfl, HA, bN, ab, ac, aa, af, HB⟩ := hrel
 obtain _ | k2 := gk
 ·exact absurd HA.1 (by simp [r09_Light.l0])
 have H := HA.1
 clear HA
 simp only [r09_Light.l0] at H
 replace H := ifl H
 rcases H with ⟨bn, H⟩ | ⟨bn, H⟩
 ·replace H := ifp H
  obtain ⟨bQ, H⟩ := H
  have bG := decide_eq_true bQ
  clear bQ
  replace H := ifg H
  rcases H with ⟨bo, H⟩ | ⟨bo, H⟩
  ·obtain rfl := Option.some.inj H
   have b7 := ae.1
   have cr := ag.1
   have cU := cf3 aa.1
   obtain ⟨bI, bJ, bE, bu, a8, a9, ba⟩ := bT57 bj.1 HB.1 bh
   cases bu
   go_wp2
   go_ret
   exact ⟨per, pbg⟩
  have H' := am H
  clear H
  have b8 := ae.1
  have cu := ag.1
  have z25 := cf3 aa.1
  obtain ⟨bI, bJ, bE, bu, a8, a9, ba⟩ := bT57 bj.1 HB.1 bh
  cases bu
  go_wp2
  go_roundg k2
  case measure => have := bM.1; have := bN.1; omega
  case rel => exact ⟨(wrap64 (bh + 1)), prs, H', ⟨by have := bM.1; have := bN.1; omega⟩, ⟨pkv ab.1⟩, ⟨pkv ac.1⟩, ⟨pbk aa.1⟩, ⟨pbk af.1⟩, ⟨pbg⟩⟩
 have H' := am H
 clear H
 have b9 := ae.1
 have cv := ag.1
 have cV := cf3 aa.1
 go_wp2
 go_loopg [6] k2 (fun kq v6 w' => ∃ (ax : Int), v6 = .int .i64 ax ∧ Aside0 (r09_Light.l1 kq ax aB aq ak = some r) ∧ Aside0 (kq ≤ k2) ∧ Aside0 (Kd.V k57 57 w' w.heap.size (fun k_ => k_ ≠ au ∧ k_ ≠ ah) (.slice bc aI.length bf) aI) ∧ Aside0 (Kd.V k60 60 w' w.heap.size (fun k_ => k_ ≠ au ∧ k_ ≠ ah) (.slice bd aJ.length bg) aJ) ∧ Aside0 (w'.heap[au]? = some (.cells #[.string aB, (.slice aT aq.length aY), (.slice aU ak.length aZ)] 25 (0, 0))) ∧ Aside0 (w'.heap[ah]? = some (.cells #[.string bm, (.slice bc aI.length bf), (.slice bd aJ.length bg)] 25 (0, 0))) ∧ Aside0 (Below w.heap.size w w'))
 case atStart => exact ⟨(0), prs, H', ⟨Nat.le_refl _⟩, ⟨pkv ab.1⟩, ⟨pkv ac.1⟩, ⟨pbk aa.1⟩, ⟨pbk af.1⟩, ⟨pbg⟩⟩
 clear H'
 try clear b2 bl aE a7 cW bn bQ bG cX bo bW bX cU z25 cV z5 z9 a8 a9 ba bI bJ
 obtain ⟨ax, rfl, HA, b1, ab, ac, aa, af, HB⟩ := hrel
 obtain _ | k3 := gk
 ·exact absurd HA.1 (by simp [r09_Light.l1])
 have H := HA.1
 clear HA
 simp only [r09_Light.l1] at H
 replace H := ifl H
 rcases H with ⟨bH, H⟩ | ⟨bH, H⟩
 rotate_left
 ·obtain rfl := Option.some.inj H
  have co := ae.1
  have cI := ag.1
  have dl := cf3 aa.1
  go_wp2
  go_ret
  exact ⟨per, pbg⟩
 replace H := ifp H
 obtain ⟨b3, H⟩ := H
 have b4 := decide_eq_true b3
 clear b3
 replace H := bnd H
 obtain ⟨bx, bL, H⟩ := H
 (try dsimp only at H)
 cases bx
 ·rw [if_neg Bool.false_ne_true] at H
  obtain rfl := Option.some.inj H
  have ck := ae.1
  have cF := ag.1
  have dj := cf3 aa.1
  obtain ⟨bv, bw, bk, aV, a3, aW, a4, aX, a5, a6, aM, aN, aO, aP, aQ, av, aw, ay, az, aC, aD⟩ := bT60 aS.1 HB.1 ax
  cases a6
  go_wp2_with (first | ((with_reducible refine gate_dst (N := 7) rfl ?_); (try (refine gate_guard (by rfl) ?_; dsimp only)); refine box_ev (N := 7) (cs := #[.string (⟨#[]⟩ : ByteArray), .slice none 0 0, .slice none 0 0, .slice none 0 0, .int .i64 0]) (t := 60) ?_; intro aH hg db hbox hb; have aF := am hbox; have aG := gwb hg; have bi := aG; have ai := nlt hg aa; have al := ngt hg aa; have aj := nlt hg af; have ao := ngt hg af; replace ab := vbb ab hg hb; replace ac := vbb ac hg hb; replace aa := bbh aa hb; replace af := bbh af hb; replace HB := bst hb; clear hb hbox hg; have cm := al.1; have cG := ai.1; have cn := ao.1; have cH := aj.1; have dk := cf5 aF.1) | ((with_reducible refine gate_callee (f := 52) rfl ?_); refine gC 55 Try.func52 _ (r09_light.calls k3 _ _ ((rd_T60 ak ax).f1) false _ (Kd.C_below aw.1 pbg) av.1 bL.1) ?_; rintro e w' ⟨rfl, ⟨nd, rfl⟩⟩; refine ⟨_, rfl, ?_⟩))
  go_ret
  exact ⟨per, pbg⟩
 rw [if_pos rfl] at H
 replace H := bnd H
 obtain ⟨bz, bO, H⟩ := H
 (try dsimp only at H)
 cases bz
 ·rw [if_neg Bool.false_ne_true] at H
  obtain rfl := Option.some.inj H
  have ch := ae.1
  have cC := ag.1
  have dh := cf3 aa.1
  obtain ⟨bv, bw, bk, aV, a3, aW, a4, aX, a5, a6, aM, aN, aO, aP, aQ, av, aw, ay, az, aC, aD⟩ := bT60 aS.1 HB.1 ax
  cases a6
  go_wp2_with (first | ((with_reducible refine gate_dst (N := 7) rfl ?_); (try (refine gate_guard (by rfl) ?_; dsimp only)); refine box_ev (N := 7) (cs := #[.string (⟨#[]⟩ : ByteArray), .slice none 0 0, .slice none 0 0, .slice none 0 0, .int .i64 0]) (t := 60) ?_; intro aH hg da hbox hb; have aF := am hbox; have aG := gwb hg; have bi := aG; have ai := nlt hg aa; have al := ngt hg aa; have aj := nlt hg af; have ao := ngt hg af; replace ab := vbb ab hg hb; replace ac := vbb ac hg hb; replace aa := bbh aa hb; replace af := bbh af hb; replace HB := bst hb; clear hb hbox hg; have ci := al.1; have cD := ai.1; have cj := ao.1; have cE := aj.1; have di := cf5 aF.1) | ((with_reducible refine gate_callee (f := 52) rfl ?_); refine gC 55 Try.func52 _ (r09_light.calls k3 _ _ ((rd_T60 ak ax).f1) true _ (Kd.C_below aw.1 pbg) av.1 bL.1) ?_; rintro e w' ⟨rfl, ⟨nd, rfl⟩⟩; refine ⟨_, rfl, ?_⟩) | (go_at_call 52; (with_reducible refine (r09_light.calls k3 _ _ ((rd_T60 ak ax).f2) false _ ?side1 ?side2 bO.1).mono ?_); (case side1 => exact Kd.C_below az.1 pbg); (case side2 => exact ay.1); rintro e w' ⟨rfl, ⟨nd, rfl⟩⟩))
  go_ret
  exact ⟨per, pbg⟩
 rw [if_pos rfl] at H
 replace H := bnd H
 obtain ⟨bA, bY, H⟩ := H
 (try dsimp only at H)
 cases bA
 ·rw [if_neg Bool.false_ne_true] at H
  obtain rfl := Option.some.inj H
  have ce := ae.1
  have cz := ag.1
  have df := cf3 aa.1
  obtain ⟨bv, bw, bk, aV, a3, aW, a4, aX, a5, a6, aM, aN, aO, aP, aQ, av, aw, ay, az, aC, aD⟩ := bT60 aS.1 HB.1 ax
  cases a6
  go_wp2_with (first | ((with_reducible refine gate_dst (N := 7) rfl ?_); (try (refine gate_guard (by rfl) ?_; dsimp only)); refine box_ev (N := 7) (cs := #[.string (⟨#[]⟩ : ByteArray), .slice none 0 0, .slice none 0 0, .slice none 0 0, .int .i64 0]) (t := 60) ?_; intro aH hg cZ hbox hb; have aF := am hbox; have aG := gwb hg; have bi := aG; have ai := nlt hg aa; have al := ngt hg aa; have aj := nlt hg af; have ao := ngt hg af; replace ab := vbb ab hg hb; replace ac := vbb ac hg hb; replace aa := bbh aa hb; replace af := bbh af hb; replace HB := bst hb; clear hb hbox hg; have cf := al.1; have cA := ai.1; have cg := ao.1; have cB := aj.1; have dg := cf5 aF.1) | ((with_reducible refine gate_callee (f := 52) rfl ?_); refine gC 55 Try.func52 _ (r09_light.calls k3 _ _ ((rd_T60 ak ax).f1) true _ (Kd.C_below aw.1 pbg) av.1 bL.1) ?_; rintro e w' ⟨rfl, ⟨nd, rfl⟩⟩; refine ⟨_, rfl, ?_⟩) | (go_at_call 52; (with_reducible refine (r09_light.calls k3 _ _ ((rd_T60 ak ax).f2) true _ ?side1 ?side2 bO.1).mono ?_); (case side1 => exact Kd.C_below az.1 pbg); (case side2 => exact ay.1); rintro e w' ⟨rfl, ⟨nd, rfl⟩⟩) | (go_at_call 52; (with_reducible refine (r09_light.calls k3 _ _ ((rd_T60 ak ax).f3) false _ ?side1 ?side2 bY.1).mono ?_); (case side1 => exact Kd.C_below aD.1 pbg); (case side2 => exact aC.1); rintro e w' ⟨rfl, ⟨nd, rfl⟩⟩))
  go_ret
  exact ⟨per, pbg⟩
 rw [if_pos rfl] at H
 have H' := am H
 clear H
 have ca := ae.1
 have cw := ag.1
 have dc := cf3 aa.1
 obtain ⟨bv, bw, bk, aV, a3, aW, a4, aX, a5, a6, aM, aN, aO, aP, aQ, av, aw, ay, az, aC, aD⟩ := bT60 aS.1 HB.1 ax
 cases a6
 go_wp2_with (first | ((with_reducible refine gate_dst (N := 7) rfl ?_); (try (refine gate_guard (by rfl) ?_; dsimp only)); refine box_ev (N := 7) (cs := #[.string (⟨#[]⟩ : ByteArray), .slice none 0 0, .slice none 0 0, .slice none 0 0, .int .i64 0]) (t := 60) ?_; intro aH hg cY hbox hb; have aF := am hbox; have aG := gwb hg; have bi := aG; have ai := nlt hg aa; have al := ngt hg aa; have aj := nlt hg af; have ao := ngt hg af; replace ab := vbb ab hg hb; replace ac := vbb ac hg hb; replace aa := bbh aa hb; replace af := bbh af hb; replace HB := bst hb; clear hb hbox hg; have cb := al.1; have cx := ai.1; have cd := ao.1; have cy := aj.1; have de := cf5 aF.1) | ((with_reducible refine gate_callee (f := 52) rfl ?_); refine gC 55 Try.func52 _ (r09_light.calls k3 _ _ ((rd_T60 ak ax).f1) true _ (Kd.C_below aw.1 pbg) av.1 bL.1) ?_; rintro e w' ⟨rfl, ⟨nd, rfl⟩⟩; refine ⟨_, rfl, ?_⟩) | (go_at_call 52; (with_reducible refine (r09_light.calls k3 _ _ ((rd_T60 ak ax).f2) true _ ?side1 ?side2 bO.1).mono ?_); (case side1 => exact Kd.C_below az.1 pbg); (case side2 => exact ay.1); rintro e w' ⟨rfl, ⟨nd, rfl⟩⟩) | (go_at_call 52; (with_reducible refine (r09_light.calls k3 _ _ ((rd_T60 ak ax).f3) true _ ?side1 ?side2 bY.1).mono ?_); (case side1 => exact Kd.C_below aD.1 pbg); (case side2 => exact aC.1); rintro e w' ⟨rfl, ⟨nd, rfl⟩⟩))
 go_roundg k3
 case measure => have := bM.1; have := bN.1; have := b1.1; omega
 case rel => exact ⟨(wrap64 (ax + 1)), prs, H', ⟨by have := bM.1; have := bN.1; have := b1.1; omega⟩, ⟨by (with_reducible repeat (first | apply Kd.V_alloc | apply Kd.V_drewN | apply Kd.V_drew)); exact Kd.V_mono (fV5 aH (Kd.V_mono ab.1 (fun k_ hk => (⟨hk, hk.2⟩ : _ ∧ k_ ≠ aH))) (fun _ hk => hk.2)) (fun _ hk => ⟨hk.1.1.1, hk.1.1.2⟩)⟩, ⟨by (with_reducible repeat (first | apply Kd.V_alloc | apply Kd.V_drewN | apply Kd.V_drew)); exact Kd.V_mono (fV5 aH (Kd.V_mono ac.1 (fun k_ hk => (⟨hk, hk.2⟩ : _ ∧ k_ ≠ aH))) (fun _ hk => hk.2)) (fun _ hk => ⟨hk.1.1.1, hk.1.1.2⟩)⟩, ⟨by (with_reducible repeat (first | refine blk_drewN ?_ _ | refine blk_drew ?_ | refine blk_alloc ?_ _)); refine bf5 ?_ ai.1; exact pbk aa.1⟩, ⟨by (with_reducible repeat (first | refine blk_drewN ?_ _ | refine blk_drew ?_ | refine blk_alloc ?_ _)); refine bf5 ?_ aj.1; exact pbk af.1⟩, ⟨pbg⟩⟩

end Go.Proofs.Yteknagfpiadaiaa.P
