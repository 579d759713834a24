-- LAID BY OUR PROGRAM OVER THE PRINT (xprint.py, part.py): Lean checks it.
import Derived.Test.YtaoogghpadifiaaPx0
import Derived.Test.YtaoogghpadifiaaPx1
namespace Go.Proofs.Ytaoogghpadifiaa.P
open Go.RowKit Go.Proofs.YtaoogghpadifiaaW.PrintWords Go.Proofs.YtaoogghpadifiaaW.PrintLast Go.Proofs.YtaoogghpadifiaaW.PrintMore
attribute [local go_sem] max2_int min2_int max_two min_two max_three min_three max_four min_four   -- for this text's walks alone
set_option maxHeartbeats 8000000
set_option maxRecDepth 100000
set_option linter.unusedVariables false
set_option linter.unusedSimpArgs false

/-! ### r09_light: function 33 -/
def r09_light.l0 : Nat → List (S68) → Int → Option (Bool)
 | 0, _, _ => none
 | k + 1, x0, x3 => if x3 < (x0.length : Int) then (if 0 ≤ x3 then (if ((rd_T68 x0 x3).f1) > 3 then (some false) else (r09_light.l0 k x0 (wrap64 (x3 + 1)))) else (none)) else (some true)
def r09_light.f (k : Nat) (l0 : List (S68)) : Option (Bool) := if (l0.length : Int) > 6 then (some false) else (r09_light.l0 k l0 0)
theorem r09_light.calls (k : Nat) (A0 : Option Addr) (c0 : Nat) (l0 : List (S68)) (r : Bool) (w : World) (ar : Kd.C k68 w A0 l0.length l0) (hc0 : l0.length ≤ c0) (h : r09_light.f k l0 = some r) :
  Calls Try.prog 33 #[.slice A0 l0.length c0] w fun e w' => e = .returned (.bool r) ∧ Drawn0 w w' := by
 have aq := am ar
 have av := am hc0
 clear ar hc0
 have H := h
 unfold r09_light.f at H
 clear h
 by_cases c2 : (l0.length : Int) > 6
 ·rw [if_pos c2] at H
  have ag : decide (6 < (l0.length : Int)) = true := decide_eq_true c2
  have ah : decide (6 < l0.length) = true := decide_eq_true (by omega)
  clear c2
  obtain rfl := Option.some.inj H
  go_enter Try.func33, Try.ntmps33
  go_wp2
  go_ret
  exact ⟨prs, pdr⟩
 rw [if_neg c2] at H
 have ag : decide (6 < (l0.length : Int)) = false := decide_eq_false c2
 have ah : decide (6 < l0.length) = false := decide_eq_false (by omega)
 clear c2
 have H' := am H
 clear H
 go_enter Try.func33, Try.ntmps33
 go_wp2
 go_loopg [3] k (fun kq v3 w' => ∃ (aa : Int), v3 = .int .i64 aa ∧ Aside0 (r09_light.l0 kq l0 aa = some r) ∧ Aside0 (kq ≤ k) ∧ Drawn0 w w')
 case atStart => exact ⟨(0), prs, H', ⟨Nat.le_refl _⟩, pdr⟩
 clear H'
 try clear c2 ag ah
 obtain ⟨aa, rfl, HA, ap, ⟨m1, rfl⟩⟩ := hrel
 obtain _ | k1 := gk
 ·exact absurd HA.1 (by simp [r09_light.l0])
 have H := HA.1
 clear HA
 simp only [r09_light.l0] at H
 replace H := ifl H
 rcases H with ⟨ai, H⟩ | ⟨ai, H⟩
 rotate_left
 ·obtain rfl := Option.some.inj H
  go_wp2
  go_ret
  exact ⟨prs, pdr⟩
 replace H := ifd H
 obtain ⟨au, H⟩ := H
 replace H := ifg H
 rcases H with ⟨aj, H⟩ | ⟨aj, H⟩
 ·obtain rfl := Option.some.inj H
  obtain ⟨al, ao, af, ae, ab, ac⟩ := dT68 aq.1 aa
  cases ae
  go_wp2
  go_ret
  exact ⟨prs, pdr⟩
 have H' := am H
 clear H
 obtain ⟨al, ao, af, ae, ab, ac⟩ := dT68 aq.1 aa
 cases ae
 go_wp2
 go_roundg k1
 case measure => have := ap.1; omega
 case rel => exact ⟨(wrap64 (aa + 1)), prs, H', ⟨by have := ap.1; omega⟩, pdr⟩

/-! ### r09_Light: function 11 -/
mutual
def r09_Light.j0 : Nat → Bool → ByteArray → List (S64) → List (S38) → Option (Bool)
 | 0, _, _, _, _ => none
 | k + 1, cX, aA, ar, ap => if cX = true then (some false) else (r09_Light.l0 k 0 aA ar ap)
def r09_Light.l0 : Nat → Int → ByteArray → List (S64) → List (S38) → Option (Bool)
 | 0, _, _, _, _ => none
 | k + 1, x5, aA, ar, ap => if x5 < (ar.length : Int) then (if 0 ≤ x5 then (if ((rd_T64 ar x5).f1) > 3 then (some false) else (r09_Light.l0 k (wrap64 (x5 + 1)) aA ar ap)) else (none)) else (r09_Light.l1 k 0 aA ar ap)
def r09_Light.l1 : Nat → Int → ByteArray → List (S64) → List (S38) → Option (Bool)
 | 0, _, _, _, _ => none
 | k + 1, x6, aA, ar, ap => if x6 < (ap.length : Int) then (if 0 ≤ x6 then ((r09_light.f k ((rd_T38 ap x6).f1)).bind fun bx => (if bx = true then ((r09_light.f k ((rd_T38 ap x6).f2)).bind fun bz => (if bz = true then ((r09_light.f k ((rd_T38 ap x6).f3)).bind fun bA => (if bA = true then (r09_Light.l1 k (wrap64 (x6 + 1)) aA ar ap) else (some false))) else (some false))) else (some false))) else (none)) else (some true)
end
def r09_Light.f (k : Nat) (aB : ByteArray) (aq : List (S64)) (ak : List (S38)) : Option (Bool) := (r09_Small.f k aB aq ak).bind fun bH => (if bH.2.2.2 = true then (if (aq.length : Int) > 6 then (r09_Light.j0 k true aB aq ak) else (r09_Light.j0 k (decide ((ak.length : Int) > 6)) aB aq ak)) else (r09_Light.j0 k true aB aq ak))
theorem r09_Light.calls (k : Nat) (aB : ByteArray) (aT : Option Addr) (aY : Nat) (aq : List (S64)) (aU : Option Addr) (aZ : Nat) (ak : List (S38)) (r : Bool) (w : World) (br : Kd.C k64 w aT aq.length aq) (bp : aq.length ≤ aY) (bs : Kd.C k38 w aU ak.length ak) (bq : ak.length ≤ aZ) (h : r09_Light.f k aB aq ak = some r) :
  Calls Try.prog 11 #[.agg #[.string aB, .slice aT aq.length aY, .slice aU ak.length aZ]] w fun e w' => e = .returned (.bool r) ∧ Below w.heap.size w w' := by
 have cS := Try.underlying25
 have cT := Try.underlying38
 have bj := am br
 have bE := am bp
 clear br bp
 have aS := am bs
 have bF := am bq
 clear bs bq
 have HB := am (Below.refl w.heap.size w)
 have H := h
 unfold r09_Light.f at H
 clear h
 replace H := bnd H
 obtain ⟨⟨bm, aI, aJ, bM⟩, A2, H⟩ := H
 (try dsimp only at H)
 have bR := am H
 clear H
 go_enter Try.func11, Try.ntmps11
 go_upto_region 2 with (first | ((with_reducible refine qBN (N := 1) rfl ?_); (try (refine qBP (by rfl) ?_; dsimp only)); refine box_ev ?_; intro au hg w4 hbox hb; have aa := am hbox; have aR := gwl hg; have b4 := aR; replace HB := bsl hb; clear hb hbox hg; have b1 := cf3 aa.1) | ((with_reducible refine qBO (f := 10) rfl ?_); refine gC 10 Try.func10 _ (r09_Small.calls k aB (fun k_ => k_ < w.heap.size) _ _ aq (fun k_ => k_ < w.heap.size) _ _ ak bm aI aJ bM _ (Kd.V_mk bE.1 (Kd.F_below (Kd.C_F k64_heap bj.1) pbg)) (Kd.V_mk bF.1 (Kd.F_below (Kd.C_F k38_heap aS.1) pbg)) A2.1) ?_; rintro e w6 ⟨cU, cV, rfl, cO, ho1, hb⟩; refine ⟨_, rfl, ?_⟩; have aK := am (Kd.V_lower (Kd.V_mono (ok' := fun k_ => k_ ≠ au) cO (fun k_ hk_ => Or.elim hk_ (fun hs_ => Or.elim hs_ (fun hs_ => fun e_ => Nat.not_le.2 hs_ (by rw [e_]; exact aR.1)) (fun hs_ => fun e_ => Nat.not_le.2 hs_ (by rw [e_]; exact aR.1))) (fun hn_ => (Kd.freshB (g := au) (o := .cells #[.string aB, .slice aT aq.length aY, .slice aU ak.length aZ] 25 (0, 0)) (by exact pbk aa.1) k_ hn_)))) (qBJ pbg)); have aL := am (Kd.V_lower (Kd.V_mono (ok' := fun k_ => k_ ≠ au) ho1 (fun k_ hk_ => Or.elim hk_ (fun hs_ => Or.elim hs_ (fun hs_ => fun e_ => Nat.not_le.2 hs_ (by rw [e_]; exact aR.1)) (fun hs_ => fun e_ => Nat.not_le.2 hs_ (by rw [e_]; exact aR.1))) (fun hn_ => (Kd.freshB (g := au) (o := .cells #[.string aB, .slice aT aq.length aY, .slice aU ak.length aZ] 25 (0, 0)) (by exact pbk aa.1) k_ hn_)))) (qBJ pbg)); replace aa := bbh aa hb; replace HB := bst hb; (try clear hb); (try clear cO); (try clear ho1)) | ((with_reducible refine qBN (N := 3) rfl ?_); (try (refine qBP (by rfl) ?_; dsimp only)); refine box_ev (N := 3) (cs := #[.string (⟨#[]⟩ : ByteArray), .slice none 0 0, .slice none 0 0]) (t := 25) ?_; intro ah hg w7 hbox hb; have af := am hbox; have bD := gwb hg; have b5 := bD; have ae := nlt hg aa; have ag := ngt hg aa; replace aK := vbb aK hg hb; replace aL := vbb aL hg hb; replace aa := bbh aa hb; replace HB := bst hb; clear hb hbox hg; have cQ := ag.1; have cR := ae.1; have b2 := cf3 af.1; obtain ⟨bc, bf, bT⟩ := Kd.V_slice aK.1; subst bT; obtain ⟨bd, bg, bU⟩ := Kd.V_slice aL.1; subst bU))
 (try simp only [Act.put, List.setIfInBounds_toArray, List.set_cons_zero, List.set_cons_succ])
 go_cut [26] (fun cW wc => ∃ (kq : Nat) (bb : Bool), cW = .bool bb ∧ Aside0 (r09_Light.j0 kq bb aB aq ak = some r) ∧ Aside0 (kq ≤ k) ∧ Aside0 (Kd.V k64 64 wc w.heap.size (fun k_ => k_ ≠ au ∧ k_ ≠ ah) (.slice bc aI.length bf) aI) ∧ Aside0 (Kd.V k38 38 wc w.heap.size (fun k_ => k_ ≠ au ∧ k_ ≠ ah) (.slice bd aJ.length bg) aJ) ∧ Aside0 (wc.heap[au]? = some (.cells #[.string aB, (.slice aT aq.length aY), (.slice aU ak.length aZ)] 25 (0, 0))) ∧ Aside0 (wc.heap[ah]? = some (.cells #[.string bm, (.slice bc aI.length bf), (.slice bd aJ.length bg)] 25 (0, 0))) ∧ Aside0 (Below w.heap.size w wc))
 case first =>
  have H := bR.1
  clear bR
  cases bM
  ·rw [if_neg Bool.false_ne_true] at H
   have H' := am H
   clear H
   go_wp2
   go_meet
   case rel => exact ⟨_, (true), prs, H', ⟨by first | omega | exact Nat.le_refl _⟩, ⟨by (with_reducible repeat (first | apply Kd.V_alloc | apply Kd.V_drewN | apply Kd.V_drew)); exact Kd.V_mono (fV3 ah (Kd.V_mono aK.1 (fun k_ hk => (⟨hk, hk.2⟩ : _ ∧ k_ ≠ ah))) (fun _ hk => hk.2)) (fun _ hk => ⟨hk.1.1, hk.1.2⟩)⟩, ⟨by (with_reducible repeat (first | apply Kd.V_alloc | apply Kd.V_drewN | apply Kd.V_drew)); exact Kd.V_mono (fV3 ah (Kd.V_mono aL.1 (fun k_ hk => (⟨hk, hk.2⟩ : _ ∧ k_ ≠ ah))) (fun _ hk => hk.2)) (fun _ hk => ⟨hk.1.1, hk.1.2⟩)⟩, ⟨by (with_reducible repeat (first | refine qBK ?_ _ | refine qBM ?_ | refine qBL ?_ _)); refine bf3 ?_ ae.1; exact pbk aa.1⟩, ⟨by (with_reducible repeat (first | refine qBK ?_ _ | refine qBM ?_ | refine qBL ?_ _)); exact bp3 (pbk af.1)⟩, ⟨pbg⟩⟩
  rw [if_pos rfl] at H
  by_cases bl : (aq.length : Int) > 6
  ·rw [if_pos bl] at H
   have aE : decide (6 < (aq.length : Int)) = true := decide_eq_true bl
   have a7 : decide (6 < aq.length) = true := decide_eq_true (by omega)
   clear bl
   (first | rw [aE] | (simp only [i64_w, i32_w]; rw [aE]) | skip)
   have H' := am H
   clear H
   have ca := ae.1
   have cw := ag.1
   have bB := cf3 aa.1
   go_wp2
   go_meet
   case rel => exact ⟨_, (true), prs, H', ⟨by first | omega | exact Nat.le_refl _⟩, ⟨by (with_reducible repeat (first | apply Kd.V_alloc | apply Kd.V_drewN | apply Kd.V_drew)); exact Kd.V_mono (fV3 ah (Kd.V_mono aK.1 (fun k_ hk => (⟨hk, hk.2⟩ : _ ∧ k_ ≠ ah))) (fun _ hk => hk.2)) (fun _ hk => ⟨hk.1.1, hk.1.2⟩)⟩, ⟨by (with_reducible repeat (first | apply Kd.V_alloc | apply Kd.V_drewN | apply Kd.V_drew)); exact Kd.V_mono (fV3 ah (Kd.V_mono aL.1 (fun k_ hk => (⟨hk, hk.2⟩ : _ ∧ k_ ≠ ah))) (fun _ hk => hk.2)) (fun _ hk => ⟨hk.1.1, hk.1.2⟩)⟩, ⟨by (with_reducible repeat (first | refine qBK ?_ _ | refine qBM ?_ | refine qBL ?_ _)); refine bf3 ?_ ae.1; exact pbk aa.1⟩, ⟨by (with_reducible repeat (first | refine qBK ?_ _ | refine qBM ?_ | refine qBL ?_ _)); exact bp3 (pbk af.1)⟩, ⟨pbg⟩⟩
  rw [if_neg bl] at H
  have aE : decide (6 < (aq.length : Int)) = false := decide_eq_false bl
  have a7 : decide (6 < aq.length) = false := decide_eq_false (by omega)
  clear bl
  (first | rw [aE] | (simp only [i64_w, i32_w]; rw [aE]) | skip)
  have H' := am H
  clear H
  have cb := ae.1
  have cx := ag.1
  have bC := cf3 aa.1
  go_wp2
  go_meet
  case rel => exact ⟨_, (decide ((ak.length : Int) > 6)), prs, H', ⟨by first | omega | exact Nat.le_refl _⟩, ⟨by (with_reducible repeat (first | apply Kd.V_alloc | apply Kd.V_drewN | apply Kd.V_drew)); exact Kd.V_mono (fV3 ah (Kd.V_mono aK.1 (fun k_ hk => (⟨hk, hk.2⟩ : _ ∧ k_ ≠ ah))) (fun _ hk => hk.2)) (fun _ hk => ⟨hk.1.1, hk.1.2⟩)⟩, ⟨by (with_reducible repeat (first | apply Kd.V_alloc | apply Kd.V_drewN | apply Kd.V_drew)); exact Kd.V_mono (fV3 ah (Kd.V_mono aL.1 (fun k_ hk => (⟨hk, hk.2⟩ : _ ∧ k_ ≠ ah))) (fun _ hk => hk.2)) (fun _ hk => ⟨hk.1.1, hk.1.2⟩)⟩, ⟨by (with_reducible repeat (first | refine qBK ?_ _ | refine qBM ?_ | refine qBL ?_ _)); refine bf3 ?_ ae.1; exact pbk aa.1⟩, ⟨by (with_reducible repeat (first | refine qBK ?_ _ | refine qBM ?_ | refine qBL ?_ _)); exact bp3 (pbk af.1)⟩, ⟨pbg⟩⟩
 clear bR
 try clear b7 bl aE a7 bB bC b1 b2
 obtain ⟨kq, bb, rfl, HA, bO, ab, ac, aa, af, HB⟩ := hcut
 obtain _ | cP := kq
 ·exact absurd HA.1 (by simp [r09_Light.j0])
 have H := HA.1
 clear HA
 simp only [r09_Light.j0] at H
 cases bb
 rotate_left
 ·rw [if_pos rfl] at H
  obtain rfl := Option.some.inj H
  go_wp2
  go_ret
  exact ⟨per, pbg⟩
 rw [if_neg Bool.false_ne_true] at H
 have H' := am H
 clear H
 go_wp2
 go_loopg [5] cP (fun kq v5 w' => ∃ (bh : Int), v5 = .int .i64 bh ∧ Aside0 (r09_Light.l0 kq bh aB aq ak = some r) ∧ Aside0 (kq ≤ cP) ∧ Aside0 (Kd.V k64 64 w' w.heap.size (fun k_ => k_ ≠ au ∧ k_ ≠ ah) (.slice bc aI.length bf) aI) ∧ Aside0 (Kd.V k38 38 w' w.heap.size (fun k_ => k_ ≠ au ∧ k_ ≠ ah) (.slice bd aJ.length bg) aJ) ∧ Aside0 (w'.heap[au]? = some (.cells #[.string aB, (.slice aT aq.length aY), (.slice aU ak.length aZ)] 25 (0, 0))) ∧ Aside0 (w'.heap[ah]? = some (.cells #[.string bm, (.slice bc aI.length bf), (.slice bd aJ.length bg)] 25 (0, 0))) ∧ Aside0 (Below w.heap.size w w'))
 case atStart => exact ⟨(0), prs, H', ⟨Nat.le_refl _⟩, ⟨pkv ab.1⟩, ⟨pkv ac.1⟩, ⟨pbk aa.1⟩, ⟨pbk af.1⟩, ⟨pbg⟩⟩
 clear H'
 try clear b7 bl aE a7 bB bC b1 b2
 obtain ⟨bh, rfl, HA, bP, ab, ac, aa, af, HB⟩ := hrel
 obtain _ | k2 := gk
 ·exact absurd HA.1 (by simp [r09_Light.l0])
 have H := HA.1
 clear HA
 simp only [r09_Light.l0] at H
 replace H := ifl H
 rcases H with ⟨bn, H⟩ | ⟨bn, H⟩
 ·replace H := ifp H
  obtain ⟨bS, H⟩ := H
  have bI := decide_eq_true bS
  clear bS
  replace H := ifg H
  rcases H with ⟨bo, H⟩ | ⟨bo, H⟩
  ·obtain rfl := Option.some.inj H
   have cd := ae.1
   have cy := ag.1
   have bY := cf3 aa.1
   obtain ⟨bK, bL, bG, bu, a8, a9, ba⟩ := bT64 bj.1 HB.1 bh
   cases bu
   go_wp2
   go_ret
   exact ⟨per, pbg⟩
  have H' := am H
  clear H
  have ce := ae.1
  have cz := ag.1
  have bZ := cf3 aa.1
  obtain ⟨bK, bL, bG, bu, a8, a9, ba⟩ := bT64 bj.1 HB.1 bh
  cases bu
  go_wp2
  go_roundg k2
  case measure => have := bO.1; have := bP.1; omega
  case rel => exact ⟨(wrap64 (bh + 1)), prs, H', ⟨by have := bO.1; have := bP.1; omega⟩, ⟨pkv ab.1⟩, ⟨pkv ac.1⟩, ⟨pbk aa.1⟩, ⟨pbk af.1⟩, ⟨pbg⟩⟩
 have H' := am H
 clear H
 have cf := ae.1
 have cA := ag.1
 have b0 := cf3 aa.1
 go_wp2
 go_loopg [6] k2 (fun kq v6 w' => ∃ (ax : Int), v6 = .int .i64 ax ∧ Aside0 (r09_Light.l1 kq ax aB aq ak = some r) ∧ Aside0 (kq ≤ k2) ∧ Aside0 (Kd.V k64 64 w' w.heap.size (fun k_ => k_ ≠ au ∧ k_ ≠ ah) (.slice bc aI.length bf) aI) ∧ Aside0 (Kd.V k38 38 w' w.heap.size (fun k_ => k_ ≠ au ∧ k_ ≠ ah) (.slice bd aJ.length bg) aJ) ∧ Aside0 (w'.heap[au]? = some (.cells #[.string aB, (.slice aT aq.length aY), (.slice aU ak.length aZ)] 25 (0, 0))) ∧ Aside0 (w'.heap[ah]? = some (.cells #[.string bm, (.slice bc aI.length bf), (.slice bd aJ.length bg)] 25 (0, 0))) ∧ Aside0 (Below w.heap.size w w'))
 case atStart => exact ⟨(0), prs, H', ⟨Nat.le_refl _⟩, ⟨pkv ab.1⟩, ⟨pkv ac.1⟩, ⟨pbk aa.1⟩, ⟨pbk af.1⟩, ⟨pbg⟩⟩
 clear H'
 try clear b7 bl aE a7 di bn bS bI dj bo bB bC bY bZ b0 b1 b2 a8 a9 ba bK bL
 obtain ⟨ax, rfl, HA, b6, ab, ac, aa, af, HB⟩ := hrel
 obtain _ | k3 := gk
 ·exact absurd HA.1 (by simp [r09_Light.l1])
 have H := HA.1
 clear HA
 simp only [r09_Light.l1] at H
 replace H := ifl H
 rcases H with ⟨bJ, H⟩ | ⟨bJ, H⟩
 rotate_left
 ·obtain rfl := Option.some.inj H
  have cv := ae.1
  have cN := ag.1
  have dh := cf3 aa.1
  go_wp2
  go_ret
  exact ⟨per, pbg⟩
 replace H := ifd H
 obtain ⟨b9, H⟩ := H
 replace H := bnd H
 obtain ⟨bx, bN, H⟩ := H
 (try dsimp only at H)
 cases bx
 ·rw [if_neg Bool.false_ne_true] at H
  obtain rfl := Option.some.inj H
  have cq := ae.1
  have cK := ag.1
  have df := cf3 aa.1
  obtain ⟨bv, bw, bk, aV, a3, aW, a4, aX, a5, a6, aM, aN, aO, aP, aQ, av, aw, ay, az, aC, aD⟩ := bT38 aS.1 HB.1 ax
  cases a6
  go_wp2_with (first | ((with_reducible refine qBN (N := 7) rfl ?_); (try (refine qBP (by rfl) ?_; dsimp only)); refine box_ev (N := 7) (cs := #[.string (⟨#[]⟩ : ByteArray), .slice none 0 0, .slice none 0 0, .slice none 0 0, .int .i64 0]) (t := 38) ?_; intro aH hg dn hbox hb; have aF := am hbox; have aG := gwb hg; have bi := aG; have ai := nlt hg aa; have al := ngt hg aa; have aj := nlt hg af; have ao := ngt hg af; replace ab := vbb ab hg hb; replace ac := vbb ac hg hb; replace aa := bbh aa hb; replace af := bbh af hb; replace HB := bst hb; clear hb hbox hg; have cr := al.1; have cL := ai.1; have cu := ao.1; have cM := aj.1; have dg := cf5 aF.1) | ((with_reducible refine qBO (f := 33) rfl ?_); refine gC 55 Try.func33 _ (r09_light.calls k3 _ _ ((rd_T38 ak ax).f1) false _ (Kd.qCG aw.1 pbg) av.1 bN.1) ?_; rintro e w' ⟨rfl, ⟨nd, rfl⟩⟩; refine ⟨_, rfl, ?_⟩))
  go_ret
  exact ⟨per, pbg⟩
 rw [if_pos rfl] at H
 replace H := bnd H
 obtain ⟨bz, bQ, H⟩ := H
 (try dsimp only at H)
 cases bz
 ·rw [if_neg Bool.false_ne_true] at H
  obtain rfl := Option.some.inj H
  have cn := ae.1
  have cH := ag.1
  have dc := cf3 aa.1
  obtain ⟨bv, bw, bk, aV, a3, aW, a4, aX, a5, a6, aM, aN, aO, aP, aQ, av, aw, ay, az, aC, aD⟩ := bT38 aS.1 HB.1 ax
  cases a6
  go_wp2_with (first | ((with_reducible refine qBN (N := 7) rfl ?_); (try (refine qBP (by rfl) ?_; dsimp only)); refine box_ev (N := 7) (cs := #[.string (⟨#[]⟩ : ByteArray), .slice none 0 0, .slice none 0 0, .slice none 0 0, .int .i64 0]) (t := 38) ?_; intro aH hg dm hbox hb; have aF := am hbox; have aG := gwb hg; have bi := aG; have ai := nlt hg aa; have al := ngt hg aa; have aj := nlt hg af; have ao := ngt hg af; replace ab := vbb ab hg hb; replace ac := vbb ac hg hb; replace aa := bbh aa hb; replace af := bbh af hb; replace HB := bst hb; clear hb hbox hg; have co := al.1; have cI := ai.1; have cp := ao.1; have cJ := aj.1; have de := cf5 aF.1) | ((with_reducible refine qBO (f := 33) rfl ?_); refine gC 55 Try.func33 _ (r09_light.calls k3 _ _ ((rd_T38 ak ax).f1) true _ (Kd.qCG aw.1 pbg) av.1 bN.1) ?_; rintro e w' ⟨rfl, ⟨nd, rfl⟩⟩; refine ⟨_, rfl, ?_⟩) | (go_at_call 33; (with_reducible refine (r09_light.calls k3 _ _ ((rd_T38 ak ax).f2) false _ ?side1 ?side2 bQ.1).mono ?_); (case side1 => exact Kd.qCG az.1 pbg); (case side2 => exact ay.1); rintro e w' ⟨rfl, ⟨nd, rfl⟩⟩))
  go_ret
  exact ⟨per, pbg⟩
 rw [if_pos rfl] at H
 replace H := bnd H
 obtain ⟨bA, b3, H⟩ := H
 (try dsimp only at H)
 cases bA
 ·rw [if_neg Bool.false_ne_true] at H
  obtain rfl := Option.some.inj H
  have cj := ae.1
  have cE := ag.1
  have da := cf3 aa.1
  obtain ⟨bv, bw, bk, aV, a3, aW, a4, aX, a5, a6, aM, aN, aO, aP, aQ, av, aw, ay, az, aC, aD⟩ := bT38 aS.1 HB.1 ax
  cases a6
  go_wp2_with (first | ((with_reducible refine qBN (N := 7) rfl ?_); (try (refine qBP (by rfl) ?_; dsimp only)); refine box_ev (N := 7) (cs := #[.string (⟨#[]⟩ : ByteArray), .slice none 0 0, .slice none 0 0, .slice none 0 0, .int .i64 0]) (t := 38) ?_; intro aH hg dl hbox hb; have aF := am hbox; have aG := gwb hg; have bi := aG; have ai := nlt hg aa; have al := ngt hg aa; have aj := nlt hg af; have ao := ngt hg af; replace ab := vbb ab hg hb; replace ac := vbb ac hg hb; replace aa := bbh aa hb; replace af := bbh af hb; replace HB := bst hb; clear hb hbox hg; have ck := al.1; have cF := ai.1; have cm := ao.1; have cG := aj.1; have db := cf5 aF.1) | ((with_reducible refine qBO (f := 33) rfl ?_); refine gC 55 Try.func33 _ (r09_light.calls k3 _ _ ((rd_T38 ak ax).f1) true _ (Kd.qCG aw.1 pbg) av.1 bN.1) ?_; rintro e w' ⟨rfl, ⟨nd, rfl⟩⟩; refine ⟨_, rfl, ?_⟩) | (go_at_call 33; (with_reducible refine (r09_light.calls k3 _ _ ((rd_T38 ak ax).f2) true _ ?side1 ?side2 bQ.1).mono ?_); (case side1 => exact Kd.qCG az.1 pbg); (case side2 => exact ay.1); rintro e w' ⟨rfl, ⟨nd, rfl⟩⟩) | (go_at_call 33; (with_reducible refine (r09_light.calls k3 _ _ ((rd_T38 ak ax).f3) false _ ?side1 ?side2 b3.1).mono ?_); (case side1 => exact Kd.qCG aD.1 pbg); (case side2 => exact aC.1); rintro e w' ⟨rfl, ⟨nd, rfl⟩⟩))
  go_ret
  exact ⟨per, pbg⟩
 rw [if_pos rfl] at H
 have H' := am H
 clear H
 have cg := ae.1
 have cB := ag.1
 have cY := cf3 aa.1
 obtain ⟨bv, bw, bk, aV, a3, aW, a4, aX, a5, a6, aM, aN, aO, aP, aQ, av, aw, ay, az, aC, aD⟩ := bT38 aS.1 HB.1 ax
 cases a6
 go_wp2_with (first | ((with_reducible refine qBN (N := 7) rfl ?_); (try (refine qBP (by rfl) ?_; dsimp only)); refine box_ev (N := 7) (cs := #[.string (⟨#[]⟩ : ByteArray), .slice none 0 0, .slice none 0 0, .slice none 0 0, .int .i64 0]) (t := 38) ?_; intro aH hg dk hbox hb; have aF := am hbox; have aG := gwb hg; have bi := aG; have ai := nlt hg aa; have al := ngt hg aa; have aj := nlt hg af; have ao := ngt hg af; replace ab := vbb ab hg hb; replace ac := vbb ac hg hb; replace aa := bbh aa hb; replace af := bbh af hb; replace HB := bst hb; clear hb hbox hg; have ch := al.1; have cC := ai.1; have ci := ao.1; have cD := aj.1; have cZ := cf5 aF.1) | ((with_reducible refine qBO (f := 33) rfl ?_); refine gC 55 Try.func33 _ (r09_light.calls k3 _ _ ((rd_T38 ak ax).f1) true _ (Kd.qCG aw.1 pbg) av.1 bN.1) ?_; rintro e w' ⟨rfl, ⟨nd, rfl⟩⟩; refine ⟨_, rfl, ?_⟩) | (go_at_call 33; (with_reducible refine (r09_light.calls k3 _ _ ((rd_T38 ak ax).f2) true _ ?side1 ?side2 bQ.1).mono ?_); (case side1 => exact Kd.qCG az.1 pbg); (case side2 => exact ay.1); rintro e w' ⟨rfl, ⟨nd, rfl⟩⟩) | (go_at_call 33; (with_reducible refine (r09_light.calls k3 _ _ ((rd_T38 ak ax).f3) true _ ?side1 ?side2 b3.1).mono ?_); (case side1 => exact Kd.qCG aD.1 pbg); (case side2 => exact aC.1); rintro e w' ⟨rfl, ⟨nd, rfl⟩⟩))
 go_roundg k3
 case measure => have := bO.1; have := bP.1; have := b6.1; omega
 case rel => exact ⟨(wrap64 (ax + 1)), prs, H', ⟨by have := bO.1; have := bP.1; have := b6.1; omega⟩, ⟨by (with_reducible repeat (first | apply Kd.V_alloc | apply Kd.V_drewN | apply Kd.V_drew)); exact Kd.V_mono (fV5 aH (Kd.V_mono ab.1 (fun k_ hk => (⟨hk, hk.2⟩ : _ ∧ k_ ≠ aH))) (fun _ hk => hk.2)) (fun _ hk => ⟨hk.1.1.1, hk.1.1.2⟩)⟩, ⟨by (with_reducible repeat (first | apply Kd.V_alloc | apply Kd.V_drewN | apply Kd.V_drew)); exact Kd.V_mono (fV5 aH (Kd.V_mono ac.1 (fun k_ hk => (⟨hk, hk.2⟩ : _ ∧ k_ ≠ aH))) (fun _ hk => hk.2)) (fun _ hk => ⟨hk.1.1.1, hk.1.1.2⟩)⟩, ⟨by (with_reducible repeat (first | refine qBK ?_ _ | refine qBM ?_ | refine qBL ?_ _)); refine bf5 ?_ ai.1; exact pbk aa.1⟩, ⟨by (with_reducible repeat (first | refine qBK ?_ _ | refine qBM ?_ | refine qBL ?_ _)); refine bf5 ?_ aj.1; exact pbk af.1⟩, ⟨pbg⟩⟩

end Go.Proofs.Ytaoogghpadifiaa.P
