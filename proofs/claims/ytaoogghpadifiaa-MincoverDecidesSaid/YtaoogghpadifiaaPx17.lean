-- LAID BY OUR PROGRAM OVER THE PRINT (xprint.py, part.py): Lean checks it.
import Derived.Test.YtaoogghpadifiaaPx0
import Derived.Test.YtaoogghpadifiaaPx4
import Derived.Test.YtaoogghpadifiaaPx5
import Derived.Test.YtaoogghpadifiaaClos
namespace Go.Proofs.Ytaoogghpadifiaa.P
open Go.RowKit Go.Proofs.YtaoogghpadifiaaW.PrintWords Go.Proofs.YtaoogghpadifiaaW.PrintLast Go.Proofs.YtaoogghpadifiaaW.PrintMore
attribute [local go_sem] max2_int min2_int max_two min_two max_three min_three max_four min_four   -- for this text's walks alone
set_option maxHeartbeats 8000000
set_option maxRecDepth 100000
set_option linter.unusedVariables false
set_option linter.unusedSimpArgs false

/-! ### mincover_Quasi_1: function 48 -/
def mincover_Quasi_1.f (l0 : List Bool) (a1 : Int) : Option (Bool) := if 0 ≤ a1 then (if a1 < (l0.length : Int) then (some (rdOf false l0 a1)) else (none)) else (none)
theorem mincover_Quasi_1.calls (B_ : Nat) (A0 : Option Addr) (c0 : Nat) (l0 : List Bool) (a1 : Int) (r : Bool) (w : World) (hbx : w.heap[B_]? = some (.cells #[.slice A0 l0.length c0] 57 (0, 0))) (ae : Kd.C Kd.bool w A0 l0.length l0) (hc0 : l0.length ≤ c0) (h : mincover_Quasi_1.f l0 a1 = some r) :
  Calls Try.prog 48 #[.int .i64 a1, .pointer (some ⟨B_, 0, none⟩)] w fun e w' => e = .returned (.bool r) ∧ Drawn0 w w' := by
 have af := am ae
 have ak := am hc0
 clear ae hc0
 have H := h
 unfold mincover_Quasi_1.f at H
 clear h
 replace H := ifd H
 obtain ⟨ag, H⟩ := H
 replace H := ifd H
 obtain ⟨ah, H⟩ := H
 obtain rfl := Option.some.inj H
 obtain ⟨ai, aj, ac, ab, aa⟩ := dbool af.1 a1
 cases ab
 obtain ⟨hcb_, hfb_⟩ := cf1 hbx
 go_enter Try.func48, Try.ntmps48
 go_wp2
 go_ret
 exact ⟨prs, pdr⟩

/-! ### qAY: function 47 -/
-- IMPORTS Derived.Test.YtaoogghpadifiaaClos
def qAY.l0 : Nat → Int → List Bool → List Int → Int → Option (List Int)
 | 0, _, _, _, _ => none
 | k + 1, x0, x1, x5, x6 => if x6 < x0 then ((mincover_Quasi_1.f x1 x6).bind fun af => (if af = true then (if x5.length < 17592186044416 then (qAY.l0 k x0 x1 (x5 ++ [x6]) (wrap64 (x6 + 1))) else (none)) else (qAY.l0 k x0 x1 x5 (wrap64 (x6 + 1))))) else (some x5)
def qAY.f (k : Nat) (a0 : Int) (l1 : List Bool) : Option (List Int) := qAY.l0 k a0 l1 ([] : List Int) 0
theorem qAY.calls (k : Nat) (a0 : Int) (B_ : Nat) (A1 : Option Addr) (c1 : Nat) (l1 : List Bool) (r : List Int) (w : World) (hbx : w.heap[B_]? = some (.cells #[.slice A1 l1.length c1] 57 (0, 0))) (hr1 : Kd.C Kd.bool w A1 l1.length l1) (ar : l1.length ≤ c1) (h : qAY.f k a0 l1 = some r) :
  Calls Try.prog 47 #[.int .i64 a0, .func (.func 48) #[] #[.pointer (some ⟨B_, 0, none⟩)]] w fun e w' => ∃ v0_ : Value, e = .returned (v0_) ∧ Kd.R (Kd.int .i64) 3 w' w.heap.size (fun _ => True) v0_ r ∧ Below w.heap.size w w' := by
 have aq := am hr1
 have ap := am ar
 clear hr1 ar
 have BX_ := am hbx
 clear hbx
 have HB := am (Below.refl w.heap.size w)
 have H := h
 unfold qAY.f at H
 clear h
 have H' := am H
 clear H
 go_enter Try.func47, Try.ntmps47
 go_wp2
 go_loopg [5, 6] k (fun kq v5 v6 w' => ∃ (ab : List Int) (aa : Int), v6 = .int .i64 aa ∧ Aside0 (qAY.l0 kq a0 l1 ab aa = some r) ∧ Aside0 (kq ≤ k) ∧ Aside0 (Kd.R (Kd.int .i64) 3 w' w.heap.size (fun _ => True) v5 ab) ∧ Aside0 (Below w.heap.size w w'))
 case atStart => exact ⟨(([] : List Int)), (0), prs, H', ⟨Nat.le_refl _⟩, ⟨knl⟩, ⟨pbg⟩⟩
 clear H'
 obtain ⟨ab, aa, rfl, HA, aj, ae, HB⟩ := hrel
 obtain _ | k1 := gk
 ·exact absurd HA.1 (by simp [qAY.l0])
 have H := HA.1
 clear HA
 simp only [qAY.l0] at H
 replace H := ifl H
 rcases H with ⟨al, H⟩ | ⟨al, H⟩
 rotate_left
 ·obtain rfl := Option.some.inj H
  go_wp2
  go_ret
  exact ⟨_, per, pkr ae.1, pbg⟩
 replace H := bnd H
 obtain ⟨af, A4, H⟩ := H
 (try dsimp only at H)
 cases af
 ·rw [if_neg Bool.false_ne_true] at H
  have H' := am H
  clear H
  go_wp2_with (first | ((with_reducible refine qBN (N := 14) rfl ?_); refine goesC_ (some 14) rfl rfl #[] #[.pointer (some ⟨B_, 0, none⟩)] Try.func48 (by kernel_rfl) rfl #[.int .i64 aa, .pointer (some ⟨B_, 0, none⟩)] rfl rfl pgz ?_; (with_reducible refine (mincover_Quasi_1.calls B_ A1 c1 l1 aa false _ ?side0 ?side1 ?side2 A4.1).mono ?_); (case side0 => repeat (first | exact (qCF BX_.1 HB.1) | (with_reducible refine qBL ?_ _) | (with_reducible refine qBK ?_ _) | (with_reducible refine qBM ?_))); (case side1 => exact csb aq HB); (case side2 => exact ap.1); rintro e w' ⟨rfl, ⟨nd, rfl⟩⟩; refine ⟨_, rfl, ?_⟩))
  go_roundg k1
  case measure => have := aj.1; omega
  case rel => exact ⟨(ab), (wrap64 (aa + 1)), prs, H', ⟨by have := aj.1; omega⟩, ⟨pkr ae.1⟩, ⟨pbg⟩⟩
 rw [if_pos rfl] at H
 replace H := ifp H
 obtain ⟨c6, H⟩ := H
 have ak := am c6
 clear c6
 obtain ⟨ai, ac⟩ : ∃ y_ : List Int, y_ = (ab ++ [aa]) := ⟨_, rfl⟩
 replace H : (qAY.l0 k1 a0 l1 ai (wrap64 (aa + 1))) = some r := hrp ac H
 have ah := am ac
 clear ac
 have H' := am H
 clear H
 go_wp2_with (first | ((with_reducible refine qBN (N := 14) rfl ?_); refine goesC_ (some 14) rfl rfl #[] #[.pointer (some ⟨B_, 0, none⟩)] Try.func48 (by kernel_rfl) rfl #[.int .i64 aa, .pointer (some ⟨B_, 0, none⟩)] rfl rfl pgz ?_; (with_reducible refine (mincover_Quasi_1.calls B_ A1 c1 l1 aa true _ ?side0 ?side1 ?side2 A4.1).mono ?_); (case side0 => repeat (first | exact (qCF BX_.1 HB.1) | (with_reducible refine qBL ?_ _) | (with_reducible refine qBK ?_ _) | (with_reducible refine qBM ?_))); (case side1 => exact csb aq HB); (case side2 => exact ap.1); rintro e w' ⟨rfl, ⟨nd, rfl⟩⟩; refine ⟨_, rfl, ?_⟩) | ((with_reducible refine qBQ (b := .append) (xs := #[.tmp 15, .tmp 17]) rfl ?_); at_builtin; refine Kd.R_append (Kd.int .i64) (w0 := w) w.heap.size rfl (.tmp 15) (.tmp 17) 39 3 (.int .i64 0) 8 rfl Try.underlying39 info3 rfl (by decide) (by omega) u5 ab aa [.int .i64 aa] (fun _ => True) (fun _ => False) rfl rfl ?aP (fun _ hk => hk.elim) ?aF ?aO ?aB ?aS ?aL ?_; (case aP => exact rfl); (case aB => exact pbl); (case aF => exact (fun _ _ => trivial)); (case aO => exact (pkr ae.1)); (case aS => exact (qBJ pbl)); (case aL => have := ak.1; omega); intro au w7 ho hb hg hat; rw [← ah.1] at ho; have ag := am ho; replace HB := am hb; clear ae; clear ho hb hg hat))
 go_roundg k1
 case measure => have := aj.1; omega
 case rel => exact ⟨(ai), (wrap64 (aa + 1)), prs, H', ⟨by have := aj.1; omega⟩, ⟨pkr ag.1⟩, ⟨pbg⟩⟩

/-! ### qAV: function 24 -/
mutual
def qAV.l0 : Nat → List Bool → List (List Int) → Int → Int → ByteArray → List (S64) → List (S38) → Option (List Int)
 | 0, _, _, _, _, _, _, _ => none
 | k + 1, x5, x15, bD, a7, ak, al, ao => if a7 < bD then (if 0 ≤ a7 then (if a7 < (x15.length : Int) then ((qAE.f k ak al ao (rd_L11 x15 a7)).bind fun ai => (qAV.l1 k x5 x15 bD a7 ai (ai.length : Int) 0 ak al ao)) else (none)) else (none)) else ((qAY.f k (x5.length : Int) x5).bind fun bc => (some bc))
def qAV.l1 : Nat → List Bool → List (List Int) → Int → Int → List Int → Int → Int → ByteArray → List (S64) → List (S38) → Option (List Int)
 | 0, _, _, _, _, _, _, _, _, _, _ => none
 | k + 1, x5, x15, bD, a7, bE, ci, bd, ak, al, ao => if bd < ci then (if 0 ≤ bd then (if bd < (bE.length : Int) then (if 0 ≤ (rd bE bd) then (if (rd bE bd) < (x5.length : Int) then (qAV.l1 k (x5.set ((rd bE bd) : Int).toNat true) x15 bD a7 bE ci (wrap64 (bd + 1)) ak al ao) else (none)) else (none)) else (none)) else (none)) else (qAV.l0 k x5 x15 bD (wrap64 (a7 + 1)) ak al ao)
end
def qAV.f (k : Nat) (ap : ByteArray) (aj : List (S64)) (ab : List (S38)) (l1 : List (List Int)) : Option (List Int) := if 0 ≤ (ab.length : Int) then (if ((ab.length : Int) : Int).toNat ≤ 281474976710656 then ((qAT.f k l1).bind fun ae => (qAV.l0 k (List.replicate ((ab.length : Int) : Int).toNat false) ae (ae.length : Int) 0 ap aj ab)) else (none)) else (none)
theorem qAV.calls (k : Nat) (ap : ByteArray) (aH : Option Addr) (aJ : Nat) (aj : List (S64)) (aI : Option Addr) (aK : Nat) (ab : List (S38)) (A1 : Option Addr) (c1 : Nat) (l1 : List (List Int)) (r : List Int) (w : World) (a5 : Kd.C k64 w aH aj.length aj) (aZ : aj.length ≤ aJ) (a6 : Kd.C k38 w aI ab.length ab) (a4 : ab.length ≤ aK) (hr1 : Kd.C (Kd.slice 3 (Kd.int .i64)) w A1 l1.length l1) (ch : l1.length ≤ c1) (h : qAV.f k ap aj ab l1 = some r) :
  Calls Try.prog 24 #[.agg #[.string ap, .slice aH aj.length aJ, .slice aI ab.length aK], .slice A1 l1.length c1] w fun e w' => ∃ v0_ : Value, e = .returned (v0_) ∧ Kd.R (Kd.int .i64) 3 w' w.heap.size (fun _ => True) v0_ r ∧ Below w.heap.size w w' := by
 have cq := Try.underlying25
 have bl := am a5
 have bh := am aZ
 clear a5 aZ
 have bm := am a6
 have bi := am a4
 clear a6 a4
 have co := am hr1
 have cn := am ch
 clear hr1 ch
 have HB := am (Below.refl w.heap.size w)
 have H := h
 unfold qAV.f at H
 clear h
 replace H := ifp H
 obtain ⟨c3, H⟩ := H
 have bu := eq_true c3
 have bv : decide (0 ≤ (ab.length : Int)) = true := decide_eq_true c3
 clear c3
 replace H := ifp H
 obtain ⟨c4, H⟩ := H
 have bw := eq_true c4
 have bx : decide (((ab.length : Int) : Int).toNat ≤ 281474976710656) = true := decide_eq_true c4
 clear c4
 obtain ⟨aR, aN⟩ : ∃ y_ : List Bool, y_ = (List.replicate ((ab.length : Int) : Int).toNat false) := ⟨_, rfl⟩
 replace H : ((qAT.f k l1).bind fun ae => (qAV.l0 k aR ae (ae.length : Int) 0 ap aj ab)) = some r := hrp aN H
 have aX := am aN
 clear aN
 replace H := bnd H
 obtain ⟨ae, A5, H⟩ := H
 (try dsimp only at H)
 have H' := am H
 clear H
 go_enter Try.func24, Try.ntmps24
 go_wp2_with (first | ((with_reducible refine qBN (N := 2) rfl ?_); refine box_ev ?_; intro au hg w6 hbox hb; have aa := am hbox; have aU := gwl hg; have b6 := aU; replace HB := bsl hb; clear hb hbox hg; have cj := cf3 aa.1) | ((with_reducible refine qBN (N := 13) rfl ?_); refine Kd.R_make Kd.bool _ 4 rfl (N := 13) rfl 57 _ _ rfl (ab.length : Int) rfl rfl Try.underlying57 (.bool false) 1 info4 rfl (by decide) (by omega) false (ok := fun _ => True) (okp := fun _ => True) rfl (fun _ hk => hk) trivial (dq) (Nat.le_trans (Nat.mul_le_mul_right _ (dq : (ab.length : Int).toNat ≤ 281474976710656)) (by omega)) (Below.refl _ _) (Nat.le_refl _) ?_; intro az w8 bC hb hg_ hnew_; clear hg_ hnew_; (first | rw [← aX.1] at bC | (simp only [Int.reduceToNat] at bC; rw [← aX.1] at bC)); have aw := am (Kd.qCH bC (qBJ pbg)); replace aa := bbh aa hb; replace HB := bst hb; obtain ⟨Am_, cm_, em_⟩ := Kd.R_slice aw.1; subst em_; have BX_ := am (alloc_new w8 (.cells #[(Value.slice Am_ aR.length cm_)] 57)); clear hb bC) | ((with_reducible refine qBO (f := 39) rfl ?_); refine gC 15 Try.func39 _ (qAT.calls k (fun k_ => k_ < w.heap.size) _ _ l1 ae _ (Kd.V_mk cn.1 (Kd.F_below (Kd.C_F (Kd.heap_slice 3 (Kd.heap_int .i64)) co.1) pbg)) A5.1) ?_; rintro e cA ⟨cx, rfl, aM, hb⟩; refine ⟨_, rfl, ?_⟩; have aV := am (Kd.N_lower (Kd.N_mono (ok' := fun k_ => some k_ ≠ ((Value.slice Am_ aR.length cm_) : Value).ownBlock ∧ k_ ≠ au) aM (fun k_ hk_ => ⟨Or.elim hk_ (fun hs_ => fun e_ => Nat.not_le.2 hs_ (Kd.R_base aw.1 k_ e_.symm)) (fun hn_ => (Kd.fresh' (Kd.R_lt (pkr aw.1)) k_ hn_)), Or.elim hk_ (fun hs_ => fun e_ => Nat.not_le.2 hs_ (by rw [e_]; exact aU.1)) (fun hn_ => (Kd.freshB (g := au) (o := .cells #[.string ap, .slice aH aj.length aJ, .slice aI ab.length aK] 25 (0, 0)) (by exact pbk aa.1) k_ hn_))⟩)) (qBJ pbg)); replace aw := rbw aw hb; replace aa := bbh aa hb; replace HB := bst hb; have nb_ := am (qCF BX_.1 hb); clear BX_; have BX_ := nb_; clear nb_; (try clear hb); (try clear aM); obtain ⟨bL, bz, bU⟩ := Kd.N_slice aV.1; subst bU))
 generalize hv_ : Value.slice Am_ aR.length cm_ = az at *
 clear hv_
 go_loopg [17] k (fun kq cv w' => ∃ (aG : List Bool) (af : Int), cv = .int .i64 af ∧ Aside0 (qAV.l0 kq aG ae (ae.length : Int) af ap aj ab = some r) ∧ Aside0 (kq ≤ k) ∧ Aside0 (Kd.R Kd.bool 4 w' w.heap.size (fun _ => True) az aG) ∧ Aside0 (Kd.N (Kd.slice 3 (Kd.int .i64)) 39 w' w.heap.size (fun k_ => some k_ ≠ (az : Value).ownBlock ∧ k_ ≠ au) (.slice bL ae.length bz) ae) ∧ Aside0 (w'.heap[au]? = some (.cells #[.string ap, (.slice aH aj.length aJ), (.slice aI ab.length aK)] 25 (0, 0))) ∧ Aside0 (w'.heap[w8.heap.size]? = some (.cells #[az] 57 (0, 0))) ∧ Aside0 (Below w.heap.size w w'))
 case atStart => exact ⟨(aR), (0), prs, H', ⟨Nat.le_refl _⟩, ⟨pkr aw.1⟩, ⟨pkn aV.1⟩, ⟨pbk aa.1⟩, ⟨pbk BX_.1⟩, ⟨pbg⟩⟩
 clear H'
 try clear c1 c3 bu bv c4 bw bx cj
 obtain ⟨aG, af, rfl, HA, bF, ah, ac, aa, BX_, HB⟩ := hrel
 obtain _ | k1 := gk
 ·exact absurd HA.1 (by simp [qAV.l0])
 have H := HA.1
 clear HA
 simp only [qAV.l0] at H
 replace H := ifl H
 rcases H with ⟨aY, H⟩ | ⟨aY, H⟩
 rotate_left
 ·replace H := bnd H
  obtain ⟨bc, ck, H⟩ := H
  (try dsimp only at H)
  obtain rfl := Option.some.inj H
  obtain ⟨bM, bR, bW⟩ := Kd.R_slice ah.1
  subst bW
  obtain ⟨hcb_, hfb_⟩ := cf1 BX_.1
  have hmf_ : ∀ (fn : Fn) (first cap : Array Value) (w : World), (Instr.makeFunc fn first cap).run Try.prog w = .ok (.func fn first cap) w := fun _ _ _ _ => rfl
  go_wp2_with (first | ((with_reducible refine qBO (f := 47) rfl ?_); refine gC 37 Try.func47 _ (qAY.calls k1 (aG.length : Int) (w8.heap.size) bM bR aG bc _ ((by exact pbk BX_.1)) (csd ((Kd.qBR ah.1).2.2)) ((Kd.qBR ah.1).2.1) ck.1) ?_; rintro e cC ⟨cy, rfl, aM, hb⟩; refine ⟨_, rfl, ?_⟩; have bk := am (Kd.qCH aM (qBJ pbg)); replace ah := rbw ah hb; replace ac := am (Kd.qBX (pkn ac.1) (Kd.R_base aM) hb); replace aa := bbh aa hb; replace HB := bst hb; (try clear hb); (try clear aM)))
  go_ret
  exact ⟨_, per, pkr bk.1, pbg⟩
 replace H := ifd H
 obtain ⟨bq, H⟩ := H
 replace H := ifd H
 obtain ⟨br, H⟩ := H
 replace H := bnd H
 obtain ⟨ai, A15, H⟩ := H
 (try dsimp only at H)
 have H' := am H
 clear H
 have aP : 0 ≤ (af : Int) := dq
 have aQ : af < (ae.length : Int) := dq
 obtain ⟨bo, bK, bQ, bS, aE, aD, aC⟩ := at_L11 (Kd.qBS ac.1).2.2 af aP aQ
 cases bS
 obtain ⟨cg, bb, ba, aL⟩ := Kd.N_get ac.1 [] af aP (by first | exact aQ | exact dq | (have e_ := (Kd.qBS ac.1).1; omega))
 obtain ⟨bI, bJ, rfl, ay, ax⟩ := Kd.qBV ba
 have ar := aL 0 _ rfl
 rw [Nat.add_zero, show ((Kd.slice 3 (Kd.int .i64))).sz = 1 from rfl, Nat.mul_one] at ar
 replace ar := Option.some.inj (ar.symm.trans aE)
 injection ar with hva_ hvn_ hvc_
 rw [hva_] at ax
 rw [hvc_] at ay
 have aA := am (show Kd.V (Kd.int .i64) 3 _ w.heap.size _ _ (rd_L11 ae af) from Kd.V_mk ay ax)
 clear hva_ hvn_ hvc_ ax ay aL bb
 have aq := am aC
 have aS := am aD
 clear aC aD
 replace aP := eq_true aP
 replace aQ := eq_true aQ
 have b5 := cf3 aa.1
 go_wp2_with (first | ((with_reducible refine qBO (f := 46) rfl ?_); refine gC 23 Try.func46 _ (qAE.calls k1 ap _ _ aj _ _ ab _ _ (rd_L11 ae af) ai _ ?side1 ?side2 ?side3 ?side4 ?side5 ?side6 A15.1) ?_; (case side1 => exact csb bl HB); (case side2 => exact bh.1); (case side3 => exact csb bm HB); (case side4 => exact bi.1); (case side5 => exact csd aq.1); (case side6 => exact aS.1); rintro e cB ⟨cz, rfl, aM, hb⟩; refine ⟨_, rfl, ?_⟩; have aW := am (Kd.qCH aM (qBJ pbg)); replace ah := rbw ah hb; replace ac := am (Kd.qBX (pkn ac.1) (Kd.R_base aM) hb); replace aA := am (Kd.qBY (pkv aA.1) (Kd.R_base aM) hb); replace aa := bbh aa hb; replace aq := cbb aq hb; replace HB := bst hb; have nb_ := bbh BX_ hb; clear BX_; have BX_ := nb_; clear nb_; (try clear hb); (try clear aM); obtain ⟨bg, a9, bV⟩ := Kd.R_slice aW.1; subst bV))
 go_loopg [25] k1 (fun kq cw w' => ∃ (av : List Bool) (ag : Int), cw = .int .i64 ag ∧ Aside0 (qAV.l1 kq av ae (ae.length : Int) af ai (ai.length : Int) ag ap aj ab = some r) ∧ Aside0 (kq ≤ k1) ∧ Aside0 (Kd.R Kd.bool 4 w' w.heap.size (fun _ => True) az av) ∧ Aside0 (Kd.N (Kd.slice 3 (Kd.int .i64)) 39 w' w.heap.size (fun k_ => some k_ ≠ (az : Value).ownBlock ∧ some k_ ≠ ((.slice bg ai.length a9) : Value).ownBlock ∧ k_ ≠ au) (.slice (some bo) ae.length bz) ae) ∧ Aside0 (Kd.R (Kd.int .i64) 3 w' w.heap.size (fun _ => True) (.slice bg ai.length a9) ai) ∧ Aside0 (w'.heap[au]? = some (.cells #[.string ap, (.slice aH aj.length aJ), (.slice aI ab.length aK)] 25 (0, 0))) ∧ Aside0 (w'.heap[w8.heap.size]? = some (.cells #[az] 57 (0, 0))) ∧ Aside0 (Below w.heap.size w w'))
 case atStart => exact ⟨(aG), (0), prs, H', ⟨Nat.le_refl _⟩, ⟨pkr ah.1⟩, ⟨nmo ac.1 (fun _ hk => ⟨hk.1.1, ⟨hk.2, hk.1.2⟩⟩)⟩, ⟨pkr aW.1⟩, ⟨pbk aa.1⟩, ⟨pbk BX_.1⟩, ⟨pbg⟩⟩
 clear H'
 try clear c1 c3 bu bv c4 bw bx aY bO bq bP br b5 cj aE aP aQ
 obtain ⟨av, ag, rfl, HA, bG, ah, ac, aB, aa, BX_, HB⟩ := hrel
 obtain _ | k2 := gk
 ·exact absurd HA.1 (by simp [qAV.l1])
 have H := HA.1
 clear HA
 simp only [qAV.l1] at H
 replace H := ifl H
 rcases H with ⟨bs, H⟩ | ⟨bs, H⟩
 rotate_left
 ·have H' := am H
  clear H
  go_wp2
  go_roundg k2
  case measure => have := bF.1; have := bG.1; omega
  case rel => exact ⟨(av), (wrap64 (af + 1)), prs, H', ⟨by have := bF.1; have := bG.1; omega⟩, ⟨pkr ah.1⟩, ⟨nmo ac.1 (fun _ hk => ⟨hk.1, hk.2.2⟩)⟩, ⟨pbk aa.1⟩, ⟨pbk BX_.1⟩, ⟨pbg⟩⟩
 replace H := ifd H
 obtain ⟨b8, H⟩ := H
 replace H := ifd H
 obtain ⟨ca, H⟩ := H
 replace H := ifd H
 obtain ⟨cd, H⟩ := H
 replace H := ifd H
 obtain ⟨cf, H⟩ := H
 obtain ⟨bf, aO⟩ : ∃ y_ : List Bool, y_ = (av.set ((rd ai ag) : Int).toNat true) := ⟨_, rfl⟩
 replace H : (qAV.l1 k2 bf ae (ae.length : Int) af ai (ai.length : Int) (wrap64 (ag + 1)) ap aj ab) = some r := hrp aO H
 have bn := am aO
 clear aO
 have H' := am H
 clear H
 obtain ⟨cr, cu, bp, bT, bH⟩ := dint (Kd.qBR aB.1).2.2 ag
 cases bT
 have b2 : 0 ≤ ((rd ai ag) : Int) := dq
 have b3 : ((rd ai ag) : Int) < ((av.length : Int) : Int) := dq
 obtain ⟨aF, aT, bA, bB, bX, cp, bj⟩ := Kd.R_form ah.1 (by omega)
 (first | cases bA | (injection bA with ea_ en_ ec_; (first | subst ea_ | (injection ea_ with ea_; subst ea_)); subst ec_; clear en_))
 have bN := am bB
 have cm := am bj
 clear bB bX bj
 obtain ⟨bZ, bY⟩ := Kd.R_celln false ah.1 ((rd ai ag) : Int) b2 b3
 replace b2 := eq_true b2
 replace b3 := eq_true b3
 have a8 := Kd.R_putg ah.1 ((rd ai ag) : Int) true
 obtain ⟨hcb_, hfb_⟩ := cf1 BX_.1
 go_wp2_with (first | ((with_reducible refine gate_store (t := 4) (p := 31) rfl ?_); refine store_event (t := 4) (p := 31) (v := ?vo_w26) (w1 := (wr.setCell ⟨aF, ((rd ai ag) : Int).toNat, none⟩ (.bool true))) ?hg ?ho ?hn ?hr ?_; (case ho => rfl); (case hg => rfl); (case hn => rfl); (case hr => first | (go_simp; done) | (go_simp; rfl)); intro b4 hw; have hg : wr.grownBy b4 (some aF) := (by rw [hw]; exact a8.2); have hp_ : Kd.R Kd.bool 4 b4 w.heap.size (fun _ => True) (.slice (some ⟨aF, 0, none⟩) av.length aT) bf := (by rw [hw, bn.1]; exact a8.1); clear a8; have nb_ := am (blk_grown (by exact pbk BX_.1) hg (Kd.R_ne ah.1 BX_.1 (by decide))); replace ac := am (Kd.qCD (v := (.slice (some ⟨aF, 0, none⟩) av.length aT)) (v1 := (.slice (some ⟨aF, 0, none⟩) av.length aT)) (ok := (fun k_ => some k_ ≠ (.slice (some bp) ai.length a9 : Value).ownBlock ∧ k_ ≠ au)) (by (with_reducible repeat (first | apply Kd.N_alloc | apply Kd.N_drewN | apply Kd.N_drew)); exact Kd.N_mono ac.1 (fun _ hk => ⟨⟨hk.2.1, hk.2.2⟩, hk.1⟩)) hg (.inl rfl)); replace aB := am (Kd.R_over' (v := (.slice (some ⟨aF, 0, none⟩) av.length aT)) (pkr aB.1) (Kd.R_typed ah.1) (by decide) hg); replace aa := (bgr aa hg (Kd.R_ne ah.1 aa.1 (by decide))); replace ah := am hp_; replace HB := am ((by rw [hw]; exact qCN (HB.1) bN.1 : Below w.heap.size w b4)); clear BX_; have BX_ := nb_; clear nb_; clear hg hw hp_))
 go_roundg k2
 case measure => have := bF.1; have := bG.1; omega
 case rel => exact ⟨(bf), (wrap64 (ag + 1)), prs, H', ⟨by have := bF.1; have := bG.1; omega⟩, ⟨pkr ah.1⟩, ⟨nmo ac.1 (fun _ hk => ⟨hk.2, ⟨hk.1.1, hk.1.2⟩⟩)⟩, ⟨pkr aB.1⟩, ⟨pbk aa.1⟩, ⟨pbk BX_.1⟩, ⟨pbg⟩⟩

end Go.Proofs.Ytaoogghpadifiaa.P
