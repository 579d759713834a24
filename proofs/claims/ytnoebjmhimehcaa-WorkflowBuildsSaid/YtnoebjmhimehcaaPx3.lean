-- LAID BY OUR PROGRAM OVER THE PRINT (xprint.py, part.py): Lean checks it.
import Derived.Test.YtnoebjmhimehcaaPx0
import Derived.Test.YtnoebjmhimehcaaPx2
namespace Go.Proofs.Ytnoebjmhimehcaa.P
open Go.RowKit Go.Proofs.YtnoebjmhimehcaaW.PrintWords Go.Proofs.YtnoebjmhimehcaaW.PrintLast Go.Proofs.YtnoebjmhimehcaaW.PrintMore
attribute [local go_sem] max2_int min2_int max_two min_two max_three min_three max_four min_four   -- for this text's walks alone
set_option linter.unusedVariables false
set_option linter.unusedSimpArgs false

/-! ### r07_Reach: function 69 -/
mutual
def r07_Reach.l0 : Nat → List (List Int) → List Int → List (List Bool) → List Bool → Int → Option (List Bool)
 | 0, _, _, _, _, _ => none
 | k + 1, x0, x1, x5, x6, x7 => if x7 < (x1.length : Int) then (if 0 ≤ x7 then (if (rd x1 x7) < 0 then (r07_Reach.j1 k x0 x1 x5 x6 x7 true) else (r07_Reach.j1 k x0 x1 x5 x6 x7 (decide ((rd x1 x7) ≥ (x0.length : Int))))) else (none)) else (some x6)
def r07_Reach.j1 : Nat → List (List Int) → List Int → List (List Bool) → List Bool → Int → Bool → Option (List Bool)
 | 0, _, _, _, _, _, _ => none
 | k + 1, x0, x1, x5, x6, x7, cU => if cU = true then (r07_Reach.l0 k x0 x1 x5 x6 (wrap64 (x7 + 1))) else (if 0 ≤ x7 then (if x7 < (x1.length : Int) then (if 0 ≤ (rd x1 x7) then (if (rd x1 x7) < (x6.length : Int) then (r07_Reach.l1 k x0 x1 x5 (x6.set ((rd x1 x7) : Int).toNat true) x7 0) else (none)) else (none)) else (none)) else (none))
def r07_Reach.l1 : Nat → List (List Int) → List Int → List (List Bool) → List Bool → Int → Int → Option (List Bool)
 | 0, _, _, _, _, _, _ => none
 | k + 1, x0, x1, x5, x6, x7, x8 => if x8 < (x0.length : Int) then (if 0 ≤ x8 then (if x8 < (x6.length : Int) then (if rdOf false x6 x8 = true then (r07_Reach.l1 k x0 x1 x5 (x6.set (x8 : Int).toNat true) x7 (wrap64 (x8 + 1))) else (if 0 ≤ x7 then (if x7 < (x1.length : Int) then (if 0 ≤ (rd x1 x7) then (if (rd x1 x7) < (x5.length : Int) then (if x8 < ((rd_L13 x5 (rd x1 x7)).length : Int) then (r07_Reach.l1 k x0 x1 x5 (x6.set (x8 : Int).toNat (rdOf false (rd_L13 x5 (rd x1 x7)) x8)) x7 (wrap64 (x8 + 1))) else (none)) else (none)) else (none)) else (none)) else (none))) else (none)) else (none)) else (r07_Reach.l0 k x0 x1 x5 x6 (wrap64 (x7 + 1)))
end
def r07_Reach.f (k : Nat) (l0 : List (List Int)) (l1 : List Int) : Option (List Bool) := (r07_Paths.f k l0).bind fun ah => (if 0 ≤ (l0.length : Int) then (if ((l0.length : Int) : Int).toNat ≤ 281474976710656 then (r07_Reach.l0 k l0 l1 ah (List.replicate ((l0.length : Int) : Int).toNat false) 0) else (none)) else (none))
theorem r07_Reach.mono_l : ∀ k, M5 r07_Reach.l0 k ∧ M6 r07_Reach.j1 k ∧ M6 r07_Reach.l1 k
 | 0 => ⟨fun _ _ _ _ _ r h => by simp [r07_Reach.l0] at h, fun _ _ _ _ _ _ r h => by simp [r07_Reach.j1] at h, fun _ _ _ _ _ _ r h => by simp [r07_Reach.l1] at h⟩
 | k + 1 => by
  obtain ⟨cd, ce, cf⟩ := r07_Reach.mono_l k
  refine ⟨?_, ?_, ?_⟩ <;> dsimp only [M5, M6] <;> intros <;> (first | unfold r07_Reach.l0 | unfold r07_Reach.j1 | unfold r07_Reach.l1) <;> repeat' first | (with_reducible first | apply cd | apply ce | apply cf | apply r07_Paths.mono | apply lr | apply ln | apply li | refine lb ?_ fun _ => ?_)
theorem r07_Reach.mono : ∀ a0 a1 k, LeO (r07_Reach.f k a0 a1) (r07_Reach.f (k + 1) a0 a1) := by
 intro a0 a1 k
 obtain ⟨cd, ce, cf⟩ := r07_Reach.mono_l k
 unfold r07_Reach.f
 repeat' first | (with_reducible first | apply cd | apply ce | apply cf | apply r07_Paths.mono | apply lr | apply ln | apply li | refine lb ?_ fun _ => ?_)
set_option maxHeartbeats 8000000 in
set_option maxRecDepth 100000 in
theorem r07_Reach.calls (k : Nat) (A0 : Option Addr) (c0 : Nat) (l0 : List (List Int)) (A1 : Option Addr) (c1 : Nat) (l1 : List Int) (r : List Bool) (w : World) (cI : Kd.C (Kd.slice 3 (Kd.int .i64)) w A0 l0.length l0) (hc0 : l0.length ≤ c0) (hr1 : Kd.C (Kd.int .i64) w A1 l1.length l1) (cG : l1.length ≤ c1) (h : r07_Reach.f k l0 l1 = some r) :
  Calls Try.prog 69 #[.slice A0 l0.length c0, .slice A1 l1.length c1] w fun e w' => ∃ v0_ : Value, e = .returned (v0_) ∧ Kd.R Kd.bool 4 w' w.heap.size (fun _ => True) v0_ r ∧ Below w.heap.size w w' := by
 have cM := am cI
 have cL := am hc0
 clear cI hc0
 have bp := am hr1
 have cV := am cG
 clear hr1 cG
 have HB := am (Below.refl w.heap.size w)
 have H := h
 unfold r07_Reach.f at H
 clear h
 replace H := bnd H
 obtain ⟨ah, A3, H⟩ := H
 (try dsimp only at H)
 replace H := ifp H
 obtain ⟨c4, H⟩ := H
 have a4 := eq_true c4
 have a5 : decide (0 ≤ (l0.length : Int)) = true := decide_eq_true c4
 clear c4
 replace H := ifp H
 obtain ⟨c5, H⟩ := H
 have a6 := eq_true c5
 have a7 : decide (((l0.length : Int) : Int).toNat ≤ 281474976710656) = true := decide_eq_true c5
 clear c5
 obtain ⟨bK, aJ⟩ : ∃ y_ : List Bool, y_ = (List.replicate ((l0.length : Int) : Int).toNat false) := ⟨_, rfl⟩
 replace H : (r07_Reach.l0 k l0 l1 ah bK 0) = some r := hrp aJ H
 have aV := am aJ
 clear aJ
 have H' := am H
 clear H
 go_enter Try.func69, Try.ntmps69
 go_wp2_with (first | ((with_reducible refine gate_callee (f := 80) rfl ?_); refine gC 10 Try.func80 _ (r07_Paths.calls k _ _ l0 ah _ (csd cM.1) cL.1 A3.1) ?_; rintro e w6 ⟨bh, rfl, cH, hb⟩; refine ⟨_, rfl, ?_⟩; have aC := am (Kd.S_lower cH (below_size pbl)); replace HB := bsl hb; (try clear hb); (try clear cH)) | ((with_reducible refine gate_dst (N := 13) rfl ?_); (try (refine gate_guard (by rfl) ?_; dsimp only)); refine Kd.R_make Kd.bool _ 4 rfl (N := 13) rfl 63 _ _ rfl (l0.length : Int) rfl rfl Try.underlying63 (.bool false) 1 info4 rfl (by decide) (by omega) false (ok := fun _ => True) (okp := fun _ => True) rfl (fun _ hk => hk) trivial (dq) (Nat.le_trans (Nat.mul_le_mul_right _ (dq : (l0.length : Int).toNat ≤ 281474976710656)) (by omega)) (Below.refl _ _) (Nat.le_refl _) ?_; intro aT w7 bm hb hg_ hnew_; clear hg_ hnew_; (first | rw [← aV.1] at bm | (simp only [Int.reduceToNat] at bm; rw [← aV.1] at bm)); have bo := am (Kd.R_lower bm (below_size pbl)); replace aC := am (Kd.S_elder' (pks aC.1) (Kd.R_base bm) hb); replace HB := bsl hb; clear hb bm))
 go_loopg [7] k (fun kq v7 w' => ∃ (ao : List Bool) (aa : Int), v7 = .int .i64 aa ∧ Aside0 (r07_Reach.l0 kq l0 l1 ah ao aa = some r) ∧ Aside0 (kq ≤ k) ∧ Aside0 (Kd.S (Kd.slice 4 Kd.bool) 63 w' w.heap.size (fun k_ => some k_ ≠ (aT : Value).ownBlock) bh ah) ∧ Aside0 (Kd.R Kd.bool 4 w' w.heap.size (fun _ => True) aT ao) ∧ Aside0 (Below w.heap.size w w'))
 case atStart => exact ⟨(bK), (0), prs, H', ⟨Nat.le_refl _⟩, ⟨by (with_reducible repeat (first | apply Kd.S_alloc | apply Kd.S_drewN | apply Kd.S_drew)); exact Kd.S_mono aC.1 (fun _ hk => hk.2)⟩, ⟨pkr bo.1⟩, ⟨pbg⟩⟩
 clear H'
 try clear c1 c4 a4 a5 c5 a6 a7
 obtain ⟨ao, aa, rfl, HA, aN, aj, af, HB⟩ := hrel
 obtain _ | k1 := gk
 ·exact absurd HA.1 (by simp [r07_Reach.l0])
 have H := HA.1
 clear HA
 simp only [r07_Reach.l0] at H
 replace H := ifl H
 rcases H with ⟨a8, H⟩ | ⟨a8, H⟩
 rotate_left
 ·obtain rfl := Option.some.inj H
  go_wp2
  go_ret
  exact ⟨_, per, by (with_reducible repeat (first | apply Kd.R_alloc | apply Kd.R_drewN | apply Kd.R_drew)); exact af.1, pbg⟩
 have aY := am H
 clear H
 go_upto_region 6 with (fail)
 go_cut [33] (fun cT wc => ∃ (kq : Nat) (aB : Bool), cT = .bool aB ∧ Aside0 (r07_Reach.j1 kq l0 l1 ah ao aa aB = some r) ∧ Aside0 (kq ≤ k1) ∧ Aside0 (Kd.S (Kd.slice 4 Kd.bool) 63 wc w.heap.size (fun k_ => some k_ ≠ (aT : Value).ownBlock) bh ah) ∧ Aside0 (Kd.R Kd.bool 4 wc w.heap.size (fun _ => True) aT ao) ∧ Aside0 (Below w.heap.size w wc))
 case first =>
  have H := aY.1
  clear aY
  replace H := ifp H
  obtain ⟨bM, H⟩ := H
  have ax := decide_eq_true bM
  clear bM
  (first | rw [ax] | (simp only [i64_w, i32_w]; rw [ax]) | skip)
  replace H := ifl H
  rcases H with ⟨aF, H⟩ | ⟨aF, H⟩
  ·have H' := am H
   clear H
   obtain ⟨bf, bg, aW, a9, aq⟩ := bint bp.1 HB.1 aa
   cases a9
   go_wp2
   go_meet
   case rel => exact ⟨_, (true), prs, H', ⟨by have := aN.1; first | omega | exact Nat.le_refl _⟩, ⟨pks aj.1⟩, ⟨pkr af.1⟩, ⟨pbg⟩⟩
  have H' := am H
  clear H
  obtain ⟨bf, bg, aW, a9, aq⟩ := bint bp.1 HB.1 aa
  cases a9
  obtain ⟨bI, bJ, bu, b0, aA⟩ := bint bp.1 HB.1 aa
  obtain rfl : aW = bu := (by injection b0)
  go_wp2
  go_meet
  case rel => exact ⟨_, (decide ((rd l1 aa) ≥ (l0.length : Int))), prs, H', ⟨by have := aN.1; first | omega | exact Nat.le_refl _⟩, ⟨pks aj.1⟩, ⟨pkr af.1⟩, ⟨pbg⟩⟩
 clear aY
 try clear c1 c4 a4 a5 c5 a6 a7 a8 bM ax cN aF aq aA bf bI bg bJ
 obtain ⟨kq, aB, rfl, HA, aU, aj, af, HB⟩ := hcut
 obtain _ | bP := kq
 ·exact absurd HA.1 (by simp [r07_Reach.j1])
 have H := HA.1
 clear HA
 simp only [r07_Reach.j1] at H
 cases aB
 rotate_left
 ·rw [if_pos rfl] at H
  have H' := am H
  clear H
  go_wp2
  go_roundg bP
  case measure => have := aN.1; have := aU.1; omega
  case rel => exact ⟨(ao), (wrap64 (aa + 1)), prs, H', ⟨by have := aN.1; have := aU.1; omega⟩, ⟨pks aj.1⟩, ⟨pkr af.1⟩, ⟨pbg⟩⟩
 rw [if_neg Bool.false_ne_true] at H
 replace H := ifp H
 obtain ⟨bU, H⟩ := H
 have bA := decide_eq_true bU
 clear bU
 replace H := ifp H
 obtain ⟨bV, H⟩ := H
 have bB := decide_eq_true bV
 clear bV
 replace H := ifp H
 obtain ⟨bW, H⟩ := H
 have bC := decide_eq_true bW
 clear bW
 replace H := ifp H
 obtain ⟨bX, H⟩ := H
 have bD := decide_eq_true bX
 clear bX
 obtain ⟨bi, aK⟩ : ∃ y_ : List Bool, y_ = (ao.set ((rd l1 aa) : Int).toNat true) := ⟨_, rfl⟩
 replace H : (r07_Reach.l1 bP l0 l1 ah bi aa 0) = some r := hrp aK H
 have bq := am aK
 clear aK
 have H' := am H
 clear H
 obtain ⟨ci, cm, bv, b1, aO⟩ := bint bp.1 HB.1 aa
 cases b1
 have bQ : 0 ≤ ((rd l1 aa) : Int) := dq
 have bR : ((rd l1 aa) : Int) < ((ao.length : Int) : Int) := dq
 obtain ⟨ai, al, bG, bH, b6, cO, bn⟩ := Kd.R_form af.1 (by omega)
 (first | cases bG | (injection bG with ea_ en_ ec_; (first | subst ea_ | (injection ea_ with ea_; subst ea_)); subst ec_; clear en_))
 have aX := am bH
 have cK := am bn
 clear bH b6 bn
 obtain ⟨bd, b7⟩ := Kd.R_celln false af.1 ((rd l1 aa) : Int) bQ bR
 replace bQ := eq_true bQ
 replace bR := eq_true bR
 have aZ := Kd.R_putg af.1 ((rd l1 aa) : Int) true
 go_wp2_with (first | ((with_reducible refine gate_store (t := 4) (p := 39) rfl ?_); refine store_event (t := 4) (p := 39) (v := ?vo_w20) (w1 := (wc.setCell ⟨ai, ((rd l1 aa) : Int).toNat, none⟩ (.bool true))) ?hg ?ho ?hn ?hr ?_; (case ho => rfl); (case hg => rfl); (case hn => rfl); (case hr => first | (go_simp; done) | (go_simp; rfl)); intro cn hw; have hg : wc.grownBy cn (some ai) := (by rw [hw]; exact aZ.2); have hp_ : Kd.R Kd.bool 4 cn w.heap.size (fun _ => True) (.slice (some ⟨ai, 0, none⟩) ao.length al) bi := (by rw [hw, bq.1]; exact aZ.1); clear aZ; replace aj := am (Kd.S_after (v := (.slice (some ⟨ai, 0, none⟩) ao.length al)) (v1 := (.slice (some ⟨ai, 0, none⟩) ao.length al)) (ok := (fun _ => True)) (by (with_reducible repeat (first | apply Kd.S_alloc | apply Kd.S_drewN | apply Kd.S_drew)); exact Kd.S_mono aj.1 (fun _ hk => ⟨trivial, hk⟩)) hg (.inl rfl)); replace af := am hp_; replace HB := am ((by rw [hw]; exact below_set (HB.1) aX.1 : Below w.heap.size w cn)); clear hg hw hp_))
 go_loopg [8] bP (fun kq v8 w' => ∃ (ac : List Bool) (ab : Int), v8 = .int .i64 ab ∧ Aside0 (r07_Reach.l1 kq l0 l1 ah ac aa ab = some r) ∧ Aside0 (kq ≤ bP) ∧ Aside0 (Kd.S (Kd.slice 4 Kd.bool) 63 w' w.heap.size (fun k_ => some k_ ≠ ((.slice (some ⟨ai, 0, none⟩) ao.length al) : Value).ownBlock) bh ah) ∧ Aside0 (Kd.R Kd.bool 4 w' w.heap.size (fun _ => True) (.slice (some ⟨ai, 0, none⟩) ao.length al) ac) ∧ Aside0 (Below w.heap.size w w'))
 case atStart => exact ⟨(bi), (0), prs, H', ⟨Nat.le_refl _⟩, ⟨by (with_reducible repeat (first | apply Kd.S_alloc | apply Kd.S_drewN | apply Kd.S_drew)); exact Kd.S_mono aj.1 (fun _ hk => hk.2)⟩, ⟨pkr af.1⟩, ⟨pbg⟩⟩
 clear H'
 try clear c1 c4 a4 a5 c5 a6 a7 c9 a8 bM ax cN aF bU bA bV bB bW bC bX bD bQ bR bd aq aA aO bf bI ci bg bJ cm
 obtain ⟨ac, ab, rfl, HA, bl, aj, af, HB⟩ := hrel
 have ae := (Kd.R_reads' af.1).1
 rw [ae] at af
 (try simp only [ae])
 (try simp only [ae] at aj)
 obtain _ | k3 := gk
 ·exact absurd HA.1 (by simp [r07_Reach.l1])
 have H := HA.1
 clear HA
 simp only [r07_Reach.l1] at H
 replace H := ifl H
 rcases H with ⟨aG, H⟩ | ⟨aG, H⟩
 rotate_left
 ·(try have c21b9_0 : decide (ab < (ac.length : Int)) = false := (by rw [← ae]; exact aG))
  skip
  have H' := am H
  clear H
  go_wp2
  (try simp only [← ae])
  go_roundg k3
  case measure => have := aN.1; have := aU.1; have := bl.1; omega
  case rel => exact ⟨(ac), (wrap64 (aa + 1)), prs, H', ⟨by have := aN.1; have := aU.1; have := bl.1; omega⟩, ⟨by (try simp only [ae]); exact pks aj.1⟩, ⟨by (try simp only [ae]); exact pkr af.1⟩, ⟨pbg⟩⟩
 (try have c21b9_0 : decide (ab < (ac.length : Int)) = true := (by rw [← ae]; exact aG))
 skip
 replace H := ifp H
 obtain ⟨cr, H⟩ := H
 have cu := decide_eq_true cr
 clear cr
 replace H := ifp H
 obtain ⟨cv, H⟩ := H
 have cw := decide_eq_true cv
 clear cv
 obtain ⟨bz, aH⟩ : ∃ b_ : Bool, b_ = (rdOf false ac ab) := ⟨_, rfl⟩
 replace H : (if bz = true then (r07_Reach.l1 k3 l0 l1 ah (ac.set (ab : Int).toNat true) aa (wrap64 (ab + 1))) else (if 0 ≤ aa then (if aa < (l1.length : Int) then (if 0 ≤ (rd l1 aa) then (if (rd l1 aa) < (ah.length : Int) then (if ab < ((rd_L13 ah (rd l1 aa)).length : Int) then (r07_Reach.l1 k3 l0 l1 ah (ac.set (ab : Int).toNat (rdOf false (rd_L13 ah (rd l1 aa)) ab)) aa (wrap64 (ab + 1))) else (none)) else (none)) else (none)) else (none)) else (none))) = some r := by rw [← aH] at H; exact H
 have aD := am aH
 clear aH
 by_cases bN : bz = true
 ·subst bN
  rw [if_pos rfl] at H
  obtain ⟨bj, aL⟩ : ∃ y_ : List Bool, y_ = (ac.set (ab : Int).toNat true) := ⟨_, rfl⟩
  replace H : (r07_Reach.l1 k3 l0 l1 ah bj aa (wrap64 (ab + 1))) = some r := hrp aL H
  have br := am aL
  clear aL
  have H' := am H
  clear H
  have ar : 0 ≤ (ab : Int) := dq
  have au : ab < (ac.length : Int) := dq
  obtain ⟨aE, ba, ag⟩ := Kd.at_bool (Kd.R_reads' af.1).2.2 ab ar au
  (try rw [← aD.1] at ag)
  obtain rfl : (⟨ai, 0, none⟩ : Addr) = aE := (by injection ba)
  (first | simp only [add_plain] at ag | simp only [add_at] at ag | simp only [Addr.add, Nat.zero_add] at ag | skip)
  replace ar := eq_true ar
  replace au := eq_true au
  have cg : 0 ≤ (ab : Int) := dq
  have cj : (ab : Int) < ((ac.length : Int) : Int) := dq
  obtain ⟨ca, b8⟩ := Kd.R_celln false af.1 (ab : Int) cg cj
  replace cg := eq_true cg
  replace cj := eq_true cj
  have a2 := Kd.R_putg af.1 (ab : Int) true
  go_wp2_with (first | ((with_reducible refine gate_store (t := 4) (p := 64) rfl ?_); refine store_event (t := 4) (p := 64) (v := ?vo_w28) (w1 := (wr.setCell ⟨ai, (ab : Int).toNat, none⟩ (.bool true))) ?hg ?ho ?hn ?hr ?_; (case ho => rfl); (case hg => rfl); (case hn => rfl); (case hr => first | (go_simp; done) | (go_simp; rfl)); intro co hw; have hg : wr.grownBy co (some ai) := (by rw [hw]; exact a2.2); have hp_ : Kd.R Kd.bool 4 co w.heap.size (fun _ => True) (.slice (some ⟨ai, 0, none⟩) ac.length al) bj := (by rw [hw, br.1]; exact a2.1); clear a2; replace aj := am (Kd.S_after (v := (.slice (some ⟨ai, 0, none⟩) ac.length al)) (v1 := (.slice (some ⟨ai, 0, none⟩) ac.length al)) (ok := (fun _ => True)) (by (with_reducible repeat (first | apply Kd.S_alloc | apply Kd.S_drewN | apply Kd.S_drew)); exact Kd.S_mono aj.1 (fun _ hk => ⟨trivial, hk⟩)) hg (.inl rfl)); replace af := am hp_; replace HB := am ((by rw [hw]; exact below_set (HB.1) aX.1 : Below w.heap.size w co)); clear hg hw hp_))
  (try simp only [← ae])
  go_roundg k3
  case measure => have := aN.1; have := aU.1; have := bl.1; omega
  case rel => exact ⟨(bj), (wrap64 (ab + 1)), prs, H', ⟨by have := aN.1; have := aU.1; have := bl.1; omega⟩, ⟨by (try simp only [ae]); (with_reducible repeat (first | apply Kd.S_alloc | apply Kd.S_drewN | apply Kd.S_drew)); exact Kd.S_mono aj.1 (fun _ hk => hk.2)⟩, ⟨by (try simp only [ae]); exact pkr af.1⟩, ⟨pbg⟩⟩
 replace bN := Bool.eq_false_iff.mpr bN
 subst bN
 rw [if_neg Bool.false_ne_true] at H
 replace H := ifp H
 obtain ⟨cx, H⟩ := H
 have cy := decide_eq_true cx
 clear cx
 replace H := ifp H
 obtain ⟨cz, H⟩ := H
 have bE := decide_eq_true cz
 (try have c30b9_0 : decide (aa < (ac.length : Int)) = true := (by rw [← ae]; exact bE))
 clear cz
 replace H := ifp H
 obtain ⟨cA, H⟩ := H
 have cB := decide_eq_true cA
 clear cA
 replace H := ifp H
 obtain ⟨cC, H⟩ := H
 have bF := decide_eq_true cC
 (try have c32b9_0 : decide ((rd l1 aa) < (ac.length : Int)) = true := (by rw [← ae]; exact bF))
 clear cC
 replace H := ifp H
 obtain ⟨cD, H⟩ := H
 have cE := decide_eq_true cD
 clear cD
 obtain ⟨bk, aM⟩ : ∃ y_ : List Bool, y_ = (ac.set (ab : Int).toNat (rdOf false (rd_L13 ah (rd l1 aa)) ab)) := ⟨_, rfl⟩
 replace H : (r07_Reach.l1 k3 l0 l1 ah bk aa (wrap64 (ab + 1))) = some r := hrp aM H
 have bs := am aM
 clear aM
 have H' := am H
 clear H
 have ar : 0 ≤ (ab : Int) := dq
 have au : ab < (ac.length : Int) := dq
 obtain ⟨aE, ba, ag⟩ := Kd.at_bool (Kd.R_reads' af.1).2.2 ab ar au
 (try rw [← aD.1] at ag)
 obtain rfl : (⟨ai, 0, none⟩ : Addr) = aE := (by injection ba)
 (first | simp only [add_plain] at ag | simp only [add_at] at ag | simp only [Addr.add, Nat.zero_add] at ag | skip)
 replace ar := eq_true ar
 replace au := eq_true au
 obtain ⟨cP, cR, bw, b2, bO⟩ := bint bp.1 HB.1 aa
 obtain rfl : bv = bw := (by injection b2)
 obtain ⟨cJ, bZ, b5⟩ := Kd.S_slice aj.1
 subst b5
 have aR : 0 ≤ ((rd l1 aa) : Int) := dq
 have aS : (rd l1 aa) < (ah.length : Int) := dq
 obtain ⟨bx, bT, bY, b3, aP, az, ay⟩ := at_L13 (Kd.S_reads' aj.1).2.2 (rd l1 aa) aR aS
 cases b3
 obtain ⟨cF, bc, bb, aI⟩ := Kd.S_get aj.1 [] (rd l1 aa) aR (by first | exact aS | exact dq | (have e_ := (Kd.S_reads' aj.1).1; omega))
 obtain ⟨bS, rfl, ap⟩ := bb
 have ak := aI 0 _ rfl
 rw [Nat.add_zero, show ((Kd.slice 4 Kd.bool)).sz = 1 from rfl, Nat.mul_one] at ak
 replace ak := Option.some.inj (ak.symm.trans aP)
 rw [ak] at ap
 have av := am (show Kd.R Kd.bool 4 _ _ _ _ (rd_L13 ah (rd l1 aa)) from ap)
 clear ak ap aI bc
 have aw := am ay
 have bL := am az
 clear ay az
 replace aR := eq_true aR
 replace aS := eq_true aS
 obtain ⟨cQ, cS, cq, b4, aQ⟩ := dbool (by repeat (first | (with_reducible exact aw.1) | (with_reducible refine Kd.C_alloc ?_ _) | (with_reducible refine Kd.C_drewN ?_ _) | (with_reducible refine Kd.C_drew ?_) | exact aw.1)) ab
 (try rw [← aD.1] at aQ)
 cases b4
 have ch : 0 ≤ (ab : Int) := dq
 have ck : (ab : Int) < ((ac.length : Int) : Int) := dq
 obtain ⟨cb, b9⟩ := Kd.R_celln false af.1 (ab : Int) ch ck
 replace ch := eq_true ch
 replace ck := eq_true ck
 have a3 := Kd.R_putg af.1 (ab : Int) (rdOf false (rd_L13 ah (rd l1 aa)) ab)
 go_wp2_with (first | ((with_reducible refine gate_store (t := 4) (p := 64) rfl ?_); refine store_event (t := 4) (p := 64) (v := ?vo_w37) (w1 := (wr.setCell ⟨ai, (ab : Int).toNat, none⟩ (.bool (rdOf false (rd_L13 ah (rd l1 aa)) ab)))) ?hg ?ho ?hn ?hr ?_; (case ho => rfl); (case hg => rfl); (case hn => rfl); (case hr => first | (go_simp; done) | (go_simp; rfl)); intro cp hw; have hg : wr.grownBy cp (some ai) := (by rw [hw]; exact a3.2); have hp_ : Kd.R Kd.bool 4 cp w.heap.size (fun _ => True) (.slice (some ⟨ai, 0, none⟩) ac.length al) bk := (by rw [hw, bs.1]; exact a3.1); clear a3; replace aj := am (Kd.S_after (v := (.slice (some ⟨ai, 0, none⟩) ac.length al)) (v1 := (.slice (some ⟨ai, 0, none⟩) ac.length al)) (ok := (fun _ => True)) (by (with_reducible repeat (first | apply Kd.S_alloc | apply Kd.S_drewN | apply Kd.S_drew)); exact Kd.S_mono aj.1 (fun _ hk => ⟨trivial, hk⟩)) hg (.inl rfl)); replace af := am hp_; replace av := am (Kd.R_after (v := (.slice (some ⟨ai, 0, none⟩) ac.length al)) (v1 := (.slice (some ⟨ai, 0, none⟩) ac.length al)) (ok := (fun k_ => some k_ ≠ (.slice (some bx) ah.length bZ : Value).ownBlock)) (by (with_reducible repeat (first | apply Kd.R_alloc | apply Kd.R_drewN | apply Kd.R_drew)); exact Kd.R_mono av.1 (fun _ hk => ⟨hk.2, hk.1⟩)) hg (.inl rfl)); replace HB := am ((by rw [hw]; exact below_set (HB.1) aX.1 : Below w.heap.size w cp)); clear hg hw hp_))
 (try simp only [← ae])
 go_roundg k3
 case measure => have := aN.1; have := aU.1; have := bl.1; omega
 case rel => exact ⟨(bk), (wrap64 (ab + 1)), prs, H', ⟨by have := aN.1; have := aU.1; have := bl.1; omega⟩, ⟨by (try simp only [ae]); (with_reducible repeat (first | apply Kd.S_alloc | apply Kd.S_drewN | apply Kd.S_drew)); exact Kd.S_mono aj.1 (fun _ hk => hk.2)⟩, ⟨by (try simp only [ae]); exact pkr af.1⟩, ⟨pbg⟩⟩

/-! ### r43_off: function 43 -/
def r43_off.l0 : Nat → List (List Int) → List Bool → List Bool → List Int → Int → Option (List Int)
 | 0, _, _, _, _, _ => none
 | k + 1, x7, x8, x9, x10, x11 => if x11 < (x7.length : Int) then (if 0 ≤ x11 then (if x11 < (x8.length : Int) then (if rdOf false x8 x11 = true then (if x11 < (x9.length : Int) then (if rdOf false x9 x11 = true then (r43_off.l0 k x7 x8 x9 x10 (wrap64 (x11 + 1))) else (if x10.length < 17592186044416 then (r43_off.l0 k x7 x8 x9 (x10 ++ [x11]) (wrap64 (x11 + 1))) else (none))) else (none)) else (if x10.length < 17592186044416 then (r43_off.l0 k x7 x8 x9 (x10 ++ [x11]) (wrap64 (x11 + 1))) else (none))) else (none)) else (none)) else (some x10)
def r43_off.f (k : Nat) (aD : ByteArray) (au : List (S52)) (av : List (S48)) (a1 : Int) (a2 : Int) : Option (List Int) := (r13_Flow.f k aD au av).bind fun af => ((r07_Reach.f k af (([a1] : List Int))).bind fun ak => ((r07_Reverse.f k af).bind fun aA => ((r07_Reach.f k aA (([a2] : List Int))).bind fun ai => (r43_off.l0 k af ak ai ([] : List Int) 0))))
theorem r43_off.mono_l : ∀ k, M5 r43_off.l0 k
 | 0 => fun _ _ _ _ _ r h => by simp [r43_off.l0] at h
 | k + 1 => by
  have bP := r43_off.mono_l k
  ·intro y0 y1 y2 y3 y4
   unfold r43_off.l0
   repeat' first | (with_reducible first | apply bP | apply r07_Reach.mono | apply r07_Reverse.mono | apply r13_Flow.mono | apply lr | apply ln | apply li | refine lb ?_ fun _ => ?_)
theorem r43_off.mono : ∀ a0 a1 a2 a3 a4 k, LeO (r43_off.f k a0 a1 a2 a3 a4) (r43_off.f (k + 1) a0 a1 a2 a3 a4) := by
 intro a0 a1 a2 a3 a4 k
 have bP := r43_off.mono_l k
 unfold r43_off.f
 repeat' first | (with_reducible first | apply bP | apply r07_Reach.mono | apply r07_Reverse.mono | apply r13_Flow.mono | apply lr | apply ln | apply li | refine lb ?_ fun _ => ?_)
set_option maxHeartbeats 8000000 in
set_option maxRecDepth 100000 in
theorem r43_off.calls (k : Nat) (aD : ByteArray) (aZ : Option Addr) (a6 : Nat) (au : List (S52)) (a5 : Option Addr) (a7 : Nat) (av : List (S48)) (a1 : Int) (a2 : Int) (r : List Int) (w : World) (aX : Kd.C k52 w aZ au.length au) (aV : au.length ≤ a6) (aY : Kd.C k48 w a5 av.length av) (aW : av.length ≤ a7) (h : r43_off.f k aD au av a1 a2 = some r) :
  Calls Try.prog 43 #[.agg #[.string aD, .slice aZ au.length a6, .slice a5 av.length a7], .int .i64 a1, .int .i64 a2] w fun e w' => ∃ v0_ : Value, e = .returned (v0_) ∧ Kd.R (Kd.int .i64) 3 w' w.heap.size (fun _ => True) v0_ r ∧ Below w.heap.size w w' := by
 have cj := Try.underlying25
 have bh := am aX
 have bb := am aV
 clear aX aV
 have bi := am aY
 have bc := am aW
 clear aY aW
 have HB := am (Below.refl w.heap.size w)
 have H := h
 unfold r43_off.f at H
 clear h
 replace H := bnd H
 obtain ⟨af, A4, H⟩ := H
 (try dsimp only at H)
 obtain ⟨bx, aK⟩ : ∃ y_ : List Int, y_ = (([a1] : List Int)) := ⟨_, rfl⟩
 replace H : ((r07_Reach.f k af bx).bind fun ak => ((r07_Reverse.f k af).bind fun aA => ((r07_Reach.f k aA (([a2] : List Int))).bind fun ai => (r43_off.l0 k af ak ai ([] : List Int) 0)))) = some r := hrp aK H
 have aR := am aK
 clear aK
 replace H := bnd H
 obtain ⟨ak, A5, H⟩ := H
 (try dsimp only at H)
 replace H := bnd H
 obtain ⟨aA, A6, H⟩ := H
 (try dsimp only at H)
 obtain ⟨bz, aM⟩ : ∃ y_ : List Int, y_ = (([a2] : List Int)) := ⟨_, rfl⟩
 replace H : ((r07_Reach.f k aA bz).bind fun ai => (r43_off.l0 k af ak ai ([] : List Int) 0)) = some r := hrp aM H
 have aT := am aM
 clear aM
 replace H := bnd H
 obtain ⟨ai, A7, H⟩ := H
 (try dsimp only at H)
 have H' := am H
 clear H
 go_enter Try.func43, Try.ntmps43
 go_wp2_with (first | ((with_reducible refine gate_dst (N := 3) rfl ?_); refine box_ev ?_; intro br hg w8 hbox hb; have ab := am hbox; have ba := gwl hg; have bS := ba; replace HB := bsl hb; clear hb hbox hg; have z9 := cf3 ab.1) | ((with_reducible refine gate_callee (f := 68) rfl ?_); refine gC 13 Try.func68 _ (r13_Flow.calls k aD _ _ au _ _ av af _ (csb bh HB) bb.1 (csb bi HB) bc.1 A4.1) ?_; rintro e cu ⟨cm, rfl, aE, hb⟩; refine ⟨_, rfl, ?_⟩; have ac := am (Kd.S_lower aE (below_size pbg)); replace ab := bbh ab hb; replace HB := bst hb; (try clear hb); (try clear aE)) | ((with_reducible refine gate_dst (N := 16) rfl ?_); refine Kd.R_lit (Kd.int .i64) _ 3 ?hg (N := 16) ?hd (xs := ([a1] : List Int)) (inner := [.int .i64 a1]) (ok := fun _ => True) (okp := fun _ => True) ?hr ?hp (fun _ hk => hk) trivial (Below.refl _ _) (Nat.le_refl _) (by simp) ?_; (case hd => rfl); (case hg => rfl); (case hr => first | (go_simp; done) | (go_simp; rfl)); (case hp => exact (Reps.one (show Kd.M (Kd.int .i64) _ _ _ a1 [.int .i64 a1] from rfl) (Reps.none _ _))); intro cn cv aG hb hg_ hnew_; clear hg_ hnew_; (first | rw [← aR.1] at aG | (simp only [Int.reduceToNat] at aG; rw [← aR.1] at aG)); have ag := am (Kd.R_lower aG (below_size pbg)); replace ac := am (Kd.S_elder' (pks ac.1) (Kd.R_base aG) hb); replace ab := bbh ab hb; replace HB := bst hb; clear hb aG; obtain ⟨bE, bF, bG⟩ := Kd.S_slice ac.1; subst bG; obtain ⟨b2, ca, bH⟩ := Kd.R_slice ag.1; subst bH) | ((with_reducible refine gate_callee (f := 69) rfl ?_); refine gC 17 Try.func69 _ (r07_Reach.calls k _ _ af _ _ bx ak _ (csd ((Kd.S_reads' ac.1).2.2)) ((Kd.S_reads' ac.1).2.1) (csd ((Kd.R_reads' ag.1).2.2)) ((Kd.R_reads' ag.1).2.1) A5.1) ?_; rintro e cw ⟨bv, rfl, aE, hb⟩; refine ⟨_, rfl, ?_⟩; have ap := am (Kd.R_lower aE (below_size pbg)); replace ac := sbw ac hb; replace ag := rbw ag hb; replace ab := bbh ab hb; replace HB := bst hb; (try clear hb); (try clear aE)) | ((with_reducible refine gate_callee (f := 70) rfl ?_); refine gC 19 Try.func70 _ (r07_Reverse.calls k _ _ af aA _ (csd ((Kd.S_reads' ac.1).2.2)) ((Kd.S_reads' ac.1).2.1) A6.1) ?_; rintro e cx ⟨co, rfl, aE, hb⟩; refine ⟨_, rfl, ?_⟩; have aq := am (Kd.S_lower (Kd.S_new' (Kd.S_new' aE (Kd.S_lt (pks ac.1))) (Kd.R_lt (pkr ag.1))) (below_size pbg)); replace ac := am (Kd.S_elder' (pks ac.1) (Kd.S_base aE) hb); replace ag := rbw ag hb; replace ap := rbw ap hb; replace ab := bbh ab hb; replace HB := bst hb; (try clear hb); (try clear aE)) | ((with_reducible refine gate_dst (N := 21) rfl ?_); refine Kd.R_lit (Kd.int .i64) _ 3 ?hg (N := 21) ?hd (xs := ([a2] : List Int)) (inner := [.int .i64 a2]) (ok := fun _ => True) (okp := fun _ => True) ?hr ?hp (fun _ hk => hk) trivial (Below.refl _ _) (Nat.le_refl _) (by simp) ?_; (case hd => rfl); (case hg => rfl); (case hr => first | (go_simp; done) | (go_simp; rfl)); (case hp => exact (Reps.one (show Kd.M (Kd.int .i64) _ _ _ a2 [.int .i64 a2] from rfl) (Reps.none _ _))); intro cp cy ay hb hg_ hnew_; clear hg_ hnew_; (first | rw [← aT.1] at ay | (simp only [Int.reduceToNat] at ay; rw [← aT.1] at ay)); have aw := am (Kd.R_lower (Kd.R_new' ay (Kd.R_lt (pkr ag.1))) (below_size pbg)); replace ac := am (Kd.S_elder' (pks ac.1) (Kd.R_base ay) hb); replace ag := am (Kd.R_elder' (pkr ag.1) (Kd.R_base ay) hb); replace ap := rbw ap hb; replace aq := am (Kd.S_elder' (pks aq.1) (Kd.R_base ay) hb); replace ab := bbh ab hb; replace HB := bst hb; clear hb ay; obtain ⟨b3, cb, bI⟩ := Kd.S_slice aq.1; subst bI; obtain ⟨b4, cd, bJ⟩ := Kd.R_slice aw.1; subst bJ) | ((with_reducible refine gate_callee (f := 69) rfl ?_); refine gC 22 Try.func69 _ (r07_Reach.calls k _ _ aA _ _ bz ai _ (csd ((Kd.S_reads' aq.1).2.2)) ((Kd.S_reads' aq.1).2.1) (csd ((Kd.R_reads' aw.1).2.2)) ((Kd.R_reads' aw.1).2.1) A7.1) ?_; rintro e cz ⟨bw, rfl, aE, hb⟩; refine ⟨_, rfl, ?_⟩; have bd := am (Kd.R_lower (Kd.R_new' aE (Kd.R_lt (pkr ap.1))) (below_size pbg)); replace ac := sbw ac hb; replace ag := rbw ag hb; replace ap := am (Kd.R_elder' (pkr ap.1) (Kd.R_base aE) hb); replace aq := sbw aq hb; replace aw := rbw aw hb; replace ab := bbh ab hb; replace HB := bst hb; (try clear hb); (try clear aE)))
 go_loopg [10, 11] k (fun kq b1 ck w' => ∃ (ae : List Int) (aa : Int), ck = .int .i64 aa ∧ Aside0 (r43_off.l0 kq af ak ai ae aa = some r) ∧ Aside0 (kq ≤ k) ∧ Aside0 (Kd.S (Kd.slice 3 (Kd.int .i64)) 39 w' w.heap.size (fun k_ => some k_ ≠ (b1 : Value).ownBlock) (.slice bE af.length bF) af) ∧ Aside0 (Kd.R Kd.bool 4 w' w.heap.size (fun k_ => some k_ ≠ (bw : Value).ownBlock) bv ak) ∧ Aside0 (Kd.R Kd.bool 4 w' w.heap.size (fun k_ => some k_ ≠ (bv : Value).ownBlock) bw ai) ∧ Aside0 (Kd.R (Kd.int .i64) 3 w' w.heap.size (fun _ => True) b1 ae) ∧ Aside0 (w'.heap[br]? = some (.cells #[.string aD, (.slice aZ au.length a6), (.slice a5 av.length a7)] 25 (0, 0))) ∧ Aside0 (Below w.heap.size w w'))
 case atStart => exact ⟨(([] : List Int)), (0), prs, H', ⟨Nat.le_refl _⟩, ⟨by (with_reducible repeat (first | apply Kd.S_alloc | apply Kd.S_drewN | apply Kd.S_drew)); exact Kd.S_mono ac.1 (fun _ hk => (by simp [Value.ownBlock]))⟩, ⟨by (with_reducible repeat (first | apply Kd.R_alloc | apply Kd.R_drewN | apply Kd.R_drew)); exact Kd.R_mono ap.1 (fun _ hk => hk.2)⟩, ⟨by (with_reducible repeat (first | apply Kd.R_alloc | apply Kd.R_drewN | apply Kd.R_drew)); exact Kd.R_mono bd.1 (fun _ hk => hk.2)⟩, ⟨knl⟩, ⟨pbk ab.1⟩, ⟨pbg⟩⟩
 clear H'
 try clear z9
 obtain ⟨ae, aa, rfl, HA, a9, az, ao, ar, aj, ab, HB⟩ := hrel
 obtain _ | k1 := gk
 ·exact absurd HA.1 (by simp [r43_off.l0])
 have H := HA.1
 clear HA
 simp only [r43_off.l0] at H
 replace H := ifl H
 rcases H with ⟨bq, H⟩ | ⟨bq, H⟩
 rotate_left
 ·obtain rfl := Option.some.inj H
  go_wp2
  go_ret
  exact ⟨_, per, by (with_reducible repeat (first | apply Kd.R_alloc | apply Kd.R_drewN | apply Kd.R_drew)); exact aj.1, pbg⟩
 replace H := ifp H
 obtain ⟨bT, H⟩ := H
 have bU := decide_eq_true bT
 clear bT
 replace H := ifp H
 obtain ⟨bV, H⟩ := H
 have bW := decide_eq_true bV
 clear bV
 obtain ⟨bo, aI⟩ : ∃ b_ : Bool, b_ = (rdOf false ak aa) := ⟨_, rfl⟩
 replace H : (if bo = true then (if aa < (ai.length : Int) then (if rdOf false ai aa = true then (r43_off.l0 k1 af ak ai ae (wrap64 (aa + 1))) else (if ae.length < 17592186044416 then (r43_off.l0 k1 af ak ai (ae ++ [aa]) (wrap64 (aa + 1))) else (none))) else (none)) else (if ae.length < 17592186044416 then (r43_off.l0 k1 af ak ai (ae ++ [aa]) (wrap64 (aa + 1))) else (none))) = some r := by rw [← aI] at H; exact H
 have ax := am aI
 clear aI
 by_cases bC : bo = true
 rotate_left
 ·replace bC := Bool.eq_false_iff.mpr bC
  subst bC
  rw [if_neg Bool.false_ne_true] at H
  replace H := ifp H
  obtain ⟨b0, H⟩ := H
  have bk := am b0
  clear b0
  obtain ⟨bB, aQ⟩ : ∃ y_ : List Int, y_ = (ae ++ [aa]) := ⟨_, rfl⟩
  replace H : (r43_off.l0 k1 af ak ai bB (wrap64 (aa + 1))) = some r := hrp aQ H
  have bm := am aQ
  clear aQ
  have H' := am H
  clear H
  obtain ⟨b9, ci, bO⟩ := Kd.R_slice ao.1
  subst bO
  obtain ⟨bs, bu, aU, aH, ah⟩ := dbool (Kd.R_reads' ao.1).2.2 aa
  (try rw [← ax.1] at ah)
  cases aH
  go_wp2_with (first | ((with_reducible refine gate_builtin (b := .append) (xs := #[.tmp 41, .tmp 43]) rfl ?_); at_builtin; refine Kd.R_append (Kd.int .i64) (w0 := w) w.heap.size rfl (.tmp 41) (.tmp 43) 39 3 (.int .i64 0) 8 rfl Try.underlying39 info3 rfl (by decide) (by omega) u10 ae aa [.int .i64 aa] (fun _ => True) (fun _ => False) rfl rfl ?aP (fun _ hk => hk.elim) ?aF ?aO ?aB ?aS ?aL ?_; (case aP => exact rfl); (case aB => exact pbg); (case aF => exact (fun _ _ => trivial)); (case aO => exact (pkr aj.1)); (case aS => exact (below_size pbg)); (case aL => have := bk.1; omega); intro cr cB ho hb hg hat; rw [← bm.1] at ho; have bg := am ho; replace az := am (Kd.S_after (ok := (fun _ => True)) (by (with_reducible repeat (first | apply Kd.S_alloc | apply Kd.S_drewN | apply Kd.S_drew)); exact Kd.S_mono az.1 (fun _ hk => ⟨trivial, hk⟩)) hg hat); replace ao := am (Kd.R_over' (pkr ao.1) (Kd.R_typed (pkr aj.1)) (by decide) hg); replace ar := am (Kd.R_over' (pkr ar.1) (Kd.R_typed (pkr aj.1)) (by decide) hg); replace ab := (bgr ab hg (Kd.R_ne aj.1 ab.1 (by decide))); replace HB := am hb; clear aj; clear ho hb hg hat))
  go_roundg k1
  case measure => have := a9.1; omega
  case rel => exact ⟨(bB), (wrap64 (aa + 1)), prs, H', ⟨by have := a9.1; omega⟩, ⟨by (with_reducible repeat (first | apply Kd.S_alloc | apply Kd.S_drewN | apply Kd.S_drew)); exact Kd.S_mono az.1 (fun _ hk => hk.2)⟩, ⟨pkr ao.1⟩, ⟨pkr ar.1⟩, ⟨pkr bg.1⟩, ⟨pbk ab.1⟩, ⟨pbg⟩⟩
 subst bC
 rw [if_pos rfl] at H
 replace H := ifp H
 obtain ⟨bX, H⟩ := H
 have bY := decide_eq_true bX
 clear bX
 obtain ⟨bp, aJ⟩ : ∃ b_ : Bool, b_ = (rdOf false ai aa) := ⟨_, rfl⟩
 replace H : (if bp = true then (r43_off.l0 k1 af ak ai ae (wrap64 (aa + 1))) else (if ae.length < 17592186044416 then (r43_off.l0 k1 af ak ai (ae ++ [aa]) (wrap64 (aa + 1))) else (none))) = some r := by rw [← aJ] at H; exact H
 have aC := am aJ
 clear aJ
 by_cases bD : bp = true
 ·subst bD
  rw [if_pos rfl] at H
  have H' := am H
  clear H
  obtain ⟨b5, ce, bK⟩ := Kd.R_slice ao.1
  subst bK
  obtain ⟨bs, bu, aU, aH, ah⟩ := dbool (Kd.R_reads' ao.1).2.2 aa
  (try rw [← ax.1] at ah)
  (try rw [← aC.1] at ah)
  cases aH
  obtain ⟨b6, cf, bL⟩ := Kd.R_slice ar.1
  subst bL
  obtain ⟨bQ, bR, bn, a8, al⟩ := dbool (Kd.R_reads' ar.1).2.2 aa
  (try rw [← ax.1] at al)
  (try rw [← aC.1] at al)
  cases a8
  go_wp2
  go_roundg k1
  case measure => have := a9.1; omega
  case rel => exact ⟨(ae), (wrap64 (aa + 1)), prs, H', ⟨by have := a9.1; omega⟩, ⟨pks az.1⟩, ⟨pkr ao.1⟩, ⟨pkr ar.1⟩, ⟨pkr aj.1⟩, ⟨pbk ab.1⟩, ⟨pbg⟩⟩
 replace bD := Bool.eq_false_iff.mpr bD
 subst bD
 rw [if_neg Bool.false_ne_true] at H
 replace H := ifp H
 obtain ⟨bZ, H⟩ := H
 have bj := am bZ
 clear bZ
 obtain ⟨bA, aN⟩ : ∃ y_ : List Int, y_ = (ae ++ [aa]) := ⟨_, rfl⟩
 replace H : (r43_off.l0 k1 af ak ai bA (wrap64 (aa + 1))) = some r := hrp aN H
 have bl := am aN
 clear aN
 have H' := am H
 clear H
 obtain ⟨b7, cg, bM⟩ := Kd.R_slice ao.1
 subst bM
 obtain ⟨bs, bu, aU, aH, ah⟩ := dbool (Kd.R_reads' ao.1).2.2 aa
 (try rw [← ax.1] at ah)
 (try rw [← aC.1] at ah)
 cases aH
 obtain ⟨b8, ch, bN⟩ := Kd.R_slice ar.1
 subst bN
 obtain ⟨bQ, bR, bn, a8, al⟩ := dbool (Kd.R_reads' ar.1).2.2 aa
 (try rw [← ax.1] at al)
 (try rw [← aC.1] at al)
 cases a8
 go_wp2_with (first | ((with_reducible refine gate_builtin (b := .append) (xs := #[.tmp 41, .tmp 43]) rfl ?_); at_builtin; refine Kd.R_append (Kd.int .i64) (w0 := w) w.heap.size rfl (.tmp 41) (.tmp 43) 39 3 (.int .i64 0) 8 rfl Try.underlying39 info3 rfl (by decide) (by omega) u10 ae aa [.int .i64 aa] (fun _ => True) (fun _ => False) rfl rfl ?aP (fun _ hk => hk.elim) ?aF ?aO ?aB ?aS ?aL ?_; (case aP => exact rfl); (case aB => exact pbg); (case aF => exact (fun _ _ => trivial)); (case aO => exact (pkr aj.1)); (case aS => exact (below_size pbg)); (case aL => have := bj.1; omega); intro cq cA ho hb hg hat; rw [← bl.1] at ho; have bf := am ho; replace az := am (Kd.S_after (ok := (fun _ => True)) (by (with_reducible repeat (first | apply Kd.S_alloc | apply Kd.S_drewN | apply Kd.S_drew)); exact Kd.S_mono az.1 (fun _ hk => ⟨trivial, hk⟩)) hg hat); replace ao := am (Kd.R_over' (pkr ao.1) (Kd.R_typed (pkr aj.1)) (by decide) hg); replace ar := am (Kd.R_over' (pkr ar.1) (Kd.R_typed (pkr aj.1)) (by decide) hg); replace ab := (bgr ab hg (Kd.R_ne aj.1 ab.1 (by decide))); replace HB := am hb; clear aj; clear ho hb hg hat))
 go_roundg k1
 case measure => have := a9.1; omega
 case rel => exact ⟨(bA), (wrap64 (aa + 1)), prs, H', ⟨by have := a9.1; omega⟩, ⟨by (with_reducible repeat (first | apply Kd.S_alloc | apply Kd.S_drewN | apply Kd.S_drew)); exact Kd.S_mono az.1 (fun _ hk => hk.2)⟩, ⟨pkr ao.1⟩, ⟨pkr ar.1⟩, ⟨pkr bf.1⟩, ⟨pbk ab.1⟩, ⟨pbg⟩⟩

/-! ### r43_Problems: function 19 -/
mutual
def r43_Problems.j0 : Nat → List (S50) → Int → Bool → Int → Bool → ByteArray → List (S52) → List (S48) → Option ((List (S50)) × Int)
 | 0, _, _, _, _, _, _, _, _ => none
 | k + 1, x5, x6, x7, x8, x9, ag, ac, ah => if x9 = true then (r43_Problems.j1 k x5 x6 x7 x8 x9 ag ac ah) else (if x5.length < 8796093022208 then (r43_Problems.j1 k (x5 ++ [(⟨2, 0⟩ : S50)]) x6 x7 x8 x9 ag ac ah) else (none))
def r43_Problems.j1 : Nat → List (S50) → Int → Bool → Int → Bool → ByteArray → List (S52) → List (S48) → Option ((List (S50)) × Int)
 | 0, _, _, _, _, _, _, _, _ => none
 | k + 1, x5, x6, x7, x8, x9, ag, ac, ah => if x7 = true then (r43_Problems.j2 k x5 x6 x8 (!x9) ag ac ah) else (r43_Problems.j2 k x5 x6 x8 true ag ac ah)
def r43_Problems.j2 : Nat → List (S50) → Int → Int → Bool → ByteArray → List (S52) → List (S48) → Option ((List (S50)) × Int)
 | 0, _, _, _, _, _, _, _ => none
 | k + 1, x5, x6, x8, cP, ag, ac, ah => if cP = true then (some (x5, 0)) else (if x6 = x8 then (if x5.length < 8796093022208 then (r43_Problems.j3 k (x5 ++ [(⟨3, x6⟩ : S50)]) x6 x8 ag ac ah) else (none)) else (r43_Problems.j3 k x5 x6 x8 ag ac ah))
def r43_Problems.j3 : Nat → List (S50) → Int → Int → ByteArray → List (S52) → List (S48) → Option ((List (S50)) × Int)
 | 0, _, _, _, _, _, _ => none
 | k + 1, x5, x6, x8, ag, ac, ah => (r43_off.f k ag ac ah x6 x8).bind fun ao => (r43_Problems.l0 k x5 ao 0 ag ac ah)
def r43_Problems.l0 : Nat → List (S50) → List Int → Int → ByteArray → List (S52) → List (S48) → Option ((List (S50)) × Int)
 | 0, _, _, _, _, _, _ => none
 | k + 1, x5, x10, x11, ag, ac, ah => if x11 < (x10.length : Int) then (if 0 ≤ x11 then (if (rd x10 x11) < (ac.length : Int) then (if x5.length < 8796093022208 then (r43_Problems.l0 k (x5 ++ [(⟨3, rd x10 x11⟩ : S50)]) x10 (wrap64 (x11 + 1)) ag ac ah) else (none)) else (if x5.length < 8796093022208 then (r43_Problems.l0 k (x5 ++ [(⟨4, wrap64 ((rd x10 x11) - (ac.length : Int))⟩ : S50)]) x10 (wrap64 (x11 + 1)) ag ac ah) else (none))) else (none)) else (some (x5, 0))
end
def r43_Problems.f (k : Nat) (ak : ByteArray) (ab : List (S52)) (ae : List (S48)) : Option ((List (S50)) × Int) := (r09_Check.f k ak ab ae).bind fun bb => (if bb.1 = 0 then ((r09_Plain.f k ak ab ae).bind fun bp => (if bp = true then ((r43_Source.f k ak ab ae).bind fun aK => ((r43_Sink.f k ak ab ae).bind fun aN => (if aK.2 = true then (r43_Problems.j0 k ([] : List (S50)) aK.1 aK.2 aN.1 aN.2 ak ab ae) else (if ([] : List (S50)).length < 8796093022208 then (r43_Problems.j0 k (([] : List (S50)) ++ [(⟨1, 0⟩ : S50)]) aK.1 aK.2 aN.1 aN.2 ak ab ae) else (none))))) else (some (([] : List (S50)), 12)))) else (some (([] : List (S50)), bb.1)))
theorem r43_Problems.mono_l : ∀ k, M8 r43_Problems.j0 k ∧ M8 r43_Problems.j1 k ∧ M7 r43_Problems.j2 k ∧ M6 r43_Problems.j3 k ∧ M6 r43_Problems.l0 k
 | 0 => ⟨fun _ _ _ _ _ _ _ _ r h => by simp [r43_Problems.j0] at h, fun _ _ _ _ _ _ _ _ r h => by simp [r43_Problems.j1] at h, fun _ _ _ _ _ _ _ r h => by simp [r43_Problems.j2] at h, fun _ _ _ _ _ _ r h => by simp [r43_Problems.j3] at h, fun _ _ _ _ _ _ r h => by simp [r43_Problems.l0] at h⟩
 | k + 1 => by
  obtain ⟨b9, ca, cb, cd, ce⟩ := r43_Problems.mono_l k
  refine ⟨?_, ?_, ?_, ?_, ?_⟩ <;> dsimp only [M6, M7, M8] <;> intros <;> (first | unfold r43_Problems.j0 | unfold r43_Problems.j1 | unfold r43_Problems.j2 | unfold r43_Problems.j3 | unfold r43_Problems.l0) <;> repeat' first | (with_reducible first | apply b9 | apply ca | apply cb | apply cd | apply ce | apply r09_Check.mono | apply r09_Plain.mono | apply r43_Sink.mono | apply r43_Source.mono | apply r43_off.mono | apply lr | apply ln | apply li | refine lb ?_ fun _ => ?_)
theorem r43_Problems.mono : ∀ a0 a1 a2 k, LeO (r43_Problems.f k a0 a1 a2) (r43_Problems.f (k + 1) a0 a1 a2) := by
 intro a0 a1 a2 k
 obtain ⟨b9, ca, cb, cd, ce⟩ := r43_Problems.mono_l k
 unfold r43_Problems.f
 repeat' first | (with_reducible first | apply b9 | apply ca | apply cb | apply cd | apply ce | apply r09_Check.mono | apply r09_Plain.mono | apply r43_Sink.mono | apply r43_Source.mono | apply r43_off.mono | apply lr | apply ln | apply li | refine lb ?_ fun _ => ?_)
def r43_Problems.T21 : Bool × List (List Nat × List Nat) := (true, [([], []), ([], []), ([0, 1], [0, 1]), ([2], [2]), ([], []), ([4], [4]), ([5], [5]), ([3, 6], [3, 6])])
def r43_Problems.B21 : List Nat := [0, 0, 3, 7, 0, 16, 48, 127]
theorem r43_Problems.tab21 : rtab .any (opsOf Try.f19 21) = r43_Problems.T21 := by kernel_rfl
theorem r43_Problems.bits21 : waitsOk r43_Problems.T21.2 r43_Problems.B21 = true := by kernel_rfl
def r43_Problems.T23 : Bool × List (List Nat × List Nat) := (true, [([], []), ([], []), ([], []), ([1, 2], [1, 2]), ([3], [3]), ([], []), ([5], [5]), ([6], [6]), ([4, 7], [4, 7]), ([8], [8]), ([9], [9]), ([0, 10], [0, 10]), ([11, 11, 0, 1, 2, 3, 4, 5, 6, 7, 8, 9, 10, 11], [0, 11])])
def r43_Problems.B23 : List Nat := [0, 0, 0, 6, 14, 0, 32, 96, 254, 510, 1022, 2047, 4095]
theorem r43_Problems.tab23 : rtab .any (opsOf Try.f19 23) = r43_Problems.T23 := by kernel_rfl
theorem r43_Problems.bits23 : waitsOk r43_Problems.T23.2 r43_Problems.B23 = true := by kernel_rfl
set_option maxHeartbeats 8000000 in
set_option maxRecDepth 100000 in
theorem r43_Problems.calls (k : Nat) (ak : ByteArray) (az : Option Addr) (aC : Nat) (ab : List (S52)) (aA : Option Addr) (aD : Nat) (ae : List (S48)) (r1 : List (S50)) (r2 : Int) (w : World) (bf : Kd.C k52 w az ab.length ab) (bc : ab.length ≤ aC) (bg : Kd.C k48 w aA ae.length ae) (bd : ae.length ≤ aD) (h : r43_Problems.f k ak ab ae = some (r1, r2)) :
  Calls Try.prog 19 #[.agg #[.string ak, .slice az ab.length aC, .slice aA ae.length aD]] w fun e w' => ∃ v0_ : Value, e = .returned (.tuple #[v0_, .int .i64 r2]) ∧ Kd.R k50 50 w' w.heap.size (fun _ => True) v0_ r1 ∧ Below w.heap.size w w' := by
 have b8 : ∀ (x0 x1 : Value) (W : World), (Instr.field 60 (.agg #[x0, x1]) 0).run Try.prog W = .ok x0 W := fun x0 x1 W => by kernel_rfl
 have cB := Try.underlying25
 have cC := Try.underlying50
 have av := am bf
 have ar := am bc
 clear bf bc
 have aw := am bg
 have au := am bd
 clear bg bd
 have HB := am (Below.refl w.heap.size w)
 have H := h
 unfold r43_Problems.f at H
 clear h
 replace H := bnd H
 obtain ⟨⟨bn, bo⟩, A2, H⟩ := H
 (try dsimp only at H)
 replace H := ife H
 rcases H with ⟨aU, aV, H⟩ | ⟨aU, aV, H⟩
 rotate_left
 ·simp only [Option.some.injEq, Prod.mk.injEq] at H
  obtain ⟨rfl, rfl⟩ := H
  go_enter Try.func19, Try.ntmps19
  go_wp2_with (first | ((with_reducible refine gate_dst (N := 1) rfl ?_); refine box_ev ?_; intro al hg di hbox hb; have aa := am hbox; have aI := gwl hg; have ba := aI; replace HB := bsl hb; clear hb hbox hg; have dm := cf3 aa.1) | ((with_reducible refine gate_callee (f := 41) rfl ?_); refine gC 13 Try.func41 _ (r09_Check.calls k ak _ _ ab _ _ ae bn bo _ (csb av HB) ar.1 (csb aw HB) au.1 A2.1) ?_; rintro e dj ⟨rfl, hb⟩; refine ⟨_, rfl, ?_⟩; replace aa := bbh aa hb; replace HB := bst hb; (try clear hb)))
  go_ret2
  exact ⟨_, per, knl, pbg⟩
 replace H := bnd H
 obtain ⟨bp, A4, H⟩ := H
 (try dsimp only at H)
 cases bp
 ·rw [if_neg Bool.false_ne_true] at H
  simp only [Option.some.injEq, Prod.mk.injEq] at H
  obtain ⟨rfl, rfl⟩ := H
  go_enter Try.func19, Try.ntmps19
  go_wp2_with (first | ((with_reducible refine gate_dst (N := 1) rfl ?_); refine box_ev ?_; intro al hg df hbox hb; have aa := am hbox; have aI := gwl hg; have ba := aI; replace HB := bsl hb; clear hb hbox hg; have dk := cf3 aa.1) | ((with_reducible refine gate_callee (f := 41) rfl ?_); refine gC 13 Try.func41 _ (r09_Check.calls k ak _ _ ab _ _ ae bn bo _ (csb av HB) ar.1 (csb aw HB) au.1 A2.1) ?_; rintro e dg ⟨rfl, hb⟩; refine ⟨_, rfl, ?_⟩; replace aa := bbh aa hb; replace HB := bst hb; (try clear hb); have dl := cf3 aa.1) | ((with_reducible refine gate_callee (f := 42) rfl ?_); refine gC 19 Try.func42 _ (r09_Plain.calls k ak _ _ ab _ _ ae false _ (csb av HB) ar.1 (csb aw HB) au.1 A4.1) ?_; rintro e dh ⟨rfl, hb⟩; refine ⟨_, rfl, ?_⟩; replace aa := bbh aa hb; replace HB := bst hb; (try clear hb)))
  go_ret2
  exact ⟨_, per, knl, pbg⟩
 rw [if_pos rfl] at H
 replace H := bnd H
 obtain ⟨⟨aq, aW⟩, A6, H⟩ := H
 (try dsimp only at H)
 replace H := bnd H
 obtain ⟨⟨aG, aX⟩, A7, H⟩ := H
 (try dsimp only at H)
 have b1 := am H
 clear H
 go_enter Try.func19, Try.ntmps19
 go_upto_if 32 with (first | ((with_reducible refine gate_dst (N := 1) rfl ?_); refine box_ev ?_; intro al hg w9 hbox hb; have aa := am hbox; have aI := gwl hg; have ba := aI; replace HB := bsl hb; clear hb hbox hg; have bT := cf3 aa.1) | ((with_reducible refine gate_callee (f := 41) rfl ?_); refine gC 13 Try.func41 _ (r09_Check.calls k ak _ _ ab _ _ ae bn bo _ (csb av HB) ar.1 (csb aw HB) au.1 A2.1) ?_; rintro e cS ⟨rfl, hb⟩; refine ⟨_, rfl, ?_⟩; replace aa := bbh aa hb; replace HB := bst hb; (try clear hb); have bU := cf3 aa.1) | ((with_reducible refine gate_callee (f := 42) rfl ?_); refine gC 19 Try.func42 _ (r09_Plain.calls k ak _ _ ab _ _ ae true _ (csb av HB) ar.1 (csb aw HB) au.1 A4.1) ?_; rintro e cT ⟨rfl, hb⟩; refine ⟨_, rfl, ?_⟩; replace aa := bbh aa hb; replace HB := bst hb; (try clear hb); have bV := cf3 aa.1) | ((with_reducible refine gate_callee (f := 13) rfl ?_); refine gC 23 Try.func13 _ (r43_Source.calls k ak _ _ ab _ _ ae aq aW _ (csb av HB) ar.1 (csb aw HB) au.1 A6.1) ?_; rintro e cU ⟨rfl, hb⟩; refine ⟨_, rfl, ?_⟩; replace aa := bbh aa hb; replace HB := bst hb; (try clear hb); have bW := cf3 aa.1) | ((with_reducible refine gate_callee (f := 15) rfl ?_); refine gC 28 Try.func15 _ (r43_Sink.calls k ak _ _ ab _ _ ae aG aX _ (csb av HB) ar.1 (csb aw HB) au.1 A7.1) ?_; rintro e cV ⟨rfl, hb⟩; refine ⟨_, rfl, ?_⟩; replace aa := bbh aa hb; replace HB := bst hb; (try clear hb)))
 (try simp only [Act.put, List.setIfInBounds_toArray, List.set_cons_zero, List.set_cons_succ])
 go_cut [5] (fun v5 wc => ∃ (kq : Nat) (aY : List (S50)), Aside0 (r43_Problems.j0 kq aY aq aW aG aX ak ab ae = some (r1, r2)) ∧ Aside0 (kq ≤ k) ∧ Aside0 (Kd.R k50 50 wc w.heap.size (fun _ => True) v5 aY) ∧ Aside0 (wc.heap[al]? = some (.cells #[.string ak, (.slice az ab.length aC), (.slice aA ae.length aD)] 25 (0, 0))) ∧ Aside0 (Below w.heap.size w wc))
 case first =>
  have H := b1.1
  clear b1
  cases aW
  rotate_left
  ·rw [if_pos rfl] at H
   have H' := am H
   clear H
   go_wp2
   go_meet
   case rel => exact ⟨_, (([] : List (S50))), H', ⟨by first | omega | exact Nat.le_refl _⟩, ⟨knl⟩, ⟨pbk aa.1⟩, ⟨pbg⟩⟩
  rw [if_neg Bool.false_ne_true] at H
  replace H := ifp H
  obtain ⟨bk, H⟩ := H
  have bz := am bk
  clear bk
  obtain ⟨bO, a3⟩ : ∃ y_ : List (S50), y_ = (([] : List (S50)) ++ [(⟨1, 0⟩ : S50)]) := ⟨_, rfl⟩
  replace H : (r43_Problems.j0 k bO aq false aG aX ak ab ae) = some (r1, r2) := hrp a3 H
  have bE := am a3
  clear a3
  have H' := am H
  clear H
  go_wp2_with (first | ((with_reducible refine gate_builtin (b := .append) (xs := #[.tmp 33, .tmp 35]) rfl ?_); at_builtin; refine Kd.R_append k50 (w0 := w) w.heap.size rfl (.tmp 33) (.tmp 35) 32 50 (.agg #[(.int .i64 0), (.int .i64 0)]) 16 rfl Try.underlying32 info50 rfl (by decide) (by omega) (.slice none 0 0) ([] : List (S50)) (⟨1, 0⟩ : S50) [.int .i64 1, .int .i64 0] (fun _ => True) (fun _ => False) rfl rfl ?aP (fun _ hk => hk.elim) ?aF ?aO ?aB ?aS ?aL ?_; (case aP => exact k50_mkM _ _ _ (⟨1, 0⟩ : S50)); (case aB => exact pbg); (case aF => exact (fun _ _ => trivial)); (case aO => exact ((Kd.R_nil _ _ _ _ (fun _ => True)))); (case aS => exact (below_size pbg)); (case aL => have := bz.1; omega); intro cJ cW ho hb hg hat; rw [← bE.1] at ho; have br := am ho; replace aa := (bgr aa hg (by simp [Value.ownBlock])); replace HB := am hb; clear ho hb hg hat))
  go_meet
  case rel => exact ⟨_, (bO), H', ⟨by first | omega | exact Nat.le_refl _⟩, ⟨pkr br.1⟩, ⟨pbk aa.1⟩, ⟨pbg⟩⟩
 clear b1
 try clear c3 aU aV bY bk bT bU bV bW
 obtain ⟨kq, aY, HA, a8, ai, aa, HB⟩ := hcut
 obtain _ | cq := kq
 ·exact absurd HA.1 (by simp [r43_Problems.j0])
 have H := HA.1
 clear HA
 simp only [r43_Problems.j0] at H
 have bh := am H
 clear H
 go_upto_if 38 with (fail)
 go_cut [5] (fun v5 wc => ∃ (kq : Nat) (ax : List (S50)), Aside0 (r43_Problems.j1 kq ax aq aW aG aX ak ab ae = some (r1, r2)) ∧ Aside0 (kq ≤ cq) ∧ Aside0 (Kd.R k50 50 wc w.heap.size (fun _ => True) v5 ax) ∧ Aside0 (wc.heap[al]? = some (.cells #[.string ak, (.slice az ab.length aC), (.slice aA ae.length aD)] 25 (0, 0))) ∧ Aside0 (Below w.heap.size w wc))
 case first =>
  have H := bh.1
  clear bh
  cases aX
  rotate_left
  ·rw [if_pos rfl] at H
   have H' := am H
   clear H
   go_wp2
   go_meet
   case rel => exact ⟨_, (aY), H', ⟨by have := a8.1; first | omega | exact Nat.le_refl _⟩, ⟨pkr ai.1⟩, ⟨pbk aa.1⟩, ⟨pbg⟩⟩
  rw [if_neg Bool.false_ne_true] at H
  replace H := ifp H
  obtain ⟨bq, H⟩ := H
  have bA := am bq
  clear bq
  obtain ⟨bP, a4⟩ : ∃ y_ : List (S50), y_ = (aY ++ [(⟨2, 0⟩ : S50)]) := ⟨_, rfl⟩
  replace H : (r43_Problems.j1 cq bP aq aW aG false ak ab ae) = some (r1, r2) := hrp a4 H
  have bF := am a4
  clear a4
  have H' := am H
  clear H
  go_wp2_with (first | ((with_reducible refine gate_builtin (b := .append) (xs := #[.tmp 39, .tmp 41]) rfl ?_); at_builtin; refine Kd.R_append k50 (w0 := w) w.heap.size rfl (.tmp 39) (.tmp 41) 32 50 (.agg #[(.int .i64 0), (.int .i64 0)]) 16 rfl Try.underlying32 info50 rfl (by decide) (by omega) u5 aY (⟨2, 0⟩ : S50) [.int .i64 2, .int .i64 0] (fun _ => True) (fun _ => False) rfl rfl ?aP (fun _ hk => hk.elim) ?aF ?aO ?aB ?aS ?aL ?_; (case aP => exact k50_mkM _ _ _ (⟨2, 0⟩ : S50)); (case aB => exact pbg); (case aF => exact (fun _ _ => trivial)); (case aO => exact (pkr ai.1)); (case aS => exact (below_size pbg)); (case aL => have := bA.1; omega); intro cK cX ho hb hg hat; rw [← bF.1] at ho; have bs := am ho; replace aa := (bgr aa hg (Kd.R_ne ai.1 aa.1 (by decide))); replace HB := am hb; clear ai; clear ho hb hg hat))
  go_meet
  case rel => exact ⟨_, (bP), H', ⟨by have := a8.1; first | omega | exact Nat.le_refl _⟩, ⟨pkr bs.1⟩, ⟨pbk aa.1⟩, ⟨pbg⟩⟩
 clear bh
 try clear c3 aU aV c5 bY bk b2 bq bT bU bV bW
 obtain ⟨kq, ax, HA, aJ, ai, aa, HB⟩ := hcut
 obtain _ | cf := kq
 ·exact absurd HA.1 (by simp [r43_Problems.j1])
 have H := HA.1
 clear HA
 simp only [r43_Problems.j1] at H
 have bi := am H
 clear H
 go_upto_region 13 with (fail)
 go_cut [48] (fun cI wc => ∃ (kq : Nat) (aH : Bool), cI = .bool aH ∧ Aside0 (r43_Problems.j2 kq ax aq aG aH ak ab ae = some (r1, r2)) ∧ Aside0 (kq ≤ cf) ∧ Aside0 (Kd.R k50 50 wc w.heap.size (fun _ => True) u5 ax) ∧ Aside0 (wc.heap[al]? = some (.cells #[.string ak, (.slice az ab.length aC), (.slice aA ae.length aD)] 25 (0, 0))) ∧ Aside0 (Below w.heap.size w wc))
 case first =>
  have H := bi.1
  clear bi
  cases aW
  rotate_left
  ·rw [if_pos rfl] at H
   have H' := am H
   clear H
   go_wp2
   go_meet
   case rel => exact ⟨_, (!aX), prs, H', ⟨by have := a8.1; have := aJ.1; first | omega | exact Nat.le_refl _⟩, ⟨pkr ai.1⟩, ⟨pbk aa.1⟩, ⟨pbg⟩⟩
  rw [if_neg Bool.false_ne_true] at H
  have H' := am H
  clear H
  go_wp2
  go_meet
  case rel => exact ⟨_, (true), prs, H', ⟨by have := a8.1; have := aJ.1; first | omega | exact Nat.le_refl _⟩, ⟨pkr ai.1⟩, ⟨pbk aa.1⟩, ⟨pbg⟩⟩
 clear bi
 try clear c3 aU aV c5 bY bk b2 bq cj bT bU bV bW
 obtain ⟨kq, aH, rfl, HA, aT, ai, aa, HB⟩ := hcut
 obtain _ | bN := kq
 ·exact absurd HA.1 (by simp [r43_Problems.j2])
 have H := HA.1
 clear HA
 simp only [r43_Problems.j2] at H
 cases aH
 rotate_left
 ·rw [if_pos rfl] at H
  simp only [Option.some.injEq, Prod.mk.injEq] at H
  obtain ⟨rfl, rfl⟩ := H
  go_wp2
  go_ret2
  exact ⟨_, per, by (with_reducible repeat (first | apply Kd.R_alloc | apply Kd.R_drewN | apply Kd.R_drew)); exact ai.1, pbg⟩
 rw [if_neg Bool.false_ne_true] at H
 have bj := am H
 clear H
 go_upto_if 52 with (fail)
 go_cut [5] (fun v5 wc => ∃ (kq : Nat) (aR : List (S50)), Aside0 (r43_Problems.j3 kq aR aq aG ak ab ae = some (r1, r2)) ∧ Aside0 (kq ≤ bN) ∧ Aside0 (Kd.R k50 50 wc w.heap.size (fun _ => True) v5 aR) ∧ Aside0 (wc.heap[al]? = some (.cells #[.string ak, (.slice az ab.length aC), (.slice aA ae.length aD)] 25 (0, 0))) ∧ Aside0 (Below w.heap.size w wc))
 case first =>
  have H := bj.1
  clear bj
  replace H := ife H
  rcases H with ⟨ay, aZ, H⟩ | ⟨ay, aZ, H⟩
  rotate_left
  ·(first | rw [ay] | (simp only [i64_w, i32_w]; rw [ay]) | skip)
   have H' := am H
   clear H
   go_wp2
   go_meet
   case rel => exact ⟨_, (ax), H', ⟨by have := a8.1; have := aJ.1; have := aT.1; first | omega | exact Nat.le_refl _⟩, ⟨pkr ai.1⟩, ⟨pbk aa.1⟩, ⟨pbg⟩⟩
  (first | rw [ay] | (simp only [i64_w, i32_w]; rw [ay]) | skip)
  replace H := ifp H
  obtain ⟨bZ, H⟩ := H
  have bB := am bZ
  clear bZ
  obtain ⟨bQ, a5⟩ : ∃ y_ : List (S50), y_ = (ax ++ [(⟨3, aq⟩ : S50)]) := ⟨_, rfl⟩
  replace H : (r43_Problems.j3 bN bQ aq aG ak ab ae) = some (r1, r2) := hrp a5 H
  have bG := am a5
  clear a5
  have H' := am H
  clear H
  go_wp2_with (first | ((with_reducible refine gate_builtin (b := .append) (xs := #[.tmp 53, .tmp 56]) rfl ?_); at_builtin; refine Kd.R_append k50 (w0 := w) w.heap.size rfl (.tmp 53) (.tmp 56) 32 50 (.agg #[(.int .i64 0), (.int .i64 0)]) 16 rfl Try.underlying32 info50 rfl (by decide) (by omega) u5 ax (⟨3, aq⟩ : S50) [.int .i64 3, .int .i64 aq] (fun _ => True) (fun _ => False) rfl rfl ?aP (fun _ hk => hk.elim) ?aF ?aO ?aB ?aS ?aL ?_; (case aP => exact k50_mkM _ _ _ (⟨3, aq⟩ : S50)); (case aB => exact pbg); (case aF => exact (fun _ _ => trivial)); (case aO => exact (pkr ai.1)); (case aS => exact (below_size pbg)); (case aL => have := bB.1; omega); intro cL cY ho hb hg hat; rw [← bG.1] at ho; have bu := am ho; replace aa := (bgr aa hg (Kd.R_ne ai.1 aa.1 (by decide))); replace HB := am hb; clear ai; clear ho hb hg hat))
  go_meet
  case rel => exact ⟨_, (bQ), H', ⟨by have := a8.1; have := aJ.1; have := aT.1; first | omega | exact Nat.le_refl _⟩, ⟨pkr bu.1⟩, ⟨pbk aa.1⟩, ⟨pbg⟩⟩
 clear bj
 try clear c3 aU aV c5 bY bk b2 bq cj cx ay aZ bZ bT bU bV bW
 obtain ⟨kq, aR, HA, a9, ai, aa, HB⟩ := hcut
 obtain _ | bm := kq
 ·exact absurd HA.1 (by simp [r43_Problems.j3])
 have H := HA.1
 clear HA
 simp only [r43_Problems.j3] at H
 replace H := bnd H
 obtain ⟨ao, cr, H⟩ := H
 (try dsimp only at H)
 have H' := am H
 clear H
 have cQ := cf3 aa.1
 go_wp2_with (first | ((with_reducible refine gate_callee (f := 43) rfl ?_); refine gC 61 Try.func43 _ (r43_off.calls bm ak _ _ ab _ _ ae aq aG ao _ (csb av HB) ar.1 (csb aw HB) au.1 cr.1) ?_; rintro e cZ ⟨ci, rfl, cp, hb⟩; refine ⟨_, rfl, ?_⟩; have bv := am (Kd.R_lower cp (below_size pbg)); replace ai := rbw ai hb; replace aa := bbh aa hb; replace HB := bst hb; (try clear hb); (try clear cp)))
 go_loopg [5, 11] bm (fun kq v5 cH w' => ∃ (aM : List (S50)) (af : Int), cH = .int .i64 af ∧ Aside0 (r43_Problems.l0 kq aM ao af ak ab ae = some (r1, r2)) ∧ Aside0 (kq ≤ bm) ∧ Aside0 (Kd.R k50 50 w' w.heap.size (fun _ => True) v5 aM) ∧ Aside0 (Kd.R (Kd.int .i64) 3 w' w.heap.size (fun _ => True) ci ao) ∧ Aside0 (w'.heap[al]? = some (.cells #[.string ak, (.slice az ab.length aC), (.slice aA ae.length aD)] 25 (0, 0))) ∧ Aside0 (Below w.heap.size w w'))
 case atStart => exact ⟨(aR), (0), prs, H', ⟨Nat.le_refl _⟩, ⟨pkr ai.1⟩, ⟨pkr bv.1⟩, ⟨pbk aa.1⟩, ⟨pbg⟩⟩
 clear H'
 try clear c3 aU aV c5 bY bk b2 bq cj cR cx ay aZ bZ bT bU bV bW cQ
 obtain ⟨aM, af, rfl, HA, bX, ai, aj, aa, HB⟩ := hrel
 obtain _ | k5 := gk
 ·exact absurd HA.1 (by simp [r43_Problems.l0])
 have H := HA.1
 clear HA
 simp only [r43_Problems.l0] at H
 replace H := ifl H
 rcases H with ⟨bL, H⟩ | ⟨bL, H⟩
 rotate_left
 ·simp only [Option.some.injEq, Prod.mk.injEq] at H
  obtain ⟨rfl, rfl⟩ := H
  obtain ⟨cw, cA, b7⟩ := Kd.R_slice aj.1
  subst b7
  go_wp2
  go_ret2
  exact ⟨_, per, by (with_reducible repeat (first | apply Kd.R_alloc | apply Kd.R_drewN | apply Kd.R_drew)); exact ai.1, pbg⟩
 replace H := ifp H
 obtain ⟨ck, H⟩ := H
 have cm := decide_eq_true ck
 clear ck
 replace H := ifl H
 rcases H with ⟨bM, H⟩ | ⟨bM, H⟩
 ·replace H := ifp H
  obtain ⟨cn, H⟩ := H
  have bC := am cn
  clear cn
  obtain ⟨bR, a6⟩ : ∃ y_ : List (S50), y_ = (aM ++ [(⟨3, rd ao af⟩ : S50)]) := ⟨_, rfl⟩
  replace H : (r43_Problems.l0 k5 bR ao (wrap64 (af + 1)) ak ab ae) = some (r1, r2) := hrp a6 H
  have bH := am a6
  clear a6
  have H' := am H
  clear H
  obtain ⟨cu, cy, b5⟩ := Kd.R_slice aj.1
  subst b5
  try go_wp2
  replace ai := am (Kd.R_drew ai.1)
  replace aj := am (Kd.R_drew aj.1)
  replace aa := am (blk_drew aa.1)
  replace HB := am (below_drew1 HB.1)
  obtain ⟨cg, ch, aE, bl, ap⟩ := dint (Kd.R_reads' aj.1).2.2 af
  cases bl
  refine start_ (n := 8) (S := fun w' => w'.cell? ⟨al, 0, none⟩ = some (.string ak) ∧ w'.cell? ⟨al, 1, none⟩ = some (.slice az ab.length aC) ∧ w'.cell? ⟨al, 2, none⟩ = some (.slice aA ae.length aD) ∧ w'.cell? (aE.add (af).toNat) = some (.int .i64 (rd ao af))) (ds := []) #[false, false, false, false, false, false, false, false] (by kernel_rfl) rfl rfl ⟨(blk_cell aa.1 0).trans rfl, (blk_cell aa.1 1).trans rfl, (blk_cell aa.1 2).trans rfl, ap⟩ (fun hHeld => ?_); refine with_tabW r43_Problems.tab21 r43_Problems.bits21 (fun HT_ HW_ => ?_)
  generalize wr.drew = da at ai aj aa HB ap hHeld ⊢
  refine pu HT_.1 0 68 ?_
  refine pu HT_.1 1 69 ?_
  refine pu HT_.1 2 70 ?_
  refine pu HT_.1 4 72 ?_
  refine tk HT_.1 HW_.1 hHeld 3 71 ?_
  refine tk HT_.1 HW_.1 hHeld 5 73 ?_
  refine pu HT_.1 6 74 ?_
  refine pu HT_.1 7 75 ?_
  refine done_ (done_of HT_.1 (by kernel_rfl)) ?_
  obtain ⟨cD, cF, bJ, b3, b0⟩ := dint (Kd.R_reads' aj.1).2.2 af
  obtain rfl : aE = bJ := (by injection b3)
  try go_wp2_with (first | ((with_reducible refine gate_builtin (b := .append) (xs := #[.tmp 76, .tmp 82]) rfl ?_); at_builtin; refine Kd.R_append k50 (w0 := w) w.heap.size rfl (.tmp 76) (.tmp 82) 32 50 (.agg #[(.int .i64 0), (.int .i64 0)]) 16 rfl Try.underlying32 info50 rfl (by decide) (by omega) u5 aM (⟨3, rd ao af⟩ : S50) [.int .i64 3, .int .i64 (rd ao af)] (fun _ => True) (fun _ => False) rfl rfl ?aP (fun _ hk => hk.elim) ?aF ?aO ?aB ?aS ?aL ?_; (case aP => exact k50_mkM _ _ _ (⟨3, rd ao af⟩ : S50)); (case aB => exact pbg); (case aF => exact (fun _ _ => trivial)); (case aO => exact (pkr ai.1)); (case aS => exact (below_size pbg)); (case aL => have := bC.1; omega); intro cM db ho hb hg hat; rw [← bH.1] at ho; have bw := am ho; replace aj := am (Kd.R_over' (pkr aj.1) (Kd.R_typed (pkr ai.1)) (by decide) hg); replace aa := (bgr aa hg (Kd.R_ne ai.1 aa.1 (by decide))); replace HB := am hb; clear ai; clear ho hb hg hat))
  go_roundg k5
  case measure => have := a8.1; have := aJ.1; have := aT.1; have := a9.1; have := bX.1; omega
  case rel => exact ⟨(bR), (wrap64 (af + 1)), prs, H', ⟨by have := a8.1; have := aJ.1; have := aT.1; have := a9.1; have := bX.1; omega⟩, ⟨pkr bw.1⟩, ⟨pkr aj.1⟩, ⟨pbk aa.1⟩, ⟨pbg⟩⟩
 replace H := ifp H
 obtain ⟨co, H⟩ := H
 have bD := am co
 clear co
 obtain ⟨bS, a7⟩ : ∃ y_ : List (S50), y_ = (aM ++ [(⟨4, wrap64 ((rd ao af) - (ab.length : Int))⟩ : S50)]) := ⟨_, rfl⟩
 replace H : (r43_Problems.l0 k5 bS ao (wrap64 (af + 1)) ak ab ae) = some (r1, r2) := hrp a7 H
 have bI := am a7
 clear a7
 have H' := am H
 clear H
 obtain ⟨cv, cz, b6⟩ := Kd.R_slice aj.1
 subst b6
 try go_wp2
 replace ai := am (Kd.R_drew ai.1)
 replace aj := am (Kd.R_drew aj.1)
 replace aa := am (blk_drew aa.1)
 replace HB := am (below_drew1 HB.1)
 obtain ⟨cg, ch, aE, bl, ap⟩ := dint (Kd.R_reads' aj.1).2.2 af
 cases bl
 refine start_ (n := 8) (S := fun w' => w'.cell? ⟨al, 0, none⟩ = some (.string ak) ∧ w'.cell? ⟨al, 1, none⟩ = some (.slice az ab.length aC) ∧ w'.cell? ⟨al, 2, none⟩ = some (.slice aA ae.length aD) ∧ w'.cell? (aE.add (af).toNat) = some (.int .i64 (rd ao af))) (ds := []) #[false, false, false, false, false, false, false, false] (by kernel_rfl) rfl rfl ⟨(blk_cell aa.1 0).trans rfl, (blk_cell aa.1 1).trans rfl, (blk_cell aa.1 2).trans rfl, ap⟩ (fun hHeld => ?_); refine with_tabW r43_Problems.tab21 r43_Problems.bits21 (fun HT_ HW_ => ?_)
 generalize wr.drew = cO at ai aj aa HB ap hHeld ⊢
 refine pu HT_.1 0 68 ?_
 refine pu HT_.1 1 69 ?_
 refine pu HT_.1 2 70 ?_
 refine pu HT_.1 4 72 ?_
 refine tk HT_.1 HW_.1 hHeld 3 71 ?_
 refine tk HT_.1 HW_.1 hHeld 5 73 ?_
 refine pu HT_.1 6 74 ?_
 refine pu HT_.1 7 75 ?_
 refine done_ (done_of HT_.1 (by kernel_rfl)) ?_
 try go_wp2
 replace ai := am (Kd.R_drew ai.1)
 replace aj := am (Kd.R_drew aj.1)
 replace aa := am (blk_drew aa.1)
 replace HB := am (below_drew1 HB.1)
 obtain ⟨cE, cG, bK, b4, aQ⟩ := dint (Kd.R_reads' aj.1).2.2 af
 obtain rfl : aE = bK := (by injection b4)
 refine start_ (n := 13) (S := fun w' => w'.cell? ⟨al, 0, none⟩ = some (.string ak) ∧ w'.cell? ⟨al, 1, none⟩ = some (.slice az ab.length aC) ∧ w'.cell? ⟨al, 2, none⟩ = some (.slice aA ae.length aD) ∧ w'.cell? (aE.add (af).toNat) = some (.int .i64 (rd ao af))) (ds := [10, 11]) #[false, false, false, false, false, false, false, false, false, false, false, false, false] (by kernel_rfl) rfl rfl ⟨(blk_cell aa.1 0).trans rfl, (blk_cell aa.1 1).trans rfl, (blk_cell aa.1 2).trans rfl, aQ⟩ (fun hHeld => ?_); refine with_tabW r43_Problems.tab23 r43_Problems.bits23 (fun HT_ HW_ => ?_)
 generalize cO.drew = dc at ai aj aa HB aQ hHeld ⊢
 refine pu HT_.1 0 84 ?_
 refine pu HT_.1 1 85 ?_
 refine pu HT_.1 2 86 ?_
 refine pu HT_.1 3 87 ?_
 refine pu HT_.1 5 89 ?_
 refine tk HT_.1 HW_.1 hHeld 4 88 ?_
 refine tk HT_.1 HW_.1 hHeld 6 90 ?_
 refine pu HT_.1 7 91 ?_
 refine pu HT_.1 8 92 ?_
 refine pu HT_.1 9 93 ?_
 refine la HT_.1 10 (some 94) rfl fun K hK => ?_
 refine value_ (w1 := ?_) (v := ?_) (by rfl) rfl ?_ ?_
 rotate_left 2
 ·go_simp
  constructor
  ·rfl
  ·rfl
 refine hK.out _ _ ?_
 clear hK K
 refine nm_ 94 ?_
 refine la HT_.1 11 (some 95) rfl fun K hK => ?_
 refine Kd.R_append_step k50 (w0 := w) w.heap.size (by rfl) (.tmp 84) (.tmp 94) 32 50 (.agg #[(.int .i64 0), (.int .i64 0)]) 16 rfl Try.underlying32 info50 rfl (by decide) (by omega) u5 aM (⟨4, wrap64 ((rd ao af) - (ab.length : Int))⟩ : S50) [.int .i64 4, .int .i64 (wrap64 ((rd ao af) - (ab.length : Int)))] (fun _ => True) (fun _ => False) rfl rfl ?aP (fun _ hk => hk.elim) ?aF ?aO ?aB ?aS ?aL ?_
 (case aP => exact k50_mkM _ _ _ (⟨4, wrap64 ((rd ao af) - (ab.length : Int))⟩ : S50))
 (case aB => exact pbg)
 (case aF => exact (fun _ _ => trivial))
 (case aO => exact (pkr ai.1))
 (case aS => exact (below_size pbg))
 (case aL => have := bD.1; omega)
 intro cN de ho hb hg hat
 rw [← bI.1] at ho
 have n0_ := am (Kd.R_over' (pkr aj.1) (Kd.R_typed (pkr ai.1)) (by decide) hg)
 have n1_ := (bgr aa hg (Kd.R_ne ai.1 aa.1 (by decide)))
 have n2_ := am hb
 have n3_ := am ho
 clear aj aa HB ai
 have aj := n0_
 have aa := n1_
 have HB := n2_
 have bx := n3_
 clear n0_ n1_ n2_ n3_ ho hb hg hat
 refine hK.out _ _ ?_
 clear hK K
 refine nm_ 95 ?_
 refine pu HT_.1 12 5 ?_
 refine done_ (done_of HT_.1 (by kernel_rfl)) ?_
 try go_wp2
 go_roundg k5
 case measure => have := a8.1; have := aJ.1; have := aT.1; have := a9.1; have := bX.1; omega
 case rel => exact ⟨(bS), (wrap64 (af + 1)), prs, H', ⟨by have := a8.1; have := aJ.1; have := aT.1; have := a9.1; have := bX.1; omega⟩, ⟨pkr bx.1⟩, ⟨pkr aj.1⟩, ⟨pbk aa.1⟩, ⟨pbg⟩⟩

end Go.Proofs.Ytnoebjmhimehcaa.P
