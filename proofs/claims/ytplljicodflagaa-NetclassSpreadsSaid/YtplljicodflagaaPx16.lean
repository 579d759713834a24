-- LAID BY OUR PROGRAM OVER THE PRINT (xprint.py, part.py): Lean checks it.
import Derived.Test.YtplljicodflagaaPx0
import Derived.Test.YtplljicodflagaaPx2
namespace Go.Proofs.Ytplljicodflagaa.P
open Go.RowKit Go.Proofs.YtplljicodflagaaW.PrintWords Go.Proofs.YtplljicodflagaaW.PrintLast Go.Proofs.YtplljicodflagaaW.PrintMore
attribute [local go_sem] max2_int min2_int max_two min_two max_three min_three max_four min_four   -- for this text's walks alone
set_option linter.unusedVariables false
set_option linter.unusedSimpArgs false

/-! ### netclass_Clusters: function 32 -/
mutual
def netclass_Clusters.l0 : Nat → Int → List Int → Int → Int → ByteArray → List (S46) → List (S41) → Option (List Int)
 | 0, _, _, _, _, _, _, _ => none
 | k + 1, x3, x4, x26, x27, x645000, x645001, x645002 => if x27 < x26 then (if 0 ≤ x27 then (if x27 < (x4.length : Int) then (netclass_Clusters.l0 k x3 (x4.set (x27 : Int).toNat x27) x26 (wrap64 (x27 + 1)) x645000 x645001 x645002) else (none)) else (none)) else (netclass_Clusters.l1 k x3 x4 x645002 (x645002.length : Int) 0)
def netclass_Clusters.l1 : Nat → Int → List Int → List (S41) → Int → Int → Option (List Int)
 | 0, _, _, _, _, _ => none
 | k + 1, x3, x4, x36, x37, x38 => if x38 < x37 then (if 0 ≤ x38 then (if x38 < (x36.length : Int) then (netclass_Clusters.l2 k x3 x4 x38 x36 x37 x38 ((rd_T41 x36 x38).f1) (((rd_T41 x36 x38).f1).length : Int) 0) else (none)) else (none)) else (some x4)
def netclass_Clusters.l2 : Nat → Int → List Int → Int → List (S41) → Int → Int → List (S43) → Int → Int → Option (List Int)
 | 0, _, _, _, _, _, _, _, _, _ => none
 | k + 1, x3, x4, x6, x36, x37, x38, x44, x45, x46 => if x46 < x45 then (if 0 ≤ x46 then (if x46 < (x44.length : Int) then (if 0 ≤ ((rd_T43 x44 x46).f0) then (if ((rd_T43 x44 x46).f0) < (x4.length : Int) then (if 0 ≤ (wrap64 (x3 + x6)) then (if (wrap64 (x3 + x6)) < (x4.length : Int) then (netclass_Clusters.l3 k x3 x4 x6 (rd x4 ((rd_T43 x44 x46).f0)) (rd x4 (wrap64 (x3 + x6))) x36 x37 x38 x44 x45 x46 (x4.length : Int) 0) else (none)) else (none)) else (none)) else (none)) else (none)) else (none)) else (netclass_Clusters.l1 k x3 x4 x36 x37 (wrap64 (x38 + 1)))
def netclass_Clusters.l3 : Nat → Int → List Int → Int → Int → Int → List (S41) → Int → Int → List (S43) → Int → Int → Int → Int → Option (List Int)
 | 0, _, _, _, _, _, _, _, _, _, _, _, _, _ => none
 | k + 1, x3, x4, x6, x10, x11, x36, x37, x38, x44, x45, x46, x62, x63 => if x63 < x62 then (if 0 ≤ x63 then (if x63 < (x4.length : Int) then (if (rd x4 x63) = (mx x10 x11) then (netclass_Clusters.l3 k x3 (x4.set (x63 : Int).toNat (mn x10 x11)) x6 x10 x11 x36 x37 x38 x44 x45 x46 x62 (wrap64 (x63 + 1))) else (netclass_Clusters.l3 k x3 x4 x6 x10 x11 x36 x37 x38 x44 x45 x46 x62 (wrap64 (x63 + 1)))) else (none)) else (none)) else (netclass_Clusters.l2 k x3 x4 x6 x36 x37 x38 x44 x45 (wrap64 (x46 + 1)))
end
def netclass_Clusters.f (k : Nat) (a0_0 : ByteArray) (l0_1 : List (S46)) (l0_2 : List (S41)) : Option (List Int) := (netclass_valid.f k a0_0 l0_1 l0_2).bind fun t645 => (if t645 = true then (if 0 ≤ (wrap64 ((l0_1.length : Int) + (l0_2.length : Int))) then (if (wrap64 ((l0_1.length : Int) + (l0_2.length : Int)) : Int).toNat ≤ 35184372088832 then ((some (List.replicate (wrap64 ((l0_1.length : Int) + (l0_2.length : Int)) : Int).toNat 0 : List Int)).bind fun y646 => (netclass_Clusters.l0 k (l0_1.length : Int) y646 (y646.length : Int) 0 a0_0 l0_1 l0_2)) else (none)) else (none)) else (some ([] : List Int)))
theorem netclass_Clusters.mono_l : ∀ k, (∀ y0 y1 y2 y3 y4 y5 y6, LeO (netclass_Clusters.l0 k y0 y1 y2 y3 y4 y5 y6) (netclass_Clusters.l0 (k + 1) y0 y1 y2 y3 y4 y5 y6)) ∧ (∀ y0 y1 y2 y3 y4, LeO (netclass_Clusters.l1 k y0 y1 y2 y3 y4) (netclass_Clusters.l1 (k + 1) y0 y1 y2 y3 y4)) ∧ (∀ y0 y1 y2 y3 y4 y5 y6 y7 y8, LeO (netclass_Clusters.l2 k y0 y1 y2 y3 y4 y5 y6 y7 y8) (netclass_Clusters.l2 (k + 1) y0 y1 y2 y3 y4 y5 y6 y7 y8)) ∧ (∀ y0 y1 y2 y3 y4 y5 y6 y7 y8 y9 y10 y11 y12, LeO (netclass_Clusters.l3 k y0 y1 y2 y3 y4 y5 y6 y7 y8 y9 y10 y11 y12) (netclass_Clusters.l3 (k + 1) y0 y1 y2 y3 y4 y5 y6 y7 y8 y9 y10 y11 y12))
 | 0 => ⟨fun _ _ _ _ _ _ _ r h => by simp [netclass_Clusters.l0] at h, fun _ _ _ _ _ r h => by simp [netclass_Clusters.l1] at h, fun _ _ _ _ _ _ _ _ _ r h => by simp [netclass_Clusters.l2] at h, fun _ _ _ _ _ _ _ _ _ _ _ _ _ r h => by simp [netclass_Clusters.l3] at h⟩
 | k + 1 => by
   obtain ⟨ih0, ih1, ih2, ih3⟩ := netclass_Clusters.mono_l k
   refine ⟨?_, ?_, ?_, ?_⟩ <;> intros <;> (first | unfold netclass_Clusters.l0 | unfold netclass_Clusters.l1 | unfold netclass_Clusters.l2 | unfold netclass_Clusters.l3) <;> repeat' first | (with_reducible first | apply ih0 | apply ih1 | apply ih2 | apply ih3 | apply netclass_valid.mono | apply LeO.refl | apply LeO.none | refine LeO.ite ?_ ?_ | refine LeO.bind ?_ (fun _ => ?_))
theorem netclass_Clusters.mono : ∀ a0 a1 a2 k, LeO (netclass_Clusters.f k a0 a1 a2) (netclass_Clusters.f (k + 1) a0 a1 a2) := by
 intro a0 a1 a2 k
 obtain ⟨ih0, ih1, ih2, ih3⟩ := netclass_Clusters.mono_l k
 unfold netclass_Clusters.f
 repeat' first | (with_reducible first | apply ih0 | apply ih1 | apply ih2 | apply ih3 | apply netclass_valid.mono | apply LeO.refl | apply LeO.none | refine LeO.ite ?_ ?_ | refine LeO.bind ?_ (fun _ => ?_))
set_option maxHeartbeats 8000000 in
set_option maxRecDepth 100000 in
theorem netclass_Clusters.calls (k : Nat) (a0_0 : ByteArray) (A0_1 : Option Addr) (c0_1 : Nat) (l0_1 : List (S46)) (A0_2 : Option Addr) (c0_2 : Nat) (l0_2 : List (S41)) (r : List Int) (w : World) (hr0_1 : Kd.C k46 w A0_1 l0_1.length l0_1) (hc0_1 : l0_1.length ≤ c0_1) (hr0_2 : Kd.C k41 w A0_2 l0_2.length l0_2) (hc0_2 : l0_2.length ≤ c0_2) (h : netclass_Clusters.f k a0_0 l0_1 l0_2 = some r) :
   Calls Try.prog 32 #[.agg #[.string a0_0, .slice A0_1 l0_1.length c0_1, .slice A0_2 l0_2.length c0_2]] w fun e w' => ∃ v0_ : Value, e = .returned (v0_) ∧ Kd.R (Kd.int .i64) 3 w' w.heap.size (fun _ => True) v0_ r ∧ Below w.heap.size w w' := by
 have hu25 := Try.underlying25
 have hu41 := Try.underlying41
 have hu43 := Try.underlying43
 have HR0_1 := am hr0_1
 have HC0_1 := am hc0_1
 clear hr0_1 hc0_1
 have HR0_2 := am hr0_2
 have HC0_2 := am hc0_2
 clear hr0_2 hc0_2
 have HB := am (Below.refl w.heap.size w)
 have H : ((netclass_valid.f k a0_0 l0_1 l0_2).bind fun t645 => (if t645 = true then (if 0 ≤ (wrap64 ((l0_1.length : Int) + (l0_2.length : Int))) then (if (wrap64 ((l0_1.length : Int) + (l0_2.length : Int)) : Int).toNat ≤ 35184372088832 then ((some (List.replicate (wrap64 ((l0_1.length : Int) + (l0_2.length : Int)) : Int).toNat 0 : List Int)).bind fun y646 => (netclass_Clusters.l0 k (l0_1.length : Int) y646 (y646.length : Int) 0 a0_0 l0_1 l0_2)) else (none)) else (none)) else (some ([] : List Int)))) = some r := h
 clear h
 replace H := bnd H
 obtain ⟨t645, A2, H⟩ := H
 (try dsimp only at H)
 by_cases c3 : t645 = true
 rotate_left
 · replace c3 := Bool.eq_false_iff.mpr c3
   subst c3
   rw [if_neg Bool.false_ne_true] at H
   obtain rfl := Option.some.inj H
   go_enter Try.func32, Try.ntmps32
   iterate 4 (try go_wp2_with (first | ((with_reducible refine gate_dst (N := 1) rfl ?_); refine box_ev (N := 1) (cs := #[.string a0_0, .slice A0_1 l0_1.length c0_1, .slice A0_2 l0_2.length c0_2]) (t := 25) ?_; intro gb644 hg w48 hbox hb; have BK644 := am hbox; have GW644 := gwl hg; have GE644 := GW644; replace HB := bsl hb; clear hb hbox hg; obtain ⟨hcz49_0, hcz49_1, hcz49_2, hfz49_0, hfz49_1, hfz49_2⟩ := cf3 BK644.1) | (go_at_call 37; (with_reducible refine (netclass_valid.calls k a0_0 _ _ l0_1 _ _ l0_2 false _ ?side1 ?side2 ?side3 ?side4 A2.1).mono ?_); (case side1 => exact csb HR0_1 HB); (case side2 => exact HC0_1.1); (case side3 => exact csb HR0_2 HB); (case side4 => exact HC0_2.1); rintro e w50 ⟨rfl, hb⟩; replace BK644 := bbh BK644 hb; replace HB := bst hb; (try clear hb); (try clear hb2); (try clear hk); (try clear hi))); try go_quiet (first | (go_at_call 37; (with_reducible refine (netclass_valid.calls k a0_0 _ _ l0_1 _ _ l0_2 false _ ?side1 ?side2 ?side3 ?side4 A2.1).mono ?_); (case side1 => exact csb HR0_1 HB); (case side2 => exact HC0_1.1); (case side3 => exact csb HR0_2 HB); (case side4 => exact HC0_2.1); rintro e w50 ⟨rfl, hb⟩; replace BK644 := bbh BK644 hb; replace HB := bst hb; (try clear hb); (try clear hb2); (try clear hk); (try clear hi))))
   go_ret
   exact ⟨_, per, knl, pbg⟩
 subst c3
 rw [if_pos rfl] at H
 obtain ⟨ji4, hji4⟩ : ∃ j_ : Int, (wrap64 ((l0_1.length : Int) + (l0_2.length : Int))) = j_ := ⟨_, rfl⟩
 replace H : (if 0 ≤ (ji4) then (if (ji4 : Int).toNat ≤ 35184372088832 then ((some (List.replicate (ji4 : Int).toNat 0 : List Int)).bind fun y646 => (netclass_Clusters.l0 k (l0_1.length : Int) y646 (y646.length : Int) 0 a0_0 l0_1 l0_2)) else (none)) else (none)) = some r := by first | (rw [hji4] at H; exact H) | (simp only [hji4] at H ⊢; exact H)
 (try rw [hji4] at A2)
 have hji4w : (IntKind.i64.wrap ((l0_1.length : Int) + (l0_2.length : Int))) = ji4 := (i64_w _).trans hji4
 replace H := ifp H
 obtain ⟨c5, H⟩ := H
 have c5b0 := eq_true c5
 have c5b1 : decide (0 ≤ (ji4)) = true := decide_eq_true c5
 clear c5
 replace H := ifp H
 obtain ⟨c6, H⟩ := H
 have c6b0 := eq_true c6
 have c6b1 : decide ((ji4 : Int).toNat ≤ 35184372088832) = true := decide_eq_true c6
 clear c6
 obtain ⟨y646, hy646⟩ : ∃ y_ : List Int, y_ = (List.replicate (ji4 : Int).toNat 0) := ⟨_, rfl⟩
 replace H : (netclass_Clusters.l0 k (l0_1.length : Int) y646 (y646.length : Int) 0 a0_0 l0_1 l0_2) = some r := by first | (rw [hy646]; with_reducible exact H) | (have H2_ := (Option.bind_some _ _).symm.trans H; rw [hy646]; with_reducible exact H2_) | (have H2_ := (Option.bind_some _ _).symm.trans H; with_reducible exact H2_) | with_reducible exact H | (rw [hy646]; exact H) | exact H
 have Ny646 := am hy646
 clear hy646
 have H' := am H
 clear H
 go_enter Try.func32, Try.ntmps32
 iterate 4 (try go_wp2_with (first | ((with_reducible refine gate_dst (N := 1) rfl ?_); refine box_ev (N := 1) (cs := #[.string a0_0, .slice A0_1 l0_1.length c0_1, .slice A0_2 l0_2.length c0_2]) (t := 25) ?_; intro gb644 hg w7 hbox hb; have BK644 := am hbox; have GW644 := gwl hg; have GE644 := GW644; replace HB := bsl hb; clear hb hbox hg; obtain ⟨hcz8_0, hcz8_1, hcz8_2, hfz8_0, hfz8_1, hfz8_2⟩ := cf3 BK644.1) | (go_at_call 37; (with_reducible refine (netclass_valid.calls k a0_0 _ _ l0_1 _ _ l0_2 true _ ?side1 ?side2 ?side3 ?side4 A2.1).mono ?_); (case side1 => exact csb HR0_1 HB); (case side2 => exact HC0_1.1); (case side3 => exact csb HR0_2 HB); (case side4 => exact HC0_2.1); rintro e w9 ⟨rfl, hb⟩; replace BK644 := bbh BK644 hb; replace HB := bst hb; (try clear hb); (try clear hb2); (try clear hk); (try clear hi); obtain ⟨hcz10_0, hcz10_1, hcz10_2, hfz10_0, hfz10_1, hfz10_2⟩ := cf3 BK644.1) | ((with_reducible refine gate_dst (N := 24) rfl ?_); refine Kd.R_make (Kd.int .i64) _ 3 rfl (N := 24) rfl 37 _ _ rfl ji4 rfl rfl Try.underlying37 (.int .i64 0) 8 info3 rfl (by decide) (by omega) 0 (ok := fun _ => True) (okp := fun _ => True) rfl (fun _ hk => hk) trivial (dq) (Nat.le_trans (Nat.mul_le_mul_right _ (dq : ji4.toNat ≤ 35184372088832)) (by omega)) (Below.refl _ _) (Nat.le_refl _) ?_; intro v647 w11 ho12 hb hg_ hnew_; clear hg_ hnew_; (first | rw [← Ny646.1] at ho12 | (simp only [Int.reduceToNat] at ho12; rw [← Ny646.1] at ho12)); have HO648 := am (Kd.R_lower ho12 (below_size pbg)); replace BK644 := bbh BK644 hb; replace HB := bst hb; clear hb ho12; obtain ⟨Ao13, co13, eo13⟩ := Kd.R_slice HO648.1; subst eo13)); try go_quiet (first | (go_at_call 37; (with_reducible refine (netclass_valid.calls k a0_0 _ _ l0_1 _ _ l0_2 true _ ?side1 ?side2 ?side3 ?side4 A2.1).mono ?_); (case side1 => exact csb HR0_1 HB); (case side2 => exact HC0_1.1); (case side3 => exact csb HR0_2 HB); (case side4 => exact HC0_2.1); rintro e w9 ⟨rfl, hb⟩; replace BK644 := bbh BK644 hb; replace HB := bst hb; (try clear hb); (try clear hb2); (try clear hk); (try clear hi); obtain ⟨hcz10_0, hcz10_1, hcz10_2, hfz10_0, hfz10_1, hfz10_2⟩ := cf3 BK644.1)))
 go_loopg [27] k (fun kq v27 w' => ∃ (x4_1 : List Int) (x27_1 : Int), v27 = .int .i64 x27_1 ∧ Aside0 (netclass_Clusters.l0 kq (l0_1.length : Int) x4_1 (y646.length : Int) x27_1 a0_0 l0_1 l0_2 = some r) ∧ Aside0 (kq ≤ k) ∧ Aside0 (Kd.R (Kd.int .i64) 3 w' w.heap.size (fun _ => True) (.slice Ao13 y646.length co13) x4_1) ∧ Aside0 (w'.heap[gb644]? = some (.cells #[.string a0_0, (.slice A0_1 l0_1.length c0_1), (.slice A0_2 l0_2.length c0_2)] 25 (0, 0))) ∧ Aside0 (Below w.heap.size w w'))
 case atStart => exact ⟨(y646), (0), prs, H', ⟨Nat.le_refl _⟩, ⟨pkr HO648.1⟩, ⟨pbk BK644.1⟩, ⟨pbg⟩⟩
 clear H'
 try clear c3 c5 c5b0 c5b1 c6 c6b0 c6b1 hcz10_0 hcz10_1 hcz10_2 hcz8_0 hcz8_1 hcz8_2 hfz10_0 hfz10_1 hfz10_2 hfz8_0 hfz8_1 hfz8_2
 obtain ⟨x4_1, x27_1, rfl, HA, HK1, HO_4, BK644, HB⟩ := hrel
 have hl4_1 := (Kd.R_reads' HO_4.1).1
 rw [hl4_1] at HO_4
 (try simp only [hl4_1])
 (try simp only [hl4_1] at BK644)
 obtain _ | k1 := gk
 · exact absurd HA.1 (by simp [netclass_Clusters.l0])
 have H := HA.1
 clear HA
 simp only [netclass_Clusters.l0] at H
 by_cases c14 : x27_1 < (y646.length : Int)
 · rw [if_pos c14] at H
   have c14b0 : decide (x27_1 < (y646.length : Int)) = true := decide_eq_true c14
   (try have c14b9_0 : decide (x27_1 < (x4_1.length : Int)) = true := (by rw [← hl4_1]; exact c14b0))
   clear c14
   replace H := ifp H
   obtain ⟨c15, H⟩ := H
   have c15b0 := decide_eq_true c15
   clear c15
   replace H := ifp H
   obtain ⟨c16, H⟩ := H
   have c16b0 := decide_eq_true c16
   clear c16
   obtain ⟨y649, hy649⟩ : ∃ y_ : List Int, y_ = (x4_1.set (x27_1 : Int).toNat x27_1) := ⟨_, rfl⟩
   replace H : (netclass_Clusters.l0 k1 (l0_1.length : Int) y649 (y646.length : Int) (wrap64 (x27_1 + 1)) a0_0 l0_1 l0_2) = some r := by first | (rw [hy649]; with_reducible exact H) | (have H2_ := (Option.bind_some _ _).symm.trans H; rw [hy649]; with_reducible exact H2_) | (have H2_ := (Option.bind_some _ _).symm.trans H; with_reducible exact H2_) | with_reducible exact H | (rw [hy649]; exact H) | exact H
   have Ny649 := am hy649
   clear hy649
   have H' := am H
   clear H
   have p17 : 0 ≤ (x27_1 : Int) := dq
   have q17 : (x27_1 : Int) < ((x4_1.length : Int) : Int) := dq
   obtain ⟨go17, co17, eo17, gb17, gl17, cl17, HG17⟩ := Kd.R_form HO_4.1 (by omega)
   (first | cases eo17 | (injection eo17 with ea_ en_ ec_; (first | subst ea_ | (injection ea_ with ea_; subst ea_)); subst ec_; clear en_))
   have GB17 := am gb17
   have GG17 := am HG17
   clear gb17 gl17 HG17
   obtain ⟨hx17_0, hf17_0⟩ := Kd.R_celln 0 HO_4.1 (x27_1 : Int) p17 q17
   replace p17 := eq_true p17
   replace q17 := eq_true q17
   have HP18 := Kd.R_putg HO_4.1 (x27_1 : Int) x27_1
   iterate 4 (try go_wp2_with (first | ((with_reducible refine gate_store (t := 3) (p := 33) rfl ?_); (try (rw [drewN_self wr]; generalize hq_ : World.drewN wr _ = wr; replace HO_4 := am (Kd.R_at hq_ HO_4.1); replace BK644 := am (blk_at hq_ BK644.1); replace HB := am (below_at hq_ HB.1); clear hq_; (try (have HP18 := Kd.R_putg HO_4.1 (x27_1 : Int) x27_1)))); refine store_event (t := 3) (p := 33) (v := ?vo_w19) (w1 := (wr.setCell ⟨go17, (x27_1 : Int).toNat, none⟩ (.int .i64 x27_1))) ?hg ?ho ?hn ?hr ?_; (case ho => rfl); (case hg => rfl); (case hn => rfl); (case hr => first | (go_simp; done) | (go_simp; rfl)); intro w19 hw; have hg : wr.grownBy w19 (some go17) := (by rw [hw]; exact HP18.2); have hp_ : Kd.R (Kd.int .i64) 3 w19 w.heap.size (fun _ => True) (.slice (some ⟨go17, 0, none⟩) x4_1.length co13) y649 := (by rw [hw, Ny649.1]; exact HP18.1); clear HP18; replace BK644 := am (blk_grown (g := gb644) (o := .cells #[.string a0_0, .slice A0_1 l0_1.length c0_1, .slice A0_2 l0_2.length c0_2] 25 (0, 0)) (by exact pbk BK644.1) hg (Kd.R_ne HO_4.1 BK644.1 (by decide))); replace HO_4 := am hp_; replace HB := am ((by rw [hw]; exact below_set (HB.1) GB17.1 : Below w.heap.size w w19)); clear hg hw hp_)); try go_quiet (fail))
   (try simp only [← hl4_1])
   go_roundg k1
   case measure => have := HK1.1; omega
   case rel => exact ⟨(y649), (wrap64 (x27_1 + 1)), prs, H', ⟨by have := HK1.1; omega⟩, ⟨by (try simp only [hl4_1]); exact pkr HO_4.1⟩, ⟨by (try simp only [hl4_1]); exact pbk BK644.1⟩, ⟨pbg⟩⟩
 rw [if_neg c14] at H
 have c14b0 : decide (x27_1 < (y646.length : Int)) = false := decide_eq_false c14
 (try have c14b9_0 : decide (x27_1 < (x4_1.length : Int)) = false := (by rw [← hl4_1]; exact c14b0))
 clear c14
 have H' := am H
 clear H
 obtain ⟨hcz20_0, hcz20_1, hcz20_2, hfz20_0, hfz20_1, hfz20_2⟩ := cf3 BK644.1
 go_wp2
 repeat (go_quiet (fail); try go_wp2)
 go_loopg [38] k1 (fun kq v38 w' => ∃ (x4_2 : List Int) (x38_2 : Int), v38 = .int .i64 x38_2 ∧ Aside0 (netclass_Clusters.l1 kq (l0_1.length : Int) x4_2 l0_2 (l0_2.length : Int) x38_2 = some r) ∧ Aside0 (kq ≤ k1) ∧ Aside0 (Kd.R (Kd.int .i64) 3 w' w.heap.size (fun _ => True) (.slice Ao13 x4_1.length co13) x4_2) ∧ Aside0 (w'.heap[gb644]? = some (.cells #[.string a0_0, (.slice A0_1 l0_1.length c0_1), (.slice A0_2 l0_2.length c0_2)] 25 (0, 0))) ∧ Aside0 (Below w.heap.size w w'))
 case atStart => exact ⟨(x4_1), (0), prs, H', ⟨Nat.le_refl _⟩, ⟨by (try simp only [hl4_1]); exact pkr HO_4.1⟩, ⟨by (try simp only [hl4_1]); exact pbk BK644.1⟩, ⟨pbg⟩⟩
 clear H'
 try clear c3 c5 c5b0 c5b1 c6 c6b0 c6b1 c14 c14b0 c15 c15b0 c16 c16b0 p17 q17 hcz10_0 hcz10_1 hcz10_2 hcz20_0 hcz20_1 hcz20_2 hcz8_0 hcz8_1 hcz8_2 hfz10_0 hfz10_1 hfz10_2 hfz20_0 hfz20_1 hfz20_2 hfz8_0 hfz8_1 hfz8_2 hx17_0 p17 q17
 obtain ⟨x4_2, x38_2, rfl, HA, HK2, HO_4, BK644, HB⟩ := hrel
 have hl4_2 := (Kd.R_reads' HO_4.1).1
 rw [hl4_2] at HO_4
 (try simp only [hl4_2])
 (try simp only [hl4_2] at BK644)
 obtain _ | k2 := gk
 · exact absurd HA.1 (by simp [netclass_Clusters.l1])
 have H := HA.1
 clear HA
 simp only [netclass_Clusters.l1] at H
 by_cases c21 : x38_2 < (l0_2.length : Int)
 rotate_left
 · rw [if_neg c21] at H
   have c21b0 : decide (x38_2 < (l0_2.length : Int)) = false := decide_eq_false c21
   (try have c21b9_0 : decide (x38_2 < (x4_1.length : Int)) = false := (by rw [← hl4_1]; exact c21b0))
   (try have c21b9_1 : decide (x38_2 < (x4_2.length : Int)) = false := (by rw [← hl4_2]; exact c21b0))
   clear c21
   obtain rfl := Option.some.inj H
   go_wp2
   repeat (go_quiet (fail); try go_wp2)
   go_ret
   exact ⟨_, by first | rfl | (simp [errW_none, errW_some] <;> rfl) | (simp only [← hji4]; first | rfl | (simp [errW_none, errW_some] <;> rfl)) | (simp [*, errW_none, errW_some] <;> rfl), by (with_reducible repeat (first | apply Kd.R_alloc | apply Kd.R_drewN | apply Kd.R_drew)); exact HO_4.1, pbg⟩
 rw [if_pos c21] at H
 have c21b0 : decide (x38_2 < (l0_2.length : Int)) = true := decide_eq_true c21
 (try have c21b9_0 : decide (x38_2 < (x4_1.length : Int)) = true := (by rw [← hl4_1]; exact c21b0))
 (try have c21b9_1 : decide (x38_2 < (x4_2.length : Int)) = true := (by rw [← hl4_2]; exact c21b0))
 clear c21
 replace H := ifp H
 obtain ⟨c22, H⟩ := H
 have c22b0 := decide_eq_true c22
 clear c22
 replace H := ifp H
 obtain ⟨c23, H⟩ := H
 have c23b0 := decide_eq_true c23
 (try have c23b9_0 : decide (x38_2 < (x4_1.length : Int)) = true := (by rw [← hl4_1]; exact c23b0))
 (try have c23b9_1 : decide (x38_2 < (x4_2.length : Int)) = true := (by rw [← hl4_2]; exact c23b0))
 clear c23
 have H' := am H
 clear H
 have p650 : 0 ≤ (x38_2 : Int) := dq
 have q650 : x38_2 < (l0_2.length : Int) := dq
 obtain ⟨ad650, A650_1, c650_1, A650_2, c650_2, A650_3, c650_3, e650, hx650_0, hx650_1, hx650_2, hx650_3, hx650_4, hl650_1, hi650_1, hl650_2, hi650_2, hl650_3, hi650_3⟩ := at_T41 HR0_2.1 x38_2 p650 q650
 cases e650
 replace hx650_0 := cbl HB.1 hx650_0
 replace hx650_1 := cbl HB.1 hx650_1
 replace hx650_2 := cbl HB.1 hx650_2
 replace hx650_3 := cbl HB.1 hx650_3
 replace hx650_4 := cbl HB.1 hx650_4
 have HR650_1 := am hi650_1
 have HC650_1 := am hl650_1
 clear hi650_1 hl650_1
 have HR650_2 := am hi650_2
 have HC650_2 := am hl650_2
 clear hi650_2 hl650_2
 have HR650_3 := am hi650_3
 have HC650_3 := am hl650_3
 clear hi650_3 hl650_3
 replace p650 := eq_true p650
 replace q650 := eq_true q650
 iterate 4 (try go_wp2_with (first | ((with_reducible refine gate_dst (N := 7) rfl ?_); refine box_ev (N := 7) (cs := #[.string (⟨#[]⟩ : ByteArray), .slice none 0 0, .slice none 0 0, .slice none 0 0, .int .i64 0]) (t := 41) ?_; intro gb651 hg w24 hbox hb; have BK651 := am hbox; have GW651 := gwb hg; have GE651 := GW651; have NB644_651 := nlt hg BK644; have NB651_644 := ngt hg BK644; replace HO_4 := rbw HO_4 hb; replace BK644 := bbh BK644 hb; replace HB := bst hb; clear hb hbox hg; have hnb25 := NB651_644.1; have hnc25 := NB644_651.1; obtain ⟨hcz26_0, hcz26_1, hcz26_2, hcz26_3, hcz26_4, hfz26_0, hfz26_1, hfz26_2, hfz26_3, hfz26_4⟩ := cf5 BK651.1)); try go_quiet (fail))
 go_loopg [46] k2 (fun kq v46 w' => ∃ (x4_3 : List Int) (x46_3 : Int), v46 = .int .i64 x46_3 ∧ Aside0 (netclass_Clusters.l2 kq (l0_1.length : Int) x4_3 x38_2 l0_2 (l0_2.length : Int) x38_2 ((rd_T41 l0_2 x38_2).f1) (((rd_T41 l0_2 x38_2).f1).length : Int) x46_3 = some r) ∧ Aside0 (kq ≤ k2) ∧ Aside0 (Kd.R (Kd.int .i64) 3 w' w.heap.size (fun _ => True) (.slice Ao13 x4_2.length co13) x4_3) ∧ Aside0 (w'.heap[gb644]? = some (.cells #[.string a0_0, (.slice A0_1 l0_1.length c0_1), (.slice (some ad650) l0_2.length c0_2)] 25 (0, 0))) ∧ Aside0 (w'.heap[gb651]? = some (.cells #[.string ((rd_T41 l0_2 x38_2).f0), (.slice A650_1 ((rd_T41 l0_2 x38_2).f1).length c650_1), (.slice A650_2 ((rd_T41 l0_2 x38_2).f2).length c650_2), (.slice A650_3 ((rd_T41 l0_2 x38_2).f3).length c650_3), .int .i64 ((rd_T41 l0_2 x38_2).f4)] 41 (0, 0))) ∧ Aside0 (Below w.heap.size w w'))
 case atStart => exact ⟨(x4_2), (0), prs, H', ⟨Nat.le_refl _⟩, ⟨by (try simp only [hl4_1]); (try simp only [hl4_2]); (with_reducible repeat (first | apply Kd.R_alloc | apply Kd.R_drewN | apply Kd.R_drew)); exact Kd.R_mono (Kd.R_far (p := ⟨gb651, 4, none⟩) (Kd.R_far (p := ⟨gb651, 3, none⟩) (Kd.R_far (p := ⟨gb651, 2, none⟩) (Kd.R_far (p := ⟨gb651, 1, none⟩) (Kd.R_far (p := ⟨gb651, 0, none⟩) (Kd.R_types HO_4.1 BK651.1 (by decide)) (fun _ hk => hk.2) (.string ((rd_T41 l0_2 x38_2).f0))) (fun _ hk => hk.2) (.slice A650_1 ((rd_T41 l0_2 x38_2).f1).length c650_1)) (fun _ hk => hk.2) (.slice A650_2 ((rd_T41 l0_2 x38_2).f2).length c650_2)) (fun _ hk => hk.2) (.slice A650_3 ((rd_T41 l0_2 x38_2).f3).length c650_3)) (fun _ hk => hk.2) (.int .i64 ((rd_T41 l0_2 x38_2).f4))) (fun _ hk => trivial)⟩, ⟨by (try simp only [hl4_1]); (try simp only [hl4_2]); (with_reducible repeat (first | refine blk_drewN ?_ _ | refine blk_drew ?_ | refine blk_alloc ?_ _)); refine bf5 ?_ NB644_651.1; exact pbk BK644.1⟩, ⟨by (try simp only [hl4_1]); (try simp only [hl4_2]); (with_reducible repeat (first | refine blk_drewN ?_ _ | refine blk_drew ?_ | refine blk_alloc ?_ _)); refine blk_put (cs := #[.string ((rd_T41 l0_2 x38_2).f0), .slice A650_1 ((rd_T41 l0_2 x38_2).f1).length c650_1, .slice A650_2 ((rd_T41 l0_2 x38_2).f2).length c650_2, .slice A650_3 ((rd_T41 l0_2 x38_2).f3).length c650_3, .int .i64 0]) ?_ 4 _ rfl; (with_reducible repeat (first | refine blk_drewN ?_ _ | refine blk_drew ?_ | refine blk_alloc ?_ _)); refine blk_put (cs := #[.string ((rd_T41 l0_2 x38_2).f0), .slice A650_1 ((rd_T41 l0_2 x38_2).f1).length c650_1, .slice A650_2 ((rd_T41 l0_2 x38_2).f2).length c650_2, .slice none 0 0, .int .i64 0]) ?_ 3 _ rfl; (with_reducible repeat (first | refine blk_drewN ?_ _ | refine blk_drew ?_ | refine blk_alloc ?_ _)); refine blk_put (cs := #[.string ((rd_T41 l0_2 x38_2).f0), .slice A650_1 ((rd_T41 l0_2 x38_2).f1).length c650_1, .slice none 0 0, .slice none 0 0, .int .i64 0]) ?_ 2 _ rfl; (with_reducible repeat (first | refine blk_drewN ?_ _ | refine blk_drew ?_ | refine blk_alloc ?_ _)); refine blk_put (cs := #[.string ((rd_T41 l0_2 x38_2).f0), .slice none 0 0, .slice none 0 0, .slice none 0 0, .int .i64 0]) ?_ 1 _ rfl; (with_reducible repeat (first | refine blk_drewN ?_ _ | refine blk_drew ?_ | refine blk_alloc ?_ _)); refine blk_put (cs := #[.string (⟨#[]⟩ : ByteArray), .slice none 0 0, .slice none 0 0, .slice none 0 0, .int .i64 0]) ?_ 0 _ rfl; exact pbk BK651.1⟩, ⟨pbg⟩⟩
 clear H'
 try clear c3 c5 c5b0 c5b1 c6 c6b0 c6b1 c14 c14b0 c15 c15b0 c16 c16b0 p17 q17 c21 c21b0 c22 c22b0 c23 c23b0 hcz10_0 hcz10_1 hcz10_2 hcz20_0 hcz20_1 hcz20_2 hcz26_0 hcz26_1 hcz26_2 hcz26_3 hcz26_4 hcz8_0 hcz8_1 hcz8_2 hfz10_0 hfz10_1 hfz10_2 hfz20_0 hfz20_1 hfz20_2 hfz26_0 hfz26_1 hfz26_2 hfz26_3 hfz26_4 hfz8_0 hfz8_1 hfz8_2 hx17_0 hx650_0 hx650_1 hx650_2 hx650_3 hx650_4 p17 p650 q17 q650
 obtain ⟨x4_3, x46_3, rfl, HA, HK3, HO_4, BK644, BK651, HB⟩ := hrel
 have hl4_3 := (Kd.R_reads' HO_4.1).1
 rw [hl4_3] at HO_4
 (try simp only [hl4_3])
 (try simp only [hl4_3] at BK644)
 (try simp only [hl4_3] at BK651)
 obtain _ | k3 := gk
 · exact absurd HA.1 (by simp [netclass_Clusters.l2])
 have H := HA.1
 clear HA
 simp only [netclass_Clusters.l2] at H
 by_cases c27 : x46_3 < (((rd_T41 l0_2 x38_2).f1).length : Int)
 rotate_left
 · rw [if_neg c27] at H
   have c27b0 : decide (x46_3 < (((rd_T41 l0_2 x38_2).f1).length : Int)) = false := decide_eq_false c27
   clear c27
   have H' := am H
   clear H
   go_wp2
   repeat (go_quiet (fail); try go_wp2)
   (try simp only [← hl4_2, ← hl4_3])
   go_roundg k3
   case measure => have := HK1.1; have := HK2.1; have := HK3.1; omega
   case rel => exact ⟨(x4_3), (wrap64 (x38_2 + 1)), prs, H', ⟨by have := HK1.1; have := HK2.1; have := HK3.1; omega⟩, ⟨by (try simp only [hl4_1]); (try simp only [hl4_2]); (try simp only [hl4_3]); exact pkr HO_4.1⟩, ⟨by (try simp only [hl4_1]); (try simp only [hl4_2]); (try simp only [hl4_3]); exact pbk BK644.1⟩, ⟨pbg⟩⟩
 rw [if_pos c27] at H
 have c27b0 : decide (x46_3 < (((rd_T41 l0_2 x38_2).f1).length : Int)) = true := decide_eq_true c27
 clear c27
 replace H := ifp H
 obtain ⟨c28, H⟩ := H
 have c28b0 := decide_eq_true c28
 clear c28
 replace H := ifp H
 obtain ⟨c29, H⟩ := H
 have c29b0 := decide_eq_true c29
 clear c29
 replace H := ifp H
 obtain ⟨c30, H⟩ := H
 have c30b0 := decide_eq_true c30
 clear c30
 replace H := ifp H
 obtain ⟨c31, H⟩ := H
 have c31b0 := decide_eq_true c31
 (try have c31b9_0 : decide (((rd_T43 ((rd_T41 l0_2 x38_2).f1) x46_3).f0) < (x4_1.length : Int)) = true := (by rw [← hl4_1]; exact c31b0))
 (try have c31b9_1 : decide (((rd_T43 ((rd_T41 l0_2 x38_2).f1) x46_3).f0) < (x4_2.length : Int)) = true := (by rw [← hl4_2]; exact c31b0))
 clear c31
 obtain ⟨ji32, hji32⟩ : ∃ j_ : Int, (wrap64 ((l0_1.length : Int) + x38_2)) = j_ := ⟨_, rfl⟩
 replace H : (if 0 ≤ (ji32) then (if (ji32) < (x4_3.length : Int) then (netclass_Clusters.l3 k3 (l0_1.length : Int) x4_3 x38_2 (rd x4_3 ((rd_T43 ((rd_T41 l0_2 x38_2).f1) x46_3).f0)) (rd x4_3 (ji32)) l0_2 (l0_2.length : Int) x38_2 ((rd_T41 l0_2 x38_2).f1) (((rd_T41 l0_2 x38_2).f1).length : Int) x46_3 (x4_3.length : Int) 0) else (none)) else (none)) = some r := by first | (rw [hji32] at H; exact H) | (simp only [hji32] at H ⊢; exact H)
 have hji32w : (IntKind.i64.wrap ((l0_1.length : Int) + x38_2)) = ji32 := (i64_w _).trans hji32
 replace H := ifp H
 obtain ⟨c33, H⟩ := H
 have c33b0 := decide_eq_true c33
 clear c33
 replace H := ifp H
 obtain ⟨c34, H⟩ := H
 have c34b0 := decide_eq_true c34
 (try have c34b9_0 : decide ((ji32) < (x4_1.length : Int)) = true := (by rw [← hl4_1]; exact c34b0))
 (try have c34b9_1 : decide ((ji32) < (x4_2.length : Int)) = true := (by rw [← hl4_2]; exact c34b0))
 clear c34
 have H' := am H
 clear H
 have p652 : 0 ≤ (x46_3 : Int) := dq
 have q652 : x46_3 < (((rd_T41 l0_2 x38_2).f1).length : Int) := dq
 obtain ⟨ad652, e652, hx652_0, hx652_1⟩ := at_T43 HR650_1.1 x46_3 p652 q652
 cases e652
 replace hx652_0 := cbl HB.1 hx652_0
 replace hx652_1 := cbl HB.1 hx652_1
 replace p652 := eq_true p652
 replace q652 := eq_true q652
 obtain ⟨gq_, cq_, eq_, _, _, _, _⟩ := Kd.R_form HO_4.1 (by have h_ : (ji32) < (x4_3.length : Int) := dq; have h2_ : 0 ≤ (ji32) := dq; omega)
 (first | cases eq_ | (injection eq_ with ea_ en_ ec_; (first | subst ea_ | (injection ea_ with ea_; subst ea_)); subst ec_; clear en_))
 iterate 4 (try go_wp2_with (first | ((with_reducible refine gate_dst (N := 9) rfl ?_); refine box_ev (N := 9) (cs := #[.int .i64 0, .int .i64 0]) (t := 43) ?_; intro gb653 hg w35 hbox hb; have BK653 := am hbox; have GW653 := gwb hg; have GE653 := GW653; have NB644_653 := nlt hg BK644; have NB653_644 := ngt hg BK644; have NB651_653 := nlt hg BK651; have NB653_651 := ngt hg BK651; replace HO_4 := rbw HO_4 hb; replace BK644 := bbh BK644 hb; replace BK651 := bbh BK651 hb; replace HB := bst hb; clear hb hbox hg; have hnb36 := NB653_644.1; have hnc36 := NB644_653.1; have hnb37 := NB653_651.1; have hnc37 := NB651_653.1; obtain ⟨hcz38_0, hcz38_1, hfz38_0, hfz38_1⟩ := cf2 BK653.1; have p654 : 0 ≤ (((rd_T43 ((rd_T41 l0_2 x38_2).f1) x46_3).f0) : Int) := dq; have q654 : ((rd_T43 ((rd_T41 l0_2 x38_2).f1) x46_3).f0) < (x4_3.length : Int) := dq; obtain ⟨ad654, e654, hx654_0⟩ := Kd.at_int (Kd.R_reads' HO_4.1).2.2 ((rd_T43 ((rd_T41 l0_2 x38_2).f1) x46_3).f0) p654 q654; cases e654; have hn654_0 : gq_ ≠ gb653 := Kd.own_blk (Kd.R_ne HO_4.1 BK653.1 (by decide)); have hn654_1 : gq_ ≠ gb653 := Kd.own_blk (Kd.R_ne HO_4.1 BK653.1 (by decide)); replace hx654_0 := (cell_far (p := ⟨gb653, 0, none⟩) (by first | (rw [add_block]; exact hn654_0) | (show (Addr.add _ _).block ≠ _; rw [add_block]; exact hn654_0) | exact hn654_0) (.int .i64 ((rd_T43 ((rd_T41 l0_2 x38_2).f1) x46_3).f0))).trans hx654_0; replace hx654_0 := (cell_far (p := ⟨gb653, 1, none⟩) (by first | (rw [add_block]; exact hn654_1) | (show (Addr.add _ _).block ≠ _; rw [add_block]; exact hn654_1) | exact hn654_1) (.int .i64 ((rd_T43 ((rd_T41 l0_2 x38_2).f1) x46_3).f1))).trans hx654_0; (try have hy654_0 := fun (n_ : Nat) => (show ((((w35.drewN n_).setCell ⟨gb653, 0, none⟩ (.int .i64 ((rd_T43 ((rd_T41 l0_2 x38_2).f1) x46_3).f0))).setCell ⟨gb653, 1, none⟩ (.int .i64 ((rd_T43 ((rd_T41 l0_2 x38_2).f1) x46_3).f1)))).cell? _ = some _ from hx654_0)); clear hn654_0; clear hn654_1; (try simp only [add_plain] at hx654_0 hy654_0); replace p654 := eq_true p654; replace q654 := eq_true q654; have p655 : 0 ≤ ((ji32) : Int) := dq; have q655 : (ji32) < (x4_3.length : Int) := dq; obtain ⟨ad655, e655, hx655_0⟩ := Kd.at_int (Kd.R_reads' HO_4.1).2.2 (ji32) p655 q655; cases e655; have hn655_0 : gq_ ≠ gb653 := Kd.own_blk (Kd.R_ne HO_4.1 BK653.1 (by decide)); have hn655_1 : gq_ ≠ gb653 := Kd.own_blk (Kd.R_ne HO_4.1 BK653.1 (by decide)); replace hx655_0 := (cell_far (p := ⟨gb653, 0, none⟩) (by first | (rw [add_block]; exact hn655_0) | (show (Addr.add _ _).block ≠ _; rw [add_block]; exact hn655_0) | exact hn655_0) (.int .i64 ((rd_T43 ((rd_T41 l0_2 x38_2).f1) x46_3).f0))).trans hx655_0; replace hx655_0 := (cell_far (p := ⟨gb653, 1, none⟩) (by first | (rw [add_block]; exact hn655_1) | (show (Addr.add _ _).block ≠ _; rw [add_block]; exact hn655_1) | exact hn655_1) (.int .i64 ((rd_T43 ((rd_T41 l0_2 x38_2).f1) x46_3).f1))).trans hx655_0; (try have hy655_0 := fun (n_ : Nat) => (show ((((w35.drewN n_).setCell ⟨gb653, 0, none⟩ (.int .i64 ((rd_T43 ((rd_T41 l0_2 x38_2).f1) x46_3).f0))).setCell ⟨gb653, 1, none⟩ (.int .i64 ((rd_T43 ((rd_T41 l0_2 x38_2).f1) x46_3).f1)))).cell? _ = some _ from hx655_0)); clear hn655_0; clear hn655_1; (try simp only [add_plain] at hx655_0 hy655_0); replace p655 := eq_true p655; replace q655 := eq_true q655)); try go_quiet (fail))
 go_loopg [63] k3 (fun kq v63 w' => ∃ (x4_4 : List Int) (x63_4 : Int), v63 = .int .i64 x63_4 ∧ Aside0 (netclass_Clusters.l3 kq (l0_1.length : Int) x4_4 x38_2 (rd x4_3 ((rd_T43 ((rd_T41 l0_2 x38_2).f1) x46_3).f0)) (rd x4_3 (ji32)) l0_2 (l0_2.length : Int) x38_2 ((rd_T41 l0_2 x38_2).f1) (((rd_T41 l0_2 x38_2).f1).length : Int) x46_3 (x4_3.length : Int) x63_4 = some r) ∧ Aside0 (kq ≤ k3) ∧ Aside0 (Kd.R (Kd.int .i64) 3 w' w.heap.size (fun _ => True) (.slice (some (⟨gq_, 0, none⟩ : Addr)) x4_3.length co13) x4_4) ∧ Aside0 (w'.heap[gb644]? = some (.cells #[.string a0_0, (.slice A0_1 l0_1.length c0_1), (.slice (some ad650) l0_2.length c0_2)] 25 (0, 0))) ∧ Aside0 (w'.heap[gb651]? = some (.cells #[.string ((rd_T41 l0_2 x38_2).f0), (.slice (some ad652) ((rd_T41 l0_2 x38_2).f1).length c650_1), (.slice A650_2 ((rd_T41 l0_2 x38_2).f2).length c650_2), (.slice A650_3 ((rd_T41 l0_2 x38_2).f3).length c650_3), .int .i64 ((rd_T41 l0_2 x38_2).f4)] 41 (0, 0))) ∧ Aside0 (w'.heap[gb653]? = some (.cells #[.int .i64 ((rd_T43 ((rd_T41 l0_2 x38_2).f1) x46_3).f0), .int .i64 ((rd_T43 ((rd_T41 l0_2 x38_2).f1) x46_3).f1)] 43 (0, 0))) ∧ Aside0 (Below w.heap.size w w'))
 case atStart => exact ⟨(x4_3), (0), prs, H', ⟨Nat.le_refl _⟩, ⟨by (try simp only [hl4_1]); (try simp only [hl4_2]); (try simp only [hl4_3]); (with_reducible repeat (first | apply Kd.R_alloc | apply Kd.R_drewN | apply Kd.R_drew)); exact Kd.R_mono (Kd.R_far (p := ⟨gb653, 1, none⟩) (Kd.R_far (p := ⟨gb653, 0, none⟩) (Kd.R_types HO_4.1 BK653.1 (by decide)) (fun _ hk => hk.2) (.int .i64 ((rd_T43 ((rd_T41 l0_2 x38_2).f1) x46_3).f0))) (fun _ hk => hk.2) (.int .i64 ((rd_T43 ((rd_T41 l0_2 x38_2).f1) x46_3).f1))) (fun _ hk => trivial)⟩, ⟨by (try simp only [hl4_1]); (try simp only [hl4_2]); (try simp only [hl4_3]); (with_reducible repeat (first | refine blk_drewN ?_ _ | refine blk_drew ?_ | refine blk_alloc ?_ _)); refine bf2 ?_ NB644_653.1; exact pbk BK644.1⟩, ⟨by (try simp only [hl4_1]); (try simp only [hl4_2]); (try simp only [hl4_3]); (with_reducible repeat (first | refine blk_drewN ?_ _ | refine blk_drew ?_ | refine blk_alloc ?_ _)); refine bf2 ?_ NB651_653.1; exact pbk BK651.1⟩, ⟨by (try simp only [hl4_1]); (try simp only [hl4_2]); (try simp only [hl4_3]); (with_reducible repeat (first | refine blk_drewN ?_ _ | refine blk_drew ?_ | refine blk_alloc ?_ _)); refine blk_put (cs := #[.int .i64 ((rd_T43 ((rd_T41 l0_2 x38_2).f1) x46_3).f0), .int .i64 0]) ?_ 1 _ rfl; (with_reducible repeat (first | refine blk_drewN ?_ _ | refine blk_drew ?_ | refine blk_alloc ?_ _)); refine blk_put (cs := #[.int .i64 0, .int .i64 0]) ?_ 0 _ rfl; exact pbk BK653.1⟩, ⟨pbg⟩⟩
 clear H'
 try clear c3 c5 c5b0 c5b1 c6 c6b0 c6b1 c14 c14b0 c15 c15b0 c16 c16b0 p17 q17 c21 c21b0 c22 c22b0 c23 c23b0 c27 c27b0 c28 c28b0 c29 c29b0 c30 c30b0 c31 c31b0 c33 c33b0 c34 c34b0 hcz10_0 hcz10_1 hcz10_2 hcz20_0 hcz20_1 hcz20_2 hcz26_0 hcz26_1 hcz26_2 hcz26_3 hcz26_4 hcz38_0 hcz38_1 hcz8_0 hcz8_1 hcz8_2 hfz10_0 hfz10_1 hfz10_2 hfz20_0 hfz20_1 hfz20_2 hfz26_0 hfz26_1 hfz26_2 hfz26_3 hfz26_4 hfz38_0 hfz38_1 hfz8_0 hfz8_1 hfz8_2 hx17_0 hx650_0 hx650_1 hx650_2 hx650_3 hx650_4 hx652_0 hx652_1 hx654_0 hx655_0 p17 p650 p652 p654 p655 q17 q650 q652 q654 q655
 obtain ⟨x4_4, x63_4, rfl, HA, HK4, HO_4, BK644, BK651, BK653, HB⟩ := hrel
 have hl4_4 := (Kd.R_reads' HO_4.1).1
 rw [hl4_4] at HO_4
 (try simp only [hl4_4])
 (try simp only [hl4_4] at BK644)
 (try simp only [hl4_4] at BK651)
 (try simp only [hl4_4] at BK653)
 obtain _ | k4 := gk
 · exact absurd HA.1 (by simp [netclass_Clusters.l3])
 have H := HA.1
 clear HA
 simp only [netclass_Clusters.l3] at H
 by_cases c39 : x63_4 < (x4_3.length : Int)
 rotate_left
 · rw [if_neg c39] at H
   have c39b0 : decide (x63_4 < (x4_3.length : Int)) = false := decide_eq_false c39
   (try have c39b9_0 : decide (x63_4 < (x4_1.length : Int)) = false := (by rw [← hl4_1]; exact c39b0))
   (try have c39b9_1 : decide (x63_4 < (x4_2.length : Int)) = false := (by rw [← hl4_2]; exact c39b0))
   (try have c39b9_3 : decide (x63_4 < (x4_4.length : Int)) = false := (by rw [← hl4_4]; exact c39b0))
   clear c39
   have H' := am H
   clear H
   go_wp2
   repeat (go_quiet (fail); try go_wp2)
   (try simp only [← hl4_3, ← hl4_4])
   go_roundg k4
   case measure => have := HK1.1; have := HK2.1; have := HK3.1; have := HK4.1; omega
   case rel => exact ⟨(x4_4), (wrap64 (x46_3 + 1)), prs, H', ⟨by have := HK1.1; have := HK2.1; have := HK3.1; have := HK4.1; omega⟩, ⟨by (try simp only [hl4_1]); (try simp only [hl4_2]); (try simp only [hl4_3]); (try simp only [hl4_4]); exact pkr HO_4.1⟩, ⟨by (try simp only [hl4_1]); (try simp only [hl4_2]); (try simp only [hl4_3]); (try simp only [hl4_4]); exact pbk BK644.1⟩, ⟨by (try simp only [hl4_1]); (try simp only [hl4_2]); (try simp only [hl4_3]); (try simp only [hl4_4]); exact pbk BK651.1⟩, ⟨pbg⟩⟩
 rw [if_pos c39] at H
 have c39b0 : decide (x63_4 < (x4_3.length : Int)) = true := decide_eq_true c39
 (try have c39b9_0 : decide (x63_4 < (x4_1.length : Int)) = true := (by rw [← hl4_1]; exact c39b0))
 (try have c39b9_1 : decide (x63_4 < (x4_2.length : Int)) = true := (by rw [← hl4_2]; exact c39b0))
 (try have c39b9_3 : decide (x63_4 < (x4_4.length : Int)) = true := (by rw [← hl4_4]; exact c39b0))
 clear c39
 replace H := ifp H
 obtain ⟨c40, H⟩ := H
 have c40b0 := decide_eq_true c40
 clear c40
 replace H := ifp H
 obtain ⟨c41, H⟩ := H
 have c41b0 := decide_eq_true c41
 (try have c41b9_0 : decide (x63_4 < (x4_1.length : Int)) = true := (by rw [← hl4_1]; exact c41b0))
 (try have c41b9_1 : decide (x63_4 < (x4_2.length : Int)) = true := (by rw [← hl4_2]; exact c41b0))
 (try have c41b9_2 : decide (x63_4 < (x4_3.length : Int)) = true := (by rw [← hl4_3]; exact c41b0))
 clear c41
 obtain ⟨ji42, hji42⟩ : ∃ j_ : Int, (mx (rd x4_3 ((rd_T43 ((rd_T41 l0_2 x38_2).f1) x46_3).f0)) (rd x4_3 (ji32))) = j_ := ⟨_, rfl⟩
 replace H : (if (rd x4_4 x63_4) = (ji42) then (netclass_Clusters.l3 k4 (l0_1.length : Int) (x4_4.set (x63_4 : Int).toNat (mn (rd x4_3 ((rd_T43 ((rd_T41 l0_2 x38_2).f1) x46_3).f0)) (rd x4_3 (ji32)))) x38_2 (rd x4_3 ((rd_T43 ((rd_T41 l0_2 x38_2).f1) x46_3).f0)) (rd x4_3 (ji32)) l0_2 (l0_2.length : Int) x38_2 ((rd_T41 l0_2 x38_2).f1) (((rd_T41 l0_2 x38_2).f1).length : Int) x46_3 (x4_3.length : Int) (wrap64 (x63_4 + 1))) else (netclass_Clusters.l3 k4 (l0_1.length : Int) x4_4 x38_2 (rd x4_3 ((rd_T43 ((rd_T41 l0_2 x38_2).f1) x46_3).f0)) (rd x4_3 (ji32)) l0_2 (l0_2.length : Int) x38_2 ((rd_T41 l0_2 x38_2).f1) (((rd_T41 l0_2 x38_2).f1).length : Int) x46_3 (x4_3.length : Int) (wrap64 (x63_4 + 1)))) = some r := by first | (rw [hji42] at H; exact H) | (simp only [hji42] at H ⊢; exact H)
 have hji42_ : (if (rd x4_3 ((rd_T43 ((rd_T41 l0_2 x38_2).f1) x46_3).f0)) < (rd x4_3 (ji32)) then (rd x4_3 (ji32)) else (rd x4_3 ((rd_T43 ((rd_T41 l0_2 x38_2).f1) x46_3).f0))) = ji42 := hji42
 by_cases c43 : (rd x4_4 x63_4) = (ji42)
 rotate_left
 · rw [if_neg c43] at H
   have c43b0 : ((rd x4_4 x63_4) == (ji42)) = false := beq_eq_false_iff_ne.mpr c43
   have c43b1 : ((rd x4_4 x63_4) != (ji42)) = true := bne_iff_ne.mpr c43
   have H' := am H
   clear H
   have p656 : 0 ≤ (x63_4 : Int) := dq
   have q656 : x63_4 < (x4_4.length : Int) := dq
   obtain ⟨ad656, e656, hx656_0⟩ := Kd.at_int (Kd.R_reads' HO_4.1).2.2 x63_4 p656 q656
   cases e656; (try simp only [add_plain] at hx656_0)
   replace p656 := eq_true p656
   replace q656 := eq_true q656
   go_wp2
   repeat (go_quiet (fail); try go_wp2)
   (try simp only [← hl4_4])
   go_roundg k4
   case measure => have := HK1.1; have := HK2.1; have := HK3.1; have := HK4.1; omega
   case rel => exact ⟨(x4_4), (wrap64 (x63_4 + 1)), prs, H', ⟨by have := HK1.1; have := HK2.1; have := HK3.1; have := HK4.1; omega⟩, ⟨by (try simp only [hl4_1]); (try simp only [hl4_2]); (try simp only [hl4_3]); (try simp only [hl4_4]); exact pkr HO_4.1⟩, ⟨by (try simp only [hl4_1]); (try simp only [hl4_2]); (try simp only [hl4_3]); (try simp only [hl4_4]); exact pbk BK644.1⟩, ⟨by (try simp only [hl4_1]); (try simp only [hl4_2]); (try simp only [hl4_3]); (try simp only [hl4_4]); exact pbk BK651.1⟩, ⟨by (try simp only [hl4_1]); (try simp only [hl4_2]); (try simp only [hl4_3]); (try simp only [hl4_4]); exact pbk BK653.1⟩, ⟨pbg⟩⟩
 rw [if_pos c43] at H
 have c43b0 : ((rd x4_4 x63_4) == (ji42)) = true := beq_iff_eq.mpr c43
 have c43b1 : ((rd x4_4 x63_4) != (ji42)) = false := bne_eq_false_iff_eq.mpr c43
 clear c43
 obtain ⟨ji44, hji44⟩ : ∃ j_ : Int, (mn (rd x4_3 ((rd_T43 ((rd_T41 l0_2 x38_2).f1) x46_3).f0)) (rd x4_3 (ji32))) = j_ := ⟨_, rfl⟩
 replace H : (netclass_Clusters.l3 k4 (l0_1.length : Int) (x4_4.set (x63_4 : Int).toNat (ji44)) x38_2 (rd x4_3 ((rd_T43 ((rd_T41 l0_2 x38_2).f1) x46_3).f0)) (rd x4_3 (ji32)) l0_2 (l0_2.length : Int) x38_2 ((rd_T41 l0_2 x38_2).f1) (((rd_T41 l0_2 x38_2).f1).length : Int) x46_3 (x4_3.length : Int) (wrap64 (x63_4 + 1))) = some r := by first | (rw [hji44] at H; exact H) | (simp only [hji44] at H ⊢; exact H)
 have hji44_ : (if (rd x4_3 (ji32)) < (rd x4_3 ((rd_T43 ((rd_T41 l0_2 x38_2).f1) x46_3).f0)) then (rd x4_3 (ji32)) else (rd x4_3 ((rd_T43 ((rd_T41 l0_2 x38_2).f1) x46_3).f0))) = ji44 := hji44
 obtain ⟨y657, hy657⟩ : ∃ y_ : List Int, y_ = (x4_4.set (x63_4 : Int).toNat (ji44)) := ⟨_, rfl⟩
 replace H : (netclass_Clusters.l3 k4 (l0_1.length : Int) y657 x38_2 (rd x4_3 ((rd_T43 ((rd_T41 l0_2 x38_2).f1) x46_3).f0)) (rd x4_3 (ji32)) l0_2 (l0_2.length : Int) x38_2 ((rd_T41 l0_2 x38_2).f1) (((rd_T41 l0_2 x38_2).f1).length : Int) x46_3 (x4_3.length : Int) (wrap64 (x63_4 + 1))) = some r := by first | (rw [hy657]; with_reducible exact H) | (have H2_ := (Option.bind_some _ _).symm.trans H; rw [hy657]; with_reducible exact H2_) | (have H2_ := (Option.bind_some _ _).symm.trans H; with_reducible exact H2_) | with_reducible exact H | (rw [hy657]; exact H) | exact H
 have Ny657 := am hy657
 clear hy657
 have H' := am H
 clear H
 have p656 : 0 ≤ (x63_4 : Int) := dq
 have q656 : x63_4 < (x4_4.length : Int) := dq
 obtain ⟨ad656, e656, hx656_0⟩ := Kd.at_int (Kd.R_reads' HO_4.1).2.2 x63_4 p656 q656
 cases e656; (try simp only [add_plain] at hx656_0)
 replace p656 := eq_true p656
 replace q656 := eq_true q656
 have p45 : 0 ≤ (x63_4 : Int) := dq
 have q45 : (x63_4 : Int) < ((x4_4.length : Int) : Int) := dq
 obtain ⟨go45, co45, eo45, gb45, gl45, cl45, HG45⟩ := Kd.R_form HO_4.1 (by omega)
 (first | cases eo45 | (injection eo45 with ea_ en_ ec_; (first | subst ea_ | (injection ea_ with ea_; subst ea_)); subst ec_; clear en_))
 have GB45 := am gb45
 have GG45 := am HG45
 clear gb45 gl45 HG45
 (first | simp only [add_plain] at hx654_0 | skip)
 (first | simp only [add_plain] at hx655_0 | skip)
 (first | simp only [add_plain] at hx656_0 | skip)
 obtain ⟨hx45_0, hf45_0⟩ := Kd.R_celln 0 HO_4.1 (x63_4 : Int) p45 q45
 replace p45 := eq_true p45
 replace q45 := eq_true q45
 have HP46 := Kd.R_putg HO_4.1 (x63_4 : Int) ji44
 iterate 4 (try go_wp2_with (first | ((with_reducible refine gate_store (t := 3) (p := 79) rfl ?_); (try (rw [drewN_self wr]; generalize hq_ : World.drewN wr _ = wr; replace HO_4 := am (Kd.R_at hq_ HO_4.1); replace BK644 := am (blk_at hq_ BK644.1); replace BK651 := am (blk_at hq_ BK651.1); replace BK653 := am (blk_at hq_ BK653.1); replace HB := am (below_at hq_ HB.1); clear hq_; (try (have HP46 := Kd.R_putg HO_4.1 (x63_4 : Int) ji44)))); refine store_event (t := 3) (p := 79) (v := ?vo_w47) (w1 := (wr.setCell ⟨gq_, (x63_4 : Int).toNat, none⟩ (.int .i64 ji44))) ?hg ?ho ?hn ?hr ?_; (case ho => rfl); (case hg => rfl); (case hn => rfl); (case hr => first | (go_simp; done) | (go_simp; rfl)); intro w47 hw; have hg : wr.grownBy w47 (some gq_) := (by rw [hw]; exact HP46.2); have hp_ : Kd.R (Kd.int .i64) 3 w47 w.heap.size (fun _ => True) (.slice (some ⟨gq_, 0, none⟩) x4_4.length co13) y657 := (by rw [hw, Ny657.1]; exact HP46.1); clear HP46; replace BK644 := am (blk_grown (g := gb644) (o := .cells #[.string a0_0, .slice A0_1 l0_1.length c0_1, .slice (some ad650) l0_2.length c0_2] 25 (0, 0)) (by exact pbk BK644.1) hg (Kd.R_ne HO_4.1 BK644.1 (by decide))); replace BK651 := am (blk_grown (g := gb651) (o := .cells #[.string ((rd_T41 l0_2 x38_2).f0), .slice (some ad652) ((rd_T41 l0_2 x38_2).f1).length c650_1, .slice A650_2 ((rd_T41 l0_2 x38_2).f2).length c650_2, .slice A650_3 ((rd_T41 l0_2 x38_2).f3).length c650_3, .int .i64 ((rd_T41 l0_2 x38_2).f4)] 41 (0, 0)) (by exact pbk BK651.1) hg (Kd.R_ne HO_4.1 BK651.1 (by decide))); replace BK653 := am (blk_grown (g := gb653) (o := .cells #[.int .i64 ((rd_T43 ((rd_T41 l0_2 x38_2).f1) x46_3).f0), .int .i64 ((rd_T43 ((rd_T41 l0_2 x38_2).f1) x46_3).f1)] 43 (0, 0)) (by exact pbk BK653.1) hg (Kd.R_ne HO_4.1 BK653.1 (by decide))); replace HO_4 := am hp_; replace HB := am ((by rw [hw]; exact below_set (HB.1) GB45.1 : Below w.heap.size w w47)); clear hg hw hp_)); try go_quiet (fail))
 (try simp only [← hl4_4])
 go_roundg k4
 case measure => have := HK1.1; have := HK2.1; have := HK3.1; have := HK4.1; omega
 case rel => exact ⟨(y657), (wrap64 (x63_4 + 1)), prs, H', ⟨by have := HK1.1; have := HK2.1; have := HK3.1; have := HK4.1; omega⟩, ⟨by (try simp only [hl4_1]); (try simp only [hl4_2]); (try simp only [hl4_3]); (try simp only [hl4_4]); exact pkr HO_4.1⟩, ⟨by (try simp only [hl4_1]); (try simp only [hl4_2]); (try simp only [hl4_3]); (try simp only [hl4_4]); exact pbk BK644.1⟩, ⟨by (try simp only [hl4_1]); (try simp only [hl4_2]); (try simp only [hl4_3]); (try simp only [hl4_4]); exact pbk BK651.1⟩, ⟨by (try simp only [hl4_1]); (try simp only [hl4_2]); (try simp only [hl4_3]); (try simp only [hl4_4]); exact pbk BK653.1⟩, ⟨pbg⟩⟩

end Go.Proofs.Ytplljicodflagaa.P
