-- LAID BY OUR PROGRAM OVER THE PRINT (xprint.py, part.py): Lean checks it.
import Derived.Test.YtplljicodflagaaPx0
import Derived.Test.YtplljicodflagaaPx1
import Derived.Test.YtplljicodflagaaPx2
import Derived.Test.YtplljicodflagaaPx3
import Derived.WalkMore
import Derived.BigRegion
import Derived.Laws.EntriesVeiled
import Derived.RegionTactic
namespace Go.Proofs.Ytplljicodflagaa.P
open Go.RowKit Go.Proofs.YtplljicodflagaaW.PrintWords Go.Proofs.YtplljicodflagaaW.PrintLast Go.Proofs.YtplljicodflagaaW.PrintMore
attribute [local go_sem] max2_int min2_int max_two min_two max_three min_three max_four min_four   -- for this text's walks alone
set_option linter.unusedVariables false
set_option linter.unusedSimpArgs false

/-! ### netclass_pairs_Asymmetric_1: function 114 -/
-- IMPORTS Derived.WalkMore
mutual
def netclass_pairs_Asymmetric_1.l0 : Nat → Int → Int → ByteArray → List (S46) → List (S41) → Option (Bool)
 | 0, _, _, _, _, _ => none
 | k + 1, x14, x15, x265000, x265001, x265002 => if x15 < x14 then ((net_Consumers.f k x265000 x265001 x265002 x15).bind fun t266 => (if (t266.length : Int) = 0 then (netclass_pairs_Asymmetric_1.l0 k x14 (wrap64 (x15 + 1)) x265000 x265001 x265002) else (netclass_pairs_Asymmetric_1.l1 k t266 x14 x15 (x265001.length : Int) 0 x265000 x265001 x265002))) else (some true)
def netclass_pairs_Asymmetric_1.l1 : Nat → List Int → Int → Int → Int → Int → ByteArray → List (S46) → List (S41) → Option (Bool)
 | 0, _, _, _, _, _, _, _, _ => none
 | k + 1, x6, x14, x15, x26, x27, x265000, x265001, x265002 => if x27 < x26 then ((net_Consumers.f k x265000 x265001 x265002 x27).bind fun t269 => ((netclass_meet.f k x6 t269).bind fun t272 => (if t272 = true then ((netclass_Asymmetric_1.f k x6 t269).bind fun t273 => (if t273 = true then (netclass_pairs_Asymmetric_1.l1 k x6 x14 x15 x26 (wrap64 (x27 + 1)) x265000 x265001 x265002) else (some false))) else (netclass_pairs_Asymmetric_1.l1 k x6 x14 x15 x26 (wrap64 (x27 + 1)) x265000 x265001 x265002)))) else (netclass_pairs_Asymmetric_1.l0 k x14 (wrap64 (x15 + 1)) x265000 x265001 x265002)
end
def netclass_pairs_Asymmetric_1.f (k : Nat) (a0_0 : ByteArray) (l0_1 : List (S46)) (l0_2 : List (S41)) : Option (Bool) := (netclass_simple.f k a0_0 l0_1 l0_2).bind fun t265 => (if t265 = true then (netclass_pairs_Asymmetric_1.l0 k (l0_1.length : Int) 0 a0_0 l0_1 l0_2) else (some false))
theorem netclass_pairs_Asymmetric_1.mono_l : ∀ k, (∀ y0 y1 y2 y3 y4, LeO (netclass_pairs_Asymmetric_1.l0 k y0 y1 y2 y3 y4) (netclass_pairs_Asymmetric_1.l0 (k + 1) y0 y1 y2 y3 y4)) ∧ (∀ y0 y1 y2 y3 y4 y5 y6 y7, LeO (netclass_pairs_Asymmetric_1.l1 k y0 y1 y2 y3 y4 y5 y6 y7) (netclass_pairs_Asymmetric_1.l1 (k + 1) y0 y1 y2 y3 y4 y5 y6 y7))
 | 0 => ⟨fun _ _ _ _ _ r h => by simp [netclass_pairs_Asymmetric_1.l0] at h, fun _ _ _ _ _ _ _ _ r h => by simp [netclass_pairs_Asymmetric_1.l1] at h⟩
 | k + 1 => by
   obtain ⟨ih0, ih1⟩ := netclass_pairs_Asymmetric_1.mono_l k
   refine ⟨?_, ?_⟩ <;> intros <;> (first | unfold netclass_pairs_Asymmetric_1.l0 | unfold netclass_pairs_Asymmetric_1.l1) <;> repeat' first | (with_reducible first | apply ih0 | apply ih1 | apply net_Consumers.mono | apply netclass_Asymmetric_1.mono | apply netclass_meet.mono | apply netclass_simple.mono | apply LeO.refl | apply LeO.none | refine LeO.ite ?_ ?_ | refine LeO.bind ?_ (fun _ => ?_))
theorem netclass_pairs_Asymmetric_1.mono : ∀ a0 a1 a2 k, LeO (netclass_pairs_Asymmetric_1.f k a0 a1 a2) (netclass_pairs_Asymmetric_1.f (k + 1) a0 a1 a2) := by
 intro a0 a1 a2 k
 obtain ⟨ih0, ih1⟩ := netclass_pairs_Asymmetric_1.mono_l k
 unfold netclass_pairs_Asymmetric_1.f
 repeat' first | (with_reducible first | apply ih0 | apply ih1 | apply net_Consumers.mono | apply netclass_Asymmetric_1.mono | apply netclass_meet.mono | apply netclass_simple.mono | apply LeO.refl | apply LeO.none | refine LeO.ite ?_ ?_ | refine LeO.bind ?_ (fun _ => ?_))
set_option maxHeartbeats 8000000 in
set_option maxRecDepth 100000 in
theorem netclass_pairs_Asymmetric_1.calls (k : Nat) (a0_0 : ByteArray) (A0_1 : Option Addr) (c0_1 : Nat) (l0_1 : List (S46)) (A0_2 : Option Addr) (c0_2 : Nat) (l0_2 : List (S41)) (r : Bool) (w : World) (hr0_1 : Kd.C k46 w A0_1 l0_1.length l0_1) (hc0_1 : l0_1.length ≤ c0_1) (hr0_2 : Kd.C k41 w A0_2 l0_2.length l0_2) (hc0_2 : l0_2.length ≤ c0_2) (h : netclass_pairs_Asymmetric_1.f k a0_0 l0_1 l0_2 = some r) :
   Calls Try.prog 50 #[.agg #[.string a0_0, .slice A0_1 l0_1.length c0_1, .slice A0_2 l0_2.length c0_2], .func (.func 55) #[] #[]] w fun e w' => e = .returned (.bool r) ∧ Below w.heap.size w w' := by
 have hu25 := Try.underlying25
 have HR0_1 := am hr0_1
 have HC0_1 := am hc0_1
 clear hr0_1 hc0_1
 have HR0_2 := am hr0_2
 have HC0_2 := am hc0_2
 clear hr0_2 hc0_2
 have HB := am (Below.refl w.heap.size w)
 have H : ((netclass_simple.f k a0_0 l0_1 l0_2).bind fun t265 => (if t265 = true then (netclass_pairs_Asymmetric_1.l0 k (l0_1.length : Int) 0 a0_0 l0_1 l0_2) else (some false))) = some r := h
 clear h
 replace H := bnd H
 obtain ⟨t265, A2, H⟩ := H
 (try dsimp only at H)
 by_cases c3 : t265 = true
 rotate_left
 · replace c3 := Bool.eq_false_iff.mpr c3
   subst c3
   rw [if_neg Bool.false_ne_true] at H
   obtain rfl := Option.some.inj H
   go_enter Try.func50, Try.ntmps50
   go_wp2_with (first | ((with_reducible refine gate_dst (N := 2) rfl ?_); refine box_ev (N := 2) (cs := #[.string a0_0, .slice A0_1 l0_1.length c0_1, .slice A0_2 l0_2.length c0_2]) (t := 25) ?_; intro gb264 hg w33 hbox hb; have BK264 := am hbox; have GW264 := gwl hg; have GE264 := GW264; replace HB := bsl hb; clear hb hbox hg; obtain ⟨hcz34_0, hcz34_1, hcz34_2, hfz34_0, hfz34_1, hfz34_2⟩ := cf3 BK264.1) | ((with_reducible refine gate_callee (f := 44) rfl ?_); refine goesL_ (some 10) rfl rfl Try.func44 (by kernel_rfl) rfl #[.agg #[.string a0_0, .slice A0_1 l0_1.length c0_1, .slice A0_2 l0_2.length c0_2]] rfl pgz ?_; (with_reducible refine (netclass_simple.calls k a0_0 _ _ l0_1 _ _ l0_2 false _ ?side1 ?side2 ?side3 ?side4 A2.1).mono ?_); (case side1 => exact csb HR0_1 HB); (case side2 => exact HC0_1.1); (case side3 => exact csb HR0_2 HB); (case side4 => exact HC0_2.1); rintro e w35 ⟨rfl, hb⟩; refine ⟨_, rfl, ?_⟩; replace BK264 := bbh BK264 hb; replace HB := bst hb; (try clear hb); (try clear hb2); (try clear hk); (try clear hi)))
   iterate 2 (try (go_step3; go_wp2_with (first | ((with_reducible refine gate_dst (N := 2) rfl ?_); refine box_ev (N := 2) (cs := #[.string a0_0, .slice A0_1 l0_1.length c0_1, .slice A0_2 l0_2.length c0_2]) (t := 25) ?_; intro gb264 hg w33 hbox hb; have BK264 := am hbox; have GW264 := gwl hg; have GE264 := GW264; replace HB := bsl hb; clear hb hbox hg; obtain ⟨hcz34_0, hcz34_1, hcz34_2, hfz34_0, hfz34_1, hfz34_2⟩ := cf3 BK264.1) | ((with_reducible refine gate_callee (f := 44) rfl ?_); refine goesL_ (some 10) rfl rfl Try.func44 (by kernel_rfl) rfl #[.agg #[.string a0_0, .slice A0_1 l0_1.length c0_1, .slice A0_2 l0_2.length c0_2]] rfl pgz ?_; (with_reducible refine (netclass_simple.calls k a0_0 _ _ l0_1 _ _ l0_2 false _ ?side1 ?side2 ?side3 ?side4 A2.1).mono ?_); (case side1 => exact csb HR0_1 HB); (case side2 => exact HC0_1.1); (case side3 => exact csb HR0_2 HB); (case side4 => exact HC0_2.1); rintro e w35 ⟨rfl, hb⟩; refine ⟨_, rfl, ?_⟩; replace BK264 := bbh BK264 hb; replace HB := bst hb; (try clear hb); (try clear hb2); (try clear hk); (try clear hi)))))
   (try rw [Exit.noGoto_ret])
   go_ret
   exact ⟨per, pbg⟩
 subst c3
 rw [if_pos rfl] at H
 have H' := am H
 clear H
 go_enter Try.func50, Try.ntmps50
 go_wp2_with (first | ((with_reducible refine gate_dst (N := 2) rfl ?_); refine box_ev (N := 2) (cs := #[.string a0_0, .slice A0_1 l0_1.length c0_1, .slice A0_2 l0_2.length c0_2]) (t := 25) ?_; intro gb264 hg w4 hbox hb; have BK264 := am hbox; have GW264 := gwl hg; have GE264 := GW264; replace HB := bsl hb; clear hb hbox hg; obtain ⟨hcz5_0, hcz5_1, hcz5_2, hfz5_0, hfz5_1, hfz5_2⟩ := cf3 BK264.1) | ((with_reducible refine gate_callee (f := 44) rfl ?_); refine goesL_ (some 10) rfl rfl Try.func44 (by kernel_rfl) rfl #[.agg #[.string a0_0, .slice A0_1 l0_1.length c0_1, .slice A0_2 l0_2.length c0_2]] rfl pgz ?_; (with_reducible refine (netclass_simple.calls k a0_0 _ _ l0_1 _ _ l0_2 true _ ?side1 ?side2 ?side3 ?side4 A2.1).mono ?_); (case side1 => exact csb HR0_1 HB); (case side2 => exact HC0_1.1); (case side3 => exact csb HR0_2 HB); (case side4 => exact HC0_2.1); rintro e w6 ⟨rfl, hb⟩; refine ⟨_, rfl, ?_⟩; replace BK264 := bbh BK264 hb; replace HB := bst hb; (try clear hb); (try clear hb2); (try clear hk); (try clear hi); obtain ⟨hcz7_0, hcz7_1, hcz7_2, hfz7_0, hfz7_1, hfz7_2⟩ := cf3 BK264.1))
 iterate 2 (try (go_step3; go_wp2_with (first | ((with_reducible refine gate_dst (N := 2) rfl ?_); refine box_ev (N := 2) (cs := #[.string a0_0, .slice A0_1 l0_1.length c0_1, .slice A0_2 l0_2.length c0_2]) (t := 25) ?_; intro gb264 hg w4 hbox hb; have BK264 := am hbox; have GW264 := gwl hg; have GE264 := GW264; replace HB := bsl hb; clear hb hbox hg; obtain ⟨hcz5_0, hcz5_1, hcz5_2, hfz5_0, hfz5_1, hfz5_2⟩ := cf3 BK264.1) | ((with_reducible refine gate_callee (f := 44) rfl ?_); refine goesL_ (some 10) rfl rfl Try.func44 (by kernel_rfl) rfl #[.agg #[.string a0_0, .slice A0_1 l0_1.length c0_1, .slice A0_2 l0_2.length c0_2]] rfl pgz ?_; (with_reducible refine (netclass_simple.calls k a0_0 _ _ l0_1 _ _ l0_2 true _ ?side1 ?side2 ?side3 ?side4 A2.1).mono ?_); (case side1 => exact csb HR0_1 HB); (case side2 => exact HC0_1.1); (case side3 => exact csb HR0_2 HB); (case side4 => exact HC0_2.1); rintro e w6 ⟨rfl, hb⟩; refine ⟨_, rfl, ?_⟩; replace BK264 := bbh BK264 hb; replace HB := bst hb; (try clear hb); (try clear hb2); (try clear hk); (try clear hi); obtain ⟨hcz7_0, hcz7_1, hcz7_2, hfz7_0, hfz7_1, hfz7_2⟩ := cf3 BK264.1))))
 go_loopg [15] k (fun kq v15 w' => ∃ (x15_1 : Int), v15 = .int .i64 x15_1 ∧ Aside0 (netclass_pairs_Asymmetric_1.l0 kq (l0_1.length : Int) x15_1 a0_0 l0_1 l0_2 = some r) ∧ Aside0 (kq ≤ k) ∧ Aside0 (w'.heap[gb264]? = some (.cells #[.string a0_0, (.slice A0_1 l0_1.length c0_1), (.slice A0_2 l0_2.length c0_2)] 25 (0, 0))) ∧ Aside0 (Below w.heap.size w w'))
 case atStart => exact ⟨(0), prs, H', ⟨Nat.le_refl _⟩, ⟨pbk BK264.1⟩, ⟨pbg⟩⟩
 clear H'
 try clear c3 hcz5_0 hcz5_1 hcz5_2 hcz7_0 hcz7_1 hcz7_2 hfz5_0 hfz5_1 hfz5_2 hfz7_0 hfz7_1 hfz7_2
 obtain ⟨x15_1, rfl, HA, HK1, BK264, HB⟩ := hrel
 obtain _ | k1 := gk
 · exact absurd HA.1 (by simp [netclass_pairs_Asymmetric_1.l0])
 have H := HA.1
 clear HA
 simp only [netclass_pairs_Asymmetric_1.l0] at H
 by_cases c8 : x15_1 < (l0_1.length : Int)
 rotate_left
 · rw [if_neg c8] at H
   have c8b0 : decide (x15_1 < (l0_1.length : Int)) = false := decide_eq_false c8
   clear c8
   obtain rfl := Option.some.inj H
   go_wp2
   iterate 2 (try (go_step3; go_wp2))
   (try rw [Exit.noGoto_ret])
   go_ret
   exact ⟨per, pbg⟩
 rw [if_pos c8] at H
 have c8b0 : decide (x15_1 < (l0_1.length : Int)) = true := decide_eq_true c8
 clear c8
 replace H := bnd H
 obtain ⟨t266, A9, H⟩ := H
 (try dsimp only at H)
 by_cases c10 : (t266.length : Int) = 0
 · rw [if_pos c10] at H
   have c10b0 : ((t266.length : Int) == 0) = true := beq_iff_eq.mpr c10
   have c10b1 : ((t266.length : Int) != 0) = false := bne_eq_false_iff_eq.mpr c10
   clear c10
   have H' := am H
   clear H
   obtain ⟨hcz11_0, hcz11_1, hcz11_2, hfz11_0, hfz11_1, hfz11_2⟩ := cf3 BK264.1
   go_wp2_with (first | ((with_reducible refine gate_callee (f := 47) rfl ?_); refine goesL_ (some 20) rfl rfl Try.func47 (by kernel_rfl) rfl #[.agg #[.string a0_0, .slice A0_1 l0_1.length c0_1, .slice A0_2 l0_2.length c0_2], .int .i64 x15_1] rfl pgz ?_; (with_reducible refine (net_Consumers.calls k1 a0_0 _ _ l0_1 _ _ l0_2 x15_1 t266 _ ?side1 ?side2 ?side3 ?side4 A9.1).mono ?_); (case side1 => exact csb HR0_1 HB); (case side2 => exact HC0_1.1); (case side3 => exact csb HR0_2 HB); (case side4 => exact HC0_2.1); rintro e w12 ⟨v267, rfl, ho0, hb⟩; refine ⟨_, rfl, ?_⟩; have HO268 := am (Kd.R_lower ho0 (below_size pbg)); replace BK264 := bbh BK264 hb; replace HB := bst hb; (try clear hb); (try clear hb2); (try clear hk); (try clear hi); (try clear ho0); obtain ⟨Ao13, co13, eo13⟩ := Kd.R_slice HO268.1; subst eo13))
   iterate 2 (try (go_step3; go_wp2_with (first | ((with_reducible refine gate_callee (f := 47) rfl ?_); refine goesL_ (some 20) rfl rfl Try.func47 (by kernel_rfl) rfl #[.agg #[.string a0_0, .slice A0_1 l0_1.length c0_1, .slice A0_2 l0_2.length c0_2], .int .i64 x15_1] rfl pgz ?_; (with_reducible refine (net_Consumers.calls k1 a0_0 _ _ l0_1 _ _ l0_2 x15_1 t266 _ ?side1 ?side2 ?side3 ?side4 A9.1).mono ?_); (case side1 => exact csb HR0_1 HB); (case side2 => exact HC0_1.1); (case side3 => exact csb HR0_2 HB); (case side4 => exact HC0_2.1); rintro e w12 ⟨v267, rfl, ho0, hb⟩; refine ⟨_, rfl, ?_⟩; have HO268 := am (Kd.R_lower ho0 (below_size pbg)); replace BK264 := bbh BK264 hb; replace HB := bst hb; (try clear hb); (try clear hb2); (try clear hk); (try clear hi); (try clear ho0); obtain ⟨Ao13, co13, eo13⟩ := Kd.R_slice HO268.1; subst eo13))))
   go_roundg k1
   case measure => have := HK1.1; omega
   case rel => exact ⟨(wrap64 (x15_1 + 1)), prs, H', ⟨by have := HK1.1; omega⟩, ⟨pbk BK264.1⟩, ⟨pbg⟩⟩
 rw [if_neg c10] at H
 have c10b0 : ((t266.length : Int) == 0) = false := beq_eq_false_iff_ne.mpr c10
 have c10b1 : ((t266.length : Int) != 0) = true := bne_iff_ne.mpr c10
 have c10b2 : ¬ (t266 = []) := fun h_ => c10 (by rw [h_]; rfl)
 have H' := am H
 clear H
 obtain ⟨hcz14_0, hcz14_1, hcz14_2, hfz14_0, hfz14_1, hfz14_2⟩ := cf3 BK264.1
 go_wp2_with (first | ((with_reducible refine gate_callee (f := 47) rfl ?_); refine goesL_ (some 20) rfl rfl Try.func47 (by kernel_rfl) rfl #[.agg #[.string a0_0, .slice A0_1 l0_1.length c0_1, .slice A0_2 l0_2.length c0_2], .int .i64 x15_1] rfl pgz ?_; (with_reducible refine (net_Consumers.calls k1 a0_0 _ _ l0_1 _ _ l0_2 x15_1 t266 _ ?side1 ?side2 ?side3 ?side4 A9.1).mono ?_); (case side1 => exact csb HR0_1 HB); (case side2 => exact HC0_1.1); (case side3 => exact csb HR0_2 HB); (case side4 => exact HC0_2.1); rintro e w15 ⟨v267, rfl, ho0, hb⟩; refine ⟨_, rfl, ?_⟩; have HO268 := am (Kd.R_lower ho0 (below_size pbg)); replace BK264 := bbh BK264 hb; replace HB := bst hb; (try clear hb); (try clear hb2); (try clear hk); (try clear hi); (try clear ho0); obtain ⟨Ao16, co16, eo16⟩ := Kd.R_slice HO268.1; subst eo16; obtain ⟨hcz17_0, hcz17_1, hcz17_2, hfz17_0, hfz17_1, hfz17_2⟩ := cf3 BK264.1))
 iterate 2 (try (go_step3; go_wp2_with (first | ((with_reducible refine gate_callee (f := 47) rfl ?_); refine goesL_ (some 20) rfl rfl Try.func47 (by kernel_rfl) rfl #[.agg #[.string a0_0, .slice A0_1 l0_1.length c0_1, .slice A0_2 l0_2.length c0_2], .int .i64 x15_1] rfl pgz ?_; (with_reducible refine (net_Consumers.calls k1 a0_0 _ _ l0_1 _ _ l0_2 x15_1 t266 _ ?side1 ?side2 ?side3 ?side4 A9.1).mono ?_); (case side1 => exact csb HR0_1 HB); (case side2 => exact HC0_1.1); (case side3 => exact csb HR0_2 HB); (case side4 => exact HC0_2.1); rintro e w15 ⟨v267, rfl, ho0, hb⟩; refine ⟨_, rfl, ?_⟩; have HO268 := am (Kd.R_lower ho0 (below_size pbg)); replace BK264 := bbh BK264 hb; replace HB := bst hb; (try clear hb); (try clear hb2); (try clear hk); (try clear hi); (try clear ho0); obtain ⟨Ao16, co16, eo16⟩ := Kd.R_slice HO268.1; subst eo16; obtain ⟨hcz17_0, hcz17_1, hcz17_2, hfz17_0, hfz17_1, hfz17_2⟩ := cf3 BK264.1))))
 go_loopg [27] k1 (fun kq v27 w' => ∃ (x27_2 : Int), v27 = .int .i64 x27_2 ∧ Aside0 (netclass_pairs_Asymmetric_1.l1 kq t266 (l0_1.length : Int) x15_1 (l0_1.length : Int) x27_2 a0_0 l0_1 l0_2 = some r) ∧ Aside0 (kq ≤ k1) ∧ Aside0 (Kd.R (Kd.int .i64) 3 w' w.heap.size (fun _ => True) (.slice Ao16 t266.length co16) t266) ∧ Aside0 (w'.heap[gb264]? = some (.cells #[.string a0_0, (.slice A0_1 l0_1.length c0_1), (.slice A0_2 l0_2.length c0_2)] 25 (0, 0))) ∧ Aside0 (Below w.heap.size w w'))
 case atStart => exact ⟨(0), prs, H', ⟨Nat.le_refl _⟩, ⟨pkr HO268.1⟩, ⟨pbk BK264.1⟩, ⟨pbg⟩⟩
 clear H'
 try clear c3 c8 c8b0 c10 c10b0 c10b1 c10b2 hcz11_0 hcz11_1 hcz11_2 hcz14_0 hcz14_1 hcz14_2 hcz17_0 hcz17_1 hcz17_2 hcz5_0 hcz5_1 hcz5_2 hcz7_0 hcz7_1 hcz7_2 hfz11_0 hfz11_1 hfz11_2 hfz14_0 hfz14_1 hfz14_2 hfz17_0 hfz17_1 hfz17_2 hfz5_0 hfz5_1 hfz5_2 hfz7_0 hfz7_1 hfz7_2
 obtain ⟨x27_2, rfl, HA, HK2, HO_6, BK264, HB⟩ := hrel
 obtain _ | k2 := gk
 · exact absurd HA.1 (by simp [netclass_pairs_Asymmetric_1.l1])
 have H := HA.1
 clear HA
 simp only [netclass_pairs_Asymmetric_1.l1] at H
 by_cases c18 : x27_2 < (l0_1.length : Int)
 rotate_left
 · rw [if_neg c18] at H
   have c18b0 : decide (x27_2 < (l0_1.length : Int)) = false := decide_eq_false c18
   clear c18
   have H' := am H
   clear H
   go_wp2
   iterate 2 (try (go_step3; go_wp2))
   go_roundg k2
   case measure => have := HK1.1; have := HK2.1; omega
   case rel => exact ⟨(wrap64 (x15_1 + 1)), prs, H', ⟨by have := HK1.1; have := HK2.1; omega⟩, ⟨pbk BK264.1⟩, ⟨pbg⟩⟩
 rw [if_pos c18] at H
 have c18b0 : decide (x27_2 < (l0_1.length : Int)) = true := decide_eq_true c18
 clear c18
 replace H := bnd H
 obtain ⟨t269, A19, H⟩ := H
 (try dsimp only at H)
 replace H := bnd H
 obtain ⟨t272, A20, H⟩ := H
 (try dsimp only at H)
 by_cases c21 : t272 = true
 rotate_left
 · replace c21 := Bool.eq_false_iff.mpr c21
   subst c21
   rw [if_neg Bool.false_ne_true] at H
   have H' := am H
   clear H
   obtain ⟨hcz30_0, hcz30_1, hcz30_2, hfz30_0, hfz30_1, hfz30_2⟩ := cf3 BK264.1
   go_wp2_with (first | ((with_reducible refine gate_callee (f := 47) rfl ?_); refine goesL_ (some 32) rfl rfl Try.func47 (by kernel_rfl) rfl #[.agg #[.string a0_0, .slice A0_1 l0_1.length c0_1, .slice A0_2 l0_2.length c0_2], .int .i64 x27_2] rfl pgz ?_; (with_reducible refine (net_Consumers.calls k2 a0_0 _ _ l0_1 _ _ l0_2 x27_2 t269 _ ?side1 ?side2 ?side3 ?side4 A19.1).mono ?_); (case side1 => exact csb HR0_1 HB); (case side2 => exact HC0_1.1); (case side3 => exact csb HR0_2 HB); (case side4 => exact HC0_2.1); rintro e w31 ⟨v270, rfl, ho0, hb⟩; refine ⟨_, rfl, ?_⟩; have HO271 := am (Kd.R_lower (Kd.R_new' ho0 (Kd.R_lt (pkr HO_6.1))) (below_size pbg)); replace HO_6 := am (Kd.R_elder' (pkr HO_6.1) (Kd.R_base ho0) hb); replace BK264 := bbh BK264 hb; replace HB := bst hb; (try clear hb); (try clear hb2); (try clear hk); (try clear hi); (try clear ho0); obtain ⟨Ao32, co32, eo32⟩ := Kd.R_slice HO271.1; subst eo32) | ((with_reducible refine gate_callee (f := 56) rfl ?_); refine goesL_ (some 35) rfl rfl Try.func56 (by kernel_rfl) rfl #[.slice Ao16 t266.length co16, .slice Ao32 t269.length co32] rfl pgz ?_; (with_reducible refine (netclass_meet.calls k2 _ _ t266 _ _ t269 false _ ?side1 ?side2 ?side3 ?side4 A20.1).mono ?_); (case side1 => exact csd ((Kd.R_reads' HO_6.1).2.2)); (case side2 => exact (Kd.R_reads' HO_6.1).2.1); (case side3 => exact csd ((Kd.R_reads' HO271.1).2.2)); (case side4 => exact (Kd.R_reads' HO271.1).2.1); rintro e w' ⟨rfl, ⟨nd, rfl⟩⟩; refine ⟨_, rfl, ?_⟩))
   iterate 2 (try (go_step3; go_wp2_with (first | ((with_reducible refine gate_callee (f := 47) rfl ?_); refine goesL_ (some 32) rfl rfl Try.func47 (by kernel_rfl) rfl #[.agg #[.string a0_0, .slice A0_1 l0_1.length c0_1, .slice A0_2 l0_2.length c0_2], .int .i64 x27_2] rfl pgz ?_; (with_reducible refine (net_Consumers.calls k2 a0_0 _ _ l0_1 _ _ l0_2 x27_2 t269 _ ?side1 ?side2 ?side3 ?side4 A19.1).mono ?_); (case side1 => exact csb HR0_1 HB); (case side2 => exact HC0_1.1); (case side3 => exact csb HR0_2 HB); (case side4 => exact HC0_2.1); rintro e w31 ⟨v270, rfl, ho0, hb⟩; refine ⟨_, rfl, ?_⟩; have HO271 := am (Kd.R_lower (Kd.R_new' ho0 (Kd.R_lt (pkr HO_6.1))) (below_size pbg)); replace HO_6 := am (Kd.R_elder' (pkr HO_6.1) (Kd.R_base ho0) hb); replace BK264 := bbh BK264 hb; replace HB := bst hb; (try clear hb); (try clear hb2); (try clear hk); (try clear hi); (try clear ho0); obtain ⟨Ao32, co32, eo32⟩ := Kd.R_slice HO271.1; subst eo32) | ((with_reducible refine gate_callee (f := 56) rfl ?_); refine goesL_ (some 35) rfl rfl Try.func56 (by kernel_rfl) rfl #[.slice Ao16 t266.length co16, .slice Ao32 t269.length co32] rfl pgz ?_; (with_reducible refine (netclass_meet.calls k2 _ _ t266 _ _ t269 false _ ?side1 ?side2 ?side3 ?side4 A20.1).mono ?_); (case side1 => exact csd ((Kd.R_reads' HO_6.1).2.2)); (case side2 => exact (Kd.R_reads' HO_6.1).2.1); (case side3 => exact csd ((Kd.R_reads' HO271.1).2.2)); (case side4 => exact (Kd.R_reads' HO271.1).2.1); rintro e w' ⟨rfl, ⟨nd, rfl⟩⟩; refine ⟨_, rfl, ?_⟩))))
   go_roundg k2
   case measure => have := HK1.1; have := HK2.1; omega
   case rel => exact ⟨(wrap64 (x27_2 + 1)), prs, H', ⟨by have := HK1.1; have := HK2.1; omega⟩, ⟨by (with_reducible repeat (first | apply Kd.R_alloc | apply Kd.R_drewN | apply Kd.R_drew)); exact Kd.R_mono HO_6.1 (fun _ hk => trivial)⟩, ⟨pbk BK264.1⟩, ⟨pbg⟩⟩
 subst c21
 rw [if_pos rfl] at H
 replace H := bnd H
 obtain ⟨t273, A22, H⟩ := H
 (try dsimp only at H)
 by_cases c23 : t273 = true
 rotate_left
 · replace c23 := Bool.eq_false_iff.mpr c23
   subst c23
   rw [if_neg Bool.false_ne_true] at H
   obtain rfl := Option.some.inj H
   obtain ⟨hcz27_0, hcz27_1, hcz27_2, hfz27_0, hfz27_1, hfz27_2⟩ := cf3 BK264.1
   go_wp2_with (first | ((with_reducible refine gate_callee (f := 47) rfl ?_); refine goesL_ (some 32) rfl rfl Try.func47 (by kernel_rfl) rfl #[.agg #[.string a0_0, .slice A0_1 l0_1.length c0_1, .slice A0_2 l0_2.length c0_2], .int .i64 x27_2] rfl pgz ?_; (with_reducible refine (net_Consumers.calls k2 a0_0 _ _ l0_1 _ _ l0_2 x27_2 t269 _ ?side1 ?side2 ?side3 ?side4 A19.1).mono ?_); (case side1 => exact csb HR0_1 HB); (case side2 => exact HC0_1.1); (case side3 => exact csb HR0_2 HB); (case side4 => exact HC0_2.1); rintro e w28 ⟨v270, rfl, ho0, hb⟩; refine ⟨_, rfl, ?_⟩; have HO271 := am (Kd.R_lower (Kd.R_new' ho0 (Kd.R_lt (pkr HO_6.1))) (below_size pbg)); replace HO_6 := am (Kd.R_elder' (pkr HO_6.1) (Kd.R_base ho0) hb); replace BK264 := bbh BK264 hb; replace HB := bst hb; (try clear hb); (try clear hb2); (try clear hk); (try clear hi); (try clear ho0); obtain ⟨Ao29, co29, eo29⟩ := Kd.R_slice HO271.1; subst eo29) | ((with_reducible refine gate_callee (f := 56) rfl ?_); refine goesL_ (some 35) rfl rfl Try.func56 (by kernel_rfl) rfl #[.slice Ao16 t266.length co16, .slice Ao29 t269.length co29] rfl pgz ?_; (with_reducible refine (netclass_meet.calls k2 _ _ t266 _ _ t269 true _ ?side1 ?side2 ?side3 ?side4 A20.1).mono ?_); (case side1 => exact csd ((Kd.R_reads' HO_6.1).2.2)); (case side2 => exact (Kd.R_reads' HO_6.1).2.1); (case side3 => exact csd ((Kd.R_reads' HO271.1).2.2)); (case side4 => exact (Kd.R_reads' HO271.1).2.1); rintro e w' ⟨rfl, ⟨nd, rfl⟩⟩; refine ⟨_, rfl, ?_⟩) | (go_at_call 55; (with_reducible refine (netclass_Asymmetric_1.calls k2 _ _ t266 _ _ t269 false _ ?side1 ?side2 ?side3 ?side4 A22.1).mono ?_); (case side1 => exact csd ((Kd.R_reads' HO_6.1).2.2)); (case side2 => exact (Kd.R_reads' HO_6.1).2.1); (case side3 => exact csd ((Kd.R_reads' HO271.1).2.2)); (case side4 => exact (Kd.R_reads' HO271.1).2.1); rintro e w' ⟨rfl, ⟨nd, rfl⟩⟩))
   iterate 2 (try (go_step3; go_wp2_with (first | ((with_reducible refine gate_callee (f := 47) rfl ?_); refine goesL_ (some 32) rfl rfl Try.func47 (by kernel_rfl) rfl #[.agg #[.string a0_0, .slice A0_1 l0_1.length c0_1, .slice A0_2 l0_2.length c0_2], .int .i64 x27_2] rfl pgz ?_; (with_reducible refine (net_Consumers.calls k2 a0_0 _ _ l0_1 _ _ l0_2 x27_2 t269 _ ?side1 ?side2 ?side3 ?side4 A19.1).mono ?_); (case side1 => exact csb HR0_1 HB); (case side2 => exact HC0_1.1); (case side3 => exact csb HR0_2 HB); (case side4 => exact HC0_2.1); rintro e w28 ⟨v270, rfl, ho0, hb⟩; refine ⟨_, rfl, ?_⟩; have HO271 := am (Kd.R_lower (Kd.R_new' ho0 (Kd.R_lt (pkr HO_6.1))) (below_size pbg)); replace HO_6 := am (Kd.R_elder' (pkr HO_6.1) (Kd.R_base ho0) hb); replace BK264 := bbh BK264 hb; replace HB := bst hb; (try clear hb); (try clear hb2); (try clear hk); (try clear hi); (try clear ho0); obtain ⟨Ao29, co29, eo29⟩ := Kd.R_slice HO271.1; subst eo29) | ((with_reducible refine gate_callee (f := 56) rfl ?_); refine goesL_ (some 35) rfl rfl Try.func56 (by kernel_rfl) rfl #[.slice Ao16 t266.length co16, .slice Ao29 t269.length co29] rfl pgz ?_; (with_reducible refine (netclass_meet.calls k2 _ _ t266 _ _ t269 true _ ?side1 ?side2 ?side3 ?side4 A20.1).mono ?_); (case side1 => exact csd ((Kd.R_reads' HO_6.1).2.2)); (case side2 => exact (Kd.R_reads' HO_6.1).2.1); (case side3 => exact csd ((Kd.R_reads' HO271.1).2.2)); (case side4 => exact (Kd.R_reads' HO271.1).2.1); rintro e w' ⟨rfl, ⟨nd, rfl⟩⟩; refine ⟨_, rfl, ?_⟩) | (go_at_call 55; (with_reducible refine (netclass_Asymmetric_1.calls k2 _ _ t266 _ _ t269 false _ ?side1 ?side2 ?side3 ?side4 A22.1).mono ?_); (case side1 => exact csd ((Kd.R_reads' HO_6.1).2.2)); (case side2 => exact (Kd.R_reads' HO_6.1).2.1); (case side3 => exact csd ((Kd.R_reads' HO271.1).2.2)); (case side4 => exact (Kd.R_reads' HO271.1).2.1); rintro e w' ⟨rfl, ⟨nd, rfl⟩⟩))))
   (try rw [Exit.noGoto_ret])
   go_ret
   exact ⟨per, pbg⟩
 subst c23
 rw [if_pos rfl] at H
 have H' := am H
 clear H
 obtain ⟨hcz24_0, hcz24_1, hcz24_2, hfz24_0, hfz24_1, hfz24_2⟩ := cf3 BK264.1
 go_wp2_with (first | ((with_reducible refine gate_callee (f := 47) rfl ?_); refine goesL_ (some 32) rfl rfl Try.func47 (by kernel_rfl) rfl #[.agg #[.string a0_0, .slice A0_1 l0_1.length c0_1, .slice A0_2 l0_2.length c0_2], .int .i64 x27_2] rfl pgz ?_; (with_reducible refine (net_Consumers.calls k2 a0_0 _ _ l0_1 _ _ l0_2 x27_2 t269 _ ?side1 ?side2 ?side3 ?side4 A19.1).mono ?_); (case side1 => exact csb HR0_1 HB); (case side2 => exact HC0_1.1); (case side3 => exact csb HR0_2 HB); (case side4 => exact HC0_2.1); rintro e w25 ⟨v270, rfl, ho0, hb⟩; refine ⟨_, rfl, ?_⟩; have HO271 := am (Kd.R_lower (Kd.R_new' ho0 (Kd.R_lt (pkr HO_6.1))) (below_size pbg)); replace HO_6 := am (Kd.R_elder' (pkr HO_6.1) (Kd.R_base ho0) hb); replace BK264 := bbh BK264 hb; replace HB := bst hb; (try clear hb); (try clear hb2); (try clear hk); (try clear hi); (try clear ho0); obtain ⟨Ao26, co26, eo26⟩ := Kd.R_slice HO271.1; subst eo26) | ((with_reducible refine gate_callee (f := 56) rfl ?_); refine goesL_ (some 35) rfl rfl Try.func56 (by kernel_rfl) rfl #[.slice Ao16 t266.length co16, .slice Ao26 t269.length co26] rfl pgz ?_; (with_reducible refine (netclass_meet.calls k2 _ _ t266 _ _ t269 true _ ?side1 ?side2 ?side3 ?side4 A20.1).mono ?_); (case side1 => exact csd ((Kd.R_reads' HO_6.1).2.2)); (case side2 => exact (Kd.R_reads' HO_6.1).2.1); (case side3 => exact csd ((Kd.R_reads' HO271.1).2.2)); (case side4 => exact (Kd.R_reads' HO271.1).2.1); rintro e w' ⟨rfl, ⟨nd, rfl⟩⟩; refine ⟨_, rfl, ?_⟩) | (go_at_call 55; (with_reducible refine (netclass_Asymmetric_1.calls k2 _ _ t266 _ _ t269 true _ ?side1 ?side2 ?side3 ?side4 A22.1).mono ?_); (case side1 => exact csd ((Kd.R_reads' HO_6.1).2.2)); (case side2 => exact (Kd.R_reads' HO_6.1).2.1); (case side3 => exact csd ((Kd.R_reads' HO271.1).2.2)); (case side4 => exact (Kd.R_reads' HO271.1).2.1); rintro e w' ⟨rfl, ⟨nd, rfl⟩⟩))
 iterate 2 (try (go_step3; go_wp2_with (first | ((with_reducible refine gate_callee (f := 47) rfl ?_); refine goesL_ (some 32) rfl rfl Try.func47 (by kernel_rfl) rfl #[.agg #[.string a0_0, .slice A0_1 l0_1.length c0_1, .slice A0_2 l0_2.length c0_2], .int .i64 x27_2] rfl pgz ?_; (with_reducible refine (net_Consumers.calls k2 a0_0 _ _ l0_1 _ _ l0_2 x27_2 t269 _ ?side1 ?side2 ?side3 ?side4 A19.1).mono ?_); (case side1 => exact csb HR0_1 HB); (case side2 => exact HC0_1.1); (case side3 => exact csb HR0_2 HB); (case side4 => exact HC0_2.1); rintro e w25 ⟨v270, rfl, ho0, hb⟩; refine ⟨_, rfl, ?_⟩; have HO271 := am (Kd.R_lower (Kd.R_new' ho0 (Kd.R_lt (pkr HO_6.1))) (below_size pbg)); replace HO_6 := am (Kd.R_elder' (pkr HO_6.1) (Kd.R_base ho0) hb); replace BK264 := bbh BK264 hb; replace HB := bst hb; (try clear hb); (try clear hb2); (try clear hk); (try clear hi); (try clear ho0); obtain ⟨Ao26, co26, eo26⟩ := Kd.R_slice HO271.1; subst eo26) | ((with_reducible refine gate_callee (f := 56) rfl ?_); refine goesL_ (some 35) rfl rfl Try.func56 (by kernel_rfl) rfl #[.slice Ao16 t266.length co16, .slice Ao26 t269.length co26] rfl pgz ?_; (with_reducible refine (netclass_meet.calls k2 _ _ t266 _ _ t269 true _ ?side1 ?side2 ?side3 ?side4 A20.1).mono ?_); (case side1 => exact csd ((Kd.R_reads' HO_6.1).2.2)); (case side2 => exact (Kd.R_reads' HO_6.1).2.1); (case side3 => exact csd ((Kd.R_reads' HO271.1).2.2)); (case side4 => exact (Kd.R_reads' HO271.1).2.1); rintro e w' ⟨rfl, ⟨nd, rfl⟩⟩; refine ⟨_, rfl, ?_⟩) | (go_at_call 55; (with_reducible refine (netclass_Asymmetric_1.calls k2 _ _ t266 _ _ t269 true _ ?side1 ?side2 ?side3 ?side4 A22.1).mono ?_); (case side1 => exact csd ((Kd.R_reads' HO_6.1).2.2)); (case side2 => exact (Kd.R_reads' HO_6.1).2.1); (case side3 => exact csd ((Kd.R_reads' HO271.1).2.2)); (case side4 => exact (Kd.R_reads' HO271.1).2.1); rintro e w' ⟨rfl, ⟨nd, rfl⟩⟩))))
 go_roundg k2
 case measure => have := HK1.1; have := HK2.1; omega
 case rel => exact ⟨(wrap64 (x27_2 + 1)), prs, H', ⟨by have := HK1.1; have := HK2.1; omega⟩, ⟨by (with_reducible repeat (first | apply Kd.R_alloc | apply Kd.R_drewN | apply Kd.R_drew)); exact Kd.R_mono HO_6.1 (fun _ hk => trivial)⟩, ⟨pbk BK264.1⟩, ⟨pbg⟩⟩

/-! ### netclass_Asymmetric: function 24 -/
def netclass_Asymmetric.f (k : Nat) (a0_0 : ByteArray) (l0_1 : List (S46)) (l0_2 : List (S41)) : Option (Bool) := (netclass_pairs_Asymmetric_1.f k a0_0 l0_1 l0_2).bind fun t275 => (some t275)
theorem netclass_Asymmetric.mono : ∀ a0 a1 a2 k, LeO (netclass_Asymmetric.f k a0 a1 a2) (netclass_Asymmetric.f (k + 1) a0 a1 a2) := by
 intro a0 a1 a2 k
 unfold netclass_Asymmetric.f
 repeat' first | (with_reducible first | apply netclass_pairs_Asymmetric_1.mono | apply LeO.refl | apply LeO.none | refine LeO.ite ?_ ?_ | refine LeO.bind ?_ (fun _ => ?_))
set_option maxHeartbeats 8000000 in
set_option maxRecDepth 100000 in
theorem netclass_Asymmetric.calls (k : Nat) (a0_0 : ByteArray) (A0_1 : Option Addr) (c0_1 : Nat) (l0_1 : List (S46)) (A0_2 : Option Addr) (c0_2 : Nat) (l0_2 : List (S41)) (r : Bool) (w : World) (hr0_1 : Kd.C k46 w A0_1 l0_1.length l0_1) (hc0_1 : l0_1.length ≤ c0_1) (hr0_2 : Kd.C k41 w A0_2 l0_2.length l0_2) (hc0_2 : l0_2.length ≤ c0_2) (h : netclass_Asymmetric.f k a0_0 l0_1 l0_2 = some r) :
   Calls Try.prog 24 #[.agg #[.string a0_0, .slice A0_1 l0_1.length c0_1, .slice A0_2 l0_2.length c0_2]] w fun e w' => e = .returned (.bool r) ∧ Below w.heap.size w w' := by
 have hu25 := Try.underlying25
 have HR0_1 := am hr0_1
 have HC0_1 := am hc0_1
 clear hr0_1 hc0_1
 have HR0_2 := am hr0_2
 have HC0_2 := am hc0_2
 clear hr0_2 hc0_2
 have HB := am (Below.refl w.heap.size w)
 have H : ((netclass_pairs_Asymmetric_1.f k a0_0 l0_1 l0_2).bind fun t275 => (some t275)) = some r := h
 clear h
 replace H := bnd H
 obtain ⟨t275, A2, H⟩ := H
 (try dsimp only at H)
 obtain rfl := Option.some.inj H
 go_enter Try.func24, Try.ntmps24
 go_wp2_with (first | ((with_reducible refine gate_dst (N := 1) rfl ?_); refine box_ev (N := 1) (cs := #[.string a0_0, .slice A0_1 l0_1.length c0_1, .slice A0_2 l0_2.length c0_2]) (t := 25) ?_; intro gb274 hg w3 hbox hb; have BK274 := am hbox; have GW274 := gwl hg; have GE274 := GW274; replace HB := bsl hb; clear hb hbox hg; obtain ⟨hcz4_0, hcz4_1, hcz4_2, hfz4_0, hfz4_1, hfz4_2⟩ := cf3 BK274.1) | ((with_reducible refine gate_callee (f := 50) rfl ?_); refine goesL_ (some 4) rfl rfl Try.func50 (by kernel_rfl) rfl #[.agg #[.string a0_0, .slice A0_1 l0_1.length c0_1, .slice A0_2 l0_2.length c0_2], .func (.func 55) #[] #[]] rfl pgz ?_; (with_reducible refine (netclass_pairs_Asymmetric_1.calls k a0_0 _ _ l0_1 _ _ l0_2 t275 _ ?side1 ?side2 ?side3 ?side4 A2.1).mono ?_); (case side1 => exact csb HR0_1 HB); (case side2 => exact HC0_1.1); (case side3 => exact csb HR0_2 HB); (case side4 => exact HC0_2.1); rintro e w5 ⟨rfl, hb⟩; refine ⟨_, rfl, ?_⟩; replace BK274 := bbh BK274 hb; replace HB := bst hb; (try clear hb); (try clear hb2); (try clear hk); (try clear hi)))
 go_ret
 exact ⟨per, pbg⟩

/-! ### netclass_Words: function 29 -/
-- IMPORTS Derived.RegionTactic,Derived.BigRegion,Derived.Laws.EntriesVeiled
def wordIf (s : ByteArray) (b : Bool) (ns : List ByteArray) : List ByteArray := if b = true then ns ++ [s] else ns
def netclass_Words.f (k : Nat) (a0_0 : ByteArray) (l0_1 : List (S46)) (l0_2 : List (S41)) : Option (List ByteArray) := (netclass_valid.f k a0_0 l0_1 l0_2).bind fun v => if v = true then ((net_Plain.f k a0_0 l0_1 l0_2).bind fun b0 => (net_Ordinary.f k a0_0 l0_1 l0_2).bind fun b1 => (netclass_Pure.f k a0_0 l0_1 l0_2).bind fun b2 => (netclass_Connected.f k a0_0 l0_1 l0_2).bind fun b3 => (netclass_Strong.f k a0_0 l0_1 l0_2).bind fun b4 => (netclass_StateMachine.f k a0_0 l0_1 l0_2).bind fun b5 => (netclass_MarkedGraph.f k a0_0 l0_1 l0_2).bind fun b6 => (netclass_FreeChoice.f k a0_0 l0_1 l0_2).bind fun b7 => (netclass_Asymmetric.f k a0_0 l0_1 l0_2).bind fun b8 => some (wordIf (⟨#[97, 115, 121, 109, 109, 101, 116, 114, 105, 99]⟩ : ByteArray) b8 (wordIf (⟨#[102, 114, 101, 101, 99, 104, 111, 105, 99, 101]⟩ : ByteArray) b7 (wordIf (⟨#[109, 97, 114, 107, 101, 100, 103, 114, 97, 112, 104]⟩ : ByteArray) b6 (wordIf (⟨#[115, 116, 97, 116, 101, 109, 97, 99, 104, 105, 110, 101]⟩ : ByteArray) b5 (wordIf (⟨#[115, 116, 114, 111, 110, 103]⟩ : ByteArray) b4 (wordIf (⟨#[99, 111, 110, 110, 101, 99, 116, 101, 100]⟩ : ByteArray) b3 (wordIf (⟨#[112, 117, 114, 101]⟩ : ByteArray) b2 (wordIf (⟨#[111, 114, 100, 105, 110, 97, 114, 121]⟩ : ByteArray) b1 (wordIf (⟨#[112, 108, 97, 105, 110]⟩ : ByteArray) b0 ([]))))))))))) else some []
theorem netclass_Words.mono : ∀ a0 a1 a2 k, LeO (netclass_Words.f k a0 a1 a2) (netclass_Words.f (k + 1) a0 a1 a2) := by
  intro a0 a1 a2 k
  unfold netclass_Words.f
  exact LeO.bind (netclass_valid.mono _ _ _ _) (fun _ => LeO.ite (LeO.bind (net_Plain.mono _ _ _ _) (fun _ => LeO.bind (net_Ordinary.mono _ _ _ _) (fun _ => LeO.bind (netclass_Pure.mono _ _ _ _) (fun _ => LeO.bind (netclass_Connected.mono _ _ _ _) (fun _ => LeO.bind (netclass_Strong.mono _ _ _ _) (fun _ => LeO.bind (netclass_StateMachine.mono _ _ _ _) (fun _ => LeO.bind (netclass_MarkedGraph.mono _ _ _ _) (fun _ => LeO.bind (netclass_FreeChoice.mono _ _ _ _) (fun _ => LeO.bind (netclass_Asymmetric.mono _ _ _ _) (fun _ => LeO.refl _)))))))))) (LeO.refl _))
/-- The words so far, in a variable of the call's own, and the net in another one. -/
structure WInv (w0 w : World) (Bx Bo : Nat) (net : Array Value) (ns : List ByteArray) : Prop where
  t : ∃ v, w.heap[Bo]? = some (.cells #[v] 34 (0, 0)) ∧ Kd.R Kd.string 9 w w0.heap.size (fun _ => True) v ns
  B : Below w0.heap.size w0 w
  b : w0.heap.size ≤ Bo
  bx : w.heap[Bx]? = some (.cells net 25 (0, 0))
theorem WInv.below {w0 w w1 : World} {Bx Bo : Nat} {net : Array Value} {ns : List ByteArray} (h : WInv w0 w Bx Bo net ns) (hb : Below w.heap.size w w1) : WInv w0 w1 Bx Bo net ns := by
  obtain ⟨⟨v, h1, h2⟩, B, b, bx⟩ := h
  exact ⟨⟨v, blk_below h1 hb, Kd.R_below h2 hb⟩, B.trans (hb.mono B.size), b, blk_below bx hb⟩
theorem WInv.push {w0 w w1 : World} {Bx Bo : Nat} {net : Array Value} {ns ns' : List ByteArray} (h : WInv w0 w Bx Bo net ns) {v v1 : Value} (hT : Kd.R Kd.string 9 w w0.heap.size (fun _ => True) v ns)
    (h1 : Kd.R Kd.string 9 w1 w0.heap.size (fun _ => True) v1 ns') (hb : Below w0.heap.size w0 w1) (hg : w.grownBy w1 v.ownBlock) : WInv w0 (w1.setCell ⟨Bo, 0, none⟩ v1) Bx Bo net ns' ∧ w1.cell? ⟨Bo, 0, none⟩ ≠ none ∧ w1.frozen? ⟨Bo, 0, none⟩ = false := by
  obtain ⟨⟨vt, h3, h4⟩, B, b, bx⟩ := h
  have e3 := grown_blk h3 (Kd.R_typed hT) (by decide) hg
  have eb := grown_blk bx (Kd.R_typed hT) (by decide) hg
  exact ⟨⟨⟨v1, one_setCell e3, Kd.R_set h1 e3 (by decide) _ _⟩, below_set hb b, b, blk_over eb (blk_apart eb e3 (by decide)) _⟩, by rw [cell_of_one e3]; simp, free_of_one e3⟩
set_option maxHeartbeats 1000000 in
set_option maxRecDepth 100000 in
theorem word_add (w0 w : World) (Bx Bo : Nat) (net : Array Value) (ns : List ByteArray) (s : ByteArray) (b : Bool) (h : WInv w0 w Bx Bo net ns) (hl : ns.length < 1000) :
    Calls Try.prog 61 #[.string s, .bool b, .pointer (some ⟨Bo, 0, none⟩)] w fun e w' => e = .returned (.tuple #[]) ∧ WInv w0 w' Bx Bo net (wordIf s b ns) := by
  have HV := Aside0.mk h
  cases b with
  | false =>
    clear h
    go_enter Try.func61, Try.ntmps61
    go_wp2
    go_end0
    exact ⟨rfl, HV.out⟩
  | true =>
    obtain ⟨vt, ht1, ht2⟩ := h.t
    obtain ⟨At, ct, rfl⟩ := Kd.R_slice ht2
    have ct1 := cell_of_one ht1
    have HT := Aside0.mk ht2
    have HL := Aside0.mk hl
    clear h ht1 ht2 hl
    go_enter Try.func61, Try.ntmps61
    go_wp2_with (first
      | ((with_reducible refine gate_builtin (b := .append) (xs := #[.tmp 6, .tmp 8]) rfl ?_); at_builtin; refine Kd.R_append Kd.string (w0 := w0) w0.heap.size rfl (.tmp 6) (.tmp 8) 34 9 (.string ⟨#[]⟩) 16 rfl Try.underlying34 info9 rfl (by decide) (by omega) (.slice At ns.length ct) ns s [.string s] (fun _ => True) (fun _ => False) rfl rfl ?aP (fun _ hk => hk.elim) ?aF ?aO ?aB ?aS ?aL ?_; (case aP => exact rfl); (case aF => exact (fun _ _ => trivial)); (case aO => exact HT.out); (case aB => exact HV.out.B); (case aS => exact HV.out.B.size); (case aL => have := HL.out; omega); intro v2 w2 ho hb hg hat; obtain ⟨A2, k2, rfl⟩ := Kd.R_slice ho; have HX := Aside0.mk (WInv.push HV.out HT.out ho hb hg); obtain ⟨c2, hc2⟩ := Option.ne_none_iff_exists'.mp HX.out.2.1; have hf2 := HX.out.2.2; clear ho hb hg hat))
    go_end0
    have x_ := HX.out.1
    rw [List.length_append] at x_
    exact ⟨rfl, x_⟩
theorem wordIf_len (s : ByteArray) (b : Bool) (ns : List ByteArray) : (wordIf s b ns).length ≤ ns.length + 1 := by unfold wordIf; split <;> simp
set_option maxHeartbeats 8000000 in
set_option maxRecDepth 100000 in
theorem netclass_Words.calls (k : Nat) (a0_0 : ByteArray) (A0_1 : Option Addr) (c0_1 : Nat) (l0_1 : List (S46)) (A0_2 : Option Addr) (c0_2 : Nat) (l0_2 : List (S41)) (r : List ByteArray) (w : World) (hr0_1 : Kd.C k46 w A0_1 l0_1.length l0_1) (hc0_1 : l0_1.length ≤ c0_1) (hr0_2 : Kd.C k41 w A0_2 l0_2.length l0_2) (hc0_2 : l0_2.length ≤ c0_2) (h : netclass_Words.f k a0_0 l0_1 l0_2 = some r) :
    Calls Try.prog 29 #[.agg #[.string a0_0, .slice A0_1 l0_1.length c0_1, .slice A0_2 l0_2.length c0_2]] w fun e w' => ∃ v0_ : Value, e = .returned (v0_) ∧ Kd.R Kd.string 9 w' w.heap.size (fun _ => True) v0_ r ∧ Below w.heap.size w w' := by
  have hu1 := Try.underlying25
  have hmf : ∀ (fn : Fn) (first cap : Array Value) (w : World), (Instr.makeFunc fn first cap).run Try.prog w = .ok (.func fn first cap) w := fun _ _ _ _ => rfl
  have HR1 := Aside0.mk hr0_1
  have HC1 := Aside0.mk hc0_1
  have HR2 := Aside0.mk hr0_2
  have HC2 := Aside0.mk hc0_2
  unfold netclass_Words.f at h
  obtain ⟨v, hv, h⟩ := Option.bind_eq_some_iff.mp h
  have HV := Aside0.mk hv
  clear hr0_1 hc0_1 hr0_2 hc0_2 hv
  obtain ⟨w2, hw2⟩ : ∃ w2 : World, w2 = w.alloc (.cells #[.string a0_0, .slice A0_1 l0_1.length c0_1, .slice A0_2 l0_2.length c0_2] 25) := ⟨_, rfl⟩
  have XA := Aside0.mk (show w2.heap[w.heap.size]? = some (.cells #[.string a0_0, .slice A0_1 l0_1.length c0_1, .slice A0_2 l0_2.length c0_2] 25 (0, 0)) by rw [hw2]; exact alloc_new _ _)
  have HB := Aside0.mk (show Below w.heap.size w w2 by rw [hw2]; exact below_alloc (Below.refl _ _) _)
  have HW := Aside0.mk hw2
  clear hw2
  cases v with
  | false =>
    rw [if_neg Bool.false_ne_true] at h
    obtain rfl := Option.some.inj h
    clear h
    go_enter Try.func29, Try.ntmps29
    go_wp2_with (first | (go_at_call 37; rw [← HW.out]; refine (netclass_valid.calls k _ _ _ _ _ _ _ _ _ (Kd.C_below HR1.out HB.out) HC1.out (Kd.C_below HR2.out HB.out) HC2.out HV.out).mono ?_; rintro e w3 ⟨rfl, hb⟩; have HB3 := Aside0.mk (HB.out.trans (hb.mono HB.out.size)); have XB := Aside0.mk (blk_below XA.out hb); clear hb))
    go_ret
    exact ⟨_, rfl, Kd.R_nil _ _ _ _ _, HB3.out⟩
  | true =>
    rw [if_pos rfl] at h
    obtain ⟨b0, h0, h⟩ := Option.bind_eq_some_iff.mp h
    have H0 := Aside0.mk h0
    clear h0
    obtain ⟨b1, h1, h⟩ := Option.bind_eq_some_iff.mp h
    have H1 := Aside0.mk h1
    clear h1
    obtain ⟨b2, h2, h⟩ := Option.bind_eq_some_iff.mp h
    have H2 := Aside0.mk h2
    clear h2
    obtain ⟨b3, h3, h⟩ := Option.bind_eq_some_iff.mp h
    have H3 := Aside0.mk h3
    clear h3
    obtain ⟨b4, h4, h⟩ := Option.bind_eq_some_iff.mp h
    have H4 := Aside0.mk h4
    clear h4
    obtain ⟨b5, h5, h⟩ := Option.bind_eq_some_iff.mp h
    have H5 := Aside0.mk h5
    clear h5
    obtain ⟨b6, h6, h⟩ := Option.bind_eq_some_iff.mp h
    have H6 := Aside0.mk h6
    clear h6
    obtain ⟨b7, h7, h⟩ := Option.bind_eq_some_iff.mp h
    have H7 := Aside0.mk h7
    clear h7
    obtain ⟨b8, h8, h⟩ := Option.bind_eq_some_iff.mp h
    have H8 := Aside0.mk h8
    clear h8
    have L0 := Aside0.mk (show (([] : List ByteArray)).length ≤ 0 from Nat.le_refl 0)
    have L1 := Aside0.mk (show (wordIf (⟨#[112, 108, 97, 105, 110]⟩ : ByteArray) b0 (([] : List ByteArray))).length ≤ 1 from Nat.le_trans (wordIf_len _ _ _) (Nat.succ_le_succ L0.out))
    have L2 := Aside0.mk (show (wordIf (⟨#[111, 114, 100, 105, 110, 97, 114, 121]⟩ : ByteArray) b1 (wordIf (⟨#[112, 108, 97, 105, 110]⟩ : ByteArray) b0 (([] : List ByteArray)))).length ≤ 2 from Nat.le_trans (wordIf_len _ _ _) (Nat.succ_le_succ L1.out))
    have L3 := Aside0.mk (show (wordIf (⟨#[112, 117, 114, 101]⟩ : ByteArray) b2 (wordIf (⟨#[111, 114, 100, 105, 110, 97, 114, 121]⟩ : ByteArray) b1 (wordIf (⟨#[112, 108, 97, 105, 110]⟩ : ByteArray) b0 (([] : List ByteArray))))).length ≤ 3 from Nat.le_trans (wordIf_len _ _ _) (Nat.succ_le_succ L2.out))
    have L4 := Aside0.mk (show (wordIf (⟨#[99, 111, 110, 110, 101, 99, 116, 101, 100]⟩ : ByteArray) b3 (wordIf (⟨#[112, 117, 114, 101]⟩ : ByteArray) b2 (wordIf (⟨#[111, 114, 100, 105, 110, 97, 114, 121]⟩ : ByteArray) b1 (wordIf (⟨#[112, 108, 97, 105, 110]⟩ : ByteArray) b0 (([] : List ByteArray)))))).length ≤ 4 from Nat.le_trans (wordIf_len _ _ _) (Nat.succ_le_succ L3.out))
    have L5 := Aside0.mk (show (wordIf (⟨#[115, 116, 114, 111, 110, 103]⟩ : ByteArray) b4 (wordIf (⟨#[99, 111, 110, 110, 101, 99, 116, 101, 100]⟩ : ByteArray) b3 (wordIf (⟨#[112, 117, 114, 101]⟩ : ByteArray) b2 (wordIf (⟨#[111, 114, 100, 105, 110, 97, 114, 121]⟩ : ByteArray) b1 (wordIf (⟨#[112, 108, 97, 105, 110]⟩ : ByteArray) b0 (([] : List ByteArray))))))).length ≤ 5 from Nat.le_trans (wordIf_len _ _ _) (Nat.succ_le_succ L4.out))
    have L6 := Aside0.mk (show (wordIf (⟨#[115, 116, 97, 116, 101, 109, 97, 99, 104, 105, 110, 101]⟩ : ByteArray) b5 (wordIf (⟨#[115, 116, 114, 111, 110, 103]⟩ : ByteArray) b4 (wordIf (⟨#[99, 111, 110, 110, 101, 99, 116, 101, 100]⟩ : ByteArray) b3 (wordIf (⟨#[112, 117, 114, 101]⟩ : ByteArray) b2 (wordIf (⟨#[111, 114, 100, 105, 110, 97, 114, 121]⟩ : ByteArray) b1 (wordIf (⟨#[112, 108, 97, 105, 110]⟩ : ByteArray) b0 (([] : List ByteArray)))))))).length ≤ 6 from Nat.le_trans (wordIf_len _ _ _) (Nat.succ_le_succ L5.out))
    have L7 := Aside0.mk (show (wordIf (⟨#[109, 97, 114, 107, 101, 100, 103, 114, 97, 112, 104]⟩ : ByteArray) b6 (wordIf (⟨#[115, 116, 97, 116, 101, 109, 97, 99, 104, 105, 110, 101]⟩ : ByteArray) b5 (wordIf (⟨#[115, 116, 114, 111, 110, 103]⟩ : ByteArray) b4 (wordIf (⟨#[99, 111, 110, 110, 101, 99, 116, 101, 100]⟩ : ByteArray) b3 (wordIf (⟨#[112, 117, 114, 101]⟩ : ByteArray) b2 (wordIf (⟨#[111, 114, 100, 105, 110, 97, 114, 121]⟩ : ByteArray) b1 (wordIf (⟨#[112, 108, 97, 105, 110]⟩ : ByteArray) b0 (([] : List ByteArray))))))))).length ≤ 7 from Nat.le_trans (wordIf_len _ _ _) (Nat.succ_le_succ L6.out))
    have L8 := Aside0.mk (show (wordIf (⟨#[102, 114, 101, 101, 99, 104, 111, 105, 99, 101]⟩ : ByteArray) b7 (wordIf (⟨#[109, 97, 114, 107, 101, 100, 103, 114, 97, 112, 104]⟩ : ByteArray) b6 (wordIf (⟨#[115, 116, 97, 116, 101, 109, 97, 99, 104, 105, 110, 101]⟩ : ByteArray) b5 (wordIf (⟨#[115, 116, 114, 111, 110, 103]⟩ : ByteArray) b4 (wordIf (⟨#[99, 111, 110, 110, 101, 99, 116, 101, 100]⟩ : ByteArray) b3 (wordIf (⟨#[112, 117, 114, 101]⟩ : ByteArray) b2 (wordIf (⟨#[111, 114, 100, 105, 110, 97, 114, 121]⟩ : ByteArray) b1 (wordIf (⟨#[112, 108, 97, 105, 110]⟩ : ByteArray) b0 (([] : List ByteArray)))))))))).length ≤ 8 from Nat.le_trans (wordIf_len _ _ _) (Nat.succ_le_succ L7.out))
    have HE := Aside0.mk (Option.some.inj h)
    clear h
    go_enter Try.func29, Try.ntmps29
    go_wp2_with (first
      | (go_at_call 37; rw [← HW.out]; refine (netclass_valid.calls k _ _ _ _ _ _ _ _ _ (Kd.C_below HR1.out HB.out) HC1.out (Kd.C_below HR2.out HB.out) HC2.out HV.out).mono ?_; rintro e w3 ⟨rfl, hb⟩; have HB3 := Aside0.mk (HB.out.trans (hb.mono HB.out.size)); have XB := Aside0.mk (blk_below XA.out hb); clear hb; obtain ⟨cx0, cx1, cx2, _, _, _⟩ := cf3 (blk_below XB.out (below_alloc (Below.refl _ _) (.cells #[.slice none 0 0] 34))); have HX := Aside0.mk (show WInv w (w3.alloc (.cells #[.slice none 0 0] 34)) w.heap.size w3.heap.size #[.string a0_0, .slice A0_1 l0_1.length c0_1, .slice A0_2 l0_2.length c0_2] [] from ⟨⟨.slice none 0 0, alloc_new _ _, Kd.R_nil _ _ _ _ _⟩, below_alloc HB3.out _, HB3.out.size, blk_below XB.out (below_alloc (Below.refl _ _) _)⟩))
      | (go_at_call 62; refine (net_Plain.calls k _ _ _ _ _ _ _ _ _ (Kd.C_below HR1.out HX.out.B) HC1.out (Kd.C_below HR2.out HX.out.B) HC2.out H0.out).mono ?_; rintro e w4 ⟨rfl, hb⟩; replace HX := Aside0.mk (HX.out.below hb); clear hb; obtain ⟨cx0, cx1, cx2, _, _, _⟩ := cf3 HX.out.bx)
      | (go_at_call 63; refine (net_Ordinary.calls k _ _ _ _ _ _ _ _ _ (Kd.C_below HR1.out HX.out.B) HC1.out (Kd.C_below HR2.out HX.out.B) HC2.out H1.out).mono ?_; rintro e w4 ⟨rfl, hb⟩; replace HX := Aside0.mk (HX.out.below hb); clear hb; obtain ⟨cx0, cx1, cx2, _, _, _⟩ := cf3 HX.out.bx)
      | (go_at_call 26; refine (netclass_Pure.calls k _ _ _ _ _ _ _ _ _ (Kd.C_below HR1.out HX.out.B) HC1.out (Kd.C_below HR2.out HX.out.B) HC2.out H2.out).mono ?_; rintro e w4 ⟨rfl, hb⟩; replace HX := Aside0.mk (HX.out.below hb); clear hb; obtain ⟨cx0, cx1, cx2, _, _, _⟩ := cf3 HX.out.bx)
      | (go_at_call 14; refine (netclass_Connected.calls k _ _ _ _ _ _ _ _ _ (Kd.C_below HR1.out HX.out.B) HC1.out (Kd.C_below HR2.out HX.out.B) HC2.out H3.out).mono ?_; rintro e w4 ⟨rfl, hb⟩; replace HX := Aside0.mk (HX.out.below hb); clear hb; obtain ⟨cx0, cx1, cx2, _, _, _⟩ := cf3 HX.out.bx)
      | (go_at_call 16; refine (netclass_Strong.calls k _ _ _ _ _ _ _ _ _ (Kd.C_below HR1.out HX.out.B) HC1.out (Kd.C_below HR2.out HX.out.B) HC2.out H4.out).mono ?_; rintro e w4 ⟨rfl, hb⟩; replace HX := Aside0.mk (HX.out.below hb); clear hb; obtain ⟨cx0, cx1, cx2, _, _, _⟩ := cf3 HX.out.bx)
      | (go_at_call 18; refine (netclass_StateMachine.calls k _ _ _ _ _ _ _ _ _ (Kd.C_below HR1.out HX.out.B) HC1.out (Kd.C_below HR2.out HX.out.B) HC2.out H5.out).mono ?_; rintro e w4 ⟨rfl, hb⟩; replace HX := Aside0.mk (HX.out.below hb); clear hb; obtain ⟨cx0, cx1, cx2, _, _, _⟩ := cf3 HX.out.bx)
      | (go_at_call 20; refine (netclass_MarkedGraph.calls k _ _ _ _ _ _ _ _ _ (Kd.C_below HR1.out HX.out.B) HC1.out (Kd.C_below HR2.out HX.out.B) HC2.out H6.out).mono ?_; rintro e w4 ⟨rfl, hb⟩; replace HX := Aside0.mk (HX.out.below hb); clear hb; obtain ⟨cx0, cx1, cx2, _, _, _⟩ := cf3 HX.out.bx)
      | (go_at_call 22; refine (netclass_FreeChoice.calls k _ _ _ _ _ _ _ _ _ (Kd.C_below HR1.out HX.out.B) HC1.out (Kd.C_below HR2.out HX.out.B) HC2.out H7.out).mono ?_; rintro e w4 ⟨rfl, hb⟩; replace HX := Aside0.mk (HX.out.below hb); clear hb; obtain ⟨cx0, cx1, cx2, _, _, _⟩ := cf3 HX.out.bx)
      | (go_at_call 24; refine (netclass_Asymmetric.calls k _ _ _ _ _ _ _ _ _ (Kd.C_below HR1.out HX.out.B) HC1.out (Kd.C_below HR2.out HX.out.B) HC2.out H8.out).mono ?_; rintro e w4 ⟨rfl, hb⟩; replace HX := Aside0.mk (HX.out.below hb); clear hb; obtain ⟨cx0, cx1, cx2, _, _, _⟩ := cf3 HX.out.bx)
      | (go_at_call 61; refine (word_add w _ _ _ _ _ _ _ HX.out ?lm).mono ?_; (case lm => first | exact Nat.lt_of_le_of_lt L0.out (by decide) | exact Nat.lt_of_le_of_lt L1.out (by decide) | exact Nat.lt_of_le_of_lt L2.out (by decide) | exact Nat.lt_of_le_of_lt L3.out (by decide) | exact Nat.lt_of_le_of_lt L4.out (by decide) | exact Nat.lt_of_le_of_lt L5.out (by decide) | exact Nat.lt_of_le_of_lt L6.out (by decide) | exact Nat.lt_of_le_of_lt L7.out (by decide) | exact Nat.lt_of_le_of_lt L8.out (by decide)); rintro e w4 ⟨rfl, hx⟩; replace HX := Aside0.mk hx; clear hx; obtain ⟨cx0, cx1, cx2, _, _, _⟩ := cf3 HX.out.bx; obtain ⟨vt, ht1, ht2⟩ := HX.out.t; have ct1 := cell_of_one ht1; have HT := Aside0.mk ht2; clear ht1 ht2))
    go_ret
    refine ⟨_, rfl, ?_, HX.out.B⟩
    rw [← HE.out]
    exact HT.out

/-! ### petrinetlaw13_alive: function 10 -/
def petrinetlaw13_alive.f (k : Nat)  : Option (Bool) := (petrinetlaw13_ring.f).bind fun bt289 => ((netclass_Words.f k bt289.1 bt289.2.1 bt289.2.2).bind fun t296 => ((petrinetref48_Same.f k t296 (([(⟨#[112, 108, 97, 105, 110]⟩ : ByteArray), (⟨#[111, 114, 100, 105, 110, 97, 114, 121]⟩ : ByteArray), (⟨#[99, 111, 110, 110, 101, 99, 116, 101, 100]⟩ : ByteArray), (⟨#[115, 116, 114, 111, 110, 103]⟩ : ByteArray), (⟨#[115, 116, 97, 116, 101, 109, 97, 99, 104, 105, 110, 101]⟩ : ByteArray), (⟨#[109, 97, 114, 107, 101, 100, 103, 114, 97, 112, 104]⟩ : ByteArray), (⟨#[102, 114, 101, 101, 99, 104, 111, 105, 99, 101]⟩ : ByteArray), (⟨#[97, 115, 121, 109, 109, 101, 116, 114, 105, 99]⟩ : ByteArray)] : List ByteArray))).bind fun t302 => (if t302 = true then ((petrinetlaw13_ring.f).bind fun bt303 => ((netclass_Connected.f k bt303.1 bt303.2.1 bt303.2.2).bind fun t310 => (if t310 = true then ((petrinetlaw13_ring.f).bind fun bt311 => ((netclass_Pure.f k bt311.1 bt311.2.1 bt311.2.2).bind fun t318 => (some (!t318)))) else (none)))) else (none))))
theorem petrinetlaw13_alive.mono : ∀ k, LeO (petrinetlaw13_alive.f k ) (petrinetlaw13_alive.f (k + 1) ) := by
 intro  k
 unfold petrinetlaw13_alive.f
 repeat' first | (with_reducible first | apply netclass_Connected.mono | apply netclass_Pure.mono | apply netclass_Words.mono | apply petrinetref48_Same.mono | apply LeO.refl | apply LeO.none | refine LeO.ite ?_ ?_ | refine LeO.bind ?_ (fun _ => ?_))
set_option maxHeartbeats 8000000 in
set_option maxRecDepth 100000 in
theorem petrinetlaw13_alive.calls (k : Nat)  (r : Bool) (w : World) (h : petrinetlaw13_alive.f k  = some r) :
   Calls Try.prog 10 #[] w fun e w' => e = .returned (.bool r) ∧ Below w.heap.size w w' := by
 have HB := am (Below.refl w.heap.size w)
 have H : ((petrinetlaw13_ring.f).bind fun bt289 => ((netclass_Words.f k bt289.1 bt289.2.1 bt289.2.2).bind fun t296 => ((petrinetref48_Same.f k t296 (([(⟨#[112, 108, 97, 105, 110]⟩ : ByteArray), (⟨#[111, 114, 100, 105, 110, 97, 114, 121]⟩ : ByteArray), (⟨#[99, 111, 110, 110, 101, 99, 116, 101, 100]⟩ : ByteArray), (⟨#[115, 116, 114, 111, 110, 103]⟩ : ByteArray), (⟨#[115, 116, 97, 116, 101, 109, 97, 99, 104, 105, 110, 101]⟩ : ByteArray), (⟨#[109, 97, 114, 107, 101, 100, 103, 114, 97, 112, 104]⟩ : ByteArray), (⟨#[102, 114, 101, 101, 99, 104, 111, 105, 99, 101]⟩ : ByteArray), (⟨#[97, 115, 121, 109, 109, 101, 116, 114, 105, 99]⟩ : ByteArray)] : List ByteArray))).bind fun t302 => (if t302 = true then ((petrinetlaw13_ring.f).bind fun bt303 => ((netclass_Connected.f k bt303.1 bt303.2.1 bt303.2.2).bind fun t310 => (if t310 = true then ((petrinetlaw13_ring.f).bind fun bt311 => ((netclass_Pure.f k bt311.1 bt311.2.1 bt311.2.2).bind fun t318 => (some (!t318)))) else (none)))) else (none))))) = some r := h
 clear h
 replace H := bnd H
 obtain ⟨⟨t289, t290, t293⟩, A1, H⟩ := H
 (try dsimp only at H)
 replace H := bnd H
 obtain ⟨t296, A2, H⟩ := H
 (try dsimp only at H)
 obtain ⟨y299, hy299⟩ : ∃ y_ : List ByteArray, y_ = (([(⟨#[112, 108, 97, 105, 110]⟩ : ByteArray), (⟨#[111, 114, 100, 105, 110, 97, 114, 121]⟩ : ByteArray), (⟨#[99, 111, 110, 110, 101, 99, 116, 101, 100]⟩ : ByteArray), (⟨#[115, 116, 114, 111, 110, 103]⟩ : ByteArray), (⟨#[115, 116, 97, 116, 101, 109, 97, 99, 104, 105, 110, 101]⟩ : ByteArray), (⟨#[109, 97, 114, 107, 101, 100, 103, 114, 97, 112, 104]⟩ : ByteArray), (⟨#[102, 114, 101, 101, 99, 104, 111, 105, 99, 101]⟩ : ByteArray), (⟨#[97, 115, 121, 109, 109, 101, 116, 114, 105, 99]⟩ : ByteArray)] : List ByteArray)) := ⟨_, rfl⟩
 replace H : ((petrinetref48_Same.f k t296 y299).bind fun t302 => (if t302 = true then ((petrinetlaw13_ring.f).bind fun bt303 => ((netclass_Connected.f k bt303.1 bt303.2.1 bt303.2.2).bind fun t310 => (if t310 = true then ((petrinetlaw13_ring.f).bind fun bt311 => ((netclass_Pure.f k bt311.1 bt311.2.1 bt311.2.2).bind fun t318 => (some (!t318)))) else (none)))) else (none))) = some r := by first | (rw [hy299]; with_reducible exact H) | (have H2_ := (Option.bind_some _ _).symm.trans H; rw [hy299]; with_reducible exact H2_) | (have H2_ := (Option.bind_some _ _).symm.trans H; with_reducible exact H2_) | with_reducible exact H | (rw [hy299]; exact H) | exact H
 have Ny299 := am hy299
 clear hy299
 replace H := bnd H
 obtain ⟨t302, A3, H⟩ := H
 (try dsimp only at H)
 by_cases c4 : t302 = true
 rotate_left
 · replace c4 := Bool.eq_false_iff.mpr c4
   subst c4
   rw [if_neg Bool.false_ne_true] at H
   exact absurd H (by simp)
 subst c4
 rw [if_pos rfl] at H
 replace H := bnd H
 obtain ⟨⟨t303, t304, t307⟩, A5, H⟩ := H
 (try dsimp only at H)
 replace H := bnd H
 obtain ⟨t310, A6, H⟩ := H
 (try dsimp only at H)
 by_cases c7 : t310 = true
 rotate_left
 · replace c7 := Bool.eq_false_iff.mpr c7
   subst c7
   rw [if_neg Bool.false_ne_true] at H
   exact absurd H (by simp)
 subst c7
 rw [if_pos rfl] at H
 replace H := bnd H
 obtain ⟨⟨t311, t312, t315⟩, A8, H⟩ := H
 (try dsimp only at H)
 replace H := bnd H
 obtain ⟨t318, A9, H⟩ := H
 (try dsimp only at H)
 obtain rfl := Option.some.inj H
 go_enter Try.func10, Try.ntmps10
 have tk0_ := am True.intro
 have tk1_ := am True.intro
 go_wp2_with (first | ((with_reducible refine gate_callee (f := 36) rfl ?_); refine goesL_ (some 2) rfl rfl Try.func36 (by kernel_rfl) rfl #[] rfl pgz ?_; (with_reducible refine (petrinetlaw13_ring.calls  t289 t290 t293 _ A1.1).mono ?_); rintro e w10 ⟨v291, v294, rfl, ho0, ho1, hb⟩; refine ⟨_, rfl, ?_⟩; have HO292 := am (Kd.R_lower (Kd.R_mono (ok' := fun k_ => True) ho0 (fun _ hk_ => trivial)) (below_size pbl)); have HO295 := am (Kd.N_lower (Kd.N_mono (ok' := fun k_ => some k_ ≠ (v291 : Value).ownBlock) ho1 (fun k_ hk_ => hk_.2)) (below_size pbl)); replace HB := bsl hb; (try clear hb); (try clear hb2); (try clear hk); (try clear hi); (try clear ho0); (try clear ho1); obtain ⟨Ao11, co11, eo11⟩ := Kd.R_slice HO292.1; subst eo11; obtain ⟨Ao12, co12, eo12⟩ := Kd.N_slice HO295.1; subst eo12) | ((with_reducible refine gate_callee (f := 29) rfl ?_); refine goesL_ (some 3) rfl rfl Try.func29 (by kernel_rfl) rfl #[.agg #[.string t289, .slice Ao11 t290.length co11, .slice Ao12 t293.length co12]] rfl pgz ?_; (with_reducible refine (netclass_Words.calls k t289 _ _ t290 _ _ t293 t296 _ ?side1 ?side2 ?side3 ?side4 A2.1).mono ?_); (case side1 => exact csd ((Kd.R_reads' HO292.1).2.2)); (case side2 => exact (Kd.R_reads' HO292.1).2.1); (case side3 => exact csd ((Kd.N_reads' HO295.1).2.2)); (case side4 => exact (Kd.N_reads' HO295.1).2.1); rintro e w13 ⟨v297, rfl, ho0, hb⟩; refine ⟨_, rfl, ?_⟩; have HO298 := am (Kd.R_lower ho0 (below_size pbl)); replace HO292 := rbw HO292 hb; replace HO295 := am (Kd.N_elder' (pkn HO295.1) (Kd.R_base ho0) hb); replace HB := bsl hb; (try clear hb); (try clear hb2); (try clear hk); (try clear hi); (try clear ho0)) | ((with_reducible refine gate_dst (N := 5) rfl ?_); refine Kd.R_lit Kd.string _ 9 ?hg (N := 5) ?hd (xs := ([(⟨#[112, 108, 97, 105, 110]⟩ : ByteArray), (⟨#[111, 114, 100, 105, 110, 97, 114, 121]⟩ : ByteArray), (⟨#[99, 111, 110, 110, 101, 99, 116, 101, 100]⟩ : ByteArray), (⟨#[115, 116, 114, 111, 110, 103]⟩ : ByteArray), (⟨#[115, 116, 97, 116, 101, 109, 97, 99, 104, 105, 110, 101]⟩ : ByteArray), (⟨#[109, 97, 114, 107, 101, 100, 103, 114, 97, 112, 104]⟩ : ByteArray), (⟨#[102, 114, 101, 101, 99, 104, 111, 105, 99, 101]⟩ : ByteArray), (⟨#[97, 115, 121, 109, 109, 101, 116, 114, 105, 99]⟩ : ByteArray)] : List ByteArray)) (inner := [.string (⟨#[112, 108, 97, 105, 110]⟩ : ByteArray), .string (⟨#[111, 114, 100, 105, 110, 97, 114, 121]⟩ : ByteArray), .string (⟨#[99, 111, 110, 110, 101, 99, 116, 101, 100]⟩ : ByteArray), .string (⟨#[115, 116, 114, 111, 110, 103]⟩ : ByteArray), .string (⟨#[115, 116, 97, 116, 101, 109, 97, 99, 104, 105, 110, 101]⟩ : ByteArray), .string (⟨#[109, 97, 114, 107, 101, 100, 103, 114, 97, 112, 104]⟩ : ByteArray), .string (⟨#[102, 114, 101, 101, 99, 104, 111, 105, 99, 101]⟩ : ByteArray), .string (⟨#[97, 115, 121, 109, 109, 101, 116, 114, 105, 99]⟩ : ByteArray)]) (ok := fun _ => True) (okp := fun _ => True) ?hr ?hp (fun _ hk => hk) trivial (Below.refl _ _) (Nat.le_refl _) (by simp) ?_; (case hd => rfl); (case hg => rfl); (case hr => first | (go_simp; done) | (go_simp; rfl)); (case hp => exact (Reps.one (show Kd.M Kd.string _ _ _ (⟨#[112, 108, 97, 105, 110]⟩ : ByteArray) [.string (⟨#[112, 108, 97, 105, 110]⟩ : ByteArray)] from rfl) (Reps.one (show Kd.M Kd.string _ _ _ (⟨#[111, 114, 100, 105, 110, 97, 114, 121]⟩ : ByteArray) [.string (⟨#[111, 114, 100, 105, 110, 97, 114, 121]⟩ : ByteArray)] from rfl) (Reps.one (show Kd.M Kd.string _ _ _ (⟨#[99, 111, 110, 110, 101, 99, 116, 101, 100]⟩ : ByteArray) [.string (⟨#[99, 111, 110, 110, 101, 99, 116, 101, 100]⟩ : ByteArray)] from rfl) (Reps.one (show Kd.M Kd.string _ _ _ (⟨#[115, 116, 114, 111, 110, 103]⟩ : ByteArray) [.string (⟨#[115, 116, 114, 111, 110, 103]⟩ : ByteArray)] from rfl) (Reps.one (show Kd.M Kd.string _ _ _ (⟨#[115, 116, 97, 116, 101, 109, 97, 99, 104, 105, 110, 101]⟩ : ByteArray) [.string (⟨#[115, 116, 97, 116, 101, 109, 97, 99, 104, 105, 110, 101]⟩ : ByteArray)] from rfl) (Reps.one (show Kd.M Kd.string _ _ _ (⟨#[109, 97, 114, 107, 101, 100, 103, 114, 97, 112, 104]⟩ : ByteArray) [.string (⟨#[109, 97, 114, 107, 101, 100, 103, 114, 97, 112, 104]⟩ : ByteArray)] from rfl) (Reps.one (show Kd.M Kd.string _ _ _ (⟨#[102, 114, 101, 101, 99, 104, 111, 105, 99, 101]⟩ : ByteArray) [.string (⟨#[102, 114, 101, 101, 99, 104, 111, 105, 99, 101]⟩ : ByteArray)] from rfl) (Reps.one (show Kd.M Kd.string _ _ _ (⟨#[97, 115, 121, 109, 109, 101, 116, 114, 105, 99]⟩ : ByteArray) [.string (⟨#[97, 115, 121, 109, 109, 101, 116, 114, 105, 99]⟩ : ByteArray)] from rfl) (Reps.none _ _)))))))))); intro v300 w14 ho15 hb hg_ hnew_; clear hg_ hnew_; (first | rw [← Ny299.1] at ho15 | (simp only [Int.reduceToNat] at ho15; rw [← Ny299.1] at ho15)); have HO301 := am (Kd.R_lower (Kd.R_new' ho15 (Kd.R_lt (pkr HO298.1))) (below_size pbl)); replace HO292 := rbw HO292 hb; replace HO295 := am (Kd.N_elder' (pkn HO295.1) (Kd.R_base ho15) hb); replace HO298 := am (Kd.R_elder' (pkr HO298.1) (Kd.R_base ho15) hb); replace HB := bsl hb; clear hb ho15; obtain ⟨Ao16, co16, eo16⟩ := Kd.R_slice HO298.1; subst eo16; obtain ⟨Ao17, co17, eo17⟩ := Kd.R_slice HO301.1; subst eo17) | ((with_reducible refine gate_callee (f := 28) rfl ?_); refine goesL_ (some 6) rfl rfl Try.func28 (by kernel_rfl) rfl #[.slice Ao16 t296.length co16, .slice Ao17 y299.length co17] rfl pgz ?_; (with_reducible refine (petrinetref48_Same.calls k _ _ t296 _ _ y299 true _ ?side1 ?side2 ?side3 ?side4 A3.1).mono ?_); (case side1 => exact csd ((Kd.R_reads' HO298.1).2.2)); (case side2 => exact (Kd.R_reads' HO298.1).2.1); (case side3 => exact csd ((Kd.R_reads' HO301.1).2.2)); (case side4 => exact (Kd.R_reads' HO301.1).2.1); rintro e w' ⟨rfl, ⟨nd, rfl⟩⟩; refine ⟨_, rfl, ?_⟩) | (go_at_call 36; have _t := tk0_; (with_reducible refine (petrinetlaw13_ring.calls  t303 t304 t307 _ A5.1).mono ?_); rintro e w18 ⟨v305, v308, rfl, ho0, ho1, hb⟩; have HO306 := am (Kd.R_lower (Kd.R_new' (Kd.R_mono (ok' := fun k_ => True) ho0 (fun _ hk_ => trivial)) (Kd.R_lt (pkr HO292.1))) (below_size pbl)); have HO309 := am (Kd.N_lower (Kd.N_mono (ok' := fun k_ => some k_ ≠ (v305 : Value).ownBlock ∧ some k_ ≠ (.slice Ao11 t290.length co11 : Value).ownBlock ∧ some k_ ≠ (.slice Ao12 t293.length co12 : Value).ownBlock ∧ some k_ ≠ (.slice Ao16 t296.length co16 : Value).ownBlock ∧ some k_ ≠ (.slice Ao17 y299.length co17 : Value).ownBlock) ho1 (fun k_ hk_ => ⟨hk_.2, (Kd.fresh' (Kd.R_lt (pkr HO292.1)) k_ hk_.1), (Kd.fresh' (Kd.N_lt (pkn HO295.1)) k_ hk_.1), (Kd.fresh' (Kd.R_lt (pkr HO298.1)) k_ hk_.1), (Kd.fresh' (Kd.R_lt (pkr HO301.1)) k_ hk_.1)⟩)) (below_size pbl)); replace HO292 := am (Kd.R_elder' (pkr HO292.1) (Kd.R_base ho0) hb); replace HO295 := am (Kd.N_mono (Kd.N_told (Kd.N_told (Kd.N_old (pkn HO295.1) hb) (Kd.R_base ho0)) (Kd.N_base ho1)) (fun _ h_ => h_.1)); replace HO298 := rbw HO298 hb; replace HO301 := rbw HO301 hb; replace HB := bsl hb; (try clear hb); (try clear hb2); (try clear hk); (try clear hi); (try clear ho0); (try clear ho1); obtain ⟨Ao19, co19, eo19⟩ := Kd.R_slice HO306.1; subst eo19; obtain ⟨Ao20, co20, eo20⟩ := Kd.N_slice HO309.1; subst eo20; clear tk0_ _t) | (go_at_call 14; (with_reducible refine (netclass_Connected.calls k t303 _ _ t304 _ _ t307 true _ ?side1 ?side2 ?side3 ?side4 A6.1).mono ?_); (case side1 => exact csd ((Kd.R_reads' HO306.1).2.2)); (case side2 => exact (Kd.R_reads' HO306.1).2.1); (case side3 => exact csd ((Kd.N_reads' HO309.1).2.2)); (case side4 => exact (Kd.N_reads' HO309.1).2.1); rintro e w21 ⟨rfl, hb⟩; replace HO292 := rbw HO292 hb; replace HO295 := nbw HO295 hb; replace HO298 := rbw HO298 hb; replace HO301 := rbw HO301 hb; replace HO306 := rbw HO306 hb; replace HO309 := nbw HO309 hb; replace HB := bsl hb; (try clear hb); (try clear hb2); (try clear hk); (try clear hi)) | (go_at_call 36; have _t := tk1_; (with_reducible refine (petrinetlaw13_ring.calls  t311 t312 t315 _ A8.1).mono ?_); rintro e w22 ⟨v313, v316, rfl, ho0, ho1, hb⟩; have HO314 := am (Kd.R_lower (Kd.R_new' (Kd.R_new' (Kd.R_mono (ok' := fun k_ => True) ho0 (fun _ hk_ => trivial)) (Kd.R_lt (pkr HO292.1))) (Kd.R_lt (pkr HO306.1))) (below_size pbl)); have HO317 := am (Kd.N_lower (Kd.N_mono (ok' := fun k_ => some k_ ≠ (v313 : Value).ownBlock ∧ some k_ ≠ (.slice Ao11 t290.length co11 : Value).ownBlock ∧ some k_ ≠ (.slice Ao12 t293.length co12 : Value).ownBlock ∧ some k_ ≠ (.slice Ao16 t296.length co16 : Value).ownBlock ∧ some k_ ≠ (.slice Ao17 y299.length co17 : Value).ownBlock ∧ some k_ ≠ (.slice Ao19 t304.length co19 : Value).ownBlock ∧ some k_ ≠ (.slice Ao20 t307.length co20 : Value).ownBlock) ho1 (fun k_ hk_ => ⟨hk_.2, (Kd.fresh' (Kd.R_lt (pkr HO292.1)) k_ hk_.1), (Kd.fresh' (Kd.N_lt (pkn HO295.1)) k_ hk_.1), (Kd.fresh' (Kd.R_lt (pkr HO298.1)) k_ hk_.1), (Kd.fresh' (Kd.R_lt (pkr HO301.1)) k_ hk_.1), (Kd.fresh' (Kd.R_lt (pkr HO306.1)) k_ hk_.1), (Kd.fresh' (Kd.N_lt (pkn HO309.1)) k_ hk_.1)⟩)) (below_size pbl)); replace HO292 := am (Kd.R_elder' (pkr HO292.1) (Kd.R_base ho0) hb); replace HO295 := am (Kd.N_mono (Kd.N_told (Kd.N_told (Kd.N_old (pkn HO295.1) hb) (Kd.R_base ho0)) (Kd.N_base ho1)) (fun _ h_ => h_.1)); replace HO298 := rbw HO298 hb; replace HO301 := rbw HO301 hb; replace HO306 := am (Kd.R_elder' (pkr HO306.1) (Kd.R_base ho0) hb); replace HO309 := am (Kd.N_mono (Kd.N_told (Kd.N_told (Kd.N_old (pkn HO309.1) hb) (Kd.R_base ho0)) (Kd.N_base ho1)) (fun _ h_ => h_.1)); replace HB := bsl hb; (try clear hb); (try clear hb2); (try clear hk); (try clear hi); (try clear ho0); (try clear ho1); obtain ⟨Ao23, co23, eo23⟩ := Kd.R_slice HO314.1; subst eo23; obtain ⟨Ao24, co24, eo24⟩ := Kd.N_slice HO317.1; subst eo24; clear tk1_ _t) | (go_at_call 26; (with_reducible refine (netclass_Pure.calls k t311 _ _ t312 _ _ t315 t318 _ ?side1 ?side2 ?side3 ?side4 A9.1).mono ?_); (case side1 => exact csd ((Kd.R_reads' HO314.1).2.2)); (case side2 => exact (Kd.R_reads' HO314.1).2.1); (case side3 => exact csd ((Kd.N_reads' HO317.1).2.2)); (case side4 => exact (Kd.N_reads' HO317.1).2.1); rintro e w25 ⟨rfl, hb⟩; replace HO292 := rbw HO292 hb; replace HO295 := nbw HO295 hb; replace HO298 := rbw HO298 hb; replace HO301 := rbw HO301 hb; replace HO306 := rbw HO306 hb; replace HO309 := nbw HO309 hb; replace HO314 := rbw HO314 hb; replace HO317 := nbw HO317 hb; replace HB := bsl hb; (try clear hb); (try clear hb2); (try clear hk); (try clear hi)))
 go_ret
 exact ⟨per, pbg⟩

end Go.Proofs.Ytplljicodflagaa.P
