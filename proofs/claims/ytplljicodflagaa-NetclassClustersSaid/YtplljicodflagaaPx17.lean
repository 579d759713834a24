-- LAID BY OUR PROGRAM OVER THE PRINT (xprint.py, part.py): Lean checks it.
import Derived.Test.YtplljicodflagaaPx0
import Derived.Test.YtplljicodflagaaPx1
import Derived.Test.YtplljicodflagaaPx4
import Derived.Test.YtplljicodflagaaPx5
import Derived.Test.YtplljicodflagaaPx9
import Derived.Test.YtplljicodflagaaPx16
namespace Go.Proofs.Ytplljicodflagaa.P
open Go.RowKit Go.Proofs.YtplljicodflagaaW.PrintWords Go.Proofs.YtplljicodflagaaW.PrintLast Go.Proofs.YtplljicodflagaaW.PrintMore
attribute [local go_sem] max2_int min2_int max_two min_two max_three min_three max_four min_four   -- for this text's walks alone
set_option linter.unusedVariables false
set_option linter.unusedSimpArgs false

/-! ### petrinetref13_Clusters: function 33 -/
def petrinetref13_Clusters.l0 : Nat → List (List Int) → Int → Option (List Int)
 | 0, _, _ => none
 | k + 1, x3, x4 => if x4 < (x3.length : Int) then (if 0 ≤ x4 then (petrinetref13_Clusters.l0 k (x3.set (x4 : Int).toNat ([] : List Int)) (wrap64 (x4 + 1))) else (none)) else ((petrinetref13_both.f k x3).bind fun t663 => ((petrinetref07_Components.f k t663).bind fun t666 => (some t666)))
def petrinetref13_Clusters.f (k : Nat) (a0_0 : ByteArray) (l0_1 : List (S46)) (l0_2 : List (S41)) : Option (List Int) := (petrinetref13_Flow.f k a0_0 l0_1 l0_2).bind fun t659 => (petrinetref13_Clusters.l0 k t659 (l0_1.length : Int))
theorem petrinetref13_Clusters.mono_l : ∀ k, (∀ y0 y1, LeO (petrinetref13_Clusters.l0 k y0 y1) (petrinetref13_Clusters.l0 (k + 1) y0 y1))
 | 0 => fun _ _ r h => by simp [petrinetref13_Clusters.l0] at h
 | k + 1 => by
   have ih0 := petrinetref13_Clusters.mono_l k
   · intro y0 y1
     unfold petrinetref13_Clusters.l0
     repeat' first | (with_reducible first | apply ih0 | apply petrinetref07_Components.mono | apply petrinetref13_Flow.mono | apply petrinetref13_both.mono | apply LeO.refl | apply LeO.none | refine LeO.ite ?_ ?_ | refine LeO.bind ?_ (fun _ => ?_))
theorem petrinetref13_Clusters.mono : ∀ a0 a1 a2 k, LeO (petrinetref13_Clusters.f k a0 a1 a2) (petrinetref13_Clusters.f (k + 1) a0 a1 a2) := by
 intro a0 a1 a2 k
 have ih0 := petrinetref13_Clusters.mono_l k
 unfold petrinetref13_Clusters.f
 repeat' first | (with_reducible first | apply ih0 | apply petrinetref07_Components.mono | apply petrinetref13_Flow.mono | apply petrinetref13_both.mono | apply LeO.refl | apply LeO.none | refine LeO.ite ?_ ?_ | refine LeO.bind ?_ (fun _ => ?_))
set_option maxHeartbeats 8000000 in
set_option maxRecDepth 100000 in
theorem petrinetref13_Clusters.calls (k : Nat) (a0_0 : ByteArray) (A0_1 : Option Addr) (c0_1 : Nat) (l0_1 : List (S46)) (A0_2 : Option Addr) (c0_2 : Nat) (l0_2 : List (S41)) (r : List Int) (w : World) (hr0_1 : Kd.C k46 w A0_1 l0_1.length l0_1) (hc0_1 : l0_1.length ≤ c0_1) (hr0_2 : Kd.C k41 w A0_2 l0_2.length l0_2) (hc0_2 : l0_2.length ≤ c0_2) (h : petrinetref13_Clusters.f k a0_0 l0_1 l0_2 = some r) :
   Calls Try.prog 33 #[.agg #[.string a0_0, .slice A0_1 l0_1.length c0_1, .slice A0_2 l0_2.length c0_2]] w fun e w' => ∃ v0_ : Value, e = .returned (v0_) ∧ Kd.R (Kd.int .i64) 3 w' w.heap.size (fun _ => True) v0_ r ∧ Below w.heap.size w w' := by
 have hu25 := Try.underlying25
 have HR0_1 := am hr0_1
 have HC0_1 := am hc0_1
 clear hr0_1 hc0_1
 have HR0_2 := am hr0_2
 have HC0_2 := am hc0_2
 clear hr0_2 hc0_2
 have HB := am (Below.refl w.heap.size w)
 have H : ((petrinetref13_Flow.f k a0_0 l0_1 l0_2).bind fun t659 => (petrinetref13_Clusters.l0 k t659 (l0_1.length : Int))) = some r := h
 clear h
 replace H := bnd H
 obtain ⟨t659, A2, H⟩ := H
 (try dsimp only at H)
 have H' := am H
 clear H
 go_enter Try.func33, Try.ntmps33
 go_wp2_with (first | ((with_reducible refine gate_dst (N := 1) rfl ?_); refine box_ev (N := 1) (cs := #[.string a0_0, .slice A0_1 l0_1.length c0_1, .slice A0_2 l0_2.length c0_2]) (t := 25) ?_; intro gb658 hg w3 hbox hb; have BK658 := am hbox; have GW658 := gwl hg; have GE658 := GW658; replace HB := bsl hb; clear hb hbox hg; obtain ⟨hcz4_0, hcz4_1, hcz4_2, hfz4_0, hfz4_1, hfz4_2⟩ := cf3 BK658.1) | ((with_reducible refine gate_callee (f := 13) rfl ?_); refine goesL_ (some 6) rfl rfl Try.func13 (by kernel_rfl) rfl #[.agg #[.string a0_0, .slice A0_1 l0_1.length c0_1, .slice A0_2 l0_2.length c0_2]] rfl pgz ?_; (with_reducible refine (petrinetref13_Flow.calls k a0_0 _ _ l0_1 _ _ l0_2 t659 _ ?side1 ?side2 ?side3 ?side4 A2.1).mono ?_); (case side1 => exact csb HR0_1 HB); (case side2 => exact HC0_1.1); (case side3 => exact csb HR0_2 HB); (case side4 => exact HC0_2.1); rintro e w5 ⟨v660, rfl, ho0, hb⟩; refine ⟨_, rfl, ?_⟩; have HO661 := am (Kd.S_lower ho0 (below_size pbg)); replace BK658 := bbh BK658 hb; replace HB := bst hb; (try clear hb); (try clear hb2); (try clear hk); (try clear hi); (try clear ho0); obtain ⟨hcz6_0, hcz6_1, hcz6_2, hfz6_0, hfz6_1, hfz6_2⟩ := cf3 BK658.1))
 go_loopg [4] k (fun kq v4 w' => ∃ (x3_1 : List (List Int)) (x4_1 : Int), v4 = .int .i64 x4_1 ∧ Aside0 (petrinetref13_Clusters.l0 kq x3_1 x4_1 = some r) ∧ Aside0 (kq ≤ k) ∧ Aside0 (Kd.S (Kd.slice 3 (Kd.int .i64)) 37 w' w.heap.size (fun _ => True) v660 x3_1) ∧ Aside0 (w'.heap[gb658]? = some (.cells #[.string a0_0, (.slice A0_1 l0_1.length c0_1), (.slice A0_2 l0_2.length c0_2)] 25 (0, 0))) ∧ Aside0 (Below w.heap.size w w'))
 case atStart => exact ⟨(t659), ((l0_1.length : Int)), prs, H', ⟨Nat.le_refl _⟩, ⟨pks HO661.1⟩, ⟨pbk BK658.1⟩, ⟨pbg⟩⟩
 clear H'
 try clear hcz4_0 hcz4_1 hcz4_2 hcz6_0 hcz6_1 hcz6_2 hfz4_0 hfz4_1 hfz4_2 hfz6_0 hfz6_1 hfz6_2
 obtain ⟨x3_1, x4_1, rfl, HA, HK1, HO_3, BK658, HB⟩ := hrel
 obtain _ | k1 := gk
 · exact absurd HA.1 (by simp [petrinetref13_Clusters.l0])
 have H := HA.1
 clear HA
 simp only [petrinetref13_Clusters.l0] at H
 by_cases c7 : x4_1 < (x3_1.length : Int)
 rotate_left
 · rw [if_neg c7] at H
   have c7b0 : decide (x4_1 < (x3_1.length : Int)) = false := decide_eq_false c7
   clear c7
   replace H := bnd H
   obtain ⟨t663, A13, H⟩ := H
   (try dsimp only at H)
   replace H := bnd H
   obtain ⟨t666, A14, H⟩ := H
   (try dsimp only at H)
   obtain rfl := Option.some.inj H
   obtain ⟨Ao15, co15, eo15⟩ := Kd.S_slice HO_3.1
   subst eo15
   go_wp2_with (first | ((with_reducible refine gate_callee (f := 42) rfl ?_); refine goesL_ (some 20) rfl rfl Try.func42 (by kernel_rfl) rfl #[.slice Ao15 x3_1.length co15] rfl pgz ?_; (with_reducible refine (petrinetref13_both.calls k1 _ _ x3_1 t663 _ ?side1 ?side2 A13.1).mono ?_); (case side1 => exact csd ((Kd.S_reads' HO_3.1).2.2)); (case side2 => exact (Kd.S_reads' HO_3.1).2.1); rintro e w16 ⟨v664, rfl, ho0, hb⟩; refine ⟨_, rfl, ?_⟩; have HO665 := am (Kd.S_lower (Kd.S_new' ho0 (Kd.S_lt (pks HO_3.1))) (below_size pbg)); replace HO_3 := am (Kd.S_elder' (pks HO_3.1) (Kd.S_base ho0) hb); replace BK658 := bbh BK658 hb; replace HB := bst hb; (try clear hb); (try clear hb2); (try clear hk); (try clear hi); (try clear ho0); obtain ⟨Ao17, co17, eo17⟩ := Kd.S_slice HO665.1; subst eo17) | ((with_reducible refine gate_callee (f := 66) rfl ?_); refine goesL_ (some 21) rfl rfl Try.func66 (by kernel_rfl) rfl #[.slice Ao17 t663.length co17] rfl pgz ?_; (with_reducible refine (petrinetref07_Components.calls k1 _ _ t663 t666 _ ?side1 ?side2 A14.1).mono ?_); (case side1 => exact csd ((Kd.S_reads' HO665.1).2.2)); (case side2 => exact (Kd.S_reads' HO665.1).2.1); rintro e w18 ⟨v667, rfl, ho0, hb⟩; refine ⟨_, rfl, ?_⟩; have HO668 := am (Kd.R_lower ho0 (below_size pbg)); replace HO_3 := am (Kd.S_elder' (pks HO_3.1) (Kd.R_base ho0) hb); replace HO665 := am (Kd.S_elder' (pks HO665.1) (Kd.R_base ho0) hb); replace BK658 := bbh BK658 hb; replace HB := bst hb; (try clear hb); (try clear hb2); (try clear hk); (try clear hi); (try clear ho0)))
   go_ret
   exact ⟨_, per, by (with_reducible repeat (first | apply Kd.R_alloc | apply Kd.R_drewN | apply Kd.R_drew)); exact HO668.1, pbg⟩
 rw [if_pos c7] at H
 have c7b0 : decide (x4_1 < (x3_1.length : Int)) = true := decide_eq_true c7
 clear c7
 replace H := ifp H
 obtain ⟨c8, H⟩ := H
 have c8b0 := decide_eq_true c8
 clear c8
 obtain ⟨y662, hy662⟩ : ∃ y_ : List (List Int), y_ = (x3_1.set (x4_1 : Int).toNat ([] : List Int)) := ⟨_, rfl⟩
 replace H : (petrinetref13_Clusters.l0 k1 y662 (wrap64 (x4_1 + 1))) = some r := by first | (rw [hy662]; with_reducible exact H) | (have H2_ := (Option.bind_some _ _).symm.trans H; rw [hy662]; with_reducible exact H2_) | (have H2_ := (Option.bind_some _ _).symm.trans H; with_reducible exact H2_) | with_reducible exact H | (rw [hy662]; exact H) | exact H
 have Ny662 := am hy662
 clear hy662
 have H' := am H
 clear H
 obtain ⟨Ao10, co10, eo10⟩ := Kd.S_slice HO_3.1
 subst eo10
 have p9 : 0 ≤ (x4_1 : Int) := dq
 have q9 : (x4_1 : Int) < ((x3_1.length : Int) : Int) := dq
 obtain ⟨go9, co9, eo9, gb9, gl9, cl9, HG9⟩ := Kd.S_form HO_3.1 (by omega)
 (first | cases eo9 | (injection eo9 with ea_ en_ ec_; (first | subst ea_ | (injection ea_ with ea_; subst ea_)); subst ec_; clear en_))
 have GB9 := am gb9
 have GG9 := am HG9
 clear gb9 gl9 HG9
 obtain ⟨_, ce9, hcl9, hM9, hcc9, hfr9, _, _⟩ := Kd.S_elem HO_3.1 [] (x4_1 : Int) p9 q9
 obtain ⟨ve9_0, rfl, ge9_0⟩ := hM9
 have hx9_0 := hcc9 0 _ rfl
 have hf9_0 := hfr9 0
 (try simp only [show ((Kd.slice 3 (Kd.int .i64))).sz = 1 from rfl, Nat.mul_one, Nat.add_zero] at hx9_0)
 (try simp only [show ((Kd.slice 3 (Kd.int .i64))).sz = 1 from rfl, Nat.mul_one, Nat.add_zero] at hf9_0)
 clear hcl9 hcc9 hfr9
 (try clear hM9)
 replace p9 := eq_true p9
 replace q9 := eq_true q9
 have HX11 := am (show Kd.S (Kd.slice 3 (Kd.int .i64)) 37 wr w.heap.size (fun k_ => ((fun _ => True)) k_ ∧ ¬ ((fun _ => False)) k_) (.slice (some ⟨go9, 0, none⟩) x3_1.length co10) x3_1 from (by (with_reducible repeat (first | apply Kd.S_alloc | apply Kd.S_drewN | apply Kd.S_drew)); exact Kd.S_mono HO_3.1 (fun k_ hk => ⟨trivial, fun e_ => e_⟩)))
 obtain ⟨oki11, ce11, hcl11, hM11, hcc11, hfr11, hoki11, hH11⟩ := Kd.S_elem HX11.1 [] (x4_1 : Int) (dq) (by have h_ : (x4_1 : Int) < ((x3_1.length : Int) : Int) := dq; first | exact h_ | (have e_ := (Kd.S_reads' HO_3.1).1; omega) | simpa using h_)
 obtain ⟨ve11_0, rfl, ge11_0⟩ := hM11
 have HP11 := Kd.S_seg hH11 (dq) (by have h_ : (x4_1 : Int) < ((x3_1.length : Int) : Int) := dq; first | exact h_ | (have e_ := (Kd.S_reads' HO_3.1).1; omega) | simpa using h_) (seg := [.slice none 0 0]) (j := 0) (show 1 ≤ 1 from by decide) (x' := ([] : List Int)) (Kd.M_row (Kd.R_nil _ _ _ _ _)) (fun _ hk => hk) (fun k_ hk_ => hk_.elim)
 have hx11_0 := hcc11 0 _ rfl
 (try simp only [show ((Kd.slice 3 (Kd.int .i64))).sz = 1 from rfl, Nat.mul_one, Nat.add_zero] at hx11_0)
 have hf11_0 := hfr11 0
 (try simp only [show ((Kd.slice 3 (Kd.int .i64))).sz = 1 from rfl, Nat.mul_one, Nat.add_zero] at hf11_0)
 clear hcl11 hcc11 hfr11 hoki11 hH11
 (try clear hM11)
 (try simp only [show ((Kd.slice 3 (Kd.int .i64))).sz = 1 from rfl, Nat.mul_one, Nat.add_zero] at HP11)
 go_wp2_with (first | ((with_reducible refine gate_store (t := 37) (p := 18) rfl ?_); refine store_event (t := 37) (p := 18) (v := ?vo_w12) (w1 := (wr.setCell ⟨go9, (x4_1 : Int).toNat, none⟩ (.slice none 0 0))) ?hg ?ho ?hn ?hr ?_; (case ho => rfl); (case hg => rfl); (case hn => rfl); (case hr => first | (go_simp; done) | (go_simp; rfl)); intro w12 hw; have hg : wr.grownBy w12 (some go9) := (by rw [hw]; exact HP11.2); have hp_ : Kd.S (Kd.slice 3 (Kd.int .i64)) 37 w12 w.heap.size (fun _ => True) (.slice (some ⟨go9, 0, none⟩) x3_1.length co10) y662 := (by rw [hw, Ny662.1]; exact HP11.1); clear HP11; replace BK658 := am (blk_grown (g := gb658) (o := .cells #[.string a0_0, .slice A0_1 l0_1.length c0_1, .slice A0_2 l0_2.length c0_2] 25 (0, 0)) (by exact pbk BK658.1) hg (Kd.S_ne HO_3.1 BK658.1 (by decide))); replace HO_3 := am hp_; replace HB := am ((by rw [hw]; exact below_set (HB.1) GB9.1 : Below w.heap.size w w12)); clear hg hw hp_))
 go_roundg k1
 case measure => have := HK1.1; omega
 case rel => exact ⟨(y662), (wrap64 (x4_1 + 1)), prs, H', ⟨by have := HK1.1; omega⟩, ⟨pks HO_3.1⟩, ⟨pbk BK658.1⟩, ⟨pbg⟩⟩

/-! ### petrinetlaw13_NetclassClusters: function 7 -/
def petrinetlaw13_NetclassClusters.f (k : Nat) (a0_0 : ByteArray) (l0_1 : List (S46)) (l0_2 : List (S41)) : Option (Bool) := (petrinetref09_Small.f k a0_0 l0_1 l0_2).bind fun bt670 => (if bt670.2.2.2 = true then ((netclass_Clusters.f k bt670.1 bt670.2.1 bt670.2.2.1).bind fun t680 => ((petrinetref13_Clusters.f k bt670.1 bt670.2.1 bt670.2.2.1).bind fun t683 => ((petrinetref04_Same.f k t680 t683).bind fun t686 => (if t686 = true then ((petrinetlaw13_alive.f k).bind fun t687 => (some t687)) else (none))))) else ((petrinetlaw13_alive.f k).bind fun t679 => (some t679)))
theorem petrinetlaw13_NetclassClusters.mono : ∀ a0 a1 a2 k, LeO (petrinetlaw13_NetclassClusters.f k a0 a1 a2) (petrinetlaw13_NetclassClusters.f (k + 1) a0 a1 a2) := by
 intro a0 a1 a2 k
 unfold petrinetlaw13_NetclassClusters.f
 repeat' first | (with_reducible first | apply netclass_Clusters.mono | apply petrinetlaw13_alive.mono | apply petrinetref04_Same.mono | apply petrinetref09_Small.mono | apply petrinetref13_Clusters.mono | apply LeO.refl | apply LeO.none | refine LeO.ite ?_ ?_ | refine LeO.bind ?_ (fun _ => ?_))
def petrinetlaw13_NetclassClusters.T4 : Bool × List (List Nat × List Nat) := (true, [([], []), ([0], [0]), ([], []), ([2, 1], [2]), ([1, 3, 3], [1, 3]), ([4, 4], [4]), ([5, 5], [5]), ([5, 6], [5, 6]), ([7, 6, 0, 1, 2, 3, 4, 5, 6, 7], [7])])
def petrinetlaw13_NetclassClusters.B4 : List Nat := [0, 1, 0, 7, 15, 31, 63, 127, 255]
theorem petrinetlaw13_NetclassClusters.tab4 : rtab .any (opsOf Try.f7 4) = petrinetlaw13_NetclassClusters.T4 := by kernel_rfl
theorem petrinetlaw13_NetclassClusters.bits4 : waitsOk petrinetlaw13_NetclassClusters.T4.2 petrinetlaw13_NetclassClusters.B4 = true := by kernel_rfl
set_option maxHeartbeats 8000000 in
set_option maxRecDepth 100000 in
theorem petrinetlaw13_NetclassClusters.calls (k : Nat) (a0_0 : ByteArray) (A0_1 : Option Addr) (c0_1 : Nat) (l0_1 : List (S46)) (A0_2 : Option Addr) (c0_2 : Nat) (l0_2 : List (S41)) (r : Bool) (w : World) (hr0_1 : Kd.C k46 w A0_1 l0_1.length l0_1) (hc0_1 : l0_1.length ≤ c0_1) (hr0_2 : Kd.C k41 w A0_2 l0_2.length l0_2) (hc0_2 : l0_2.length ≤ c0_2) (h : petrinetlaw13_NetclassClusters.f k a0_0 l0_1 l0_2 = some r) :
   Calls Try.prog 7 #[.agg #[.string a0_0, .slice A0_1 l0_1.length c0_1, .slice A0_2 l0_2.length c0_2]] w fun e w' => e = .returned (.bool r) ∧ Below w.heap.size w w' := by
 have hu25 := Try.underlying25
 have HR0_1 := am hr0_1
 have HC0_1 := am hc0_1
 clear hr0_1 hc0_1
 have HR0_2 := am hr0_2
 have HC0_2 := am hc0_2
 clear hr0_2 hc0_2
 have HB := am (Below.refl w.heap.size w)
 have H : ((petrinetref09_Small.f k a0_0 l0_1 l0_2).bind fun bt670 => (if bt670.2.2.2 = true then ((netclass_Clusters.f k bt670.1 bt670.2.1 bt670.2.2.1).bind fun t680 => ((petrinetref13_Clusters.f k bt670.1 bt670.2.1 bt670.2.2.1).bind fun t683 => ((petrinetref04_Same.f k t680 t683).bind fun t686 => (if t686 = true then ((petrinetlaw13_alive.f k).bind fun t687 => (some t687)) else (none))))) else ((petrinetlaw13_alive.f k).bind fun t679 => (some t679)))) = some r := h
 clear h
 replace H := bnd H
 obtain ⟨⟨t670, t671, t674, t677⟩, A2, H⟩ := H
 (try dsimp only at H)
 by_cases c3 : t677 = true
 rotate_left
 · replace c3 := Bool.eq_false_iff.mpr c3
   subst c3
   rw [if_neg Bool.false_ne_true] at H
   replace H := bnd H
   obtain ⟨t679, A24, H⟩ := H
   (try dsimp only at H)
   obtain rfl := Option.some.inj H
   go_enter Try.func7, Try.ntmps7
   go_wp2_with (first | ((with_reducible refine gate_dst (N := 1) rfl ?_); refine box_ev (N := 1) (cs := #[.string a0_0, .slice A0_1 l0_1.length c0_1, .slice A0_2 l0_2.length c0_2]) (t := 25) ?_; intro gb669 hg w25 hbox hb; have BK669 := am hbox; have GW669 := gwl hg; have GE669 := GW669; replace HB := bsl hb; clear hb hbox hg; obtain ⟨hcz26_0, hcz26_1, hcz26_2, hfz26_0, hfz26_1, hfz26_2⟩ := cf3 BK669.1) | ((with_reducible refine gate_callee (f := 9) rfl ?_); refine goesL_ (some 7) rfl rfl Try.func9 (by kernel_rfl) rfl #[.agg #[.string a0_0, .slice A0_1 l0_1.length c0_1, .slice A0_2 l0_2.length c0_2]] rfl pgz ?_; (with_reducible refine (petrinetref09_Small.calls k a0_0 (fun k_ => k_ < w.heap.size) _ _ l0_1 (fun k_ => k_ < w.heap.size) _ _ l0_2 t670 t671 t674 false _ ?side1 ?side2 A2.1).mono ?_); (case side1 => exact Kd.V_mk HC0_1.1 (Kd.F_below (Kd.C_F k46_heap HR0_1.1) pbg)); (case side2 => exact Kd.V_mk HC0_2.1 (Kd.F_below (Kd.C_F k41_heap HR0_2.1) pbg)); rintro e w27 ⟨v672, v675, rfl, ho0, ho1, hb⟩; refine ⟨_, rfl, ?_⟩; have HO673 := am (Kd.V_lower (Kd.V_mono (ok' := fun k_ => k_ ≠ gb669) ho0 (fun k_ hk_ => Or.elim hk_ (fun hs_ => Or.elim hs_ (fun hs_ => fun e_ => Nat.not_le.2 hs_ (by rw [e_]; exact GW669.1)) (fun hs_ => fun e_ => Nat.not_le.2 hs_ (by rw [e_]; exact GW669.1))) (fun hn_ => (Kd.freshB (g := gb669) (o := .cells #[.string a0_0, .slice A0_1 l0_1.length c0_1, .slice A0_2 l0_2.length c0_2] 25 (0, 0)) (by exact pbk BK669.1) k_ hn_)))) (below_size pbg)); have HO676 := am (Kd.V_lower (Kd.V_mono (ok' := fun k_ => k_ ≠ gb669) ho1 (fun k_ hk_ => Or.elim hk_ (fun hs_ => Or.elim hs_ (fun hs_ => fun e_ => Nat.not_le.2 hs_ (by rw [e_]; exact GW669.1)) (fun hs_ => fun e_ => Nat.not_le.2 hs_ (by rw [e_]; exact GW669.1))) (fun hn_ => (Kd.freshB (g := gb669) (o := .cells #[.string a0_0, .slice A0_1 l0_1.length c0_1, .slice A0_2 l0_2.length c0_2] 25 (0, 0)) (by exact pbk BK669.1) k_ hn_)))) (below_size pbg)); replace BK669 := bbh BK669 hb; replace HB := bst hb; (try clear hb); (try clear hb2); (try clear hk); (try clear hi); (try clear ho0); (try clear ho1)) | ((with_reducible refine gate_dst (N := 3) rfl ?_); refine box_ev (N := 3) (cs := #[.string (⟨#[]⟩ : ByteArray), .slice none 0 0, .slice none 0 0]) (t := 25) ?_; intro gb678 hg w28 hbox hb; have BK678 := am hbox; have GW678 := gwb hg; have GE678 := GW678; have NB669_678 := nlt hg BK669; have NB678_669 := ngt hg BK669; replace HO673 := vbb HO673 hg hb; replace HO676 := vbb HO676 hg hb; replace BK669 := bbh BK669 hb; replace HB := bst hb; clear hb hbox hg; have hnb29 := NB678_669.1; have hnc29 := NB669_678.1; obtain ⟨hcz30_0, hcz30_1, hcz30_2, hfz30_0, hfz30_1, hfz30_2⟩ := cf3 BK678.1; obtain ⟨Ao31, co31, eo31⟩ := Kd.V_slice HO673.1; subst eo31; obtain ⟨Ao32, co32, eo32⟩ := Kd.V_slice HO676.1; subst eo32) | ((with_reducible refine gate_callee (f := 10) rfl ?_); refine goesL_ (some 12) rfl rfl Try.func10 (by kernel_rfl) rfl #[] rfl pgz ?_; (with_reducible refine (petrinetlaw13_alive.calls k  t679 _ A24.1).mono ?_); rintro e w33 ⟨rfl, hb⟩; refine ⟨_, rfl, ?_⟩; replace HO673 := am (Kd.V_below (by (with_reducible repeat (first | apply Kd.V_alloc | apply Kd.V_drewN | apply Kd.V_drew)); exact (Kd.V_mono (Kd.V_far (p := ⟨gb678, 2, none⟩) (Kd.V_far (p := ⟨gb678, 1, none⟩) (Kd.V_far (p := ⟨gb678, 0, none⟩) (Kd.V_mono HO673.1 (fun k_ hk => (⟨hk, hk.2⟩ : _ ∧ k_ ≠ gb678))) (fun _ hk => hk.2) (.string t670)) (fun _ hk => hk.2) (.slice Ao31 t671.length co31)) (fun _ hk => hk.2) (.slice Ao32 t674.length co32)) (fun _ h_ => h_.1))) hb); replace HO676 := am (Kd.V_below (by (with_reducible repeat (first | apply Kd.V_alloc | apply Kd.V_drewN | apply Kd.V_drew)); exact (Kd.V_mono (Kd.V_far (p := ⟨gb678, 2, none⟩) (Kd.V_far (p := ⟨gb678, 1, none⟩) (Kd.V_far (p := ⟨gb678, 0, none⟩) (Kd.V_mono HO676.1 (fun k_ hk => (⟨hk, hk.2⟩ : _ ∧ k_ ≠ gb678))) (fun _ hk => hk.2) (.string t670)) (fun _ hk => hk.2) (.slice Ao31 t671.length co31)) (fun _ hk => hk.2) (.slice Ao32 t674.length co32)) (fun _ h_ => h_.1))) hb); replace BK669 := am (blk_below (g := gb669) (o := .cells #[.string a0_0, .slice A0_1 l0_1.length c0_1, .slice A0_2 l0_2.length c0_2] 25 (0, 0)) (by (with_reducible repeat (first | refine blk_drewN ?_ _ | refine blk_drew ?_ | refine blk_alloc ?_ _)); refine bf3 ?_ NB669_678.1; exact pbk BK669.1) hb); replace BK678 := am (blk_below (g := gb678) (o := .cells #[.string t670, .slice Ao31 t671.length co31, .slice Ao32 t674.length co32] 25 (0, 0)) (by (with_reducible repeat (first | refine blk_drewN ?_ _ | refine blk_drew ?_ | refine blk_alloc ?_ _)); refine blk_put (cs := #[.string t670, .slice Ao31 t671.length co31, .slice none 0 0]) ?_ 2 _ rfl; (with_reducible repeat (first | refine blk_drewN ?_ _ | refine blk_drew ?_ | refine blk_alloc ?_ _)); refine blk_put (cs := #[.string t670, .slice none 0 0, .slice none 0 0]) ?_ 1 _ rfl; (with_reducible repeat (first | refine blk_drewN ?_ _ | refine blk_drew ?_ | refine blk_alloc ?_ _)); refine blk_put (cs := #[.string (⟨#[]⟩ : ByteArray), .slice none 0 0, .slice none 0 0]) ?_ 0 _ rfl; exact pbk BK678.1) hb); replace HB := bst hb; (try clear hb); (try clear hb2); (try clear hk); (try clear hi)))
   go_ret
   exact ⟨per, pbg⟩
 subst c3
 rw [if_pos rfl] at H
 replace H := bnd H
 obtain ⟨t680, A4, H⟩ := H
 (try dsimp only at H)
 replace H := bnd H
 obtain ⟨t683, A5, H⟩ := H
 (try dsimp only at H)
 replace H := bnd H
 obtain ⟨t686, A6, H⟩ := H
 (try dsimp only at H)
 by_cases c7 : t686 = true
 rotate_left
 · replace c7 := Bool.eq_false_iff.mpr c7
   subst c7
   rw [if_neg Bool.false_ne_true] at H
   exact absurd H (by simp)
 subst c7
 rw [if_pos rfl] at H
 replace H := bnd H
 obtain ⟨t687, A8, H⟩ := H
 (try dsimp only at H)
 obtain rfl := Option.some.inj H
 go_enter Try.func7, Try.ntmps7
 try go_wp2_with (first | ((with_reducible refine gate_dst (N := 1) rfl ?_); refine box_ev (N := 1) (cs := #[.string a0_0, .slice A0_1 l0_1.length c0_1, .slice A0_2 l0_2.length c0_2]) (t := 25) ?_; intro gb669 hg w9 hbox hb; have BK669 := am hbox; have GW669 := gwl hg; have GE669 := GW669; replace HB := bsl hb; clear hb hbox hg; obtain ⟨hcz10_0, hcz10_1, hcz10_2, hfz10_0, hfz10_1, hfz10_2⟩ := cf3 BK669.1) | ((with_reducible refine gate_callee (f := 9) rfl ?_); refine goesL_ (some 7) rfl rfl Try.func9 (by kernel_rfl) rfl #[.agg #[.string a0_0, .slice A0_1 l0_1.length c0_1, .slice A0_2 l0_2.length c0_2]] rfl pgz ?_; (with_reducible refine (petrinetref09_Small.calls k a0_0 (fun k_ => k_ < w.heap.size) _ _ l0_1 (fun k_ => k_ < w.heap.size) _ _ l0_2 t670 t671 t674 true _ ?side1 ?side2 A2.1).mono ?_); (case side1 => exact Kd.V_mk HC0_1.1 (Kd.F_below (Kd.C_F k46_heap HR0_1.1) pbg)); (case side2 => exact Kd.V_mk HC0_2.1 (Kd.F_below (Kd.C_F k41_heap HR0_2.1) pbg)); rintro e w11 ⟨v672, v675, rfl, ho0, ho1, hb⟩; refine ⟨_, rfl, ?_⟩; have HO673 := am (Kd.V_lower (Kd.V_mono (ok' := fun k_ => k_ ≠ gb669) ho0 (fun k_ hk_ => Or.elim hk_ (fun hs_ => Or.elim hs_ (fun hs_ => fun e_ => Nat.not_le.2 hs_ (by rw [e_]; exact GW669.1)) (fun hs_ => fun e_ => Nat.not_le.2 hs_ (by rw [e_]; exact GW669.1))) (fun hn_ => (Kd.freshB (g := gb669) (o := .cells #[.string a0_0, .slice A0_1 l0_1.length c0_1, .slice A0_2 l0_2.length c0_2] 25 (0, 0)) (by exact pbk BK669.1) k_ hn_)))) (below_size pbg)); have HO676 := am (Kd.V_lower (Kd.V_mono (ok' := fun k_ => k_ ≠ gb669) ho1 (fun k_ hk_ => Or.elim hk_ (fun hs_ => Or.elim hs_ (fun hs_ => fun e_ => Nat.not_le.2 hs_ (by rw [e_]; exact GW669.1)) (fun hs_ => fun e_ => Nat.not_le.2 hs_ (by rw [e_]; exact GW669.1))) (fun hn_ => (Kd.freshB (g := gb669) (o := .cells #[.string a0_0, .slice A0_1 l0_1.length c0_1, .slice A0_2 l0_2.length c0_2] 25 (0, 0)) (by exact pbk BK669.1) k_ hn_)))) (below_size pbg)); replace BK669 := bbh BK669 hb; replace HB := bst hb; (try clear hb); (try clear hb2); (try clear hk); (try clear hi); (try clear ho0); (try clear ho1)) | ((with_reducible refine gate_dst (N := 3) rfl ?_); refine box_ev (N := 3) (cs := #[.string (⟨#[]⟩ : ByteArray), .slice none 0 0, .slice none 0 0]) (t := 25) ?_; intro gb678 hg w12 hbox hb; have BK678 := am hbox; have GW678 := gwb hg; have GE678 := GW678; have NB669_678 := nlt hg BK669; have NB678_669 := ngt hg BK669; replace HO673 := vbb HO673 hg hb; replace HO676 := vbb HO676 hg hb; replace BK669 := bbh BK669 hb; replace HB := bst hb; clear hb hbox hg; have hnb13 := NB678_669.1; have hnc13 := NB669_678.1; obtain ⟨hcz14_0, hcz14_1, hcz14_2, hfz14_0, hfz14_1, hfz14_2⟩ := cf3 BK678.1; obtain ⟨Ao15, co15, eo15⟩ := Kd.V_slice HO673.1; subst eo15; obtain ⟨Ao16, co16, eo16⟩ := Kd.V_slice HO676.1; subst eo16))
 have n0_ : Aside0 (Kd.V k46 46 (((w12.setCell ⟨gb678, 0, none⟩ (.string t670)).setCell ⟨gb678, 1, none⟩ (.slice Ao15 t671.length co15)).setCell ⟨gb678, 2, none⟩ (.slice Ao16 t674.length co16)) w.heap.size (fun k_ => k_ ≠ gb669 ∧ k_ ≠ gb678) (.slice Ao15 t671.length co15) t671) := ⟨by (with_reducible repeat (first | apply Kd.V_alloc | apply Kd.V_drewN | apply Kd.V_drew)); exact Kd.V_mono (Kd.V_far (p := ⟨gb678, 2, none⟩) (Kd.V_far (p := ⟨gb678, 1, none⟩) (Kd.V_far (p := ⟨gb678, 0, none⟩) (Kd.V_mono HO673.1 (fun k_ hk => (⟨hk, hk.2⟩ : _ ∧ k_ ≠ gb678))) (fun _ hk => hk.2) (.string t670)) (fun _ hk => hk.2) (.slice Ao15 t671.length co15)) (fun _ hk => hk.2) (.slice Ao16 t674.length co16)) (fun _ hk => ⟨hk.1.1, hk.1.2⟩)⟩
 have n1_ : Aside0 (Kd.V k41 41 (((w12.setCell ⟨gb678, 0, none⟩ (.string t670)).setCell ⟨gb678, 1, none⟩ (.slice Ao15 t671.length co15)).setCell ⟨gb678, 2, none⟩ (.slice Ao16 t674.length co16)) w.heap.size (fun k_ => k_ ≠ gb669 ∧ k_ ≠ gb678) (.slice Ao16 t674.length co16) t674) := ⟨by (with_reducible repeat (first | apply Kd.V_alloc | apply Kd.V_drewN | apply Kd.V_drew)); exact Kd.V_mono (Kd.V_far (p := ⟨gb678, 2, none⟩) (Kd.V_far (p := ⟨gb678, 1, none⟩) (Kd.V_far (p := ⟨gb678, 0, none⟩) (Kd.V_mono HO676.1 (fun k_ hk => (⟨hk, hk.2⟩ : _ ∧ k_ ≠ gb678))) (fun _ hk => hk.2) (.string t670)) (fun _ hk => hk.2) (.slice Ao15 t671.length co15)) (fun _ hk => hk.2) (.slice Ao16 t674.length co16)) (fun _ hk => ⟨hk.1.1, hk.1.2⟩)⟩
 have n2_ : Aside0 ((((w12.setCell ⟨gb678, 0, none⟩ (.string t670)).setCell ⟨gb678, 1, none⟩ (.slice Ao15 t671.length co15)).setCell ⟨gb678, 2, none⟩ (.slice Ao16 t674.length co16)).heap[gb669]? = some (.cells #[.string a0_0, .slice A0_1 l0_1.length c0_1, .slice A0_2 l0_2.length c0_2] 25 (0, 0))) := ⟨by (with_reducible repeat (first | refine blk_drewN ?_ _ | refine blk_drew ?_ | refine blk_alloc ?_ _)); refine bf3 ?_ NB669_678.1; exact pbk BK669.1⟩
 have n3_ : Aside0 ((((w12.setCell ⟨gb678, 0, none⟩ (.string t670)).setCell ⟨gb678, 1, none⟩ (.slice Ao15 t671.length co15)).setCell ⟨gb678, 2, none⟩ (.slice Ao16 t674.length co16)).heap[gb678]? = some (.cells #[.string t670, .slice Ao15 t671.length co15, .slice Ao16 t674.length co16] 25 (0, 0))) := ⟨by (with_reducible repeat (first | refine blk_drewN ?_ _ | refine blk_drew ?_ | refine blk_alloc ?_ _)); refine blk_put (cs := #[.string t670, .slice Ao15 t671.length co15, .slice none 0 0]) ?_ 2 _ rfl; (with_reducible repeat (first | refine blk_drewN ?_ _ | refine blk_drew ?_ | refine blk_alloc ?_ _)); refine blk_put (cs := #[.string t670, .slice none 0 0, .slice none 0 0]) ?_ 1 _ rfl; (with_reducible repeat (first | refine blk_drewN ?_ _ | refine blk_drew ?_ | refine blk_alloc ?_ _)); refine blk_put (cs := #[.string (⟨#[]⟩ : ByteArray), .slice none 0 0, .slice none 0 0]) ?_ 0 _ rfl; exact pbk BK678.1⟩
 have n4_ : Aside0 (Below w.heap.size w (((w12.setCell ⟨gb678, 0, none⟩ (.string t670)).setCell ⟨gb678, 1, none⟩ (.slice Ao15 t671.length co15)).setCell ⟨gb678, 2, none⟩ (.slice Ao16 t674.length co16))) := ⟨pbg⟩
 (try clear HO673)
 (try clear HO676)
 (try clear BK669)
 (try clear BK678)
 (try clear HB)
 generalize (((w12.setCell ⟨gb678, 0, none⟩ (.string t670)).setCell ⟨gb678, 1, none⟩ (.slice Ao15 t671.length co15)).setCell ⟨gb678, 2, none⟩ (.slice Ao16 t674.length co16)) = w17 at n0_ n1_ n2_ n3_ n4_ ⊢
 have HO673 := n0_
 have HO676 := n1_
 have BK669 := n2_
 have BK678 := n3_
 have HB := n4_
 clear n0_ n1_ n2_ n3_ n4_
 replace HO673 := am (Kd.V_drew HO673.1)
 replace HO676 := am (Kd.V_drew HO676.1)
 replace BK669 := am (blk_drew BK669.1)
 replace BK678 := am (blk_drew BK678.1)
 replace HB := am (below_drew1 HB.1)
 refine start_ (n := 9) (S := fun w' => w'.cell? ⟨gb678, 0, none⟩ = some (.string t670) ∧ w'.cell? ⟨gb678, 1, none⟩ = some (.slice Ao15 t671.length co15) ∧ w'.cell? ⟨gb678, 2, none⟩ = some (.slice Ao16 t674.length co16)) (ds := []) #[false, false, false, false, false, false, false, false, false] (by kernel_rfl) rfl rfl ⟨(blk_cell BK678.1 0).trans rfl, (blk_cell BK678.1 1).trans rfl, (blk_cell BK678.1 2).trans rfl⟩ (fun hHeld => ?_); refine with_tabW petrinetlaw13_NetclassClusters.tab4 petrinetlaw13_NetclassClusters.bits4 (fun HT_ HW_ => ?_)
 generalize w17.drew = w18 at HO673 HO676 BK669 BK678 HB hHeld ⊢
 refine take_ (i := 0) (N := some 13) (v := ?_) (a' := ?_) #[true, false, false, false, false, false, false, false, false] rfl rfl (take_ofW HT_.1 HW_.1 (by kernel_rfl)) (fun _ _ _ h => h) (Or.inl ⟨by rfl, ?_⟩) hHeld ?_ ?_
 rotate_left
 · rintro w' ⟨s0, s1, s2⟩
   go_simp
   with_reducible rfl
 rotate_left
 · simp only [Act.put, List.setIfInBounds_toArray, List.set_cons_zero, List.set_cons_succ, i64_w, i32_w]
   rfl
 refine take_ (i := 2) (N := some 15) (v := ?_) (a' := ?_) #[true, false, true, false, false, false, false, false, false] rfl rfl (take_ofW HT_.1 HW_.1 (by kernel_rfl)) (fun _ _ _ h => h) (Or.inl ⟨by rfl, ?_⟩) hHeld ?_ ?_
 rotate_left
 · rintro w' ⟨s0, s1, s2⟩
   go_simp
   with_reducible rfl
 rotate_left
 · simp only [Act.put, List.setIfInBounds_toArray, List.set_cons_zero, List.set_cons_succ, i64_w, i32_w]
   rfl
 refine one_ (i := 1) (N := some 14) #[true, true, true, false, false, false, false, false, false] rfl rfl (one_of HT_.1 (by kernel_rfl)) (by decide) (fun K hK => ?_)
 refine goes_ Try.func32 (by kernel_rfl) rfl #[.agg #[.string t670, .slice Ao15 t671.length co15, .slice Ao16 t674.length co16]] (by rfl) rfl rfl pgz ?_
 with_reducible refine (netclass_Clusters.calls k t670 _ _ t671 _ _ t674 t680 _ ?side1 ?side2 ?side3 ?side4 A4.1).mono ?_
 (case side1 => exact csd ((Kd.V_reads' HO673.1).2.2))
 (case side2 => exact (Kd.V_reads' HO673.1).2.1)
 (case side3 => exact csd ((Kd.V_reads' HO676.1).2.2))
 (case side4 => exact (Kd.V_reads' HO676.1).2.1)
 rintro e w19 ⟨v681, rfl, ho0, hb⟩
 refine ⟨_, rfl, ?_⟩
 have HO682 := am (Kd.R_lower ho0 (below_size pbg))
 replace HO673 := am (Kd.V_elder' (pkv HO673.1) (Kd.R_base ho0) hb)
 replace HO676 := am (Kd.V_elder' (pkv HO676.1) (Kd.R_base ho0) hb)
 replace BK669 := bbh BK669 hb
 replace BK678 := bbh BK678 hb
 replace HB := bst hb
 (try clear hb)
 (try clear hb2)
 (try clear hk)
 (try clear hi)
 (try clear ho0)
 refine hK.out _ _ ⟨(blk_cell BK678.1 0).trans rfl, (blk_cell BK678.1 1).trans rfl, (blk_cell BK678.1 2).trans rfl⟩ (fun hHeld => ?_)
 clear hK K
 refine norm_ (a' := ?_) ?_ ?_
 rotate_left
 · show Act.put _ (some 14) _ = _
   simp only [Act.put, List.setIfInBounds_toArray, List.set_cons_zero, List.set_cons_succ, i64_w, i32_w]
   rfl
 refine one_ (i := 3) (N := some 16) #[true, true, true, true, false, false, false, false, false] rfl rfl (one_of HT_.1 (by kernel_rfl)) (by decide) (fun K hK => ?_)
 refine goes_ Try.func33 (by kernel_rfl) rfl #[.agg #[.string t670, .slice Ao15 t671.length co15, .slice Ao16 t674.length co16]] (by rfl) rfl rfl pgz ?_
 with_reducible refine (petrinetref13_Clusters.calls k t670 _ _ t671 _ _ t674 t683 _ ?side1 ?side2 ?side3 ?side4 A5.1).mono ?_
 (case side1 => exact csd ((Kd.V_reads' HO673.1).2.2))
 (case side2 => exact (Kd.V_reads' HO673.1).2.1)
 (case side3 => exact csd ((Kd.V_reads' HO676.1).2.2))
 (case side4 => exact (Kd.V_reads' HO676.1).2.1)
 rintro e w20 ⟨v684, rfl, ho0, hb⟩
 refine ⟨_, rfl, ?_⟩
 have HO685 := am (Kd.R_lower (Kd.R_new' ho0 (Kd.R_lt (pkr HO682.1))) (below_size pbg))
 replace HO673 := am (Kd.V_elder' (pkv HO673.1) (Kd.R_base ho0) hb)
 replace HO676 := am (Kd.V_elder' (pkv HO676.1) (Kd.R_base ho0) hb)
 replace HO682 := am (Kd.R_elder' (pkr HO682.1) (Kd.R_base ho0) hb)
 replace BK669 := bbh BK669 hb
 replace BK678 := bbh BK678 hb
 replace HB := bst hb
 (try clear hb)
 (try clear hb2)
 (try clear hk)
 (try clear hi)
 (try clear ho0)
 obtain ⟨Ao21, co21, eo21⟩ := Kd.R_slice HO682.1
 (first | subst eo21 | (injection eo21 with f1_ f2_ f3_; have f4_ := f1_.symm; have f5_ := f3_.symm; clear f1_ f2_ f3_; subst f4_; subst f5_))
 obtain ⟨Ao22, co22, eo22⟩ := Kd.R_slice HO685.1
 (first | subst eo22 | (injection eo22 with f1_ f2_ f3_; have f4_ := f1_.symm; have f5_ := f3_.symm; clear f1_ f2_ f3_; subst f4_; subst f5_))
 refine hK.out _ _ ⟨(blk_cell BK678.1 0).trans rfl, (blk_cell BK678.1 1).trans rfl, (blk_cell BK678.1 2).trans rfl⟩ (fun hHeld => ?_)
 clear hK K
 refine norm_ (a' := ?_) ?_ ?_
 rotate_left
 · show Act.put _ (some 16) _ = _
   simp only [Act.put, List.setIfInBounds_toArray, List.set_cons_zero, List.set_cons_succ, i64_w, i32_w]
   rfl
 refine one_ (i := 4) (N := some 17) #[true, true, true, true, true, false, false, false, false] rfl rfl (one_of HT_.1 (by kernel_rfl)) (by decide) (fun K hK => ?_)
 refine goes_ Try.func31 (by kernel_rfl) rfl #[.slice Ao21 t680.length co21, .slice Ao22 t683.length co22] (by rfl) rfl rfl pgz ?_
 with_reducible refine (petrinetref04_Same.calls k _ _ t680 _ _ t683 true _ ?side1 ?side2 ?side3 ?side4 A6.1).mono ?_
 (case side1 => exact csd ((Kd.R_reads' HO682.1).2.2))
 (case side2 => exact (Kd.R_reads' HO682.1).2.1)
 (case side3 => exact csd ((Kd.R_reads' HO685.1).2.2))
 (case side4 => exact (Kd.R_reads' HO685.1).2.1)
 rintro e w' ⟨rfl, ⟨nd, rfl⟩⟩
 refine ⟨_, rfl, ?_⟩
 refine hK.out _ _ ⟨(blk_cell BK678.1 0).trans rfl, (blk_cell BK678.1 1).trans rfl, (blk_cell BK678.1 2).trans rfl⟩ (fun hHeld => ?_)
 clear hK K
 refine norm_ (a' := ?_) ?_ ?_
 rotate_left
 · show Act.put _ (some 17) _ = _
   simp only [Act.put, List.setIfInBounds_toArray, List.set_cons_zero, List.set_cons_succ, i64_w, i32_w]
   rfl
 refine pure_ (i := 5) (N := some 18) (v := ?_) (a' := ?_) #[true, true, true, true, true, true, false, false, false] rfl rfl (any_of HT_.1 (by kernel_rfl)) (fun _ _ _ h => h) (Or.inl ⟨by rfl, ?_⟩) ?_ ?_
 rotate_left
 · intro w'
   go_simp
   with_reducible rfl
 rotate_left
 · simp only [Act.put, List.setIfInBounds_toArray, List.set_cons_zero, List.set_cons_succ, i64_w, i32_w]
   rfl
 refine one_ (i := 6) (N := some 19) #[true, true, true, true, true, true, true, false, false] rfl rfl (one_of HT_.1 (by kernel_rfl)) (by decide) (fun K hK => ?_)
 refine goes_ Try.func10 (by kernel_rfl) rfl #[] (by rfl) rfl rfl pgz ?_
 with_reducible refine (petrinetlaw13_alive.calls k  t687 _ A8.1).mono ?_
 rintro e w23 ⟨rfl, hb⟩
 refine ⟨_, rfl, ?_⟩
 replace HO673 := vbw HO673 hb
 replace HO676 := vbw HO676 hb
 replace HO682 := rbw HO682 hb
 replace HO685 := rbw HO685 hb
 replace BK669 := bbh BK669 hb
 replace BK678 := bbh BK678 hb
 replace HB := bst hb
 (try clear hb)
 (try clear hb2)
 (try clear hk)
 (try clear hi)
 refine hK.out _ _ ⟨(blk_cell BK678.1 0).trans rfl, (blk_cell BK678.1 1).trans rfl, (blk_cell BK678.1 2).trans rfl⟩ (fun hHeld => ?_)
 clear hK K
 refine norm_ (a' := ?_) ?_ ?_
 rotate_left
 · show Act.put _ (some 19) _ = _
   simp only [Act.put, List.setIfInBounds_toArray, List.set_cons_zero, List.set_cons_succ, i64_w, i32_w]
   rfl
 refine pure_ (i := 7) (N := some 20) (v := ?_) (a' := ?_) #[true, true, true, true, true, true, true, true, false] rfl rfl (any_of HT_.1 (by kernel_rfl)) (fun _ _ _ h => h) (Or.inl ⟨by rfl, ?_⟩) ?_ ?_
 rotate_left
 · intro w'
   go_simp
   with_reducible rfl
 rotate_left
 · simp only [Act.put, List.setIfInBounds_toArray, List.set_cons_zero, List.set_cons_succ, i64_w, i32_w]
   rfl
 refine pure_ (i := 8) (N := some 2) (v := ?_) (a' := ?_) #[true, true, true, true, true, true, true, true, true] rfl rfl (any_of HT_.1 (by kernel_rfl)) (fun _ _ _ h => h) (Or.inl ⟨by rfl, ?_⟩) ?_ ?_
 rotate_left
 · intro w'
   go_simp
   with_reducible rfl
 rotate_left
 · simp only [Act.put, List.setIfInBounds_toArray, List.set_cons_zero, List.set_cons_succ, i64_w, i32_w]
   rfl
 refine done_ (done_of HT_.1 (by kernel_rfl)) ?_
 try go_wp2
 go_ret
 exact ⟨per, pbg⟩

end Go.Proofs.Ytplljicodflagaa.P
