-- LAID BY OUR PROGRAM OVER THE PRINT (xprint.py, part.py): Lean checks it.
import Derived.Test.YtplljicodflagaaPx0
import Derived.Test.YtplljicodflagaaPx1
import Derived.Test.YtplljicodflagaaPx2
import Derived.Test.YtplljicodflagaaPx3
import Derived.Test.YtplljicodflagaaPx4
import Derived.Test.YtplljicodflagaaPx5
import Derived.Test.YtplljicodflagaaPx9
import Derived.Test.YtplljicodflagaaPx10
namespace Go.Proofs.Ytplljicodflagaa.P
open Go.RowKit Go.Proofs.YtplljicodflagaaW.PrintWords Go.Proofs.YtplljicodflagaaW.PrintLast Go.Proofs.YtplljicodflagaaW.PrintMore
attribute [local go_sem] max2_int min2_int max_two min_two max_three min_three max_four min_four   -- for this text's walks alone
set_option linter.unusedVariables false
set_option linter.unusedSimpArgs false

/-! ### petrinetref04_Lists: function 11 -/
def petrinetref04_Lists.l0 : Nat → List (List Int) → List (List Int) → Int → Option (Bool)
 | 0, _, _, _ => none
 | k + 1, x0, x1, x5 => if x5 < (x0.length : Int) then (if 0 ≤ x5 then (if x5 < (x1.length : Int) then ((petrinetref04_Same.f k (rd_L11 x0 x5) (rd_L11 x1 x5)).bind fun t323 => (if t323 = true then (petrinetref04_Lists.l0 k x0 x1 (wrap64 (x5 + 1))) else (some false))) else (none)) else (none)) else (some true)
def petrinetref04_Lists.f (k : Nat) (l0 : List (List Int)) (l1 : List (List Int)) : Option (Bool) := if (l0.length : Int) = (l1.length : Int) then (petrinetref04_Lists.l0 k l0 l1 0) else (some false)
theorem petrinetref04_Lists.mono_l : ∀ k, (∀ y0 y1 y2, LeO (petrinetref04_Lists.l0 k y0 y1 y2) (petrinetref04_Lists.l0 (k + 1) y0 y1 y2))
 | 0 => fun _ _ _ r h => by simp [petrinetref04_Lists.l0] at h
 | k + 1 => by
   have ih0 := petrinetref04_Lists.mono_l k
   · intro y0 y1 y2
     unfold petrinetref04_Lists.l0
     repeat' first | (with_reducible first | apply ih0 | apply petrinetref04_Same.mono | apply LeO.refl | apply LeO.none | refine LeO.ite ?_ ?_ | refine LeO.bind ?_ (fun _ => ?_))
theorem petrinetref04_Lists.mono : ∀ a0 a1 k, LeO (petrinetref04_Lists.f k a0 a1) (petrinetref04_Lists.f (k + 1) a0 a1) := by
 intro a0 a1 k
 have ih0 := petrinetref04_Lists.mono_l k
 unfold petrinetref04_Lists.f
 repeat' first | (with_reducible first | apply ih0 | apply petrinetref04_Same.mono | apply LeO.refl | apply LeO.none | refine LeO.ite ?_ ?_ | refine LeO.bind ?_ (fun _ => ?_))
set_option maxHeartbeats 8000000 in
set_option maxRecDepth 100000 in
theorem petrinetref04_Lists.calls (k : Nat) (A0 : Option Addr) (c0 : Nat) (l0 : List (List Int)) (A1 : Option Addr) (c1 : Nat) (l1 : List (List Int)) (r : Bool) (w : World) (hr0 : Kd.C (Kd.slice 3 (Kd.int .i64)) w A0 l0.length l0) (hc0 : l0.length ≤ c0) (hr1 : Kd.C (Kd.slice 3 (Kd.int .i64)) w A1 l1.length l1) (hc1 : l1.length ≤ c1) (h : petrinetref04_Lists.f k l0 l1 = some r) :
   Calls Try.prog 11 #[.slice A0 l0.length c0, .slice A1 l1.length c1] w fun e w' => e = .returned (.bool r) ∧ Drawn0 w w' := by
 have HR0 := am hr0
 have HC0 := am hc0
 clear hr0 hc0
 have HR1 := am hr1
 have HC1 := am hc1
 clear hr1 hc1
 have H : (if (l0.length : Int) = (l1.length : Int) then (petrinetref04_Lists.l0 k l0 l1 0) else (some false)) = some r := h
 clear h
 by_cases c3 : (l0.length : Int) = (l1.length : Int)
 rotate_left
 · rw [if_neg c3] at H
   have c3b0 : ((l0.length : Int) == (l1.length : Int)) = false := beq_eq_false_iff_ne.mpr c3
   have c3b1 : ((l0.length : Int) != (l1.length : Int)) = true := bne_iff_ne.mpr c3
   have c3b2 : (l0.length == l1.length) = false := by first | simpa using c3 | (simp at c3 ⊢; omega)
   obtain rfl := Option.some.inj H
   go_enter Try.func11, Try.ntmps11
   go_wp2
   repeat (go_quiet (fail); try go_wp2)
   go_ret
   exact ⟨prs, pdr⟩
 rw [if_pos c3] at H
 have c3b0 : ((l0.length : Int) == (l1.length : Int)) = true := beq_iff_eq.mpr c3
 have c3b1 : ((l0.length : Int) != (l1.length : Int)) = false := bne_eq_false_iff_eq.mpr c3
 have c3b2 : (l0.length == l1.length) = true := by first | simpa using c3 | (simp at c3 ⊢; omega)
 clear c3
 have H' := am H
 clear H
 go_enter Try.func11, Try.ntmps11
 go_wp2
 repeat (go_quiet (fail); try go_wp2)
 go_loopg [5] k (fun kq v5 w' => ∃ (x5_1 : Int), v5 = .int .i64 x5_1 ∧ Aside0 (petrinetref04_Lists.l0 kq l0 l1 x5_1 = some r) ∧ Aside0 (kq ≤ k) ∧ Drawn0 w w')
 case atStart => exact ⟨(0), prs, H', ⟨Nat.le_refl _⟩, pdr⟩
 clear H'
 try clear c1 c3 c3b0 c3b1 c3b2
 obtain ⟨x5_1, rfl, HA, HK1, ⟨m1, rfl⟩⟩ := hrel
 obtain _ | k1 := gk
 · exact absurd HA.1 (by simp [petrinetref04_Lists.l0])
 have H := HA.1
 clear HA
 simp only [petrinetref04_Lists.l0] at H
 by_cases c4 : x5_1 < (l0.length : Int)
 rotate_left
 · rw [if_neg c4] at H
   have c4b0 : decide (x5_1 < (l0.length : Int)) = false := decide_eq_false c4
   clear c4
   obtain rfl := Option.some.inj H
   go_wp2
   repeat (go_quiet (fail); try go_wp2)
   go_ret
   exact ⟨prs, pdr⟩
 rw [if_pos c4] at H
 have c4b0 : decide (x5_1 < (l0.length : Int)) = true := decide_eq_true c4
 clear c4
 replace H := ifp H
 obtain ⟨c5, H⟩ := H
 have c5b0 := decide_eq_true c5
 clear c5
 replace H := ifp H
 obtain ⟨c6, H⟩ := H
 have c6b0 := decide_eq_true c6
 clear c6
 replace H := bnd H
 obtain ⟨t323, A7, H⟩ := H
 (try dsimp only at H)
 by_cases c8 : t323 = true
 rotate_left
 · replace c8 := Bool.eq_false_iff.mpr c8
   subst c8
   rw [if_neg Bool.false_ne_true] at H
   obtain rfl := Option.some.inj H
   have p321 : 0 ≤ (x5_1 : Int) := dq
   have q321 : x5_1 < (l0.length : Int) := dq
   obtain ⟨ad321, A321_0, c321_0, e321, hx321_0, hl321_0, hi321_0⟩ := at_L11 HR0.1 x5_1 p321 q321
   cases e321
   have HR321_0 := am hi321_0
   have HC321_0 := am hl321_0
   clear hi321_0 hl321_0
   replace p321 := eq_true p321
   replace q321 := eq_true q321
   have p322 : 0 ≤ (x5_1 : Int) := dq
   have q322 : x5_1 < (l1.length : Int) := dq
   obtain ⟨ad322, A322_0, c322_0, e322, hx322_0, hl322_0, hi322_0⟩ := at_L11 HR1.1 x5_1 p322 q322
   cases e322
   have HR322_0 := am hi322_0
   have HC322_0 := am hl322_0
   clear hi322_0 hl322_0
   replace p322 := eq_true p322
   replace q322 := eq_true q322
   iterate 4 (try go_wp2_with (first | (go_at_call 31; (with_reducible refine (petrinetref04_Same.calls k1 _ _ (rd_L11 l0 x5_1) _ _ (rd_L11 l1 x5_1) false _ ?side1 ?side2 ?side3 ?side4 A7.1).mono ?_); (case side1 => exact csd HR321_0.1); (case side2 => exact HC321_0.1); (case side3 => exact csd HR322_0.1); (case side4 => exact HC322_0.1); rintro e w' ⟨rfl, ⟨nd, rfl⟩⟩; (try first | exact ⟨rfl, _, World.drewN_drewN _ _ _⟩ | exact ⟨rfl, _, Eq.trans (World.drewN_drewN _ _ _) (congrArg (World.drewN _) (Nat.add_assoc _ _ _))⟩))); try go_quiet (first | (go_at_call 31; (with_reducible refine (petrinetref04_Same.calls k1 _ _ (rd_L11 l0 x5_1) _ _ (rd_L11 l1 x5_1) false _ ?side1 ?side2 ?side3 ?side4 A7.1).mono ?_); (case side1 => exact csd HR321_0.1); (case side2 => exact HC321_0.1); (case side3 => exact csd HR322_0.1); (case side4 => exact HC322_0.1); rintro e w' ⟨rfl, ⟨nd, rfl⟩⟩; (try first | exact ⟨rfl, _, World.drewN_drewN _ _ _⟩ | exact ⟨rfl, _, Eq.trans (World.drewN_drewN _ _ _) (congrArg (World.drewN _) (Nat.add_assoc _ _ _))⟩))))
   go_ret
   exact ⟨prs, pdr⟩
 subst c8
 rw [if_pos rfl] at H
 have H' := am H
 clear H
 have p321 : 0 ≤ (x5_1 : Int) := dq
 have q321 : x5_1 < (l0.length : Int) := dq
 obtain ⟨ad321, A321_0, c321_0, e321, hx321_0, hl321_0, hi321_0⟩ := at_L11 HR0.1 x5_1 p321 q321
 cases e321
 have HR321_0 := am hi321_0
 have HC321_0 := am hl321_0
 clear hi321_0 hl321_0
 replace p321 := eq_true p321
 replace q321 := eq_true q321
 have p322 : 0 ≤ (x5_1 : Int) := dq
 have q322 : x5_1 < (l1.length : Int) := dq
 obtain ⟨ad322, A322_0, c322_0, e322, hx322_0, hl322_0, hi322_0⟩ := at_L11 HR1.1 x5_1 p322 q322
 cases e322
 have HR322_0 := am hi322_0
 have HC322_0 := am hl322_0
 clear hi322_0 hl322_0
 replace p322 := eq_true p322
 replace q322 := eq_true q322
 iterate 4 (try go_wp2_with (first | (go_at_call 31; (with_reducible refine (petrinetref04_Same.calls k1 _ _ (rd_L11 l0 x5_1) _ _ (rd_L11 l1 x5_1) true _ ?side1 ?side2 ?side3 ?side4 A7.1).mono ?_); (case side1 => exact csd HR321_0.1); (case side2 => exact HC321_0.1); (case side3 => exact csd HR322_0.1); (case side4 => exact HC322_0.1); rintro e w' ⟨rfl, ⟨nd, rfl⟩⟩; (try first | exact ⟨rfl, _, World.drewN_drewN _ _ _⟩ | exact ⟨rfl, _, Eq.trans (World.drewN_drewN _ _ _) (congrArg (World.drewN _) (Nat.add_assoc _ _ _))⟩))); try go_quiet (first | (go_at_call 31; (with_reducible refine (petrinetref04_Same.calls k1 _ _ (rd_L11 l0 x5_1) _ _ (rd_L11 l1 x5_1) true _ ?side1 ?side2 ?side3 ?side4 A7.1).mono ?_); (case side1 => exact csd HR321_0.1); (case side2 => exact HC321_0.1); (case side3 => exact csd HR322_0.1); (case side4 => exact HC322_0.1); rintro e w' ⟨rfl, ⟨nd, rfl⟩⟩; (try first | exact ⟨rfl, _, World.drewN_drewN _ _ _⟩ | exact ⟨rfl, _, Eq.trans (World.drewN_drewN _ _ _) (congrArg (World.drewN _) (Nat.add_assoc _ _ _))⟩))))
 go_roundg k1
 case measure => have := HK1.1; omega
 case rel => exact ⟨(wrap64 (x5_1 + 1)), prs, H', ⟨by have := HK1.1; omega⟩, pdr⟩

/-! ### petrinetlaw13_NetclassFlows: function 3 -/
def petrinetlaw13_NetclassFlows.f (k : Nat) (a0_0 : ByteArray) (l0_1 : List (S46)) (l0_2 : List (S41)) : Option (Bool) := (petrinetref09_Small.f k a0_0 l0_1 l0_2).bind fun bt450 => (if bt450.2.2.2 = true then ((netclass_Flow.f k bt450.1 bt450.2.1 bt450.2.2.1).bind fun t460 => ((petrinetref13_Flow.f k bt450.1 bt450.2.1 bt450.2.2.1).bind fun t463 => ((petrinetref04_Lists.f k t460 t463).bind fun t466 => (if t466 = true then ((netclass_Connected.f k bt450.1 bt450.2.1 bt450.2.2.1).bind fun t467 => ((petrinetref13_Connected.f k bt450.1 bt450.2.1 bt450.2.2.1).bind fun t468 => (if (t467 == t468) = true then ((netclass_Strong.f k bt450.1 bt450.2.1 bt450.2.2.1).bind fun t469 => ((petrinetref13_Strong.f k bt450.1 bt450.2.1 bt450.2.2.1).bind fun t470 => (if (t469 == t470) = true then ((petrinetlaw13_alive.f k).bind fun t471 => (some t471)) else (none)))) else (none)))) else (none))))) else ((petrinetlaw13_alive.f k).bind fun t459 => (some t459)))
theorem petrinetlaw13_NetclassFlows.mono : ∀ a0 a1 a2 k, LeO (petrinetlaw13_NetclassFlows.f k a0 a1 a2) (petrinetlaw13_NetclassFlows.f (k + 1) a0 a1 a2) := by
 intro a0 a1 a2 k
 unfold petrinetlaw13_NetclassFlows.f
 repeat' first | (with_reducible first | apply netclass_Connected.mono | apply netclass_Flow.mono | apply netclass_Strong.mono | apply petrinetlaw13_alive.mono | apply petrinetref04_Lists.mono | apply petrinetref09_Small.mono | apply petrinetref13_Connected.mono | apply petrinetref13_Flow.mono | apply petrinetref13_Strong.mono | apply LeO.refl | apply LeO.none | refine LeO.ite ?_ ?_ | refine LeO.bind ?_ (fun _ => ?_))
def petrinetlaw13_NetclassFlows.T4 : Bool × List (List Nat × List Nat) := (true, [([], []), ([0], [0]), ([], []), ([2, 1], [2]), ([1, 3, 3], [1, 3]), ([4, 4], [4]), ([5], [5]), ([6, 5, 5], [5, 6]), ([5], [5]), ([8, 7, 5], [5, 8]), ([7, 9, 5], [5, 7, 9]), ([5, 10], [5, 10]), ([11, 9], [11]), ([12], [12]), ([13, 12, 12], [12, 13]), ([12], [12]), ([15, 14, 12], [12, 15]), ([14, 16, 12], [12, 14, 16]), ([12, 17], [12, 17]), ([18, 16], [18]), ([19, 19], [19]), ([19, 20], [19, 20]), ([21, 20, 0, 1, 2, 3, 4, 5, 6, 7, 8, 9, 10, 11, 12, 13, 14, 15, 16, 17, 18, 19, 20, 21], [21])])
def petrinetlaw13_NetclassFlows.B4 : List Nat := [0, 1, 0, 7, 15, 31, 63, 127, 63, 511, 1023, 2047, 4095, 8191, 16383, 8191, 65535, 131071, 262143, 524287, 1048575, 2097151, 4194303]
theorem petrinetlaw13_NetclassFlows.tab4 : rtab .any (opsOf Try.f3 4) = petrinetlaw13_NetclassFlows.T4 := by kernel_rfl
theorem petrinetlaw13_NetclassFlows.bits4 : waitsOk petrinetlaw13_NetclassFlows.T4.2 petrinetlaw13_NetclassFlows.B4 = true := by kernel_rfl
set_option maxHeartbeats 8000000 in
set_option maxRecDepth 100000 in
theorem petrinetlaw13_NetclassFlows.calls (k : Nat) (a0_0 : ByteArray) (A0_1 : Option Addr) (c0_1 : Nat) (l0_1 : List (S46)) (A0_2 : Option Addr) (c0_2 : Nat) (l0_2 : List (S41)) (r : Bool) (w : World) (hr0_1 : Kd.C k46 w A0_1 l0_1.length l0_1) (hc0_1 : l0_1.length ≤ c0_1) (hr0_2 : Kd.C k41 w A0_2 l0_2.length l0_2) (hc0_2 : l0_2.length ≤ c0_2) (h : petrinetlaw13_NetclassFlows.f k a0_0 l0_1 l0_2 = some r) :
   Calls Try.prog 3 #[.agg #[.string a0_0, .slice A0_1 l0_1.length c0_1, .slice A0_2 l0_2.length c0_2]] w fun e w' => e = .returned (.bool r) ∧ Below w.heap.size w w' := by
 have hu25 := Try.underlying25
 have HR0_1 := am hr0_1
 have HC0_1 := am hc0_1
 clear hr0_1 hc0_1
 have HR0_2 := am hr0_2
 have HC0_2 := am hc0_2
 clear hr0_2 hc0_2
 have HB := am (Below.refl w.heap.size w)
 have H : ((petrinetref09_Small.f k a0_0 l0_1 l0_2).bind fun bt450 => (if bt450.2.2.2 = true then ((netclass_Flow.f k bt450.1 bt450.2.1 bt450.2.2.1).bind fun t460 => ((petrinetref13_Flow.f k bt450.1 bt450.2.1 bt450.2.2.1).bind fun t463 => ((petrinetref04_Lists.f k t460 t463).bind fun t466 => (if t466 = true then ((netclass_Connected.f k bt450.1 bt450.2.1 bt450.2.2.1).bind fun t467 => ((petrinetref13_Connected.f k bt450.1 bt450.2.1 bt450.2.2.1).bind fun t468 => (if (t467 == t468) = true then ((netclass_Strong.f k bt450.1 bt450.2.1 bt450.2.2.1).bind fun t469 => ((petrinetref13_Strong.f k bt450.1 bt450.2.1 bt450.2.2.1).bind fun t470 => (if (t469 == t470) = true then ((petrinetlaw13_alive.f k).bind fun t471 => (some t471)) else (none)))) else (none)))) else (none))))) else ((petrinetlaw13_alive.f k).bind fun t459 => (some t459)))) = some r := h
 clear h
 replace H := bnd H
 obtain ⟨⟨t450, t451, t454, t457⟩, A2, H⟩ := H
 (try dsimp only at H)
 by_cases c3 : t457 = true
 rotate_left
 · replace c3 := Bool.eq_false_iff.mpr c3
   subst c3
   rw [if_neg Bool.false_ne_true] at H
   replace H := bnd H
   obtain ⟨t459, A34, H⟩ := H
   (try dsimp only at H)
   obtain rfl := Option.some.inj H
   go_enter Try.func3, Try.ntmps3
   go_wp2_with (first | ((with_reducible refine gate_dst (N := 1) rfl ?_); refine box_ev (N := 1) (cs := #[.string a0_0, .slice A0_1 l0_1.length c0_1, .slice A0_2 l0_2.length c0_2]) (t := 25) ?_; intro gb449 hg w35 hbox hb; have BK449 := am hbox; have GW449 := gwl hg; have GE449 := GW449; replace HB := bsl hb; clear hb hbox hg; obtain ⟨hcz36_0, hcz36_1, hcz36_2, hfz36_0, hfz36_1, hfz36_2⟩ := cf3 BK449.1) | ((with_reducible refine gate_callee (f := 9) rfl ?_); refine goesL_ (some 7) rfl rfl Try.func9 (by kernel_rfl) rfl #[.agg #[.string a0_0, .slice A0_1 l0_1.length c0_1, .slice A0_2 l0_2.length c0_2]] rfl pgz ?_; (with_reducible refine (petrinetref09_Small.calls k a0_0 (fun k_ => k_ < w.heap.size) _ _ l0_1 (fun k_ => k_ < w.heap.size) _ _ l0_2 t450 t451 t454 false _ ?side1 ?side2 A2.1).mono ?_); (case side1 => exact Kd.V_mk HC0_1.1 (Kd.F_below (Kd.C_F k46_heap HR0_1.1) pbg)); (case side2 => exact Kd.V_mk HC0_2.1 (Kd.F_below (Kd.C_F k41_heap HR0_2.1) pbg)); rintro e w37 ⟨v452, v455, rfl, ho0, ho1, hb⟩; refine ⟨_, rfl, ?_⟩; have HO453 := am (Kd.V_lower (Kd.V_mono (ok' := fun k_ => k_ ≠ gb449) ho0 (fun k_ hk_ => Or.elim hk_ (fun hs_ => Or.elim hs_ (fun hs_ => fun e_ => Nat.not_le.2 hs_ (by rw [e_]; exact GW449.1)) (fun hs_ => fun e_ => Nat.not_le.2 hs_ (by rw [e_]; exact GW449.1))) (fun hn_ => (Kd.freshB (g := gb449) (o := .cells #[.string a0_0, .slice A0_1 l0_1.length c0_1, .slice A0_2 l0_2.length c0_2] 25 (0, 0)) (by exact pbk BK449.1) k_ hn_)))) (below_size pbg)); have HO456 := am (Kd.V_lower (Kd.V_mono (ok' := fun k_ => k_ ≠ gb449) ho1 (fun k_ hk_ => Or.elim hk_ (fun hs_ => Or.elim hs_ (fun hs_ => fun e_ => Nat.not_le.2 hs_ (by rw [e_]; exact GW449.1)) (fun hs_ => fun e_ => Nat.not_le.2 hs_ (by rw [e_]; exact GW449.1))) (fun hn_ => (Kd.freshB (g := gb449) (o := .cells #[.string a0_0, .slice A0_1 l0_1.length c0_1, .slice A0_2 l0_2.length c0_2] 25 (0, 0)) (by exact pbk BK449.1) k_ hn_)))) (below_size pbg)); replace BK449 := bbh BK449 hb; replace HB := bst hb; (try clear hb); (try clear hb2); (try clear hk); (try clear hi); (try clear ho0); (try clear ho1)) | ((with_reducible refine gate_dst (N := 3) rfl ?_); refine box_ev (N := 3) (cs := #[.string (⟨#[]⟩ : ByteArray), .slice none 0 0, .slice none 0 0]) (t := 25) ?_; intro gb458 hg w38 hbox hb; have BK458 := am hbox; have GW458 := gwb hg; have GE458 := GW458; have NB449_458 := nlt hg BK449; have NB458_449 := ngt hg BK449; replace HO453 := vbb HO453 hg hb; replace HO456 := vbb HO456 hg hb; replace BK449 := bbh BK449 hb; replace HB := bst hb; clear hb hbox hg; have hnb39 := NB458_449.1; have hnc39 := NB449_458.1; obtain ⟨hcz40_0, hcz40_1, hcz40_2, hfz40_0, hfz40_1, hfz40_2⟩ := cf3 BK458.1; obtain ⟨Ao41, co41, eo41⟩ := Kd.V_slice HO453.1; subst eo41; obtain ⟨Ao42, co42, eo42⟩ := Kd.V_slice HO456.1; subst eo42) | ((with_reducible refine gate_callee (f := 10) rfl ?_); refine goesL_ (some 12) rfl rfl Try.func10 (by kernel_rfl) rfl #[] rfl pgz ?_; (with_reducible refine (petrinetlaw13_alive.calls k  t459 _ A34.1).mono ?_); rintro e w43 ⟨rfl, hb⟩; refine ⟨_, rfl, ?_⟩; replace HO453 := am (Kd.V_below (by (with_reducible repeat (first | apply Kd.V_alloc | apply Kd.V_drewN | apply Kd.V_drew)); exact (Kd.V_mono (Kd.V_far (p := ⟨gb458, 2, none⟩) (Kd.V_far (p := ⟨gb458, 1, none⟩) (Kd.V_far (p := ⟨gb458, 0, none⟩) (Kd.V_mono HO453.1 (fun k_ hk => (⟨hk, hk.2⟩ : _ ∧ k_ ≠ gb458))) (fun _ hk => hk.2) (.string t450)) (fun _ hk => hk.2) (.slice Ao41 t451.length co41)) (fun _ hk => hk.2) (.slice Ao42 t454.length co42)) (fun _ h_ => h_.1))) hb); replace HO456 := am (Kd.V_below (by (with_reducible repeat (first | apply Kd.V_alloc | apply Kd.V_drewN | apply Kd.V_drew)); exact (Kd.V_mono (Kd.V_far (p := ⟨gb458, 2, none⟩) (Kd.V_far (p := ⟨gb458, 1, none⟩) (Kd.V_far (p := ⟨gb458, 0, none⟩) (Kd.V_mono HO456.1 (fun k_ hk => (⟨hk, hk.2⟩ : _ ∧ k_ ≠ gb458))) (fun _ hk => hk.2) (.string t450)) (fun _ hk => hk.2) (.slice Ao41 t451.length co41)) (fun _ hk => hk.2) (.slice Ao42 t454.length co42)) (fun _ h_ => h_.1))) hb); replace BK449 := am (blk_below (g := gb449) (o := .cells #[.string a0_0, .slice A0_1 l0_1.length c0_1, .slice A0_2 l0_2.length c0_2] 25 (0, 0)) (by (with_reducible repeat (first | refine blk_drewN ?_ _ | refine blk_drew ?_ | refine blk_alloc ?_ _)); refine bf3 ?_ NB449_458.1; exact pbk BK449.1) hb); replace BK458 := am (blk_below (g := gb458) (o := .cells #[.string t450, .slice Ao41 t451.length co41, .slice Ao42 t454.length co42] 25 (0, 0)) (by (with_reducible repeat (first | refine blk_drewN ?_ _ | refine blk_drew ?_ | refine blk_alloc ?_ _)); refine blk_put (cs := #[.string t450, .slice Ao41 t451.length co41, .slice none 0 0]) ?_ 2 _ rfl; (with_reducible repeat (first | refine blk_drewN ?_ _ | refine blk_drew ?_ | refine blk_alloc ?_ _)); refine blk_put (cs := #[.string t450, .slice none 0 0, .slice none 0 0]) ?_ 1 _ rfl; (with_reducible repeat (first | refine blk_drewN ?_ _ | refine blk_drew ?_ | refine blk_alloc ?_ _)); refine blk_put (cs := #[.string (⟨#[]⟩ : ByteArray), .slice none 0 0, .slice none 0 0]) ?_ 0 _ rfl; exact pbk BK458.1) hb); replace HB := bst hb; (try clear hb); (try clear hb2); (try clear hk); (try clear hi)))
   go_ret
   exact ⟨per, pbg⟩
 subst c3
 rw [if_pos rfl] at H
 replace H := bnd H
 obtain ⟨t460, A4, H⟩ := H
 (try dsimp only at H)
 replace H := bnd H
 obtain ⟨t463, A5, H⟩ := H
 (try dsimp only at H)
 replace H := bnd H
 obtain ⟨t466, A6, H⟩ := H
 (try dsimp only at H)
 by_cases c7 : t466 = true
 rotate_left
 · replace c7 := Bool.eq_false_iff.mpr c7
   subst c7
   rw [if_neg Bool.false_ne_true] at H
   exact absurd H (by simp)
 subst c7
 rw [if_pos rfl] at H
 replace H := bnd H
 obtain ⟨t467, A8, H⟩ := H
 (try dsimp only at H)
 replace H := bnd H
 obtain ⟨t468, A9, H⟩ := H
 (try dsimp only at H)
 replace H := ifp H
 obtain ⟨c10, H⟩ := H
 have c10b0 := c10
 (try (have c10b1 : decide (t467 = t468) = true := by simpa using c10))
 (try (have c10b2 : (t467 == t468) = true := by simpa using c10))
 clear c10
 replace H := bnd H
 obtain ⟨t469, A11, H⟩ := H
 (try dsimp only at H)
 replace H := bnd H
 obtain ⟨t470, A12, H⟩ := H
 (try dsimp only at H)
 replace H := ifp H
 obtain ⟨c13, H⟩ := H
 have c13b0 := c13
 (try (have c13b1 : decide (t469 = t470) = true := by simpa using c13))
 (try (have c13b2 : (t469 == t470) = true := by simpa using c13))
 clear c13
 replace H := bnd H
 obtain ⟨t471, A14, H⟩ := H
 (try dsimp only at H)
 obtain rfl := Option.some.inj H
 go_enter Try.func3, Try.ntmps3
 try go_wp2_with (first | ((with_reducible refine gate_dst (N := 1) rfl ?_); refine box_ev (N := 1) (cs := #[.string a0_0, .slice A0_1 l0_1.length c0_1, .slice A0_2 l0_2.length c0_2]) (t := 25) ?_; intro gb449 hg w15 hbox hb; have BK449 := am hbox; have GW449 := gwl hg; have GE449 := GW449; replace HB := bsl hb; clear hb hbox hg; obtain ⟨hcz16_0, hcz16_1, hcz16_2, hfz16_0, hfz16_1, hfz16_2⟩ := cf3 BK449.1) | ((with_reducible refine gate_callee (f := 9) rfl ?_); refine goesL_ (some 7) rfl rfl Try.func9 (by kernel_rfl) rfl #[.agg #[.string a0_0, .slice A0_1 l0_1.length c0_1, .slice A0_2 l0_2.length c0_2]] rfl pgz ?_; (with_reducible refine (petrinetref09_Small.calls k a0_0 (fun k_ => k_ < w.heap.size) _ _ l0_1 (fun k_ => k_ < w.heap.size) _ _ l0_2 t450 t451 t454 true _ ?side1 ?side2 A2.1).mono ?_); (case side1 => exact Kd.V_mk HC0_1.1 (Kd.F_below (Kd.C_F k46_heap HR0_1.1) pbg)); (case side2 => exact Kd.V_mk HC0_2.1 (Kd.F_below (Kd.C_F k41_heap HR0_2.1) pbg)); rintro e w17 ⟨v452, v455, rfl, ho0, ho1, hb⟩; refine ⟨_, rfl, ?_⟩; have HO453 := am (Kd.V_lower (Kd.V_mono (ok' := fun k_ => k_ ≠ gb449) ho0 (fun k_ hk_ => Or.elim hk_ (fun hs_ => Or.elim hs_ (fun hs_ => fun e_ => Nat.not_le.2 hs_ (by rw [e_]; exact GW449.1)) (fun hs_ => fun e_ => Nat.not_le.2 hs_ (by rw [e_]; exact GW449.1))) (fun hn_ => (Kd.freshB (g := gb449) (o := .cells #[.string a0_0, .slice A0_1 l0_1.length c0_1, .slice A0_2 l0_2.length c0_2] 25 (0, 0)) (by exact pbk BK449.1) k_ hn_)))) (below_size pbg)); have HO456 := am (Kd.V_lower (Kd.V_mono (ok' := fun k_ => k_ ≠ gb449) ho1 (fun k_ hk_ => Or.elim hk_ (fun hs_ => Or.elim hs_ (fun hs_ => fun e_ => Nat.not_le.2 hs_ (by rw [e_]; exact GW449.1)) (fun hs_ => fun e_ => Nat.not_le.2 hs_ (by rw [e_]; exact GW449.1))) (fun hn_ => (Kd.freshB (g := gb449) (o := .cells #[.string a0_0, .slice A0_1 l0_1.length c0_1, .slice A0_2 l0_2.length c0_2] 25 (0, 0)) (by exact pbk BK449.1) k_ hn_)))) (below_size pbg)); replace BK449 := bbh BK449 hb; replace HB := bst hb; (try clear hb); (try clear hb2); (try clear hk); (try clear hi); (try clear ho0); (try clear ho1)) | ((with_reducible refine gate_dst (N := 3) rfl ?_); refine box_ev (N := 3) (cs := #[.string (⟨#[]⟩ : ByteArray), .slice none 0 0, .slice none 0 0]) (t := 25) ?_; intro gb458 hg w18 hbox hb; have BK458 := am hbox; have GW458 := gwb hg; have GE458 := GW458; have NB449_458 := nlt hg BK449; have NB458_449 := ngt hg BK449; replace HO453 := vbb HO453 hg hb; replace HO456 := vbb HO456 hg hb; replace BK449 := bbh BK449 hb; replace HB := bst hb; clear hb hbox hg; have hnb19 := NB458_449.1; have hnc19 := NB449_458.1; obtain ⟨hcz20_0, hcz20_1, hcz20_2, hfz20_0, hfz20_1, hfz20_2⟩ := cf3 BK458.1; obtain ⟨Ao21, co21, eo21⟩ := Kd.V_slice HO453.1; subst eo21; obtain ⟨Ao22, co22, eo22⟩ := Kd.V_slice HO456.1; subst eo22))
 have n0_ : Aside0 (Kd.V k46 46 (((w18.setCell ⟨gb458, 0, none⟩ (.string t450)).setCell ⟨gb458, 1, none⟩ (.slice Ao21 t451.length co21)).setCell ⟨gb458, 2, none⟩ (.slice Ao22 t454.length co22)) w.heap.size (fun k_ => k_ ≠ gb449 ∧ k_ ≠ gb458) (.slice Ao21 t451.length co21) t451) := ⟨by (with_reducible repeat (first | apply Kd.V_alloc | apply Kd.V_drewN | apply Kd.V_drew)); exact Kd.V_mono (Kd.V_far (p := ⟨gb458, 2, none⟩) (Kd.V_far (p := ⟨gb458, 1, none⟩) (Kd.V_far (p := ⟨gb458, 0, none⟩) (Kd.V_mono HO453.1 (fun k_ hk => (⟨hk, hk.2⟩ : _ ∧ k_ ≠ gb458))) (fun _ hk => hk.2) (.string t450)) (fun _ hk => hk.2) (.slice Ao21 t451.length co21)) (fun _ hk => hk.2) (.slice Ao22 t454.length co22)) (fun _ hk => ⟨hk.1.1, hk.1.2⟩)⟩
 have n1_ : Aside0 (Kd.V k41 41 (((w18.setCell ⟨gb458, 0, none⟩ (.string t450)).setCell ⟨gb458, 1, none⟩ (.slice Ao21 t451.length co21)).setCell ⟨gb458, 2, none⟩ (.slice Ao22 t454.length co22)) w.heap.size (fun k_ => k_ ≠ gb449 ∧ k_ ≠ gb458) (.slice Ao22 t454.length co22) t454) := ⟨by (with_reducible repeat (first | apply Kd.V_alloc | apply Kd.V_drewN | apply Kd.V_drew)); exact Kd.V_mono (Kd.V_far (p := ⟨gb458, 2, none⟩) (Kd.V_far (p := ⟨gb458, 1, none⟩) (Kd.V_far (p := ⟨gb458, 0, none⟩) (Kd.V_mono HO456.1 (fun k_ hk => (⟨hk, hk.2⟩ : _ ∧ k_ ≠ gb458))) (fun _ hk => hk.2) (.string t450)) (fun _ hk => hk.2) (.slice Ao21 t451.length co21)) (fun _ hk => hk.2) (.slice Ao22 t454.length co22)) (fun _ hk => ⟨hk.1.1, hk.1.2⟩)⟩
 have n2_ : Aside0 ((((w18.setCell ⟨gb458, 0, none⟩ (.string t450)).setCell ⟨gb458, 1, none⟩ (.slice Ao21 t451.length co21)).setCell ⟨gb458, 2, none⟩ (.slice Ao22 t454.length co22)).heap[gb449]? = some (.cells #[.string a0_0, .slice A0_1 l0_1.length c0_1, .slice A0_2 l0_2.length c0_2] 25 (0, 0))) := ⟨by (with_reducible repeat (first | refine blk_drewN ?_ _ | refine blk_drew ?_ | refine blk_alloc ?_ _)); refine bf3 ?_ NB449_458.1; exact pbk BK449.1⟩
 have n3_ : Aside0 ((((w18.setCell ⟨gb458, 0, none⟩ (.string t450)).setCell ⟨gb458, 1, none⟩ (.slice Ao21 t451.length co21)).setCell ⟨gb458, 2, none⟩ (.slice Ao22 t454.length co22)).heap[gb458]? = some (.cells #[.string t450, .slice Ao21 t451.length co21, .slice Ao22 t454.length co22] 25 (0, 0))) := ⟨by (with_reducible repeat (first | refine blk_drewN ?_ _ | refine blk_drew ?_ | refine blk_alloc ?_ _)); refine blk_put (cs := #[.string t450, .slice Ao21 t451.length co21, .slice none 0 0]) ?_ 2 _ rfl; (with_reducible repeat (first | refine blk_drewN ?_ _ | refine blk_drew ?_ | refine blk_alloc ?_ _)); refine blk_put (cs := #[.string t450, .slice none 0 0, .slice none 0 0]) ?_ 1 _ rfl; (with_reducible repeat (first | refine blk_drewN ?_ _ | refine blk_drew ?_ | refine blk_alloc ?_ _)); refine blk_put (cs := #[.string (⟨#[]⟩ : ByteArray), .slice none 0 0, .slice none 0 0]) ?_ 0 _ rfl; exact pbk BK458.1⟩
 have n4_ : Aside0 (Below w.heap.size w (((w18.setCell ⟨gb458, 0, none⟩ (.string t450)).setCell ⟨gb458, 1, none⟩ (.slice Ao21 t451.length co21)).setCell ⟨gb458, 2, none⟩ (.slice Ao22 t454.length co22))) := ⟨pbg⟩
 (try clear HO453)
 (try clear HO456)
 (try clear BK449)
 (try clear BK458)
 (try clear HB)
 generalize (((w18.setCell ⟨gb458, 0, none⟩ (.string t450)).setCell ⟨gb458, 1, none⟩ (.slice Ao21 t451.length co21)).setCell ⟨gb458, 2, none⟩ (.slice Ao22 t454.length co22)) = w23 at n0_ n1_ n2_ n3_ n4_ ⊢
 have HO453 := n0_
 have HO456 := n1_
 have BK449 := n2_
 have BK458 := n3_
 have HB := n4_
 clear n0_ n1_ n2_ n3_ n4_
 replace HO453 := am (Kd.V_drew HO453.1)
 replace HO456 := am (Kd.V_drew HO456.1)
 replace BK449 := am (blk_drew BK449.1)
 replace BK458 := am (blk_drew BK458.1)
 replace HB := am (below_drew1 HB.1)
 refine start_ (n := 23) (S := fun w' => w'.cell? ⟨gb458, 0, none⟩ = some (.string t450) ∧ w'.cell? ⟨gb458, 1, none⟩ = some (.slice Ao21 t451.length co21) ∧ w'.cell? ⟨gb458, 2, none⟩ = some (.slice Ao22 t454.length co22)) (ds := []) #[false, false, false, false, false, false, false, false, false, false, false, false, false, false, false, false, false, false, false, false, false, false, false] (by kernel_rfl) rfl rfl ⟨(blk_cell BK458.1 0).trans rfl, (blk_cell BK458.1 1).trans rfl, (blk_cell BK458.1 2).trans rfl⟩ (fun hHeld => ?_); refine with_tabW petrinetlaw13_NetclassFlows.tab4 petrinetlaw13_NetclassFlows.bits4 (fun HT_ HW_ => ?_)
 generalize w23.drew = w24 at HO453 HO456 BK449 BK458 HB hHeld ⊢
 refine take_ (i := 0) (N := some 13) (v := ?_) (a' := ?_) #[true, false, false, false, false, false, false, false, false, false, false, false, false, false, false, false, false, false, false, false, false, false, false] rfl rfl (take_ofW HT_.1 HW_.1 (by kernel_rfl)) (fun _ _ _ h => h) (Or.inl ⟨by rfl, ?_⟩) hHeld ?_ ?_
 rotate_left
 · rintro w' ⟨s0, s1, s2⟩
   go_simp
   with_reducible rfl
 rotate_left
 · simp only [Act.put, List.setIfInBounds_toArray, List.set_cons_zero, List.set_cons_succ, i64_w, i32_w]
   rfl
 refine take_ (i := 2) (N := some 15) (v := ?_) (a' := ?_) #[true, false, true, false, false, false, false, false, false, false, false, false, false, false, false, false, false, false, false, false, false, false, false] rfl rfl (take_ofW HT_.1 HW_.1 (by kernel_rfl)) (fun _ _ _ h => h) (Or.inl ⟨by rfl, ?_⟩) hHeld ?_ ?_
 rotate_left
 · rintro w' ⟨s0, s1, s2⟩
   go_simp
   with_reducible rfl
 rotate_left
 · simp only [Act.put, List.setIfInBounds_toArray, List.set_cons_zero, List.set_cons_succ, i64_w, i32_w]
   rfl
 refine one_ (i := 1) (N := some 14) #[true, true, true, false, false, false, false, false, false, false, false, false, false, false, false, false, false, false, false, false, false, false, false] rfl rfl (one_of HT_.1 (by kernel_rfl)) (by decide) (fun K hK => ?_)
 refine goes_ Try.func12 (by kernel_rfl) rfl #[.agg #[.string t450, .slice Ao21 t451.length co21, .slice Ao22 t454.length co22]] (by rfl) rfl rfl pgz ?_
 with_reducible refine (netclass_Flow.calls k t450 _ _ t451 _ _ t454 t460 _ ?side1 ?side2 ?side3 ?side4 A4.1).mono ?_
 (case side1 => exact csd ((Kd.V_reads' HO453.1).2.2))
 (case side2 => exact (Kd.V_reads' HO453.1).2.1)
 (case side3 => exact csd ((Kd.V_reads' HO456.1).2.2))
 (case side4 => exact (Kd.V_reads' HO456.1).2.1)
 rintro e w25 ⟨v461, rfl, ho0, hb⟩
 refine ⟨_, rfl, ?_⟩
 have HO462 := am (Kd.S_lower ho0 (below_size pbg))
 replace HO453 := am (Kd.V_elder' (pkv HO453.1) (Kd.S_base ho0) hb)
 replace HO456 := am (Kd.V_elder' (pkv HO456.1) (Kd.S_base ho0) hb)
 replace BK449 := bbh BK449 hb
 replace BK458 := bbh BK458 hb
 replace HB := bst hb
 (try clear hb)
 (try clear hb2)
 (try clear hk)
 (try clear hi)
 (try clear ho0)
 refine hK.out _ _ ⟨(blk_cell BK458.1 0).trans rfl, (blk_cell BK458.1 1).trans rfl, (blk_cell BK458.1 2).trans rfl⟩ (fun hHeld => ?_)
 clear hK K
 refine norm_ (a' := ?_) ?_ ?_
 rotate_left
 · show Act.put _ (some 14) _ = _
   simp only [Act.put, List.setIfInBounds_toArray, List.set_cons_zero, List.set_cons_succ, i64_w, i32_w]
   rfl
 refine one_ (i := 3) (N := some 16) #[true, true, true, true, false, false, false, false, false, false, false, false, false, false, false, false, false, false, false, false, false, false, false] rfl rfl (one_of HT_.1 (by kernel_rfl)) (by decide) (fun K hK => ?_)
 refine goes_ Try.func13 (by kernel_rfl) rfl #[.agg #[.string t450, .slice Ao21 t451.length co21, .slice Ao22 t454.length co22]] (by rfl) rfl rfl pgz ?_
 with_reducible refine (petrinetref13_Flow.calls k t450 _ _ t451 _ _ t454 t463 _ ?side1 ?side2 ?side3 ?side4 A5.1).mono ?_
 (case side1 => exact csd ((Kd.V_reads' HO453.1).2.2))
 (case side2 => exact (Kd.V_reads' HO453.1).2.1)
 (case side3 => exact csd ((Kd.V_reads' HO456.1).2.2))
 (case side4 => exact (Kd.V_reads' HO456.1).2.1)
 rintro e w26 ⟨v464, rfl, ho0, hb⟩
 refine ⟨_, rfl, ?_⟩
 have HO465 := am (Kd.S_lower (Kd.S_new' ho0 (Kd.S_lt (pks HO462.1))) (below_size pbg))
 replace HO453 := am (Kd.V_elder' (pkv HO453.1) (Kd.S_base ho0) hb)
 replace HO456 := am (Kd.V_elder' (pkv HO456.1) (Kd.S_base ho0) hb)
 replace HO462 := am (Kd.S_elder' (pks HO462.1) (Kd.S_base ho0) hb)
 replace BK449 := bbh BK449 hb
 replace BK458 := bbh BK458 hb
 replace HB := bst hb
 (try clear hb)
 (try clear hb2)
 (try clear hk)
 (try clear hi)
 (try clear ho0)
 obtain ⟨Ao27, co27, eo27⟩ := Kd.S_slice HO462.1
 (first | subst eo27 | (injection eo27 with f1_ f2_ f3_; have f4_ := f1_.symm; have f5_ := f3_.symm; clear f1_ f2_ f3_; subst f4_; subst f5_))
 obtain ⟨Ao28, co28, eo28⟩ := Kd.S_slice HO465.1
 (first | subst eo28 | (injection eo28 with f1_ f2_ f3_; have f4_ := f1_.symm; have f5_ := f3_.symm; clear f1_ f2_ f3_; subst f4_; subst f5_))
 refine hK.out _ _ ⟨(blk_cell BK458.1 0).trans rfl, (blk_cell BK458.1 1).trans rfl, (blk_cell BK458.1 2).trans rfl⟩ (fun hHeld => ?_)
 clear hK K
 refine norm_ (a' := ?_) ?_ ?_
 rotate_left
 · show Act.put _ (some 16) _ = _
   simp only [Act.put, List.setIfInBounds_toArray, List.set_cons_zero, List.set_cons_succ, i64_w, i32_w]
   rfl
 refine one_ (i := 4) (N := some 17) #[true, true, true, true, true, false, false, false, false, false, false, false, false, false, false, false, false, false, false, false, false, false, false] rfl rfl (one_of HT_.1 (by kernel_rfl)) (by decide) (fun K hK => ?_)
 refine goes_ Try.func11 (by kernel_rfl) rfl #[.slice Ao27 t460.length co27, .slice Ao28 t463.length co28] (by rfl) rfl rfl pgz ?_
 with_reducible refine (petrinetref04_Lists.calls k _ _ t460 _ _ t463 true _ ?side1 ?side2 ?side3 ?side4 A6.1).mono ?_
 (case side1 => exact csd ((Kd.S_reads' HO462.1).2.2))
 (case side2 => exact (Kd.S_reads' HO462.1).2.1)
 (case side3 => exact csd ((Kd.S_reads' HO465.1).2.2))
 (case side4 => exact (Kd.S_reads' HO465.1).2.1)
 rintro e w' ⟨rfl, ⟨nd, rfl⟩⟩
 refine ⟨_, rfl, ?_⟩
 refine hK.out _ _ ⟨(blk_cell BK458.1 0).trans rfl, (blk_cell BK458.1 1).trans rfl, (blk_cell BK458.1 2).trans rfl⟩ (fun hHeld => ?_)
 clear hK K
 refine norm_ (a' := ?_) ?_ ?_
 rotate_left
 · show Act.put _ (some 17) _ = _
   simp only [Act.put, List.setIfInBounds_toArray, List.set_cons_zero, List.set_cons_succ, i64_w, i32_w]
   rfl
 refine pure_ (i := 5) (N := some 18) (v := ?_) (a' := ?_) #[true, true, true, true, true, true, false, false, false, false, false, false, false, false, false, false, false, false, false, false, false, false, false] rfl rfl (any_of HT_.1 (by kernel_rfl)) (fun _ _ _ h => h) (Or.inl ⟨by rfl, ?_⟩) ?_ ?_
 rotate_left
 · intro w'
   go_simp
   with_reducible rfl
 rotate_left
 · simp only [Act.put, List.setIfInBounds_toArray, List.set_cons_zero, List.set_cons_succ, i64_w, i32_w]
   rfl
 refine take_ (i := 6) (N := some 19) (v := ?_) (a' := ?_) #[true, true, true, true, true, true, true, false, false, false, false, false, false, false, false, false, false, false, false, false, false, false, false] rfl rfl (take_ofW HT_.1 HW_.1 (by kernel_rfl)) (fun _ _ _ h => h) (Or.inl ⟨by rfl, ?_⟩) hHeld ?_ ?_
 rotate_left
 · rintro w' ⟨s0, s1, s2⟩
   go_simp
   with_reducible rfl
 rotate_left
 · simp only [Act.put, List.setIfInBounds_toArray, List.set_cons_zero, List.set_cons_succ, i64_w, i32_w]
   rfl
 refine take_ (i := 8) (N := some 21) (v := ?_) (a' := ?_) #[true, true, true, true, true, true, true, false, true, false, false, false, false, false, false, false, false, false, false, false, false, false, false] rfl rfl (take_ofW HT_.1 HW_.1 (by kernel_rfl)) (fun _ _ _ h => h) (Or.inl ⟨by rfl, ?_⟩) hHeld ?_ ?_
 rotate_left
 · rintro w' ⟨s0, s1, s2⟩
   go_simp
   with_reducible rfl
 rotate_left
 · simp only [Act.put, List.setIfInBounds_toArray, List.set_cons_zero, List.set_cons_succ, i64_w, i32_w]
   rfl
 refine one_ (i := 7) (N := some 20) #[true, true, true, true, true, true, true, true, true, false, false, false, false, false, false, false, false, false, false, false, false, false, false] rfl rfl (one_of HT_.1 (by kernel_rfl)) (by decide) (fun K hK => ?_)
 refine goes_ Try.func14 (by kernel_rfl) rfl #[.agg #[.string t450, .slice Ao21 t451.length co21, .slice Ao22 t454.length co22]] (by rfl) rfl rfl pgz ?_
 with_reducible refine (netclass_Connected.calls k t450 _ _ t451 _ _ t454 t467 _ ?side1 ?side2 ?side3 ?side4 A8.1).mono ?_
 (case side1 => exact csd ((Kd.V_reads' HO453.1).2.2))
 (case side2 => exact (Kd.V_reads' HO453.1).2.1)
 (case side3 => exact csd ((Kd.V_reads' HO456.1).2.2))
 (case side4 => exact (Kd.V_reads' HO456.1).2.1)
 rintro e w29 ⟨rfl, hb⟩
 refine ⟨_, rfl, ?_⟩
 replace HO453 := vbw HO453 hb
 replace HO456 := vbw HO456 hb
 replace HO462 := sbw HO462 hb
 replace HO465 := sbw HO465 hb
 replace BK449 := bbh BK449 hb
 replace BK458 := bbh BK458 hb
 replace HB := bst hb
 (try clear hb)
 (try clear hb2)
 (try clear hk)
 (try clear hi)
 refine hK.out _ _ ⟨(blk_cell BK458.1 0).trans rfl, (blk_cell BK458.1 1).trans rfl, (blk_cell BK458.1 2).trans rfl⟩ (fun hHeld => ?_)
 clear hK K
 refine norm_ (a' := ?_) ?_ ?_
 rotate_left
 · show Act.put _ (some 20) _ = _
   simp only [Act.put, List.setIfInBounds_toArray, List.set_cons_zero, List.set_cons_succ, i64_w, i32_w]
   rfl
 refine one_ (i := 9) (N := some 22) #[true, true, true, true, true, true, true, true, true, true, false, false, false, false, false, false, false, false, false, false, false, false, false] rfl rfl (one_of HT_.1 (by kernel_rfl)) (by decide) (fun K hK => ?_)
 refine goes_ Try.func15 (by kernel_rfl) rfl #[.agg #[.string t450, .slice Ao21 t451.length co21, .slice Ao22 t454.length co22]] (by rfl) rfl rfl pgz ?_
 with_reducible refine (petrinetref13_Connected.calls k t450 _ _ t451 _ _ t454 t468 _ ?side1 ?side2 ?side3 ?side4 A9.1).mono ?_
 (case side1 => exact csd ((Kd.V_reads' HO453.1).2.2))
 (case side2 => exact (Kd.V_reads' HO453.1).2.1)
 (case side3 => exact csd ((Kd.V_reads' HO456.1).2.2))
 (case side4 => exact (Kd.V_reads' HO456.1).2.1)
 rintro e w30 ⟨rfl, hb⟩
 refine ⟨_, rfl, ?_⟩
 replace HO453 := vbw HO453 hb
 replace HO456 := vbw HO456 hb
 replace HO462 := sbw HO462 hb
 replace HO465 := sbw HO465 hb
 replace BK449 := bbh BK449 hb
 replace BK458 := bbh BK458 hb
 replace HB := bst hb
 (try clear hb)
 (try clear hb2)
 (try clear hk)
 (try clear hi)
 refine hK.out _ _ ⟨(blk_cell BK458.1 0).trans rfl, (blk_cell BK458.1 1).trans rfl, (blk_cell BK458.1 2).trans rfl⟩ (fun hHeld => ?_)
 clear hK K
 refine norm_ (a' := ?_) ?_ ?_
 rotate_left
 · show Act.put _ (some 22) _ = _
   simp only [Act.put, List.setIfInBounds_toArray, List.set_cons_zero, List.set_cons_succ, i64_w, i32_w]
   rfl
 refine pure_ (i := 10) (N := some 23) (v := ?_) (a' := ?_) #[true, true, true, true, true, true, true, true, true, true, true, false, false, false, false, false, false, false, false, false, false, false, false] rfl rfl (any_of HT_.1 (by kernel_rfl)) (fun _ _ _ h => h) (Or.inl ⟨by rfl, ?_⟩) ?_ ?_
 rotate_left
 · intro w'
   go_simp
   with_reducible rfl
 rotate_left
 · simp only [Act.put, List.setIfInBounds_toArray, List.set_cons_zero, List.set_cons_succ, i64_w, i32_w]
   rfl
 refine pure_ (i := 11) (N := some 24) (v := ?_) (a' := ?_) #[true, true, true, true, true, true, true, true, true, true, true, true, false, false, false, false, false, false, false, false, false, false, false] rfl rfl (any_of HT_.1 (by kernel_rfl)) (fun _ _ _ h => h) (Or.inl ⟨by rfl, ?_⟩) ?_ ?_
 rotate_left
 · intro w'
   go_simp
   with_reducible rfl
 rotate_left
 · simp only [Act.put, List.setIfInBounds_toArray, List.set_cons_zero, List.set_cons_succ, i64_w, i32_w]
   rfl
 refine pure_ (i := 12) (N := some 25) (v := ?_) (a' := ?_) #[true, true, true, true, true, true, true, true, true, true, true, true, true, false, false, false, false, false, false, false, false, false, false] rfl rfl (any_of HT_.1 (by kernel_rfl)) (fun _ _ _ h => h) (Or.inl ⟨by rfl, ?_⟩) ?_ ?_
 rotate_left
 · intro w'
   go_simp
   with_reducible rfl
 rotate_left
 · simp only [Act.put, List.setIfInBounds_toArray, List.set_cons_zero, List.set_cons_succ, i64_w, i32_w]
   rfl
 refine take_ (i := 13) (N := some 26) (v := ?_) (a' := ?_) #[true, true, true, true, true, true, true, true, true, true, true, true, true, true, false, false, false, false, false, false, false, false, false] rfl rfl (take_ofW HT_.1 HW_.1 (by kernel_rfl)) (fun _ _ _ h => h) (Or.inl ⟨by rfl, ?_⟩) hHeld ?_ ?_
 rotate_left
 · rintro w' ⟨s0, s1, s2⟩
   go_simp
   with_reducible rfl
 rotate_left
 · simp only [Act.put, List.setIfInBounds_toArray, List.set_cons_zero, List.set_cons_succ, i64_w, i32_w]
   rfl
 refine take_ (i := 15) (N := some 28) (v := ?_) (a' := ?_) #[true, true, true, true, true, true, true, true, true, true, true, true, true, true, false, true, false, false, false, false, false, false, false] rfl rfl (take_ofW HT_.1 HW_.1 (by kernel_rfl)) (fun _ _ _ h => h) (Or.inl ⟨by rfl, ?_⟩) hHeld ?_ ?_
 rotate_left
 · rintro w' ⟨s0, s1, s2⟩
   go_simp
   with_reducible rfl
 rotate_left
 · simp only [Act.put, List.setIfInBounds_toArray, List.set_cons_zero, List.set_cons_succ, i64_w, i32_w]
   rfl
 refine one_ (i := 14) (N := some 27) #[true, true, true, true, true, true, true, true, true, true, true, true, true, true, true, true, false, false, false, false, false, false, false] rfl rfl (one_of HT_.1 (by kernel_rfl)) (by decide) (fun K hK => ?_)
 refine goes_ Try.func16 (by kernel_rfl) rfl #[.agg #[.string t450, .slice Ao21 t451.length co21, .slice Ao22 t454.length co22]] (by rfl) rfl rfl pgz ?_
 with_reducible refine (netclass_Strong.calls k t450 _ _ t451 _ _ t454 t469 _ ?side1 ?side2 ?side3 ?side4 A11.1).mono ?_
 (case side1 => exact csd ((Kd.V_reads' HO453.1).2.2))
 (case side2 => exact (Kd.V_reads' HO453.1).2.1)
 (case side3 => exact csd ((Kd.V_reads' HO456.1).2.2))
 (case side4 => exact (Kd.V_reads' HO456.1).2.1)
 rintro e w31 ⟨rfl, hb⟩
 refine ⟨_, rfl, ?_⟩
 replace HO453 := vbw HO453 hb
 replace HO456 := vbw HO456 hb
 replace HO462 := sbw HO462 hb
 replace HO465 := sbw HO465 hb
 replace BK449 := bbh BK449 hb
 replace BK458 := bbh BK458 hb
 replace HB := bst hb
 (try clear hb)
 (try clear hb2)
 (try clear hk)
 (try clear hi)
 refine hK.out _ _ ⟨(blk_cell BK458.1 0).trans rfl, (blk_cell BK458.1 1).trans rfl, (blk_cell BK458.1 2).trans rfl⟩ (fun hHeld => ?_)
 clear hK K
 refine norm_ (a' := ?_) ?_ ?_
 rotate_left
 · show Act.put _ (some 27) _ = _
   simp only [Act.put, List.setIfInBounds_toArray, List.set_cons_zero, List.set_cons_succ, i64_w, i32_w]
   rfl
 refine one_ (i := 16) (N := some 29) #[true, true, true, true, true, true, true, true, true, true, true, true, true, true, true, true, true, false, false, false, false, false, false] rfl rfl (one_of HT_.1 (by kernel_rfl)) (by decide) (fun K hK => ?_)
 refine goes_ Try.func17 (by kernel_rfl) rfl #[.agg #[.string t450, .slice Ao21 t451.length co21, .slice Ao22 t454.length co22]] (by rfl) rfl rfl pgz ?_
 with_reducible refine (petrinetref13_Strong.calls k t450 _ _ t451 _ _ t454 t470 _ ?side1 ?side2 ?side3 ?side4 A12.1).mono ?_
 (case side1 => exact csd ((Kd.V_reads' HO453.1).2.2))
 (case side2 => exact (Kd.V_reads' HO453.1).2.1)
 (case side3 => exact csd ((Kd.V_reads' HO456.1).2.2))
 (case side4 => exact (Kd.V_reads' HO456.1).2.1)
 rintro e w32 ⟨rfl, hb⟩
 refine ⟨_, rfl, ?_⟩
 replace HO453 := vbw HO453 hb
 replace HO456 := vbw HO456 hb
 replace HO462 := sbw HO462 hb
 replace HO465 := sbw HO465 hb
 replace BK449 := bbh BK449 hb
 replace BK458 := bbh BK458 hb
 replace HB := bst hb
 (try clear hb)
 (try clear hb2)
 (try clear hk)
 (try clear hi)
 refine hK.out _ _ ⟨(blk_cell BK458.1 0).trans rfl, (blk_cell BK458.1 1).trans rfl, (blk_cell BK458.1 2).trans rfl⟩ (fun hHeld => ?_)
 clear hK K
 refine norm_ (a' := ?_) ?_ ?_
 rotate_left
 · show Act.put _ (some 29) _ = _
   simp only [Act.put, List.setIfInBounds_toArray, List.set_cons_zero, List.set_cons_succ, i64_w, i32_w]
   rfl
 refine pure_ (i := 17) (N := some 30) (v := ?_) (a' := ?_) #[true, true, true, true, true, true, true, true, true, true, true, true, true, true, true, true, true, true, false, false, false, false, false] rfl rfl (any_of HT_.1 (by kernel_rfl)) (fun _ _ _ h => h) (Or.inl ⟨by rfl, ?_⟩) ?_ ?_
 rotate_left
 · intro w'
   go_simp
   with_reducible rfl
 rotate_left
 · simp only [Act.put, List.setIfInBounds_toArray, List.set_cons_zero, List.set_cons_succ, i64_w, i32_w]
   rfl
 refine pure_ (i := 18) (N := some 31) (v := ?_) (a' := ?_) #[true, true, true, true, true, true, true, true, true, true, true, true, true, true, true, true, true, true, true, false, false, false, false] rfl rfl (any_of HT_.1 (by kernel_rfl)) (fun _ _ _ h => h) (Or.inl ⟨by rfl, ?_⟩) ?_ ?_
 rotate_left
 · intro w'
   go_simp
   with_reducible rfl
 rotate_left
 · simp only [Act.put, List.setIfInBounds_toArray, List.set_cons_zero, List.set_cons_succ, i64_w, i32_w]
   rfl
 refine pure_ (i := 19) (N := some 32) (v := ?_) (a' := ?_) #[true, true, true, true, true, true, true, true, true, true, true, true, true, true, true, true, true, true, true, true, false, false, false] rfl rfl (any_of HT_.1 (by kernel_rfl)) (fun _ _ _ h => h) (Or.inl ⟨by rfl, ?_⟩) ?_ ?_
 rotate_left
 · intro w'
   go_simp
   with_reducible rfl
 rotate_left
 · simp only [Act.put, List.setIfInBounds_toArray, List.set_cons_zero, List.set_cons_succ, i64_w, i32_w]
   rfl
 refine one_ (i := 20) (N := some 33) #[true, true, true, true, true, true, true, true, true, true, true, true, true, true, true, true, true, true, true, true, true, false, false] rfl rfl (one_of HT_.1 (by kernel_rfl)) (by decide) (fun K hK => ?_)
 refine goes_ Try.func10 (by kernel_rfl) rfl #[] (by rfl) rfl rfl pgz ?_
 with_reducible refine (petrinetlaw13_alive.calls k  t471 _ A14.1).mono ?_
 rintro e w33 ⟨rfl, hb⟩
 refine ⟨_, rfl, ?_⟩
 replace HO453 := vbw HO453 hb
 replace HO456 := vbw HO456 hb
 replace HO462 := sbw HO462 hb
 replace HO465 := sbw HO465 hb
 replace BK449 := bbh BK449 hb
 replace BK458 := bbh BK458 hb
 replace HB := bst hb
 (try clear hb)
 (try clear hb2)
 (try clear hk)
 (try clear hi)
 refine hK.out _ _ ⟨(blk_cell BK458.1 0).trans rfl, (blk_cell BK458.1 1).trans rfl, (blk_cell BK458.1 2).trans rfl⟩ (fun hHeld => ?_)
 clear hK K
 refine norm_ (a' := ?_) ?_ ?_
 rotate_left
 · show Act.put _ (some 33) _ = _
   simp only [Act.put, List.setIfInBounds_toArray, List.set_cons_zero, List.set_cons_succ, i64_w, i32_w]
   rfl
 refine pure_ (i := 21) (N := some 34) (v := ?_) (a' := ?_) #[true, true, true, true, true, true, true, true, true, true, true, true, true, true, true, true, true, true, true, true, true, true, false] rfl rfl (any_of HT_.1 (by kernel_rfl)) (fun _ _ _ h => h) (Or.inl ⟨by rfl, ?_⟩) ?_ ?_
 rotate_left
 · intro w'
   go_simp
   with_reducible rfl
 rotate_left
 · simp only [Act.put, List.setIfInBounds_toArray, List.set_cons_zero, List.set_cons_succ, i64_w, i32_w]
   rfl
 refine pure_ (i := 22) (N := some 2) (v := ?_) (a' := ?_) #[true, true, true, true, true, true, true, true, true, true, true, true, true, true, true, true, true, true, true, true, true, true, true] rfl rfl (any_of HT_.1 (by kernel_rfl)) (fun _ _ _ h => h) (Or.inl ⟨by rfl, ?_⟩) ?_ ?_
 rotate_left
 · intro w'
   go_simp
   with_reducible rfl
 rotate_left
 · simp only [Act.put, List.setIfInBounds_toArray, List.set_cons_zero, List.set_cons_succ, i64_w, i32_w]
   rfl
 refine done_ (done_of HT_.1 (by kernel_rfl)) ?_
 try go_wp2
 go_ret
 exact ⟨per, pbg⟩

end Go.Proofs.Ytplljicodflagaa.P
