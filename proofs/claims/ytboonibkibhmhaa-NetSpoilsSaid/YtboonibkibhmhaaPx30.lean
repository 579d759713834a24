-- LAID BY OUR PROGRAM OVER THE PRINT (xprint.py): Lean checks it.
import Derived.Test.YtboonibkibhmhaaPx0
import Derived.Test.YtboonibkibhmhaaPx1
import Derived.Test.YtboonibkibhmhaaPx4
import Derived.Test.YtboonibkibhmhaaPx7
import Derived.Test.YtboonibkibhmhaaPx14
import Derived.Test.YtboonibkibhmhaaPx16
namespace Go.Proofs.Ytboonibkibhmhaa.P
open Go.RowKit Go.Proofs.YtboonibkibhmhaaW.PrintWords Go.Proofs.YtboonibkibhmhaaW.PrintLast Go.Proofs.YtboonibkibhmhaaW.PrintMore
attribute [local go_sem] max2_int min2_int max_two min_two max_three min_three max_four min_four   -- for this text's walks alone
set_option linter.unusedVariables false
set_option linter.unusedSimpArgs false

attribute [local go_sem high] eqA31
/-! ### petrinetlaw09_NetSpoils: function 9 -/
def petrinetlaw09_NetSpoils.j0 : Nat → Bool → ByteArray → List (S50) → List (S53) → Option (Bool)
  | 0, _, _, _, _ => none
  | k + 1, x37, x565000, x565001, x565002 => if x37 = true then (some true) else (if ([] : List (S50)).length + x565001.length < 4398046511104 then ((some (([] : List (S50)) ++ x565001 : List (S50))).bind fun y566 => (if 0 < (x565001.length : Int) then (if y566.length < 4398046511104 then ((net_Check.f k x565000 (y566 ++ [(⟨(rd_T50 x565001 0).f0, 0, 0⟩ : S50)]) x565002).bind fun bt574 => (if (!(bt574.1 == 6) || (!(bt574.2 == (x565001.length : Int)))) = true then (none) else (if ([] : List (S53)).length + x565002.length < 1466015503701 then ((some (([] : List (S53)) ++ x565002 : List (S53))).bind fun y576 => (if y576.length < 1466015503701 then ((net_Check.f k x565000 x565001 (y576 ++ [(⟨(rd_T50 x565001 0).f0, ([] : List (S64)), ([] : List (S64)), ([] : List (S64)), 0⟩ : S53)])).bind fun bt584 => (if (!(bt584.1 == 6) || (!(bt584.2 == (wrap64 ((x565001.length : Int) + (x565002.length : Int)))))) = true then (none) else ((some (([] : List (S53)) ++ x565002 : List (S53))).bind fun y586 => (if y586.length < 1466015503701 then ((net_Check.f k x565000 x565001 (y586 ++ [(⟨(⟨#[]⟩ : ByteArray), ([] : List (S64)), ([] : List (S64)), ([] : List (S64)), 0⟩ : S53)])).bind fun bt593 => (if (!(bt593.1 == 5) || (!(bt593.2 == (wrap64 ((x565001.length : Int) + (x565002.length : Int)))))) = true then (none) else ((net_Check.f k (⟨#[]⟩ : ByteArray) x565001 x565002).bind fun bt596 => (if (bt596.1 == 5 && (bt596.2 == 0)) = true then ((net_Check.f k x565000 ([] : List (S50)) x565002).bind fun bt598 => (some (bt598.1 == 2 && (bt598.2 == 0)))) else (none))))) else (none))))) else (none))) else (none)))) else (none)) else (none))) else (none))
def petrinetlaw09_NetSpoils.f (k : Nat) (a0_0 : ByteArray) (l0_1 : List (S50)) (l0_2 : List (S53)) : Option (Bool) := (petrinetlaw09_lives.f k).bind fun t555 => (if t555 = true then ((petrinetref09_Small.f k a0_0 l0_1 l0_2).bind fun bt556 => (if bt556.2.2.2 = true then ((petrinetref09_Valid.f k bt556.1 bt556.2.1 bt556.2.2.1).bind fun t565 => (if t565 = true then (if (bt556.2.1.length : Int) ≥ 24 then (petrinetlaw09_NetSpoils.j0 k true bt556.1 bt556.2.1 bt556.2.2.1) else (petrinetlaw09_NetSpoils.j0 k (decide ((bt556.2.2.1.length : Int) ≥ 24)) bt556.1 bt556.2.1 bt556.2.2.1)) else (petrinetlaw09_NetSpoils.j0 k true bt556.1 bt556.2.1 bt556.2.2.1))) else (petrinetlaw09_NetSpoils.j0 k true bt556.1 bt556.2.1 bt556.2.2.1))) else (none))
theorem petrinetlaw09_NetSpoils.mono_l : ∀ k, (∀ y0 y1 y2 y3, LeO (petrinetlaw09_NetSpoils.j0 k y0 y1 y2 y3) (petrinetlaw09_NetSpoils.j0 (k + 1) y0 y1 y2 y3))
  | 0 => fun _ _ _ _ r h => by simp [petrinetlaw09_NetSpoils.j0] at h
  | k + 1 => by
    have ih0 := petrinetlaw09_NetSpoils.mono_l k
    · intro y0 y1 y2 y3
      unfold petrinetlaw09_NetSpoils.j0
      repeat' first | (with_reducible first | exact ih0 _ _ _ _ | exact net_Check.mono _ _ _ _ | exact petrinetlaw09_lives.mono _ | exact petrinetref09_Small.mono _ _ _ _ | exact petrinetref09_Valid.mono _ _ _ _ | exact LeO.refl _ | exact LeO.none _ | refine LeO.ite ?_ ?_ | refine LeO.bind ?_ (fun _ => ?_)) | exact ih0 _ _ _ _ | exact net_Check.mono _ _ _ _ | exact petrinetlaw09_lives.mono _ | exact petrinetref09_Small.mono _ _ _ _ | exact petrinetref09_Valid.mono _ _ _ _ | exact LeO.none _ | refine LeO.ite ?_ ?_ | refine LeO.bind ?_ (fun _ => ?_)
theorem petrinetlaw09_NetSpoils.mono : ∀ a0 a1 a2 k, LeO (petrinetlaw09_NetSpoils.f k a0 a1 a2) (petrinetlaw09_NetSpoils.f (k + 1) a0 a1 a2) := by
  intro a0 a1 a2 k
  have ih0 := petrinetlaw09_NetSpoils.mono_l k
  unfold petrinetlaw09_NetSpoils.f
  repeat' first | (with_reducible first | exact ih0 _ _ _ _ | exact net_Check.mono _ _ _ _ | exact petrinetlaw09_lives.mono _ | exact petrinetref09_Small.mono _ _ _ _ | exact petrinetref09_Valid.mono _ _ _ _ | exact LeO.refl _ | exact LeO.none _ | refine LeO.ite ?_ ?_ | refine LeO.bind ?_ (fun _ => ?_)) | exact ih0 _ _ _ _ | exact net_Check.mono _ _ _ _ | exact petrinetlaw09_lives.mono _ | exact petrinetref09_Small.mono _ _ _ _ | exact petrinetref09_Valid.mono _ _ _ _ | exact LeO.none _ | refine LeO.ite ?_ ?_ | refine LeO.bind ?_ (fun _ => ?_)
def petrinetlaw09_NetSpoils.T16 : Bool × List (List Nat × List Nat) := (true, [([], []), ([0], [0]), ([], []), ([2], [2]), ([3], [3]), ([], []), ([5], [5]), ([6], [6]), ([4, 7], [4, 7]), ([8], [8]), ([1, 9], [1, 9])])
def petrinetlaw09_NetSpoils.B16 : List Nat := [0, 1, 0, 4, 12, 0, 32, 96, 252, 508, 1023]
theorem petrinetlaw09_NetSpoils.tab16 : rtab .any (opsOf Try.f9 16) = petrinetlaw09_NetSpoils.T16 := by kernel_rfl
theorem petrinetlaw09_NetSpoils.bits16 : waitsOk petrinetlaw09_NetSpoils.T16.2 petrinetlaw09_NetSpoils.B16 = true := by kernel_rfl
def petrinetlaw09_NetSpoils.T22 : Bool × List (List Nat × List Nat) := (true, [([], []), ([0], [0]), ([], []), ([2], [2]), ([3], [3]), ([], []), ([5], [5]), ([6], [6]), ([4, 7], [4, 7]), ([8], [8]), ([1, 9], [1, 9])])
def petrinetlaw09_NetSpoils.B22 : List Nat := [0, 1, 0, 4, 12, 0, 32, 96, 252, 508, 1023]
theorem petrinetlaw09_NetSpoils.tab22 : rtab .any (opsOf Try.f9 22) = petrinetlaw09_NetSpoils.T22 := by kernel_rfl
theorem petrinetlaw09_NetSpoils.bits22 : waitsOk petrinetlaw09_NetSpoils.T22.2 petrinetlaw09_NetSpoils.B22 = true := by kernel_rfl
set_option maxHeartbeats 8000000 in
set_option maxRecDepth 100000 in
theorem petrinetlaw09_NetSpoils.calls (k : Nat) (a0_0 : ByteArray) (A0_1 : Option Addr) (c0_1 : Nat) (l0_1 : List (S50)) (A0_2 : Option Addr) (c0_2 : Nat) (l0_2 : List (S53)) (r : Bool) (w : World) (hr0_1 : Kd.C k50 w A0_1 l0_1.length l0_1) (hc0_1 : l0_1.length ≤ c0_1) (hr0_2 : Kd.C k53 w A0_2 l0_2.length l0_2) (hc0_2 : l0_2.length ≤ c0_2) (h : petrinetlaw09_NetSpoils.f k a0_0 l0_1 l0_2 = some r) :
    Calls Try.prog 9 #[.agg #[.string a0_0, .slice A0_1 l0_1.length c0_1, .slice A0_2 l0_2.length c0_2]] w fun e w' => e = .returned (.bool r) ∧ Below w.heap.size w w' := by
  have hu25 := Try.underlying25
  have hu50 := Try.underlying50
  have hu31 := Try.underlying31
  have hu53 := Try.underlying53
  have HR0_1 := Aside0.mk hr0_1
  have HC0_1 := Aside0.mk hc0_1
  clear hr0_1 hc0_1
  have HR0_2 := Aside0.mk hr0_2
  have HC0_2 := Aside0.mk hc0_2
  clear hr0_2 hc0_2
  have HB := Aside0.mk (Below.refl w.heap.size w)
  have H : ((petrinetlaw09_lives.f k).bind fun t555 => (if t555 = true then ((petrinetref09_Small.f k a0_0 l0_1 l0_2).bind fun bt556 => (if bt556.2.2.2 = true then ((petrinetref09_Valid.f k bt556.1 bt556.2.1 bt556.2.2.1).bind fun t565 => (if t565 = true then (if (bt556.2.1.length : Int) ≥ 24 then (petrinetlaw09_NetSpoils.j0 k true bt556.1 bt556.2.1 bt556.2.2.1) else (petrinetlaw09_NetSpoils.j0 k (decide ((bt556.2.2.1.length : Int) ≥ 24)) bt556.1 bt556.2.1 bt556.2.2.1)) else (petrinetlaw09_NetSpoils.j0 k true bt556.1 bt556.2.1 bt556.2.2.1))) else (petrinetlaw09_NetSpoils.j0 k true bt556.1 bt556.2.1 bt556.2.2.1))) else (none))) = some r := h
  clear h
  replace H := Option.bind_eq_some_iff.mp H
  obtain ⟨t555, A20, H⟩ := H
  replace H : (if t555 = true then ((petrinetref09_Small.f k a0_0 l0_1 l0_2).bind fun bt556 => (if bt556.2.2.2 = true then ((petrinetref09_Valid.f k bt556.1 bt556.2.1 bt556.2.2.1).bind fun t565 => (if t565 = true then (if (bt556.2.1.length : Int) ≥ 24 then (petrinetlaw09_NetSpoils.j0 k true bt556.1 bt556.2.1 bt556.2.2.1) else (petrinetlaw09_NetSpoils.j0 k (decide ((bt556.2.2.1.length : Int) ≥ 24)) bt556.1 bt556.2.1 bt556.2.2.1)) else (petrinetlaw09_NetSpoils.j0 k true bt556.1 bt556.2.1 bt556.2.2.1))) else (petrinetlaw09_NetSpoils.j0 k true bt556.1 bt556.2.1 bt556.2.2.1))) else (none)) = some r := H
  have A2 := Aside0.mk A20
  clear A20
  by_cases c3 : t555 = true
  rotate_left
  · replace c3 := Bool.eq_false_iff.mpr c3
    subst c3
    have H1 : (none) = some r := by rw [if_neg (show ¬ (false = true) by decide)] at H; exact H
    clear H
    have H := H1
    clear H1
    exact absurd H (by simp)
  subst c3
  have H1 : ((petrinetref09_Small.f k a0_0 l0_1 l0_2).bind fun bt556 => (if bt556.2.2.2 = true then ((petrinetref09_Valid.f k bt556.1 bt556.2.1 bt556.2.2.1).bind fun t565 => (if t565 = true then (if (bt556.2.1.length : Int) ≥ 24 then (petrinetlaw09_NetSpoils.j0 k true bt556.1 bt556.2.1 bt556.2.2.1) else (petrinetlaw09_NetSpoils.j0 k (decide ((bt556.2.2.1.length : Int) ≥ 24)) bt556.1 bt556.2.1 bt556.2.2.1)) else (petrinetlaw09_NetSpoils.j0 k true bt556.1 bt556.2.1 bt556.2.2.1))) else (petrinetlaw09_NetSpoils.j0 k true bt556.1 bt556.2.1 bt556.2.2.1))) = some r := by rw [if_pos rfl] at H; exact H
  clear H
  have H := H1
  clear H1
  replace H := Option.bind_eq_some_iff.mp H
  obtain ⟨⟨t556, t557, t560, t563⟩, A40, H⟩ := H
  replace H : (if t563 = true then ((petrinetref09_Valid.f k t556 t557 t560).bind fun t565 => (if t565 = true then (if (t557.length : Int) ≥ 24 then (petrinetlaw09_NetSpoils.j0 k true t556 t557 t560) else (petrinetlaw09_NetSpoils.j0 k (decide ((t560.length : Int) ≥ 24)) t556 t557 t560)) else (petrinetlaw09_NetSpoils.j0 k true t556 t557 t560))) else (petrinetlaw09_NetSpoils.j0 k true t556 t557 t560)) = some r := H
  have A4 := Aside0.mk A40
  clear A40
  have HC5 := Aside0.mk H
  clear H
  go_enter Try.func9, Try.ntmps9
  go_upto_region 4 with (first | ((with_reducible refine gate_dst (N := 1) rfl ?_); (try (refine gate_guard (by rfl) ?_; dsimp only)); refine box_event ?hg (N := 1) ?hd (cs := #[.string a0_0, .slice A0_1 l0_1.length c0_1, .slice A0_2 l0_2.length c0_2]) (t := 25) ?hr ?_; (case hd => rfl); (case hg => rfl); (case hr => first | (go_simp; done) | (go_simp; rfl)); intro gb554 hg w6 hbox hb; have n0_ := Aside0.mk (below_step pbl hb); have n1_ := Aside0.mk (hbox); have n2_ := Aside0.mk ((by rw [hg]; exact (below_size pbl) : w.heap.size ≤ gb554)); have n3_ := n2_; clear HB; have HB := n0_; have BK554 := n1_; have GW554 := n2_; have GE554 := n3_; clear n0_ n1_ n2_ n3_; clear hb hbox hg) | ((with_reducible refine gate_callee (f := 12) rfl ?_); refine goesL_ (some 12) rfl rfl Try.func12 (by kernel_rfl) rfl #[] rfl pgz ?_; (with_reducible refine (petrinetlaw09_lives.calls k  true _ A2.out).mono ?_); rintro e w7 ⟨rfl, hb⟩; refine ⟨_, rfl, ?_⟩; have n0_ := Aside0.mk (blk_below (by (with_reducible repeat (first | refine blk_drewN ?_ _ | refine blk_drew ?_ | refine blk_alloc ?_ _)); exact BK554.out) hb); have n1_ := Aside0.mk (below_step (by repeat (first | (with_reducible first | exact HB.out | apply below_alloc | apply pw_below_drewN | apply below_drew1 | refine below_set ?_ GE554.out) | exact HB.out)) hb); clear BK554; clear HB; have BK554 := n0_; have HB := n1_; clear n0_ n1_; (try clear hb); (try clear hb2); (try clear hk); (try clear hi); obtain ⟨hcz8_0, hcz8_1, hcz8_2, hfz8_0, hfz8_1, hfz8_2⟩ := cf3 BK554.out) | ((with_reducible refine gate_callee (f := 11) rfl ?_); refine goesL_ (some 16) rfl rfl Try.func11 (by kernel_rfl) rfl #[.agg #[.string a0_0, .slice A0_1 l0_1.length c0_1, .slice A0_2 l0_2.length c0_2]] rfl pgz ?_; (with_reducible refine (petrinetref09_Small.calls k a0_0 (fun k_ => k_ < w.heap.size) _ _ l0_1 (fun k_ => k_ < w.heap.size) _ _ l0_2 t556 t557 t560 t563 _ ?side1 ?side2 A4.out).mono ?_); (case side1 => exact Kd.V_mk HC0_1.out (Kd.F_below (Kd.C_F k50_heap HR0_1.out) (by repeat (first | (with_reducible first | exact HB.out | apply below_alloc | apply pw_below_drewN | apply below_drew1 | refine below_set ?_ GE554.out) | exact HB.out)))); (case side2 => exact Kd.V_mk HC0_2.out (Kd.F_below (Kd.C_F k53_heap HR0_2.out) (by repeat (first | (with_reducible first | exact HB.out | apply below_alloc | apply pw_below_drewN | apply below_drew1 | refine below_set ?_ GE554.out) | exact HB.out)))); rintro e w9 ⟨v558, v561, rfl, ho0, ho1, hb⟩; refine ⟨_, rfl, ?_⟩; have n0_ := Aside0.mk (Kd.V_lower (Kd.V_mono (ok' := fun k_ => k_ ≠ gb554) ho0 (fun k_ hk_ => Or.elim hk_ (fun hs_ => Or.elim hs_ (fun hs_ => fun e_ => Nat.not_le.2 hs_ (by rw [e_]; exact GW554.out)) (fun hs_ => fun e_ => Nat.not_le.2 hs_ (by rw [e_]; exact GW554.out))) (fun hn_ => (Kd.freshB (g := gb554) (o := .cells #[.string a0_0, .slice A0_1 l0_1.length c0_1, .slice A0_2 l0_2.length c0_2] 25 (0, 0)) (by (with_reducible repeat (first | refine blk_drewN ?_ _ | refine blk_drew ?_ | refine blk_alloc ?_ _)); exact BK554.out) k_ hn_)))) (below_size (by repeat (first | (with_reducible first | exact HB.out | apply below_alloc | apply pw_below_drewN | apply below_drew1 | refine below_set ?_ GE554.out) | exact HB.out)))); have n1_ := Aside0.mk (Kd.V_lower (Kd.V_mono (ok' := fun k_ => k_ ≠ gb554) ho1 (fun k_ hk_ => Or.elim hk_ (fun hs_ => Or.elim hs_ (fun hs_ => fun e_ => Nat.not_le.2 hs_ (by rw [e_]; exact GW554.out)) (fun hs_ => fun e_ => Nat.not_le.2 hs_ (by rw [e_]; exact GW554.out))) (fun hn_ => (Kd.freshB (g := gb554) (o := .cells #[.string a0_0, .slice A0_1 l0_1.length c0_1, .slice A0_2 l0_2.length c0_2] 25 (0, 0)) (by (with_reducible repeat (first | refine blk_drewN ?_ _ | refine blk_drew ?_ | refine blk_alloc ?_ _)); exact BK554.out) k_ hn_)))) (below_size (by repeat (first | (with_reducible first | exact HB.out | apply below_alloc | apply pw_below_drewN | apply below_drew1 | refine below_set ?_ GE554.out) | exact HB.out)))); have n2_ := Aside0.mk (blk_below (by (with_reducible repeat (first | refine blk_drewN ?_ _ | refine blk_drew ?_ | refine blk_alloc ?_ _)); exact BK554.out) hb); have n3_ := Aside0.mk (below_step (by repeat (first | (with_reducible first | exact HB.out | apply below_alloc | apply pw_below_drewN | apply below_drew1 | refine below_set ?_ GE554.out) | exact HB.out)) hb); clear BK554; clear HB; have HO559 := n0_; have HO562 := n1_; have BK554 := n2_; have HB := n3_; clear n0_ n1_ n2_ n3_; (try clear hb); (try clear hb2); (try clear hk); (try clear hi); (try clear ho0); (try clear ho1)) | ((with_reducible refine gate_dst (N := 3) rfl ?_); (try (refine gate_guard (by rfl) ?_; dsimp only)); refine box_event ?hg (N := 3) ?hd (cs := #[.string (⟨#[]⟩ : ByteArray), .slice none 0 0, .slice none 0 0]) (t := 25) ?hr ?_; (case hd => rfl); (case hg => rfl); (case hr => first | (go_simp; done) | (go_simp; rfl)); intro gb564 hg w10 hbox hb; have n0_ := Aside0.mk (Kd.V_below (Kd.V_elderB (by (with_reducible repeat (first | apply Kd.V_alloc | apply Kd.V_drewN | apply Kd.V_drew)); exact HO559.out) gb564 (Nat.le_of_eq hg.symm)) hb); have n1_ := Aside0.mk (Kd.V_below (Kd.V_elderB (by (with_reducible repeat (first | apply Kd.V_alloc | apply Kd.V_drewN | apply Kd.V_drew)); exact HO562.out) gb564 (Nat.le_of_eq hg.symm)) hb); have n2_ := Aside0.mk (blk_below (by (with_reducible repeat (first | refine blk_drewN ?_ _ | refine blk_drew ?_ | refine blk_alloc ?_ _)); exact BK554.out) hb); have n3_ := Aside0.mk (below_step (by repeat (first | (with_reducible first | exact HB.out | apply below_alloc | apply pw_below_drewN | apply below_drew1 | refine below_set ?_ GE554.out) | exact HB.out)) hb); have n4_ := Aside0.mk (hbox); have n5_ := Aside0.mk ((by rw [hg]; exact (below_size (by repeat (first | (with_reducible first | exact HB.out | apply below_alloc | apply pw_below_drewN | apply below_drew1 | refine below_set ?_ GE554.out) | exact HB.out))) : w.heap.size ≤ gb564)); have n6_ := n5_; have n7_ := Aside0.mk ((by rw [hg]; exact Nat.ne_of_lt (blk_lt (by (with_reducible repeat (first | refine blk_drewN ?_ _ | refine blk_drew ?_ | refine blk_alloc ?_ _)); exact BK554.out)) : gb554 ≠ gb564)); have n8_ := Aside0.mk ((by rw [hg]; exact Nat.ne_of_gt (blk_lt (by (with_reducible repeat (first | refine blk_drewN ?_ _ | refine blk_drew ?_ | refine blk_alloc ?_ _)); exact BK554.out)) : gb564 ≠ gb554)); clear HO559; clear HO562; clear BK554; clear HB; have HO559 := n0_; have HO562 := n1_; have BK554 := n2_; have HB := n3_; have BK564 := n4_; have GW564 := n5_; have GE564 := n6_; have NB554_564 := n7_; have NB564_554 := n8_; clear n0_ n1_ n2_ n3_ n4_ n5_ n6_ n7_ n8_; clear hb hbox hg; have hnb11 := NB564_554.out; have hnc11 := NB554_564.out; obtain ⟨hcz12_0, hcz12_1, hcz12_2, hfz12_0, hfz12_1, hfz12_2⟩ := cf3 BK564.out; obtain ⟨Ao13, co13, eo13⟩ := Kd.V_slice HO559.out; subst eo13; obtain ⟨Ao14, co14, eo14⟩ := Kd.V_slice HO562.out; subst eo14))
  (try simp only [Act.put, List.setIfInBounds_toArray, List.set_cons_zero, List.set_cons_succ])
  go_cut [37] (fun v37 wc => ∃ (kq : Nat) (x37_4 : Bool), v37 = .bool x37_4 ∧ Aside0 (petrinetlaw09_NetSpoils.j0 kq x37_4 t556 t557 t560 = some r) ∧ Aside0 (kq ≤ k) ∧ Aside0 (Kd.V k50 50 wc w.heap.size (fun k_ => k_ ≠ gb554 ∧ k_ ≠ gb564) (.slice Ao13 t557.length co13) t557) ∧ Aside0 (Kd.V k53 53 wc w.heap.size (fun k_ => k_ ≠ gb554 ∧ k_ ≠ gb564) (.slice Ao14 t560.length co14) t560) ∧ Aside0 (wc.heap[gb554]? = some (.cells #[.string a0_0, (.slice A0_1 l0_1.length c0_1), (.slice A0_2 l0_2.length c0_2)] 25 (0, 0))) ∧ Aside0 (wc.heap[gb564]? = some (.cells #[.string t556, (.slice Ao13 t557.length co13), (.slice Ao14 t560.length co14)] 25 (0, 0))) ∧ Aside0 (Below w.heap.size w wc))
  case first =>
    have H := HC5.out
    clear HC5
    by_cases c15 : t563 = true
    rotate_left
    · replace c15 := Bool.eq_false_iff.mpr c15
      subst c15
      have H1 : (petrinetlaw09_NetSpoils.j0 k true t556 t557 t560) = some r := by rw [if_neg (show ¬ (false = true) by decide)] at H; exact H
      clear H
      have H := H1
      clear H1
      have H' := Aside0.mk H
      clear H
      go_wp2
      go_meet
      case rel => exact ⟨_, (true), prs, H', ⟨by first | omega | exact Nat.le_refl _⟩, ⟨by (with_reducible repeat (first | apply Kd.V_alloc | apply Kd.V_drewN | apply Kd.V_drew)); exact Kd.V_mono (Kd.V_far (p := ⟨gb564, 2, none⟩) (Kd.V_far (p := ⟨gb564, 1, none⟩) (Kd.V_far (p := ⟨gb564, 0, none⟩) (Kd.V_mono HO559.out (fun k_ hk => (⟨hk, hk.2⟩ : _ ∧ k_ ≠ gb564))) (fun _ hk => hk.2) (.string t556)) (fun _ hk => hk.2) (.slice Ao13 t557.length co13)) (fun _ hk => hk.2) (.slice Ao14 t560.length co14)) (fun _ hk => ⟨hk.1.1, hk.1.2⟩)⟩, ⟨by (with_reducible repeat (first | apply Kd.V_alloc | apply Kd.V_drewN | apply Kd.V_drew)); exact Kd.V_mono (Kd.V_far (p := ⟨gb564, 2, none⟩) (Kd.V_far (p := ⟨gb564, 1, none⟩) (Kd.V_far (p := ⟨gb564, 0, none⟩) (Kd.V_mono HO562.out (fun k_ hk => (⟨hk, hk.2⟩ : _ ∧ k_ ≠ gb564))) (fun _ hk => hk.2) (.string t556)) (fun _ hk => hk.2) (.slice Ao13 t557.length co13)) (fun _ hk => hk.2) (.slice Ao14 t560.length co14)) (fun _ hk => ⟨hk.1.1, hk.1.2⟩)⟩, ⟨by (with_reducible repeat (first | refine blk_drewN ?_ _ | refine blk_drew ?_ | refine blk_alloc ?_ _)); refine blk_far ?_ NB554_564.out _; (with_reducible repeat (first | refine blk_drewN ?_ _ | refine blk_drew ?_ | refine blk_alloc ?_ _)); refine blk_far ?_ NB554_564.out _; (with_reducible repeat (first | refine blk_drewN ?_ _ | refine blk_drew ?_ | refine blk_alloc ?_ _)); refine blk_far ?_ NB554_564.out _; (with_reducible repeat (first | refine blk_drewN ?_ _ | refine blk_drew ?_ | refine blk_alloc ?_ _)); exact BK554.out⟩, ⟨by (with_reducible repeat (first | refine blk_drewN ?_ _ | refine blk_drew ?_ | refine blk_alloc ?_ _)); refine blk_put (cs := #[.string t556, .slice Ao13 t557.length co13, .slice none 0 0]) ?_ 2 _ rfl; (with_reducible repeat (first | refine blk_drewN ?_ _ | refine blk_drew ?_ | refine blk_alloc ?_ _)); refine blk_put (cs := #[.string t556, .slice none 0 0, .slice none 0 0]) ?_ 1 _ rfl; (with_reducible repeat (first | refine blk_drewN ?_ _ | refine blk_drew ?_ | refine blk_alloc ?_ _)); refine blk_put (cs := #[.string (⟨#[]⟩ : ByteArray), .slice none 0 0, .slice none 0 0]) ?_ 0 _ rfl; (with_reducible repeat (first | refine blk_drewN ?_ _ | refine blk_drew ?_ | refine blk_alloc ?_ _)); exact BK564.out⟩, ⟨by repeat (first | (with_reducible first | exact HB.out | apply below_alloc | apply pw_below_drewN | apply below_drew1 | refine below_set ?_ GE554.out | refine below_set ?_ GE564.out) | exact HB.out)⟩⟩
    subst c15
    have H1 : ((petrinetref09_Valid.f k t556 t557 t560).bind fun t565 => (if t565 = true then (if (t557.length : Int) ≥ 24 then (petrinetlaw09_NetSpoils.j0 k true t556 t557 t560) else (petrinetlaw09_NetSpoils.j0 k (decide ((t560.length : Int) ≥ 24)) t556 t557 t560)) else (petrinetlaw09_NetSpoils.j0 k true t556 t557 t560))) = some r := by rw [if_pos rfl] at H; exact H
    clear H
    have H := H1
    clear H1
    replace H := Option.bind_eq_some_iff.mp H
    obtain ⟨t565, A160, H⟩ := H
    replace H : (if t565 = true then (if (t557.length : Int) ≥ 24 then (petrinetlaw09_NetSpoils.j0 k true t556 t557 t560) else (petrinetlaw09_NetSpoils.j0 k (decide ((t560.length : Int) ≥ 24)) t556 t557 t560)) else (petrinetlaw09_NetSpoils.j0 k true t556 t557 t560)) = some r := H
    have A16 := Aside0.mk A160
    clear A160
    by_cases c17 : t565 = true
    rotate_left
    · replace c17 := Bool.eq_false_iff.mpr c17
      subst c17
      have H1 : (petrinetlaw09_NetSpoils.j0 k true t556 t557 t560) = some r := by rw [if_neg (show ¬ (false = true) by decide)] at H; exact H
      clear H
      have H := H1
      clear H1
      have H' := Aside0.mk H
      clear H
      have hnb27 := NB564_554.out
      have hnc27 := NB554_564.out
      obtain ⟨hcz28_0, hcz28_1, hcz28_2, hfz28_0, hfz28_1, hfz28_2⟩ := cf3 BK564.out
      go_wp2_with (first | (go_at_call 45; (with_reducible refine (petrinetref09_Valid.calls k t556 _ _ t557 _ _ t560 false _ ?side1 ?side2 ?side3 ?side4 A16.out).mono ?_); (case side1 => refine (Kd.V_reads' (e := 50) (base := w.heap.size) (ok := fun k_ => (k_ ≠ gb554 ∧ k_ ≠ gb564)) (n := t557.length) (c := co13) ?_).2.2; exact (by (with_reducible repeat (first | apply Kd.V_alloc | apply Kd.V_drewN | apply Kd.V_drew)); exact (Kd.V_mono (Kd.V_far (p := ⟨gb564, 2, none⟩) (Kd.V_far (p := ⟨gb564, 1, none⟩) (Kd.V_far (p := ⟨gb564, 0, none⟩) (Kd.V_mono HO559.out (fun k_ hk => (⟨hk, hk.2⟩ : _ ∧ k_ ≠ gb564))) (fun _ hk => hk.2) (.string t556)) (fun _ hk => hk.2) (.slice Ao13 t557.length co13)) (fun _ hk => hk.2) (.slice Ao14 t560.length co14)) (fun _ h_ => h_.1)))); (case side2 => exact (Kd.V_reads' HO559.out).2.1); (case side3 => refine (Kd.V_reads' (e := 53) (base := w.heap.size) (ok := fun k_ => (k_ ≠ gb554 ∧ k_ ≠ gb564)) (n := t560.length) (c := co14) ?_).2.2; exact (by (with_reducible repeat (first | apply Kd.V_alloc | apply Kd.V_drewN | apply Kd.V_drew)); exact (Kd.V_mono (Kd.V_far (p := ⟨gb564, 2, none⟩) (Kd.V_far (p := ⟨gb564, 1, none⟩) (Kd.V_far (p := ⟨gb564, 0, none⟩) (Kd.V_mono HO562.out (fun k_ hk => (⟨hk, hk.2⟩ : _ ∧ k_ ≠ gb564))) (fun _ hk => hk.2) (.string t556)) (fun _ hk => hk.2) (.slice Ao13 t557.length co13)) (fun _ hk => hk.2) (.slice Ao14 t560.length co14)) (fun _ h_ => h_.1)))); (case side4 => exact (Kd.V_reads' HO562.out).2.1); rintro e w29 ⟨rfl, hb⟩; have n0_ := Aside0.mk (Kd.V_below (by (with_reducible repeat (first | apply Kd.V_alloc | apply Kd.V_drewN | apply Kd.V_drew)); exact (Kd.V_mono (Kd.V_far (p := ⟨gb564, 2, none⟩) (Kd.V_far (p := ⟨gb564, 1, none⟩) (Kd.V_far (p := ⟨gb564, 0, none⟩) (Kd.V_mono HO559.out (fun k_ hk => (⟨hk, hk.2⟩ : _ ∧ k_ ≠ gb564))) (fun _ hk => hk.2) (.string t556)) (fun _ hk => hk.2) (.slice Ao13 t557.length co13)) (fun _ hk => hk.2) (.slice Ao14 t560.length co14)) (fun _ h_ => h_.1))) hb); have n1_ := Aside0.mk (Kd.V_below (by (with_reducible repeat (first | apply Kd.V_alloc | apply Kd.V_drewN | apply Kd.V_drew)); exact (Kd.V_mono (Kd.V_far (p := ⟨gb564, 2, none⟩) (Kd.V_far (p := ⟨gb564, 1, none⟩) (Kd.V_far (p := ⟨gb564, 0, none⟩) (Kd.V_mono HO562.out (fun k_ hk => (⟨hk, hk.2⟩ : _ ∧ k_ ≠ gb564))) (fun _ hk => hk.2) (.string t556)) (fun _ hk => hk.2) (.slice Ao13 t557.length co13)) (fun _ hk => hk.2) (.slice Ao14 t560.length co14)) (fun _ h_ => h_.1))) hb); have n2_ := Aside0.mk (blk_below (g := gb554) (o := .cells #[.string a0_0, .slice A0_1 l0_1.length c0_1, .slice A0_2 l0_2.length c0_2] 25 (0, 0)) (by (with_reducible repeat (first | refine blk_drewN ?_ _ | refine blk_drew ?_ | refine blk_alloc ?_ _)); refine blk_far ?_ NB554_564.out _; (with_reducible repeat (first | refine blk_drewN ?_ _ | refine blk_drew ?_ | refine blk_alloc ?_ _)); refine blk_far ?_ NB554_564.out _; (with_reducible repeat (first | refine blk_drewN ?_ _ | refine blk_drew ?_ | refine blk_alloc ?_ _)); refine blk_far ?_ NB554_564.out _; (with_reducible repeat (first | refine blk_drewN ?_ _ | refine blk_drew ?_ | refine blk_alloc ?_ _)); exact BK554.out) hb); have n3_ := Aside0.mk (blk_below (g := gb564) (o := .cells #[.string t556, .slice Ao13 t557.length co13, .slice Ao14 t560.length co14] 25 (0, 0)) (by (with_reducible repeat (first | refine blk_drewN ?_ _ | refine blk_drew ?_ | refine blk_alloc ?_ _)); refine blk_put (cs := #[.string t556, .slice Ao13 t557.length co13, .slice none 0 0]) ?_ 2 _ rfl; (with_reducible repeat (first | refine blk_drewN ?_ _ | refine blk_drew ?_ | refine blk_alloc ?_ _)); refine blk_put (cs := #[.string t556, .slice none 0 0, .slice none 0 0]) ?_ 1 _ rfl; (with_reducible repeat (first | refine blk_drewN ?_ _ | refine blk_drew ?_ | refine blk_alloc ?_ _)); refine blk_put (cs := #[.string (⟨#[]⟩ : ByteArray), .slice none 0 0, .slice none 0 0]) ?_ 0 _ rfl; (with_reducible repeat (first | refine blk_drewN ?_ _ | refine blk_drew ?_ | refine blk_alloc ?_ _)); exact BK564.out) hb); have n4_ := Aside0.mk (below_step (by repeat (first | (with_reducible first | exact HB.out | apply below_alloc | apply pw_below_drewN | apply below_drew1 | refine below_set ?_ GE554.out | refine below_set ?_ GE564.out) | exact HB.out)) hb); clear HO559; clear HO562; clear BK554; clear BK564; clear HB; have HO559 := n0_; have HO562 := n1_; have BK554 := n2_; have BK564 := n3_; have HB := n4_; clear n0_ n1_ n2_ n3_ n4_; (try clear hb); (try clear hb2); (try clear hk); (try clear hi)))
      go_meet
      case rel => exact ⟨_, (true), prs, H', ⟨by first | omega | exact Nat.le_refl _⟩, ⟨by (with_reducible repeat (first | apply Kd.V_alloc | apply Kd.V_drewN | apply Kd.V_drew)); exact HO559.out⟩, ⟨by (with_reducible repeat (first | apply Kd.V_alloc | apply Kd.V_drewN | apply Kd.V_drew)); exact HO562.out⟩, ⟨by (with_reducible repeat (first | refine blk_drewN ?_ _ | refine blk_drew ?_ | refine blk_alloc ?_ _)); exact BK554.out⟩, ⟨by (with_reducible repeat (first | refine blk_drewN ?_ _ | refine blk_drew ?_ | refine blk_alloc ?_ _)); exact BK564.out⟩, ⟨by repeat (first | (with_reducible first | exact HB.out | apply below_alloc | apply pw_below_drewN | apply below_drew1 | refine below_set ?_ GE554.out | refine below_set ?_ GE564.out) | exact HB.out)⟩⟩
    subst c17
    have H1 : (if (t557.length : Int) ≥ 24 then (petrinetlaw09_NetSpoils.j0 k true t556 t557 t560) else (petrinetlaw09_NetSpoils.j0 k (decide ((t560.length : Int) ≥ 24)) t556 t557 t560)) = some r := by rw [if_pos rfl] at H; exact H
    clear H
    have H := H1
    clear H1
    by_cases c18 : (t557.length : Int) ≥ 24
    · rw [if_pos c18] at H
      have c18b0 : decide (24 ≤ (t557.length : Int)) = true := decide_eq_true c18
      have c18b1 : decide (24 ≤ t557.length) = true := decide_eq_true (by omega)
      clear c18
      (first | rw [c18b0] | (simp only [i64_w, i32_w]; rw [c18b0]) | skip)
      have H' := Aside0.mk H
      clear H
      have hnb19 := NB564_554.out
      have hnc19 := NB554_564.out
      obtain ⟨hcz20_0, hcz20_1, hcz20_2, hfz20_0, hfz20_1, hfz20_2⟩ := cf3 BK564.out
      go_wp2_with (first | (go_at_call 45; (with_reducible refine (petrinetref09_Valid.calls k t556 _ _ t557 _ _ t560 true _ ?side1 ?side2 ?side3 ?side4 A16.out).mono ?_); (case side1 => refine (Kd.V_reads' (e := 50) (base := w.heap.size) (ok := fun k_ => (k_ ≠ gb554 ∧ k_ ≠ gb564)) (n := t557.length) (c := co13) ?_).2.2; exact (by (with_reducible repeat (first | apply Kd.V_alloc | apply Kd.V_drewN | apply Kd.V_drew)); exact (Kd.V_mono (Kd.V_far (p := ⟨gb564, 2, none⟩) (Kd.V_far (p := ⟨gb564, 1, none⟩) (Kd.V_far (p := ⟨gb564, 0, none⟩) (Kd.V_mono HO559.out (fun k_ hk => (⟨hk, hk.2⟩ : _ ∧ k_ ≠ gb564))) (fun _ hk => hk.2) (.string t556)) (fun _ hk => hk.2) (.slice Ao13 t557.length co13)) (fun _ hk => hk.2) (.slice Ao14 t560.length co14)) (fun _ h_ => h_.1)))); (case side2 => exact (Kd.V_reads' HO559.out).2.1); (case side3 => refine (Kd.V_reads' (e := 53) (base := w.heap.size) (ok := fun k_ => (k_ ≠ gb554 ∧ k_ ≠ gb564)) (n := t560.length) (c := co14) ?_).2.2; exact (by (with_reducible repeat (first | apply Kd.V_alloc | apply Kd.V_drewN | apply Kd.V_drew)); exact (Kd.V_mono (Kd.V_far (p := ⟨gb564, 2, none⟩) (Kd.V_far (p := ⟨gb564, 1, none⟩) (Kd.V_far (p := ⟨gb564, 0, none⟩) (Kd.V_mono HO562.out (fun k_ hk => (⟨hk, hk.2⟩ : _ ∧ k_ ≠ gb564))) (fun _ hk => hk.2) (.string t556)) (fun _ hk => hk.2) (.slice Ao13 t557.length co13)) (fun _ hk => hk.2) (.slice Ao14 t560.length co14)) (fun _ h_ => h_.1)))); (case side4 => exact (Kd.V_reads' HO562.out).2.1); rintro e w21 ⟨rfl, hb⟩; have n0_ := Aside0.mk (Kd.V_below (by (with_reducible repeat (first | apply Kd.V_alloc | apply Kd.V_drewN | apply Kd.V_drew)); exact (Kd.V_mono (Kd.V_far (p := ⟨gb564, 2, none⟩) (Kd.V_far (p := ⟨gb564, 1, none⟩) (Kd.V_far (p := ⟨gb564, 0, none⟩) (Kd.V_mono HO559.out (fun k_ hk => (⟨hk, hk.2⟩ : _ ∧ k_ ≠ gb564))) (fun _ hk => hk.2) (.string t556)) (fun _ hk => hk.2) (.slice Ao13 t557.length co13)) (fun _ hk => hk.2) (.slice Ao14 t560.length co14)) (fun _ h_ => h_.1))) hb); have n1_ := Aside0.mk (Kd.V_below (by (with_reducible repeat (first | apply Kd.V_alloc | apply Kd.V_drewN | apply Kd.V_drew)); exact (Kd.V_mono (Kd.V_far (p := ⟨gb564, 2, none⟩) (Kd.V_far (p := ⟨gb564, 1, none⟩) (Kd.V_far (p := ⟨gb564, 0, none⟩) (Kd.V_mono HO562.out (fun k_ hk => (⟨hk, hk.2⟩ : _ ∧ k_ ≠ gb564))) (fun _ hk => hk.2) (.string t556)) (fun _ hk => hk.2) (.slice Ao13 t557.length co13)) (fun _ hk => hk.2) (.slice Ao14 t560.length co14)) (fun _ h_ => h_.1))) hb); have n2_ := Aside0.mk (blk_below (g := gb554) (o := .cells #[.string a0_0, .slice A0_1 l0_1.length c0_1, .slice A0_2 l0_2.length c0_2] 25 (0, 0)) (by (with_reducible repeat (first | refine blk_drewN ?_ _ | refine blk_drew ?_ | refine blk_alloc ?_ _)); refine blk_far ?_ NB554_564.out _; (with_reducible repeat (first | refine blk_drewN ?_ _ | refine blk_drew ?_ | refine blk_alloc ?_ _)); refine blk_far ?_ NB554_564.out _; (with_reducible repeat (first | refine blk_drewN ?_ _ | refine blk_drew ?_ | refine blk_alloc ?_ _)); refine blk_far ?_ NB554_564.out _; (with_reducible repeat (first | refine blk_drewN ?_ _ | refine blk_drew ?_ | refine blk_alloc ?_ _)); exact BK554.out) hb); have n3_ := Aside0.mk (blk_below (g := gb564) (o := .cells #[.string t556, .slice Ao13 t557.length co13, .slice Ao14 t560.length co14] 25 (0, 0)) (by (with_reducible repeat (first | refine blk_drewN ?_ _ | refine blk_drew ?_ | refine blk_alloc ?_ _)); refine blk_put (cs := #[.string t556, .slice Ao13 t557.length co13, .slice none 0 0]) ?_ 2 _ rfl; (with_reducible repeat (first | refine blk_drewN ?_ _ | refine blk_drew ?_ | refine blk_alloc ?_ _)); refine blk_put (cs := #[.string t556, .slice none 0 0, .slice none 0 0]) ?_ 1 _ rfl; (with_reducible repeat (first | refine blk_drewN ?_ _ | refine blk_drew ?_ | refine blk_alloc ?_ _)); refine blk_put (cs := #[.string (⟨#[]⟩ : ByteArray), .slice none 0 0, .slice none 0 0]) ?_ 0 _ rfl; (with_reducible repeat (first | refine blk_drewN ?_ _ | refine blk_drew ?_ | refine blk_alloc ?_ _)); exact BK564.out) hb); have n4_ := Aside0.mk (below_step (by repeat (first | (with_reducible first | exact HB.out | apply below_alloc | apply pw_below_drewN | apply below_drew1 | refine below_set ?_ GE554.out | refine below_set ?_ GE564.out) | exact HB.out)) hb); clear HO559; clear HO562; clear BK554; clear BK564; clear HB; have HO559 := n0_; have HO562 := n1_; have BK554 := n2_; have BK564 := n3_; have HB := n4_; clear n0_ n1_ n2_ n3_ n4_; (try clear hb); (try clear hb2); (try clear hk); (try clear hi); obtain ⟨hcz22_0, hcz22_1, hcz22_2, hfz22_0, hfz22_1, hfz22_2⟩ := cf3 BK564.out))
      go_meet
      case rel => exact ⟨_, (true), prs, H', ⟨by first | omega | exact Nat.le_refl _⟩, ⟨by (with_reducible repeat (first | apply Kd.V_alloc | apply Kd.V_drewN | apply Kd.V_drew)); exact HO559.out⟩, ⟨by (with_reducible repeat (first | apply Kd.V_alloc | apply Kd.V_drewN | apply Kd.V_drew)); exact HO562.out⟩, ⟨by (with_reducible repeat (first | refine blk_drewN ?_ _ | refine blk_drew ?_ | refine blk_alloc ?_ _)); exact BK554.out⟩, ⟨by (with_reducible repeat (first | refine blk_drewN ?_ _ | refine blk_drew ?_ | refine blk_alloc ?_ _)); exact BK564.out⟩, ⟨by repeat (first | (with_reducible first | exact HB.out | apply below_alloc | apply pw_below_drewN | apply below_drew1 | refine below_set ?_ GE554.out | refine below_set ?_ GE564.out) | exact HB.out)⟩⟩
    rw [if_neg c18] at H
    have c18b0 : decide (24 ≤ (t557.length : Int)) = false := decide_eq_false c18
    have c18b1 : decide (24 ≤ t557.length) = false := decide_eq_false (by omega)
    clear c18
    (first | rw [c18b0] | (simp only [i64_w, i32_w]; rw [c18b0]) | skip)
    have H' := Aside0.mk H
    clear H
    have hnb23 := NB564_554.out
    have hnc23 := NB554_564.out
    obtain ⟨hcz24_0, hcz24_1, hcz24_2, hfz24_0, hfz24_1, hfz24_2⟩ := cf3 BK564.out
    go_wp2_with (first | (go_at_call 45; (with_reducible refine (petrinetref09_Valid.calls k t556 _ _ t557 _ _ t560 true _ ?side1 ?side2 ?side3 ?side4 A16.out).mono ?_); (case side1 => refine (Kd.V_reads' (e := 50) (base := w.heap.size) (ok := fun k_ => (k_ ≠ gb554 ∧ k_ ≠ gb564)) (n := t557.length) (c := co13) ?_).2.2; exact (by (with_reducible repeat (first | apply Kd.V_alloc | apply Kd.V_drewN | apply Kd.V_drew)); exact (Kd.V_mono (Kd.V_far (p := ⟨gb564, 2, none⟩) (Kd.V_far (p := ⟨gb564, 1, none⟩) (Kd.V_far (p := ⟨gb564, 0, none⟩) (Kd.V_mono HO559.out (fun k_ hk => (⟨hk, hk.2⟩ : _ ∧ k_ ≠ gb564))) (fun _ hk => hk.2) (.string t556)) (fun _ hk => hk.2) (.slice Ao13 t557.length co13)) (fun _ hk => hk.2) (.slice Ao14 t560.length co14)) (fun _ h_ => h_.1)))); (case side2 => exact (Kd.V_reads' HO559.out).2.1); (case side3 => refine (Kd.V_reads' (e := 53) (base := w.heap.size) (ok := fun k_ => (k_ ≠ gb554 ∧ k_ ≠ gb564)) (n := t560.length) (c := co14) ?_).2.2; exact (by (with_reducible repeat (first | apply Kd.V_alloc | apply Kd.V_drewN | apply Kd.V_drew)); exact (Kd.V_mono (Kd.V_far (p := ⟨gb564, 2, none⟩) (Kd.V_far (p := ⟨gb564, 1, none⟩) (Kd.V_far (p := ⟨gb564, 0, none⟩) (Kd.V_mono HO562.out (fun k_ hk => (⟨hk, hk.2⟩ : _ ∧ k_ ≠ gb564))) (fun _ hk => hk.2) (.string t556)) (fun _ hk => hk.2) (.slice Ao13 t557.length co13)) (fun _ hk => hk.2) (.slice Ao14 t560.length co14)) (fun _ h_ => h_.1)))); (case side4 => exact (Kd.V_reads' HO562.out).2.1); rintro e w25 ⟨rfl, hb⟩; have n0_ := Aside0.mk (Kd.V_below (by (with_reducible repeat (first | apply Kd.V_alloc | apply Kd.V_drewN | apply Kd.V_drew)); exact (Kd.V_mono (Kd.V_far (p := ⟨gb564, 2, none⟩) (Kd.V_far (p := ⟨gb564, 1, none⟩) (Kd.V_far (p := ⟨gb564, 0, none⟩) (Kd.V_mono HO559.out (fun k_ hk => (⟨hk, hk.2⟩ : _ ∧ k_ ≠ gb564))) (fun _ hk => hk.2) (.string t556)) (fun _ hk => hk.2) (.slice Ao13 t557.length co13)) (fun _ hk => hk.2) (.slice Ao14 t560.length co14)) (fun _ h_ => h_.1))) hb); have n1_ := Aside0.mk (Kd.V_below (by (with_reducible repeat (first | apply Kd.V_alloc | apply Kd.V_drewN | apply Kd.V_drew)); exact (Kd.V_mono (Kd.V_far (p := ⟨gb564, 2, none⟩) (Kd.V_far (p := ⟨gb564, 1, none⟩) (Kd.V_far (p := ⟨gb564, 0, none⟩) (Kd.V_mono HO562.out (fun k_ hk => (⟨hk, hk.2⟩ : _ ∧ k_ ≠ gb564))) (fun _ hk => hk.2) (.string t556)) (fun _ hk => hk.2) (.slice Ao13 t557.length co13)) (fun _ hk => hk.2) (.slice Ao14 t560.length co14)) (fun _ h_ => h_.1))) hb); have n2_ := Aside0.mk (blk_below (g := gb554) (o := .cells #[.string a0_0, .slice A0_1 l0_1.length c0_1, .slice A0_2 l0_2.length c0_2] 25 (0, 0)) (by (with_reducible repeat (first | refine blk_drewN ?_ _ | refine blk_drew ?_ | refine blk_alloc ?_ _)); refine blk_far ?_ NB554_564.out _; (with_reducible repeat (first | refine blk_drewN ?_ _ | refine blk_drew ?_ | refine blk_alloc ?_ _)); refine blk_far ?_ NB554_564.out _; (with_reducible repeat (first | refine blk_drewN ?_ _ | refine blk_drew ?_ | refine blk_alloc ?_ _)); refine blk_far ?_ NB554_564.out _; (with_reducible repeat (first | refine blk_drewN ?_ _ | refine blk_drew ?_ | refine blk_alloc ?_ _)); exact BK554.out) hb); have n3_ := Aside0.mk (blk_below (g := gb564) (o := .cells #[.string t556, .slice Ao13 t557.length co13, .slice Ao14 t560.length co14] 25 (0, 0)) (by (with_reducible repeat (first | refine blk_drewN ?_ _ | refine blk_drew ?_ | refine blk_alloc ?_ _)); refine blk_put (cs := #[.string t556, .slice Ao13 t557.length co13, .slice none 0 0]) ?_ 2 _ rfl; (with_reducible repeat (first | refine blk_drewN ?_ _ | refine blk_drew ?_ | refine blk_alloc ?_ _)); refine blk_put (cs := #[.string t556, .slice none 0 0, .slice none 0 0]) ?_ 1 _ rfl; (with_reducible repeat (first | refine blk_drewN ?_ _ | refine blk_drew ?_ | refine blk_alloc ?_ _)); refine blk_put (cs := #[.string (⟨#[]⟩ : ByteArray), .slice none 0 0, .slice none 0 0]) ?_ 0 _ rfl; (with_reducible repeat (first | refine blk_drewN ?_ _ | refine blk_drew ?_ | refine blk_alloc ?_ _)); exact BK564.out) hb); have n4_ := Aside0.mk (below_step (by repeat (first | (with_reducible first | exact HB.out | apply below_alloc | apply pw_below_drewN | apply below_drew1 | refine below_set ?_ GE554.out | refine below_set ?_ GE564.out) | exact HB.out)) hb); clear HO559; clear HO562; clear BK554; clear BK564; clear HB; have HO559 := n0_; have HO562 := n1_; have BK554 := n2_; have BK564 := n3_; have HB := n4_; clear n0_ n1_ n2_ n3_ n4_; (try clear hb); (try clear hb2); (try clear hk); (try clear hi); obtain ⟨hcz26_0, hcz26_1, hcz26_2, hfz26_0, hfz26_1, hfz26_2⟩ := cf3 BK564.out))
    go_meet
    case rel => exact ⟨_, (decide ((t560.length : Int) ≥ 24)), prs, H', ⟨by first | omega | exact Nat.le_refl _⟩, ⟨by (with_reducible repeat (first | apply Kd.V_alloc | apply Kd.V_drewN | apply Kd.V_drew)); exact HO559.out⟩, ⟨by (with_reducible repeat (first | apply Kd.V_alloc | apply Kd.V_drewN | apply Kd.V_drew)); exact HO562.out⟩, ⟨by (with_reducible repeat (first | refine blk_drewN ?_ _ | refine blk_drew ?_ | refine blk_alloc ?_ _)); exact BK554.out⟩, ⟨by (with_reducible repeat (first | refine blk_drewN ?_ _ | refine blk_drew ?_ | refine blk_alloc ?_ _)); exact BK564.out⟩, ⟨by repeat (first | (with_reducible first | exact HB.out | apply below_alloc | apply pw_below_drewN | apply below_drew1 | refine below_set ?_ GE554.out | refine below_set ?_ GE564.out) | exact HB.out)⟩⟩
  clear HC5
  try clear c3
  try clear c15
  try clear c17
  try clear c18
  try clear c18b0
  try clear c18b1
  try clear hcz12_0
  try clear hcz12_1
  try clear hcz12_2
  try clear hcz20_0
  try clear hcz20_1
  try clear hcz20_2
  try clear hcz22_0
  try clear hcz22_1
  try clear hcz22_2
  try clear hcz24_0
  try clear hcz24_1
  try clear hcz24_2
  try clear hcz26_0
  try clear hcz26_1
  try clear hcz26_2
  try clear hcz28_0
  try clear hcz28_1
  try clear hcz28_2
  try clear hcz8_0
  try clear hcz8_1
  try clear hcz8_2
  try clear hfz12_0
  try clear hfz12_1
  try clear hfz12_2
  try clear hfz20_0
  try clear hfz20_1
  try clear hfz20_2
  try clear hfz22_0
  try clear hfz22_1
  try clear hfz22_2
  try clear hfz24_0
  try clear hfz24_1
  try clear hfz24_2
  try clear hfz26_0
  try clear hfz26_1
  try clear hfz26_2
  try clear hfz28_0
  try clear hfz28_1
  try clear hfz28_2
  try clear hfz8_0
  try clear hfz8_1
  try clear hfz8_2
  obtain ⟨kq, x37_4, rfl, HA, HJ4, HO_565001, HO_565002, BK554, BK564, HB⟩ := hcut
  obtain _ | kj4 := kq
  · exact absurd HA.out (by simp [petrinetlaw09_NetSpoils.j0])
  have H := HA.out
  clear HA
  simp only [petrinetlaw09_NetSpoils.j0] at H
  by_cases c30 : x37_4 = true
  · subst c30
    have H1 : (some true) = some r := by rw [if_pos rfl] at H; exact H
    clear H
    have H := H1
    clear H1
    obtain rfl := Option.some.inj H
    go_wp2
    go_ret
    exact ⟨by first | rfl | (simp [errW_none, errW_some] <;> rfl) | (simp [*, errW_none, errW_some] <;> rfl), by repeat (first | (with_reducible first | exact HB.out | apply below_alloc | apply pw_below_drewN | apply below_drew1 | refine below_set ?_ GE554.out | refine below_set ?_ GE564.out) | exact HB.out)⟩
  replace c30 := Bool.eq_false_iff.mpr c30
  subst c30
  have H1 : (if ([] : List (S50)).length + t557.length < 4398046511104 then ((some (([] : List (S50)) ++ t557 : List (S50))).bind fun y566 => (if 0 < (t557.length : Int) then (if y566.length < 4398046511104 then ((net_Check.f kj4 t556 (y566 ++ [(⟨(rd_T50 t557 0).f0, 0, 0⟩ : S50)]) t560).bind fun bt574 => (if (!(bt574.1 == 6) || (!(bt574.2 == (t557.length : Int)))) = true then (none) else (if ([] : List (S53)).length + t560.length < 1466015503701 then ((some (([] : List (S53)) ++ t560 : List (S53))).bind fun y576 => (if y576.length < 1466015503701 then ((net_Check.f kj4 t556 t557 (y576 ++ [(⟨(rd_T50 t557 0).f0, ([] : List (S64)), ([] : List (S64)), ([] : List (S64)), 0⟩ : S53)])).bind fun bt584 => (if (!(bt584.1 == 6) || (!(bt584.2 == (wrap64 ((t557.length : Int) + (t560.length : Int)))))) = true then (none) else ((some (([] : List (S53)) ++ t560 : List (S53))).bind fun y586 => (if y586.length < 1466015503701 then ((net_Check.f kj4 t556 t557 (y586 ++ [(⟨(⟨#[]⟩ : ByteArray), ([] : List (S64)), ([] : List (S64)), ([] : List (S64)), 0⟩ : S53)])).bind fun bt593 => (if (!(bt593.1 == 5) || (!(bt593.2 == (wrap64 ((t557.length : Int) + (t560.length : Int)))))) = true then (none) else ((net_Check.f kj4 (⟨#[]⟩ : ByteArray) t557 t560).bind fun bt596 => (if (bt596.1 == 5 && (bt596.2 == 0)) = true then ((net_Check.f kj4 t556 ([] : List (S50)) t560).bind fun bt598 => (some (bt598.1 == 2 && (bt598.2 == 0)))) else (none))))) else (none))))) else (none))) else (none)))) else (none)) else (none))) else (none)) = some r := by rw [if_neg (show ¬ (false = true) by decide)] at H; exact H
  clear H
  have H := H1
  clear H1
  by_cases c31 : ([] : List (S50)).length + t557.length < 4398046511104
  rotate_left
  · rw [if_neg c31] at H
    exact absurd H (by simp)
  rw [if_pos c31] at H
  have LMc31 := Aside0.mk c31
  clear c31
  obtain ⟨y566, hy566⟩ : ∃ y_ : List (S50), y_ = (([] : List (S50)) ++ t557) := ⟨_, rfl⟩
  replace H : (if 0 < (t557.length : Int) then (if y566.length < 4398046511104 then ((net_Check.f kj4 t556 (y566 ++ [(⟨(rd_T50 t557 0).f0, 0, 0⟩ : S50)]) t560).bind fun bt574 => (if (!(bt574.1 == 6) || (!(bt574.2 == (t557.length : Int)))) = true then (none) else (if ([] : List (S53)).length + t560.length < 1466015503701 then ((some (([] : List (S53)) ++ t560 : List (S53))).bind fun y576 => (if y576.length < 1466015503701 then ((net_Check.f kj4 t556 t557 (y576 ++ [(⟨(rd_T50 t557 0).f0, ([] : List (S64)), ([] : List (S64)), ([] : List (S64)), 0⟩ : S53)])).bind fun bt584 => (if (!(bt584.1 == 6) || (!(bt584.2 == (wrap64 ((t557.length : Int) + (t560.length : Int)))))) = true then (none) else ((some (([] : List (S53)) ++ t560 : List (S53))).bind fun y586 => (if y586.length < 1466015503701 then ((net_Check.f kj4 t556 t557 (y586 ++ [(⟨(⟨#[]⟩ : ByteArray), ([] : List (S64)), ([] : List (S64)), ([] : List (S64)), 0⟩ : S53)])).bind fun bt593 => (if (!(bt593.1 == 5) || (!(bt593.2 == (wrap64 ((t557.length : Int) + (t560.length : Int)))))) = true then (none) else ((net_Check.f kj4 (⟨#[]⟩ : ByteArray) t557 t560).bind fun bt596 => (if (bt596.1 == 5 && (bt596.2 == 0)) = true then ((net_Check.f kj4 t556 ([] : List (S50)) t560).bind fun bt598 => (some (bt598.1 == 2 && (bt598.2 == 0)))) else (none))))) else (none))))) else (none))) else (none)))) else (none)) else (none)) = some r := by first | (rw [hy566]; with_reducible exact H) | (have H2_ := (Option.bind_some _ _).symm.trans H; rw [hy566]; with_reducible exact H2_) | (have H2_ := (Option.bind_some _ _).symm.trans H; with_reducible exact H2_) | with_reducible exact H | (rw [hy566]; exact H) | exact H
  have Ny566 := Aside0.mk hy566
  clear hy566
  by_cases c32 : 0 < (t557.length : Int)
  rotate_left
  · rw [if_neg c32] at H
    exact absurd H (by simp)
  rw [if_pos c32] at H
  have c32b0 : decide (0 < (t557.length : Int)) = true := decide_eq_true c32
  have c32b1 : decide (0 < t557.length) = true := decide_eq_true (by omega)
  clear c32
  by_cases c33 : y566.length < 4398046511104
  rotate_left
  · rw [if_neg c33] at H
    exact absurd H (by simp)
  rw [if_pos c33] at H
  have LMc33 := Aside0.mk c33
  clear c33
  obtain ⟨y570, hy570⟩ : ∃ y_ : List (S50), y_ = (y566 ++ [(⟨(rd_T50 t557 0).f0, 0, 0⟩ : S50)]) := ⟨_, rfl⟩
  replace H : ((net_Check.f kj4 t556 y570 t560).bind fun bt574 => (if (!(bt574.1 == 6) || (!(bt574.2 == (t557.length : Int)))) = true then (none) else (if ([] : List (S53)).length + t560.length < 1466015503701 then ((some (([] : List (S53)) ++ t560 : List (S53))).bind fun y576 => (if y576.length < 1466015503701 then ((net_Check.f kj4 t556 t557 (y576 ++ [(⟨(rd_T50 t557 0).f0, ([] : List (S64)), ([] : List (S64)), ([] : List (S64)), 0⟩ : S53)])).bind fun bt584 => (if (!(bt584.1 == 6) || (!(bt584.2 == (wrap64 ((t557.length : Int) + (t560.length : Int)))))) = true then (none) else ((some (([] : List (S53)) ++ t560 : List (S53))).bind fun y586 => (if y586.length < 1466015503701 then ((net_Check.f kj4 t556 t557 (y586 ++ [(⟨(⟨#[]⟩ : ByteArray), ([] : List (S64)), ([] : List (S64)), ([] : List (S64)), 0⟩ : S53)])).bind fun bt593 => (if (!(bt593.1 == 5) || (!(bt593.2 == (wrap64 ((t557.length : Int) + (t560.length : Int)))))) = true then (none) else ((net_Check.f kj4 (⟨#[]⟩ : ByteArray) t557 t560).bind fun bt596 => (if (bt596.1 == 5 && (bt596.2 == 0)) = true then ((net_Check.f kj4 t556 ([] : List (S50)) t560).bind fun bt598 => (some (bt598.1 == 2 && (bt598.2 == 0)))) else (none))))) else (none))))) else (none))) else (none)))) = some r := by first | (rw [hy570]; with_reducible exact H) | (have H2_ := (Option.bind_some _ _).symm.trans H; rw [hy570]; with_reducible exact H2_) | (have H2_ := (Option.bind_some _ _).symm.trans H; with_reducible exact H2_) | with_reducible exact H | (rw [hy570]; exact H) | exact H
  have Ny570 := Aside0.mk hy570
  clear hy570
  replace H := Option.bind_eq_some_iff.mp H
  obtain ⟨⟨t574, t575⟩, A340, H⟩ := H
  replace H : (if (!(t574 == 6) || (!(t575 == (t557.length : Int)))) = true then (none) else (if ([] : List (S53)).length + t560.length < 1466015503701 then ((some (([] : List (S53)) ++ t560 : List (S53))).bind fun y576 => (if y576.length < 1466015503701 then ((net_Check.f kj4 t556 t557 (y576 ++ [(⟨(rd_T50 t557 0).f0, ([] : List (S64)), ([] : List (S64)), ([] : List (S64)), 0⟩ : S53)])).bind fun bt584 => (if (!(bt584.1 == 6) || (!(bt584.2 == (wrap64 ((t557.length : Int) + (t560.length : Int)))))) = true then (none) else ((some (([] : List (S53)) ++ t560 : List (S53))).bind fun y586 => (if y586.length < 1466015503701 then ((net_Check.f kj4 t556 t557 (y586 ++ [(⟨(⟨#[]⟩ : ByteArray), ([] : List (S64)), ([] : List (S64)), ([] : List (S64)), 0⟩ : S53)])).bind fun bt593 => (if (!(bt593.1 == 5) || (!(bt593.2 == (wrap64 ((t557.length : Int) + (t560.length : Int)))))) = true then (none) else ((net_Check.f kj4 (⟨#[]⟩ : ByteArray) t557 t560).bind fun bt596 => (if (bt596.1 == 5 && (bt596.2 == 0)) = true then ((net_Check.f kj4 t556 ([] : List (S50)) t560).bind fun bt598 => (some (bt598.1 == 2 && (bt598.2 == 0)))) else (none))))) else (none))))) else (none))) else (none))) = some r := H
  have A34 := Aside0.mk A340
  clear A340
  by_cases c35 : (!(t574 == 6) || (!(t575 == (t557.length : Int)))) = true
  · rw [if_pos c35] at H
    exact absurd H (by simp)
  rw [if_neg c35] at H
  have c35b0 : (!(t574 == 6) || (!(t575 == (t557.length : Int)))) = false := by simpa using c35
  clear c35
  by_cases c36 : ([] : List (S53)).length + t560.length < 1466015503701
  rotate_left
  · rw [if_neg c36] at H
    exact absurd H (by simp)
  rw [if_pos c36] at H
  have LMc36 := Aside0.mk c36
  clear c36
  obtain ⟨y576, hy576⟩ : ∃ y_ : List (S53), y_ = (([] : List (S53)) ++ t560) := ⟨_, rfl⟩
  replace H : (if y576.length < 1466015503701 then ((net_Check.f kj4 t556 t557 (y576 ++ [(⟨(rd_T50 t557 0).f0, ([] : List (S64)), ([] : List (S64)), ([] : List (S64)), 0⟩ : S53)])).bind fun bt584 => (if (!(bt584.1 == 6) || (!(bt584.2 == (wrap64 ((t557.length : Int) + (t560.length : Int)))))) = true then (none) else ((some (([] : List (S53)) ++ t560 : List (S53))).bind fun y586 => (if y586.length < 1466015503701 then ((net_Check.f kj4 t556 t557 (y586 ++ [(⟨(⟨#[]⟩ : ByteArray), ([] : List (S64)), ([] : List (S64)), ([] : List (S64)), 0⟩ : S53)])).bind fun bt593 => (if (!(bt593.1 == 5) || (!(bt593.2 == (wrap64 ((t557.length : Int) + (t560.length : Int)))))) = true then (none) else ((net_Check.f kj4 (⟨#[]⟩ : ByteArray) t557 t560).bind fun bt596 => (if (bt596.1 == 5 && (bt596.2 == 0)) = true then ((net_Check.f kj4 t556 ([] : List (S50)) t560).bind fun bt598 => (some (bt598.1 == 2 && (bt598.2 == 0)))) else (none))))) else (none))))) else (none)) = some r := by first | (rw [hy576]; with_reducible exact H) | (have H2_ := (Option.bind_some _ _).symm.trans H; rw [hy576]; with_reducible exact H2_) | (have H2_ := (Option.bind_some _ _).symm.trans H; with_reducible exact H2_) | with_reducible exact H | (rw [hy576]; exact H) | exact H
  have Ny576 := Aside0.mk hy576
  clear hy576
  by_cases c37 : y576.length < 1466015503701
  rotate_left
  · rw [if_neg c37] at H
    exact absurd H (by simp)
  rw [if_pos c37] at H
  have LMc37 := Aside0.mk c37
  clear c37
  obtain ⟨y580, hy580⟩ : ∃ y_ : List (S53), y_ = (y576 ++ [(⟨(rd_T50 t557 0).f0, ([] : List (S64)), ([] : List (S64)), ([] : List (S64)), 0⟩ : S53)]) := ⟨_, rfl⟩
  replace H : ((net_Check.f kj4 t556 t557 y580).bind fun bt584 => (if (!(bt584.1 == 6) || (!(bt584.2 == (wrap64 ((t557.length : Int) + (t560.length : Int)))))) = true then (none) else ((some (([] : List (S53)) ++ t560 : List (S53))).bind fun y586 => (if y586.length < 1466015503701 then ((net_Check.f kj4 t556 t557 (y586 ++ [(⟨(⟨#[]⟩ : ByteArray), ([] : List (S64)), ([] : List (S64)), ([] : List (S64)), 0⟩ : S53)])).bind fun bt593 => (if (!(bt593.1 == 5) || (!(bt593.2 == (wrap64 ((t557.length : Int) + (t560.length : Int)))))) = true then (none) else ((net_Check.f kj4 (⟨#[]⟩ : ByteArray) t557 t560).bind fun bt596 => (if (bt596.1 == 5 && (bt596.2 == 0)) = true then ((net_Check.f kj4 t556 ([] : List (S50)) t560).bind fun bt598 => (some (bt598.1 == 2 && (bt598.2 == 0)))) else (none))))) else (none))))) = some r := by first | (rw [hy580]; with_reducible exact H) | (have H2_ := (Option.bind_some _ _).symm.trans H; rw [hy580]; with_reducible exact H2_) | (have H2_ := (Option.bind_some _ _).symm.trans H; with_reducible exact H2_) | with_reducible exact H | (rw [hy580]; exact H) | exact H
  have Ny580 := Aside0.mk hy580
  clear hy580
  replace H := Option.bind_eq_some_iff.mp H
  obtain ⟨⟨t584, t585⟩, A380, H⟩ := H
  replace H : (if (!(t584 == 6) || (!(t585 == (wrap64 ((t557.length : Int) + (t560.length : Int)))))) = true then (none) else ((some (([] : List (S53)) ++ t560 : List (S53))).bind fun y586 => (if y586.length < 1466015503701 then ((net_Check.f kj4 t556 t557 (y586 ++ [(⟨(⟨#[]⟩ : ByteArray), ([] : List (S64)), ([] : List (S64)), ([] : List (S64)), 0⟩ : S53)])).bind fun bt593 => (if (!(bt593.1 == 5) || (!(bt593.2 == (wrap64 ((t557.length : Int) + (t560.length : Int)))))) = true then (none) else ((net_Check.f kj4 (⟨#[]⟩ : ByteArray) t557 t560).bind fun bt596 => (if (bt596.1 == 5 && (bt596.2 == 0)) = true then ((net_Check.f kj4 t556 ([] : List (S50)) t560).bind fun bt598 => (some (bt598.1 == 2 && (bt598.2 == 0)))) else (none))))) else (none)))) = some r := H
  have A38 := Aside0.mk A380
  clear A380
  by_cases c39 : (!(t584 == 6) || (!(t585 == (wrap64 ((t557.length : Int) + (t560.length : Int)))))) = true
  · rw [if_pos c39] at H
    exact absurd H (by simp)
  rw [if_neg c39] at H
  have c39b0 : (!(t584 == 6) || (!(t585 == (wrap64 ((t557.length : Int) + (t560.length : Int)))))) = false := by simpa using c39
  clear c39
  obtain ⟨y586, hy586⟩ : ∃ y_ : List (S53), y_ = (([] : List (S53)) ++ t560) := ⟨_, rfl⟩
  replace H : (if y586.length < 1466015503701 then ((net_Check.f kj4 t556 t557 (y586 ++ [(⟨(⟨#[]⟩ : ByteArray), ([] : List (S64)), ([] : List (S64)), ([] : List (S64)), 0⟩ : S53)])).bind fun bt593 => (if (!(bt593.1 == 5) || (!(bt593.2 == (wrap64 ((t557.length : Int) + (t560.length : Int)))))) = true then (none) else ((net_Check.f kj4 (⟨#[]⟩ : ByteArray) t557 t560).bind fun bt596 => (if (bt596.1 == 5 && (bt596.2 == 0)) = true then ((net_Check.f kj4 t556 ([] : List (S50)) t560).bind fun bt598 => (some (bt598.1 == 2 && (bt598.2 == 0)))) else (none))))) else (none)) = some r := by first | (rw [hy586]; with_reducible exact H) | (have H2_ := (Option.bind_some _ _).symm.trans H; rw [hy586]; with_reducible exact H2_) | (have H2_ := (Option.bind_some _ _).symm.trans H; with_reducible exact H2_) | with_reducible exact H | (rw [hy586]; exact H) | exact H
  have Ny586 := Aside0.mk hy586
  clear hy586
  by_cases c40 : y586.length < 1466015503701
  rotate_left
  · rw [if_neg c40] at H
    exact absurd H (by simp)
  rw [if_pos c40] at H
  have LMc40 := Aside0.mk c40
  clear c40
  obtain ⟨y589, hy589⟩ : ∃ y_ : List (S53), y_ = (y586 ++ [(⟨(⟨#[]⟩ : ByteArray), ([] : List (S64)), ([] : List (S64)), ([] : List (S64)), 0⟩ : S53)]) := ⟨_, rfl⟩
  replace H : ((net_Check.f kj4 t556 t557 y589).bind fun bt593 => (if (!(bt593.1 == 5) || (!(bt593.2 == (wrap64 ((t557.length : Int) + (t560.length : Int)))))) = true then (none) else ((net_Check.f kj4 (⟨#[]⟩ : ByteArray) t557 t560).bind fun bt596 => (if (bt596.1 == 5 && (bt596.2 == 0)) = true then ((net_Check.f kj4 t556 ([] : List (S50)) t560).bind fun bt598 => (some (bt598.1 == 2 && (bt598.2 == 0)))) else (none))))) = some r := by first | (rw [hy589]; with_reducible exact H) | (have H2_ := (Option.bind_some _ _).symm.trans H; rw [hy589]; with_reducible exact H2_) | (have H2_ := (Option.bind_some _ _).symm.trans H; with_reducible exact H2_) | with_reducible exact H | (rw [hy589]; exact H) | exact H
  have Ny589 := Aside0.mk hy589
  clear hy589
  replace H := Option.bind_eq_some_iff.mp H
  obtain ⟨⟨t593, t594⟩, A410, H⟩ := H
  replace H : (if (!(t593 == 5) || (!(t594 == (wrap64 ((t557.length : Int) + (t560.length : Int)))))) = true then (none) else ((net_Check.f kj4 (⟨#[]⟩ : ByteArray) t557 t560).bind fun bt596 => (if (bt596.1 == 5 && (bt596.2 == 0)) = true then ((net_Check.f kj4 t556 ([] : List (S50)) t560).bind fun bt598 => (some (bt598.1 == 2 && (bt598.2 == 0)))) else (none)))) = some r := H
  have A41 := Aside0.mk A410
  clear A410
  by_cases c42 : (!(t593 == 5) || (!(t594 == (wrap64 ((t557.length : Int) + (t560.length : Int)))))) = true
  · rw [if_pos c42] at H
    exact absurd H (by simp)
  rw [if_neg c42] at H
  have c42b0 : (!(t593 == 5) || (!(t594 == (wrap64 ((t557.length : Int) + (t560.length : Int)))))) = false := by simpa using c42
  clear c42
  replace H := Option.bind_eq_some_iff.mp H
  obtain ⟨⟨t596, t597⟩, A430, H⟩ := H
  replace H : (if (t596 == 5 && (t597 == 0)) = true then ((net_Check.f kj4 t556 ([] : List (S50)) t560).bind fun bt598 => (some (bt598.1 == 2 && (bt598.2 == 0)))) else (none)) = some r := H
  have A43 := Aside0.mk A430
  clear A430
  by_cases c44 : (t596 == 5 && (t597 == 0)) = true
  rotate_left
  · rw [if_neg c44] at H
    exact absurd H (by simp)
  rw [if_pos c44] at H
  have c44b0 : (t596 == 5 && (t597 == 0)) = true := c44
  (try (have c44b1 : decide (t596 = 5 && (t597 == 0)) = true := by simpa using c44))
  (try (have c44b2 : (t596 == 5 && (t597 == 0)) = true := by simpa using c44))
  clear c44
  replace H := Option.bind_eq_some_iff.mp H
  obtain ⟨⟨t598, t599⟩, A450, H⟩ := H
  replace H : (some (t598 == 2 && (t599 == 0))) = some r := H
  have A45 := Aside0.mk A450
  clear A450
  obtain rfl := Option.some.inj H
  have hnb46 := NB564_554.out
  have hnc46 := NB554_564.out
  obtain ⟨hcz47_0, hcz47_1, hcz47_2, hfz47_0, hfz47_1, hfz47_2⟩ := cf3 BK564.out
  try go_wp2_with (first | ((with_reducible refine gate_builtin (b := .append) (xs := #[.tmp 38, .tmp 40]) rfl ?_); (try (refine gate_guard (by rfl) ?_; dsimp only)); at_builtin; refine Kd.R_append_rows k50 (w0 := w) w.heap.size rfl (.tmp 38) (.tmp 40) 22 50 (.agg #[(.string ⟨#[]⟩), (.int .i64 0), (.int .i64 0)]) 32 rfl Try.underlying22 info50 rfl (by decide) (by omega) (.slice none 0 0) ([] : List (S50)) t557 _ _ _ (fun _ => True) (fun _ => False) rfl rfl ?aO ?aR (fun _ _ h => h) (fun _ h => h.elim) ?aF ?aB ?aS ?aL ?_; (case aR => repeat (first | exact (Kd.V_reads' HO_565001.out).2.2 | (with_reducible refine Kd.C_alloc ?_ _) | (with_reducible refine Kd.C_drewN ?_ _) | (with_reducible refine Kd.C_drew ?_))); (case aB => exact (by repeat (first | (with_reducible first | exact HB.out | apply below_alloc | apply pw_below_drewN | apply below_drew1 | refine below_set ?_ GE554.out | refine below_set ?_ GE564.out) | exact HB.out))); (case aF => exact (fun _ _ => trivial)); (case aO => exact ((Kd.R_nil _ _ _ _ (fun _ => True)))); (case aS => exact (below_size (by repeat (first | (with_reducible first | exact HB.out | apply below_alloc | apply pw_below_drewN | apply below_drew1 | refine below_set ?_ GE554.out | refine below_set ?_ GE564.out) | exact HB.out)))); (case aL => have := LMc31.out; omega); intro v567 w48 ho hb hg hat; rw [← Ny566.out] at ho; have n0_ := Aside0.mk (Kd.V_afterv (Kd.V_apart_nil (by (with_reducible repeat (first | apply Kd.V_alloc | apply Kd.V_drewN | apply Kd.V_drew)); exact HO_565001.out)) hg hat); have n1_ := Aside0.mk (Kd.V_afterv (Kd.V_apart_nil (by (with_reducible repeat (first | apply Kd.V_alloc | apply Kd.V_drewN | apply Kd.V_drew)); exact HO_565002.out)) hg hat); have n2_ := Aside0.mk (blk_grown (g := gb554) (o := .cells #[.string a0_0, .slice A0_1 l0_1.length c0_1, .slice A0_2 l0_2.length c0_2] 25 (0, 0)) (by (with_reducible repeat (first | refine blk_drewN ?_ _ | refine blk_drew ?_ | refine blk_alloc ?_ _)); exact BK554.out) hg (by simp [Value.ownBlock])); have n3_ := Aside0.mk (blk_grown (g := gb564) (o := .cells #[.string t556, .slice Ao13 t557.length co13, .slice Ao14 t560.length co14] 25 (0, 0)) (by (with_reducible repeat (first | refine blk_drewN ?_ _ | refine blk_drew ?_ | refine blk_alloc ?_ _)); exact BK564.out) hg (by simp [Value.ownBlock])); have n4_ := Aside0.mk (hb); have n5_ := Aside0.mk (ho); clear HO_565001; clear HO_565002; clear BK554; clear BK564; clear HB; have HO_565001 := n0_; have HO_565002 := n1_; have BK554 := n2_; have BK564 := n3_; have HB := n4_; have HO568 := n5_; clear n0_ n1_ n2_ n3_ n4_ n5_; clear ho hb hg hat; obtain ⟨hcz49_0, hcz49_1, hcz49_2, hfz49_0, hfz49_1, hfz49_2⟩ := cf3 BK564.out; have p569 : 0 ≤ (0 : Int) := (by omega); have q569 : 0 < (t557.length : Int) := dq; obtain ⟨ad569, e569, hx569_0, hx569_1, hx569_2⟩ := at_T50 (Kd.V_reads' HO_565001.out).2.2 0 p569 q569; cases e569; have qi569 : (0 < t557.length) = True := eq_true (by omega); (try rw [show ((0 : Int)).toNat = 0 from rfl] at hx569_0); (try rw [show 0 * 3 = 0 from rfl] at hx569_0); (try rw [Addr.add_zero'] at hx569_0); (try rw [show ((0 : Int)).toNat = 0 from rfl] at hx569_1); (try rw [show 0 * 3 = 0 from rfl] at hx569_1); (try rw [Addr.add_zero'] at hx569_1); (try rw [show ((0 : Int)).toNat = 0 from rfl] at hx569_2); (try rw [show 0 * 3 = 0 from rfl] at hx569_2); (try rw [Addr.add_zero'] at hx569_2); replace p569 := eq_true p569; replace q569 := eq_true q569) | ((with_reducible refine gate_builtin (b := .append) (xs := #[.tmp 42, .tmp 49]) rfl ?_); (try (refine gate_guard (by rfl) ?_; dsimp only)); at_builtin; refine Kd.R_append k50 (w0 := w) w.heap.size rfl (.tmp 42) (.tmp 49) 22 50 (.agg #[(.string ⟨#[]⟩), (.int .i64 0), (.int .i64 0)]) 32 rfl Try.underlying22 info50 rfl (by decide) (by omega) v567 y566 (⟨(rd_T50 t557 0).f0, 0, 0⟩ : S50) [.string ((rd_T50 t557 0).f0), .int .i64 0, .int .i64 0] (fun _ => True) (fun _ => False) rfl rfl ?aP (fun _ hk => hk.elim) ?aF ?aO ?aB ?aS ?aL ?_; (case aP => exact k50_mkM _ _ _ (⟨(rd_T50 t557 0).f0, 0, 0⟩ : S50)); (case aB => exact (by repeat (first | (with_reducible first | exact HB.out | apply below_alloc | apply pw_below_drewN | apply below_drew1 | refine below_set ?_ GE554.out | refine below_set ?_ GE564.out) | exact HB.out))); (case aF => exact (fun _ _ => trivial)); (case aO => exact (by (with_reducible repeat (first | apply Kd.R_alloc | apply Kd.R_drewN | apply Kd.R_drew)); exact HO568.out)); (case aS => exact (below_size (by repeat (first | (with_reducible first | exact HB.out | apply below_alloc | apply pw_below_drewN | apply below_drew1 | refine below_set ?_ GE554.out | refine below_set ?_ GE564.out) | exact HB.out)))); (case aL => have := LMc33.out; omega); intro v571 w50 ho hb hg hat; rw [← Ny570.out] at ho; have n0_ := Aside0.mk (Kd.V_afterv (ok := (fun k_ => k_ ≠ gb554 ∧ k_ ≠ gb564)) (by (with_reducible repeat (first | apply Kd.V_alloc | apply Kd.V_drewN | apply Kd.V_drew)); exact HO_565001.out) hg hat); have n1_ := Aside0.mk (Kd.V_afterv (ok := (fun k_ => k_ ≠ gb554 ∧ k_ ≠ gb564)) (by (with_reducible repeat (first | apply Kd.V_alloc | apply Kd.V_drewN | apply Kd.V_drew)); exact HO_565002.out) hg hat); have n2_ := Aside0.mk (blk_grown (g := gb554) (o := .cells #[.string a0_0, .slice A0_1 l0_1.length c0_1, .slice A0_2 l0_2.length c0_2] 25 (0, 0)) (by (with_reducible repeat (first | refine blk_drewN ?_ _ | refine blk_drew ?_ | refine blk_alloc ?_ _)); exact BK554.out) hg (Kd.R_ne HO568.out BK554.out (by decide))); have n3_ := Aside0.mk (blk_grown (g := gb564) (o := .cells #[.string t556, .slice (some ad569) t557.length co13, .slice Ao14 t560.length co14] 25 (0, 0)) (by (with_reducible repeat (first | refine blk_drewN ?_ _ | refine blk_drew ?_ | refine blk_alloc ?_ _)); exact BK564.out) hg (Kd.R_ne HO568.out BK564.out (by decide))); have n4_ := Aside0.mk (hb); have n5_ := Aside0.mk (ho); clear HO_565001; clear HO_565002; clear BK554; clear BK564; clear HB; clear HO568; have HO_565001 := n0_; have HO_565002 := n1_; have BK554 := n2_; have BK564 := n3_; have HB := n4_; have HO572 := n5_; clear n0_ n1_ n2_ n3_ n4_ n5_; clear ho hb hg hat; obtain ⟨hcz51_0, hcz51_1, hcz51_2, hfz51_0, hfz51_1, hfz51_2⟩ := cf3 BK564.out; obtain ⟨Ao52, co52, eo52⟩ := Kd.R_slice HO572.out; subst eo52) | ((with_reducible refine gate_dst (N := 6) rfl ?_); (try (refine gate_guard (by rfl) ?_; dsimp only)); refine box_event ?hg (N := 6) ?hd (cs := #[.string (⟨#[]⟩ : ByteArray), .slice none 0 0, .slice none 0 0]) (t := 25) ?hr ?_; (case hd => rfl); (case hg => rfl); (case hr => first | (go_simp; done) | (go_simp; rfl)); intro gb573 hg w53 hbox hb; have n0_ := Aside0.mk (Kd.V_below (Kd.V_elderB (by (with_reducible repeat (first | apply Kd.V_alloc | apply Kd.V_drewN | apply Kd.V_drew)); exact HO_565001.out) gb573 (Nat.le_of_eq hg.symm)) hb); have n1_ := Aside0.mk (Kd.V_below (Kd.V_elderB (by (with_reducible repeat (first | apply Kd.V_alloc | apply Kd.V_drewN | apply Kd.V_drew)); exact HO_565002.out) gb573 (Nat.le_of_eq hg.symm)) hb); have n2_ := Aside0.mk (Kd.R_below (by (with_reducible repeat (first | apply Kd.R_alloc | apply Kd.R_drewN | apply Kd.R_drew)); exact HO572.out) hb); have n3_ := Aside0.mk (blk_below (by (with_reducible repeat (first | refine blk_drewN ?_ _ | refine blk_drew ?_ | refine blk_alloc ?_ _)); exact BK554.out) hb); have n4_ := Aside0.mk (blk_below (by (with_reducible repeat (first | refine blk_drewN ?_ _ | refine blk_drew ?_ | refine blk_alloc ?_ _)); exact BK564.out) hb); have n5_ := Aside0.mk (below_step (by repeat (first | (with_reducible first | exact HB.out | apply below_alloc | apply pw_below_drewN | apply below_drew1 | refine below_set ?_ GE554.out | refine below_set ?_ GE564.out) | exact HB.out)) hb); have n6_ := Aside0.mk (hbox); have n7_ := Aside0.mk ((by rw [hg]; exact (below_size (by repeat (first | (with_reducible first | exact HB.out | apply below_alloc | apply pw_below_drewN | apply below_drew1 | refine below_set ?_ GE554.out | refine below_set ?_ GE564.out) | exact HB.out))) : w.heap.size ≤ gb573)); have n8_ := n7_; have n9_ := Aside0.mk ((by rw [hg]; exact Nat.ne_of_lt (blk_lt (by (with_reducible repeat (first | refine blk_drewN ?_ _ | refine blk_drew ?_ | refine blk_alloc ?_ _)); exact BK554.out)) : gb554 ≠ gb573)); have n10_ := Aside0.mk ((by rw [hg]; exact Nat.ne_of_gt (blk_lt (by (with_reducible repeat (first | refine blk_drewN ?_ _ | refine blk_drew ?_ | refine blk_alloc ?_ _)); exact BK554.out)) : gb573 ≠ gb554)); have n11_ := Aside0.mk ((by rw [hg]; exact Nat.ne_of_lt (blk_lt (by (with_reducible repeat (first | refine blk_drewN ?_ _ | refine blk_drew ?_ | refine blk_alloc ?_ _)); exact BK564.out)) : gb564 ≠ gb573)); have n12_ := Aside0.mk ((by rw [hg]; exact Nat.ne_of_gt (blk_lt (by (with_reducible repeat (first | refine blk_drewN ?_ _ | refine blk_drew ?_ | refine blk_alloc ?_ _)); exact BK564.out)) : gb573 ≠ gb564)); clear HO_565001; clear HO_565002; clear HO572; clear BK554; clear BK564; clear HB; have HO_565001 := n0_; have HO_565002 := n1_; have HO572 := n2_; have BK554 := n3_; have BK564 := n4_; have HB := n5_; have BK573 := n6_; have GW573 := n7_; have GE573 := n8_; have NB554_573 := n9_; have NB573_554 := n10_; have NB564_573 := n11_; have NB573_564 := n12_; clear n0_ n1_ n2_ n3_ n4_ n5_ n6_ n7_ n8_ n9_ n10_ n11_ n12_; clear hb hbox hg; have hnb54 := NB573_554.out; have hnc54 := NB554_573.out; have hnb55 := NB573_564.out; have hnc55 := NB564_573.out; obtain ⟨hcz56_0, hcz56_1, hcz56_2, hfz56_0, hfz56_1, hfz56_2⟩ := cf3 BK573.out))
  have n0_ : Aside0 (Kd.V k50 50 (((w53.setCell ⟨gb573, 0, none⟩ (.string t556)).setCell ⟨gb573, 1, none⟩ (.slice Ao52 y570.length co52)).setCell ⟨gb573, 2, none⟩ (.slice Ao14 t560.length co14)) w.heap.size (fun k_ => some k_ ≠ (.slice Ao52 y570.length co52 : Value).ownBlock ∧ k_ ≠ gb554 ∧ k_ ≠ gb564 ∧ k_ ≠ gb573) (.slice (some ad569) t557.length co13) t557) := ⟨by (with_reducible repeat (first | apply Kd.V_alloc | apply Kd.V_drewN | apply Kd.V_drew)); exact Kd.V_mono (Kd.V_far (p := ⟨gb573, 2, none⟩) (Kd.V_far (p := ⟨gb573, 1, none⟩) (Kd.V_far (p := ⟨gb573, 0, none⟩) (Kd.V_mono HO_565001.out (fun k_ hk => (⟨hk, hk.2⟩ : _ ∧ k_ ≠ gb573))) (fun _ hk => hk.2) (.string t556)) (fun _ hk => hk.2) (.slice Ao52 y570.length co52)) (fun _ hk => hk.2) (.slice Ao14 t560.length co14)) (fun _ hk => ⟨hk.1.1.2, ⟨hk.1.1.1.1, ⟨hk.1.1.1.2, hk.1.2⟩⟩⟩)⟩
  have n1_ : Aside0 (Kd.V k53 53 (((w53.setCell ⟨gb573, 0, none⟩ (.string t556)).setCell ⟨gb573, 1, none⟩ (.slice Ao52 y570.length co52)).setCell ⟨gb573, 2, none⟩ (.slice Ao14 t560.length co14)) w.heap.size (fun k_ => some k_ ≠ (.slice Ao52 y570.length co52 : Value).ownBlock ∧ k_ ≠ gb554 ∧ k_ ≠ gb564 ∧ k_ ≠ gb573) (.slice Ao14 t560.length co14) t560) := ⟨by (with_reducible repeat (first | apply Kd.V_alloc | apply Kd.V_drewN | apply Kd.V_drew)); exact Kd.V_mono (Kd.V_far (p := ⟨gb573, 2, none⟩) (Kd.V_far (p := ⟨gb573, 1, none⟩) (Kd.V_far (p := ⟨gb573, 0, none⟩) (Kd.V_mono HO_565002.out (fun k_ hk => (⟨hk, hk.2⟩ : _ ∧ k_ ≠ gb573))) (fun _ hk => hk.2) (.string t556)) (fun _ hk => hk.2) (.slice Ao52 y570.length co52)) (fun _ hk => hk.2) (.slice Ao14 t560.length co14)) (fun _ hk => ⟨hk.1.1.2, ⟨hk.1.1.1.1, ⟨hk.1.1.1.2, hk.1.2⟩⟩⟩)⟩
  have n2_ : Aside0 (Kd.R k50 50 (((w53.setCell ⟨gb573, 0, none⟩ (.string t556)).setCell ⟨gb573, 1, none⟩ (.slice Ao52 y570.length co52)).setCell ⟨gb573, 2, none⟩ (.slice Ao14 t560.length co14)) w.heap.size (fun _ => True) (.slice Ao52 y570.length co52) y570) := ⟨by (with_reducible repeat (first | apply Kd.R_alloc | apply Kd.R_drewN | apply Kd.R_drew)); exact Kd.R_mono (Kd.R_far (p := ⟨gb573, 2, none⟩) (Kd.R_far (p := ⟨gb573, 1, none⟩) (Kd.R_far (p := ⟨gb573, 0, none⟩) (Kd.R_types HO572.out BK573.out (by decide)) (fun _ hk => hk.2) (.string t556)) (fun _ hk => hk.2) (.slice Ao52 y570.length co52)) (fun _ hk => hk.2) (.slice Ao14 t560.length co14)) (fun _ hk => trivial)⟩
  have n3_ : Aside0 ((((w53.setCell ⟨gb573, 0, none⟩ (.string t556)).setCell ⟨gb573, 1, none⟩ (.slice Ao52 y570.length co52)).setCell ⟨gb573, 2, none⟩ (.slice Ao14 t560.length co14)).heap[gb554]? = some (.cells #[.string a0_0, .slice A0_1 l0_1.length c0_1, .slice A0_2 l0_2.length c0_2] 25 (0, 0))) := ⟨by (with_reducible repeat (first | refine blk_drewN ?_ _ | refine blk_drew ?_ | refine blk_alloc ?_ _)); refine blk_far ?_ NB554_573.out _; (with_reducible repeat (first | refine blk_drewN ?_ _ | refine blk_drew ?_ | refine blk_alloc ?_ _)); refine blk_far ?_ NB554_573.out _; (with_reducible repeat (first | refine blk_drewN ?_ _ | refine blk_drew ?_ | refine blk_alloc ?_ _)); refine blk_far ?_ NB554_573.out _; (with_reducible repeat (first | refine blk_drewN ?_ _ | refine blk_drew ?_ | refine blk_alloc ?_ _)); exact BK554.out⟩
  have n4_ : Aside0 ((((w53.setCell ⟨gb573, 0, none⟩ (.string t556)).setCell ⟨gb573, 1, none⟩ (.slice Ao52 y570.length co52)).setCell ⟨gb573, 2, none⟩ (.slice Ao14 t560.length co14)).heap[gb564]? = some (.cells #[.string t556, .slice (some ad569) t557.length co13, .slice Ao14 t560.length co14] 25 (0, 0))) := ⟨by (with_reducible repeat (first | refine blk_drewN ?_ _ | refine blk_drew ?_ | refine blk_alloc ?_ _)); refine blk_far ?_ NB564_573.out _; (with_reducible repeat (first | refine blk_drewN ?_ _ | refine blk_drew ?_ | refine blk_alloc ?_ _)); refine blk_far ?_ NB564_573.out _; (with_reducible repeat (first | refine blk_drewN ?_ _ | refine blk_drew ?_ | refine blk_alloc ?_ _)); refine blk_far ?_ NB564_573.out _; (with_reducible repeat (first | refine blk_drewN ?_ _ | refine blk_drew ?_ | refine blk_alloc ?_ _)); exact BK564.out⟩
  have n5_ : Aside0 ((((w53.setCell ⟨gb573, 0, none⟩ (.string t556)).setCell ⟨gb573, 1, none⟩ (.slice Ao52 y570.length co52)).setCell ⟨gb573, 2, none⟩ (.slice Ao14 t560.length co14)).heap[gb573]? = some (.cells #[.string t556, .slice Ao52 y570.length co52, .slice Ao14 t560.length co14] 25 (0, 0))) := ⟨by (with_reducible repeat (first | refine blk_drewN ?_ _ | refine blk_drew ?_ | refine blk_alloc ?_ _)); refine blk_put (cs := #[.string t556, .slice Ao52 y570.length co52, .slice none 0 0]) ?_ 2 _ rfl; (with_reducible repeat (first | refine blk_drewN ?_ _ | refine blk_drew ?_ | refine blk_alloc ?_ _)); refine blk_put (cs := #[.string t556, .slice none 0 0, .slice none 0 0]) ?_ 1 _ rfl; (with_reducible repeat (first | refine blk_drewN ?_ _ | refine blk_drew ?_ | refine blk_alloc ?_ _)); refine blk_put (cs := #[.string (⟨#[]⟩ : ByteArray), .slice none 0 0, .slice none 0 0]) ?_ 0 _ rfl; (with_reducible repeat (first | refine blk_drewN ?_ _ | refine blk_drew ?_ | refine blk_alloc ?_ _)); exact BK573.out⟩
  have n6_ : Aside0 (Below w.heap.size w (((w53.setCell ⟨gb573, 0, none⟩ (.string t556)).setCell ⟨gb573, 1, none⟩ (.slice Ao52 y570.length co52)).setCell ⟨gb573, 2, none⟩ (.slice Ao14 t560.length co14))) := ⟨by repeat (first | (with_reducible first | exact HB.out | apply below_alloc | apply pw_below_drewN | apply below_drew1 | refine below_set ?_ GE554.out | refine below_set ?_ GE564.out | refine below_set ?_ GE573.out) | exact HB.out)⟩
  (try clear HO_565001)
  (try clear HO_565002)
  (try clear HO572)
  (try clear BK554)
  (try clear BK564)
  (try clear BK573)
  (try clear HB)
  generalize (((w53.setCell ⟨gb573, 0, none⟩ (.string t556)).setCell ⟨gb573, 1, none⟩ (.slice Ao52 y570.length co52)).setCell ⟨gb573, 2, none⟩ (.slice Ao14 t560.length co14)) = w57 at n0_ n1_ n2_ n3_ n4_ n5_ n6_ ⊢
  have HO_565001 := n0_
  have HO_565002 := n1_
  have HO572 := n2_
  have BK554 := n3_
  have BK564 := n4_
  have BK573 := n5_
  have HB := n6_
  clear n0_ n1_ n2_ n3_ n4_ n5_ n6_
  have n0_ := Aside0.mk (Kd.V_drew HO_565001.out)
  have n1_ := Aside0.mk (Kd.V_drew HO_565002.out)
  have n2_ := Aside0.mk (Kd.R_drew HO572.out)
  have n3_ := Aside0.mk (blk_drew BK554.out)
  have n4_ := Aside0.mk (blk_drew BK564.out)
  have n5_ := Aside0.mk (blk_drew BK573.out)
  have n6_ := Aside0.mk (below_drew1 HB.out)
  clear HO_565001 HO_565002 HO572 BK554 BK564 BK573 HB
  have HO_565001 := n0_
  have HO_565002 := n1_
  have HO572 := n2_
  have BK554 := n3_
  have BK564 := n4_
  have BK573 := n5_
  have HB := n6_
  clear n0_ n1_ n2_ n3_ n4_ n5_ n6_
  refine start_ (n := 7) (S := fun w' => w'.cell? ⟨gb573, 0, none⟩ = some (.string t556) ∧ w'.cell? ⟨gb573, 1, none⟩ = some (.slice Ao52 y570.length co52) ∧ w'.cell? ⟨gb573, 2, none⟩ = some (.slice Ao14 t560.length co14) ∧ w'.cell? ⟨gb564, 0, none⟩ = some (.string t556) ∧ w'.cell? ⟨gb564, 1, none⟩ = some (.slice (some ad569) t557.length co13) ∧ w'.cell? ⟨gb564, 2, none⟩ = some (.slice Ao14 t560.length co14)) (ds := []) #[false, false, false, false, false, false, false] (by kernel_rfl) rfl rfl ⟨(blk_cell BK573.out 0).trans rfl, (blk_cell BK573.out 1).trans rfl, (blk_cell BK573.out 2).trans rfl, (blk_cell BK564.out 0).trans rfl, (blk_cell BK564.out 1).trans rfl, (blk_cell BK564.out 2).trans rfl⟩ (fun hHeld => ?_)
  generalize w57.drew = w58 at HO_565001 HO_565002 HO572 BK554 BK564 BK573 HB hHeld ⊢
  refine pure_ (i := 2) (N := some 59) (v := ?_) (a' := ?_) #[false, false, true, false, false, false, false] rfl rfl (by kernel_rfl) (fun _ _ _ h => h) (Or.inl ⟨by rfl, ?_⟩) ?_ ?_
  rotate_left
  · intro w'
    go_simp
    with_reducible rfl
  rotate_left
  · simp only [Act.put, List.setIfInBounds_toArray, List.set_cons_zero, List.set_cons_succ, i64_w, i32_w]
    rfl
  refine take_ (i := 0) (N := some 57) (v := ?_) (a' := ?_) #[true, false, true, false, false, false, false] rfl rfl (by kernel_rfl) (fun _ _ _ h => h) (Or.inl ⟨by rfl, ?_⟩) hHeld ?_ ?_
  rotate_left
  · rintro w' ⟨s0, s1, s2, s3, s4, s5⟩
    go_simp
    with_reducible rfl
  rotate_left
  · simp only [Act.put, List.setIfInBounds_toArray, List.set_cons_zero, List.set_cons_succ, i64_w, i32_w]
    rfl
  refine take_ (i := 3) (N := some 60) (v := ?_) (a' := ?_) #[true, false, true, true, false, false, false] rfl rfl (by kernel_rfl) (fun _ _ _ h => h) (Or.inl ⟨by rfl, ?_⟩) hHeld ?_ ?_
  rotate_left
  · rintro w' ⟨s0, s1, s2, s3, s4, s5⟩
    go_simp
    with_reducible rfl
  rotate_left
  · simp only [Act.put, List.setIfInBounds_toArray, List.set_cons_zero, List.set_cons_succ, i64_w, i32_w]
    rfl
  refine pure_ (i := 4) (N := some 61) (v := ?_) (a' := ?_) #[true, false, true, true, true, false, false] rfl rfl (by kernel_rfl) (fun _ _ _ h => h) (Or.inl ⟨by rfl, ?_⟩) ?_ ?_
  rotate_left
  · intro w'
    go_simp
    with_reducible rfl
  rotate_left
  · simp only [Act.put, List.setIfInBounds_toArray, List.set_cons_zero, List.set_cons_succ, i64_w, i32_w]
    rfl
  refine pure_ (i := 5) (N := some 62) (v := ?_) (a' := ?_) #[true, false, true, true, true, true, false] rfl rfl (by kernel_rfl) (fun _ _ _ h => h) (Or.inl ⟨by rfl, ?_⟩) ?_ ?_
  rotate_left
  · intro w'
    go_simp
    with_reducible rfl
  rotate_left
  · simp only [Act.put, List.setIfInBounds_toArray, List.set_cons_zero, List.set_cons_succ, i64_w, i32_w]
    rfl
  refine one_ (i := 1) (N := some 58) #[true, true, true, true, true, true, false] rfl rfl (by kernel_rfl) (by decide) (fun K hK => ?_)
  refine goes_ Try.func13 (by kernel_rfl) rfl #[.agg #[.string t556, .slice Ao52 y570.length co52, .slice Ao14 t560.length co14]] (by rfl) rfl rfl pgz ?_
  with_reducible refine (net_Check.calls kj4 t556 _ _ y570 _ _ t560 t574 t575 _ ?side1 ?side2 ?side3 ?side4 A34.out).mono ?_
  (case side1 => repeat (first | exact (Kd.R_reads' HO572.out).2.2 | (with_reducible refine Kd.C_alloc ?_ _) | (with_reducible refine Kd.C_drewN ?_ _) | (with_reducible refine Kd.C_drew ?_)))
  (case side2 => exact (Kd.R_reads' HO572.out).2.1)
  (case side3 => repeat (first | exact (Kd.V_reads' HO_565002.out).2.2 | (with_reducible refine Kd.C_alloc ?_ _) | (with_reducible refine Kd.C_drewN ?_ _) | (with_reducible refine Kd.C_drew ?_)))
  (case side4 => exact (Kd.V_reads' HO_565002.out).2.1)
  rintro e w59 ⟨rfl, hb⟩
  refine ⟨_, rfl, ?_⟩
  have n0_ := Aside0.mk (Kd.V_below (by (with_reducible repeat (first | apply Kd.V_alloc | apply Kd.V_drewN | apply Kd.V_drew)); exact HO_565001.out) hb)
  have n1_ := Aside0.mk (Kd.V_below (by (with_reducible repeat (first | apply Kd.V_alloc | apply Kd.V_drewN | apply Kd.V_drew)); exact HO_565002.out) hb)
  have n2_ := Aside0.mk (Kd.R_below (by (with_reducible repeat (first | apply Kd.R_alloc | apply Kd.R_drewN | apply Kd.R_drew)); exact HO572.out) hb)
  have n3_ := Aside0.mk (blk_below (by (with_reducible repeat (first | refine blk_drewN ?_ _ | refine blk_drew ?_ | refine blk_alloc ?_ _)); exact BK554.out) hb)
  have n4_ := Aside0.mk (blk_below (by (with_reducible repeat (first | refine blk_drewN ?_ _ | refine blk_drew ?_ | refine blk_alloc ?_ _)); exact BK564.out) hb)
  have n5_ := Aside0.mk (blk_below (by (with_reducible repeat (first | refine blk_drewN ?_ _ | refine blk_drew ?_ | refine blk_alloc ?_ _)); exact BK573.out) hb)
  have n6_ := Aside0.mk (below_step (by repeat (first | (with_reducible first | exact HB.out | apply below_alloc | apply pw_below_drewN | apply below_drew1 | refine below_set ?_ GE554.out | refine below_set ?_ GE564.out | refine below_set ?_ GE573.out) | exact HB.out)) hb)
  clear HO_565001 HO_565002 HO572 BK554 BK564 BK573 HB
  have HO_565001 := n0_
  have HO_565002 := n1_
  have HO572 := n2_
  have BK554 := n3_
  have BK564 := n4_
  have BK573 := n5_
  have HB := n6_
  clear n0_ n1_ n2_ n3_ n4_ n5_ n6_
  (try clear hb)
  (try clear hb2)
  (try clear hk)
  (try clear hi)
  refine hK.out _ _ ⟨(blk_cell BK573.out 0).trans rfl, (blk_cell BK573.out 1).trans rfl, (blk_cell BK573.out 2).trans rfl, (blk_cell BK564.out 0).trans rfl, (blk_cell BK564.out 1).trans rfl, (blk_cell BK564.out 2).trans rfl⟩ (fun hHeld => ?_)
  clear hK K
  refine norm_ (a' := ?_) ?_ ?_
  rotate_left
  · show Act.put _ (some 58) _ = _
    simp only [Act.put, List.setIfInBounds_toArray, List.set_cons_zero, List.set_cons_succ, i64_w, i32_w]
    rfl
  refine pure_ (i := 6) (N := some 63) (v := ?_) (a' := ?_) #[true, true, true, true, true, true, true] rfl rfl (by kernel_rfl) (fun _ _ _ h => h) (Or.inl ⟨by rfl, ?_⟩) ?_ ?_
  rotate_left
  · intro w'
    go_simp
    with_reducible rfl
  rotate_left
  · simp only [Act.put, List.setIfInBounds_toArray, List.set_cons_zero, List.set_cons_succ, i64_w, i32_w]
    rfl
  refine done_ (by kernel_rfl) ?_
  obtain ⟨hcz60_0, hcz60_1, hcz60_2, hfz60_0, hfz60_1, hfz60_2⟩ := cf3 BK564.out
  try go_wp2_with (first | ((with_reducible refine gate_builtin (b := .append) (xs := #[.tmp 64, .tmp 66]) rfl ?_); (try (refine gate_guard (by rfl) ?_; dsimp only)); at_builtin; refine Kd.N_append_rows k53 (w0 := w) w.heap.size rfl (.tmp 64) (.tmp 66) 23 53 (.agg #[(.string ⟨#[]⟩), (.slice none 0 0), (.slice none 0 0), (.slice none 0 0), (.int .i64 0)]) 96 rfl Try.underlying23 info53 rfl (by decide) (by omega) (.slice none 0 0) ([] : List (S53)) t560 _ _ _ (fun k_ => some k_ ≠ (.slice Ao52 y570.length co52 : Value).ownBlock ∧ k_ ≠ gb554 ∧ k_ ≠ gb564 ∧ k_ ≠ gb573) (fun k_ => ((fun k_ => some k_ ≠ (.slice Ao52 y570.length co52 : Value).ownBlock ∧ k_ ≠ gb554 ∧ k_ ≠ gb564 ∧ k_ ≠ gb573)) k_ ∧ some k_ ≠ (.slice none 0 0 : Value).ownBlock) rfl rfl ?aO ?aR (fun _ hk => hk) ?aF ?aB ?aS ?aL ?_; (case aR => exact (by skip; exact Kd.V_F (Kd.V_mono (ok' := (fun k_ => ((fun k_ => some k_ ≠ (.slice Ao52 y570.length co52 : Value).ownBlock ∧ k_ ≠ gb554 ∧ k_ ≠ gb564 ∧ k_ ≠ gb573)) k_ ∧ some k_ ≠ (.slice none 0 0 : Value).ownBlock)) (HO_565002.out) (fun k_ hk => ⟨⟨hk.1, ⟨hk.2.1, ⟨hk.2.2.1, hk.2.2.2⟩⟩⟩, (by simp [Value.ownBlock])⟩)))); (case aB => exact (by repeat (first | (with_reducible first | exact HB.out | apply below_alloc | apply pw_below_drewN | apply below_drew1 | refine below_set ?_ GE554.out | refine below_set ?_ GE564.out | refine below_set ?_ GE573.out) | exact HB.out))); (case aF => exact (fun k_ hk => ⟨Kd.fresh' (Kd.R_lt (by (with_reducible repeat (first | apply Kd.R_alloc | apply Kd.R_drewN | apply Kd.R_drew)); exact HO572.out)) k_ hk, Kd.freshB (g := gb554) (o := .cells #[.string a0_0, .slice A0_1 l0_1.length c0_1, .slice A0_2 l0_2.length c0_2] 25 (0, 0)) (by (with_reducible repeat (first | refine blk_drewN ?_ _ | refine blk_drew ?_ | refine blk_alloc ?_ _)); exact BK554.out) k_ hk, Kd.freshB (g := gb564) (o := .cells #[.string t556, .slice (some ad569) t557.length co13, .slice Ao14 t560.length co14] 25 (0, 0)) (by (with_reducible repeat (first | refine blk_drewN ?_ _ | refine blk_drew ?_ | refine blk_alloc ?_ _)); exact BK564.out) k_ hk, Kd.freshB (g := gb573) (o := .cells #[.string t556, .slice Ao52 y570.length co52, .slice Ao14 t560.length co14] 25 (0, 0)) (by (with_reducible repeat (first | refine blk_drewN ?_ _ | refine blk_drew ?_ | refine blk_alloc ?_ _)); exact BK573.out) k_ hk⟩)); (case aO => exact ((Kd.N_nil _ _ _ _ (fun k_ => some k_ ≠ (.slice Ao52 y570.length co52 : Value).ownBlock ∧ k_ ≠ gb554 ∧ k_ ≠ gb564 ∧ k_ ≠ gb573)))); (case aS => exact (below_size (by repeat (first | (with_reducible first | exact HB.out | apply below_alloc | apply pw_below_drewN | apply below_drew1 | refine below_set ?_ GE554.out | refine below_set ?_ GE564.out | refine below_set ?_ GE573.out) | exact HB.out)))); (case aL => have := LMc36.out; omega); intro v577 w61 ho hb hg hat; rw [← Ny576.out] at ho; have n0_ := Aside0.mk (Kd.V_afterv (Kd.V_apart_nil (by (with_reducible repeat (first | apply Kd.V_alloc | apply Kd.V_drewN | apply Kd.V_drew)); exact HO_565001.out)) hg hat); have n1_ := Aside0.mk (Kd.V_afterv (Kd.V_apart_nil (by (with_reducible repeat (first | apply Kd.V_alloc | apply Kd.V_drewN | apply Kd.V_drew)); exact HO_565002.out)) hg hat); have n2_ := Aside0.mk (blk_grown (g := gb554) (o := .cells #[.string a0_0, .slice A0_1 l0_1.length c0_1, .slice A0_2 l0_2.length c0_2] 25 (0, 0)) (by (with_reducible repeat (first | refine blk_drewN ?_ _ | refine blk_drew ?_ | refine blk_alloc ?_ _)); exact BK554.out) hg (by simp [Value.ownBlock])); have n3_ := Aside0.mk (blk_grown (g := gb564) (o := .cells #[.string t556, .slice (some ad569) t557.length co13, .slice Ao14 t560.length co14] 25 (0, 0)) (by (with_reducible repeat (first | refine blk_drewN ?_ _ | refine blk_drew ?_ | refine blk_alloc ?_ _)); exact BK564.out) hg (by simp [Value.ownBlock])); have n4_ := Aside0.mk (Kd.R_grown (by (with_reducible repeat (first | apply Kd.R_alloc | apply Kd.R_drewN | apply Kd.R_drew)); exact HO572.out) hg (fun _ _ => by simp [Value.ownBlock])); have n5_ := Aside0.mk (blk_grown (g := gb573) (o := .cells #[.string t556, .slice Ao52 y570.length co52, .slice Ao14 t560.length co14] 25 (0, 0)) (by (with_reducible repeat (first | refine blk_drewN ?_ _ | refine blk_drew ?_ | refine blk_alloc ?_ _)); exact BK573.out) hg (by simp [Value.ownBlock])); have n6_ := Aside0.mk (hb); have n7_ := Aside0.mk (ho); clear HO_565001; clear HO_565002; clear BK554; clear BK564; clear HO572; clear BK573; clear HB; have HO_565001 := n0_; have HO_565002 := n1_; have BK554 := n2_; have BK564 := n3_; have HO572 := n4_; have BK573 := n5_; have HB := n6_; have HO578 := n7_; clear n0_ n1_ n2_ n3_ n4_ n5_ n6_ n7_; clear ho hb hg hat; obtain ⟨hcz62_0, hcz62_1, hcz62_2, hfz62_0, hfz62_1, hfz62_2⟩ := cf3 BK564.out; have p579 : 0 ≤ (0 : Int) := (by omega); have q579 : 0 < (t557.length : Int) := dq; obtain ⟨ad579, e579, hx579_0, hx579_1, hx579_2⟩ := at_T50 (Kd.V_reads' HO_565001.out).2.2 0 p579 q579; obtain rfl : ad569 = ad579 := (by injection e579); have qi579 : (0 < t557.length) = True := eq_true (by omega); (try rw [show ((0 : Int)).toNat = 0 from rfl] at hx579_0); (try rw [show 0 * 3 = 0 from rfl] at hx579_0); (try rw [Addr.add_zero'] at hx579_0); (try rw [show ((0 : Int)).toNat = 0 from rfl] at hx579_1); (try rw [show 0 * 3 = 0 from rfl] at hx579_1); (try rw [Addr.add_zero'] at hx579_1); (try rw [show ((0 : Int)).toNat = 0 from rfl] at hx579_2); (try rw [show 0 * 3 = 0 from rfl] at hx579_2); (try rw [Addr.add_zero'] at hx579_2); replace p579 := eq_true p579; replace q579 := eq_true q579) | ((with_reducible refine gate_builtin (b := .append) (xs := #[.tmp 68, .tmp 75]) rfl ?_); (try (refine gate_guard (by rfl) ?_; dsimp only)); at_builtin; refine Kd.N_append k53 (w0 := w) w.heap.size rfl (.tmp 68) (.tmp 75) 23 53 (.agg #[(.string ⟨#[]⟩), (.slice none 0 0), (.slice none 0 0), (.slice none 0 0), (.int .i64 0)]) 96 rfl Try.underlying23 info53 rfl (by decide) (by omega) v577 y576 (⟨(rd_T50 t557 0).f0, ([] : List (S64)), ([] : List (S64)), ([] : List (S64)), 0⟩ : S53) [.string ((rd_T50 t557 0).f0), .slice none 0 0, .slice none 0 0, .slice none 0 0, .int .i64 0] (fun k_ => some k_ ≠ (.slice Ao52 y570.length co52 : Value).ownBlock ∧ k_ ≠ gb554 ∧ k_ ≠ gb564 ∧ k_ ≠ gb573) (fun k_ => ((fun k_ => some k_ ≠ (.slice Ao52 y570.length co52 : Value).ownBlock ∧ k_ ≠ gb554 ∧ k_ ≠ gb564 ∧ k_ ≠ gb573)) k_ ∧ some k_ ≠ (v577 : Value).ownBlock) rfl rfl ?aP (fun _ hk => hk) ?aF ?aO ?aB ?aS ?aL ?_; (case aP => exact (k53_mkF _ _ (⟨(rd_T50 t557 0).f0, ([] : List (S64)), ([] : List (S64)), ([] : List (S64)), 0⟩ : S53) (Nat.le_refl _) (Kd.F_nil _ _ _) (Nat.le_refl _) (Kd.F_nil _ _ _) (Nat.le_refl _) (Kd.F_nil _ _ _))); (case aB => exact (by repeat (first | (with_reducible first | exact HB.out | apply below_alloc | apply pw_below_drewN | apply below_drew1 | refine below_set ?_ GE554.out | refine below_set ?_ GE564.out | refine below_set ?_ GE573.out) | exact HB.out))); (case aF => exact (fun k_ hk => ⟨Kd.fresh' (Kd.R_lt (by (with_reducible repeat (first | apply Kd.R_alloc | apply Kd.R_drewN | apply Kd.R_drew)); exact HO572.out)) k_ hk, Kd.freshB (g := gb554) (o := .cells #[.string a0_0, .slice A0_1 l0_1.length c0_1, .slice A0_2 l0_2.length c0_2] 25 (0, 0)) (by (with_reducible repeat (first | refine blk_drewN ?_ _ | refine blk_drew ?_ | refine blk_alloc ?_ _)); exact BK554.out) k_ hk, Kd.freshB (g := gb564) (o := .cells #[.string t556, .slice (some ad569) t557.length co13, .slice Ao14 t560.length co14] 25 (0, 0)) (by (with_reducible repeat (first | refine blk_drewN ?_ _ | refine blk_drew ?_ | refine blk_alloc ?_ _)); exact BK564.out) k_ hk, Kd.freshB (g := gb573) (o := .cells #[.string t556, .slice Ao52 y570.length co52, .slice Ao14 t560.length co14] 25 (0, 0)) (by (with_reducible repeat (first | refine blk_drewN ?_ _ | refine blk_drew ?_ | refine blk_alloc ?_ _)); exact BK573.out) k_ hk⟩)); (case aO => exact (by (with_reducible repeat (first | apply Kd.N_alloc | apply Kd.N_drewN | apply Kd.N_drew)); exact HO578.out)); (case aS => exact (below_size (by repeat (first | (with_reducible first | exact HB.out | apply below_alloc | apply pw_below_drewN | apply below_drew1 | refine below_set ?_ GE554.out | refine below_set ?_ GE564.out | refine below_set ?_ GE573.out) | exact HB.out)))); (case aL => have := LMc37.out; omega); intro v581 w63 ho hb hg hat; rw [← Ny580.out] at ho; have n0_ := Aside0.mk (Kd.V_afterv (ok := (fun k_ => some k_ ≠ (.slice Ao52 y570.length co52 : Value).ownBlock ∧ k_ ≠ gb554 ∧ k_ ≠ gb564 ∧ k_ ≠ gb573)) (by (with_reducible repeat (first | apply Kd.V_alloc | apply Kd.V_drewN | apply Kd.V_drew)); exact HO_565001.out) hg hat); have n1_ := Aside0.mk (Kd.V_afterv (ok := (fun k_ => some k_ ≠ (.slice Ao52 y570.length co52 : Value).ownBlock ∧ k_ ≠ gb554 ∧ k_ ≠ gb564 ∧ k_ ≠ gb573)) (by (with_reducible repeat (first | apply Kd.V_alloc | apply Kd.V_drewN | apply Kd.V_drew)); exact HO_565002.out) hg hat); have n2_ := Aside0.mk (blk_grown (g := gb554) (o := .cells #[.string a0_0, .slice A0_1 l0_1.length c0_1, .slice A0_2 l0_2.length c0_2] 25 (0, 0)) (by (with_reducible repeat (first | refine blk_drewN ?_ _ | refine blk_drew ?_ | refine blk_alloc ?_ _)); exact BK554.out) hg (Kd.N_ne HO578.out BK554.out (by decide))); have n3_ := Aside0.mk (blk_grown (g := gb564) (o := .cells #[.string t556, .slice (some ad569) t557.length co13, .slice Ao14 t560.length co14] 25 (0, 0)) (by (with_reducible repeat (first | refine blk_drewN ?_ _ | refine blk_drew ?_ | refine blk_alloc ?_ _)); exact BK564.out) hg (Kd.N_ne HO578.out BK564.out (by decide))); have n4_ := Aside0.mk (Kd.R_over' (by (with_reducible repeat (first | apply Kd.R_alloc | apply Kd.R_drewN | apply Kd.R_drew)); exact HO572.out) (Kd.N_typed (by (with_reducible repeat (first | apply Kd.N_alloc | apply Kd.N_drewN | apply Kd.N_drew)); exact HO578.out)) (by decide) hg); have n5_ := Aside0.mk (blk_grown (g := gb573) (o := .cells #[.string t556, .slice Ao52 y570.length co52, .slice Ao14 t560.length co14] 25 (0, 0)) (by (with_reducible repeat (first | refine blk_drewN ?_ _ | refine blk_drew ?_ | refine blk_alloc ?_ _)); exact BK573.out) hg (Kd.N_ne HO578.out BK573.out (by decide))); have n6_ := Aside0.mk (hb); have n7_ := Aside0.mk (ho); clear HO_565001; clear HO_565002; clear BK554; clear BK564; clear HO572; clear BK573; clear HB; clear HO578; have HO_565001 := n0_; have HO_565002 := n1_; have BK554 := n2_; have BK564 := n3_; have HO572 := n4_; have BK573 := n5_; have HB := n6_; have HO582 := n7_; clear n0_ n1_ n2_ n3_ n4_ n5_ n6_ n7_; clear ho hb hg hat; obtain ⟨hcz64_0, hcz64_1, hcz64_2, hfz64_0, hfz64_1, hfz64_2⟩ := cf3 BK564.out; obtain ⟨Ao65, co65, eo65⟩ := Kd.N_slice HO582.out; subst eo65) | ((with_reducible refine gate_dst (N := 8) rfl ?_); (try (refine gate_guard (by rfl) ?_; dsimp only)); refine box_event ?hg (N := 8) ?hd (cs := #[.string (⟨#[]⟩ : ByteArray), .slice none 0 0, .slice none 0 0]) (t := 25) ?hr ?_; (case hd => rfl); (case hg => rfl); (case hr => first | (go_simp; done) | (go_simp; rfl)); intro gb583 hg w66 hbox hb; have n0_ := Aside0.mk (Kd.V_below (Kd.V_elderB (by (with_reducible repeat (first | apply Kd.V_alloc | apply Kd.V_drewN | apply Kd.V_drew)); exact HO_565001.out) gb583 (Nat.le_of_eq hg.symm)) hb); have n1_ := Aside0.mk (Kd.V_below (Kd.V_elderB (by (with_reducible repeat (first | apply Kd.V_alloc | apply Kd.V_drewN | apply Kd.V_drew)); exact HO_565002.out) gb583 (Nat.le_of_eq hg.symm)) hb); have n2_ := Aside0.mk (Kd.R_below (by (with_reducible repeat (first | apply Kd.R_alloc | apply Kd.R_drewN | apply Kd.R_drew)); exact HO572.out) hb); have n3_ := Aside0.mk (Kd.N_below (Kd.N_elderB (by (with_reducible repeat (first | apply Kd.N_alloc | apply Kd.N_drewN | apply Kd.N_drew)); exact HO582.out) gb583 (Nat.le_of_eq hg.symm)) hb); have n4_ := Aside0.mk (blk_below (by (with_reducible repeat (first | refine blk_drewN ?_ _ | refine blk_drew ?_ | refine blk_alloc ?_ _)); exact BK554.out) hb); have n5_ := Aside0.mk (blk_below (by (with_reducible repeat (first | refine blk_drewN ?_ _ | refine blk_drew ?_ | refine blk_alloc ?_ _)); exact BK564.out) hb); have n6_ := Aside0.mk (blk_below (by (with_reducible repeat (first | refine blk_drewN ?_ _ | refine blk_drew ?_ | refine blk_alloc ?_ _)); exact BK573.out) hb); have n7_ := Aside0.mk (below_step (by repeat (first | (with_reducible first | exact HB.out | apply below_alloc | apply pw_below_drewN | apply below_drew1 | refine below_set ?_ GE554.out | refine below_set ?_ GE564.out | refine below_set ?_ GE573.out) | exact HB.out)) hb); have n8_ := Aside0.mk (hbox); have n9_ := Aside0.mk ((by rw [hg]; exact (below_size (by repeat (first | (with_reducible first | exact HB.out | apply below_alloc | apply pw_below_drewN | apply below_drew1 | refine below_set ?_ GE554.out | refine below_set ?_ GE564.out | refine below_set ?_ GE573.out) | exact HB.out))) : w.heap.size ≤ gb583)); have n10_ := n9_; have n11_ := Aside0.mk ((by rw [hg]; exact Nat.ne_of_lt (blk_lt (by (with_reducible repeat (first | refine blk_drewN ?_ _ | refine blk_drew ?_ | refine blk_alloc ?_ _)); exact BK554.out)) : gb554 ≠ gb583)); have n12_ := Aside0.mk ((by rw [hg]; exact Nat.ne_of_gt (blk_lt (by (with_reducible repeat (first | refine blk_drewN ?_ _ | refine blk_drew ?_ | refine blk_alloc ?_ _)); exact BK554.out)) : gb583 ≠ gb554)); have n13_ := Aside0.mk ((by rw [hg]; exact Nat.ne_of_lt (blk_lt (by (with_reducible repeat (first | refine blk_drewN ?_ _ | refine blk_drew ?_ | refine blk_alloc ?_ _)); exact BK564.out)) : gb564 ≠ gb583)); have n14_ := Aside0.mk ((by rw [hg]; exact Nat.ne_of_gt (blk_lt (by (with_reducible repeat (first | refine blk_drewN ?_ _ | refine blk_drew ?_ | refine blk_alloc ?_ _)); exact BK564.out)) : gb583 ≠ gb564)); have n15_ := Aside0.mk ((by rw [hg]; exact Nat.ne_of_lt (blk_lt (by (with_reducible repeat (first | refine blk_drewN ?_ _ | refine blk_drew ?_ | refine blk_alloc ?_ _)); exact BK573.out)) : gb573 ≠ gb583)); have n16_ := Aside0.mk ((by rw [hg]; exact Nat.ne_of_gt (blk_lt (by (with_reducible repeat (first | refine blk_drewN ?_ _ | refine blk_drew ?_ | refine blk_alloc ?_ _)); exact BK573.out)) : gb583 ≠ gb573)); clear HO_565001; clear HO_565002; clear HO572; clear HO582; clear BK554; clear BK564; clear BK573; clear HB; have HO_565001 := n0_; have HO_565002 := n1_; have HO572 := n2_; have HO582 := n3_; have BK554 := n4_; have BK564 := n5_; have BK573 := n6_; have HB := n7_; have BK583 := n8_; have GW583 := n9_; have GE583 := n10_; have NB554_583 := n11_; have NB583_554 := n12_; have NB564_583 := n13_; have NB583_564 := n14_; have NB573_583 := n15_; have NB583_573 := n16_; clear n0_ n1_ n2_ n3_ n4_ n5_ n6_ n7_ n8_ n9_ n10_ n11_ n12_ n13_ n14_ n15_ n16_; clear hb hbox hg; have hnb67 := NB583_554.out; have hnc67 := NB554_583.out; have hnb68 := NB583_564.out; have hnc68 := NB564_583.out; have hnb69 := NB583_573.out; have hnc69 := NB573_583.out; obtain ⟨hcz70_0, hcz70_1, hcz70_2, hfz70_0, hfz70_1, hfz70_2⟩ := cf3 BK583.out))
  have n0_ : Aside0 (Kd.V k50 50 (((w66.setCell ⟨gb583, 0, none⟩ (.string t556)).setCell ⟨gb583, 1, none⟩ (.slice (some ad569) t557.length co13)).setCell ⟨gb583, 2, none⟩ (.slice Ao65 y580.length co65)) w.heap.size (fun k_ => some k_ ≠ (.slice Ao52 y570.length co52 : Value).ownBlock ∧ some k_ ≠ (.slice Ao65 y580.length co65 : Value).ownBlock ∧ k_ ≠ gb554 ∧ k_ ≠ gb564 ∧ k_ ≠ gb573 ∧ k_ ≠ gb583) (.slice (some ad569) t557.length co13) t557) := ⟨by (with_reducible repeat (first | apply Kd.V_alloc | apply Kd.V_drewN | apply Kd.V_drew)); exact Kd.V_mono (Kd.V_far (p := ⟨gb583, 2, none⟩) (Kd.V_far (p := ⟨gb583, 1, none⟩) (Kd.V_far (p := ⟨gb583, 0, none⟩) (Kd.V_mono HO_565001.out (fun k_ hk => (⟨hk, hk.2⟩ : _ ∧ k_ ≠ gb583))) (fun _ hk => hk.2) (.string t556)) (fun _ hk => hk.2) (.slice (some ad569) t557.length co13)) (fun _ hk => hk.2) (.slice Ao65 y580.length co65)) (fun _ hk => ⟨hk.1.1.1.1, ⟨hk.1.1.2, ⟨hk.1.1.1.2.1, ⟨hk.1.1.1.2.2.1, ⟨hk.1.1.1.2.2.2, hk.1.2⟩⟩⟩⟩⟩)⟩
  have n1_ : Aside0 (Kd.V k53 53 (((w66.setCell ⟨gb583, 0, none⟩ (.string t556)).setCell ⟨gb583, 1, none⟩ (.slice (some ad569) t557.length co13)).setCell ⟨gb583, 2, none⟩ (.slice Ao65 y580.length co65)) w.heap.size (fun k_ => some k_ ≠ (.slice Ao52 y570.length co52 : Value).ownBlock ∧ some k_ ≠ (.slice Ao65 y580.length co65 : Value).ownBlock ∧ k_ ≠ gb554 ∧ k_ ≠ gb564 ∧ k_ ≠ gb573 ∧ k_ ≠ gb583) (.slice Ao14 t560.length co14) t560) := ⟨by (with_reducible repeat (first | apply Kd.V_alloc | apply Kd.V_drewN | apply Kd.V_drew)); exact Kd.V_mono (Kd.V_far (p := ⟨gb583, 2, none⟩) (Kd.V_far (p := ⟨gb583, 1, none⟩) (Kd.V_far (p := ⟨gb583, 0, none⟩) (Kd.V_mono HO_565002.out (fun k_ hk => (⟨hk, hk.2⟩ : _ ∧ k_ ≠ gb583))) (fun _ hk => hk.2) (.string t556)) (fun _ hk => hk.2) (.slice (some ad569) t557.length co13)) (fun _ hk => hk.2) (.slice Ao65 y580.length co65)) (fun _ hk => ⟨hk.1.1.1.1, ⟨hk.1.1.2, ⟨hk.1.1.1.2.1, ⟨hk.1.1.1.2.2.1, ⟨hk.1.1.1.2.2.2, hk.1.2⟩⟩⟩⟩⟩)⟩
  have n2_ : Aside0 (Kd.R k50 50 (((w66.setCell ⟨gb583, 0, none⟩ (.string t556)).setCell ⟨gb583, 1, none⟩ (.slice (some ad569) t557.length co13)).setCell ⟨gb583, 2, none⟩ (.slice Ao65 y580.length co65)) w.heap.size (fun _ => True) (.slice Ao52 y570.length co52) y570) := ⟨by (with_reducible repeat (first | apply Kd.R_alloc | apply Kd.R_drewN | apply Kd.R_drew)); exact Kd.R_mono (Kd.R_far (p := ⟨gb583, 2, none⟩) (Kd.R_far (p := ⟨gb583, 1, none⟩) (Kd.R_far (p := ⟨gb583, 0, none⟩) (Kd.R_types HO572.out BK583.out (by decide)) (fun _ hk => hk.2) (.string t556)) (fun _ hk => hk.2) (.slice (some ad569) t557.length co13)) (fun _ hk => hk.2) (.slice Ao65 y580.length co65)) (fun _ hk => trivial)⟩
  have n3_ : Aside0 (Kd.N k53 53 (((w66.setCell ⟨gb583, 0, none⟩ (.string t556)).setCell ⟨gb583, 1, none⟩ (.slice (some ad569) t557.length co13)).setCell ⟨gb583, 2, none⟩ (.slice Ao65 y580.length co65)) w.heap.size (fun k_ => some k_ ≠ (.slice Ao52 y570.length co52 : Value).ownBlock ∧ k_ ≠ gb554 ∧ k_ ≠ gb564 ∧ k_ ≠ gb573 ∧ k_ ≠ gb583) (.slice Ao65 y580.length co65) y580) := ⟨by (with_reducible repeat (first | apply Kd.N_alloc | apply Kd.N_drewN | apply Kd.N_drew)); exact Kd.N_mono (Kd.N_far (p := ⟨gb583, 2, none⟩) (Kd.N_far (p := ⟨gb583, 1, none⟩) (Kd.N_far (p := ⟨gb583, 0, none⟩) (Kd.N_mono HO582.out (fun k_ hk => (⟨hk, hk.2⟩ : _ ∧ k_ ≠ gb583))) (fun _ hk => hk.2) (.string t556)) (fun _ hk => hk.2) (.slice (some ad569) t557.length co13)) (fun _ hk => hk.2) (.slice Ao65 y580.length co65)) (fun _ hk => ⟨hk.1.1.1, ⟨hk.1.1.2.1, ⟨hk.1.1.2.2.1, ⟨hk.1.1.2.2.2, hk.1.2⟩⟩⟩⟩)⟩
  have n4_ : Aside0 ((((w66.setCell ⟨gb583, 0, none⟩ (.string t556)).setCell ⟨gb583, 1, none⟩ (.slice (some ad569) t557.length co13)).setCell ⟨gb583, 2, none⟩ (.slice Ao65 y580.length co65)).heap[gb554]? = some (.cells #[.string a0_0, .slice A0_1 l0_1.length c0_1, .slice A0_2 l0_2.length c0_2] 25 (0, 0))) := ⟨by (with_reducible repeat (first | refine blk_drewN ?_ _ | refine blk_drew ?_ | refine blk_alloc ?_ _)); refine blk_far ?_ NB554_583.out _; (with_reducible repeat (first | refine blk_drewN ?_ _ | refine blk_drew ?_ | refine blk_alloc ?_ _)); refine blk_far ?_ NB554_583.out _; (with_reducible repeat (first | refine blk_drewN ?_ _ | refine blk_drew ?_ | refine blk_alloc ?_ _)); refine blk_far ?_ NB554_583.out _; (with_reducible repeat (first | refine blk_drewN ?_ _ | refine blk_drew ?_ | refine blk_alloc ?_ _)); exact BK554.out⟩
  have n5_ : Aside0 ((((w66.setCell ⟨gb583, 0, none⟩ (.string t556)).setCell ⟨gb583, 1, none⟩ (.slice (some ad569) t557.length co13)).setCell ⟨gb583, 2, none⟩ (.slice Ao65 y580.length co65)).heap[gb564]? = some (.cells #[.string t556, .slice (some ad569) t557.length co13, .slice Ao14 t560.length co14] 25 (0, 0))) := ⟨by (with_reducible repeat (first | refine blk_drewN ?_ _ | refine blk_drew ?_ | refine blk_alloc ?_ _)); refine blk_far ?_ NB564_583.out _; (with_reducible repeat (first | refine blk_drewN ?_ _ | refine blk_drew ?_ | refine blk_alloc ?_ _)); refine blk_far ?_ NB564_583.out _; (with_reducible repeat (first | refine blk_drewN ?_ _ | refine blk_drew ?_ | refine blk_alloc ?_ _)); refine blk_far ?_ NB564_583.out _; (with_reducible repeat (first | refine blk_drewN ?_ _ | refine blk_drew ?_ | refine blk_alloc ?_ _)); exact BK564.out⟩
  have n6_ : Aside0 ((((w66.setCell ⟨gb583, 0, none⟩ (.string t556)).setCell ⟨gb583, 1, none⟩ (.slice (some ad569) t557.length co13)).setCell ⟨gb583, 2, none⟩ (.slice Ao65 y580.length co65)).heap[gb573]? = some (.cells #[.string t556, .slice Ao52 y570.length co52, .slice Ao14 t560.length co14] 25 (0, 0))) := ⟨by (with_reducible repeat (first | refine blk_drewN ?_ _ | refine blk_drew ?_ | refine blk_alloc ?_ _)); refine blk_far ?_ NB573_583.out _; (with_reducible repeat (first | refine blk_drewN ?_ _ | refine blk_drew ?_ | refine blk_alloc ?_ _)); refine blk_far ?_ NB573_583.out _; (with_reducible repeat (first | refine blk_drewN ?_ _ | refine blk_drew ?_ | refine blk_alloc ?_ _)); refine blk_far ?_ NB573_583.out _; (with_reducible repeat (first | refine blk_drewN ?_ _ | refine blk_drew ?_ | refine blk_alloc ?_ _)); exact BK573.out⟩
  have n7_ : Aside0 ((((w66.setCell ⟨gb583, 0, none⟩ (.string t556)).setCell ⟨gb583, 1, none⟩ (.slice (some ad569) t557.length co13)).setCell ⟨gb583, 2, none⟩ (.slice Ao65 y580.length co65)).heap[gb583]? = some (.cells #[.string t556, .slice (some ad569) t557.length co13, .slice Ao65 y580.length co65] 25 (0, 0))) := ⟨by (with_reducible repeat (first | refine blk_drewN ?_ _ | refine blk_drew ?_ | refine blk_alloc ?_ _)); refine blk_put (cs := #[.string t556, .slice (some ad569) t557.length co13, .slice none 0 0]) ?_ 2 _ rfl; (with_reducible repeat (first | refine blk_drewN ?_ _ | refine blk_drew ?_ | refine blk_alloc ?_ _)); refine blk_put (cs := #[.string t556, .slice none 0 0, .slice none 0 0]) ?_ 1 _ rfl; (with_reducible repeat (first | refine blk_drewN ?_ _ | refine blk_drew ?_ | refine blk_alloc ?_ _)); refine blk_put (cs := #[.string (⟨#[]⟩ : ByteArray), .slice none 0 0, .slice none 0 0]) ?_ 0 _ rfl; (with_reducible repeat (first | refine blk_drewN ?_ _ | refine blk_drew ?_ | refine blk_alloc ?_ _)); exact BK583.out⟩
  have n8_ : Aside0 (Below w.heap.size w (((w66.setCell ⟨gb583, 0, none⟩ (.string t556)).setCell ⟨gb583, 1, none⟩ (.slice (some ad569) t557.length co13)).setCell ⟨gb583, 2, none⟩ (.slice Ao65 y580.length co65))) := ⟨by repeat (first | (with_reducible first | exact HB.out | apply below_alloc | apply pw_below_drewN | apply below_drew1 | refine below_set ?_ GE554.out | refine below_set ?_ GE564.out | refine below_set ?_ GE573.out | refine below_set ?_ GE583.out) | exact HB.out)⟩
  (try clear HO_565001)
  (try clear HO_565002)
  (try clear HO572)
  (try clear HO582)
  (try clear BK554)
  (try clear BK564)
  (try clear BK573)
  (try clear BK583)
  (try clear HB)
  generalize (((w66.setCell ⟨gb583, 0, none⟩ (.string t556)).setCell ⟨gb583, 1, none⟩ (.slice (some ad569) t557.length co13)).setCell ⟨gb583, 2, none⟩ (.slice Ao65 y580.length co65)) = w71 at n0_ n1_ n2_ n3_ n4_ n5_ n6_ n7_ n8_ ⊢
  have HO_565001 := n0_
  have HO_565002 := n1_
  have HO572 := n2_
  have HO582 := n3_
  have BK554 := n4_
  have BK564 := n5_
  have BK573 := n6_
  have BK583 := n7_
  have HB := n8_
  clear n0_ n1_ n2_ n3_ n4_ n5_ n6_ n7_ n8_
  have n0_ := Aside0.mk (Kd.V_drew HO_565001.out)
  have n1_ := Aside0.mk (Kd.V_drew HO_565002.out)
  have n2_ := Aside0.mk (Kd.R_drew HO572.out)
  have n3_ := Aside0.mk (Kd.N_drew HO582.out)
  have n4_ := Aside0.mk (blk_drew BK554.out)
  have n5_ := Aside0.mk (blk_drew BK564.out)
  have n6_ := Aside0.mk (blk_drew BK573.out)
  have n7_ := Aside0.mk (blk_drew BK583.out)
  have n8_ := Aside0.mk (below_drew1 HB.out)
  clear HO_565001 HO_565002 HO572 HO582 BK554 BK564 BK573 BK583 HB
  have HO_565001 := n0_
  have HO_565002 := n1_
  have HO572 := n2_
  have HO582 := n3_
  have BK554 := n4_
  have BK564 := n5_
  have BK573 := n6_
  have BK583 := n7_
  have HB := n8_
  clear n0_ n1_ n2_ n3_ n4_ n5_ n6_ n7_ n8_
  refine start_ (n := 11) (S := fun w' => w'.cell? ⟨gb583, 0, none⟩ = some (.string t556) ∧ w'.cell? ⟨gb583, 1, none⟩ = some (.slice (some ad569) t557.length co13) ∧ w'.cell? ⟨gb583, 2, none⟩ = some (.slice Ao65 y580.length co65) ∧ w'.cell? ⟨gb564, 0, none⟩ = some (.string t556) ∧ w'.cell? ⟨gb564, 1, none⟩ = some (.slice (some ad569) t557.length co13) ∧ w'.cell? ⟨gb564, 2, none⟩ = some (.slice Ao14 t560.length co14)) (ds := []) #[false, false, false, false, false, false, false, false, false, false, false] (by kernel_rfl) rfl rfl ⟨(blk_cell BK583.out 0).trans rfl, (blk_cell BK583.out 1).trans rfl, (blk_cell BK583.out 2).trans rfl, (blk_cell BK564.out 0).trans rfl, (blk_cell BK564.out 1).trans rfl, (blk_cell BK564.out 2).trans rfl⟩ (fun hHeld => ?_); refine with_tabW petrinetlaw09_NetSpoils.tab16 petrinetlaw09_NetSpoils.bits16 (fun HT_ HW_ => ?_)
  generalize w71.drew = w72 at HO_565001 HO_565002 HO572 HO582 BK554 BK564 BK573 BK583 HB hHeld ⊢
  refine pure_ (i := 2) (N := some 85) (v := ?_) (a' := ?_) #[false, false, true, false, false, false, false, false, false, false, false] rfl rfl (any_of HT_.out (by kernel_rfl)) (fun _ _ _ h => h) (Or.inl ⟨by rfl, ?_⟩) ?_ ?_
  rotate_left
  · intro w'
    go_simp
    with_reducible rfl
  rotate_left
  · simp only [Act.put, List.setIfInBounds_toArray, List.set_cons_zero, List.set_cons_succ, i64_w, i32_w]
    rfl
  refine pure_ (i := 5) (N := some 88) (v := ?_) (a' := ?_) #[false, false, true, false, false, true, false, false, false, false, false] rfl rfl (any_of HT_.out (by kernel_rfl)) (fun _ _ _ h => h) (Or.inl ⟨by rfl, ?_⟩) ?_ ?_
  rotate_left
  · intro w'
    go_simp
    with_reducible rfl
  rotate_left
  · simp only [Act.put, List.setIfInBounds_toArray, List.set_cons_zero, List.set_cons_succ, i64_w, i32_w]
    rfl
  refine take_ (i := 0) (N := some 83) (v := ?_) (a' := ?_) #[true, false, true, false, false, true, false, false, false, false, false] rfl rfl (take_ofW HT_.out HW_.out (by kernel_rfl)) (fun _ _ _ h => h) (Or.inl ⟨by rfl, ?_⟩) hHeld ?_ ?_
  rotate_left
  · rintro w' ⟨s0, s1, s2, s3, s4, s5⟩
    go_simp
    with_reducible rfl
  rotate_left
  · simp only [Act.put, List.setIfInBounds_toArray, List.set_cons_zero, List.set_cons_succ, i64_w, i32_w]
    rfl
  refine take_ (i := 3) (N := some 86) (v := ?_) (a' := ?_) #[true, false, true, true, false, true, false, false, false, false, false] rfl rfl (take_ofW HT_.out HW_.out (by kernel_rfl)) (fun _ _ _ h => h) (Or.inl ⟨by rfl, ?_⟩) hHeld ?_ ?_
  rotate_left
  · rintro w' ⟨s0, s1, s2, s3, s4, s5⟩
    go_simp
    with_reducible rfl
  rotate_left
  · simp only [Act.put, List.setIfInBounds_toArray, List.set_cons_zero, List.set_cons_succ, i64_w, i32_w]
    rfl
  refine pure_ (i := 4) (N := some 87) (v := ?_) (a' := ?_) #[true, false, true, true, true, true, false, false, false, false, false] rfl rfl (any_of HT_.out (by kernel_rfl)) (fun _ _ _ h => h) (Or.inl ⟨by rfl, ?_⟩) ?_ ?_
  rotate_left
  · intro w'
    go_simp
    with_reducible rfl
  rotate_left
  · simp only [Act.put, List.setIfInBounds_toArray, List.set_cons_zero, List.set_cons_succ, i64_w, i32_w]
    rfl
  refine take_ (i := 6) (N := some 89) (v := ?_) (a' := ?_) #[true, false, true, true, true, true, true, false, false, false, false] rfl rfl (take_ofW HT_.out HW_.out (by kernel_rfl)) (fun _ _ _ h => h) (Or.inl ⟨by rfl, ?_⟩) hHeld ?_ ?_
  rotate_left
  · rintro w' ⟨s0, s1, s2, s3, s4, s5⟩
    go_simp
    with_reducible rfl
  rotate_left
  · simp only [Act.put, List.setIfInBounds_toArray, List.set_cons_zero, List.set_cons_succ, i64_w, i32_w]
    rfl
  refine pure_ (i := 7) (N := some 90) (v := ?_) (a' := ?_) #[true, false, true, true, true, true, true, true, false, false, false] rfl rfl (any_of HT_.out (by kernel_rfl)) (fun _ _ _ h => h) (Or.inl ⟨by rfl, ?_⟩) ?_ ?_
  rotate_left
  · intro w'
    go_simp
    with_reducible rfl
  rotate_left
  · simp only [Act.put, List.setIfInBounds_toArray, List.set_cons_zero, List.set_cons_succ, i64_w, i32_w]
    rfl
  refine pure_ (i := 8) (N := some 91) (v := ?_) (a' := ?_) #[true, false, true, true, true, true, true, true, true, false, false] rfl rfl (any_of HT_.out (by kernel_rfl)) (fun _ _ _ h => h) (Or.inl ⟨by rfl, ?_⟩) ?_ ?_
  rotate_left
  · intro w'
    go_simp
    with_reducible rfl
  rotate_left
  · simp only [Act.put, List.setIfInBounds_toArray, List.set_cons_zero, List.set_cons_succ, i64_w, i32_w]
    rfl
  refine pure_ (i := 9) (N := some 92) (v := ?_) (a' := ?_) #[true, false, true, true, true, true, true, true, true, true, false] rfl rfl (any_of HT_.out (by kernel_rfl)) (fun _ _ _ h => h) (Or.inl ⟨by rfl, ?_⟩) ?_ ?_
  rotate_left
  · intro w'
    go_simp
    with_reducible rfl
  rotate_left
  · simp only [Act.put, List.setIfInBounds_toArray, List.set_cons_zero, List.set_cons_succ, i64_w, i32_w]
    rfl
  refine one_ (i := 1) (N := some 84) #[true, true, true, true, true, true, true, true, true, true, false] rfl rfl (one_of HT_.out (by kernel_rfl)) (by decide) (fun K hK => ?_)
  refine goes_ Try.func13 (by kernel_rfl) rfl #[.agg #[.string t556, .slice (some ad569) t557.length co13, .slice Ao65 y580.length co65]] (by rfl) rfl rfl pgz ?_
  with_reducible refine (net_Check.calls kj4 t556 _ _ t557 _ _ y580 t584 t585 _ ?side1 ?side2 ?side3 ?side4 A38.out).mono ?_
  (case side1 => repeat (first | exact (Kd.V_reads' HO_565001.out).2.2 | (with_reducible refine Kd.C_alloc ?_ _) | (with_reducible refine Kd.C_drewN ?_ _) | (with_reducible refine Kd.C_drew ?_)))
  (case side2 => exact (Kd.V_reads' HO_565001.out).2.1)
  (case side3 => repeat (first | exact (Kd.N_reads' HO582.out).2.2 | (with_reducible refine Kd.C_alloc ?_ _) | (with_reducible refine Kd.C_drewN ?_ _) | (with_reducible refine Kd.C_drew ?_)))
  (case side4 => exact (Kd.N_reads' HO582.out).2.1)
  rintro e w73 ⟨rfl, hb⟩
  refine ⟨_, rfl, ?_⟩
  have n0_ := Aside0.mk (Kd.V_below (by (with_reducible repeat (first | apply Kd.V_alloc | apply Kd.V_drewN | apply Kd.V_drew)); exact HO_565001.out) hb)
  have n1_ := Aside0.mk (Kd.V_below (by (with_reducible repeat (first | apply Kd.V_alloc | apply Kd.V_drewN | apply Kd.V_drew)); exact HO_565002.out) hb)
  have n2_ := Aside0.mk (Kd.R_below (by (with_reducible repeat (first | apply Kd.R_alloc | apply Kd.R_drewN | apply Kd.R_drew)); exact HO572.out) hb)
  have n3_ := Aside0.mk (Kd.N_below (by (with_reducible repeat (first | apply Kd.N_alloc | apply Kd.N_drewN | apply Kd.N_drew)); exact HO582.out) hb)
  have n4_ := Aside0.mk (blk_below (by (with_reducible repeat (first | refine blk_drewN ?_ _ | refine blk_drew ?_ | refine blk_alloc ?_ _)); exact BK554.out) hb)
  have n5_ := Aside0.mk (blk_below (by (with_reducible repeat (first | refine blk_drewN ?_ _ | refine blk_drew ?_ | refine blk_alloc ?_ _)); exact BK564.out) hb)
  have n6_ := Aside0.mk (blk_below (by (with_reducible repeat (first | refine blk_drewN ?_ _ | refine blk_drew ?_ | refine blk_alloc ?_ _)); exact BK573.out) hb)
  have n7_ := Aside0.mk (blk_below (by (with_reducible repeat (first | refine blk_drewN ?_ _ | refine blk_drew ?_ | refine blk_alloc ?_ _)); exact BK583.out) hb)
  have n8_ := Aside0.mk (below_step (by repeat (first | (with_reducible first | exact HB.out | apply below_alloc | apply pw_below_drewN | apply below_drew1 | refine below_set ?_ GE554.out | refine below_set ?_ GE564.out | refine below_set ?_ GE573.out | refine below_set ?_ GE583.out) | exact HB.out)) hb)
  clear HO_565001 HO_565002 HO572 HO582 BK554 BK564 BK573 BK583 HB
  have HO_565001 := n0_
  have HO_565002 := n1_
  have HO572 := n2_
  have HO582 := n3_
  have BK554 := n4_
  have BK564 := n5_
  have BK573 := n6_
  have BK583 := n7_
  have HB := n8_
  clear n0_ n1_ n2_ n3_ n4_ n5_ n6_ n7_ n8_
  (try clear hb)
  (try clear hb2)
  (try clear hk)
  (try clear hi)
  refine hK.out _ _ ⟨(blk_cell BK583.out 0).trans rfl, (blk_cell BK583.out 1).trans rfl, (blk_cell BK583.out 2).trans rfl, (blk_cell BK564.out 0).trans rfl, (blk_cell BK564.out 1).trans rfl, (blk_cell BK564.out 2).trans rfl⟩ (fun hHeld => ?_)
  clear hK K
  refine norm_ (a' := ?_) ?_ ?_
  rotate_left
  · show Act.put _ (some 84) _ = _
    simp only [Act.put, List.setIfInBounds_toArray, List.set_cons_zero, List.set_cons_succ, i64_w, i32_w]
    rfl
  refine pure_ (i := 10) (N := some 93) (v := ?_) (a' := ?_) #[true, true, true, true, true, true, true, true, true, true, true] rfl rfl (any_of HT_.out (by kernel_rfl)) (fun _ _ _ h => h) (Or.inl ⟨by rfl, ?_⟩) ?_ ?_
  rotate_left
  · intro w'
    go_simp
    with_reducible rfl
  rotate_left
  · simp only [Act.put, List.setIfInBounds_toArray, List.set_cons_zero, List.set_cons_succ, i64_w, i32_w]
    rfl
  refine done_ (done_of HT_.out (by kernel_rfl)) ?_
  obtain ⟨hcz74_0, hcz74_1, hcz74_2, hfz74_0, hfz74_1, hfz74_2⟩ := cf3 BK564.out
  try go_wp2_with (first | ((with_reducible refine gate_builtin (b := .append) (xs := #[.tmp 94, .tmp 96]) rfl ?_); (try (refine gate_guard (by rfl) ?_; dsimp only)); at_builtin; refine Kd.N_append_rows k53 (w0 := w) w.heap.size rfl (.tmp 94) (.tmp 96) 23 53 (.agg #[(.string ⟨#[]⟩), (.slice none 0 0), (.slice none 0 0), (.slice none 0 0), (.int .i64 0)]) 96 rfl Try.underlying23 info53 rfl (by decide) (by omega) (.slice none 0 0) ([] : List (S53)) t560 _ _ _ (fun k_ => some k_ ≠ (.slice Ao52 y570.length co52 : Value).ownBlock ∧ some k_ ≠ (.slice Ao65 y580.length co65 : Value).ownBlock ∧ k_ ≠ gb554 ∧ k_ ≠ gb564 ∧ k_ ≠ gb573 ∧ k_ ≠ gb583) (fun k_ => ((fun k_ => some k_ ≠ (.slice Ao52 y570.length co52 : Value).ownBlock ∧ some k_ ≠ (.slice Ao65 y580.length co65 : Value).ownBlock ∧ k_ ≠ gb554 ∧ k_ ≠ gb564 ∧ k_ ≠ gb573 ∧ k_ ≠ gb583)) k_ ∧ some k_ ≠ (.slice none 0 0 : Value).ownBlock) rfl rfl ?aO ?aR (fun _ hk => hk) ?aF ?aB ?aS ?aL ?_; (case aR => exact (by skip; exact Kd.V_F (Kd.V_mono (ok' := (fun k_ => ((fun k_ => some k_ ≠ (.slice Ao52 y570.length co52 : Value).ownBlock ∧ some k_ ≠ (.slice Ao65 y580.length co65 : Value).ownBlock ∧ k_ ≠ gb554 ∧ k_ ≠ gb564 ∧ k_ ≠ gb573 ∧ k_ ≠ gb583)) k_ ∧ some k_ ≠ (.slice none 0 0 : Value).ownBlock)) (HO_565002.out) (fun k_ hk => ⟨⟨hk.1, ⟨hk.2.1, ⟨hk.2.2.1, ⟨hk.2.2.2.1, ⟨hk.2.2.2.2.1, hk.2.2.2.2.2⟩⟩⟩⟩⟩, (by simp [Value.ownBlock])⟩)))); (case aB => exact (by repeat (first | (with_reducible first | exact HB.out | apply below_alloc | apply pw_below_drewN | apply below_drew1 | refine below_set ?_ GE554.out | refine below_set ?_ GE564.out | refine below_set ?_ GE573.out | refine below_set ?_ GE583.out) | exact HB.out))); (case aF => exact (fun k_ hk => ⟨Kd.fresh' (Kd.R_lt (by (with_reducible repeat (first | apply Kd.R_alloc | apply Kd.R_drewN | apply Kd.R_drew)); exact HO572.out)) k_ hk, Kd.fresh' (Kd.N_lt (by (with_reducible repeat (first | apply Kd.N_alloc | apply Kd.N_drewN | apply Kd.N_drew)); exact HO582.out)) k_ hk, Kd.freshB (g := gb554) (o := .cells #[.string a0_0, .slice A0_1 l0_1.length c0_1, .slice A0_2 l0_2.length c0_2] 25 (0, 0)) (by (with_reducible repeat (first | refine blk_drewN ?_ _ | refine blk_drew ?_ | refine blk_alloc ?_ _)); exact BK554.out) k_ hk, Kd.freshB (g := gb564) (o := .cells #[.string t556, .slice (some ad569) t557.length co13, .slice Ao14 t560.length co14] 25 (0, 0)) (by (with_reducible repeat (first | refine blk_drewN ?_ _ | refine blk_drew ?_ | refine blk_alloc ?_ _)); exact BK564.out) k_ hk, Kd.freshB (g := gb573) (o := .cells #[.string t556, .slice Ao52 y570.length co52, .slice Ao14 t560.length co14] 25 (0, 0)) (by (with_reducible repeat (first | refine blk_drewN ?_ _ | refine blk_drew ?_ | refine blk_alloc ?_ _)); exact BK573.out) k_ hk, Kd.freshB (g := gb583) (o := .cells #[.string t556, .slice (some ad569) t557.length co13, .slice Ao65 y580.length co65] 25 (0, 0)) (by (with_reducible repeat (first | refine blk_drewN ?_ _ | refine blk_drew ?_ | refine blk_alloc ?_ _)); exact BK583.out) k_ hk⟩)); (case aO => exact ((Kd.N_nil _ _ _ _ (fun k_ => some k_ ≠ (.slice Ao52 y570.length co52 : Value).ownBlock ∧ some k_ ≠ (.slice Ao65 y580.length co65 : Value).ownBlock ∧ k_ ≠ gb554 ∧ k_ ≠ gb564 ∧ k_ ≠ gb573 ∧ k_ ≠ gb583)))); (case aS => exact (below_size (by repeat (first | (with_reducible first | exact HB.out | apply below_alloc | apply pw_below_drewN | apply below_drew1 | refine below_set ?_ GE554.out | refine below_set ?_ GE564.out | refine below_set ?_ GE573.out | refine below_set ?_ GE583.out) | exact HB.out)))); (case aL => have := LMc36.out; omega); intro v587 w75 ho hb hg hat; rw [← Ny586.out] at ho; have n0_ := Aside0.mk (Kd.V_afterv (Kd.V_apart_nil (by (with_reducible repeat (first | apply Kd.V_alloc | apply Kd.V_drewN | apply Kd.V_drew)); exact HO_565001.out)) hg hat); have n1_ := Aside0.mk (Kd.V_afterv (Kd.V_apart_nil (by (with_reducible repeat (first | apply Kd.V_alloc | apply Kd.V_drewN | apply Kd.V_drew)); exact HO_565002.out)) hg hat); have n2_ := Aside0.mk (blk_grown (g := gb554) (o := .cells #[.string a0_0, .slice A0_1 l0_1.length c0_1, .slice A0_2 l0_2.length c0_2] 25 (0, 0)) (by (with_reducible repeat (first | refine blk_drewN ?_ _ | refine blk_drew ?_ | refine blk_alloc ?_ _)); exact BK554.out) hg (by simp [Value.ownBlock])); have n3_ := Aside0.mk (blk_grown (g := gb564) (o := .cells #[.string t556, .slice (some ad569) t557.length co13, .slice Ao14 t560.length co14] 25 (0, 0)) (by (with_reducible repeat (first | refine blk_drewN ?_ _ | refine blk_drew ?_ | refine blk_alloc ?_ _)); exact BK564.out) hg (by simp [Value.ownBlock])); have n4_ := Aside0.mk (Kd.R_grown (by (with_reducible repeat (first | apply Kd.R_alloc | apply Kd.R_drewN | apply Kd.R_drew)); exact HO572.out) hg (fun _ _ => by simp [Value.ownBlock])); have n5_ := Aside0.mk (blk_grown (g := gb573) (o := .cells #[.string t556, .slice Ao52 y570.length co52, .slice Ao14 t560.length co14] 25 (0, 0)) (by (with_reducible repeat (first | refine blk_drewN ?_ _ | refine blk_drew ?_ | refine blk_alloc ?_ _)); exact BK573.out) hg (by simp [Value.ownBlock])); have n6_ := Aside0.mk (Kd.N_afterv (Kd.N_apart_nil (by (with_reducible repeat (first | apply Kd.N_alloc | apply Kd.N_drewN | apply Kd.N_drew)); exact HO582.out)) hg hat); have n7_ := Aside0.mk (blk_grown (g := gb583) (o := .cells #[.string t556, .slice (some ad569) t557.length co13, .slice Ao65 y580.length co65] 25 (0, 0)) (by (with_reducible repeat (first | refine blk_drewN ?_ _ | refine blk_drew ?_ | refine blk_alloc ?_ _)); exact BK583.out) hg (by simp [Value.ownBlock])); have n8_ := Aside0.mk (hb); have n9_ := Aside0.mk (ho); clear HO_565001; clear HO_565002; clear BK554; clear BK564; clear HO572; clear BK573; clear HO582; clear BK583; clear HB; have HO_565001 := n0_; have HO_565002 := n1_; have BK554 := n2_; have BK564 := n3_; have HO572 := n4_; have BK573 := n5_; have HO582 := n6_; have BK583 := n7_; have HB := n8_; have HO588 := n9_; clear n0_ n1_ n2_ n3_ n4_ n5_ n6_ n7_ n8_ n9_; clear ho hb hg hat) | ((with_reducible refine gate_builtin (b := .append) (xs := #[.tmp 98, .tmp 100]) rfl ?_); (try (refine gate_guard (by rfl) ?_; dsimp only)); at_builtin; refine Kd.N_append k53 (w0 := w) w.heap.size rfl (.tmp 98) (.tmp 100) 23 53 (.agg #[(.string ⟨#[]⟩), (.slice none 0 0), (.slice none 0 0), (.slice none 0 0), (.int .i64 0)]) 96 rfl Try.underlying23 info53 rfl (by decide) (by omega) v587 y586 (⟨(⟨#[]⟩ : ByteArray), ([] : List (S64)), ([] : List (S64)), ([] : List (S64)), 0⟩ : S53) [.string (⟨#[]⟩ : ByteArray), .slice none 0 0, .slice none 0 0, .slice none 0 0, .int .i64 0] (fun k_ => some k_ ≠ (.slice Ao52 y570.length co52 : Value).ownBlock ∧ some k_ ≠ (.slice Ao65 y580.length co65 : Value).ownBlock ∧ k_ ≠ gb554 ∧ k_ ≠ gb564 ∧ k_ ≠ gb573 ∧ k_ ≠ gb583) (fun k_ => ((fun k_ => some k_ ≠ (.slice Ao52 y570.length co52 : Value).ownBlock ∧ some k_ ≠ (.slice Ao65 y580.length co65 : Value).ownBlock ∧ k_ ≠ gb554 ∧ k_ ≠ gb564 ∧ k_ ≠ gb573 ∧ k_ ≠ gb583)) k_ ∧ some k_ ≠ (v587 : Value).ownBlock) rfl rfl ?aP (fun _ hk => hk) ?aF ?aO ?aB ?aS ?aL ?_; (case aP => exact (k53_mkF _ _ (⟨(⟨#[]⟩ : ByteArray), ([] : List (S64)), ([] : List (S64)), ([] : List (S64)), 0⟩ : S53) (Nat.le_refl _) (Kd.F_nil _ _ _) (Nat.le_refl _) (Kd.F_nil _ _ _) (Nat.le_refl _) (Kd.F_nil _ _ _))); (case aB => exact (by repeat (first | (with_reducible first | exact HB.out | apply below_alloc | apply pw_below_drewN | apply below_drew1 | refine below_set ?_ GE554.out | refine below_set ?_ GE564.out | refine below_set ?_ GE573.out | refine below_set ?_ GE583.out) | exact HB.out))); (case aF => exact (fun k_ hk => ⟨Kd.fresh' (Kd.R_lt (by (with_reducible repeat (first | apply Kd.R_alloc | apply Kd.R_drewN | apply Kd.R_drew)); exact HO572.out)) k_ hk, Kd.fresh' (Kd.N_lt (by (with_reducible repeat (first | apply Kd.N_alloc | apply Kd.N_drewN | apply Kd.N_drew)); exact HO582.out)) k_ hk, Kd.freshB (g := gb554) (o := .cells #[.string a0_0, .slice A0_1 l0_1.length c0_1, .slice A0_2 l0_2.length c0_2] 25 (0, 0)) (by (with_reducible repeat (first | refine blk_drewN ?_ _ | refine blk_drew ?_ | refine blk_alloc ?_ _)); exact BK554.out) k_ hk, Kd.freshB (g := gb564) (o := .cells #[.string t556, .slice (some ad569) t557.length co13, .slice Ao14 t560.length co14] 25 (0, 0)) (by (with_reducible repeat (first | refine blk_drewN ?_ _ | refine blk_drew ?_ | refine blk_alloc ?_ _)); exact BK564.out) k_ hk, Kd.freshB (g := gb573) (o := .cells #[.string t556, .slice Ao52 y570.length co52, .slice Ao14 t560.length co14] 25 (0, 0)) (by (with_reducible repeat (first | refine blk_drewN ?_ _ | refine blk_drew ?_ | refine blk_alloc ?_ _)); exact BK573.out) k_ hk, Kd.freshB (g := gb583) (o := .cells #[.string t556, .slice (some ad569) t557.length co13, .slice Ao65 y580.length co65] 25 (0, 0)) (by (with_reducible repeat (first | refine blk_drewN ?_ _ | refine blk_drew ?_ | refine blk_alloc ?_ _)); exact BK583.out) k_ hk⟩)); (case aO => exact (by (with_reducible repeat (first | apply Kd.N_alloc | apply Kd.N_drewN | apply Kd.N_drew)); exact HO588.out)); (case aS => exact (below_size (by repeat (first | (with_reducible first | exact HB.out | apply below_alloc | apply pw_below_drewN | apply below_drew1 | refine below_set ?_ GE554.out | refine below_set ?_ GE564.out | refine below_set ?_ GE573.out | refine below_set ?_ GE583.out) | exact HB.out)))); (case aL => have := LMc40.out; omega); intro v590 w76 ho hb hg hat; rw [← Ny589.out] at ho; have n0_ := Aside0.mk (Kd.V_afterv (ok := (fun k_ => some k_ ≠ (.slice Ao52 y570.length co52 : Value).ownBlock ∧ some k_ ≠ (.slice Ao65 y580.length co65 : Value).ownBlock ∧ k_ ≠ gb554 ∧ k_ ≠ gb564 ∧ k_ ≠ gb573 ∧ k_ ≠ gb583)) (by (with_reducible repeat (first | apply Kd.V_alloc | apply Kd.V_drewN | apply Kd.V_drew)); exact HO_565001.out) hg hat); have n1_ := Aside0.mk (Kd.V_afterv (ok := (fun k_ => some k_ ≠ (.slice Ao52 y570.length co52 : Value).ownBlock ∧ some k_ ≠ (.slice Ao65 y580.length co65 : Value).ownBlock ∧ k_ ≠ gb554 ∧ k_ ≠ gb564 ∧ k_ ≠ gb573 ∧ k_ ≠ gb583)) (by (with_reducible repeat (first | apply Kd.V_alloc | apply Kd.V_drewN | apply Kd.V_drew)); exact HO_565002.out) hg hat); have n2_ := Aside0.mk (blk_grown (g := gb554) (o := .cells #[.string a0_0, .slice A0_1 l0_1.length c0_1, .slice A0_2 l0_2.length c0_2] 25 (0, 0)) (by (with_reducible repeat (first | refine blk_drewN ?_ _ | refine blk_drew ?_ | refine blk_alloc ?_ _)); exact BK554.out) hg (Kd.N_ne HO588.out BK554.out (by decide))); have n3_ := Aside0.mk (blk_grown (g := gb564) (o := .cells #[.string t556, .slice (some ad569) t557.length co13, .slice Ao14 t560.length co14] 25 (0, 0)) (by (with_reducible repeat (first | refine blk_drewN ?_ _ | refine blk_drew ?_ | refine blk_alloc ?_ _)); exact BK564.out) hg (Kd.N_ne HO588.out BK564.out (by decide))); have n4_ := Aside0.mk (Kd.R_over' (by (with_reducible repeat (first | apply Kd.R_alloc | apply Kd.R_drewN | apply Kd.R_drew)); exact HO572.out) (Kd.N_typed (by (with_reducible repeat (first | apply Kd.N_alloc | apply Kd.N_drewN | apply Kd.N_drew)); exact HO588.out)) (by decide) hg); have n5_ := Aside0.mk (blk_grown (g := gb573) (o := .cells #[.string t556, .slice Ao52 y570.length co52, .slice Ao14 t560.length co14] 25 (0, 0)) (by (with_reducible repeat (first | refine blk_drewN ?_ _ | refine blk_drew ?_ | refine blk_alloc ?_ _)); exact BK573.out) hg (Kd.N_ne HO588.out BK573.out (by decide))); have n6_ := Aside0.mk (Kd.N_afterv (ok := (fun k_ => some k_ ≠ (.slice Ao52 y570.length co52 : Value).ownBlock ∧ k_ ≠ gb554 ∧ k_ ≠ gb564 ∧ k_ ≠ gb573 ∧ k_ ≠ gb583)) (by (with_reducible repeat (first | apply Kd.N_alloc | apply Kd.N_drewN | apply Kd.N_drew)); exact HO582.out) hg hat); have n7_ := Aside0.mk (blk_grown (g := gb583) (o := .cells #[.string t556, .slice (some ad569) t557.length co13, .slice Ao65 y580.length co65] 25 (0, 0)) (by (with_reducible repeat (first | refine blk_drewN ?_ _ | refine blk_drew ?_ | refine blk_alloc ?_ _)); exact BK583.out) hg (Kd.N_ne HO588.out BK583.out (by decide))); have n8_ := Aside0.mk (hb); have n9_ := Aside0.mk (ho); clear HO_565001; clear HO_565002; clear BK554; clear BK564; clear HO572; clear BK573; clear HO582; clear BK583; clear HB; clear HO588; have HO_565001 := n0_; have HO_565002 := n1_; have BK554 := n2_; have BK564 := n3_; have HO572 := n4_; have BK573 := n5_; have HO582 := n6_; have BK583 := n7_; have HB := n8_; have HO591 := n9_; clear n0_ n1_ n2_ n3_ n4_ n5_ n6_ n7_ n8_ n9_; clear ho hb hg hat; obtain ⟨hcz77_0, hcz77_1, hcz77_2, hfz77_0, hfz77_1, hfz77_2⟩ := cf3 BK564.out; obtain ⟨Ao78, co78, eo78⟩ := Kd.N_slice HO591.out; subst eo78) | ((with_reducible refine gate_dst (N := 10) rfl ?_); (try (refine gate_guard (by rfl) ?_; dsimp only)); refine box_event ?hg (N := 10) ?hd (cs := #[.string (⟨#[]⟩ : ByteArray), .slice none 0 0, .slice none 0 0]) (t := 25) ?hr ?_; (case hd => rfl); (case hg => rfl); (case hr => first | (go_simp; done) | (go_simp; rfl)); intro gb592 hg w79 hbox hb; have n0_ := Aside0.mk (Kd.V_below (Kd.V_elderB (by (with_reducible repeat (first | apply Kd.V_alloc | apply Kd.V_drewN | apply Kd.V_drew)); exact HO_565001.out) gb592 (Nat.le_of_eq hg.symm)) hb); have n1_ := Aside0.mk (Kd.V_below (Kd.V_elderB (by (with_reducible repeat (first | apply Kd.V_alloc | apply Kd.V_drewN | apply Kd.V_drew)); exact HO_565002.out) gb592 (Nat.le_of_eq hg.symm)) hb); have n2_ := Aside0.mk (Kd.R_below (by (with_reducible repeat (first | apply Kd.R_alloc | apply Kd.R_drewN | apply Kd.R_drew)); exact HO572.out) hb); have n3_ := Aside0.mk (Kd.N_below (Kd.N_elderB (by (with_reducible repeat (first | apply Kd.N_alloc | apply Kd.N_drewN | apply Kd.N_drew)); exact HO582.out) gb592 (Nat.le_of_eq hg.symm)) hb); have n4_ := Aside0.mk (Kd.N_below (Kd.N_elderB (by (with_reducible repeat (first | apply Kd.N_alloc | apply Kd.N_drewN | apply Kd.N_drew)); exact HO591.out) gb592 (Nat.le_of_eq hg.symm)) hb); have n5_ := Aside0.mk (blk_below (by (with_reducible repeat (first | refine blk_drewN ?_ _ | refine blk_drew ?_ | refine blk_alloc ?_ _)); exact BK554.out) hb); have n6_ := Aside0.mk (blk_below (by (with_reducible repeat (first | refine blk_drewN ?_ _ | refine blk_drew ?_ | refine blk_alloc ?_ _)); exact BK564.out) hb); have n7_ := Aside0.mk (blk_below (by (with_reducible repeat (first | refine blk_drewN ?_ _ | refine blk_drew ?_ | refine blk_alloc ?_ _)); exact BK573.out) hb); have n8_ := Aside0.mk (blk_below (by (with_reducible repeat (first | refine blk_drewN ?_ _ | refine blk_drew ?_ | refine blk_alloc ?_ _)); exact BK583.out) hb); have n9_ := Aside0.mk (below_step (by repeat (first | (with_reducible first | exact HB.out | apply below_alloc | apply pw_below_drewN | apply below_drew1 | refine below_set ?_ GE554.out | refine below_set ?_ GE564.out | refine below_set ?_ GE573.out | refine below_set ?_ GE583.out) | exact HB.out)) hb); have n10_ := Aside0.mk (hbox); have n11_ := Aside0.mk ((by rw [hg]; exact (below_size (by repeat (first | (with_reducible first | exact HB.out | apply below_alloc | apply pw_below_drewN | apply below_drew1 | refine below_set ?_ GE554.out | refine below_set ?_ GE564.out | refine below_set ?_ GE573.out | refine below_set ?_ GE583.out) | exact HB.out))) : w.heap.size ≤ gb592)); have n12_ := n11_; have n13_ := Aside0.mk ((by rw [hg]; exact Nat.ne_of_lt (blk_lt (by (with_reducible repeat (first | refine blk_drewN ?_ _ | refine blk_drew ?_ | refine blk_alloc ?_ _)); exact BK554.out)) : gb554 ≠ gb592)); have n14_ := Aside0.mk ((by rw [hg]; exact Nat.ne_of_gt (blk_lt (by (with_reducible repeat (first | refine blk_drewN ?_ _ | refine blk_drew ?_ | refine blk_alloc ?_ _)); exact BK554.out)) : gb592 ≠ gb554)); have n15_ := Aside0.mk ((by rw [hg]; exact Nat.ne_of_lt (blk_lt (by (with_reducible repeat (first | refine blk_drewN ?_ _ | refine blk_drew ?_ | refine blk_alloc ?_ _)); exact BK564.out)) : gb564 ≠ gb592)); have n16_ := Aside0.mk ((by rw [hg]; exact Nat.ne_of_gt (blk_lt (by (with_reducible repeat (first | refine blk_drewN ?_ _ | refine blk_drew ?_ | refine blk_alloc ?_ _)); exact BK564.out)) : gb592 ≠ gb564)); have n17_ := Aside0.mk ((by rw [hg]; exact Nat.ne_of_lt (blk_lt (by (with_reducible repeat (first | refine blk_drewN ?_ _ | refine blk_drew ?_ | refine blk_alloc ?_ _)); exact BK573.out)) : gb573 ≠ gb592)); have n18_ := Aside0.mk ((by rw [hg]; exact Nat.ne_of_gt (blk_lt (by (with_reducible repeat (first | refine blk_drewN ?_ _ | refine blk_drew ?_ | refine blk_alloc ?_ _)); exact BK573.out)) : gb592 ≠ gb573)); have n19_ := Aside0.mk ((by rw [hg]; exact Nat.ne_of_lt (blk_lt (by (with_reducible repeat (first | refine blk_drewN ?_ _ | refine blk_drew ?_ | refine blk_alloc ?_ _)); exact BK583.out)) : gb583 ≠ gb592)); have n20_ := Aside0.mk ((by rw [hg]; exact Nat.ne_of_gt (blk_lt (by (with_reducible repeat (first | refine blk_drewN ?_ _ | refine blk_drew ?_ | refine blk_alloc ?_ _)); exact BK583.out)) : gb592 ≠ gb583)); clear HO_565001; clear HO_565002; clear HO572; clear HO582; clear HO591; clear BK554; clear BK564; clear BK573; clear BK583; clear HB; have HO_565001 := n0_; have HO_565002 := n1_; have HO572 := n2_; have HO582 := n3_; have HO591 := n4_; have BK554 := n5_; have BK564 := n6_; have BK573 := n7_; have BK583 := n8_; have HB := n9_; have BK592 := n10_; have GW592 := n11_; have GE592 := n12_; have NB554_592 := n13_; have NB592_554 := n14_; have NB564_592 := n15_; have NB592_564 := n16_; have NB573_592 := n17_; have NB592_573 := n18_; have NB583_592 := n19_; have NB592_583 := n20_; clear n0_ n1_ n2_ n3_ n4_ n5_ n6_ n7_ n8_ n9_ n10_ n11_ n12_ n13_ n14_ n15_ n16_ n17_ n18_ n19_ n20_; clear hb hbox hg; have hnb80 := NB592_554.out; have hnc80 := NB554_592.out; have hnb81 := NB592_564.out; have hnc81 := NB564_592.out; have hnb82 := NB592_573.out; have hnc82 := NB573_592.out; have hnb83 := NB592_583.out; have hnc83 := NB583_592.out; obtain ⟨hcz84_0, hcz84_1, hcz84_2, hfz84_0, hfz84_1, hfz84_2⟩ := cf3 BK592.out))
  have n0_ : Aside0 (Kd.V k50 50 (((w79.setCell ⟨gb592, 0, none⟩ (.string t556)).setCell ⟨gb592, 1, none⟩ (.slice (some ad569) t557.length co13)).setCell ⟨gb592, 2, none⟩ (.slice Ao78 y589.length co78)) w.heap.size (fun k_ => some k_ ≠ (.slice Ao52 y570.length co52 : Value).ownBlock ∧ some k_ ≠ (.slice Ao65 y580.length co65 : Value).ownBlock ∧ some k_ ≠ (.slice Ao78 y589.length co78 : Value).ownBlock ∧ k_ ≠ gb554 ∧ k_ ≠ gb564 ∧ k_ ≠ gb573 ∧ k_ ≠ gb583 ∧ k_ ≠ gb592) (.slice (some ad569) t557.length co13) t557) := ⟨by (with_reducible repeat (first | apply Kd.V_alloc | apply Kd.V_drewN | apply Kd.V_drew)); exact Kd.V_mono (Kd.V_far (p := ⟨gb592, 2, none⟩) (Kd.V_far (p := ⟨gb592, 1, none⟩) (Kd.V_far (p := ⟨gb592, 0, none⟩) (Kd.V_mono HO_565001.out (fun k_ hk => (⟨hk, hk.2⟩ : _ ∧ k_ ≠ gb592))) (fun _ hk => hk.2) (.string t556)) (fun _ hk => hk.2) (.slice (some ad569) t557.length co13)) (fun _ hk => hk.2) (.slice Ao78 y589.length co78)) (fun _ hk => ⟨hk.1.1.1.1, ⟨hk.1.1.1.2.1, ⟨hk.1.1.2, ⟨hk.1.1.1.2.2.1, ⟨hk.1.1.1.2.2.2.1, ⟨hk.1.1.1.2.2.2.2.1, ⟨hk.1.1.1.2.2.2.2.2, hk.1.2⟩⟩⟩⟩⟩⟩⟩)⟩
  have n1_ : Aside0 (Kd.V k53 53 (((w79.setCell ⟨gb592, 0, none⟩ (.string t556)).setCell ⟨gb592, 1, none⟩ (.slice (some ad569) t557.length co13)).setCell ⟨gb592, 2, none⟩ (.slice Ao78 y589.length co78)) w.heap.size (fun k_ => some k_ ≠ (.slice Ao52 y570.length co52 : Value).ownBlock ∧ some k_ ≠ (.slice Ao65 y580.length co65 : Value).ownBlock ∧ some k_ ≠ (.slice Ao78 y589.length co78 : Value).ownBlock ∧ k_ ≠ gb554 ∧ k_ ≠ gb564 ∧ k_ ≠ gb573 ∧ k_ ≠ gb583 ∧ k_ ≠ gb592) (.slice Ao14 t560.length co14) t560) := ⟨by (with_reducible repeat (first | apply Kd.V_alloc | apply Kd.V_drewN | apply Kd.V_drew)); exact Kd.V_mono (Kd.V_far (p := ⟨gb592, 2, none⟩) (Kd.V_far (p := ⟨gb592, 1, none⟩) (Kd.V_far (p := ⟨gb592, 0, none⟩) (Kd.V_mono HO_565002.out (fun k_ hk => (⟨hk, hk.2⟩ : _ ∧ k_ ≠ gb592))) (fun _ hk => hk.2) (.string t556)) (fun _ hk => hk.2) (.slice (some ad569) t557.length co13)) (fun _ hk => hk.2) (.slice Ao78 y589.length co78)) (fun _ hk => ⟨hk.1.1.1.1, ⟨hk.1.1.1.2.1, ⟨hk.1.1.2, ⟨hk.1.1.1.2.2.1, ⟨hk.1.1.1.2.2.2.1, ⟨hk.1.1.1.2.2.2.2.1, ⟨hk.1.1.1.2.2.2.2.2, hk.1.2⟩⟩⟩⟩⟩⟩⟩)⟩
  have n2_ : Aside0 (Kd.R k50 50 (((w79.setCell ⟨gb592, 0, none⟩ (.string t556)).setCell ⟨gb592, 1, none⟩ (.slice (some ad569) t557.length co13)).setCell ⟨gb592, 2, none⟩ (.slice Ao78 y589.length co78)) w.heap.size (fun _ => True) (.slice Ao52 y570.length co52) y570) := ⟨by (with_reducible repeat (first | apply Kd.R_alloc | apply Kd.R_drewN | apply Kd.R_drew)); exact Kd.R_mono (Kd.R_far (p := ⟨gb592, 2, none⟩) (Kd.R_far (p := ⟨gb592, 1, none⟩) (Kd.R_far (p := ⟨gb592, 0, none⟩) (Kd.R_types HO572.out BK592.out (by decide)) (fun _ hk => hk.2) (.string t556)) (fun _ hk => hk.2) (.slice (some ad569) t557.length co13)) (fun _ hk => hk.2) (.slice Ao78 y589.length co78)) (fun _ hk => trivial)⟩
  have n3_ : Aside0 (Kd.N k53 53 (((w79.setCell ⟨gb592, 0, none⟩ (.string t556)).setCell ⟨gb592, 1, none⟩ (.slice (some ad569) t557.length co13)).setCell ⟨gb592, 2, none⟩ (.slice Ao78 y589.length co78)) w.heap.size (fun k_ => some k_ ≠ (.slice Ao52 y570.length co52 : Value).ownBlock ∧ some k_ ≠ (.slice Ao78 y589.length co78 : Value).ownBlock ∧ k_ ≠ gb554 ∧ k_ ≠ gb564 ∧ k_ ≠ gb573 ∧ k_ ≠ gb583 ∧ k_ ≠ gb592) (.slice Ao65 y580.length co65) y580) := ⟨by (with_reducible repeat (first | apply Kd.N_alloc | apply Kd.N_drewN | apply Kd.N_drew)); exact Kd.N_mono (Kd.N_far (p := ⟨gb592, 2, none⟩) (Kd.N_far (p := ⟨gb592, 1, none⟩) (Kd.N_far (p := ⟨gb592, 0, none⟩) (Kd.N_mono HO582.out (fun k_ hk => (⟨hk, hk.2⟩ : _ ∧ k_ ≠ gb592))) (fun _ hk => hk.2) (.string t556)) (fun _ hk => hk.2) (.slice (some ad569) t557.length co13)) (fun _ hk => hk.2) (.slice Ao78 y589.length co78)) (fun _ hk => ⟨hk.1.1.1.1, ⟨hk.1.1.2, ⟨hk.1.1.1.2.1, ⟨hk.1.1.1.2.2.1, ⟨hk.1.1.1.2.2.2.1, ⟨hk.1.1.1.2.2.2.2, hk.1.2⟩⟩⟩⟩⟩⟩)⟩
  have n4_ : Aside0 (Kd.N k53 53 (((w79.setCell ⟨gb592, 0, none⟩ (.string t556)).setCell ⟨gb592, 1, none⟩ (.slice (some ad569) t557.length co13)).setCell ⟨gb592, 2, none⟩ (.slice Ao78 y589.length co78)) w.heap.size (fun k_ => some k_ ≠ (.slice Ao52 y570.length co52 : Value).ownBlock ∧ some k_ ≠ (.slice Ao65 y580.length co65 : Value).ownBlock ∧ k_ ≠ gb554 ∧ k_ ≠ gb564 ∧ k_ ≠ gb573 ∧ k_ ≠ gb583 ∧ k_ ≠ gb592) (.slice Ao78 y589.length co78) y589) := ⟨by (with_reducible repeat (first | apply Kd.N_alloc | apply Kd.N_drewN | apply Kd.N_drew)); exact Kd.N_mono (Kd.N_far (p := ⟨gb592, 2, none⟩) (Kd.N_far (p := ⟨gb592, 1, none⟩) (Kd.N_far (p := ⟨gb592, 0, none⟩) (Kd.N_mono HO591.out (fun k_ hk => (⟨hk, hk.2⟩ : _ ∧ k_ ≠ gb592))) (fun _ hk => hk.2) (.string t556)) (fun _ hk => hk.2) (.slice (some ad569) t557.length co13)) (fun _ hk => hk.2) (.slice Ao78 y589.length co78)) (fun _ hk => ⟨hk.1.1.1, ⟨hk.1.1.2.1, ⟨hk.1.1.2.2.1, ⟨hk.1.1.2.2.2.1, ⟨hk.1.1.2.2.2.2.1, ⟨hk.1.1.2.2.2.2.2, hk.1.2⟩⟩⟩⟩⟩⟩)⟩
  have n5_ : Aside0 ((((w79.setCell ⟨gb592, 0, none⟩ (.string t556)).setCell ⟨gb592, 1, none⟩ (.slice (some ad569) t557.length co13)).setCell ⟨gb592, 2, none⟩ (.slice Ao78 y589.length co78)).heap[gb554]? = some (.cells #[.string a0_0, .slice A0_1 l0_1.length c0_1, .slice A0_2 l0_2.length c0_2] 25 (0, 0))) := ⟨by (with_reducible repeat (first | refine blk_drewN ?_ _ | refine blk_drew ?_ | refine blk_alloc ?_ _)); refine blk_far ?_ NB554_592.out _; (with_reducible repeat (first | refine blk_drewN ?_ _ | refine blk_drew ?_ | refine blk_alloc ?_ _)); refine blk_far ?_ NB554_592.out _; (with_reducible repeat (first | refine blk_drewN ?_ _ | refine blk_drew ?_ | refine blk_alloc ?_ _)); refine blk_far ?_ NB554_592.out _; (with_reducible repeat (first | refine blk_drewN ?_ _ | refine blk_drew ?_ | refine blk_alloc ?_ _)); exact BK554.out⟩
  have n6_ : Aside0 ((((w79.setCell ⟨gb592, 0, none⟩ (.string t556)).setCell ⟨gb592, 1, none⟩ (.slice (some ad569) t557.length co13)).setCell ⟨gb592, 2, none⟩ (.slice Ao78 y589.length co78)).heap[gb564]? = some (.cells #[.string t556, .slice (some ad569) t557.length co13, .slice Ao14 t560.length co14] 25 (0, 0))) := ⟨by (with_reducible repeat (first | refine blk_drewN ?_ _ | refine blk_drew ?_ | refine blk_alloc ?_ _)); refine blk_far ?_ NB564_592.out _; (with_reducible repeat (first | refine blk_drewN ?_ _ | refine blk_drew ?_ | refine blk_alloc ?_ _)); refine blk_far ?_ NB564_592.out _; (with_reducible repeat (first | refine blk_drewN ?_ _ | refine blk_drew ?_ | refine blk_alloc ?_ _)); refine blk_far ?_ NB564_592.out _; (with_reducible repeat (first | refine blk_drewN ?_ _ | refine blk_drew ?_ | refine blk_alloc ?_ _)); exact BK564.out⟩
  have n7_ : Aside0 ((((w79.setCell ⟨gb592, 0, none⟩ (.string t556)).setCell ⟨gb592, 1, none⟩ (.slice (some ad569) t557.length co13)).setCell ⟨gb592, 2, none⟩ (.slice Ao78 y589.length co78)).heap[gb573]? = some (.cells #[.string t556, .slice Ao52 y570.length co52, .slice Ao14 t560.length co14] 25 (0, 0))) := ⟨by (with_reducible repeat (first | refine blk_drewN ?_ _ | refine blk_drew ?_ | refine blk_alloc ?_ _)); refine blk_far ?_ NB573_592.out _; (with_reducible repeat (first | refine blk_drewN ?_ _ | refine blk_drew ?_ | refine blk_alloc ?_ _)); refine blk_far ?_ NB573_592.out _; (with_reducible repeat (first | refine blk_drewN ?_ _ | refine blk_drew ?_ | refine blk_alloc ?_ _)); refine blk_far ?_ NB573_592.out _; (with_reducible repeat (first | refine blk_drewN ?_ _ | refine blk_drew ?_ | refine blk_alloc ?_ _)); exact BK573.out⟩
  have n8_ : Aside0 ((((w79.setCell ⟨gb592, 0, none⟩ (.string t556)).setCell ⟨gb592, 1, none⟩ (.slice (some ad569) t557.length co13)).setCell ⟨gb592, 2, none⟩ (.slice Ao78 y589.length co78)).heap[gb583]? = some (.cells #[.string t556, .slice (some ad569) t557.length co13, .slice Ao65 y580.length co65] 25 (0, 0))) := ⟨by (with_reducible repeat (first | refine blk_drewN ?_ _ | refine blk_drew ?_ | refine blk_alloc ?_ _)); refine blk_far ?_ NB583_592.out _; (with_reducible repeat (first | refine blk_drewN ?_ _ | refine blk_drew ?_ | refine blk_alloc ?_ _)); refine blk_far ?_ NB583_592.out _; (with_reducible repeat (first | refine blk_drewN ?_ _ | refine blk_drew ?_ | refine blk_alloc ?_ _)); refine blk_far ?_ NB583_592.out _; (with_reducible repeat (first | refine blk_drewN ?_ _ | refine blk_drew ?_ | refine blk_alloc ?_ _)); exact BK583.out⟩
  have n9_ : Aside0 ((((w79.setCell ⟨gb592, 0, none⟩ (.string t556)).setCell ⟨gb592, 1, none⟩ (.slice (some ad569) t557.length co13)).setCell ⟨gb592, 2, none⟩ (.slice Ao78 y589.length co78)).heap[gb592]? = some (.cells #[.string t556, .slice (some ad569) t557.length co13, .slice Ao78 y589.length co78] 25 (0, 0))) := ⟨by (with_reducible repeat (first | refine blk_drewN ?_ _ | refine blk_drew ?_ | refine blk_alloc ?_ _)); refine blk_put (cs := #[.string t556, .slice (some ad569) t557.length co13, .slice none 0 0]) ?_ 2 _ rfl; (with_reducible repeat (first | refine blk_drewN ?_ _ | refine blk_drew ?_ | refine blk_alloc ?_ _)); refine blk_put (cs := #[.string t556, .slice none 0 0, .slice none 0 0]) ?_ 1 _ rfl; (with_reducible repeat (first | refine blk_drewN ?_ _ | refine blk_drew ?_ | refine blk_alloc ?_ _)); refine blk_put (cs := #[.string (⟨#[]⟩ : ByteArray), .slice none 0 0, .slice none 0 0]) ?_ 0 _ rfl; (with_reducible repeat (first | refine blk_drewN ?_ _ | refine blk_drew ?_ | refine blk_alloc ?_ _)); exact BK592.out⟩
  have n10_ : Aside0 (Below w.heap.size w (((w79.setCell ⟨gb592, 0, none⟩ (.string t556)).setCell ⟨gb592, 1, none⟩ (.slice (some ad569) t557.length co13)).setCell ⟨gb592, 2, none⟩ (.slice Ao78 y589.length co78))) := ⟨by repeat (first | (with_reducible first | exact HB.out | apply below_alloc | apply pw_below_drewN | apply below_drew1 | refine below_set ?_ GE554.out | refine below_set ?_ GE564.out | refine below_set ?_ GE573.out | refine below_set ?_ GE583.out | refine below_set ?_ GE592.out) | exact HB.out)⟩
  (try clear HO_565001)
  (try clear HO_565002)
  (try clear HO572)
  (try clear HO582)
  (try clear HO591)
  (try clear BK554)
  (try clear BK564)
  (try clear BK573)
  (try clear BK583)
  (try clear BK592)
  (try clear HB)
  generalize (((w79.setCell ⟨gb592, 0, none⟩ (.string t556)).setCell ⟨gb592, 1, none⟩ (.slice (some ad569) t557.length co13)).setCell ⟨gb592, 2, none⟩ (.slice Ao78 y589.length co78)) = w85 at n0_ n1_ n2_ n3_ n4_ n5_ n6_ n7_ n8_ n9_ n10_ ⊢
  have HO_565001 := n0_
  have HO_565002 := n1_
  have HO572 := n2_
  have HO582 := n3_
  have HO591 := n4_
  have BK554 := n5_
  have BK564 := n6_
  have BK573 := n7_
  have BK583 := n8_
  have BK592 := n9_
  have HB := n10_
  clear n0_ n1_ n2_ n3_ n4_ n5_ n6_ n7_ n8_ n9_ n10_
  have n0_ := Aside0.mk (Kd.V_drew HO_565001.out)
  have n1_ := Aside0.mk (Kd.V_drew HO_565002.out)
  have n2_ := Aside0.mk (Kd.R_drew HO572.out)
  have n3_ := Aside0.mk (Kd.N_drew HO582.out)
  have n4_ := Aside0.mk (Kd.N_drew HO591.out)
  have n5_ := Aside0.mk (blk_drew BK554.out)
  have n6_ := Aside0.mk (blk_drew BK564.out)
  have n7_ := Aside0.mk (blk_drew BK573.out)
  have n8_ := Aside0.mk (blk_drew BK583.out)
  have n9_ := Aside0.mk (blk_drew BK592.out)
  have n10_ := Aside0.mk (below_drew1 HB.out)
  clear HO_565001 HO_565002 HO572 HO582 HO591 BK554 BK564 BK573 BK583 BK592 HB
  have HO_565001 := n0_
  have HO_565002 := n1_
  have HO572 := n2_
  have HO582 := n3_
  have HO591 := n4_
  have BK554 := n5_
  have BK564 := n6_
  have BK573 := n7_
  have BK583 := n8_
  have BK592 := n9_
  have HB := n10_
  clear n0_ n1_ n2_ n3_ n4_ n5_ n6_ n7_ n8_ n9_ n10_
  refine start_ (n := 11) (S := fun w' => w'.cell? ⟨gb592, 0, none⟩ = some (.string t556) ∧ w'.cell? ⟨gb592, 1, none⟩ = some (.slice (some ad569) t557.length co13) ∧ w'.cell? ⟨gb592, 2, none⟩ = some (.slice Ao78 y589.length co78) ∧ w'.cell? ⟨gb564, 0, none⟩ = some (.string t556) ∧ w'.cell? ⟨gb564, 1, none⟩ = some (.slice (some ad569) t557.length co13) ∧ w'.cell? ⟨gb564, 2, none⟩ = some (.slice Ao14 t560.length co14)) (ds := []) #[false, false, false, false, false, false, false, false, false, false, false] (by kernel_rfl) rfl rfl ⟨(blk_cell BK592.out 0).trans rfl, (blk_cell BK592.out 1).trans rfl, (blk_cell BK592.out 2).trans rfl, (blk_cell BK564.out 0).trans rfl, (blk_cell BK564.out 1).trans rfl, (blk_cell BK564.out 2).trans rfl⟩ (fun hHeld => ?_); refine with_tabW petrinetlaw09_NetSpoils.tab22 petrinetlaw09_NetSpoils.bits22 (fun HT_ HW_ => ?_)
  generalize w85.drew = w86 at HO_565001 HO_565002 HO572 HO582 HO591 BK554 BK564 BK573 BK583 BK592 HB hHeld ⊢
  refine pure_ (i := 2) (N := some 110) (v := ?_) (a' := ?_) #[false, false, true, false, false, false, false, false, false, false, false] rfl rfl (any_of HT_.out (by kernel_rfl)) (fun _ _ _ h => h) (Or.inl ⟨by rfl, ?_⟩) ?_ ?_
  rotate_left
  · intro w'
    go_simp
    with_reducible rfl
  rotate_left
  · simp only [Act.put, List.setIfInBounds_toArray, List.set_cons_zero, List.set_cons_succ, i64_w, i32_w]
    rfl
  refine pure_ (i := 5) (N := some 113) (v := ?_) (a' := ?_) #[false, false, true, false, false, true, false, false, false, false, false] rfl rfl (any_of HT_.out (by kernel_rfl)) (fun _ _ _ h => h) (Or.inl ⟨by rfl, ?_⟩) ?_ ?_
  rotate_left
  · intro w'
    go_simp
    with_reducible rfl
  rotate_left
  · simp only [Act.put, List.setIfInBounds_toArray, List.set_cons_zero, List.set_cons_succ, i64_w, i32_w]
    rfl
  refine take_ (i := 0) (N := some 108) (v := ?_) (a' := ?_) #[true, false, true, false, false, true, false, false, false, false, false] rfl rfl (take_ofW HT_.out HW_.out (by kernel_rfl)) (fun _ _ _ h => h) (Or.inl ⟨by rfl, ?_⟩) hHeld ?_ ?_
  rotate_left
  · rintro w' ⟨s0, s1, s2, s3, s4, s5⟩
    go_simp
    with_reducible rfl
  rotate_left
  · simp only [Act.put, List.setIfInBounds_toArray, List.set_cons_zero, List.set_cons_succ, i64_w, i32_w]
    rfl
  refine take_ (i := 3) (N := some 111) (v := ?_) (a' := ?_) #[true, false, true, true, false, true, false, false, false, false, false] rfl rfl (take_ofW HT_.out HW_.out (by kernel_rfl)) (fun _ _ _ h => h) (Or.inl ⟨by rfl, ?_⟩) hHeld ?_ ?_
  rotate_left
  · rintro w' ⟨s0, s1, s2, s3, s4, s5⟩
    go_simp
    with_reducible rfl
  rotate_left
  · simp only [Act.put, List.setIfInBounds_toArray, List.set_cons_zero, List.set_cons_succ, i64_w, i32_w]
    rfl
  refine pure_ (i := 4) (N := some 112) (v := ?_) (a' := ?_) #[true, false, true, true, true, true, false, false, false, false, false] rfl rfl (any_of HT_.out (by kernel_rfl)) (fun _ _ _ h => h) (Or.inl ⟨by rfl, ?_⟩) ?_ ?_
  rotate_left
  · intro w'
    go_simp
    with_reducible rfl
  rotate_left
  · simp only [Act.put, List.setIfInBounds_toArray, List.set_cons_zero, List.set_cons_succ, i64_w, i32_w]
    rfl
  refine take_ (i := 6) (N := some 114) (v := ?_) (a' := ?_) #[true, false, true, true, true, true, true, false, false, false, false] rfl rfl (take_ofW HT_.out HW_.out (by kernel_rfl)) (fun _ _ _ h => h) (Or.inl ⟨by rfl, ?_⟩) hHeld ?_ ?_
  rotate_left
  · rintro w' ⟨s0, s1, s2, s3, s4, s5⟩
    go_simp
    with_reducible rfl
  rotate_left
  · simp only [Act.put, List.setIfInBounds_toArray, List.set_cons_zero, List.set_cons_succ, i64_w, i32_w]
    rfl
  refine pure_ (i := 7) (N := some 115) (v := ?_) (a' := ?_) #[true, false, true, true, true, true, true, true, false, false, false] rfl rfl (any_of HT_.out (by kernel_rfl)) (fun _ _ _ h => h) (Or.inl ⟨by rfl, ?_⟩) ?_ ?_
  rotate_left
  · intro w'
    go_simp
    with_reducible rfl
  rotate_left
  · simp only [Act.put, List.setIfInBounds_toArray, List.set_cons_zero, List.set_cons_succ, i64_w, i32_w]
    rfl
  refine pure_ (i := 8) (N := some 116) (v := ?_) (a' := ?_) #[true, false, true, true, true, true, true, true, true, false, false] rfl rfl (any_of HT_.out (by kernel_rfl)) (fun _ _ _ h => h) (Or.inl ⟨by rfl, ?_⟩) ?_ ?_
  rotate_left
  · intro w'
    go_simp
    with_reducible rfl
  rotate_left
  · simp only [Act.put, List.setIfInBounds_toArray, List.set_cons_zero, List.set_cons_succ, i64_w, i32_w]
    rfl
  refine pure_ (i := 9) (N := some 117) (v := ?_) (a' := ?_) #[true, false, true, true, true, true, true, true, true, true, false] rfl rfl (any_of HT_.out (by kernel_rfl)) (fun _ _ _ h => h) (Or.inl ⟨by rfl, ?_⟩) ?_ ?_
  rotate_left
  · intro w'
    go_simp
    with_reducible rfl
  rotate_left
  · simp only [Act.put, List.setIfInBounds_toArray, List.set_cons_zero, List.set_cons_succ, i64_w, i32_w]
    rfl
  refine one_ (i := 1) (N := some 109) #[true, true, true, true, true, true, true, true, true, true, false] rfl rfl (one_of HT_.out (by kernel_rfl)) (by decide) (fun K hK => ?_)
  refine goes_ Try.func13 (by kernel_rfl) rfl #[.agg #[.string t556, .slice (some ad569) t557.length co13, .slice Ao78 y589.length co78]] (by rfl) rfl rfl pgz ?_
  with_reducible refine (net_Check.calls kj4 t556 _ _ t557 _ _ y589 t593 t594 _ ?side1 ?side2 ?side3 ?side4 A41.out).mono ?_
  (case side1 => repeat (first | exact (Kd.V_reads' HO_565001.out).2.2 | (with_reducible refine Kd.C_alloc ?_ _) | (with_reducible refine Kd.C_drewN ?_ _) | (with_reducible refine Kd.C_drew ?_)))
  (case side2 => exact (Kd.V_reads' HO_565001.out).2.1)
  (case side3 => repeat (first | exact (Kd.N_reads' HO591.out).2.2 | (with_reducible refine Kd.C_alloc ?_ _) | (with_reducible refine Kd.C_drewN ?_ _) | (with_reducible refine Kd.C_drew ?_)))
  (case side4 => exact (Kd.N_reads' HO591.out).2.1)
  rintro e w87 ⟨rfl, hb⟩
  refine ⟨_, rfl, ?_⟩
  have n0_ := Aside0.mk (Kd.V_below (by (with_reducible repeat (first | apply Kd.V_alloc | apply Kd.V_drewN | apply Kd.V_drew)); exact HO_565001.out) hb)
  have n1_ := Aside0.mk (Kd.V_below (by (with_reducible repeat (first | apply Kd.V_alloc | apply Kd.V_drewN | apply Kd.V_drew)); exact HO_565002.out) hb)
  have n2_ := Aside0.mk (Kd.R_below (by (with_reducible repeat (first | apply Kd.R_alloc | apply Kd.R_drewN | apply Kd.R_drew)); exact HO572.out) hb)
  have n3_ := Aside0.mk (Kd.N_below (by (with_reducible repeat (first | apply Kd.N_alloc | apply Kd.N_drewN | apply Kd.N_drew)); exact HO582.out) hb)
  have n4_ := Aside0.mk (Kd.N_below (by (with_reducible repeat (first | apply Kd.N_alloc | apply Kd.N_drewN | apply Kd.N_drew)); exact HO591.out) hb)
  have n5_ := Aside0.mk (blk_below (by (with_reducible repeat (first | refine blk_drewN ?_ _ | refine blk_drew ?_ | refine blk_alloc ?_ _)); exact BK554.out) hb)
  have n6_ := Aside0.mk (blk_below (by (with_reducible repeat (first | refine blk_drewN ?_ _ | refine blk_drew ?_ | refine blk_alloc ?_ _)); exact BK564.out) hb)
  have n7_ := Aside0.mk (blk_below (by (with_reducible repeat (first | refine blk_drewN ?_ _ | refine blk_drew ?_ | refine blk_alloc ?_ _)); exact BK573.out) hb)
  have n8_ := Aside0.mk (blk_below (by (with_reducible repeat (first | refine blk_drewN ?_ _ | refine blk_drew ?_ | refine blk_alloc ?_ _)); exact BK583.out) hb)
  have n9_ := Aside0.mk (blk_below (by (with_reducible repeat (first | refine blk_drewN ?_ _ | refine blk_drew ?_ | refine blk_alloc ?_ _)); exact BK592.out) hb)
  have n10_ := Aside0.mk (below_step (by repeat (first | (with_reducible first | exact HB.out | apply below_alloc | apply pw_below_drewN | apply below_drew1 | refine below_set ?_ GE554.out | refine below_set ?_ GE564.out | refine below_set ?_ GE573.out | refine below_set ?_ GE583.out | refine below_set ?_ GE592.out) | exact HB.out)) hb)
  clear HO_565001 HO_565002 HO572 HO582 HO591 BK554 BK564 BK573 BK583 BK592 HB
  have HO_565001 := n0_
  have HO_565002 := n1_
  have HO572 := n2_
  have HO582 := n3_
  have HO591 := n4_
  have BK554 := n5_
  have BK564 := n6_
  have BK573 := n7_
  have BK583 := n8_
  have BK592 := n9_
  have HB := n10_
  clear n0_ n1_ n2_ n3_ n4_ n5_ n6_ n7_ n8_ n9_ n10_
  (try clear hb)
  (try clear hb2)
  (try clear hk)
  (try clear hi)
  refine hK.out _ _ ⟨(blk_cell BK592.out 0).trans rfl, (blk_cell BK592.out 1).trans rfl, (blk_cell BK592.out 2).trans rfl, (blk_cell BK564.out 0).trans rfl, (blk_cell BK564.out 1).trans rfl, (blk_cell BK564.out 2).trans rfl⟩ (fun hHeld => ?_)
  clear hK K
  refine norm_ (a' := ?_) ?_ ?_
  rotate_left
  · show Act.put _ (some 109) _ = _
    simp only [Act.put, List.setIfInBounds_toArray, List.set_cons_zero, List.set_cons_succ, i64_w, i32_w]
    rfl
  refine pure_ (i := 10) (N := some 118) (v := ?_) (a' := ?_) #[true, true, true, true, true, true, true, true, true, true, true] rfl rfl (any_of HT_.out (by kernel_rfl)) (fun _ _ _ h => h) (Or.inl ⟨by rfl, ?_⟩) ?_ ?_
  rotate_left
  · intro w'
    go_simp
    with_reducible rfl
  rotate_left
  · simp only [Act.put, List.setIfInBounds_toArray, List.set_cons_zero, List.set_cons_succ, i64_w, i32_w]
    rfl
  refine done_ (done_of HT_.out (by kernel_rfl)) ?_
  obtain ⟨hcz88_0, hcz88_1, hcz88_2, hfz88_0, hfz88_1, hfz88_2⟩ := cf3 BK564.out
  try go_wp2_with (first | ((with_reducible refine gate_dst (N := 11) rfl ?_); (try (refine gate_guard (by rfl) ?_; dsimp only)); refine box_event ?hg (N := 11) ?hd (cs := #[.string (⟨#[]⟩ : ByteArray), .slice none 0 0, .slice none 0 0]) (t := 25) ?hr ?_; (case hd => rfl); (case hg => rfl); (case hr => first | (go_simp; done) | (go_simp; rfl)); intro gb595 hg w89 hbox hb; have n0_ := Aside0.mk (Kd.V_below (Kd.V_elderB (by (with_reducible repeat (first | apply Kd.V_alloc | apply Kd.V_drewN | apply Kd.V_drew)); exact HO_565001.out) gb595 (Nat.le_of_eq hg.symm)) hb); have n1_ := Aside0.mk (Kd.V_below (Kd.V_elderB (by (with_reducible repeat (first | apply Kd.V_alloc | apply Kd.V_drewN | apply Kd.V_drew)); exact HO_565002.out) gb595 (Nat.le_of_eq hg.symm)) hb); have n2_ := Aside0.mk (Kd.R_below (by (with_reducible repeat (first | apply Kd.R_alloc | apply Kd.R_drewN | apply Kd.R_drew)); exact HO572.out) hb); have n3_ := Aside0.mk (Kd.N_below (Kd.N_elderB (by (with_reducible repeat (first | apply Kd.N_alloc | apply Kd.N_drewN | apply Kd.N_drew)); exact HO582.out) gb595 (Nat.le_of_eq hg.symm)) hb); have n4_ := Aside0.mk (Kd.N_below (Kd.N_elderB (by (with_reducible repeat (first | apply Kd.N_alloc | apply Kd.N_drewN | apply Kd.N_drew)); exact HO591.out) gb595 (Nat.le_of_eq hg.symm)) hb); have n5_ := Aside0.mk (blk_below (by (with_reducible repeat (first | refine blk_drewN ?_ _ | refine blk_drew ?_ | refine blk_alloc ?_ _)); exact BK554.out) hb); have n6_ := Aside0.mk (blk_below (by (with_reducible repeat (first | refine blk_drewN ?_ _ | refine blk_drew ?_ | refine blk_alloc ?_ _)); exact BK564.out) hb); have n7_ := Aside0.mk (blk_below (by (with_reducible repeat (first | refine blk_drewN ?_ _ | refine blk_drew ?_ | refine blk_alloc ?_ _)); exact BK573.out) hb); have n8_ := Aside0.mk (blk_below (by (with_reducible repeat (first | refine blk_drewN ?_ _ | refine blk_drew ?_ | refine blk_alloc ?_ _)); exact BK583.out) hb); have n9_ := Aside0.mk (blk_below (by (with_reducible repeat (first | refine blk_drewN ?_ _ | refine blk_drew ?_ | refine blk_alloc ?_ _)); exact BK592.out) hb); have n10_ := Aside0.mk (below_step (by repeat (first | (with_reducible first | exact HB.out | apply below_alloc | apply pw_below_drewN | apply below_drew1 | refine below_set ?_ GE554.out | refine below_set ?_ GE564.out | refine below_set ?_ GE573.out | refine below_set ?_ GE583.out | refine below_set ?_ GE592.out) | exact HB.out)) hb); have n11_ := Aside0.mk (hbox); have n12_ := Aside0.mk ((by rw [hg]; exact (below_size (by repeat (first | (with_reducible first | exact HB.out | apply below_alloc | apply pw_below_drewN | apply below_drew1 | refine below_set ?_ GE554.out | refine below_set ?_ GE564.out | refine below_set ?_ GE573.out | refine below_set ?_ GE583.out | refine below_set ?_ GE592.out) | exact HB.out))) : w.heap.size ≤ gb595)); have n13_ := n12_; have n14_ := Aside0.mk ((by rw [hg]; exact Nat.ne_of_lt (blk_lt (by (with_reducible repeat (first | refine blk_drewN ?_ _ | refine blk_drew ?_ | refine blk_alloc ?_ _)); exact BK554.out)) : gb554 ≠ gb595)); have n15_ := Aside0.mk ((by rw [hg]; exact Nat.ne_of_gt (blk_lt (by (with_reducible repeat (first | refine blk_drewN ?_ _ | refine blk_drew ?_ | refine blk_alloc ?_ _)); exact BK554.out)) : gb595 ≠ gb554)); have n16_ := Aside0.mk ((by rw [hg]; exact Nat.ne_of_lt (blk_lt (by (with_reducible repeat (first | refine blk_drewN ?_ _ | refine blk_drew ?_ | refine blk_alloc ?_ _)); exact BK564.out)) : gb564 ≠ gb595)); have n17_ := Aside0.mk ((by rw [hg]; exact Nat.ne_of_gt (blk_lt (by (with_reducible repeat (first | refine blk_drewN ?_ _ | refine blk_drew ?_ | refine blk_alloc ?_ _)); exact BK564.out)) : gb595 ≠ gb564)); have n18_ := Aside0.mk ((by rw [hg]; exact Nat.ne_of_lt (blk_lt (by (with_reducible repeat (first | refine blk_drewN ?_ _ | refine blk_drew ?_ | refine blk_alloc ?_ _)); exact BK573.out)) : gb573 ≠ gb595)); have n19_ := Aside0.mk ((by rw [hg]; exact Nat.ne_of_gt (blk_lt (by (with_reducible repeat (first | refine blk_drewN ?_ _ | refine blk_drew ?_ | refine blk_alloc ?_ _)); exact BK573.out)) : gb595 ≠ gb573)); have n20_ := Aside0.mk ((by rw [hg]; exact Nat.ne_of_lt (blk_lt (by (with_reducible repeat (first | refine blk_drewN ?_ _ | refine blk_drew ?_ | refine blk_alloc ?_ _)); exact BK583.out)) : gb583 ≠ gb595)); have n21_ := Aside0.mk ((by rw [hg]; exact Nat.ne_of_gt (blk_lt (by (with_reducible repeat (first | refine blk_drewN ?_ _ | refine blk_drew ?_ | refine blk_alloc ?_ _)); exact BK583.out)) : gb595 ≠ gb583)); have n22_ := Aside0.mk ((by rw [hg]; exact Nat.ne_of_lt (blk_lt (by (with_reducible repeat (first | refine blk_drewN ?_ _ | refine blk_drew ?_ | refine blk_alloc ?_ _)); exact BK592.out)) : gb592 ≠ gb595)); have n23_ := Aside0.mk ((by rw [hg]; exact Nat.ne_of_gt (blk_lt (by (with_reducible repeat (first | refine blk_drewN ?_ _ | refine blk_drew ?_ | refine blk_alloc ?_ _)); exact BK592.out)) : gb595 ≠ gb592)); clear HO_565001; clear HO_565002; clear HO572; clear HO582; clear HO591; clear BK554; clear BK564; clear BK573; clear BK583; clear BK592; clear HB; have HO_565001 := n0_; have HO_565002 := n1_; have HO572 := n2_; have HO582 := n3_; have HO591 := n4_; have BK554 := n5_; have BK564 := n6_; have BK573 := n7_; have BK583 := n8_; have BK592 := n9_; have HB := n10_; have BK595 := n11_; have GW595 := n12_; have GE595 := n13_; have NB554_595 := n14_; have NB595_554 := n15_; have NB564_595 := n16_; have NB595_564 := n17_; have NB573_595 := n18_; have NB595_573 := n19_; have NB583_595 := n20_; have NB595_583 := n21_; have NB592_595 := n22_; have NB595_592 := n23_; clear n0_ n1_ n2_ n3_ n4_ n5_ n6_ n7_ n8_ n9_ n10_ n11_ n12_ n13_ n14_ n15_ n16_ n17_ n18_ n19_ n20_ n21_ n22_ n23_; clear hb hbox hg; have hnb90 := NB595_554.out; have hnc90 := NB554_595.out; have hnb91 := NB595_564.out; have hnc91 := NB564_595.out; have hnb92 := NB595_573.out; have hnc92 := NB573_595.out; have hnb93 := NB595_583.out; have hnc93 := NB583_595.out; have hnb94 := NB595_592.out; have hnc94 := NB592_595.out; obtain ⟨hcz95_0, hcz95_1, hcz95_2, hfz95_0, hfz95_1, hfz95_2⟩ := cf3 BK595.out) | ((with_reducible refine gate_callee (f := 13) rfl ?_); refine goesL_ (some 125) rfl rfl Try.func13 (by kernel_rfl) rfl #[.agg #[.string (⟨#[]⟩ : ByteArray), .slice (some ad569) t557.length co13, .slice Ao14 t560.length co14]] rfl pgz ?_; (with_reducible refine (net_Check.calls kj4 (⟨#[]⟩ : ByteArray) _ _ t557 _ _ t560 t596 t597 _ ?side1 ?side2 ?side3 ?side4 A43.out).mono ?_); (case side1 => refine (Kd.V_reads' (e := 50) (base := w.heap.size) (ok := fun k_ => ((some k_ ≠ (.slice Ao52 y570.length co52 : Value).ownBlock ∧ (some k_ ≠ (.slice Ao65 y580.length co65 : Value).ownBlock ∧ (some k_ ≠ (.slice Ao78 y589.length co78 : Value).ownBlock ∧ (k_ ≠ gb554 ∧ (k_ ≠ gb564 ∧ (k_ ≠ gb573 ∧ (k_ ≠ gb583 ∧ k_ ≠ gb592))))))) ∧ k_ ≠ gb595)) (n := t557.length) (c := co13) ?_).2.2; exact (by (with_reducible repeat (first | apply Kd.V_alloc | apply Kd.V_drewN | apply Kd.V_drew)); exact (Kd.V_mono (Kd.V_far (p := ⟨gb595, 2, none⟩) (Kd.V_far (p := ⟨gb595, 1, none⟩) (Kd.V_far (p := ⟨gb595, 0, none⟩) (Kd.V_mono HO_565001.out (fun k_ hk => (⟨hk, hk.2⟩ : _ ∧ k_ ≠ gb595))) (fun _ hk => hk.2) (.string (⟨#[]⟩ : ByteArray))) (fun _ hk => hk.2) (.slice (some ad569) t557.length co13)) (fun _ hk => hk.2) (.slice Ao14 t560.length co14)) (fun _ h_ => h_.1)))); (case side2 => exact (Kd.V_reads' HO_565001.out).2.1); (case side3 => refine (Kd.V_reads' (e := 53) (base := w.heap.size) (ok := fun k_ => ((some k_ ≠ (.slice Ao52 y570.length co52 : Value).ownBlock ∧ (some k_ ≠ (.slice Ao65 y580.length co65 : Value).ownBlock ∧ (some k_ ≠ (.slice Ao78 y589.length co78 : Value).ownBlock ∧ (k_ ≠ gb554 ∧ (k_ ≠ gb564 ∧ (k_ ≠ gb573 ∧ (k_ ≠ gb583 ∧ k_ ≠ gb592))))))) ∧ k_ ≠ gb595)) (n := t560.length) (c := co14) ?_).2.2; exact (by (with_reducible repeat (first | apply Kd.V_alloc | apply Kd.V_drewN | apply Kd.V_drew)); exact (Kd.V_mono (Kd.V_far (p := ⟨gb595, 2, none⟩) (Kd.V_far (p := ⟨gb595, 1, none⟩) (Kd.V_far (p := ⟨gb595, 0, none⟩) (Kd.V_mono HO_565002.out (fun k_ hk => (⟨hk, hk.2⟩ : _ ∧ k_ ≠ gb595))) (fun _ hk => hk.2) (.string (⟨#[]⟩ : ByteArray))) (fun _ hk => hk.2) (.slice (some ad569) t557.length co13)) (fun _ hk => hk.2) (.slice Ao14 t560.length co14)) (fun _ h_ => h_.1)))); (case side4 => exact (Kd.V_reads' HO_565002.out).2.1); rintro e w96 ⟨rfl, hb⟩; refine ⟨_, rfl, ?_⟩; have n0_ := Aside0.mk (Kd.V_below (by (with_reducible repeat (first | apply Kd.V_alloc | apply Kd.V_drewN | apply Kd.V_drew)); exact (Kd.V_mono (Kd.V_far (p := ⟨gb595, 2, none⟩) (Kd.V_far (p := ⟨gb595, 1, none⟩) (Kd.V_far (p := ⟨gb595, 0, none⟩) (Kd.V_mono HO_565001.out (fun k_ hk => (⟨hk, hk.2⟩ : _ ∧ k_ ≠ gb595))) (fun _ hk => hk.2) (.string (⟨#[]⟩ : ByteArray))) (fun _ hk => hk.2) (.slice (some ad569) t557.length co13)) (fun _ hk => hk.2) (.slice Ao14 t560.length co14)) (fun _ h_ => h_.1))) hb); have n1_ := Aside0.mk (Kd.V_below (by (with_reducible repeat (first | apply Kd.V_alloc | apply Kd.V_drewN | apply Kd.V_drew)); exact (Kd.V_mono (Kd.V_far (p := ⟨gb595, 2, none⟩) (Kd.V_far (p := ⟨gb595, 1, none⟩) (Kd.V_far (p := ⟨gb595, 0, none⟩) (Kd.V_mono HO_565002.out (fun k_ hk => (⟨hk, hk.2⟩ : _ ∧ k_ ≠ gb595))) (fun _ hk => hk.2) (.string (⟨#[]⟩ : ByteArray))) (fun _ hk => hk.2) (.slice (some ad569) t557.length co13)) (fun _ hk => hk.2) (.slice Ao14 t560.length co14)) (fun _ h_ => h_.1))) hb); have n2_ := Aside0.mk (Kd.R_below (by (with_reducible repeat (first | apply Kd.R_alloc | apply Kd.R_drewN | apply Kd.R_drew)); exact (Kd.R_mono (Kd.R_far (p := ⟨gb595, 2, none⟩) (Kd.R_far (p := ⟨gb595, 1, none⟩) (Kd.R_far (p := ⟨gb595, 0, none⟩) (Kd.R_types HO572.out BK595.out (by decide)) (fun _ hk => hk.2) (.string (⟨#[]⟩ : ByteArray))) (fun _ hk => hk.2) (.slice (some ad569) t557.length co13)) (fun _ hk => hk.2) (.slice Ao14 t560.length co14)) (fun _ h_ => h_.1))) hb); have n3_ := Aside0.mk (Kd.N_below (by (with_reducible repeat (first | apply Kd.N_alloc | apply Kd.N_drewN | apply Kd.N_drew)); exact (Kd.N_mono (Kd.N_far (p := ⟨gb595, 2, none⟩) (Kd.N_far (p := ⟨gb595, 1, none⟩) (Kd.N_far (p := ⟨gb595, 0, none⟩) (Kd.N_mono HO582.out (fun k_ hk => (⟨hk, hk.2⟩ : _ ∧ k_ ≠ gb595))) (fun _ hk => hk.2) (.string (⟨#[]⟩ : ByteArray))) (fun _ hk => hk.2) (.slice (some ad569) t557.length co13)) (fun _ hk => hk.2) (.slice Ao14 t560.length co14)) (fun _ h_ => h_.1))) hb); have n4_ := Aside0.mk (Kd.N_below (by (with_reducible repeat (first | apply Kd.N_alloc | apply Kd.N_drewN | apply Kd.N_drew)); exact (Kd.N_mono (Kd.N_far (p := ⟨gb595, 2, none⟩) (Kd.N_far (p := ⟨gb595, 1, none⟩) (Kd.N_far (p := ⟨gb595, 0, none⟩) (Kd.N_mono HO591.out (fun k_ hk => (⟨hk, hk.2⟩ : _ ∧ k_ ≠ gb595))) (fun _ hk => hk.2) (.string (⟨#[]⟩ : ByteArray))) (fun _ hk => hk.2) (.slice (some ad569) t557.length co13)) (fun _ hk => hk.2) (.slice Ao14 t560.length co14)) (fun _ h_ => h_.1))) hb); have n5_ := Aside0.mk (blk_below (g := gb554) (o := .cells #[.string a0_0, .slice A0_1 l0_1.length c0_1, .slice A0_2 l0_2.length c0_2] 25 (0, 0)) (by (with_reducible repeat (first | refine blk_drewN ?_ _ | refine blk_drew ?_ | refine blk_alloc ?_ _)); refine blk_far ?_ NB554_595.out _; (with_reducible repeat (first | refine blk_drewN ?_ _ | refine blk_drew ?_ | refine blk_alloc ?_ _)); refine blk_far ?_ NB554_595.out _; (with_reducible repeat (first | refine blk_drewN ?_ _ | refine blk_drew ?_ | refine blk_alloc ?_ _)); refine blk_far ?_ NB554_595.out _; (with_reducible repeat (first | refine blk_drewN ?_ _ | refine blk_drew ?_ | refine blk_alloc ?_ _)); exact BK554.out) hb); have n6_ := Aside0.mk (blk_below (g := gb564) (o := .cells #[.string t556, .slice (some ad569) t557.length co13, .slice Ao14 t560.length co14] 25 (0, 0)) (by (with_reducible repeat (first | refine blk_drewN ?_ _ | refine blk_drew ?_ | refine blk_alloc ?_ _)); refine blk_far ?_ NB564_595.out _; (with_reducible repeat (first | refine blk_drewN ?_ _ | refine blk_drew ?_ | refine blk_alloc ?_ _)); refine blk_far ?_ NB564_595.out _; (with_reducible repeat (first | refine blk_drewN ?_ _ | refine blk_drew ?_ | refine blk_alloc ?_ _)); refine blk_far ?_ NB564_595.out _; (with_reducible repeat (first | refine blk_drewN ?_ _ | refine blk_drew ?_ | refine blk_alloc ?_ _)); exact BK564.out) hb); have n7_ := Aside0.mk (blk_below (g := gb573) (o := .cells #[.string t556, .slice Ao52 y570.length co52, .slice Ao14 t560.length co14] 25 (0, 0)) (by (with_reducible repeat (first | refine blk_drewN ?_ _ | refine blk_drew ?_ | refine blk_alloc ?_ _)); refine blk_far ?_ NB573_595.out _; (with_reducible repeat (first | refine blk_drewN ?_ _ | refine blk_drew ?_ | refine blk_alloc ?_ _)); refine blk_far ?_ NB573_595.out _; (with_reducible repeat (first | refine blk_drewN ?_ _ | refine blk_drew ?_ | refine blk_alloc ?_ _)); refine blk_far ?_ NB573_595.out _; (with_reducible repeat (first | refine blk_drewN ?_ _ | refine blk_drew ?_ | refine blk_alloc ?_ _)); exact BK573.out) hb); have n8_ := Aside0.mk (blk_below (g := gb583) (o := .cells #[.string t556, .slice (some ad569) t557.length co13, .slice Ao65 y580.length co65] 25 (0, 0)) (by (with_reducible repeat (first | refine blk_drewN ?_ _ | refine blk_drew ?_ | refine blk_alloc ?_ _)); refine blk_far ?_ NB583_595.out _; (with_reducible repeat (first | refine blk_drewN ?_ _ | refine blk_drew ?_ | refine blk_alloc ?_ _)); refine blk_far ?_ NB583_595.out _; (with_reducible repeat (first | refine blk_drewN ?_ _ | refine blk_drew ?_ | refine blk_alloc ?_ _)); refine blk_far ?_ NB583_595.out _; (with_reducible repeat (first | refine blk_drewN ?_ _ | refine blk_drew ?_ | refine blk_alloc ?_ _)); exact BK583.out) hb); have n9_ := Aside0.mk (blk_below (g := gb592) (o := .cells #[.string t556, .slice (some ad569) t557.length co13, .slice Ao78 y589.length co78] 25 (0, 0)) (by (with_reducible repeat (first | refine blk_drewN ?_ _ | refine blk_drew ?_ | refine blk_alloc ?_ _)); refine blk_far ?_ NB592_595.out _; (with_reducible repeat (first | refine blk_drewN ?_ _ | refine blk_drew ?_ | refine blk_alloc ?_ _)); refine blk_far ?_ NB592_595.out _; (with_reducible repeat (first | refine blk_drewN ?_ _ | refine blk_drew ?_ | refine blk_alloc ?_ _)); refine blk_far ?_ NB592_595.out _; (with_reducible repeat (first | refine blk_drewN ?_ _ | refine blk_drew ?_ | refine blk_alloc ?_ _)); exact BK592.out) hb); have n10_ := Aside0.mk (blk_below (g := gb595) (o := .cells #[.string (⟨#[]⟩ : ByteArray), .slice (some ad569) t557.length co13, .slice Ao14 t560.length co14] 25 (0, 0)) (by (with_reducible repeat (first | refine blk_drewN ?_ _ | refine blk_drew ?_ | refine blk_alloc ?_ _)); refine blk_put (cs := #[.string (⟨#[]⟩ : ByteArray), .slice (some ad569) t557.length co13, .slice none 0 0]) ?_ 2 _ rfl; (with_reducible repeat (first | refine blk_drewN ?_ _ | refine blk_drew ?_ | refine blk_alloc ?_ _)); refine blk_put (cs := #[.string (⟨#[]⟩ : ByteArray), .slice none 0 0, .slice none 0 0]) ?_ 1 _ rfl; (with_reducible repeat (first | refine blk_drewN ?_ _ | refine blk_drew ?_ | refine blk_alloc ?_ _)); refine blk_put (cs := #[.string (⟨#[]⟩ : ByteArray), .slice none 0 0, .slice none 0 0]) ?_ 0 _ rfl; (with_reducible repeat (first | refine blk_drewN ?_ _ | refine blk_drew ?_ | refine blk_alloc ?_ _)); exact BK595.out) hb); have n11_ := Aside0.mk (below_step (by repeat (first | (with_reducible first | exact HB.out | apply below_alloc | apply pw_below_drewN | apply below_drew1 | refine below_set ?_ GE554.out | refine below_set ?_ GE564.out | refine below_set ?_ GE573.out | refine below_set ?_ GE583.out | refine below_set ?_ GE592.out | refine below_set ?_ GE595.out) | exact HB.out)) hb); clear HO_565001; clear HO_565002; clear HO572; clear HO582; clear HO591; clear BK554; clear BK564; clear BK573; clear BK583; clear BK592; clear BK595; clear HB; have HO_565001 := n0_; have HO_565002 := n1_; have HO572 := n2_; have HO582 := n3_; have HO591 := n4_; have BK554 := n5_; have BK564 := n6_; have BK573 := n7_; have BK583 := n8_; have BK592 := n9_; have BK595 := n10_; have HB := n11_; clear n0_ n1_ n2_ n3_ n4_ n5_ n6_ n7_ n8_ n9_ n10_ n11_; (try clear hb); (try clear hb2); (try clear hk); (try clear hi); obtain ⟨hcz97_0, hcz97_1, hcz97_2, hfz97_0, hfz97_1, hfz97_2⟩ := cf3 BK564.out) | (go_at_call 13; (refine (net_Check.calls kj4 t556 _ _ ([] : List (S50)) _ _ t560 t598 t599 _ ?side1 ?side2 ?side3 ?side4 A45.out).mono ?_); (case side1 => exact Kd.C_nil _ _); (case side2 => exact Nat.le_refl _); (case side3 => repeat (first | exact (Kd.V_reads' HO_565002.out).2.2 | (with_reducible refine Kd.C_alloc ?_ _) | (with_reducible refine Kd.C_drewN ?_ _) | (with_reducible refine Kd.C_drew ?_))); (case side4 => exact (Kd.V_reads' HO_565002.out).2.1); rintro e w98 ⟨rfl, hb⟩; have n0_ := Aside0.mk (Kd.V_below (by (with_reducible repeat (first | apply Kd.V_alloc | apply Kd.V_drewN | apply Kd.V_drew)); exact HO_565001.out) hb); have n1_ := Aside0.mk (Kd.V_below (by (with_reducible repeat (first | apply Kd.V_alloc | apply Kd.V_drewN | apply Kd.V_drew)); exact HO_565002.out) hb); have n2_ := Aside0.mk (Kd.R_below (by (with_reducible repeat (first | apply Kd.R_alloc | apply Kd.R_drewN | apply Kd.R_drew)); exact HO572.out) hb); have n3_ := Aside0.mk (Kd.N_below (by (with_reducible repeat (first | apply Kd.N_alloc | apply Kd.N_drewN | apply Kd.N_drew)); exact HO582.out) hb); have n4_ := Aside0.mk (Kd.N_below (by (with_reducible repeat (first | apply Kd.N_alloc | apply Kd.N_drewN | apply Kd.N_drew)); exact HO591.out) hb); have n5_ := Aside0.mk (blk_below (by (with_reducible repeat (first | refine blk_drewN ?_ _ | refine blk_drew ?_ | refine blk_alloc ?_ _)); exact BK554.out) hb); have n6_ := Aside0.mk (blk_below (by (with_reducible repeat (first | refine blk_drewN ?_ _ | refine blk_drew ?_ | refine blk_alloc ?_ _)); exact BK564.out) hb); have n7_ := Aside0.mk (blk_below (by (with_reducible repeat (first | refine blk_drewN ?_ _ | refine blk_drew ?_ | refine blk_alloc ?_ _)); exact BK573.out) hb); have n8_ := Aside0.mk (blk_below (by (with_reducible repeat (first | refine blk_drewN ?_ _ | refine blk_drew ?_ | refine blk_alloc ?_ _)); exact BK583.out) hb); have n9_ := Aside0.mk (blk_below (by (with_reducible repeat (first | refine blk_drewN ?_ _ | refine blk_drew ?_ | refine blk_alloc ?_ _)); exact BK592.out) hb); have n10_ := Aside0.mk (blk_below (by (with_reducible repeat (first | refine blk_drewN ?_ _ | refine blk_drew ?_ | refine blk_alloc ?_ _)); exact BK595.out) hb); have n11_ := Aside0.mk (below_step (by repeat (first | (with_reducible first | exact HB.out | apply below_alloc | apply pw_below_drewN | apply below_drew1 | refine below_set ?_ GE554.out | refine below_set ?_ GE564.out | refine below_set ?_ GE573.out | refine below_set ?_ GE583.out | refine below_set ?_ GE592.out | refine below_set ?_ GE595.out) | exact HB.out)) hb); clear HO_565001; clear HO_565002; clear HO572; clear HO582; clear HO591; clear BK554; clear BK564; clear BK573; clear BK583; clear BK592; clear BK595; clear HB; have HO_565001 := n0_; have HO_565002 := n1_; have HO572 := n2_; have HO582 := n3_; have HO591 := n4_; have BK554 := n5_; have BK564 := n6_; have BK573 := n7_; have BK583 := n8_; have BK592 := n9_; have BK595 := n10_; have HB := n11_; clear n0_ n1_ n2_ n3_ n4_ n5_ n6_ n7_ n8_ n9_ n10_ n11_; (try clear hb); (try clear hb2); (try clear hk); (try clear hi)))
  go_ret
  exact ⟨by first | rfl | (simp [errW_none, errW_some] <;> rfl) | (simp [*, errW_none, errW_some] <;> rfl), by repeat (first | (with_reducible first | exact HB.out | apply below_alloc | apply pw_below_drewN | apply below_drew1 | refine below_set ?_ GE554.out | refine below_set ?_ GE564.out | refine below_set ?_ GE573.out | refine below_set ?_ GE583.out | refine below_set ?_ GE592.out | refine below_set ?_ GE595.out) | exact HB.out)⟩

end Go.Proofs.Ytboonibkibhmhaa.P
