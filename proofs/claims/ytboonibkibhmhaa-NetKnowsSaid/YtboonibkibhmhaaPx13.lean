-- LAID BY OUR PROGRAM OVER THE PRINT (xprint.py): Lean checks it.
import Derived.Test.YtboonibkibhmhaaPx0
import Derived.Test.YtboonibkibhmhaaPx2
import Derived.Test.YtboonibkibhmhaaPx6
import Derived.Test.YtboonibkibhmhaaPx7
import Derived.Test.YtboonibkibhmhaaPx8
import Derived.BigRegion
import Derived.Laws.EntriesVeiled
import Derived.RegionTactic
namespace Go.Proofs.Ytboonibkibhmhaa.P
open Go.RowKit Go.Proofs.YtboonibkibhmhaaW.PrintWords Go.Proofs.YtboonibkibhmhaaW.PrintLast Go.Proofs.YtboonibkibhmhaaW.PrintMore
attribute [local go_sem] max2_int min2_int max_two min_two max_three min_three max_four min_four   -- for this text's walks alone
set_option linter.unusedVariables false
set_option linter.unusedSimpArgs false

attribute [local go_sem high] eqA50
/-! ### net_Same: function 44 -/
-- IMPORTS Derived.RegionTactic,Derived.BigRegion,Derived.Laws.EntriesVeiled
def net_Same.ne (x y : S50) : Bool := (!(x.f0.toList == y.f0.toList) || (!(x.f1 == y.f1) || (!(x.f2 == y.f2))))
def net_Same.tr (k : Nat) (x y : S53) : Option Bool := if (x.f0.toList == y.f0.toList) = true then (if (x.f4 == y.f4) = true then ((net_sameArcs.f k x.f1 y.f1).bind fun b => if b = true then ((net_sameArcs.f k x.f2 y.f2).bind fun b => if b = true then net_sameArcs.f k x.f3 y.f3 else some false) else some false) else some false) else some false
def net_Same.l1 : Nat → List S53 → List S53 → Int → Option Bool
  | 0, _, _, _ => none
  | k + 1, p, q, i => if i < (p.length : Int) then (if 0 ≤ i then (if i < (q.length : Int) then ((net_Same.tr k (rd_T53 p i) (rd_T53 q i)).bind fun b => if b = true then net_Same.l1 k p q (wrap64 (i + 1)) else some false) else none) else none) else some true
def net_Same.l0 : Nat → List S50 → List S50 → List S53 → List S53 → Int → Option Bool
  | 0, _, _, _, _, _ => none
  | k + 1, p, q, u, v, i => if i < (p.length : Int) then (if 0 ≤ i then (if i < (q.length : Int) then (if net_Same.ne (rd_T50 p i) (rd_T50 q i) = true then some false else net_Same.l0 k p q u v (wrap64 (i + 1))) else none) else none) else net_Same.l1 k u v 0
def net_Same.f (k : Nat) (a0_0 : ByteArray) (l0_1 : List (S50)) (l0_2 : List (S53)) (a1_0 : ByteArray) (l1_1 : List (S50)) (l1_2 : List (S53)) : Option Bool := (net_valid.f k a0_0 l0_1 l0_2).bind fun t => if t = true then ((net_valid.f k a1_0 l1_1 l1_2).bind fun u => if u = true then (if (a0_0.toList == a1_0.toList) = true then (if (l0_1.length : Int) = (l1_1.length : Int) then (if (l0_2.length : Int) = (l1_2.length : Int) then net_Same.l0 k l0_1 l1_1 l0_2 l1_2 0 else some false) else some false) else some false) else some false) else some false
theorem net_Same.mono_tr (k : Nat) (x y : S53) : LeO (net_Same.tr k x y) (net_Same.tr (k + 1) x y) := by
  unfold net_Same.tr
  repeat' first | exact net_sameArcs.mono _ _ _ | exact LeO.refl _ | refine LeO.ite ?_ ?_ | refine LeO.bind (net_sameArcs.mono _ _ _) (fun _ => ?_)
theorem net_Same.mono_l : ∀ k, (∀ y0 y1 y2 y3 y4, LeO (net_Same.l0 k y0 y1 y2 y3 y4) (net_Same.l0 (k + 1) y0 y1 y2 y3 y4)) ∧ (∀ y0 y1 y2, LeO (net_Same.l1 k y0 y1 y2) (net_Same.l1 (k + 1) y0 y1 y2))
  | 0 => ⟨fun _ _ _ _ _ r h => by simp [net_Same.l0] at h, fun _ _ _ r h => by simp [net_Same.l1] at h⟩
  | k + 1 => by
    obtain ⟨ih0, ih1⟩ := net_Same.mono_l k
    refine ⟨?_, ?_⟩
    · intro y0 y1 y2 y3 y4
      unfold net_Same.l0
      repeat' first | exact ih0 _ _ _ _ _ | exact ih1 _ _ _ | exact LeO.refl _ | exact LeO.none _ | refine LeO.ite ?_ ?_
    · intro y0 y1 y2
      unfold net_Same.l1
      repeat' first | exact ih1 _ _ _ | exact LeO.refl _ | exact LeO.none _ | refine LeO.ite ?_ ?_ | refine LeO.bind (net_Same.mono_tr _ _ _) (fun _ => ?_)
theorem net_Same.mono : ∀ a0 a1 a2 a3 a4 a5 k, LeO (net_Same.f k a0 a1 a2 a3 a4 a5) (net_Same.f (k + 1) a0 a1 a2 a3 a4 a5) := by
  intro a0 a1 a2 a3 a4 a5 k
  unfold net_Same.f
  repeat' first | exact (net_Same.mono_l k).1 _ _ _ _ _ | exact LeO.refl _ | refine LeO.ite ?_ ?_ | refine LeO.bind (net_valid.mono _ _ _ _) (fun _ => ?_)
set_option maxHeartbeats 8000000 in
set_option maxRecDepth 100000 in
theorem net_Same.calls (k : Nat) (a0_0 : ByteArray) (A0_1 : Option Addr) (c0_1 : Nat) (l0_1 : List (S50)) (A0_2 : Option Addr) (c0_2 : Nat) (l0_2 : List (S53)) (a1_0 : ByteArray) (A1_1 : Option Addr) (c1_1 : Nat) (l1_1 : List (S50)) (A1_2 : Option Addr) (c1_2 : Nat) (l1_2 : List (S53)) (r : Bool) (w : World) (hr0_1 : Kd.C k50 w A0_1 l0_1.length l0_1) (hc0_1 : l0_1.length ≤ c0_1) (hr0_2 : Kd.C k53 w A0_2 l0_2.length l0_2) (hc0_2 : l0_2.length ≤ c0_2) (hr1_1 : Kd.C k50 w A1_1 l1_1.length l1_1) (hc1_1 : l1_1.length ≤ c1_1) (hr1_2 : Kd.C k53 w A1_2 l1_2.length l1_2) (hc1_2 : l1_2.length ≤ c1_2) (h : net_Same.f k a0_0 l0_1 l0_2 a1_0 l1_1 l1_2 = some r) :
    Calls Try.prog 44 #[.agg #[.string a0_0, .slice A0_1 l0_1.length c0_1, .slice A0_2 l0_2.length c0_2], .agg #[.string a1_0, .slice A1_1 l1_1.length c1_1, .slice A1_2 l1_2.length c1_2]] w fun e w' => e = .returned (.bool r) ∧ Below w.heap.size w w' := by
  have hu1 := Try.underlying25
  have hu2 := Try.underlying50
  have hu3 := Try.underlying53
  have HR01 := Aside0.mk hr0_1
  have HC01 := Aside0.mk hc0_1
  have HR02 := Aside0.mk hr0_2
  have HC02 := Aside0.mk hc0_2
  have HR11 := Aside0.mk hr1_1
  have HC11 := Aside0.mk hc1_1
  have HR12 := Aside0.mk hr1_2
  have HC12 := Aside0.mk hc1_2
  clear hr0_1 hc0_1 hr0_2 hc0_2 hr1_1 hc1_1 hr1_2 hc1_2
  have hs1 : (w.alloc (.cells #[.string a0_0, .slice A0_1 l0_1.length c0_1, .slice A0_2 l0_2.length c0_2] 25)).heap.size = w.heap.size + 1 := by simp
  obtain ⟨w2, hw2⟩ : ∃ w2 : World, w2 = (w.alloc (.cells #[.string a0_0, .slice A0_1 l0_1.length c0_1, .slice A0_2 l0_2.length c0_2] 25)).alloc (.cells #[.string a1_0, .slice A1_1 l1_1.length c1_1, .slice A1_2 l1_2.length c1_2] 25) := ⟨_, rfl⟩
  have XA := Aside0.mk (show w2.heap[w.heap.size]? = some (.cells #[.string a0_0, .slice A0_1 l0_1.length c0_1, .slice A0_2 l0_2.length c0_2] 25 (0, 0)) by rw [hw2]; exact blk_below (alloc_new _ _) (below_alloc (Below.refl _ _) _))
  have XB := Aside0.mk (show w2.heap[w.heap.size + 1]? = some (.cells #[.string a1_0, .slice A1_1 l1_1.length c1_1, .slice A1_2 l1_2.length c1_2] 25 (0, 0)) by rw [hw2, ← hs1]; exact alloc_new _ _)
  have HB := Aside0.mk (show Below w.heap.size w w2 by rw [hw2]; exact below_alloc (below_alloc (Below.refl _ _) _) _)
  obtain ⟨cx0, cx1, cx2⟩ := net_facts XA.out
  obtain ⟨cy0, cy1, cy2⟩ := net_facts XB.out
  rw [hw2] at cx0 cx1 cx2 cy0 cy1 cy2
  have HW := Aside0.mk hw2
  clear hs1 hw2
  unfold net_Same.f at h
  obtain ⟨t, ht, h⟩ := Option.bind_eq_some_iff.mp h
  have HV1 := Aside0.mk ht
  clear ht
  by_cases t1 : t = true
  case neg =>
    rw [if_neg t1] at h
    obtain rfl := Option.some.inj h
    replace t1 := Bool.eq_false_iff.mpr t1
    subst t1
    go_enter Try.func44, Try.ntmps44
    go_wp2_with (first | (go_at_call 54; rw [← HW.out]; refine (net_valid.calls k _ _ _ _ _ _ _ _ _ (Kd.C_below HR01.out HB.out) HC01.out (Kd.C_below HR02.out HB.out) HC02.out HV1.out).mono ?_; rintro e w3 ⟨rfl, hb⟩; have XA3 := Aside0.mk (blk_below XA.out hb); have XB3 := Aside0.mk (blk_below XB.out hb); have HB3 := Aside0.mk (HB.out.trans (hb.mono HB.out.size)); obtain ⟨cx0, cx1, cx2⟩ := net_facts XA3.out; obtain ⟨cy0, cy1, cy2⟩ := net_facts XB3.out; clear hb))
    go_ret
    exact ⟨rfl, HB3.out⟩
  rw [if_pos t1] at h
  subst t1
  obtain ⟨t, ht, h⟩ := Option.bind_eq_some_iff.mp h
  have HV2 := Aside0.mk ht
  clear ht
  by_cases t1 : t = true
  case neg =>
    rw [if_neg t1] at h
    obtain rfl := Option.some.inj h
    replace t1 := Bool.eq_false_iff.mpr t1
    subst t1
    go_enter Try.func44, Try.ntmps44
    go_wp2_with (first | (go_at_call 54; rw [← HW.out]; refine (net_valid.calls k _ _ _ _ _ _ _ _ _ (Kd.C_below HR01.out HB.out) HC01.out (Kd.C_below HR02.out HB.out) HC02.out HV1.out).mono ?_; rintro e w3 ⟨rfl, hb⟩; have XA3 := Aside0.mk (blk_below XA.out hb); have XB3 := Aside0.mk (blk_below XB.out hb); have HB3 := Aside0.mk (HB.out.trans (hb.mono HB.out.size)); obtain ⟨cx0, cx1, cx2⟩ := net_facts XA3.out; obtain ⟨cy0, cy1, cy2⟩ := net_facts XB3.out; clear hb) | (go_at_call 54; refine (net_valid.calls k _ _ _ _ _ _ _ _ _ (Kd.C_below HR11.out HB3.out) HC11.out (Kd.C_below HR12.out HB3.out) HC12.out HV2.out).mono ?_; rintro e w4 ⟨rfl, hb⟩; have XA4 := Aside0.mk (blk_below XA3.out hb); have XB4 := Aside0.mk (blk_below XB3.out hb); have HB4 := Aside0.mk (HB3.out.trans (hb.mono HB3.out.size)); obtain ⟨cx0, cx1, cx2⟩ := net_facts XA4.out; obtain ⟨cy0, cy1, cy2⟩ := net_facts XB4.out; clear hb))
    go_ret
    exact ⟨rfl, HB4.out⟩
  rw [if_pos t1] at h
  subst t1
  by_cases z1 : (a0_0.toList == a1_0.toList) = true
  case neg =>
    rw [if_neg z1] at h
    obtain rfl := Option.some.inj h
    replace z1 := Bool.eq_false_iff.mpr z1
    have z1b : (a0_0.toList != a1_0.toList) = true := by rw [bne, z1]; rfl
    go_enter Try.func44, Try.ntmps44
    go_wp2_with (first | (go_at_call 54; rw [← HW.out]; refine (net_valid.calls k _ _ _ _ _ _ _ _ _ (Kd.C_below HR01.out HB.out) HC01.out (Kd.C_below HR02.out HB.out) HC02.out HV1.out).mono ?_; rintro e w3 ⟨rfl, hb⟩; have XA3 := Aside0.mk (blk_below XA.out hb); have XB3 := Aside0.mk (blk_below XB.out hb); have HB3 := Aside0.mk (HB.out.trans (hb.mono HB.out.size)); obtain ⟨cx0, cx1, cx2⟩ := net_facts XA3.out; obtain ⟨cy0, cy1, cy2⟩ := net_facts XB3.out; clear hb) | (go_at_call 54; refine (net_valid.calls k _ _ _ _ _ _ _ _ _ (Kd.C_below HR11.out HB3.out) HC11.out (Kd.C_below HR12.out HB3.out) HC12.out HV2.out).mono ?_; rintro e w4 ⟨rfl, hb⟩; have XA4 := Aside0.mk (blk_below XA3.out hb); have XB4 := Aside0.mk (blk_below XB3.out hb); have HB4 := Aside0.mk (HB3.out.trans (hb.mono HB3.out.size)); obtain ⟨cx0, cx1, cx2⟩ := net_facts XA4.out; obtain ⟨cy0, cy1, cy2⟩ := net_facts XB4.out; clear hb))
    go_ret
    exact ⟨rfl, HB4.out⟩
  rw [if_pos z1] at h
  have z1b : (a0_0.toList != a1_0.toList) = false := by rw [bne, z1]; rfl
  by_cases y1 : (l0_1.length : Int) = (l1_1.length : Int)
  case neg =>
    rw [if_neg y1] at h
    obtain rfl := Option.some.inj h
    have y1b : ((l0_1.length : Int) == (l1_1.length : Int)) = false := beq_eq_false_iff_ne.mpr y1
    have y1c : ((l0_1.length : Int) != (l1_1.length : Int)) = true := bne_iff_ne.mpr y1
    have y1d : (l0_1.length == l1_1.length) = false := by rw [beq_eq_false_iff_ne]; omega
    clear y1
    go_enter Try.func44, Try.ntmps44
    go_wp2_with (first | (go_at_call 54; rw [← HW.out]; refine (net_valid.calls k _ _ _ _ _ _ _ _ _ (Kd.C_below HR01.out HB.out) HC01.out (Kd.C_below HR02.out HB.out) HC02.out HV1.out).mono ?_; rintro e w3 ⟨rfl, hb⟩; have XA3 := Aside0.mk (blk_below XA.out hb); have XB3 := Aside0.mk (blk_below XB.out hb); have HB3 := Aside0.mk (HB.out.trans (hb.mono HB.out.size)); obtain ⟨cx0, cx1, cx2⟩ := net_facts XA3.out; obtain ⟨cy0, cy1, cy2⟩ := net_facts XB3.out; clear hb) | (go_at_call 54; refine (net_valid.calls k _ _ _ _ _ _ _ _ _ (Kd.C_below HR11.out HB3.out) HC11.out (Kd.C_below HR12.out HB3.out) HC12.out HV2.out).mono ?_; rintro e w4 ⟨rfl, hb⟩; have XA4 := Aside0.mk (blk_below XA3.out hb); have XB4 := Aside0.mk (blk_below XB3.out hb); have HB4 := Aside0.mk (HB3.out.trans (hb.mono HB3.out.size)); obtain ⟨cx0, cx1, cx2⟩ := net_facts XA4.out; obtain ⟨cy0, cy1, cy2⟩ := net_facts XB4.out; clear hb))
    go_ret
    exact ⟨rfl, HB4.out⟩
  rw [if_pos y1] at h
  have y1b : ((l0_1.length : Int) == (l1_1.length : Int)) = true := beq_iff_eq.mpr y1
  have y1c : ((l0_1.length : Int) != (l1_1.length : Int)) = false := bne_eq_false_iff_eq.mpr y1
  have y1d : (l0_1.length == l1_1.length) = true := by rw [beq_iff_eq]; omega
  have Y1 := Aside0.mk y1
  clear y1
  by_cases y2 : (l0_2.length : Int) = (l1_2.length : Int)
  case neg =>
    rw [if_neg y2] at h
    obtain rfl := Option.some.inj h
    have y2b : ((l0_2.length : Int) == (l1_2.length : Int)) = false := beq_eq_false_iff_ne.mpr y2
    have y2c : ((l0_2.length : Int) != (l1_2.length : Int)) = true := bne_iff_ne.mpr y2
    have y2d : (l0_2.length == l1_2.length) = false := by rw [beq_eq_false_iff_ne]; omega
    clear y2
    go_enter Try.func44, Try.ntmps44
    go_wp2_with (first | (go_at_call 54; rw [← HW.out]; refine (net_valid.calls k _ _ _ _ _ _ _ _ _ (Kd.C_below HR01.out HB.out) HC01.out (Kd.C_below HR02.out HB.out) HC02.out HV1.out).mono ?_; rintro e w3 ⟨rfl, hb⟩; have XA3 := Aside0.mk (blk_below XA.out hb); have XB3 := Aside0.mk (blk_below XB.out hb); have HB3 := Aside0.mk (HB.out.trans (hb.mono HB.out.size)); obtain ⟨cx0, cx1, cx2⟩ := net_facts XA3.out; obtain ⟨cy0, cy1, cy2⟩ := net_facts XB3.out; clear hb) | (go_at_call 54; refine (net_valid.calls k _ _ _ _ _ _ _ _ _ (Kd.C_below HR11.out HB3.out) HC11.out (Kd.C_below HR12.out HB3.out) HC12.out HV2.out).mono ?_; rintro e w4 ⟨rfl, hb⟩; have XA4 := Aside0.mk (blk_below XA3.out hb); have XB4 := Aside0.mk (blk_below XB3.out hb); have HB4 := Aside0.mk (HB3.out.trans (hb.mono HB3.out.size)); obtain ⟨cx0, cx1, cx2⟩ := net_facts XA4.out; obtain ⟨cy0, cy1, cy2⟩ := net_facts XB4.out; clear hb))
    go_ret
    exact ⟨rfl, HB4.out⟩
  rw [if_pos y2] at h
  have y2b : ((l0_2.length : Int) == (l1_2.length : Int)) = true := beq_iff_eq.mpr y2
  have y2c : ((l0_2.length : Int) != (l1_2.length : Int)) = false := bne_eq_false_iff_eq.mpr y2
  have y2d : (l0_2.length == l1_2.length) = true := by rw [beq_iff_eq]; omega
  have Y2 := Aside0.mk y2
  clear y2
  have H := Aside0.mk h
  clear h
  go_enter Try.func44, Try.ntmps44
  go_wp2_with (first | (go_at_call 54; rw [← HW.out]; refine (net_valid.calls k _ _ _ _ _ _ _ _ _ (Kd.C_below HR01.out HB.out) HC01.out (Kd.C_below HR02.out HB.out) HC02.out HV1.out).mono ?_; rintro e w3 ⟨rfl, hb⟩; have XA3 := Aside0.mk (blk_below XA.out hb); have XB3 := Aside0.mk (blk_below XB.out hb); have HB3 := Aside0.mk (HB.out.trans (hb.mono HB.out.size)); obtain ⟨cx0, cx1, cx2⟩ := net_facts XA3.out; obtain ⟨cy0, cy1, cy2⟩ := net_facts XB3.out; clear hb) | (go_at_call 54; refine (net_valid.calls k _ _ _ _ _ _ _ _ _ (Kd.C_below HR11.out HB3.out) HC11.out (Kd.C_below HR12.out HB3.out) HC12.out HV2.out).mono ?_; rintro e w4 ⟨rfl, hb⟩; have XA4 := Aside0.mk (blk_below XA3.out hb); have XB4 := Aside0.mk (blk_below XB3.out hb); have HB4 := Aside0.mk (HB3.out.trans (hb.mono HB3.out.size)); obtain ⟨cx0, cx1, cx2⟩ := net_facts XA4.out; obtain ⟨cy0, cy1, cy2⟩ := net_facts XB4.out; clear hb))
  have HA0 := XA4
  have HB0 := XB4
  have HBB := HB4
  clear cx0 cx1 cx2 cy0 cy1 cy2 XA XB HB HW XA3 XB3 HB3 XA4 XB4 HB4 HV1 HV2 z1 z1b y1b y1c y1d y2b y2c y2d
  go_loopg [46] k (fun kq v46 w' => ∃ (i : Int), v46 = .int .i64 i ∧ Aside0 (net_Same.l0 kq l0_1 l1_1 l0_2 l1_2 i = some r) ∧ Aside0 (kq ≤ k) ∧ Aside0 (w'.heap[w.heap.size]? = some (.cells #[.string a0_0, .slice A0_1 l0_1.length c0_1, .slice A0_2 l0_2.length c0_2] 25 (0, 0))) ∧ Aside0 (w'.heap[w.heap.size + 1]? = some (.cells #[.string a1_0, .slice A1_1 l1_1.length c1_1, .slice A1_2 l1_2.length c1_2] 25 (0, 0))) ∧ Aside0 (Below w.heap.size w w'))
  case atStart => exact ⟨0, rfl, H, ⟨Nat.le_refl _⟩, HA0, HB0, HBB⟩
  case round =>
    obtain ⟨i, rfl, HA, HJ, XA, XB, HB⟩ := hrel
    cases gk with
    | zero => exact absurd HA.out (by simp [net_Same.l0])
    | succ k1 =>
    have H := HA.out
    clear HA
    simp only [net_Same.l0] at H
    obtain ⟨cx0, cx1, cx2⟩ := net_facts XA.out
    obtain ⟨cy0, cy1, cy2⟩ := net_facts XB.out
    by_cases d1 : i < (l0_1.length : Int)
    case neg =>
      rw [if_neg d1] at H
      have d1b : decide (i < (l0_1.length : Int)) = false := decide_eq_false d1
      have H' := Aside0.mk H
      clear H d1
      go_wp2
      clear cx0 cx1 cx2 cy0 cy1 cy2 d1b
      go_loopg [62] k1 (fun kq v62 w' => ∃ (i : Int), v62 = .int .i64 i ∧ Aside0 (net_Same.l1 kq l0_2 l1_2 i = some r) ∧ Aside0 (kq ≤ k1) ∧ Aside0 (w'.heap[w.heap.size]? = some (.cells #[.string a0_0, .slice A0_1 l0_1.length c0_1, .slice A0_2 l0_2.length c0_2] 25 (0, 0))) ∧ Aside0 (w'.heap[w.heap.size + 1]? = some (.cells #[.string a1_0, .slice A1_1 l1_1.length c1_1, .slice A1_2 l1_2.length c1_2] 25 (0, 0))) ∧ Aside0 (Below w.heap.size w w'))
      case atStart => exact ⟨0, rfl, H', ⟨Nat.le_refl _⟩, XA, XB, HB⟩
      case round =>
        clear H' XA XB HB
        obtain ⟨i, rfl, HA, HJ2, XA, XB, HB⟩ := hrel
        cases gk with
        | zero => exact absurd HA.out (by simp [net_Same.l1])
        | succ k3 =>
        have H := HA.out
        clear HA
        simp only [net_Same.l1] at H
        obtain ⟨cx0, cx1, cx2⟩ := net_facts XA.out
        obtain ⟨cy0, cy1, cy2⟩ := net_facts XB.out
        by_cases d1 : i < (l0_2.length : Int)
        case neg =>
          rw [if_neg d1] at H
          have d1b : decide (i < (l0_2.length : Int)) = false := decide_eq_false d1
          obtain rfl := Option.some.inj H
          clear d1
          go_wp2
          go_ret
          exact ⟨rfl, HB.out⟩
        rw [if_pos d1] at H
        have d1b : decide (i < (l0_2.length : Int)) = true := decide_eq_true d1
        by_cases d2 : 0 ≤ i
        case neg => rw [if_neg d2] at H; cases H
        rw [if_pos d2] at H
        by_cases d3 : i < (l1_2.length : Int)
        case neg => rw [if_neg d3] at H; cases H
        rw [if_pos d3] at H
        have d3b : decide (i < (l1_2.length : Int)) = true := decide_eq_true d3
        have HM := Aside0.mk (show (l0_2.length : Int) ≤ 9223372036854775807 by have := HR02.out.2.1; omega)
        have q1 : (0 ≤ i) = True := eq_true d2
        have q2 : (i < (l0_2.length : Int)) = True := eq_true d1
        have q3 : (i < (l1_2.length : Int)) = True := eq_true d3
        obtain ⟨ad, A1, c1, A2, c2, A3, c3, eA, y0, y1, y2, y3, y4, m1, g1, m2, g2, m3, g3⟩ := at_T53 HR02.out i d2 d1
        subst eA
        have u0 := pw_cell_below HB.out y0
        have u1 := pw_cell_below HB.out y1
        have u2 := pw_cell_below HB.out y2
        have u3 := pw_cell_below HB.out y3
        have u4 := pw_cell_below HB.out y4
        clear y0 y1 y2 y3 y4
        obtain ⟨ae, E1, f1, E2, f2, E3, f3, eB, y0, y1, y2, y3, y4, n1, j1, n2, j2, n3, j3⟩ := at_T53 HR12.out i d2 d3
        subst eB
        have MX1 := Aside0.mk m1
        have GX1 := Aside0.mk g1
        have MY1 := Aside0.mk n1
        have GY1 := Aside0.mk j1
        have MX2 := Aside0.mk m2
        have GX2 := Aside0.mk g2
        have MY2 := Aside0.mk n2
        have GY2 := Aside0.mk j2
        have MX3 := Aside0.mk m3
        have GX3 := Aside0.mk g3
        have MY3 := Aside0.mk n3
        have GY3 := Aside0.mk j3
        clear m1 m2 m3 g1 g2 g3 n1 n2 n3 j1 j2 j3
        have hb1 := below_alloc (Below.refl wr.heap.size wr) (.cells #[.string (rd_T53 l0_2 i).f0, .slice A1 (rd_T53 l0_2 i).f1.length c1, .slice A2 (rd_T53 l0_2 i).f2.length c2, .slice A3 (rd_T53 l0_2 i).f3.length c3, .int .i64 (rd_T53 l0_2 i).f4] 53)
        obtain ⟨ey0, ey1, ey2⟩ := net_facts (blk_below XB.out hb1)
        have t0 := pw_cell_below (below_alloc HB.out (.cells #[.string (rd_T53 l0_2 i).f0, .slice A1 (rd_T53 l0_2 i).f1.length c1, .slice A2 (rd_T53 l0_2 i).f2.length c2, .slice A3 (rd_T53 l0_2 i).f3.length c3, .int .i64 (rd_T53 l0_2 i).f4] 53)) y0
        have t1 := pw_cell_below (below_alloc HB.out (.cells #[.string (rd_T53 l0_2 i).f0, .slice A1 (rd_T53 l0_2 i).f1.length c1, .slice A2 (rd_T53 l0_2 i).f2.length c2, .slice A3 (rd_T53 l0_2 i).f3.length c3, .int .i64 (rd_T53 l0_2 i).f4] 53)) y1
        have t2 := pw_cell_below (below_alloc HB.out (.cells #[.string (rd_T53 l0_2 i).f0, .slice A1 (rd_T53 l0_2 i).f1.length c1, .slice A2 (rd_T53 l0_2 i).f2.length c2, .slice A3 (rd_T53 l0_2 i).f3.length c3, .int .i64 (rd_T53 l0_2 i).f4] 53)) y2
        have t3 := pw_cell_below (below_alloc HB.out (.cells #[.string (rd_T53 l0_2 i).f0, .slice A1 (rd_T53 l0_2 i).f1.length c1, .slice A2 (rd_T53 l0_2 i).f2.length c2, .slice A3 (rd_T53 l0_2 i).f3.length c3, .int .i64 (rd_T53 l0_2 i).f4] 53)) y3
        have t4 := pw_cell_below (below_alloc HB.out (.cells #[.string (rd_T53 l0_2 i).f0, .slice A1 (rd_T53 l0_2 i).f1.length c1, .slice A2 (rd_T53 l0_2 i).f2.length c2, .slice A3 (rd_T53 l0_2 i).f3.length c3, .int .i64 (rd_T53 l0_2 i).f4] 53)) y4
        clear y0 y1 y2 y3 y4
        have hs1 : (wr.alloc (.cells #[.string (rd_T53 l0_2 i).f0, .slice A1 (rd_T53 l0_2 i).f1.length c1, .slice A2 (rd_T53 l0_2 i).f2.length c2, .slice A3 (rd_T53 l0_2 i).f3.length c3, .int .i64 (rd_T53 l0_2 i).f4] 53)).heap.size = wr.heap.size + 1 := by simp
        obtain ⟨W, hW⟩ : ∃ W : World, W = (wr.alloc (.cells #[.string (rd_T53 l0_2 i).f0, .slice A1 (rd_T53 l0_2 i).f1.length c1, .slice A2 (rd_T53 l0_2 i).f2.length c2, .slice A3 (rd_T53 l0_2 i).f3.length c3, .int .i64 (rd_T53 l0_2 i).f4] 53)).alloc (.cells #[.string (rd_T53 l1_2 i).f0, .slice E1 (rd_T53 l1_2 i).f1.length f1, .slice E2 (rd_T53 l1_2 i).f2.length f2, .slice E3 (rd_T53 l1_2 i).f3.length f3, .int .i64 (rd_T53 l1_2 i).f4] 53) := ⟨_, rfl⟩
        have PX := Aside0.mk (show W.heap[wr.heap.size]? = some (.cells #[.string (rd_T53 l0_2 i).f0, .slice A1 (rd_T53 l0_2 i).f1.length c1, .slice A2 (rd_T53 l0_2 i).f2.length c2, .slice A3 (rd_T53 l0_2 i).f3.length c3, .int .i64 (rd_T53 l0_2 i).f4] 53 (0, 0)) by rw [hW]; exact blk_below (alloc_new _ _) (below_alloc (Below.refl _ _) _))
        have PY := Aside0.mk (show W.heap[wr.heap.size + 1]? = some (.cells #[.string (rd_T53 l1_2 i).f0, .slice E1 (rd_T53 l1_2 i).f1.length f1, .slice E2 (rd_T53 l1_2 i).f2.length f2, .slice E3 (rd_T53 l1_2 i).f3.length f3, .int .i64 (rd_T53 l1_2 i).f4] 53 (0, 0)) by rw [hW, ← hs1]; exact alloc_new _ _)
        have XA2 := Aside0.mk (show W.heap[w.heap.size]? = some (.cells #[.string a0_0, .slice A0_1 l0_1.length c0_1, .slice (some ad) l0_2.length c0_2] 25 (0, 0)) by rw [hW]; exact blk_below (blk_below XA.out (below_alloc (Below.refl _ _) _)) (below_alloc (Below.refl _ _) _))
        have XB2 := Aside0.mk (show W.heap[w.heap.size + 1]? = some (.cells #[.string a1_0, .slice A1_1 l1_1.length c1_1, .slice (some ae) l1_2.length c1_2] 25 (0, 0)) by rw [hW]; exact blk_below (blk_below XB.out (below_alloc (Below.refl _ _) _)) (below_alloc (Below.refl _ _) _))
        have HB2 := Aside0.mk (show Below w.heap.size w W by rw [hW]; exact below_alloc (below_alloc HB.out _) _)
        obtain ⟨px0, px1, px2, px3, px4⟩ := trans_facts PX.out
        obtain ⟨py0, py1, py2, py3, py4⟩ := trans_facts PY.out
        rw [hW] at px0 px1 px2 px3 px4 py0 py1 py2 py3 py4
        have HWW := Aside0.mk hW
        clear hs1 hW
        obtain ⟨b, hb, H⟩ := Option.bind_eq_some_iff.mp H
        unfold net_Same.tr at hb
        by_cases k1_ : ((rd_T53 l0_2 i).f0.toList == (rd_T53 l1_2 i).f0.toList) = true
        case neg =>
          rw [if_neg k1_] at hb
          have k1a : ((rd_T53 l0_2 i).f0.toList == (rd_T53 l1_2 i).f0.toList) = false := Bool.eq_false_iff.mpr k1_
          have k1b : ((rd_T53 l0_2 i).f0.toList != (rd_T53 l1_2 i).f0.toList) = true := by rw [bne, k1a]; rfl
          clear k1_
          obtain rfl := Option.some.inj hb
          rw [if_neg Bool.false_ne_true] at H
          obtain rfl := Option.some.inj H
          go_wp2
          go_ret
          exact ⟨rfl, (by rw [← HWW.out]; exact HB2.out)⟩
        rw [if_pos k1_] at hb
        have k1b : ((rd_T53 l0_2 i).f0.toList != (rd_T53 l1_2 i).f0.toList) = false := by rw [bne, k1_]; rfl
        by_cases k2_ : ((rd_T53 l0_2 i).f4 == (rd_T53 l1_2 i).f4) = true
        case neg =>
          rw [if_neg k2_] at hb
          have k2a : ((rd_T53 l0_2 i).f4 == (rd_T53 l1_2 i).f4) = false := Bool.eq_false_iff.mpr k2_
          have k2b : ((rd_T53 l0_2 i).f4 != (rd_T53 l1_2 i).f4) = true := by rw [bne, k2a]; rfl
          clear k2_
          obtain rfl := Option.some.inj hb
          rw [if_neg Bool.false_ne_true] at H
          obtain rfl := Option.some.inj H
          go_wp2
          go_ret
          exact ⟨rfl, (by rw [← HWW.out]; exact HB2.out)⟩
        rw [if_pos k2_] at hb
        have k2b : ((rd_T53 l0_2 i).f4 != (rd_T53 l1_2 i).f4) = false := by rw [bne, k2_]; rfl
        obtain ⟨s1, hs, hb⟩ := Option.bind_eq_some_iff.mp hb
        have HS1 := Aside0.mk hs
        clear hs
        cases s1 with
        | false =>
          rw [if_neg Bool.false_ne_true] at hb
          obtain rfl := Option.some.inj hb
          rw [if_neg Bool.false_ne_true] at H
          obtain rfl := Option.some.inj H
          go_wp2_with (first | (go_at_call 64; rw [← HWW.out]; (with_reducible refine (net_sameArcs.calls k3 _ _ (rd_T53 l0_2 i).f1 _ _ (rd_T53 l1_2 i).f1 _ _ (Kd.C_below GX1.out HB2.out) MX1.out (Kd.C_below GY1.out HB2.out) MY1.out HS1.out).mono ?_); rintro e w7 ⟨rfl, hb⟩; have PX_1 := Aside0.mk (blk_below PX.out hb); have PY_1 := Aside0.mk (blk_below PY.out hb); have XA2_1 := Aside0.mk (blk_below XA2.out hb); have XB2_1 := Aside0.mk (blk_below XB2.out hb); have HB2_1 := Aside0.mk (HB2.out.trans (hb.mono HB2.out.size)); obtain ⟨px0, px1, px2, px3, px4⟩ := trans_facts PX_1.out; obtain ⟨py0, py1, py2, py3, py4⟩ := trans_facts PY_1.out; clear hb))
          go_ret
          exact ⟨rfl, HB2_1.out⟩
        | true =>
        rw [if_pos rfl] at hb
        obtain ⟨s2, hs, hb⟩ := Option.bind_eq_some_iff.mp hb
        have HS2 := Aside0.mk hs
        clear hs
        cases s2 with
        | false =>
          rw [if_neg Bool.false_ne_true] at hb
          obtain rfl := Option.some.inj hb
          rw [if_neg Bool.false_ne_true] at H
          obtain rfl := Option.some.inj H
          go_wp2_with (first | (go_at_call 64; rw [← HWW.out]; (with_reducible refine (net_sameArcs.calls k3 _ _ (rd_T53 l0_2 i).f1 _ _ (rd_T53 l1_2 i).f1 _ _ (Kd.C_below GX1.out HB2.out) MX1.out (Kd.C_below GY1.out HB2.out) MY1.out HS1.out).mono ?_); rintro e w7 ⟨rfl, hb⟩; have PX_1 := Aside0.mk (blk_below PX.out hb); have PY_1 := Aside0.mk (blk_below PY.out hb); have XA2_1 := Aside0.mk (blk_below XA2.out hb); have XB2_1 := Aside0.mk (blk_below XB2.out hb); have HB2_1 := Aside0.mk (HB2.out.trans (hb.mono HB2.out.size)); obtain ⟨px0, px1, px2, px3, px4⟩ := trans_facts PX_1.out; obtain ⟨py0, py1, py2, py3, py4⟩ := trans_facts PY_1.out; clear hb) | (go_at_call 64; (with_reducible refine (net_sameArcs.calls k3 _ _ (rd_T53 l0_2 i).f2 _ _ (rd_T53 l1_2 i).f2 _ _ (Kd.C_below GX2.out HB2_1.out) MX2.out (Kd.C_below GY2.out HB2_1.out) MY2.out HS2.out).mono ?_); rintro e w8 ⟨rfl, hb⟩; have PX_2 := Aside0.mk (blk_below PX_1.out hb); have PY_2 := Aside0.mk (blk_below PY_1.out hb); have XA2_2 := Aside0.mk (blk_below XA2_1.out hb); have XB2_2 := Aside0.mk (blk_below XB2_1.out hb); have HB2_2 := Aside0.mk (HB2_1.out.trans (hb.mono HB2_1.out.size)); obtain ⟨px0, px1, px2, px3, px4⟩ := trans_facts PX_2.out; obtain ⟨py0, py1, py2, py3, py4⟩ := trans_facts PY_2.out; clear hb))
          go_ret
          exact ⟨rfl, HB2_2.out⟩
        | true =>
        rw [if_pos rfl] at hb
        have HS3 := Aside0.mk hb
        clear hb
        cases b with
        | false =>
          rw [if_neg Bool.false_ne_true] at H
          obtain rfl := Option.some.inj H
          go_wp2_with (first | (go_at_call 64; rw [← HWW.out]; (with_reducible refine (net_sameArcs.calls k3 _ _ (rd_T53 l0_2 i).f1 _ _ (rd_T53 l1_2 i).f1 _ _ (Kd.C_below GX1.out HB2.out) MX1.out (Kd.C_below GY1.out HB2.out) MY1.out HS1.out).mono ?_); rintro e w7 ⟨rfl, hb⟩; have PX_1 := Aside0.mk (blk_below PX.out hb); have PY_1 := Aside0.mk (blk_below PY.out hb); have XA2_1 := Aside0.mk (blk_below XA2.out hb); have XB2_1 := Aside0.mk (blk_below XB2.out hb); have HB2_1 := Aside0.mk (HB2.out.trans (hb.mono HB2.out.size)); obtain ⟨px0, px1, px2, px3, px4⟩ := trans_facts PX_1.out; obtain ⟨py0, py1, py2, py3, py4⟩ := trans_facts PY_1.out; clear hb) | (go_at_call 64; (with_reducible refine (net_sameArcs.calls k3 _ _ (rd_T53 l0_2 i).f2 _ _ (rd_T53 l1_2 i).f2 _ _ (Kd.C_below GX2.out HB2_1.out) MX2.out (Kd.C_below GY2.out HB2_1.out) MY2.out HS2.out).mono ?_); rintro e w8 ⟨rfl, hb⟩; have PX_2 := Aside0.mk (blk_below PX_1.out hb); have PY_2 := Aside0.mk (blk_below PY_1.out hb); have XA2_2 := Aside0.mk (blk_below XA2_1.out hb); have XB2_2 := Aside0.mk (blk_below XB2_1.out hb); have HB2_2 := Aside0.mk (HB2_1.out.trans (hb.mono HB2_1.out.size)); obtain ⟨px0, px1, px2, px3, px4⟩ := trans_facts PX_2.out; obtain ⟨py0, py1, py2, py3, py4⟩ := trans_facts PY_2.out; clear hb) | (go_at_call 64; (with_reducible refine (net_sameArcs.calls k3 _ _ (rd_T53 l0_2 i).f3 _ _ (rd_T53 l1_2 i).f3 _ _ (Kd.C_below GX3.out HB2_2.out) MX3.out (Kd.C_below GY3.out HB2_2.out) MY3.out HS3.out).mono ?_); rintro e w9 ⟨rfl, hb⟩; have PX_3 := Aside0.mk (blk_below PX_2.out hb); have PY_3 := Aside0.mk (blk_below PY_2.out hb); have XA2_3 := Aside0.mk (blk_below XA2_2.out hb); have XB2_3 := Aside0.mk (blk_below XB2_2.out hb); have HB2_3 := Aside0.mk (HB2_2.out.trans (hb.mono HB2_2.out.size)); obtain ⟨px0, px1, px2, px3, px4⟩ := trans_facts PX_3.out; obtain ⟨py0, py1, py2, py3, py4⟩ := trans_facts PY_3.out; clear hb))
          go_ret
          exact ⟨rfl, HB2_3.out⟩
        | true =>
        rw [if_pos rfl, show wrap64 (i + 1) = i + 1 by have := HM.out; unfold wrap64; omega] at H
        have H' := Aside0.mk H
        clear H
        go_wp2_with (first | (go_at_call 64; rw [← HWW.out]; (with_reducible refine (net_sameArcs.calls k3 _ _ (rd_T53 l0_2 i).f1 _ _ (rd_T53 l1_2 i).f1 _ _ (Kd.C_below GX1.out HB2.out) MX1.out (Kd.C_below GY1.out HB2.out) MY1.out HS1.out).mono ?_); rintro e w7 ⟨rfl, hb⟩; have PX_1 := Aside0.mk (blk_below PX.out hb); have PY_1 := Aside0.mk (blk_below PY.out hb); have XA2_1 := Aside0.mk (blk_below XA2.out hb); have XB2_1 := Aside0.mk (blk_below XB2.out hb); have HB2_1 := Aside0.mk (HB2.out.trans (hb.mono HB2.out.size)); obtain ⟨px0, px1, px2, px3, px4⟩ := trans_facts PX_1.out; obtain ⟨py0, py1, py2, py3, py4⟩ := trans_facts PY_1.out; clear hb) | (go_at_call 64; (with_reducible refine (net_sameArcs.calls k3 _ _ (rd_T53 l0_2 i).f2 _ _ (rd_T53 l1_2 i).f2 _ _ (Kd.C_below GX2.out HB2_1.out) MX2.out (Kd.C_below GY2.out HB2_1.out) MY2.out HS2.out).mono ?_); rintro e w8 ⟨rfl, hb⟩; have PX_2 := Aside0.mk (blk_below PX_1.out hb); have PY_2 := Aside0.mk (blk_below PY_1.out hb); have XA2_2 := Aside0.mk (blk_below XA2_1.out hb); have XB2_2 := Aside0.mk (blk_below XB2_1.out hb); have HB2_2 := Aside0.mk (HB2_1.out.trans (hb.mono HB2_1.out.size)); obtain ⟨px0, px1, px2, px3, px4⟩ := trans_facts PX_2.out; obtain ⟨py0, py1, py2, py3, py4⟩ := trans_facts PY_2.out; clear hb) | (go_at_call 64; (with_reducible refine (net_sameArcs.calls k3 _ _ (rd_T53 l0_2 i).f3 _ _ (rd_T53 l1_2 i).f3 _ _ (Kd.C_below GX3.out HB2_2.out) MX3.out (Kd.C_below GY3.out HB2_2.out) MY3.out HS3.out).mono ?_); rintro e w9 ⟨rfl, hb⟩; have PX_3 := Aside0.mk (blk_below PX_2.out hb); have PY_3 := Aside0.mk (blk_below PY_2.out hb); have XA2_3 := Aside0.mk (blk_below XA2_2.out hb); have XB2_3 := Aside0.mk (blk_below XB2_2.out hb); have HB2_3 := Aside0.mk (HB2_2.out.trans (hb.mono HB2_2.out.size)); obtain ⟨px0, px1, px2, px3, px4⟩ := trans_facts PX_3.out; obtain ⟨py0, py1, py2, py3, py4⟩ := trans_facts PY_3.out; clear hb))
        go_roundg k3
        case measure => have := HJ2.out; omega
        case rel => exact ⟨_, (by congr 1; have := HM.out; (first | omega | (unfold wrap64; omega) | (show wrap64 _ = _; unfold wrap64; omega))), H', ⟨by have := HJ2.out; omega⟩, XA2_3, XB2_3, HB2_3⟩
    rw [if_pos d1] at H
    have d1b : decide (i < (l0_1.length : Int)) = true := decide_eq_true d1
    by_cases d2 : 0 ≤ i
    case neg => rw [if_neg d2] at H; cases H
    rw [if_pos d2] at H
    by_cases d3 : i < (l1_1.length : Int)
    case neg => rw [if_neg d3] at H; cases H
    rw [if_pos d3] at H
    have d3b : decide (i < (l1_1.length : Int)) = true := decide_eq_true d3
    have HM := Aside0.mk (show (l0_1.length : Int) ≤ 9223372036854775807 by have := HR01.out.2.1; omega)
    have q1 : (0 ≤ i) = True := eq_true d2
    have q2 : (i < (l0_1.length : Int)) = True := eq_true d1
    have q3 : (i < (l1_1.length : Int)) = True := eq_true d3
    obtain ⟨ad, eA, y0, y1, y2⟩ := at_T50 HR01.out i d2 d1
    subst eA
    have u0 := pw_cell_below HB.out y0
    have u1 := pw_cell_below HB.out y1
    have u2 := pw_cell_below HB.out y2
    clear y0 y1 y2
    obtain ⟨ae, eB, y0, y1, y2⟩ := at_T50 HR11.out i d2 d3
    subst eB
    have hb1 := below_alloc (Below.refl wr.heap.size wr) (.cells #[.string (rd_T50 l0_1 i).f0, .int .i64 (rd_T50 l0_1 i).f1, .int .i64 (rd_T50 l0_1 i).f2] 50)
    obtain ⟨v0, v1, v2⟩ := place_facts (alloc_new wr (.cells #[.string (rd_T50 l0_1 i).f0, .int .i64 (rd_T50 l0_1 i).f1, .int .i64 (rd_T50 l0_1 i).f2] 50))
    obtain ⟨ey0, ey1, ey2⟩ := net_facts (blk_below XB.out hb1)
    have t0 := pw_cell_below (below_alloc HB.out (.cells #[.string (rd_T50 l0_1 i).f0, .int .i64 (rd_T50 l0_1 i).f1, .int .i64 (rd_T50 l0_1 i).f2] 50)) y0
    have t1 := pw_cell_below (below_alloc HB.out (.cells #[.string (rd_T50 l0_1 i).f0, .int .i64 (rd_T50 l0_1 i).f1, .int .i64 (rd_T50 l0_1 i).f2] 50)) y1
    have t2 := pw_cell_below (below_alloc HB.out (.cells #[.string (rd_T50 l0_1 i).f0, .int .i64 (rd_T50 l0_1 i).f1, .int .i64 (rd_T50 l0_1 i).f2] 50)) y2
    have XA2 := Aside0.mk (blk_below XA.out hb1)
    have XB2 := Aside0.mk (blk_below XB.out hb1)
    have HB2 := Aside0.mk (below_alloc HB.out (.cells #[.string (rd_T50 l0_1 i).f0, .int .i64 (rd_T50 l0_1 i).f1, .int .i64 (rd_T50 l0_1 i).f2] 50))
    clear hb1 y0 y1 y2
    by_cases d4 : net_Same.ne (rd_T50 l0_1 i) (rd_T50 l1_1 i) = true
    case pos =>
      rw [if_pos d4] at H
      obtain rfl := Option.some.inj H
      have d4b : (!((rd_T50 l0_1 i).f0.toList == (rd_T50 l1_1 i).f0.toList) || (!((rd_T50 l0_1 i).f1 == (rd_T50 l1_1 i).f1) || (!((rd_T50 l0_1 i).f2 == (rd_T50 l1_1 i).f2)))) = true := d4
      clear d4
      go_wp2
      repeat (go_quiet (fail); try go_wp2)
      go_ret
      exact ⟨rfl, (by repeat (first | exact HB2.out | apply pw_below_drewN | apply below_drew1))⟩
    rw [if_neg d4, show wrap64 (i + 1) = i + 1 by have := HM.out; unfold wrap64; omega] at H
    have d4b : (!((rd_T50 l0_1 i).f0.toList == (rd_T50 l1_1 i).f0.toList) || (!((rd_T50 l0_1 i).f1 == (rd_T50 l1_1 i).f1) || (!((rd_T50 l0_1 i).f2 == (rd_T50 l1_1 i).f2)))) = false := Bool.eq_false_iff.mpr d4
    have H' := Aside0.mk H
    clear H d4
    go_wp2
    repeat (go_quiet (fail); try go_wp2)
    go_roundg k1
    case measure => have := HJ.out; omega
    case rel => exact ⟨_, (by congr 1; have := HM.out; (first | omega | (unfold wrap64; omega) | (show wrap64 _ = _; unfold wrap64; omega))), H', ⟨by have := HJ.out; omega⟩, ⟨by (with_reducible repeat (first | refine blk_drewN ?_ _ | refine blk_drew ?_)); exact XA2.out⟩, ⟨by (with_reducible repeat (first | refine blk_drewN ?_ _ | refine blk_drew ?_)); exact XB2.out⟩, ⟨by repeat (first | exact HB2.out | apply pw_below_drewN | apply below_drew1)⟩⟩

end Go.Proofs.Ytboonibkibhmhaa.P
