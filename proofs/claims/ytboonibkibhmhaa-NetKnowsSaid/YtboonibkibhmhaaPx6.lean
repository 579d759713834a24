-- LAID BY OUR PROGRAM OVER THE PRINT (xprint.py): Lean checks it.
import Derived.Test.YtboonibkibhmhaaPx0
import Derived.Test.YtboonibkibhmhaaPx3
namespace Go.Proofs.Ytboonibkibhmhaa.P
open Go.RowKit Go.Proofs.YtboonibkibhmhaaW.PrintWords Go.Proofs.YtboonibkibhmhaaW.PrintLast Go.Proofs.YtboonibkibhmhaaW.PrintMore
attribute [local go_sem] max2_int min2_int max_two min_two max_three min_three max_four min_four   -- for this text's walks alone
set_option linter.unusedVariables false
set_option linter.unusedSimpArgs false

attribute [local go_sem high] eqA64
/-! ### marking_Valid: function 65 -/
def marking_Valid.l0 : Nat → List Int → Int → Int → Option (Bool)
  | 0, _, _, _ => none
  | k + 1, x11, x12, x13 => if x13 < x12 then (if 0 ≤ x13 then (if x13 < (x11.length : Int) then (if (rd x11 x13) < 0 then (some false) else (if (rd x11 x13) > 1048576 then (some false) else (marking_Valid.l0 k x11 x12 (wrap64 (x13 + 1))))) else (none)) else (none)) else (some true)
def marking_Valid.f (k : Nat) (l0 : List Int) (a1 : Int) : Option (Bool) := if (l0.length : Int) = a1 then (marking_Valid.l0 k l0 (l0.length : Int) 0) else (some false)
theorem marking_Valid.mono_l : ∀ k, (∀ y0 y1 y2, LeO (marking_Valid.l0 k y0 y1 y2) (marking_Valid.l0 (k + 1) y0 y1 y2))
  | 0 => fun _ _ _ r h => by simp [marking_Valid.l0] at h
  | k + 1 => by
    have ih0 := marking_Valid.mono_l k
    · intro y0 y1 y2
      unfold marking_Valid.l0
      repeat' first | (with_reducible first | exact ih0 _ _ _ | exact LeO.refl _ | exact LeO.none _ | refine LeO.ite ?_ ?_ | refine LeO.bind ?_ (fun _ => ?_)) | exact ih0 _ _ _ | exact LeO.none _ | refine LeO.ite ?_ ?_ | refine LeO.bind ?_ (fun _ => ?_)
theorem marking_Valid.mono : ∀ a0 a1 k, LeO (marking_Valid.f k a0 a1) (marking_Valid.f (k + 1) a0 a1) := by
  intro a0 a1 k
  have ih0 := marking_Valid.mono_l k
  unfold marking_Valid.f
  repeat' first | (with_reducible first | exact ih0 _ _ _ | exact LeO.refl _ | exact LeO.none _ | refine LeO.ite ?_ ?_ | refine LeO.bind ?_ (fun _ => ?_)) | exact ih0 _ _ _ | exact LeO.none _ | refine LeO.ite ?_ ?_ | refine LeO.bind ?_ (fun _ => ?_)
set_option maxHeartbeats 8000000 in
set_option maxRecDepth 100000 in
theorem marking_Valid.calls (k : Nat) (A0 : Option Addr) (c0 : Nat) (l0 : List Int) (a1 : Int) (r : Bool) (w : World) (hr0 : Kd.C (Kd.int .i64) w A0 l0.length l0) (hc0 : l0.length ≤ c0) (h : marking_Valid.f k l0 a1 = some r) :
    Calls Try.prog 65 #[.slice A0 l0.length c0, .int .i64 a1] w fun e w' => e = .returned (.bool r) ∧ Drawn0 w w' := by
  have HR0 := Aside0.mk hr0
  have HC0 := Aside0.mk hc0
  clear hr0 hc0
  have H : (if (l0.length : Int) = a1 then (marking_Valid.l0 k l0 (l0.length : Int) 0) else (some false)) = some r := h
  clear h
  by_cases c3 : (l0.length : Int) = a1
  rotate_left
  · rw [if_neg c3] at H
    have c3b0 : ((l0.length : Int) == a1) = false := beq_eq_false_iff_ne.mpr c3
    have c3b1 : ((l0.length : Int) != a1) = true := bne_iff_ne.mpr c3
    obtain rfl := Option.some.inj H
    go_enter Try.func65, Try.ntmps65
    go_wp2
    go_ret
    exact ⟨by first | rfl | (simp; done) | (simp [*]; done), by repeat (first | exact Drawn0.refl _ | apply Drawn0.step)⟩
  rw [if_pos c3] at H
  have c3b0 : ((l0.length : Int) == a1) = true := beq_iff_eq.mpr c3
  have c3b1 : ((l0.length : Int) != a1) = false := bne_eq_false_iff_eq.mpr c3
  clear c3
  have H' := Aside0.mk H
  clear H
  go_enter Try.func65, Try.ntmps65
  go_wp2
  go_loopg [13] k (fun kq v13 w' => ∃ (x13_1 : Int), v13 = .int .i64 x13_1 ∧ Aside0 (marking_Valid.l0 kq l0 (l0.length : Int) x13_1 = some r) ∧ Aside0 (kq ≤ k) ∧ Drawn0 w w')
  case atStart => exact ⟨(0), prs, H', ⟨Nat.le_refl _⟩, by repeat (first | exact Drawn0.refl _ | apply Drawn0.step)⟩
  clear H'
  try clear c3
  try clear c3b0
  try clear c3b1
  obtain ⟨x13_1, rfl, HA, HK1, ⟨m1, rfl⟩⟩ := hrel
  obtain _ | k1 := gk
  · exact absurd HA.out (by simp [marking_Valid.l0])
  have H := HA.out
  clear HA
  simp only [marking_Valid.l0] at H
  by_cases c4 : x13_1 < (l0.length : Int)
  rotate_left
  · rw [if_neg c4] at H
    have c4b0 : decide (x13_1 < (l0.length : Int)) = false := decide_eq_false c4
    clear c4
    obtain rfl := Option.some.inj H
    go_wp2
    go_ret
    exact ⟨by first | rfl | (simp; done) | (simp [*]; done), by repeat (first | exact Drawn0.refl _ | apply Drawn0.step)⟩
  rw [if_pos c4] at H
  have c4b0 : decide (x13_1 < (l0.length : Int)) = true := decide_eq_true c4
  clear c4
  by_cases c5 : 0 ≤ x13_1
  rotate_left
  · rw [if_neg c5] at H
    exact absurd H (by simp)
  rw [if_pos c5] at H
  have c5b0 : decide (0 ≤ x13_1) = true := decide_eq_true c5
  clear c5
  by_cases c6 : x13_1 < (l0.length : Int)
  rotate_left
  · rw [if_neg c6] at H
    exact absurd H (by simp)
  rw [if_pos c6] at H
  have c6b0 : decide (x13_1 < (l0.length : Int)) = true := decide_eq_true c6
  clear c6
  by_cases c7 : (rd l0 x13_1) < 0
  · rw [if_pos c7] at H
    have c7b0 : decide ((rd l0 x13_1) < 0) = true := decide_eq_true c7
    clear c7
    obtain rfl := Option.some.inj H
    have p106 : 0 ≤ (x13_1 : Int) := dq
    have q106 : x13_1 < (l0.length : Int) := dq
    obtain ⟨ad106, e106, hx106_0⟩ := Kd.at_int HR0.out x13_1 p106 q106
    cases e106
    replace p106 := eq_true p106
    replace q106 := eq_true q106
    go_wp2
    go_ret
    exact ⟨by first | rfl | (simp; done) | (simp [*]; done), by repeat (first | exact Drawn0.refl _ | apply Drawn0.step)⟩
  rw [if_neg c7] at H
  have c7b0 : decide ((rd l0 x13_1) < 0) = false := decide_eq_false c7
  clear c7
  by_cases c8 : (rd l0 x13_1) > 1048576
  · rw [if_pos c8] at H
    have c8b0 : decide (1048576 < (rd l0 x13_1)) = true := decide_eq_true c8
    clear c8
    obtain rfl := Option.some.inj H
    have p106 : 0 ≤ (x13_1 : Int) := dq
    have q106 : x13_1 < (l0.length : Int) := dq
    obtain ⟨ad106, e106, hx106_0⟩ := Kd.at_int HR0.out x13_1 p106 q106
    cases e106
    replace p106 := eq_true p106
    replace q106 := eq_true q106
    go_wp2
    go_ret
    exact ⟨by first | rfl | (simp; done) | (simp [*]; done), by repeat (first | exact Drawn0.refl _ | apply Drawn0.step)⟩
  rw [if_neg c8] at H
  have c8b0 : decide (1048576 < (rd l0 x13_1)) = false := decide_eq_false c8
  clear c8
  have H' := Aside0.mk H
  clear H
  have p106 : 0 ≤ (x13_1 : Int) := dq
  have q106 : x13_1 < (l0.length : Int) := dq
  obtain ⟨ad106, e106, hx106_0⟩ := Kd.at_int HR0.out x13_1 p106 q106
  cases e106
  replace p106 := eq_true p106
  replace q106 := eq_true q106
  go_wp2
  go_roundg k1
  case measure => have := HK1.out; omega
  case rel => exact ⟨(wrap64 (x13_1 + 1)), prs, H', ⟨by have := HK1.out; omega⟩, by repeat (first | exact Drawn0.refl _ | apply Drawn0.step)⟩

/-! ### net_checkPlace: function 49 -/
def placeE (x c : Int) : Int := if c < 0 ∨ c > 1048576 then 1 else if (x < 0 ∨ x > 1048576) ∨ (c ≠ 0 ∧ x > c) then 10 else 0
def net_checkPlace.f (a0_0 : ByteArray) (a0_1 : Int) (a0_2 : Int) : Option Int := some (placeE a0_1 a0_2)
theorem valid_one (x : Int) : marking_Valid.f 5 [x] 1 = some (decide (0 ≤ x) && decide (x ≤ 1048576)) := by
  have hr : rd [x] 0 = x := rfl
  have h1 : wrap64 (0 + 1) = 1 := by unfold wrap64; omega
  unfold marking_Valid.f
  rw [if_pos (by simp)]
  simp only [marking_Valid.l0, List.length_cons, List.length_nil, hr, h1]
  by_cases c1 : x < 0
  · simp [c1]; omega
  · by_cases c2 : x > 1048576
    · simp [c1, c2]
    · simp [c1, c2]; omega
theorem C_one {w : World} {b t : Nat} {x : Int} (h : w.heap[b]? = some (.cells #[.int .i64 x] t (0, 0))) : Kd.C (Kd.int .i64) w (some ⟨b, 0, none⟩) 1 [x] := by
  refine ⟨rfl, by decide, fun _ => ⟨_, rfl, fun j p hj => ⟨[.int .i64 x], rfl, ?_, fun i u hu => ?_⟩⟩⟩
  · cases j with
    | zero => cases hj; exact rfl
    | succ j => cases hj
  · cases j with
    | succ j => cases hj
    | zero =>
      cases i with
      | zero => cases hu; exact (blk_cell h 0).trans rfl
      | succ i => cases hu
set_option maxHeartbeats 2000000 in
set_option maxRecDepth 100000 in
theorem net_checkPlace.calls (a0_0 : ByteArray) (a0_1 : Int) (a0_2 : Int) (r : Int) (w : World) (h : net_checkPlace.f a0_0 a0_1 a0_2 = some r) :
    Calls Try.prog 49 #[.agg #[.string a0_0, .int .i64 a0_1, .int .i64 a0_2]] w fun e w' => e = .returned (.int .i64 r) ∧ Below w.heap.size w w' := by
  have hr : placeE a0_1 a0_2 = r := Option.some.inj h
  clear h
  have HR := Aside0.mk hr
  clear hr
  have hb0 : (w.alloc (.cells #[.string a0_0, .int .i64 a0_1, .int .i64 a0_2] 50)).heap[w.heap.size]? = some (.cells #[.string a0_0, .int .i64 a0_1, .int .i64 a0_2] 50 (0, 0)) := alloc_new _ _
  have HB0 := Aside0.mk hb0
  have c0 := blk_cell hb0 1
  have c1 := blk_cell hb0 2
  have c0' : (w.alloc (.cells #[.string a0_0, .int .i64 a0_1, .int .i64 a0_2] 50)).cell? ⟨w.heap.size, 1, none⟩ = some (.int .i64 a0_1) := c0.trans rfl
  have c1' : (w.alloc (.cells #[.string a0_0, .int .i64 a0_1, .int .i64 a0_2] 50)).cell? ⟨w.heap.size, 2, none⟩ = some (.int .i64 a0_2) := c1.trans rfl
  clear hb0 c0 c1
  have hu := Try.underlying50
  have hs1 : (w.alloc (.cells #[.string a0_0, .int .i64 a0_1, .int .i64 a0_2] 50)).heap.size = w.heap.size + 1 := by simp
  have HB1 := Aside0.mk (show Below w.heap.size w (w.alloc (.cells #[.string a0_0, .int .i64 a0_1, .int .i64 a0_2] 50)) from below_alloc (Below.refl _ _) _)
  have bad (b1 b2 : Bool) (d1b : decide (a0_2 < 0) = b1) (d2b : decide (1048576 < a0_2) = b2) (hor : (b1 || b2) = true) :
      Calls Try.prog 49 #[.agg #[.string a0_0, .int .i64 a0_1, .int .i64 a0_2]] w fun e w' => e = .returned (.int .i64 r) ∧ Below w.heap.size w w' := by
    have HR2 := Aside0.mk (HR.out.symm.trans (show placeE a0_1 a0_2 = 1 by
      unfold placeE
      rw [if_pos]
      rcases Bool.or_eq_true _ _ ▸ hor with h | h
      · rw [h] at d1b; exact .inl (of_decide_eq_true d1b)
      · rw [h] at d2b; exact .inr (of_decide_eq_true d2b)))
    cases b1 with
    | true =>
      clear d2b hor
      go_enter Try.func49, Try.ntmps49
      go_wp2
      go_ret
      have e_ := HR2.out
      subst e_
      exact ⟨rfl, HB1.out⟩
    | false =>
      cases b2 with
      | false => cases hor
      | true =>
        clear hor
        go_enter Try.func49, Try.ntmps49
        go_wp2
        go_ret
        have e_ := HR2.out
        subst e_
        exact ⟨rfl, HB1.out⟩
  cases d1b : decide (a0_2 < 0) with
  | true => exact bad _ _ d1b rfl rfl
  | false =>
  cases d2b : decide (1048576 < a0_2) with
  | true => exact bad _ _ d1b d2b rfl
  | false =>
    clear bad
    have HC1 := Aside0.mk (show Kd.C (Kd.int .i64) ((w.alloc (.cells #[.string a0_0, .int .i64 a0_1, .int .i64 a0_2] 50)).alloc (.cells #[.int .i64 a0_1] 3)) (some ⟨w.heap.size + 1, 0, none⟩) 1 [a0_1] by rw [← hs1]; exact C_one (alloc_new _ _))
    clear hs1
    have d1 := of_decide_eq_false d1b
    have d2 := of_decide_eq_false d2b
    have hpe : placeE a0_1 a0_2 = if (a0_1 < 0 ∨ a0_1 > 1048576) ∨ (a0_2 ≠ 0 ∧ a0_1 > a0_2) then 10 else 0 := by unfold placeE; rw [if_neg (fun h => h.elim d1 d2)]
    have HR2 := Aside0.mk (HR.out.symm.trans hpe)
    clear hpe d1 d2 HR
    cases d3b : (decide (0 ≤ a0_1) && decide (a0_1 ≤ 1048576)) with
    | false =>
      have HR3 := Aside0.mk (HR2.out.trans (if_pos (.inl (by
        rw [Bool.and_eq_false_iff] at d3b
        exact d3b.imp (fun h => by have := of_decide_eq_false h; omega) (fun h => by have := of_decide_eq_false h; omega)))))
      have HV := Aside0.mk ((valid_one a0_1).trans (congrArg some d3b))
      clear d3b HR2
      go_enter Try.func49, Try.ntmps49
      go_wp2_with (first | (go_at_call 65; refine (marking_Valid.calls 5 _ _ [a0_1] _ _ _ HC1.out (Nat.le_refl 1) HV.out).mono ?_; rintro e w' ⟨rfl, ⟨n, rfl⟩⟩))
      go_ret
      have e_ := HR3.out
      subst e_
      exact ⟨rfl, pw_below_drewN (below_alloc HB1.out _) _⟩
    | true =>
      have HV := Aside0.mk ((valid_one a0_1).trans (congrArg some d3b))
      have d3 : ¬ (a0_1 < 0 ∨ a0_1 > 1048576) := by
        rw [Bool.and_eq_true] at d3b
        have h1 := of_decide_eq_true d3b.1
        have h2 := of_decide_eq_true d3b.2
        omega
      have D3 := Aside0.mk d3
      clear d3b d3
      cases d4b : (a0_2 == 0) with
      | true =>
        have d4c : (a0_2 != 0) = false := by rw [bne, d4b]; rfl
        have HR3 := Aside0.mk (HR2.out.trans (if_neg (fun h => h.elim D3.out (fun h => h.1 (beq_iff_eq.1 d4b)))))
        clear HR2
        go_enter Try.func49, Try.ntmps49
        go_wp2_with (first | (go_at_call 65; refine (marking_Valid.calls 5 _ _ [a0_1] _ _ _ HC1.out (Nat.le_refl 1) HV.out).mono ?_; rintro e w' ⟨rfl, ⟨n, rfl⟩⟩))
        go_ret
        have e_ := HR3.out
        subst e_
        exact ⟨rfl, pw_below_drewN (below_alloc HB1.out _) _⟩
      | false =>
        have d4c : (a0_2 != 0) = true := by rw [bne, d4b]; rfl
        have c0d : ∀ n, (((w.alloc (.cells #[.string a0_0, .int .i64 a0_1, .int .i64 a0_2] 50)).alloc (.cells #[.int .i64 a0_1] 3)).drewN n).cell? ⟨w.heap.size, 1, none⟩ = some (.int .i64 a0_1) := fun n => (blk_cell (blk_below HB0.out (pw_below_drewN (below_alloc (Below.refl _ _) _) n)) 1).trans rfl
        have c1d : ∀ n, (((w.alloc (.cells #[.string a0_0, .int .i64 a0_1, .int .i64 a0_2] 50)).alloc (.cells #[.int .i64 a0_1] 3)).drewN n).cell? ⟨w.heap.size, 2, none⟩ = some (.int .i64 a0_2) := fun n => (blk_cell (blk_below HB0.out (pw_below_drewN (below_alloc (Below.refl _ _) _) n)) 2).trans rfl
        cases d5b : decide (a0_2 < a0_1) with
        | true =>
          have HR3 := Aside0.mk (HR2.out.trans (if_pos (.inr ⟨beq_eq_false_iff_ne.1 d4b, of_decide_eq_true d5b⟩)))
          clear HR2
          go_enter Try.func49, Try.ntmps49
          go_wp2_with (first | (go_at_call 65; refine (marking_Valid.calls 5 _ _ [a0_1] _ _ _ HC1.out (Nat.le_refl 1) HV.out).mono ?_; rintro e w' ⟨rfl, ⟨n, rfl⟩⟩))
          go_ret
          have e_ := HR3.out
          subst e_
          exact ⟨rfl, pw_below_drewN (below_alloc HB1.out _) _⟩
        | false =>
          have HR3 := Aside0.mk (HR2.out.trans (if_neg (fun h => h.elim D3.out (fun h => of_decide_eq_false d5b h.2))))
          clear HR2
          go_enter Try.func49, Try.ntmps49
          go_wp2_with (first | (go_at_call 65; refine (marking_Valid.calls 5 _ _ [a0_1] _ _ _ HC1.out (Nat.le_refl 1) HV.out).mono ?_; rintro e w' ⟨rfl, ⟨n, rfl⟩⟩))
          go_ret
          have e_ := HR3.out
          subst e_
          exact ⟨rfl, pw_below_drewN (below_alloc HB1.out _) _⟩

/-! ### net_checkArcs: function 66 -/
mutual
def net_checkArcs.l0 : Nat → List (S64) → Int → List (S64) → Int → Int → Option (Int)
  | 0, _, _, _, _, _ => none
  | k + 1, x0, x1, x7, x8, x9 => if x9 < x8 then (if 0 ≤ x9 then (if x9 < (x7.length : Int) then (if ((rd_T64 x7 x9).f0) < 0 then (net_checkArcs.j1 k x0 x1 x9 x7 x8 x9 true ((rd_T64 x7 x9).f0) ((rd_T64 x7 x9).f1)) else (net_checkArcs.j1 k x0 x1 x9 x7 x8 x9 (decide (((rd_T64 x7 x9).f0) ≥ x1)) ((rd_T64 x7 x9).f0) ((rd_T64 x7 x9).f1))) else (none)) else (none)) else (some 0)
def net_checkArcs.j1 : Nat → List (S64) → Int → Int → List (S64) → Int → Int → Bool → Int → Int → Option (Int)
  | 0, _, _, _, _, _, _, _, _, _ => none
  | k + 1, x0, x1, x5, x7, x8, x9, x14, x109000, x109001 => if x14 = true then (some 7) else (if x5 > 0 then (if 0 ≤ (wrap64 (x5 - 1)) then (if (wrap64 (x5 - 1)) < (x0.length : Int) then (net_checkArcs.j2 k x0 x1 x7 x8 x9 (decide (((rd_T64 x0 (wrap64 (x5 - 1))).f0) ≥ x109000)) x109000 x109001) else (none)) else (none)) else (net_checkArcs.j2 k x0 x1 x7 x8 x9 false x109000 x109001))
def net_checkArcs.j2 : Nat → List (S64) → Int → List (S64) → Int → Int → Bool → Int → Int → Option (Int)
  | 0, _, _, _, _, _, _, _, _ => none
  | k + 1, x0, x1, x7, x8, x9, x24, x109000, x109001 => if x24 = true then (some 8) else (if x109001 < 1 then (some 9) else (if x109001 > 99 then (some 9) else (net_checkArcs.l0 k x0 x1 x7 x8 (wrap64 (x9 + 1)))))
end
def net_checkArcs.f (k : Nat) (l0 : List (S64)) (a1 : Int) : Option (Int) := net_checkArcs.l0 k l0 a1 l0 (l0.length : Int) 0
theorem net_checkArcs.mono_l : ∀ k, (∀ y0 y1 y2 y3 y4, LeO (net_checkArcs.l0 k y0 y1 y2 y3 y4) (net_checkArcs.l0 (k + 1) y0 y1 y2 y3 y4)) ∧ (∀ y0 y1 y2 y3 y4 y5 y6 y7 y8, LeO (net_checkArcs.j1 k y0 y1 y2 y3 y4 y5 y6 y7 y8) (net_checkArcs.j1 (k + 1) y0 y1 y2 y3 y4 y5 y6 y7 y8)) ∧ (∀ y0 y1 y2 y3 y4 y5 y6 y7, LeO (net_checkArcs.j2 k y0 y1 y2 y3 y4 y5 y6 y7) (net_checkArcs.j2 (k + 1) y0 y1 y2 y3 y4 y5 y6 y7))
  | 0 => ⟨fun _ _ _ _ _ r h => by simp [net_checkArcs.l0] at h, fun _ _ _ _ _ _ _ _ _ r h => by simp [net_checkArcs.j1] at h, fun _ _ _ _ _ _ _ _ r h => by simp [net_checkArcs.j2] at h⟩
  | k + 1 => by
    obtain ⟨ih0, ih1, ih2⟩ := net_checkArcs.mono_l k
    refine ⟨?_, ?_, ?_⟩
    · intro y0 y1 y2 y3 y4
      unfold net_checkArcs.l0
      repeat' first | (with_reducible first | exact ih0 _ _ _ _ _ | exact ih1 _ _ _ _ _ _ _ _ _ | exact ih2 _ _ _ _ _ _ _ _ | exact LeO.refl _ | exact LeO.none _ | refine LeO.ite ?_ ?_ | refine LeO.bind ?_ (fun _ => ?_)) | exact ih0 _ _ _ _ _ | exact ih1 _ _ _ _ _ _ _ _ _ | exact ih2 _ _ _ _ _ _ _ _ | exact LeO.none _ | refine LeO.ite ?_ ?_ | refine LeO.bind ?_ (fun _ => ?_)
    · intro y0 y1 y2 y3 y4 y5 y6 y7 y8
      unfold net_checkArcs.j1
      repeat' first | (with_reducible first | exact ih0 _ _ _ _ _ | exact ih1 _ _ _ _ _ _ _ _ _ | exact ih2 _ _ _ _ _ _ _ _ | exact LeO.refl _ | exact LeO.none _ | refine LeO.ite ?_ ?_ | refine LeO.bind ?_ (fun _ => ?_)) | exact ih0 _ _ _ _ _ | exact ih1 _ _ _ _ _ _ _ _ _ | exact ih2 _ _ _ _ _ _ _ _ | exact LeO.none _ | refine LeO.ite ?_ ?_ | refine LeO.bind ?_ (fun _ => ?_)
    · intro y0 y1 y2 y3 y4 y5 y6 y7
      unfold net_checkArcs.j2
      repeat' first | (with_reducible first | exact ih0 _ _ _ _ _ | exact ih1 _ _ _ _ _ _ _ _ _ | exact ih2 _ _ _ _ _ _ _ _ | exact LeO.refl _ | exact LeO.none _ | refine LeO.ite ?_ ?_ | refine LeO.bind ?_ (fun _ => ?_)) | exact ih0 _ _ _ _ _ | exact ih1 _ _ _ _ _ _ _ _ _ | exact ih2 _ _ _ _ _ _ _ _ | exact LeO.none _ | refine LeO.ite ?_ ?_ | refine LeO.bind ?_ (fun _ => ?_)
theorem net_checkArcs.mono : ∀ a0 a1 k, LeO (net_checkArcs.f k a0 a1) (net_checkArcs.f (k + 1) a0 a1) := by
  intro a0 a1 k
  obtain ⟨ih0, ih1, ih2⟩ := net_checkArcs.mono_l k
  unfold net_checkArcs.f
  repeat' first | (with_reducible first | exact ih0 _ _ _ _ _ | exact ih1 _ _ _ _ _ _ _ _ _ | exact ih2 _ _ _ _ _ _ _ _ | exact LeO.refl _ | exact LeO.none _ | refine LeO.ite ?_ ?_ | refine LeO.bind ?_ (fun _ => ?_)) | exact ih0 _ _ _ _ _ | exact ih1 _ _ _ _ _ _ _ _ _ | exact ih2 _ _ _ _ _ _ _ _ | exact LeO.none _ | refine LeO.ite ?_ ?_ | refine LeO.bind ?_ (fun _ => ?_)
set_option maxHeartbeats 8000000 in
set_option maxRecDepth 100000 in
theorem net_checkArcs.calls (k : Nat) (A0 : Option Addr) (c0 : Nat) (l0 : List (S64)) (a1 : Int) (r : Int) (w : World) (hr0 : Kd.C k64 w A0 l0.length l0) (hc0 : l0.length ≤ c0) (h : net_checkArcs.f k l0 a1 = some r) :
    Calls Try.prog 66 #[.slice A0 l0.length c0, .int .i64 a1] w fun e w' => e = .returned (.int .i64 r) ∧ Below w.heap.size w w' := by
  have hu64 := Try.underlying64
  have HR0 := Aside0.mk hr0
  have HC0 := Aside0.mk hc0
  clear hr0 hc0
  have HB := Aside0.mk (Below.refl w.heap.size w)
  have H : (net_checkArcs.l0 k l0 a1 l0 (l0.length : Int) 0) = some r := h
  clear h
  have H' := Aside0.mk H
  clear H
  go_enter Try.func66, Try.ntmps66
  go_wp2
  repeat (go_quiet (fail); try go_wp2)
  go_loopg [9] k (fun kq v9 w' => ∃ (x9_1 : Int), v9 = .int .i64 x9_1 ∧ Aside0 (net_checkArcs.l0 kq l0 a1 l0 (l0.length : Int) x9_1 = some r) ∧ Aside0 (kq ≤ k) ∧ Aside0 (Below w.heap.size w w'))
  case atStart => exact ⟨(0), prs, H', ⟨Nat.le_refl _⟩, ⟨by repeat (first | (with_reducible first | exact HB.out | apply below_alloc | apply pw_below_drewN | apply below_drew1) | exact HB.out)⟩⟩
  clear H'
  obtain ⟨x9_1, rfl, HA, HK1, HB⟩ := hrel
  obtain _ | k1 := gk
  · exact absurd HA.out (by simp [net_checkArcs.l0])
  have H := HA.out
  clear HA
  simp only [net_checkArcs.l0] at H
  by_cases c3 : x9_1 < (l0.length : Int)
  rotate_left
  · rw [if_neg c3] at H
    have c3b0 : decide (x9_1 < (l0.length : Int)) = false := decide_eq_false c3
    clear c3
    obtain rfl := Option.some.inj H
    go_wp2
    repeat (go_quiet (fail); try go_wp2)
    go_ret
    exact ⟨by first | rfl | (simp [errW_none, errW_some] <;> rfl) | (simp [*, errW_none, errW_some] <;> rfl), by repeat (first | (with_reducible first | exact HB.out | apply below_alloc | apply pw_below_drewN | apply below_drew1) | exact HB.out)⟩
  rw [if_pos c3] at H
  have c3b0 : decide (x9_1 < (l0.length : Int)) = true := decide_eq_true c3
  clear c3
  by_cases c4 : 0 ≤ x9_1
  rotate_left
  · rw [if_neg c4] at H
    exact absurd H (by simp)
  rw [if_pos c4] at H
  have c4b0 : decide (0 ≤ x9_1) = true := decide_eq_true c4
  clear c4
  by_cases c5 : x9_1 < (l0.length : Int)
  rotate_left
  · rw [if_neg c5] at H
    exact absurd H (by simp)
  rw [if_pos c5] at H
  have c5b0 : decide (x9_1 < (l0.length : Int)) = true := decide_eq_true c5
  clear c5
  have HC6 := Aside0.mk H
  clear H
  have p107 : 0 ≤ (x9_1 : Int) := dq
  have q107 : x9_1 < (l0.length : Int) := dq
  obtain ⟨ad107, e107, hx107_0, hx107_1⟩ := at_T64 HR0.out x9_1 p107 q107
  cases e107
  replace hx107_0 := (HB.out.cell (World.block_lt_of_cell? w _ hx107_0)).trans hx107_0
  replace hx107_1 := (HB.out.cell (World.block_lt_of_cell? w _ hx107_1)).trans hx107_1
  replace p107 := eq_true p107
  replace q107 := eq_true q107
  go_upto_region 4 with (first | ((with_reducible refine gate_dst (N := 6) rfl ?_); refine box_event ?hg (N := 6) ?hd (cs := #[.int .i64 0, .int .i64 0]) (t := 64) ?hr ?_; (case hd => rfl); (case hg => rfl); (case hr => first | (go_simp; done) | (go_simp; rfl)); intro gb108 hg w7 hbox hb; have n0_ := Aside0.mk (below_step pbl hb); have n1_ := Aside0.mk (hbox); have n2_ := Aside0.mk ((by rw [hg]; exact (below_size pbl) : w.heap.size ≤ gb108)); have n3_ := n2_; clear HB; have HB := n0_; have BK108 := n1_; have GW108 := n2_; have GE108 := n3_; clear n0_ n1_ n2_ n3_; clear hb hbox hg; obtain ⟨hcz8_0, hcz8_1, hfz8_0, hfz8_1⟩ := cf2 BK108.out))
  repeat (go_quiet (first | ((with_reducible refine gate_dst (N := 6) rfl ?_); refine box_event ?hg (N := 6) ?hd (cs := #[.int .i64 0, .int .i64 0]) (t := 64) ?hr ?_; (case hd => rfl); (case hg => rfl); (case hr => first | (go_simp; done) | (go_simp; rfl)); intro gb108 hg w7 hbox hb; have n0_ := Aside0.mk (below_step pbl hb); have n1_ := Aside0.mk (hbox); have n2_ := Aside0.mk ((by rw [hg]; exact (below_size pbl) : w.heap.size ≤ gb108)); have n3_ := n2_; clear HB; have HB := n0_; have BK108 := n1_; have GW108 := n2_; have GE108 := n3_; clear n0_ n1_ n2_ n3_; clear hb hbox hg; obtain ⟨hcz8_0, hcz8_1, hfz8_0, hfz8_1⟩ := cf2 BK108.out)); go_upto_region 4 with (first | ((with_reducible refine gate_dst (N := 6) rfl ?_); refine box_event ?hg (N := 6) ?hd (cs := #[.int .i64 0, .int .i64 0]) (t := 64) ?hr ?_; (case hd => rfl); (case hg => rfl); (case hr => first | (go_simp; done) | (go_simp; rfl)); intro gb108 hg w7 hbox hb; have n0_ := Aside0.mk (below_step pbl hb); have n1_ := Aside0.mk (hbox); have n2_ := Aside0.mk ((by rw [hg]; exact (below_size pbl) : w.heap.size ≤ gb108)); have n3_ := n2_; clear HB; have HB := n0_; have BK108 := n1_; have GW108 := n2_; have GE108 := n3_; clear n0_ n1_ n2_ n3_; clear hb hbox hg; obtain ⟨hcz8_0, hcz8_1, hfz8_0, hfz8_1⟩ := cf2 BK108.out)))
  (try simp only [Act.put, List.setIfInBounds_toArray, List.set_cons_zero, List.set_cons_succ])
  go_cut [14] (fun v14 wc => ∃ (kq : Nat) (x14_5 : Bool), v14 = .bool x14_5 ∧ Aside0 (net_checkArcs.j1 kq l0 a1 x9_1 l0 (l0.length : Int) x9_1 x14_5 ((rd_T64 l0 x9_1).f0) ((rd_T64 l0 x9_1).f1) = some r) ∧ Aside0 (kq ≤ k1) ∧ Aside0 (wc.heap[gb108]? = some (.cells #[.int .i64 ((rd_T64 l0 x9_1).f0), .int .i64 ((rd_T64 l0 x9_1).f1)] 64 (0, 0))) ∧ Aside0 (Below w.heap.size w wc))
  case first =>
    have H := HC6.out
    clear HC6
    by_cases c9 : ((rd_T64 l0 x9_1).f0) < 0
    · rw [if_pos c9] at H
      have c9b0 : decide (((rd_T64 l0 x9_1).f0) < 0) = true := decide_eq_true c9
      clear c9
      (first | rw [c9b0] | (simp only [i64_w, i32_w]; rw [c9b0]) | skip)
      have H' := Aside0.mk H
      clear H
      obtain ⟨hcz10_0, hcz10_1, hfz10_0, hfz10_1⟩ := cf2 BK108.out
      go_wp2
      repeat (go_quiet (fail); try go_wp2)
      go_meet
      case rel => exact ⟨_, (true), prs, H', ⟨by have := HK1.out; first | omega | exact Nat.le_refl _⟩, ⟨by (with_reducible repeat (first | refine blk_drewN ?_ _ | refine blk_drew ?_ | refine blk_alloc ?_ _)); refine blk_put (cs := #[.int .i64 ((rd_T64 l0 x9_1).f0), .int .i64 0]) ?_ 1 _ rfl; (with_reducible repeat (first | refine blk_drewN ?_ _ | refine blk_drew ?_ | refine blk_alloc ?_ _)); refine blk_put (cs := #[.int .i64 0, .int .i64 0]) ?_ 0 _ rfl; (with_reducible repeat (first | refine blk_drewN ?_ _ | refine blk_drew ?_ | refine blk_alloc ?_ _)); exact BK108.out⟩, ⟨by repeat (first | (with_reducible first | exact HB.out | apply below_alloc | apply pw_below_drewN | apply below_drew1 | refine below_set ?_ GE108.out) | exact HB.out)⟩⟩
    rw [if_neg c9] at H
    have c9b0 : decide (((rd_T64 l0 x9_1).f0) < 0) = false := decide_eq_false c9
    clear c9
    (first | rw [c9b0] | (simp only [i64_w, i32_w]; rw [c9b0]) | skip)
    have H' := Aside0.mk H
    clear H
    obtain ⟨hcz11_0, hcz11_1, hfz11_0, hfz11_1⟩ := cf2 BK108.out
    go_wp2
    repeat (go_quiet (fail); try go_wp2)
    go_meet
    case rel => exact ⟨_, (decide (((rd_T64 l0 x9_1).f0) ≥ a1)), prs, H', ⟨by have := HK1.out; first | omega | exact Nat.le_refl _⟩, ⟨by (with_reducible repeat (first | refine blk_drewN ?_ _ | refine blk_drew ?_ | refine blk_alloc ?_ _)); refine blk_put (cs := #[.int .i64 ((rd_T64 l0 x9_1).f0), .int .i64 0]) ?_ 1 _ rfl; (with_reducible repeat (first | refine blk_drewN ?_ _ | refine blk_drew ?_ | refine blk_alloc ?_ _)); refine blk_put (cs := #[.int .i64 0, .int .i64 0]) ?_ 0 _ rfl; (with_reducible repeat (first | refine blk_drewN ?_ _ | refine blk_drew ?_ | refine blk_alloc ?_ _)); exact BK108.out⟩, ⟨by repeat (first | (with_reducible first | exact HB.out | apply below_alloc | apply pw_below_drewN | apply below_drew1 | refine below_set ?_ GE108.out) | exact HB.out)⟩⟩
  clear HC6
  try clear c3
  try clear c3b0
  try clear c4
  try clear c4b0
  try clear c5
  try clear c5b0
  try clear c9
  try clear c9b0
  try clear hcz10_0
  try clear hcz10_1
  try clear hcz11_0
  try clear hcz11_1
  try clear hcz8_0
  try clear hcz8_1
  try clear hfz10_0
  try clear hfz10_1
  try clear hfz11_0
  try clear hfz11_1
  try clear hfz8_0
  try clear hfz8_1
  try clear hx107_0
  try clear hx107_1
  try clear p107
  try clear q107
  obtain ⟨kq, x14_5, rfl, HA, HJ5, BK108, HB⟩ := hcut
  obtain _ | kj5 := kq
  · exact absurd HA.out (by simp [net_checkArcs.j1])
  have H := HA.out
  clear HA
  simp only [net_checkArcs.j1] at H
  by_cases c12 : x14_5 = true
  · subst c12
    have H1 : (some 7) = some r := by rw [if_pos rfl] at H; exact H
    clear H
    have H := H1
    clear H1
    obtain rfl := Option.some.inj H
    go_wp2
    repeat (go_quiet (fail); try go_wp2)
    go_ret
    exact ⟨by first | rfl | (simp [errW_none, errW_some] <;> rfl) | (simp [*, errW_none, errW_some] <;> rfl), by repeat (first | (with_reducible first | exact HB.out | apply below_alloc | apply pw_below_drewN | apply below_drew1 | refine below_set ?_ GE108.out) | exact HB.out)⟩
  replace c12 := Bool.eq_false_iff.mpr c12
  subst c12
  have H1 : (if x9_1 > 0 then (if 0 ≤ (wrap64 (x9_1 - 1)) then (if (wrap64 (x9_1 - 1)) < (l0.length : Int) then (net_checkArcs.j2 kj5 l0 a1 l0 (l0.length : Int) x9_1 (decide (((rd_T64 l0 (wrap64 (x9_1 - 1))).f0) ≥ ((rd_T64 l0 x9_1).f0))) ((rd_T64 l0 x9_1).f0) ((rd_T64 l0 x9_1).f1)) else (none)) else (none)) else (net_checkArcs.j2 kj5 l0 a1 l0 (l0.length : Int) x9_1 false ((rd_T64 l0 x9_1).f0) ((rd_T64 l0 x9_1).f1))) = some r := by rw [if_neg (show ¬ (false = true) by decide)] at H; exact H
  clear H
  have H := H1
  clear H1
  have HC13 := Aside0.mk H
  clear H
  go_upto_region 6 with (fail)
  repeat (go_quiet (fail); go_upto_region 6 with (fail))
  go_cut [24] (fun v24 wc => ∃ (kq : Nat) (x24_12 : Bool), v24 = .bool x24_12 ∧ Aside0 (net_checkArcs.j2 kq l0 a1 l0 (l0.length : Int) x9_1 x24_12 ((rd_T64 l0 x9_1).f0) ((rd_T64 l0 x9_1).f1) = some r) ∧ Aside0 (kq ≤ kj5) ∧ Aside0 (wc.heap[gb108]? = some (.cells #[.int .i64 ((rd_T64 l0 x9_1).f0), .int .i64 ((rd_T64 l0 x9_1).f1)] 64 (0, 0))) ∧ Aside0 (Below w.heap.size w wc))
  case first =>
    have H := HC13.out
    clear HC13
    by_cases c14 : x9_1 > 0
    rotate_left
    · rw [if_neg c14] at H
      have c14b0 : decide (0 < x9_1) = false := decide_eq_false c14
      clear c14
      (first | rw [c14b0] | (simp only [i64_w, i32_w]; rw [c14b0]) | skip)
      have H' := Aside0.mk H
      clear H
      go_wp2
      repeat (go_quiet (fail); try go_wp2)
      go_meet
      case rel => exact ⟨_, (false), prs, H', ⟨by have := HK1.out; have := HJ5.out; first | omega | exact Nat.le_refl _⟩, ⟨by (with_reducible repeat (first | refine blk_drewN ?_ _ | refine blk_drew ?_ | refine blk_alloc ?_ _)); exact BK108.out⟩, ⟨by repeat (first | (with_reducible first | exact HB.out | apply below_alloc | apply pw_below_drewN | apply below_drew1 | refine below_set ?_ GE108.out) | exact HB.out)⟩⟩
    rw [if_pos c14] at H
    have c14b0 : decide (0 < x9_1) = true := decide_eq_true c14
    clear c14
    (first | rw [c14b0] | (simp only [i64_w, i32_w]; rw [c14b0]) | skip)
    obtain ⟨ji15, hji15⟩ : ∃ j_ : Int, (wrap64 (x9_1 - 1)) = j_ := ⟨_, rfl⟩
    replace H : (if 0 ≤ (ji15) then (if (ji15) < (l0.length : Int) then (net_checkArcs.j2 kj5 l0 a1 l0 (l0.length : Int) x9_1 (decide (((rd_T64 l0 (ji15)).f0) ≥ ((rd_T64 l0 x9_1).f0))) ((rd_T64 l0 x9_1).f0) ((rd_T64 l0 x9_1).f1)) else (none)) else (none)) = some r := by first | (rw [hji15] at H; exact H) | (simp only [hji15] at H ⊢; exact H)
    have hji15w : (IntKind.i64.wrap (x9_1 - 1)) = ji15 := (i64_w _).trans hji15
    by_cases c16 : 0 ≤ (ji15)
    rotate_left
    · rw [if_neg c16] at H
      exact absurd H (by simp)
    rw [if_pos c16] at H
    have c16b0 : decide (0 ≤ (ji15)) = true := decide_eq_true c16
    clear c16
    by_cases c17 : (ji15) < (l0.length : Int)
    rotate_left
    · rw [if_neg c17] at H
      exact absurd H (by simp)
    rw [if_pos c17] at H
    have c17b0 : decide ((ji15) < (l0.length : Int)) = true := decide_eq_true c17
    clear c17
    have H' := Aside0.mk H
    clear H
    have p109 : 0 ≤ ((ji15) : Int) := dq
    have q109 : (ji15) < (l0.length : Int) := dq
    obtain ⟨ad109, e109, hx109_0, hx109_1⟩ := at_T64 HR0.out (ji15) p109 q109
    obtain rfl : ad107 = ad109 := (by injection e109)
    replace hx109_0 := (HB.out.cell (World.block_lt_of_cell? w _ hx109_0)).trans hx109_0
    replace hx109_1 := (HB.out.cell (World.block_lt_of_cell? w _ hx109_1)).trans hx109_1
    replace p109 := eq_true p109
    replace q109 := eq_true q109
    obtain ⟨hcz18_0, hcz18_1, hfz18_0, hfz18_1⟩ := cf2 BK108.out
    go_wp2
    repeat (go_quiet (fail); try go_wp2)
    go_meet
    case rel => exact ⟨_, (decide (((rd_T64 l0 (ji15)).f0) ≥ ((rd_T64 l0 x9_1).f0))), (by first | rfl | (simp; done) | (simp only [← hji15] <;> (first | rfl | simp)) | (simp [*]; done)), H', ⟨by have := HK1.out; have := HJ5.out; first | omega | exact Nat.le_refl _⟩, ⟨by (with_reducible repeat (first | refine blk_drewN ?_ _ | refine blk_drew ?_ | refine blk_alloc ?_ _)); exact BK108.out⟩, ⟨by repeat (first | (with_reducible first | exact HB.out | apply below_alloc | apply pw_below_drewN | apply below_drew1 | refine below_set ?_ GE108.out) | exact HB.out)⟩⟩
  clear HC13
  try clear c3
  try clear c3b0
  try clear c4
  try clear c4b0
  try clear c5
  try clear c5b0
  try clear c9
  try clear c9b0
  try clear c12
  try clear c14
  try clear c14b0
  try clear c16
  try clear c16b0
  try clear c17
  try clear c17b0
  try clear hcz10_0
  try clear hcz10_1
  try clear hcz11_0
  try clear hcz11_1
  try clear hcz18_0
  try clear hcz18_1
  try clear hcz8_0
  try clear hcz8_1
  try clear hfz10_0
  try clear hfz10_1
  try clear hfz11_0
  try clear hfz11_1
  try clear hfz18_0
  try clear hfz18_1
  try clear hfz8_0
  try clear hfz8_1
  try clear hx107_0
  try clear hx107_1
  try clear hx109_0
  try clear hx109_1
  try clear p107
  try clear p109
  try clear q107
  try clear q109
  obtain ⟨kq, x24_12, rfl, HA, HJ12, BK108, HB⟩ := hcut
  obtain _ | kj12 := kq
  · exact absurd HA.out (by simp [net_checkArcs.j2])
  have H := HA.out
  clear HA
  simp only [net_checkArcs.j2] at H
  by_cases c19 : x24_12 = true
  · subst c19
    have H1 : (some 8) = some r := by rw [if_pos rfl] at H; exact H
    clear H
    have H := H1
    clear H1
    obtain rfl := Option.some.inj H
    go_wp2
    repeat (go_quiet (fail); try go_wp2)
    go_ret
    exact ⟨by first | rfl | (simp [errW_none, errW_some] <;> rfl) | (simp [*, errW_none, errW_some] <;> rfl), by repeat (first | (with_reducible first | exact HB.out | apply below_alloc | apply pw_below_drewN | apply below_drew1 | refine below_set ?_ GE108.out) | exact HB.out)⟩
  replace c19 := Bool.eq_false_iff.mpr c19
  subst c19
  have H1 : (if ((rd_T64 l0 x9_1).f1) < 1 then (some 9) else (if ((rd_T64 l0 x9_1).f1) > 99 then (some 9) else (net_checkArcs.l0 kj12 l0 a1 l0 (l0.length : Int) (wrap64 (x9_1 + 1))))) = some r := by rw [if_neg (show ¬ (false = true) by decide)] at H; exact H
  clear H
  have H := H1
  clear H1
  by_cases c20 : ((rd_T64 l0 x9_1).f1) < 1
  · rw [if_pos c20] at H
    have c20b0 : decide (((rd_T64 l0 x9_1).f1) < 1) = true := decide_eq_true c20
    clear c20
    obtain rfl := Option.some.inj H
    obtain ⟨hcz21_0, hcz21_1, hfz21_0, hfz21_1⟩ := cf2 BK108.out
    go_wp2
    repeat (go_quiet (fail); try go_wp2)
    go_ret
    exact ⟨by first | rfl | (simp [errW_none, errW_some] <;> rfl) | (simp [*, errW_none, errW_some] <;> rfl), by repeat (first | (with_reducible first | exact HB.out | apply below_alloc | apply pw_below_drewN | apply below_drew1 | refine below_set ?_ GE108.out) | exact HB.out)⟩
  rw [if_neg c20] at H
  have c20b0 : decide (((rd_T64 l0 x9_1).f1) < 1) = false := decide_eq_false c20
  clear c20
  by_cases c22 : ((rd_T64 l0 x9_1).f1) > 99
  · rw [if_pos c22] at H
    have c22b0 : decide (99 < ((rd_T64 l0 x9_1).f1)) = true := decide_eq_true c22
    clear c22
    obtain rfl := Option.some.inj H
    obtain ⟨hcz23_0, hcz23_1, hfz23_0, hfz23_1⟩ := cf2 BK108.out
    go_wp2
    repeat (go_quiet (fail); try go_wp2)
    go_ret
    exact ⟨by first | rfl | (simp [errW_none, errW_some] <;> rfl) | (simp [*, errW_none, errW_some] <;> rfl), by repeat (first | (with_reducible first | exact HB.out | apply below_alloc | apply pw_below_drewN | apply below_drew1 | refine below_set ?_ GE108.out) | exact HB.out)⟩
  rw [if_neg c22] at H
  have c22b0 : decide (99 < ((rd_T64 l0 x9_1).f1)) = false := decide_eq_false c22
  clear c22
  have H' := Aside0.mk H
  clear H
  obtain ⟨hcz24_0, hcz24_1, hfz24_0, hfz24_1⟩ := cf2 BK108.out
  go_wp2
  repeat (go_quiet (fail); try go_wp2)
  go_roundg kj12
  case measure => have := HK1.out; have := HJ5.out; have := HJ12.out; omega
  case rel => exact ⟨(wrap64 (x9_1 + 1)), prs, H', ⟨by have := HK1.out; have := HJ5.out; have := HJ12.out; omega⟩, ⟨by repeat (first | (with_reducible first | exact HB.out | apply below_alloc | apply pw_below_drewN | apply below_drew1 | refine below_set ?_ GE108.out) | exact HB.out)⟩⟩

/-! ### net_checkTrans: function 50 -/
mutual
def net_checkTrans.j0 : Nat → Int → Bool → ByteArray → List (S64) → List (S64) → List (S64) → Int → Option (Int)
  | 0, _, _, _, _, _, _, _ => none
  | k + 1, x1, x15, x111000, x111001, x111002, x111003, x111004 => if x15 = true then (some 1) else ((some (([x111001, x111002, x111003] : List (List (S64))) : List (List (S64)))).bind fun y111 => (net_checkTrans.l0 k x1 y111 (y111.length : Int) 0))
def net_checkTrans.l0 : Nat → Int → List (List (S64)) → Int → Int → Option (Int)
  | 0, _, _, _, _ => none
  | k + 1, x1, x22, x23, x24 => if x24 < x23 then (if 0 ≤ x24 then (if x24 < (x22.length : Int) then ((net_checkArcs.f k (rd_L4 x22 x24) x1).bind fun t115 => (if t115 = 0 then (net_checkTrans.l0 k x1 x22 x23 (wrap64 (x24 + 1))) else (some t115))) else (none)) else (none)) else (some 0)
end
def net_checkTrans.f (k : Nat) (a0_0 : ByteArray) (l0_1 : List (S64)) (l0_2 : List (S64)) (l0_3 : List (S64)) (a0_4 : Int) (a1 : Int) : Option (Int) := if a0_4 < 0 then (net_checkTrans.j0 k a1 true a0_0 l0_1 l0_2 l0_3 a0_4) else (net_checkTrans.j0 k a1 (decide (a0_4 > 9)) a0_0 l0_1 l0_2 l0_3 a0_4)
theorem net_checkTrans.mono_l : ∀ k, (∀ y0 y1 y2 y3 y4 y5 y6, LeO (net_checkTrans.j0 k y0 y1 y2 y3 y4 y5 y6) (net_checkTrans.j0 (k + 1) y0 y1 y2 y3 y4 y5 y6)) ∧ (∀ y0 y1 y2 y3, LeO (net_checkTrans.l0 k y0 y1 y2 y3) (net_checkTrans.l0 (k + 1) y0 y1 y2 y3))
  | 0 => ⟨fun _ _ _ _ _ _ _ r h => by simp [net_checkTrans.j0] at h, fun _ _ _ _ r h => by simp [net_checkTrans.l0] at h⟩
  | k + 1 => by
    obtain ⟨ih0, ih1⟩ := net_checkTrans.mono_l k
    refine ⟨?_, ?_⟩
    · intro y0 y1 y2 y3 y4 y5 y6
      unfold net_checkTrans.j0
      repeat' first | (with_reducible first | exact ih0 _ _ _ _ _ _ _ | exact ih1 _ _ _ _ | exact net_checkArcs.mono _ _ _ | exact LeO.refl _ | exact LeO.none _ | refine LeO.ite ?_ ?_ | refine LeO.bind ?_ (fun _ => ?_)) | exact ih0 _ _ _ _ _ _ _ | exact ih1 _ _ _ _ | exact net_checkArcs.mono _ _ _ | exact LeO.none _ | refine LeO.ite ?_ ?_ | refine LeO.bind ?_ (fun _ => ?_)
    · intro y0 y1 y2 y3
      unfold net_checkTrans.l0
      repeat' first | (with_reducible first | exact ih0 _ _ _ _ _ _ _ | exact ih1 _ _ _ _ | exact net_checkArcs.mono _ _ _ | exact LeO.refl _ | exact LeO.none _ | refine LeO.ite ?_ ?_ | refine LeO.bind ?_ (fun _ => ?_)) | exact ih0 _ _ _ _ _ _ _ | exact ih1 _ _ _ _ | exact net_checkArcs.mono _ _ _ | exact LeO.none _ | refine LeO.ite ?_ ?_ | refine LeO.bind ?_ (fun _ => ?_)
theorem net_checkTrans.mono : ∀ a0 a1 a2 a3 a4 a5 k, LeO (net_checkTrans.f k a0 a1 a2 a3 a4 a5) (net_checkTrans.f (k + 1) a0 a1 a2 a3 a4 a5) := by
  intro a0 a1 a2 a3 a4 a5 k
  obtain ⟨ih0, ih1⟩ := net_checkTrans.mono_l k
  unfold net_checkTrans.f
  repeat' first | (with_reducible first | exact ih0 _ _ _ _ _ _ _ | exact ih1 _ _ _ _ | exact net_checkArcs.mono _ _ _ | exact LeO.refl _ | exact LeO.none _ | refine LeO.ite ?_ ?_ | refine LeO.bind ?_ (fun _ => ?_)) | exact ih0 _ _ _ _ _ _ _ | exact ih1 _ _ _ _ | exact net_checkArcs.mono _ _ _ | exact LeO.none _ | refine LeO.ite ?_ ?_ | refine LeO.bind ?_ (fun _ => ?_)
set_option maxHeartbeats 8000000 in
set_option maxRecDepth 100000 in
theorem net_checkTrans.calls (k : Nat) (a0_0 : ByteArray) (P0_1_ : Nat → Prop) (A0_1 : Option Addr) (c0_1 : Nat) (l0_1 : List (S64)) (P0_2_ : Nat → Prop) (A0_2 : Option Addr) (c0_2 : Nat) (l0_2 : List (S64)) (P0_3_ : Nat → Prop) (A0_3 : Option Addr) (c0_3 : Nat) (l0_3 : List (S64)) (a0_4 : Int) (a1 : Int) (r : Int) (w : World) (hs0_1 : Kd.V k64 64 w w.heap.size (fun k_ => P0_1_ k_) (.slice A0_1 l0_1.length c0_1) l0_1) (hs0_2 : Kd.V k64 64 w w.heap.size (fun k_ => P0_2_ k_) (.slice A0_2 l0_2.length c0_2) l0_2) (hs0_3 : Kd.V k64 64 w w.heap.size (fun k_ => P0_3_ k_) (.slice A0_3 l0_3.length c0_3) l0_3) (h : net_checkTrans.f k a0_0 l0_1 l0_2 l0_3 a0_4 a1 = some r) :
    Calls Try.prog 50 #[.agg #[.string a0_0, .slice A0_1 l0_1.length c0_1, .slice A0_2 l0_2.length c0_2, .slice A0_3 l0_3.length c0_3, .int .i64 a0_4], .int .i64 a1] w fun e w' => e = .returned (.int .i64 r) ∧ Below w.heap.size w w' := by
  have hu53 := Try.underlying53
  have HO0_1 := Aside0.mk (show Kd.V k64 64 w w.heap.size (fun k_ => ((P0_1_ k_ ∨ P0_2_ k_ ∨ P0_3_ k_) ∨ w.heap.size ≤ k_)) (.slice A0_1 l0_1.length c0_1) l0_1 from Kd.V_mono hs0_1 (fun k_ hk => .inl (.inl hk)))
  have HO0_2 := Aside0.mk (show Kd.V k64 64 w w.heap.size (fun k_ => ((P0_1_ k_ ∨ P0_2_ k_ ∨ P0_3_ k_) ∨ w.heap.size ≤ k_)) (.slice A0_2 l0_2.length c0_2) l0_2 from Kd.V_mono hs0_2 (fun k_ hk => .inl (.inr (.inl hk))))
  have HO0_3 := Aside0.mk (show Kd.V k64 64 w w.heap.size (fun k_ => ((P0_1_ k_ ∨ P0_2_ k_ ∨ P0_3_ k_) ∨ w.heap.size ≤ k_)) (.slice A0_3 l0_3.length c0_3) l0_3 from Kd.V_mono hs0_3 (fun k_ hk => .inl (.inr (.inr hk))))
  have HB := Aside0.mk (Below.refl w.heap.size w)
  have H : (if a0_4 < 0 then (net_checkTrans.j0 k a1 true a0_0 l0_1 l0_2 l0_3 a0_4) else (net_checkTrans.j0 k a1 (decide (a0_4 > 9)) a0_0 l0_1 l0_2 l0_3 a0_4)) = some r := h
  clear h
  have HC3 := Aside0.mk H
  clear H
  go_enter Try.func50, Try.ntmps50
  go_upto_region 1 with (first | ((with_reducible refine gate_dst (N := 2) rfl ?_); refine box_event ?hg (N := 2) ?hd (cs := #[.string a0_0, .slice A0_1 l0_1.length c0_1, .slice A0_2 l0_2.length c0_2, .slice A0_3 l0_3.length c0_3, .int .i64 a0_4]) (t := 53) ?hr ?_; (case hd => rfl); (case hg => rfl); (case hr => first | (go_simp; done) | (go_simp; rfl)); intro gb110 hg w4 hbox hb; have n0_ := Aside0.mk (Kd.V_below (Kd.V_elderB (by (with_reducible repeat (first | apply Kd.V_alloc | apply Kd.V_drewN | apply Kd.V_drew)); exact HO0_1.out) gb110 (Nat.le_of_eq hg.symm)) hb); have n1_ := Aside0.mk (Kd.V_below (Kd.V_elderB (by (with_reducible repeat (first | apply Kd.V_alloc | apply Kd.V_drewN | apply Kd.V_drew)); exact HO0_2.out) gb110 (Nat.le_of_eq hg.symm)) hb); have n2_ := Aside0.mk (Kd.V_below (Kd.V_elderB (by (with_reducible repeat (first | apply Kd.V_alloc | apply Kd.V_drewN | apply Kd.V_drew)); exact HO0_3.out) gb110 (Nat.le_of_eq hg.symm)) hb); have n3_ := Aside0.mk (below_step pbl hb); have n4_ := Aside0.mk (hbox); have n5_ := Aside0.mk ((by rw [hg]; exact (below_size pbl) : w.heap.size ≤ gb110)); have n6_ := n5_; clear HO0_1; clear HO0_2; clear HO0_3; clear HB; have HO0_1 := n0_; have HO0_2 := n1_; have HO0_3 := n2_; have HB := n3_; have BK110 := n4_; have GW110 := n5_; have GE110 := n6_; clear n0_ n1_ n2_ n3_ n4_ n5_ n6_; clear hb hbox hg))
  (try simp only [Act.put, List.setIfInBounds_toArray, List.set_cons_zero, List.set_cons_succ])
  go_cut [15] (fun v15 wc => ∃ (kq : Nat) (x15_2 : Bool), v15 = .bool x15_2 ∧ Aside0 (net_checkTrans.j0 kq a1 x15_2 a0_0 l0_1 l0_2 l0_3 a0_4 = some r) ∧ Aside0 (kq ≤ k) ∧ Aside0 (Kd.V k64 64 wc w.heap.size (fun k_ => ((P0_1_ k_ ∨ P0_2_ k_ ∨ P0_3_ k_) ∨ w.heap.size ≤ k_) ∧ k_ ≠ gb110) (.slice A0_1 l0_1.length c0_1) l0_1) ∧ Aside0 (Kd.V k64 64 wc w.heap.size (fun k_ => ((P0_1_ k_ ∨ P0_2_ k_ ∨ P0_3_ k_) ∨ w.heap.size ≤ k_) ∧ k_ ≠ gb110) (.slice A0_2 l0_2.length c0_2) l0_2) ∧ Aside0 (Kd.V k64 64 wc w.heap.size (fun k_ => ((P0_1_ k_ ∨ P0_2_ k_ ∨ P0_3_ k_) ∨ w.heap.size ≤ k_) ∧ k_ ≠ gb110) (.slice A0_3 l0_3.length c0_3) l0_3) ∧ Aside0 (wc.heap[gb110]? = some (.cells #[.string a0_0, (.slice A0_1 l0_1.length c0_1), (.slice A0_2 l0_2.length c0_2), (.slice A0_3 l0_3.length c0_3), .int .i64 a0_4] 53 (0, 0))) ∧ Aside0 (Below w.heap.size w wc))
  case first =>
    have H := HC3.out
    clear HC3
    by_cases c5 : a0_4 < 0
    · rw [if_pos c5] at H
      have c5b0 : decide (a0_4 < 0) = true := decide_eq_true c5
      clear c5
      (first | rw [c5b0] | (simp only [i64_w, i32_w]; rw [c5b0]) | skip)
      have H' := Aside0.mk H
      clear H
      obtain ⟨hcz6_0, hcz6_1, hcz6_2, hcz6_3, hcz6_4, hfz6_0, hfz6_1, hfz6_2, hfz6_3, hfz6_4⟩ := cf5 BK110.out
      go_wp2
      go_meet
      case rel => exact ⟨_, (true), prs, H', ⟨by first | omega | exact Nat.le_refl _⟩, ⟨by (with_reducible repeat (first | apply Kd.V_alloc | apply Kd.V_drewN | apply Kd.V_drew)); exact HO0_1.out⟩, ⟨by (with_reducible repeat (first | apply Kd.V_alloc | apply Kd.V_drewN | apply Kd.V_drew)); exact HO0_2.out⟩, ⟨by (with_reducible repeat (first | apply Kd.V_alloc | apply Kd.V_drewN | apply Kd.V_drew)); exact HO0_3.out⟩, ⟨by (with_reducible repeat (first | refine blk_drewN ?_ _ | refine blk_drew ?_ | refine blk_alloc ?_ _)); exact BK110.out⟩, ⟨by repeat (first | (with_reducible first | exact HB.out | apply below_alloc | apply pw_below_drewN | apply below_drew1 | refine below_set ?_ GE110.out) | exact HB.out)⟩⟩
    rw [if_neg c5] at H
    have c5b0 : decide (a0_4 < 0) = false := decide_eq_false c5
    clear c5
    (first | rw [c5b0] | (simp only [i64_w, i32_w]; rw [c5b0]) | skip)
    have H' := Aside0.mk H
    clear H
    obtain ⟨hcz7_0, hcz7_1, hcz7_2, hcz7_3, hcz7_4, hfz7_0, hfz7_1, hfz7_2, hfz7_3, hfz7_4⟩ := cf5 BK110.out
    go_wp2
    go_meet
    case rel => exact ⟨_, (decide (a0_4 > 9)), prs, H', ⟨by first | omega | exact Nat.le_refl _⟩, ⟨by (with_reducible repeat (first | apply Kd.V_alloc | apply Kd.V_drewN | apply Kd.V_drew)); exact HO0_1.out⟩, ⟨by (with_reducible repeat (first | apply Kd.V_alloc | apply Kd.V_drewN | apply Kd.V_drew)); exact HO0_2.out⟩, ⟨by (with_reducible repeat (first | apply Kd.V_alloc | apply Kd.V_drewN | apply Kd.V_drew)); exact HO0_3.out⟩, ⟨by (with_reducible repeat (first | refine blk_drewN ?_ _ | refine blk_drew ?_ | refine blk_alloc ?_ _)); exact BK110.out⟩, ⟨by repeat (first | (with_reducible first | exact HB.out | apply below_alloc | apply pw_below_drewN | apply below_drew1 | refine below_set ?_ GE110.out) | exact HB.out)⟩⟩
  clear HC3
  try clear c5
  try clear c5b0
  try clear hcz6_0
  try clear hcz6_1
  try clear hcz6_2
  try clear hcz6_3
  try clear hcz6_4
  try clear hcz7_0
  try clear hcz7_1
  try clear hcz7_2
  try clear hcz7_3
  try clear hcz7_4
  try clear hfz6_0
  try clear hfz6_1
  try clear hfz6_2
  try clear hfz6_3
  try clear hfz6_4
  try clear hfz7_0
  try clear hfz7_1
  try clear hfz7_2
  try clear hfz7_3
  try clear hfz7_4
  obtain ⟨kq, x15_2, rfl, HA, HJ2, HO_111001, HO_111002, HO_111003, BK110, HB⟩ := hcut
  obtain _ | kj2 := kq
  · exact absurd HA.out (by simp [net_checkTrans.j0])
  have H := HA.out
  clear HA
  simp only [net_checkTrans.j0] at H
  by_cases c8 : x15_2 = true
  · subst c8
    have H1 : (some 1) = some r := by rw [if_pos rfl] at H; exact H
    clear H
    have H := H1
    clear H1
    obtain rfl := Option.some.inj H
    go_wp2
    go_ret
    exact ⟨by first | rfl | (simp [errW_none, errW_some] <;> rfl) | (simp [*, errW_none, errW_some] <;> rfl), by repeat (first | (with_reducible first | exact HB.out | apply below_alloc | apply pw_below_drewN | apply below_drew1 | refine below_set ?_ GE110.out) | exact HB.out)⟩
  replace c8 := Bool.eq_false_iff.mpr c8
  subst c8
  have H1 : ((some (([l0_1, l0_2, l0_3] : List (List (S64))) : List (List (S64)))).bind fun y111 => (net_checkTrans.l0 kj2 a1 y111 (y111.length : Int) 0)) = some r := by rw [if_neg (show ¬ (false = true) by decide)] at H; exact H
  clear H
  have H := H1
  clear H1
  obtain ⟨y111, hy111⟩ : ∃ y_ : List (List (S64)), y_ = (([l0_1, l0_2, l0_3] : List (List (S64)))) := ⟨_, rfl⟩
  replace H : (net_checkTrans.l0 kj2 a1 y111 (y111.length : Int) 0) = some r := by first | (rw [hy111]; with_reducible exact H) | (have H2_ := (Option.bind_some _ _).symm.trans H; rw [hy111]; with_reducible exact H2_) | (have H2_ := (Option.bind_some _ _).symm.trans H; with_reducible exact H2_) | with_reducible exact H | (rw [hy111]; exact H) | exact H
  have Ny111 := Aside0.mk hy111
  clear hy111
  have H' := Aside0.mk H
  clear H
  obtain ⟨hcz9_0, hcz9_1, hcz9_2, hcz9_3, hcz9_4, hfz9_0, hfz9_1, hfz9_2, hfz9_3, hfz9_4⟩ := cf5 BK110.out
  go_wp2_with (first | ((with_reducible refine gate_dst (N := 22) rfl ?_); refine Kd.N_lit (Kd.slice 64 k64) _ 51 ?hg (N' := 22) ?hd (xs := ([l0_1, l0_2, l0_3] : List (List (S64)))) (inner := [.slice A0_1 l0_1.length c0_1, .slice A0_2 l0_2.length c0_2, .slice A0_3 l0_3.length c0_3]) (ok := (fun k_ => ((P0_1_ k_ ∨ P0_2_ k_ ∨ P0_3_ k_) ∨ w.heap.size ≤ k_) ∧ k_ ≠ gb110)) (okp := (fun k_ => ((P0_1_ k_ ∨ P0_2_ k_ ∨ P0_3_ k_) ∨ w.heap.size ≤ k_) ∧ k_ ≠ gb110)) ?hr ?hp (fun _ hk => hk) ((show ∀ k_, wc.heap.size ≤ k_ → (fun k_ => ((P0_1_ k_ ∨ P0_2_ k_ ∨ P0_3_ k_) ∨ w.heap.size ≤ k_) ∧ k_ ≠ gb110) k_ from fun k_ hk => ⟨(.inr (Nat.le_trans (below_size (by repeat (first | (with_reducible first | exact HB.out | apply below_alloc | apply pw_below_drewN | apply below_drew1 | refine below_set ?_ GE110.out) | exact HB.out))) hk)), Kd.freshB (g := gb110) (o := .cells #[.string a0_0, .slice A0_1 l0_1.length c0_1, .slice A0_2 l0_2.length c0_2, .slice A0_3 l0_3.length c0_3, .int .i64 a0_4] 53 (0, 0)) (by (with_reducible repeat (first | refine blk_drewN ?_ _ | refine blk_drew ?_ | refine blk_alloc ?_ _)); exact BK110.out) k_ hk⟩) _ (Nat.le_refl _)) (Below.refl _ _) (Nat.le_refl _) (by simp) ?_; (case hd => rfl); (case hg => rfl); (case hr => first | (go_simp; done) | (go_simp; rfl)); (case hp => exact (Reps.one (show Kd.FK (Kd.slice 64 k64) _ _ l0_1 [.slice A0_1 l0_1.length c0_1] from (Kd.FK_slice_mk (Kd.V_reads' (Kd.V_mono (ok' := (fun k_ => ((P0_1_ k_ ∨ P0_2_ k_ ∨ P0_3_ k_) ∨ w.heap.size ≤ k_) ∧ k_ ≠ gb110)) (HO_111001.out) (fun k_ hk => ⟨hk.1, hk.2⟩))).2.1 (Kd.V_F (Kd.V_mono (ok' := (fun k_ => ((P0_1_ k_ ∨ P0_2_ k_ ∨ P0_3_ k_) ∨ w.heap.size ≤ k_) ∧ k_ ≠ gb110)) (HO_111001.out) (fun k_ hk => ⟨hk.1, hk.2⟩))))) (Reps.one (show Kd.FK (Kd.slice 64 k64) _ _ l0_2 [.slice A0_2 l0_2.length c0_2] from (Kd.FK_slice_mk (Kd.V_reads' (Kd.V_mono (ok' := (fun k_ => ((P0_1_ k_ ∨ P0_2_ k_ ∨ P0_3_ k_) ∨ w.heap.size ≤ k_) ∧ k_ ≠ gb110)) (HO_111002.out) (fun k_ hk => ⟨hk.1, hk.2⟩))).2.1 (Kd.V_F (Kd.V_mono (ok' := (fun k_ => ((P0_1_ k_ ∨ P0_2_ k_ ∨ P0_3_ k_) ∨ w.heap.size ≤ k_) ∧ k_ ≠ gb110)) (HO_111002.out) (fun k_ hk => ⟨hk.1, hk.2⟩))))) (Reps.one (show Kd.FK (Kd.slice 64 k64) _ _ l0_3 [.slice A0_3 l0_3.length c0_3] from (Kd.FK_slice_mk (Kd.V_reads' (Kd.V_mono (ok' := (fun k_ => ((P0_1_ k_ ∨ P0_2_ k_ ∨ P0_3_ k_) ∨ w.heap.size ≤ k_) ∧ k_ ≠ gb110)) (HO_111003.out) (fun k_ hk => ⟨hk.1, hk.2⟩))).2.1 (Kd.V_F (Kd.V_mono (ok' := (fun k_ => ((P0_1_ k_ ∨ P0_2_ k_ ∨ P0_3_ k_) ∨ w.heap.size ≤ k_) ∧ k_ ≠ gb110)) (HO_111003.out) (fun k_ hk => ⟨hk.1, hk.2⟩))))) (Reps.none _ _))))); intro v112 w10 ho11 hb hg_ hnew_; clear hg_ hnew_; (first | rw [← Ny111.out] at ho11 | (simp only [Int.reduceToNat] at ho11; rw [← Ny111.out] at ho11)); have n0_ := Aside0.mk (Kd.V_elder' (by (with_reducible repeat (first | apply Kd.V_alloc | apply Kd.V_drewN | apply Kd.V_drew)); exact HO_111001.out) (Kd.N_base ho11) hb); have n1_ := Aside0.mk (Kd.V_elder' (by (with_reducible repeat (first | apply Kd.V_alloc | apply Kd.V_drewN | apply Kd.V_drew)); exact HO_111002.out) (Kd.N_base ho11) hb); have n2_ := Aside0.mk (Kd.V_elder' (by (with_reducible repeat (first | apply Kd.V_alloc | apply Kd.V_drewN | apply Kd.V_drew)); exact HO_111003.out) (Kd.N_base ho11) hb); have n3_ := Aside0.mk (Kd.N_lower ho11 (below_size (by repeat (first | (with_reducible first | exact HB.out | apply below_alloc | apply pw_below_drewN | apply below_drew1 | refine below_set ?_ GE110.out) | exact HB.out)))); have n4_ := Aside0.mk (blk_below (by (with_reducible repeat (first | refine blk_drewN ?_ _ | refine blk_drew ?_ | refine blk_alloc ?_ _)); exact BK110.out) hb); have n5_ := Aside0.mk (below_step (by repeat (first | (with_reducible first | exact HB.out | apply below_alloc | apply pw_below_drewN | apply below_drew1 | refine below_set ?_ GE110.out) | exact HB.out)) hb); clear HO_111001; clear HO_111002; clear HO_111003; clear BK110; clear HB; have HO_111001 := n0_; have HO_111002 := n1_; have HO_111003 := n2_; have HO113 := n3_; have BK110 := n4_; have HB := n5_; clear n0_ n1_ n2_ n3_ n4_ n5_; clear hb ho11; obtain ⟨Ao12, co12, eo12⟩ := Kd.N_slice HO113.out; subst eo12))
  go_loopg [24] kj2 (fun kq v24 w' => ∃ (x24_2 : Int), v24 = .int .i64 x24_2 ∧ Aside0 (net_checkTrans.l0 kq a1 y111 (y111.length : Int) x24_2 = some r) ∧ Aside0 (kq ≤ kj2) ∧ Aside0 (Kd.N (Kd.slice 64 k64) 51 w' w.heap.size (fun k_ => ((P0_1_ k_ ∨ P0_2_ k_ ∨ P0_3_ k_) ∨ w.heap.size ≤ k_) ∧ k_ ≠ gb110) (.slice Ao12 y111.length co12) y111) ∧ Aside0 (Kd.V k64 64 w' w.heap.size (fun k_ => ((P0_1_ k_ ∨ P0_2_ k_ ∨ P0_3_ k_) ∨ w.heap.size ≤ k_) ∧ some k_ ≠ ((.slice Ao12 y111.length co12) : Value).ownBlock ∧ k_ ≠ gb110) (.slice A0_1 l0_1.length c0_1) l0_1) ∧ Aside0 (Kd.V k64 64 w' w.heap.size (fun k_ => ((P0_1_ k_ ∨ P0_2_ k_ ∨ P0_3_ k_) ∨ w.heap.size ≤ k_) ∧ some k_ ≠ ((.slice Ao12 y111.length co12) : Value).ownBlock ∧ k_ ≠ gb110) (.slice A0_2 l0_2.length c0_2) l0_2) ∧ Aside0 (Kd.V k64 64 w' w.heap.size (fun k_ => ((P0_1_ k_ ∨ P0_2_ k_ ∨ P0_3_ k_) ∨ w.heap.size ≤ k_) ∧ some k_ ≠ ((.slice Ao12 y111.length co12) : Value).ownBlock ∧ k_ ≠ gb110) (.slice A0_3 l0_3.length c0_3) l0_3) ∧ Aside0 (w'.heap[gb110]? = some (.cells #[.string a0_0, (.slice A0_1 l0_1.length c0_1), (.slice A0_2 l0_2.length c0_2), (.slice A0_3 l0_3.length c0_3), .int .i64 a0_4] 53 (0, 0))) ∧ Aside0 (Below w.heap.size w w'))
  case atStart => exact ⟨(0), prs, H', ⟨Nat.le_refl _⟩, ⟨by (with_reducible repeat (first | apply Kd.N_alloc | apply Kd.N_drewN | apply Kd.N_drew)); exact HO113.out⟩, ⟨by (with_reducible repeat (first | apply Kd.V_alloc | apply Kd.V_drewN | apply Kd.V_drew)); exact Kd.V_mono HO_111001.out (fun _ hk => ⟨hk.1.1, ⟨hk.2, hk.1.2⟩⟩)⟩, ⟨by (with_reducible repeat (first | apply Kd.V_alloc | apply Kd.V_drewN | apply Kd.V_drew)); exact Kd.V_mono HO_111002.out (fun _ hk => ⟨hk.1.1, ⟨hk.2, hk.1.2⟩⟩)⟩, ⟨by (with_reducible repeat (first | apply Kd.V_alloc | apply Kd.V_drewN | apply Kd.V_drew)); exact Kd.V_mono HO_111003.out (fun _ hk => ⟨hk.1.1, ⟨hk.2, hk.1.2⟩⟩)⟩, ⟨by (with_reducible repeat (first | refine blk_drewN ?_ _ | refine blk_drew ?_ | refine blk_alloc ?_ _)); exact BK110.out⟩, ⟨by repeat (first | (with_reducible first | exact HB.out | apply below_alloc | apply pw_below_drewN | apply below_drew1 | refine below_set ?_ GE110.out) | exact HB.out)⟩⟩
  clear H'
  try clear c5
  try clear c5b0
  try clear c8
  try clear hcz6_0
  try clear hcz6_1
  try clear hcz6_2
  try clear hcz6_3
  try clear hcz6_4
  try clear hcz7_0
  try clear hcz7_1
  try clear hcz7_2
  try clear hcz7_3
  try clear hcz7_4
  try clear hcz9_0
  try clear hcz9_1
  try clear hcz9_2
  try clear hcz9_3
  try clear hcz9_4
  try clear hfz6_0
  try clear hfz6_1
  try clear hfz6_2
  try clear hfz6_3
  try clear hfz6_4
  try clear hfz7_0
  try clear hfz7_1
  try clear hfz7_2
  try clear hfz7_3
  try clear hfz7_4
  try clear hfz9_0
  try clear hfz9_1
  try clear hfz9_2
  try clear hfz9_3
  try clear hfz9_4
  obtain ⟨x24_2, rfl, HA, HK2, HO_22, HO_111001, HO_111002, HO_111003, BK110, HB⟩ := hrel
  obtain _ | k2 := gk
  · exact absurd HA.out (by simp [net_checkTrans.l0])
  have H := HA.out
  clear HA
  simp only [net_checkTrans.l0] at H
  by_cases c13 : x24_2 < (y111.length : Int)
  rotate_left
  · rw [if_neg c13] at H
    have c13b0 : decide (x24_2 < (y111.length : Int)) = false := decide_eq_false c13
    clear c13
    obtain rfl := Option.some.inj H
    go_wp2
    go_ret
    exact ⟨by first | rfl | (simp [errW_none, errW_some] <;> rfl) | (simp [*, errW_none, errW_some] <;> rfl), by repeat (first | (with_reducible first | exact HB.out | apply below_alloc | apply pw_below_drewN | apply below_drew1 | refine below_set ?_ GE110.out) | exact HB.out)⟩
  rw [if_pos c13] at H
  have c13b0 : decide (x24_2 < (y111.length : Int)) = true := decide_eq_true c13
  clear c13
  by_cases c14 : 0 ≤ x24_2
  rotate_left
  · rw [if_neg c14] at H
    exact absurd H (by simp)
  rw [if_pos c14] at H
  have c14b0 : decide (0 ≤ x24_2) = true := decide_eq_true c14
  clear c14
  by_cases c15 : x24_2 < (y111.length : Int)
  rotate_left
  · rw [if_neg c15] at H
    exact absurd H (by simp)
  rw [if_pos c15] at H
  have c15b0 : decide (x24_2 < (y111.length : Int)) = true := decide_eq_true c15
  clear c15
  replace H := Option.bind_eq_some_iff.mp H
  obtain ⟨t115, A160, H⟩ := H
  replace H : (if t115 = 0 then (net_checkTrans.l0 k2 a1 y111 (y111.length : Int) (wrap64 (x24_2 + 1))) else (some t115)) = some r := H
  have A16 := Aside0.mk A160
  clear A160
  by_cases c17 : t115 = 0
  rotate_left
  · rw [if_neg c17] at H
    have c17b0 : (t115 == 0) = false := beq_eq_false_iff_ne.mpr c17
    have c17b1 : (t115 != 0) = true := bne_iff_ne.mpr c17
    obtain rfl := Option.some.inj H
    have p114 : 0 ≤ (x24_2 : Int) := dq
    have q114 : x24_2 < (y111.length : Int) := dq
    obtain ⟨ad114, A114_0, c114_0, e114, hx114_0, hl114_0, hi114_0⟩ := at_L4 (Kd.N_reads' HO_22.out).2.2 x24_2 p114 q114
    cases e114
    obtain ⟨ce114, hce114, hMe114, hcc114⟩ := Kd.N_get HO_22.out [] x24_2 p114 (by first | exact q114 | exact dq | (have e_ := (Kd.N_reads' HO_22.out).1; omega))
    obtain ⟨ua114_0, uc114_0, rfl, ul114_0, ge114_0⟩ := Kd.FK_slice_open hMe114
    have hv114_0 := hcc114 0 _ rfl
    rw [Nat.add_zero, show ((Kd.slice 64 k64)).sz = 1 from rfl, Nat.mul_one] at hv114_0
    replace hv114_0 := Option.some.inj (hv114_0.symm.trans hx114_0)
    injection hv114_0 with hva_ hvn_ hvc_
    rw [hva_] at ge114_0
    rw [hvc_] at ul114_0
    have HL114_0 := Aside0.mk (show Kd.V k64 64 _ w.heap.size _ _ (rd_L4 y111 x24_2) from Kd.V_mk ul114_0 ge114_0)
    clear hva_ hvn_ hvc_ ge114_0 ul114_0 hcc114 hce114
    have HR114_0 := Aside0.mk hi114_0
    have HC114_0 := Aside0.mk hl114_0
    clear hi114_0 hl114_0
    replace p114 := eq_true p114
    replace q114 := eq_true q114
    go_wp2_with (first | ((with_reducible refine gate_callee (f := 66) rfl ?_); refine goesL_ (some 30) rfl rfl Try.func66 (by kernel_rfl) rfl #[.slice A114_0 (rd_L4 y111 x24_2).length c114_0, .int .i64 a1] rfl pgz ?_; (with_reducible refine (net_checkArcs.calls k2 _ _ (rd_L4 y111 x24_2) a1 t115 _ ?side1 ?side2 A16.out).mono ?_); (case side1 => repeat (first | exact (by repeat (first | (with_reducible exact HR114_0.out) | (with_reducible refine Kd.C_alloc ?_ _) | (with_reducible refine Kd.C_drewN ?_ _) | (with_reducible refine Kd.C_drew ?_) | exact HR114_0.out)) | (with_reducible refine Kd.C_alloc ?_ _) | (with_reducible refine Kd.C_drewN ?_ _) | (with_reducible refine Kd.C_drew ?_))); (case side2 => exact HC114_0.out); rintro e w19 ⟨rfl, hb⟩; refine ⟨_, rfl, ?_⟩; have n0_ := Aside0.mk (Kd.N_below (by (with_reducible repeat (first | apply Kd.N_alloc | apply Kd.N_drewN | apply Kd.N_drew)); exact HO_22.out) hb); have n1_ := Aside0.mk (Kd.V_below (by (with_reducible repeat (first | apply Kd.V_alloc | apply Kd.V_drewN | apply Kd.V_drew)); exact HO_111001.out) hb); have n2_ := Aside0.mk (Kd.V_below (by (with_reducible repeat (first | apply Kd.V_alloc | apply Kd.V_drewN | apply Kd.V_drew)); exact HO_111002.out) hb); have n3_ := Aside0.mk (Kd.V_below (by (with_reducible repeat (first | apply Kd.V_alloc | apply Kd.V_drewN | apply Kd.V_drew)); exact HO_111003.out) hb); have n4_ := Aside0.mk (Kd.V_below (by (with_reducible repeat (first | apply Kd.V_alloc | apply Kd.V_drewN | apply Kd.V_drew)); exact HL114_0.out) hb); have n5_ := Aside0.mk (blk_below (by (with_reducible repeat (first | refine blk_drewN ?_ _ | refine blk_drew ?_ | refine blk_alloc ?_ _)); exact BK110.out) hb); have n6_ := Aside0.mk (Kd.C_below (by repeat (first | (with_reducible exact HR114_0.out) | (with_reducible refine Kd.C_alloc ?_ _) | (with_reducible refine Kd.C_drewN ?_ _) | (with_reducible refine Kd.C_drew ?_) | exact HR114_0.out)) hb); have n7_ := Aside0.mk (below_step (by repeat (first | (with_reducible first | exact HB.out | apply below_alloc | apply pw_below_drewN | apply below_drew1 | refine below_set ?_ GE110.out) | exact HB.out)) hb); clear HO_22; clear HO_111001; clear HO_111002; clear HO_111003; clear HL114_0; clear BK110; clear HR114_0; clear HB; have HO_22 := n0_; have HO_111001 := n1_; have HO_111002 := n2_; have HO_111003 := n3_; have HL114_0 := n4_; have BK110 := n5_; have HR114_0 := n6_; have HB := n7_; clear n0_ n1_ n2_ n3_ n4_ n5_ n6_ n7_; (try clear hb); (try clear hb2); (try clear hk); (try clear hi)))
    go_ret
    exact ⟨by first | rfl | (simp [errW_none, errW_some] <;> rfl) | (simp [*, errW_none, errW_some] <;> rfl), by repeat (first | (with_reducible first | exact HB.out | apply below_alloc | apply pw_below_drewN | apply below_drew1 | refine below_set ?_ GE110.out) | exact HB.out)⟩
  rw [if_pos c17] at H
  have c17b0 : (t115 == 0) = true := beq_iff_eq.mpr c17
  have c17b1 : (t115 != 0) = false := bne_eq_false_iff_eq.mpr c17
  clear c17
  have H' := Aside0.mk H
  clear H
  have p114 : 0 ≤ (x24_2 : Int) := dq
  have q114 : x24_2 < (y111.length : Int) := dq
  obtain ⟨ad114, A114_0, c114_0, e114, hx114_0, hl114_0, hi114_0⟩ := at_L4 (Kd.N_reads' HO_22.out).2.2 x24_2 p114 q114
  cases e114
  obtain ⟨ce114, hce114, hMe114, hcc114⟩ := Kd.N_get HO_22.out [] x24_2 p114 (by first | exact q114 | exact dq | (have e_ := (Kd.N_reads' HO_22.out).1; omega))
  obtain ⟨ua114_0, uc114_0, rfl, ul114_0, ge114_0⟩ := Kd.FK_slice_open hMe114
  have hv114_0 := hcc114 0 _ rfl
  rw [Nat.add_zero, show ((Kd.slice 64 k64)).sz = 1 from rfl, Nat.mul_one] at hv114_0
  replace hv114_0 := Option.some.inj (hv114_0.symm.trans hx114_0)
  injection hv114_0 with hva_ hvn_ hvc_
  rw [hva_] at ge114_0
  rw [hvc_] at ul114_0
  have HL114_0 := Aside0.mk (show Kd.V k64 64 _ w.heap.size _ _ (rd_L4 y111 x24_2) from Kd.V_mk ul114_0 ge114_0)
  clear hva_ hvn_ hvc_ ge114_0 ul114_0 hcc114 hce114
  have HR114_0 := Aside0.mk hi114_0
  have HC114_0 := Aside0.mk hl114_0
  clear hi114_0 hl114_0
  replace p114 := eq_true p114
  replace q114 := eq_true q114
  go_wp2_with (first | ((with_reducible refine gate_callee (f := 66) rfl ?_); refine goesL_ (some 30) rfl rfl Try.func66 (by kernel_rfl) rfl #[.slice A114_0 (rd_L4 y111 x24_2).length c114_0, .int .i64 a1] rfl pgz ?_; (with_reducible refine (net_checkArcs.calls k2 _ _ (rd_L4 y111 x24_2) a1 t115 _ ?side1 ?side2 A16.out).mono ?_); (case side1 => repeat (first | exact (by repeat (first | (with_reducible exact HR114_0.out) | (with_reducible refine Kd.C_alloc ?_ _) | (with_reducible refine Kd.C_drewN ?_ _) | (with_reducible refine Kd.C_drew ?_) | exact HR114_0.out)) | (with_reducible refine Kd.C_alloc ?_ _) | (with_reducible refine Kd.C_drewN ?_ _) | (with_reducible refine Kd.C_drew ?_))); (case side2 => exact HC114_0.out); rintro e w18 ⟨rfl, hb⟩; refine ⟨_, rfl, ?_⟩; have n0_ := Aside0.mk (Kd.N_below (by (with_reducible repeat (first | apply Kd.N_alloc | apply Kd.N_drewN | apply Kd.N_drew)); exact HO_22.out) hb); have n1_ := Aside0.mk (Kd.V_below (by (with_reducible repeat (first | apply Kd.V_alloc | apply Kd.V_drewN | apply Kd.V_drew)); exact HO_111001.out) hb); have n2_ := Aside0.mk (Kd.V_below (by (with_reducible repeat (first | apply Kd.V_alloc | apply Kd.V_drewN | apply Kd.V_drew)); exact HO_111002.out) hb); have n3_ := Aside0.mk (Kd.V_below (by (with_reducible repeat (first | apply Kd.V_alloc | apply Kd.V_drewN | apply Kd.V_drew)); exact HO_111003.out) hb); have n4_ := Aside0.mk (Kd.V_below (by (with_reducible repeat (first | apply Kd.V_alloc | apply Kd.V_drewN | apply Kd.V_drew)); exact HL114_0.out) hb); have n5_ := Aside0.mk (blk_below (by (with_reducible repeat (first | refine blk_drewN ?_ _ | refine blk_drew ?_ | refine blk_alloc ?_ _)); exact BK110.out) hb); have n6_ := Aside0.mk (Kd.C_below (by repeat (first | (with_reducible exact HR114_0.out) | (with_reducible refine Kd.C_alloc ?_ _) | (with_reducible refine Kd.C_drewN ?_ _) | (with_reducible refine Kd.C_drew ?_) | exact HR114_0.out)) hb); have n7_ := Aside0.mk (below_step (by repeat (first | (with_reducible first | exact HB.out | apply below_alloc | apply pw_below_drewN | apply below_drew1 | refine below_set ?_ GE110.out) | exact HB.out)) hb); clear HO_22; clear HO_111001; clear HO_111002; clear HO_111003; clear HL114_0; clear BK110; clear HR114_0; clear HB; have HO_22 := n0_; have HO_111001 := n1_; have HO_111002 := n2_; have HO_111003 := n3_; have HL114_0 := n4_; have BK110 := n5_; have HR114_0 := n6_; have HB := n7_; clear n0_ n1_ n2_ n3_ n4_ n5_ n6_ n7_; (try clear hb); (try clear hb2); (try clear hk); (try clear hi)))
  go_roundg k2
  case measure => have := HJ2.out; have := HK2.out; omega
  case rel => exact ⟨(wrap64 (x24_2 + 1)), prs, H', ⟨by have := HJ2.out; have := HK2.out; omega⟩, ⟨by (with_reducible repeat (first | apply Kd.N_alloc | apply Kd.N_drewN | apply Kd.N_drew)); exact HO_22.out⟩, ⟨by (with_reducible repeat (first | apply Kd.V_alloc | apply Kd.V_drewN | apply Kd.V_drew)); exact HO_111001.out⟩, ⟨by (with_reducible repeat (first | apply Kd.V_alloc | apply Kd.V_drewN | apply Kd.V_drew)); exact HO_111002.out⟩, ⟨by (with_reducible repeat (first | apply Kd.V_alloc | apply Kd.V_drewN | apply Kd.V_drew)); exact HO_111003.out⟩, ⟨by (with_reducible repeat (first | refine blk_drewN ?_ _ | refine blk_drew ?_ | refine blk_alloc ?_ _)); exact BK110.out⟩, ⟨by repeat (first | (with_reducible first | exact HB.out | apply below_alloc | apply pw_below_drewN | apply below_drew1 | refine below_set ?_ GE110.out) | exact HB.out)⟩⟩

/-! ### net_weight: function 55 -/
def net_weight.l0 : Nat → Int → List (S64) → Int → Int → Option (Int)
  | 0, _, _, _, _ => none
  | k + 1, x1, x7, x8, x9 => if x9 < x8 then (if 0 ≤ x9 then (if x9 < (x7.length : Int) then (if ((rd_T64 x7 x9).f0) = x1 then (some ((rd_T64 x7 x9).f1)) else (net_weight.l0 k x1 x7 x8 (wrap64 (x9 + 1)))) else (none)) else (none)) else (some 0)
def net_weight.f (k : Nat) (l0 : List (S64)) (a1 : Int) : Option (Int) := net_weight.l0 k a1 l0 (l0.length : Int) 0
theorem net_weight.mono_l : ∀ k, (∀ y0 y1 y2 y3, LeO (net_weight.l0 k y0 y1 y2 y3) (net_weight.l0 (k + 1) y0 y1 y2 y3))
  | 0 => fun _ _ _ _ r h => by simp [net_weight.l0] at h
  | k + 1 => by
    have ih0 := net_weight.mono_l k
    · intro y0 y1 y2 y3
      unfold net_weight.l0
      repeat' first | (with_reducible first | exact ih0 _ _ _ _ | exact LeO.refl _ | exact LeO.none _ | refine LeO.ite ?_ ?_ | refine LeO.bind ?_ (fun _ => ?_)) | exact ih0 _ _ _ _ | exact LeO.none _ | refine LeO.ite ?_ ?_ | refine LeO.bind ?_ (fun _ => ?_)
theorem net_weight.mono : ∀ a0 a1 k, LeO (net_weight.f k a0 a1) (net_weight.f (k + 1) a0 a1) := by
  intro a0 a1 k
  have ih0 := net_weight.mono_l k
  unfold net_weight.f
  repeat' first | (with_reducible first | exact ih0 _ _ _ _ | exact LeO.refl _ | exact LeO.none _ | refine LeO.ite ?_ ?_ | refine LeO.bind ?_ (fun _ => ?_)) | exact ih0 _ _ _ _ | exact LeO.none _ | refine LeO.ite ?_ ?_ | refine LeO.bind ?_ (fun _ => ?_)
set_option maxHeartbeats 8000000 in
set_option maxRecDepth 100000 in
theorem net_weight.calls (k : Nat) (A0 : Option Addr) (c0 : Nat) (l0 : List (S64)) (a1 : Int) (r : Int) (w : World) (hr0 : Kd.C k64 w A0 l0.length l0) (hc0 : l0.length ≤ c0) (h : net_weight.f k l0 a1 = some r) :
    Calls Try.prog 55 #[.slice A0 l0.length c0, .int .i64 a1] w fun e w' => e = .returned (.int .i64 r) ∧ Below w.heap.size w w' := by
  have hu64 := Try.underlying64
  have HR0 := Aside0.mk hr0
  have HC0 := Aside0.mk hc0
  clear hr0 hc0
  have HB := Aside0.mk (Below.refl w.heap.size w)
  have H : (net_weight.l0 k a1 l0 (l0.length : Int) 0) = some r := h
  clear h
  have H' := Aside0.mk H
  clear H
  go_enter Try.func55, Try.ntmps55
  go_wp2
  go_loopg [9] k (fun kq v9 w' => ∃ (x9_1 : Int), v9 = .int .i64 x9_1 ∧ Aside0 (net_weight.l0 kq a1 l0 (l0.length : Int) x9_1 = some r) ∧ Aside0 (kq ≤ k) ∧ Aside0 (Below w.heap.size w w'))
  case atStart => exact ⟨(0), prs, H', ⟨Nat.le_refl _⟩, ⟨by repeat (first | (with_reducible first | exact HB.out | apply below_alloc | apply pw_below_drewN | apply below_drew1) | exact HB.out)⟩⟩
  clear H'
  obtain ⟨x9_1, rfl, HA, HK1, HB⟩ := hrel
  obtain _ | k1 := gk
  · exact absurd HA.out (by simp [net_weight.l0])
  have H := HA.out
  clear HA
  simp only [net_weight.l0] at H
  by_cases c3 : x9_1 < (l0.length : Int)
  rotate_left
  · rw [if_neg c3] at H
    have c3b0 : decide (x9_1 < (l0.length : Int)) = false := decide_eq_false c3
    clear c3
    obtain rfl := Option.some.inj H
    go_wp2
    go_ret
    exact ⟨by first | rfl | (simp [errW_none, errW_some] <;> rfl) | (simp [*, errW_none, errW_some] <;> rfl), by repeat (first | (with_reducible first | exact HB.out | apply below_alloc | apply pw_below_drewN | apply below_drew1) | exact HB.out)⟩
  rw [if_pos c3] at H
  have c3b0 : decide (x9_1 < (l0.length : Int)) = true := decide_eq_true c3
  clear c3
  by_cases c4 : 0 ≤ x9_1
  rotate_left
  · rw [if_neg c4] at H
    exact absurd H (by simp)
  rw [if_pos c4] at H
  have c4b0 : decide (0 ≤ x9_1) = true := decide_eq_true c4
  clear c4
  by_cases c5 : x9_1 < (l0.length : Int)
  rotate_left
  · rw [if_neg c5] at H
    exact absurd H (by simp)
  rw [if_pos c5] at H
  have c5b0 : decide (x9_1 < (l0.length : Int)) = true := decide_eq_true c5
  clear c5
  by_cases c6 : ((rd_T64 l0 x9_1).f0) = a1
  · rw [if_pos c6] at H
    have c6b0 : (((rd_T64 l0 x9_1).f0) == a1) = true := beq_iff_eq.mpr c6
    have c6b1 : (((rd_T64 l0 x9_1).f0) != a1) = false := bne_eq_false_iff_eq.mpr c6
    clear c6
    obtain rfl := Option.some.inj H
    have p119 : 0 ≤ (x9_1 : Int) := dq
    have q119 : x9_1 < (l0.length : Int) := dq
    obtain ⟨ad119, e119, hx119_0, hx119_1⟩ := at_T64 HR0.out x9_1 p119 q119
    cases e119
    replace hx119_0 := (HB.out.cell (World.block_lt_of_cell? w _ hx119_0)).trans hx119_0
    replace hx119_1 := (HB.out.cell (World.block_lt_of_cell? w _ hx119_1)).trans hx119_1
    replace p119 := eq_true p119
    replace q119 := eq_true q119
    go_wp2_with (first | ((with_reducible refine gate_dst (N := 6) rfl ?_); refine box_event ?hg (N := 6) ?hd (cs := #[.int .i64 0, .int .i64 0]) (t := 64) ?hr ?_; (case hd => rfl); (case hg => rfl); (case hr => first | (go_simp; done) | (go_simp; rfl)); intro gb120 hg w7 hbox hb; have n0_ := Aside0.mk (below_step pbl hb); have n1_ := Aside0.mk (hbox); have n2_ := Aside0.mk ((by rw [hg]; exact (below_size pbl) : w.heap.size ≤ gb120)); have n3_ := n2_; clear HB; have HB := n0_; have BK120 := n1_; have GW120 := n2_; have GE120 := n3_; clear n0_ n1_ n2_ n3_; clear hb hbox hg; obtain ⟨hcz8_0, hcz8_1, hfz8_0, hfz8_1⟩ := cf2 BK120.out))
    go_ret
    exact ⟨by first | rfl | (simp [errW_none, errW_some] <;> rfl) | (simp [*, errW_none, errW_some] <;> rfl), by repeat (first | (with_reducible first | exact HB.out | apply below_alloc | apply pw_below_drewN | apply below_drew1 | refine below_set ?_ GE120.out) | exact HB.out)⟩
  rw [if_neg c6] at H
  have c6b0 : (((rd_T64 l0 x9_1).f0) == a1) = false := beq_eq_false_iff_ne.mpr c6
  have c6b1 : (((rd_T64 l0 x9_1).f0) != a1) = true := bne_iff_ne.mpr c6
  have H' := Aside0.mk H
  clear H
  have p119 : 0 ≤ (x9_1 : Int) := dq
  have q119 : x9_1 < (l0.length : Int) := dq
  obtain ⟨ad119, e119, hx119_0, hx119_1⟩ := at_T64 HR0.out x9_1 p119 q119
  cases e119
  replace hx119_0 := (HB.out.cell (World.block_lt_of_cell? w _ hx119_0)).trans hx119_0
  replace hx119_1 := (HB.out.cell (World.block_lt_of_cell? w _ hx119_1)).trans hx119_1
  replace p119 := eq_true p119
  replace q119 := eq_true q119
  go_wp2_with (first | ((with_reducible refine gate_dst (N := 6) rfl ?_); refine box_event ?hg (N := 6) ?hd (cs := #[.int .i64 0, .int .i64 0]) (t := 64) ?hr ?_; (case hd => rfl); (case hg => rfl); (case hr => first | (go_simp; done) | (go_simp; rfl)); intro gb120 hg w9 hbox hb; have n0_ := Aside0.mk (below_step pbl hb); have n1_ := Aside0.mk (hbox); have n2_ := Aside0.mk ((by rw [hg]; exact (below_size pbl) : w.heap.size ≤ gb120)); have n3_ := n2_; clear HB; have HB := n0_; have BK120 := n1_; have GW120 := n2_; have GE120 := n3_; clear n0_ n1_ n2_ n3_; clear hb hbox hg; obtain ⟨hcz10_0, hcz10_1, hfz10_0, hfz10_1⟩ := cf2 BK120.out))
  go_roundg k1
  case measure => have := HK1.out; omega
  case rel => exact ⟨(wrap64 (x9_1 + 1)), prs, H', ⟨by have := HK1.out; omega⟩, ⟨by repeat (first | (with_reducible first | exact HB.out | apply below_alloc | apply pw_below_drewN | apply below_drew1 | refine below_set ?_ GE120.out) | exact HB.out)⟩⟩

/-! ### net_targets: function 58 -/
def net_targets.l0 : Nat → List Int → List (S64) → Int → Int → Option (List Int)
  | 0, _, _, _, _ => none
  | k + 1, x3, x6, x7, x8 => if x8 < x7 then (if 0 ≤ x8 then (if x8 < (x6.length : Int) then (if x3.length < 17592186044416 then (net_targets.l0 k (x3 ++ [(rd_T64 x6 x8).f0]) x6 x7 (wrap64 (x8 + 1))) else (none)) else (none)) else (none)) else (some x3)
def net_targets.f (k : Nat) (l0 : List (S64)) : Option (List Int) := net_targets.l0 k ([] : List Int) l0 (l0.length : Int) 0
theorem net_targets.mono_l : ∀ k, (∀ y0 y1 y2 y3, LeO (net_targets.l0 k y0 y1 y2 y3) (net_targets.l0 (k + 1) y0 y1 y2 y3))
  | 0 => fun _ _ _ _ r h => by simp [net_targets.l0] at h
  | k + 1 => by
    have ih0 := net_targets.mono_l k
    · intro y0 y1 y2 y3
      unfold net_targets.l0
      repeat' first | (with_reducible first | exact ih0 _ _ _ _ | exact LeO.refl _ | exact LeO.none _ | refine LeO.ite ?_ ?_ | refine LeO.bind ?_ (fun _ => ?_)) | exact ih0 _ _ _ _ | exact LeO.none _ | refine LeO.ite ?_ ?_ | refine LeO.bind ?_ (fun _ => ?_)
theorem net_targets.mono : ∀ a0 k, LeO (net_targets.f k a0) (net_targets.f (k + 1) a0) := by
  intro a0 k
  have ih0 := net_targets.mono_l k
  unfold net_targets.f
  repeat' first | (with_reducible first | exact ih0 _ _ _ _ | exact LeO.refl _ | exact LeO.none _ | refine LeO.ite ?_ ?_ | refine LeO.bind ?_ (fun _ => ?_)) | exact ih0 _ _ _ _ | exact LeO.none _ | refine LeO.ite ?_ ?_ | refine LeO.bind ?_ (fun _ => ?_)
set_option maxHeartbeats 8000000 in
set_option maxRecDepth 100000 in
theorem net_targets.calls (k : Nat) (A0 : Option Addr) (c0 : Nat) (l0 : List (S64)) (r : List Int) (w : World) (hr0 : Kd.C k64 w A0 l0.length l0) (hc0 : l0.length ≤ c0) (h : net_targets.f k l0 = some r) :
    Calls Try.prog 58 #[.slice A0 l0.length c0] w fun e w' => ∃ v0_ : Value, e = .returned (v0_) ∧ Kd.R (Kd.int .i64) 3 w' w.heap.size (fun _ => True) v0_ r ∧ Below w.heap.size w w' := by
  have hu64 := Try.underlying64
  have HR0 := Aside0.mk hr0
  have HC0 := Aside0.mk hc0
  clear hr0 hc0
  have HB := Aside0.mk (Below.refl w.heap.size w)
  have H : (net_targets.l0 k ([] : List Int) l0 (l0.length : Int) 0) = some r := h
  clear h
  have H' := Aside0.mk H
  clear H
  go_enter Try.func58, Try.ntmps58
  go_wp2
  go_loopg [3, 8] k (fun kq v3 v8 w' => ∃ (x3_1 : List Int) (x8_1 : Int), v8 = .int .i64 x8_1 ∧ Aside0 (net_targets.l0 kq x3_1 l0 (l0.length : Int) x8_1 = some r) ∧ Aside0 (kq ≤ k) ∧ Aside0 (Kd.R (Kd.int .i64) 3 w' w.heap.size (fun _ => True) v3 x3_1) ∧ Aside0 (Below w.heap.size w w'))
  case atStart => exact ⟨(([] : List Int)), (0), prs, H', ⟨Nat.le_refl _⟩, ⟨by first | exact Kd.R_nil _ _ _ _ _ | exact Kd.N_nil _ _ _ _ _ | exact Kd.V_nil _ _ _ _ _ | exact Kd.Q_nil _ _ _ _ _ | exact Kd.S_nil _ _ _ _ _⟩, ⟨by repeat (first | (with_reducible first | exact HB.out | apply below_alloc | apply pw_below_drewN | apply below_drew1) | exact HB.out)⟩⟩
  clear H'
  obtain ⟨x3_1, x8_1, rfl, HA, HK1, HO_3, HB⟩ := hrel
  obtain _ | k1 := gk
  · exact absurd HA.out (by simp [net_targets.l0])
  have H := HA.out
  clear HA
  simp only [net_targets.l0] at H
  by_cases c2 : x8_1 < (l0.length : Int)
  rotate_left
  · rw [if_neg c2] at H
    have c2b0 : decide (x8_1 < (l0.length : Int)) = false := decide_eq_false c2
    clear c2
    obtain rfl := Option.some.inj H
    go_wp2
    go_ret
    exact ⟨_, per, by (with_reducible repeat (first | apply Kd.R_alloc | apply Kd.R_drewN | apply Kd.R_drew)); exact HO_3.out, by repeat (first | (with_reducible first | exact HB.out | apply below_alloc | apply pw_below_drewN | apply below_drew1) | exact HB.out)⟩
  rw [if_pos c2] at H
  have c2b0 : decide (x8_1 < (l0.length : Int)) = true := decide_eq_true c2
  clear c2
  by_cases c3 : 0 ≤ x8_1
  rotate_left
  · rw [if_neg c3] at H
    exact absurd H (by simp)
  rw [if_pos c3] at H
  have c3b0 : decide (0 ≤ x8_1) = true := decide_eq_true c3
  clear c3
  by_cases c4 : x8_1 < (l0.length : Int)
  rotate_left
  · rw [if_neg c4] at H
    exact absurd H (by simp)
  rw [if_pos c4] at H
  have c4b0 : decide (x8_1 < (l0.length : Int)) = true := decide_eq_true c4
  clear c4
  by_cases c5 : x3_1.length < 17592186044416
  rotate_left
  · rw [if_neg c5] at H
    exact absurd H (by simp)
  rw [if_pos c5] at H
  have LMc5 := Aside0.mk c5
  clear c5
  obtain ⟨y166, hy166⟩ : ∃ y_ : List Int, y_ = (x3_1 ++ [(rd_T64 l0 x8_1).f0]) := ⟨_, rfl⟩
  replace H : (net_targets.l0 k1 y166 l0 (l0.length : Int) (wrap64 (x8_1 + 1))) = some r := by first | (rw [hy166]; with_reducible exact H) | (have H2_ := (Option.bind_some _ _).symm.trans H; rw [hy166]; with_reducible exact H2_) | (have H2_ := (Option.bind_some _ _).symm.trans H; with_reducible exact H2_) | with_reducible exact H | (rw [hy166]; exact H) | exact H
  have Ny166 := Aside0.mk hy166
  clear hy166
  have H' := Aside0.mk H
  clear H
  have p164 : 0 ≤ (x8_1 : Int) := dq
  have q164 : x8_1 < (l0.length : Int) := dq
  obtain ⟨ad164, e164, hx164_0, hx164_1⟩ := at_T64 HR0.out x8_1 p164 q164
  cases e164
  replace hx164_0 := (HB.out.cell (World.block_lt_of_cell? w _ hx164_0)).trans hx164_0
  replace hx164_1 := (HB.out.cell (World.block_lt_of_cell? w _ hx164_1)).trans hx164_1
  replace p164 := eq_true p164
  replace q164 := eq_true q164
  go_wp2_with (first | ((with_reducible refine gate_dst (N := 5) rfl ?_); refine box_event ?hg (N := 5) ?hd (cs := #[.int .i64 0, .int .i64 0]) (t := 64) ?hr ?_; (case hd => rfl); (case hg => rfl); (case hr => first | (go_simp; done) | (go_simp; rfl)); intro gb165 hg w6 hbox hb; have n0_ := Aside0.mk (Kd.R_below (by (with_reducible repeat (first | apply Kd.R_alloc | apply Kd.R_drewN | apply Kd.R_drew)); exact HO_3.out) hb); have n1_ := Aside0.mk (below_step pbl hb); have n2_ := Aside0.mk (hbox); have n3_ := Aside0.mk ((by rw [hg]; exact (below_size pbl) : w.heap.size ≤ gb165)); have n4_ := n3_; clear HO_3; clear HB; have HO_3 := n0_; have HB := n1_; have BK165 := n2_; have GW165 := n3_; have GE165 := n4_; clear n0_ n1_ n2_ n3_ n4_; clear hb hbox hg; obtain ⟨hcz7_0, hcz7_1, hfz7_0, hfz7_1⟩ := cf2 BK165.out) | ((with_reducible refine gate_builtin (b := .append) (xs := #[.tmp 12, .tmp 15]) rfl ?_); at_builtin; refine Kd.R_append (Kd.int .i64) (w0 := w) w.heap.size rfl (.tmp 12) (.tmp 15) 37 3 (.int .i64 0) 8 rfl Try.underlying37 info3 rfl (by decide) (by omega) u3 x3_1 ((rd_T64 l0 x8_1).f0) [.int .i64 ((rd_T64 l0 x8_1).f0)] (fun _ => True) (fun _ => False) rfl (by first | (go_simp; done) | (go_simp; rfl)) ?aP (fun _ hk => hk.elim) ?aF ?aO ?aB ?aS ?aL ?_; (case aP => exact rfl); (case aB => exact (by repeat (first | (with_reducible first | exact HB.out | apply below_alloc | apply pw_below_drewN | apply below_drew1 | refine below_set ?_ GE165.out) | exact HB.out))); (case aF => exact (fun _ _ => trivial)); (case aO => exact (by (with_reducible repeat (first | apply Kd.R_alloc | apply Kd.R_drewN | apply Kd.R_drew)); exact Kd.R_mono (Kd.R_far (p := ⟨gb165, 1, none⟩) (Kd.R_far (p := ⟨gb165, 0, none⟩) (Kd.R_types HO_3.out BK165.out (by decide)) (fun _ hk => hk.2) (.int .i64 ((rd_T64 l0 x8_1).f0))) (fun _ hk => hk.2) (.int .i64 ((rd_T64 l0 x8_1).f1))) (fun _ hk => trivial))); (case aS => exact (below_size (by repeat (first | (with_reducible first | exact HB.out | apply below_alloc | apply pw_below_drewN | apply below_drew1 | refine below_set ?_ GE165.out) | exact HB.out)))); (case aL => have := LMc5.out; omega); intro v167 w8 ho hb hg hat; rw [← Ny166.out] at ho; have n0_ := Aside0.mk (blk_grown (g := gb165) (o := .cells #[.int .i64 ((rd_T64 l0 x8_1).f0), .int .i64 ((rd_T64 l0 x8_1).f1)] 64 (0, 0)) (by (with_reducible repeat (first | refine blk_drewN ?_ _ | refine blk_drew ?_ | refine blk_alloc ?_ _)); refine blk_put (cs := #[.int .i64 ((rd_T64 l0 x8_1).f0), .int .i64 0]) ?_ 1 _ rfl; (with_reducible repeat (first | refine blk_drewN ?_ _ | refine blk_drew ?_ | refine blk_alloc ?_ _)); refine blk_put (cs := #[.int .i64 0, .int .i64 0]) ?_ 0 _ rfl; (with_reducible repeat (first | refine blk_drewN ?_ _ | refine blk_drew ?_ | refine blk_alloc ?_ _)); exact BK165.out) hg (Kd.R_ne HO_3.out BK165.out (by decide))); have n1_ := Aside0.mk (hb); have n2_ := Aside0.mk (ho); clear BK165; clear HB; clear HO_3; have BK165 := n0_; have HB := n1_; have HO168 := n2_; clear n0_ n1_ n2_; clear ho hb hg hat))
  go_roundg k1
  case measure => have := HK1.out; omega
  case rel => exact ⟨(y166), (wrap64 (x8_1 + 1)), prs, H', ⟨by have := HK1.out; omega⟩, ⟨by (with_reducible repeat (first | apply Kd.R_alloc | apply Kd.R_drewN | apply Kd.R_drew)); exact HO168.out⟩, ⟨by repeat (first | (with_reducible first | exact HB.out | apply below_alloc | apply pw_below_drewN | apply below_drew1 | refine below_set ?_ GE165.out) | exact HB.out)⟩⟩

/-! ### net_sameArcs: function 64 -/
def net_sameArcs.l0 : Nat → List (S64) → List (S64) → Int → Int → Option (Bool)
  | 0, _, _, _, _ => none
  | k + 1, x1, x12, x13, x14 => if x14 < x13 then (if 0 ≤ x14 then (if x14 < (x12.length : Int) then (if x14 < (x1.length : Int) then (if (!(((rd_T64 x12 x14).f0) == ((rd_T64 x1 x14).f0)) || (!(((rd_T64 x12 x14).f1) == ((rd_T64 x1 x14).f1)))) = true then (some false) else (net_sameArcs.l0 k x1 x12 x13 (wrap64 (x14 + 1)))) else (none)) else (none)) else (none)) else (some true)
def net_sameArcs.f (k : Nat) (l0 : List (S64)) (l1 : List (S64)) : Option (Bool) := if (l0.length : Int) = (l1.length : Int) then (net_sameArcs.l0 k l1 l0 (l0.length : Int) 0) else (some false)
theorem net_sameArcs.mono_l : ∀ k, (∀ y0 y1 y2 y3, LeO (net_sameArcs.l0 k y0 y1 y2 y3) (net_sameArcs.l0 (k + 1) y0 y1 y2 y3))
  | 0 => fun _ _ _ _ r h => by simp [net_sameArcs.l0] at h
  | k + 1 => by
    have ih0 := net_sameArcs.mono_l k
    · intro y0 y1 y2 y3
      unfold net_sameArcs.l0
      repeat' first | (with_reducible first | exact ih0 _ _ _ _ | exact LeO.refl _ | exact LeO.none _ | refine LeO.ite ?_ ?_ | refine LeO.bind ?_ (fun _ => ?_)) | exact ih0 _ _ _ _ | exact LeO.none _ | refine LeO.ite ?_ ?_ | refine LeO.bind ?_ (fun _ => ?_)
theorem net_sameArcs.mono : ∀ a0 a1 k, LeO (net_sameArcs.f k a0 a1) (net_sameArcs.f (k + 1) a0 a1) := by
  intro a0 a1 k
  have ih0 := net_sameArcs.mono_l k
  unfold net_sameArcs.f
  repeat' first | (with_reducible first | exact ih0 _ _ _ _ | exact LeO.refl _ | exact LeO.none _ | refine LeO.ite ?_ ?_ | refine LeO.bind ?_ (fun _ => ?_)) | exact ih0 _ _ _ _ | exact LeO.none _ | refine LeO.ite ?_ ?_ | refine LeO.bind ?_ (fun _ => ?_)
set_option maxHeartbeats 8000000 in
set_option maxRecDepth 100000 in
theorem net_sameArcs.calls (k : Nat) (A0 : Option Addr) (c0 : Nat) (l0 : List (S64)) (A1 : Option Addr) (c1 : Nat) (l1 : List (S64)) (r : Bool) (w : World) (hr0 : Kd.C k64 w A0 l0.length l0) (hc0 : l0.length ≤ c0) (hr1 : Kd.C k64 w A1 l1.length l1) (hc1 : l1.length ≤ c1) (h : net_sameArcs.f k l0 l1 = some r) :
    Calls Try.prog 64 #[.slice A0 l0.length c0, .slice A1 l1.length c1] w fun e w' => e = .returned (.bool r) ∧ Below w.heap.size w w' := by
  have hu64 := Try.underlying64
  have HR0 := Aside0.mk hr0
  have HC0 := Aside0.mk hc0
  clear hr0 hc0
  have HR1 := Aside0.mk hr1
  have HC1 := Aside0.mk hc1
  clear hr1 hc1
  have HB := Aside0.mk (Below.refl w.heap.size w)
  have H : (if (l0.length : Int) = (l1.length : Int) then (net_sameArcs.l0 k l1 l0 (l0.length : Int) 0) else (some false)) = some r := h
  clear h
  by_cases c3 : (l0.length : Int) = (l1.length : Int)
  rotate_left
  · rw [if_neg c3] at H
    have c3b0 : ((l0.length : Int) == (l1.length : Int)) = false := beq_eq_false_iff_ne.mpr c3
    have c3b1 : ((l0.length : Int) != (l1.length : Int)) = true := bne_iff_ne.mpr c3
    have c3b2 : (l0.length == l1.length) = false := by first | simpa using c3 | (simp at c3 ⊢; omega)
    obtain rfl := Option.some.inj H
    go_enter Try.func64, Try.ntmps64
    go_wp2
    repeat (go_quiet (fail); try go_wp2)
    go_ret
    exact ⟨by first | rfl | (simp [errW_none, errW_some] <;> rfl) | (simp [*, errW_none, errW_some] <;> rfl), by repeat (first | (with_reducible first | exact HB.out | apply below_alloc | apply pw_below_drewN | apply below_drew1) | exact HB.out)⟩
  rw [if_pos c3] at H
  have c3b0 : ((l0.length : Int) == (l1.length : Int)) = true := beq_iff_eq.mpr c3
  have c3b1 : ((l0.length : Int) != (l1.length : Int)) = false := bne_eq_false_iff_eq.mpr c3
  have c3b2 : (l0.length == l1.length) = true := by first | simpa using c3 | (simp at c3 ⊢; omega)
  clear c3
  have H' := Aside0.mk H
  clear H
  go_enter Try.func64, Try.ntmps64
  go_wp2
  repeat (go_quiet (fail); try go_wp2)
  go_loopg [14] k (fun kq v14 w' => ∃ (x14_1 : Int), v14 = .int .i64 x14_1 ∧ Aside0 (net_sameArcs.l0 kq l1 l0 (l0.length : Int) x14_1 = some r) ∧ Aside0 (kq ≤ k) ∧ Aside0 (Below w.heap.size w w'))
  case atStart => exact ⟨(0), prs, H', ⟨Nat.le_refl _⟩, ⟨by repeat (first | (with_reducible first | exact HB.out | apply below_alloc | apply pw_below_drewN | apply below_drew1) | exact HB.out)⟩⟩
  clear H'
  try clear c1
  try clear c3
  try clear c3b0
  try clear c3b1
  try clear c3b2
  obtain ⟨x14_1, rfl, HA, HK1, HB⟩ := hrel
  obtain _ | k1 := gk
  · exact absurd HA.out (by simp [net_sameArcs.l0])
  have H := HA.out
  clear HA
  simp only [net_sameArcs.l0] at H
  by_cases c4 : x14_1 < (l0.length : Int)
  rotate_left
  · rw [if_neg c4] at H
    have c4b0 : decide (x14_1 < (l0.length : Int)) = false := decide_eq_false c4
    clear c4
    obtain rfl := Option.some.inj H
    go_wp2
    repeat (go_quiet (fail); try go_wp2)
    go_ret
    exact ⟨by first | rfl | (simp [errW_none, errW_some] <;> rfl) | (simp [*, errW_none, errW_some] <;> rfl), by repeat (first | (with_reducible first | exact HB.out | apply below_alloc | apply pw_below_drewN | apply below_drew1) | exact HB.out)⟩
  rw [if_pos c4] at H
  have c4b0 : decide (x14_1 < (l0.length : Int)) = true := decide_eq_true c4
  clear c4
  by_cases c5 : 0 ≤ x14_1
  rotate_left
  · rw [if_neg c5] at H
    exact absurd H (by simp)
  rw [if_pos c5] at H
  have c5b0 : decide (0 ≤ x14_1) = true := decide_eq_true c5
  clear c5
  by_cases c6 : x14_1 < (l0.length : Int)
  rotate_left
  · rw [if_neg c6] at H
    exact absurd H (by simp)
  rw [if_pos c6] at H
  have c6b0 : decide (x14_1 < (l0.length : Int)) = true := decide_eq_true c6
  clear c6
  by_cases c7 : x14_1 < (l1.length : Int)
  rotate_left
  · rw [if_neg c7] at H
    exact absurd H (by simp)
  rw [if_pos c7] at H
  have c7b0 : decide (x14_1 < (l1.length : Int)) = true := decide_eq_true c7
  clear c7
  by_cases c8 : (!(((rd_T64 l0 x14_1).f0) == ((rd_T64 l1 x14_1).f0)) || (!(((rd_T64 l0 x14_1).f1) == ((rd_T64 l1 x14_1).f1)))) = true
  · rw [if_pos c8] at H
    have c8b0 : (!(((rd_T64 l0 x14_1).f0) == ((rd_T64 l1 x14_1).f0)) || (!(((rd_T64 l0 x14_1).f1) == ((rd_T64 l1 x14_1).f1)))) = true := c8
    clear c8
    obtain rfl := Option.some.inj H
    have p181 : 0 ≤ (x14_1 : Int) := dq
    have q181 : x14_1 < (l0.length : Int) := dq
    obtain ⟨ad181, e181, hx181_0, hx181_1⟩ := at_T64 HR0.out x14_1 p181 q181
    cases e181
    replace hx181_0 := (HB.out.cell (World.block_lt_of_cell? w _ hx181_0)).trans hx181_0
    replace hx181_1 := (HB.out.cell (World.block_lt_of_cell? w _ hx181_1)).trans hx181_1
    replace p181 := eq_true p181
    replace q181 := eq_true q181
    iterate 4 (try go_wp2_with (first | ((with_reducible refine gate_dst (N := 6) rfl ?_); refine box_event ?hg (N := 6) ?hd (cs := #[.int .i64 0, .int .i64 0]) (t := 64) ?hr ?_; (case hd => rfl); (case hg => rfl); (case hr => first | (go_simp; done) | (go_simp; rfl)); intro gb182 hg w9 hbox hb; have n0_ := Aside0.mk (below_step pbl hb); have n1_ := Aside0.mk (hbox); have n2_ := Aside0.mk ((by rw [hg]; exact (below_size pbl) : w.heap.size ≤ gb182)); have n3_ := n2_; clear HB; have HB := n0_; have BK182 := n1_; have GW182 := n2_; have GE182 := n3_; clear n0_ n1_ n2_ n3_; clear hb hbox hg; obtain ⟨hcz10_0, hcz10_1, hfz10_0, hfz10_1⟩ := cf2 BK182.out; have p183 : 0 ≤ (x14_1 : Int) := dq; have q183 : x14_1 < (l1.length : Int) := dq; obtain ⟨ad183, e183, hx183_0, hx183_1⟩ := at_T64 HR1.out x14_1 p183 q183; cases e183; have hn183_0 : ad183.block ≠ gb182 := Nat.ne_of_lt (Nat.lt_of_lt_of_le (by have := World.block_lt_of_cell? _ _ hx183_0; first | rwa [add_block] at this | exact this) GW182.out); have hn183_1 : ad183.block ≠ gb182 := Nat.ne_of_lt (Nat.lt_of_lt_of_le (by have := World.block_lt_of_cell? _ _ hx183_0; first | rwa [add_block] at this | exact this) GW182.out); replace hx183_0 := (HB.out.cell (World.block_lt_of_cell? w _ hx183_0)).trans hx183_0; replace hx183_1 := (HB.out.cell (World.block_lt_of_cell? w _ hx183_1)).trans hx183_1; replace hx183_0 := (cell_far (p := ⟨gb182, 0, none⟩) (by first | (rw [add_block]; exact hn183_0) | (show (Addr.add _ _).block ≠ _; rw [add_block]; exact hn183_0) | exact hn183_0) (.int .i64 ((rd_T64 l0 x14_1).f0))).trans hx183_0; replace hx183_1 := (cell_far (p := ⟨gb182, 0, none⟩) (by first | (rw [add_block]; exact hn183_0) | (show (Addr.add _ _).block ≠ _; rw [add_block]; exact hn183_0) | exact hn183_0) (.int .i64 ((rd_T64 l0 x14_1).f0))).trans hx183_1; replace hx183_0 := (cell_far (p := ⟨gb182, 1, none⟩) (by first | (rw [add_block]; exact hn183_1) | (show (Addr.add _ _).block ≠ _; rw [add_block]; exact hn183_1) | exact hn183_1) (.int .i64 ((rd_T64 l0 x14_1).f1))).trans hx183_0; replace hx183_1 := (cell_far (p := ⟨gb182, 1, none⟩) (by first | (rw [add_block]; exact hn183_1) | (show (Addr.add _ _).block ≠ _; rw [add_block]; exact hn183_1) | exact hn183_1) (.int .i64 ((rd_T64 l0 x14_1).f1))).trans hx183_1; (try have hy183_0 := fun (n_ : Nat) => (show ((((w9.drewN n_).setCell ⟨gb182, 0, none⟩ (.int .i64 ((rd_T64 l0 x14_1).f0))).setCell ⟨gb182, 1, none⟩ (.int .i64 ((rd_T64 l0 x14_1).f1)))).cell? _ = some _ from hx183_0)); (try have hy183_1 := fun (n_ : Nat) => (show ((((w9.drewN n_).setCell ⟨gb182, 0, none⟩ (.int .i64 ((rd_T64 l0 x14_1).f0))).setCell ⟨gb182, 1, none⟩ (.int .i64 ((rd_T64 l0 x14_1).f1)))).cell? _ = some _ from hx183_1)); clear hn183_0; clear hn183_1; replace p183 := eq_true p183; replace q183 := eq_true q183)); try go_quiet (fail))
    go_ret
    exact ⟨by first | rfl | (simp [errW_none, errW_some] <;> rfl) | (simp [*, errW_none, errW_some] <;> rfl), by repeat (first | (with_reducible first | exact HB.out | apply below_alloc | apply pw_below_drewN | apply below_drew1 | refine below_set ?_ GE182.out) | exact HB.out)⟩
  rw [if_neg c8] at H
  have c8b0 : (!(((rd_T64 l0 x14_1).f0) == ((rd_T64 l1 x14_1).f0)) || (!(((rd_T64 l0 x14_1).f1) == ((rd_T64 l1 x14_1).f1)))) = false := by simpa using c8
  clear c8
  have H' := Aside0.mk H
  clear H
  have p181 : 0 ≤ (x14_1 : Int) := dq
  have q181 : x14_1 < (l0.length : Int) := dq
  obtain ⟨ad181, e181, hx181_0, hx181_1⟩ := at_T64 HR0.out x14_1 p181 q181
  cases e181
  replace hx181_0 := (HB.out.cell (World.block_lt_of_cell? w _ hx181_0)).trans hx181_0
  replace hx181_1 := (HB.out.cell (World.block_lt_of_cell? w _ hx181_1)).trans hx181_1
  replace p181 := eq_true p181
  replace q181 := eq_true q181
  iterate 4 (try go_wp2_with (first | ((with_reducible refine gate_dst (N := 6) rfl ?_); refine box_event ?hg (N := 6) ?hd (cs := #[.int .i64 0, .int .i64 0]) (t := 64) ?hr ?_; (case hd => rfl); (case hg => rfl); (case hr => first | (go_simp; done) | (go_simp; rfl)); intro gb182 hg w11 hbox hb; have n0_ := Aside0.mk (below_step pbl hb); have n1_ := Aside0.mk (hbox); have n2_ := Aside0.mk ((by rw [hg]; exact (below_size pbl) : w.heap.size ≤ gb182)); have n3_ := n2_; clear HB; have HB := n0_; have BK182 := n1_; have GW182 := n2_; have GE182 := n3_; clear n0_ n1_ n2_ n3_; clear hb hbox hg; obtain ⟨hcz12_0, hcz12_1, hfz12_0, hfz12_1⟩ := cf2 BK182.out; have p183 : 0 ≤ (x14_1 : Int) := dq; have q183 : x14_1 < (l1.length : Int) := dq; obtain ⟨ad183, e183, hx183_0, hx183_1⟩ := at_T64 HR1.out x14_1 p183 q183; cases e183; have hn183_0 : ad183.block ≠ gb182 := Nat.ne_of_lt (Nat.lt_of_lt_of_le (by have := World.block_lt_of_cell? _ _ hx183_0; first | rwa [add_block] at this | exact this) GW182.out); have hn183_1 : ad183.block ≠ gb182 := Nat.ne_of_lt (Nat.lt_of_lt_of_le (by have := World.block_lt_of_cell? _ _ hx183_0; first | rwa [add_block] at this | exact this) GW182.out); replace hx183_0 := (HB.out.cell (World.block_lt_of_cell? w _ hx183_0)).trans hx183_0; replace hx183_1 := (HB.out.cell (World.block_lt_of_cell? w _ hx183_1)).trans hx183_1; replace hx183_0 := (cell_far (p := ⟨gb182, 0, none⟩) (by first | (rw [add_block]; exact hn183_0) | (show (Addr.add _ _).block ≠ _; rw [add_block]; exact hn183_0) | exact hn183_0) (.int .i64 ((rd_T64 l0 x14_1).f0))).trans hx183_0; replace hx183_1 := (cell_far (p := ⟨gb182, 0, none⟩) (by first | (rw [add_block]; exact hn183_0) | (show (Addr.add _ _).block ≠ _; rw [add_block]; exact hn183_0) | exact hn183_0) (.int .i64 ((rd_T64 l0 x14_1).f0))).trans hx183_1; replace hx183_0 := (cell_far (p := ⟨gb182, 1, none⟩) (by first | (rw [add_block]; exact hn183_1) | (show (Addr.add _ _).block ≠ _; rw [add_block]; exact hn183_1) | exact hn183_1) (.int .i64 ((rd_T64 l0 x14_1).f1))).trans hx183_0; replace hx183_1 := (cell_far (p := ⟨gb182, 1, none⟩) (by first | (rw [add_block]; exact hn183_1) | (show (Addr.add _ _).block ≠ _; rw [add_block]; exact hn183_1) | exact hn183_1) (.int .i64 ((rd_T64 l0 x14_1).f1))).trans hx183_1; (try have hy183_0 := fun (n_ : Nat) => (show ((((w11.drewN n_).setCell ⟨gb182, 0, none⟩ (.int .i64 ((rd_T64 l0 x14_1).f0))).setCell ⟨gb182, 1, none⟩ (.int .i64 ((rd_T64 l0 x14_1).f1)))).cell? _ = some _ from hx183_0)); (try have hy183_1 := fun (n_ : Nat) => (show ((((w11.drewN n_).setCell ⟨gb182, 0, none⟩ (.int .i64 ((rd_T64 l0 x14_1).f0))).setCell ⟨gb182, 1, none⟩ (.int .i64 ((rd_T64 l0 x14_1).f1)))).cell? _ = some _ from hx183_1)); clear hn183_0; clear hn183_1; replace p183 := eq_true p183; replace q183 := eq_true q183)); try go_quiet (fail))
  go_roundg k1
  case measure => have := HK1.out; omega
  case rel => exact ⟨(wrap64 (x14_1 + 1)), prs, H', ⟨by have := HK1.out; omega⟩, ⟨by repeat (first | (with_reducible first | exact HB.out | apply below_alloc | apply pw_below_drewN | apply below_drew1 | refine below_set ?_ GE182.out) | exact HB.out)⟩⟩

/-! ### petrinetlaw09_pair: function 47 -/
def petrinetlaw09_pair.f  : Option (ByteArray × (List (S50)) × (List (S53))) := some ((⟨#[110]⟩ : ByteArray), (([(⟨(⟨#[112]⟩ : ByteArray), 2, 0⟩ : S50), (⟨(⟨#[113]⟩ : ByteArray), 0, 0⟩ : S50)] : List (S50))), (([(⟨(⟨#[116]⟩ : ByteArray), (([(⟨0, 2⟩ : S64)] : List (S64))), (([(⟨1, 1⟩ : S64)] : List (S64))), ([] : List (S64)), 0⟩ : S53)] : List (S53))))
set_option maxHeartbeats 8000000 in
set_option maxRecDepth 100000 in
theorem petrinetlaw09_pair.calls  (r1 : ByteArray) (r2 : List (S50)) (r3 : List (S53)) (w : World) (h : petrinetlaw09_pair.f  = some (r1, r2, r3)) :
    Calls Try.prog 47 #[] w fun e w' => ∃ v1_ v2_ : Value, e = .returned (.agg #[.string r1, v1_, v2_]) ∧ Kd.R k50 50 w' w.heap.size (fun k_ => (w.heap.size ≤ k_)) v1_ r2 ∧ Kd.N k53 53 w' w.heap.size (fun k_ => (w.heap.size ≤ k_) ∧ some k_ ≠ (v1_ : Value).ownBlock) v2_ r3 ∧ Below w.heap.size w w' := by
  have hu25 := Try.underlying25
  have hu50 := Try.underlying50
  have hu64 := Try.underlying64
  have hu53 := Try.underlying53
  have HB := Aside0.mk (Below.refl w.heap.size w)
  have H : (some ((⟨#[110]⟩ : ByteArray), (([(⟨(⟨#[112]⟩ : ByteArray), 2, 0⟩ : S50), (⟨(⟨#[113]⟩ : ByteArray), 0, 0⟩ : S50)] : List (S50))), (([(⟨(⟨#[116]⟩ : ByteArray), (([(⟨0, 2⟩ : S64)] : List (S64))), (([(⟨1, 1⟩ : S64)] : List (S64))), ([] : List (S64)), 0⟩ : S53)] : List (S53))))) = some (r1, r2, r3) := h
  clear h
  obtain ⟨y185, hy185⟩ : ∃ y_ : List (S50), y_ = (([(⟨(⟨#[112]⟩ : ByteArray), 2, 0⟩ : S50), (⟨(⟨#[113]⟩ : ByteArray), 0, 0⟩ : S50)] : List (S50))) := ⟨_, rfl⟩
  replace H : (some ((⟨#[110]⟩ : ByteArray), y185, (([(⟨(⟨#[116]⟩ : ByteArray), (([(⟨0, 2⟩ : S64)] : List (S64))), (([(⟨1, 1⟩ : S64)] : List (S64))), ([] : List (S64)), 0⟩ : S53)] : List (S53))))) = some (r1, r2, r3) := by first | (rw [hy185]; with_reducible exact H) | (have H2_ := (Option.bind_some _ _).symm.trans H; rw [hy185]; with_reducible exact H2_) | (have H2_ := (Option.bind_some _ _).symm.trans H; with_reducible exact H2_) | with_reducible exact H | (rw [hy185]; exact H) | exact H
  have Ny185 := Aside0.mk hy185
  clear hy185
  obtain ⟨y188, hy188⟩ : ∃ y_ : List (S64), y_ = (([(⟨0, 2⟩ : S64)] : List (S64))) := ⟨_, rfl⟩
  replace H : (some ((⟨#[110]⟩ : ByteArray), y185, (([(⟨(⟨#[116]⟩ : ByteArray), y188, (([(⟨1, 1⟩ : S64)] : List (S64))), ([] : List (S64)), 0⟩ : S53)] : List (S53))))) = some (r1, r2, r3) := by first | (rw [hy188]; with_reducible exact H) | (have H2_ := (Option.bind_some _ _).symm.trans H; rw [hy188]; with_reducible exact H2_) | (have H2_ := (Option.bind_some _ _).symm.trans H; with_reducible exact H2_) | with_reducible exact H | (rw [hy188]; exact H) | exact H
  have Ny188 := Aside0.mk hy188
  clear hy188
  obtain ⟨y191, hy191⟩ : ∃ y_ : List (S64), y_ = (([(⟨1, 1⟩ : S64)] : List (S64))) := ⟨_, rfl⟩
  replace H : (some ((⟨#[110]⟩ : ByteArray), y185, (([(⟨(⟨#[116]⟩ : ByteArray), y188, y191, ([] : List (S64)), 0⟩ : S53)] : List (S53))))) = some (r1, r2, r3) := by first | (rw [hy191]; with_reducible exact H) | (have H2_ := (Option.bind_some _ _).symm.trans H; rw [hy191]; with_reducible exact H2_) | (have H2_ := (Option.bind_some _ _).symm.trans H; with_reducible exact H2_) | with_reducible exact H | (rw [hy191]; exact H) | exact H
  have Ny191 := Aside0.mk hy191
  clear hy191
  obtain ⟨y194, hy194⟩ : ∃ y_ : List (S53), y_ = (([(⟨(⟨#[116]⟩ : ByteArray), y188, y191, ([] : List (S64)), 0⟩ : S53)] : List (S53))) := ⟨_, rfl⟩
  replace H : (some ((⟨#[110]⟩ : ByteArray), y185, y194)) = some (r1, r2, r3) := by first | (rw [hy194]; with_reducible exact H) | (have H2_ := (Option.bind_some _ _).symm.trans H; rw [hy194]; with_reducible exact H2_) | (have H2_ := (Option.bind_some _ _).symm.trans H; with_reducible exact H2_) | with_reducible exact H | (rw [hy194]; exact H) | exact H
  have Ny194 := Aside0.mk hy194
  clear hy194
  simp only [Option.some.injEq, Prod.mk.injEq] at H
  obtain ⟨rfl, rfl, rfl⟩ := H
  go_enter Try.func47, Try.ntmps47
  go_wp2_with (first | ((with_reducible refine gate_dst (N := 0) rfl ?_); refine box_event ?hg (N := 0) ?hd (cs := #[.string (⟨#[]⟩ : ByteArray), .slice none 0 0, .slice none 0 0]) (t := 25) ?hr ?_; (case hd => rfl); (case hg => rfl); (case hr => first | (go_simp; done) | (go_simp; rfl)); intro gb184 hg w1 hbox hb; have n0_ := Aside0.mk (below_step pbl hb); have n1_ := Aside0.mk (hbox); have n2_ := Aside0.mk ((by rw [hg]; exact (below_size pbl) : w.heap.size ≤ gb184)); have n3_ := n2_; clear HB; have HB := n0_; have BK184 := n1_; have GW184 := n2_; have GE184 := n3_; clear n0_ n1_ n2_ n3_; clear hb hbox hg) | ((with_reducible refine gate_dst (N := 3) rfl ?_); refine Kd.R_lit k50 _ 50 ?hg (N := 3) ?hd (xs := ([(⟨(⟨#[112]⟩ : ByteArray), 2, 0⟩ : S50), (⟨(⟨#[113]⟩ : ByteArray), 0, 0⟩ : S50)] : List (S50))) (inner := [.string (⟨#[112]⟩ : ByteArray), .int .i64 2, .int .i64 0, .string (⟨#[113]⟩ : ByteArray), .int .i64 0, .int .i64 0]) (ok := fun _ => True) (okp := fun _ => True) ?hr ?hp (fun _ hk => hk) trivial (Below.refl _ _) (Nat.le_refl _) (by simp) ?_; (case hd => rfl); (case hg => rfl); (case hr => first | (go_simp; done) | (go_simp; rfl)); (case hp => exact (Reps.c3 (show Kd.M k50 _ _ _ (⟨(⟨#[112]⟩ : ByteArray), 2, 0⟩ : S50) [.string (⟨#[112]⟩ : ByteArray), .int .i64 2, .int .i64 0] from (k50_mkM _ _ _ (⟨(⟨#[112]⟩ : ByteArray), 2, 0⟩ : S50) )) (Reps.c3 (show Kd.M k50 _ _ _ (⟨(⟨#[113]⟩ : ByteArray), 0, 0⟩ : S50) [.string (⟨#[113]⟩ : ByteArray), .int .i64 0, .int .i64 0] from (k50_mkM _ _ _ (⟨(⟨#[113]⟩ : ByteArray), 0, 0⟩ : S50) )) (Reps.none _ _)))); intro v186 w2 ho3 hb hg_ hnew_; clear hg_ hnew_; (first | rw [← Ny185.out] at ho3 | (simp only [Int.reduceToNat] at ho3; rw [← Ny185.out] at ho3)); have n0_ := Aside0.mk (Kd.R_lower (Kd.R_newM (M := fun k_ => (w.heap.size ≤ k_)) ho3 (below_size (by repeat (first | (with_reducible first | exact HB.out | apply below_alloc | apply pw_below_drewN | apply below_drew1 | refine below_set ?_ GE184.out) | exact HB.out))) (fun k_ h_ => h_)) (below_size (by repeat (first | (with_reducible first | exact HB.out | apply below_alloc | apply pw_below_drewN | apply below_drew1 | refine below_set ?_ GE184.out) | exact HB.out)))); have n1_ := Aside0.mk (blk_below (by (with_reducible repeat (first | refine blk_drewN ?_ _ | refine blk_drew ?_ | refine blk_alloc ?_ _)); exact BK184.out) hb); have n2_ := Aside0.mk (below_step (by repeat (first | (with_reducible first | exact HB.out | apply below_alloc | apply pw_below_drewN | apply below_drew1 | refine below_set ?_ GE184.out) | exact HB.out)) hb); clear BK184; clear HB; have HO187 := n0_; have BK184 := n1_; have HB := n2_; clear n0_ n1_ n2_; clear hb ho3) | ((with_reducible refine gate_dst (N := 5) rfl ?_); refine Kd.R_lit k64 _ 64 ?hg (N := 5) ?hd (xs := ([(⟨0, 2⟩ : S64)] : List (S64))) (inner := [.int .i64 0, .int .i64 2]) (ok := fun _ => True) (okp := fun _ => True) ?hr ?hp (fun _ hk => hk) trivial (Below.refl _ _) (Nat.le_refl _) (by simp) ?_; (case hd => rfl); (case hg => rfl); (case hr => first | (go_simp; done) | (go_simp; rfl)); (case hp => exact (Reps.c2 (show Kd.M k64 _ _ _ (⟨0, 2⟩ : S64) [.int .i64 0, .int .i64 2] from (k64_mkM _ _ _ (⟨0, 2⟩ : S64) )) (Reps.none _ _))); intro v189 w4 ho5 hb hg_ hnew_; clear hg_ hnew_; (first | rw [← Ny188.out] at ho5 | (simp only [Int.reduceToNat] at ho5; rw [← Ny188.out] at ho5)); have n0_ := Aside0.mk (Kd.R_below (by (with_reducible repeat (first | apply Kd.R_alloc | apply Kd.R_drewN | apply Kd.R_drew)); exact HO187.out) hb); have n1_ := Aside0.mk (Kd.R_lower (Kd.R_newM (M := fun k_ => (w.heap.size ≤ k_)) ho5 (below_size (by repeat (first | (with_reducible first | exact HB.out | apply below_alloc | apply pw_below_drewN | apply below_drew1 | refine below_set ?_ GE184.out) | exact HB.out))) (fun k_ h_ => h_)) (below_size (by repeat (first | (with_reducible first | exact HB.out | apply below_alloc | apply pw_below_drewN | apply below_drew1 | refine below_set ?_ GE184.out) | exact HB.out)))); have n2_ := Aside0.mk (blk_below (by (with_reducible repeat (first | refine blk_drewN ?_ _ | refine blk_drew ?_ | refine blk_alloc ?_ _)); exact BK184.out) hb); have n3_ := Aside0.mk (below_step (by repeat (first | (with_reducible first | exact HB.out | apply below_alloc | apply pw_below_drewN | apply below_drew1 | refine below_set ?_ GE184.out) | exact HB.out)) hb); clear HO187; clear BK184; clear HB; have HO187 := n0_; have HO190 := n1_; have BK184 := n2_; have HB := n3_; clear n0_ n1_ n2_ n3_; clear hb ho5) | ((with_reducible refine gate_dst (N := 7) rfl ?_); refine Kd.R_lit k64 _ 64 ?hg (N := 7) ?hd (xs := ([(⟨1, 1⟩ : S64)] : List (S64))) (inner := [.int .i64 1, .int .i64 1]) (ok := fun _ => True) (okp := fun _ => True) ?hr ?hp (fun _ hk => hk) trivial (Below.refl _ _) (Nat.le_refl _) (by simp) ?_; (case hd => rfl); (case hg => rfl); (case hr => first | (go_simp; done) | (go_simp; rfl)); (case hp => exact (Reps.c2 (show Kd.M k64 _ _ _ (⟨1, 1⟩ : S64) [.int .i64 1, .int .i64 1] from (k64_mkM _ _ _ (⟨1, 1⟩ : S64) )) (Reps.none _ _))); intro v192 w6 ho7 hb hg_ hnew_; clear hg_ hnew_; (first | rw [← Ny191.out] at ho7 | (simp only [Int.reduceToNat] at ho7; rw [← Ny191.out] at ho7)); have n0_ := Aside0.mk (Kd.R_below (by (with_reducible repeat (first | apply Kd.R_alloc | apply Kd.R_drewN | apply Kd.R_drew)); exact HO187.out) hb); have n1_ := Aside0.mk (Kd.R_elder' (by (with_reducible repeat (first | apply Kd.R_alloc | apply Kd.R_drewN | apply Kd.R_drew)); exact HO190.out) (Kd.R_base ho7) hb); have n2_ := Aside0.mk (Kd.R_lower (Kd.R_new' (Kd.R_newM (M := fun k_ => (w.heap.size ≤ k_)) ho7 (below_size (by repeat (first | (with_reducible first | exact HB.out | apply below_alloc | apply pw_below_drewN | apply below_drew1 | refine below_set ?_ GE184.out) | exact HB.out))) (fun k_ h_ => h_)) (Kd.R_lt (by (with_reducible repeat (first | apply Kd.R_alloc | apply Kd.R_drewN | apply Kd.R_drew)); exact HO190.out))) (below_size (by repeat (first | (with_reducible first | exact HB.out | apply below_alloc | apply pw_below_drewN | apply below_drew1 | refine below_set ?_ GE184.out) | exact HB.out)))); have n3_ := Aside0.mk (blk_below (by (with_reducible repeat (first | refine blk_drewN ?_ _ | refine blk_drew ?_ | refine blk_alloc ?_ _)); exact BK184.out) hb); have n4_ := Aside0.mk (below_step (by repeat (first | (with_reducible first | exact HB.out | apply below_alloc | apply pw_below_drewN | apply below_drew1 | refine below_set ?_ GE184.out) | exact HB.out)) hb); clear HO187; clear HO190; clear BK184; clear HB; have HO187 := n0_; have HO190 := n1_; have HO193 := n2_; have BK184 := n3_; have HB := n4_; clear n0_ n1_ n2_ n3_ n4_; clear hb ho7; obtain ⟨Ao8, co8, eo8⟩ := Kd.R_slice HO193.out; subst eo8; obtain ⟨Ao9, co9, eo9⟩ := Kd.R_slice HO190.out; subst eo9) | ((with_reducible refine gate_dst (N := 9) rfl ?_); refine Kd.N_lit k53 _ 53 ?hg (N' := 9) ?hd (xs := ([(⟨(⟨#[116]⟩ : ByteArray), y188, y191, ([] : List (S64)), 0⟩ : S53)] : List (S53))) (inner := [.string (⟨#[116]⟩ : ByteArray), .slice Ao9 y188.length co9, .slice Ao8 y191.length co8, .slice none 0 0, .int .i64 0]) (ok := (fun k_ => (w.heap.size ≤ k_) ∧ some k_ ≠ (v186 : Value).ownBlock ∧ k_ ≠ gb184)) (okp := (fun k_ => (w.heap.size ≤ k_) ∧ some k_ ≠ (v186 : Value).ownBlock ∧ k_ ≠ gb184)) ?hr ?hp (fun _ hk => hk) ((show ∀ k_, w6.heap.size ≤ k_ → (fun k_ => (w.heap.size ≤ k_) ∧ some k_ ≠ (v186 : Value).ownBlock ∧ k_ ≠ gb184) k_ from fun k_ hk => ⟨(Nat.le_trans (below_size (by repeat (first | (with_reducible first | exact HB.out | apply below_alloc | apply pw_below_drewN | apply below_drew1 | refine below_set ?_ GE184.out) | exact HB.out))) hk), Kd.fresh' (Kd.R_lt (by (with_reducible repeat (first | apply Kd.R_alloc | apply Kd.R_drewN | apply Kd.R_drew)); exact HO187.out)) k_ hk, Kd.freshB (g := gb184) (o := .cells #[.string (⟨#[]⟩ : ByteArray), .slice none 0 0, .slice none 0 0] 25 (0, 0)) (by (with_reducible repeat (first | refine blk_drewN ?_ _ | refine blk_drew ?_ | refine blk_alloc ?_ _)); exact BK184.out) k_ hk⟩) _ (Nat.le_refl _)) (Below.refl _ _) (Nat.le_refl _) (by simp) ?_; (case hd => rfl); (case hg => rfl); (case hr => first | (go_simp; done) | (go_simp; rfl)); (case hp => exact (Reps.c5 (show Kd.FK k53 _ _ (⟨(⟨#[116]⟩ : ByteArray), y188, y191, ([] : List (S64)), 0⟩ : S53) [.string (⟨#[116]⟩ : ByteArray), .slice Ao9 y188.length co9, .slice Ao8 y191.length co8, .slice none 0 0, .int .i64 0] from (k53_mkF _ _ (⟨(⟨#[116]⟩ : ByteArray), y188, y191, ([] : List (S64)), 0⟩ : S53) (Kd.R_reads' (Kd.R_mono (ok' := (fun k_ => (w.heap.size ≤ k_) ∧ some k_ ≠ (v186 : Value).ownBlock ∧ k_ ≠ gb184)) (Kd.R_types (Kd.R_apart' (HO190.out) (Kd.R_typed HO187.out) (by decide)) BK184.out (by decide)) (fun k_ hk => ⟨hk.1.1.1.1, ⟨hk.1.2, hk.2⟩⟩))).2.1 (Kd.R_F (Kd.R_mono (ok' := (fun k_ => (w.heap.size ≤ k_) ∧ some k_ ≠ (v186 : Value).ownBlock ∧ k_ ≠ gb184)) (Kd.R_types (Kd.R_apart' (HO190.out) (Kd.R_typed HO187.out) (by decide)) BK184.out (by decide)) (fun k_ hk => ⟨hk.1.1.1.1, ⟨hk.1.2, hk.2⟩⟩))) (Kd.R_reads' (Kd.R_mono (ok' := (fun k_ => (w.heap.size ≤ k_) ∧ some k_ ≠ (v186 : Value).ownBlock ∧ k_ ≠ gb184)) (Kd.R_types (Kd.R_apart' (HO193.out) (Kd.R_typed HO187.out) (by decide)) BK184.out (by decide)) (fun k_ hk => ⟨hk.1.1.1.1, ⟨hk.1.2, hk.2⟩⟩))).2.1 (Kd.R_F (Kd.R_mono (ok' := (fun k_ => (w.heap.size ≤ k_) ∧ some k_ ≠ (v186 : Value).ownBlock ∧ k_ ≠ gb184)) (Kd.R_types (Kd.R_apart' (HO193.out) (Kd.R_typed HO187.out) (by decide)) BK184.out (by decide)) (fun k_ hk => ⟨hk.1.1.1.1, ⟨hk.1.2, hk.2⟩⟩))) (Nat.le_refl _) (Kd.F_nil _ _ _))) (Reps.none _ _))); intro v195 w10 ho11 hb hg_ hnew_; clear hg_ hnew_; (first | rw [← Ny194.out] at ho11 | (simp only [Int.reduceToNat] at ho11; rw [← Ny194.out] at ho11)); have n0_ := Aside0.mk (Kd.R_below (by (with_reducible repeat (first | apply Kd.R_alloc | apply Kd.R_drewN | apply Kd.R_drew)); exact HO187.out) hb); have n1_ := Aside0.mk (Kd.N_lower ho11 (below_size (by repeat (first | (with_reducible first | exact HB.out | apply below_alloc | apply pw_below_drewN | apply below_drew1 | refine below_set ?_ GE184.out) | exact HB.out)))); have n2_ := Aside0.mk (blk_below (by (with_reducible repeat (first | refine blk_drewN ?_ _ | refine blk_drew ?_ | refine blk_alloc ?_ _)); exact BK184.out) hb); have n3_ := Aside0.mk (below_step (by repeat (first | (with_reducible first | exact HB.out | apply below_alloc | apply pw_below_drewN | apply below_drew1 | refine below_set ?_ GE184.out) | exact HB.out)) hb); clear HO187; clear BK184; clear HB; clear HO190; clear HO193; have HO187 := n0_; have HO196 := n1_; have BK184 := n2_; have HB := n3_; clear n0_ n1_ n2_ n3_; clear hb ho11; obtain ⟨Ao12, co12, eo12⟩ := Kd.N_slice HO196.out; subst eo12; obtain ⟨Ao13, co13, eo13⟩ := Kd.R_slice HO187.out; subst eo13; obtain ⟨hcz14_0, hcz14_1, hcz14_2, hfz14_0, hfz14_1, hfz14_2⟩ := cf3 BK184.out))
  refine bodyPost_ret (results_cell_row rfl _ _ gb184 25 #[.string (⟨#[110]⟩ : ByteArray), .slice Ao13 y185.length co13, .slice Ao12 y194.length co12] (0, 0) _ rfl (by (with_reducible repeat (first | refine blk_drewN ?_ _ | refine blk_drew ?_ | refine blk_alloc ?_ _)); refine blk_put (cs := #[.string (⟨#[110]⟩ : ByteArray), .slice Ao13 y185.length co13, .slice none 0 0]) ?_ 2 _ rfl; (with_reducible repeat (first | refine blk_drewN ?_ _ | refine blk_drew ?_ | refine blk_alloc ?_ _)); refine blk_put (cs := #[.string (⟨#[110]⟩ : ByteArray), .slice none 0 0, .slice none 0 0]) ?_ 1 _ rfl; (with_reducible repeat (first | refine blk_drewN ?_ _ | refine blk_drew ?_ | refine blk_alloc ?_ _)); refine blk_put (cs := #[.string (⟨#[]⟩ : ByteArray), .slice none 0 0, .slice none 0 0]) ?_ 0 _ rfl; (with_reducible repeat (first | refine blk_drewN ?_ _ | refine blk_drew ?_ | refine blk_alloc ?_ _)); exact BK184.out) Try.underlying25 rfl (by kernel_rfl)) rfl ?_
  exact ⟨_, _, per, by (with_reducible repeat (first | apply Kd.R_alloc | apply Kd.R_drewN | apply Kd.R_drew)); exact Kd.R_mono (Kd.R_far (p := ⟨gb184, 2, none⟩) (Kd.R_far (p := ⟨gb184, 1, none⟩) (Kd.R_far (p := ⟨gb184, 0, none⟩) (Kd.R_types HO187.out BK184.out (by decide)) (fun _ hk => hk.2) (.string (⟨#[110]⟩ : ByteArray))) (fun _ hk => hk.2) (.slice Ao13 y185.length co13)) (fun _ hk => hk.2) (.slice Ao12 y194.length co12)) (fun _ hk => hk.1.1), by (with_reducible repeat (first | apply Kd.N_alloc | apply Kd.N_drewN | apply Kd.N_drew)); exact Kd.N_mono (Kd.N_far (p := ⟨gb184, 2, none⟩) (Kd.N_far (p := ⟨gb184, 1, none⟩) (Kd.N_far (p := ⟨gb184, 0, none⟩) (Kd.N_mono HO196.out (fun k_ hk => (⟨hk, hk.2.2⟩ : _ ∧ k_ ≠ gb184))) (fun _ hk => hk.2) (.string (⟨#[110]⟩ : ByteArray))) (fun _ hk => hk.2) (.slice Ao13 y185.length co13)) (fun _ hk => hk.2) (.slice Ao12 y194.length co12)) (fun _ hk => ⟨hk.1.1, hk.1.2.1⟩), by repeat (first | (with_reducible first | exact HB.out | apply below_alloc | apply pw_below_drewN | apply below_drew1 | refine below_set ?_ GE184.out) | exact HB.out)⟩

end Go.Proofs.Ytboonibkibhmhaa.P
