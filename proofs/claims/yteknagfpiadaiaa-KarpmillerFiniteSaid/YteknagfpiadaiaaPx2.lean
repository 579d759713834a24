-- LAID BY OUR PROGRAM OVER THE PRINT (xprint.py, part.py): Lean checks it.
import Derived.Test.YteknagfpiadaiaaPx0
import Derived.Laws.RangeString
import Derived.BigRegion
import Derived.Laws.EntriesVeiled
import Derived.RegionTactic
namespace Go.Proofs.Yteknagfpiadaiaa.P
open Go.RowKit Go.Proofs.YteknagfpiadaiaaW.PrintWords Go.Proofs.YteknagfpiadaiaaW.PrintLast Go.Proofs.YteknagfpiadaiaaW.PrintMore
attribute [local go_sem] max2_int min2_int max_two min_two max_three min_three max_four min_four   -- for this text's walks alone
set_option linter.unusedVariables false
set_option linter.unusedSimpArgs false

/-! ### r04_Same: function 14 -/
def r04_Same.l0 : Nat → List Int → List Int → Int → Option (Bool)
 | 0, _, _, _ => none
 | k + 1, x0, x1, x5 => if x5 < (x0.length : Int) then (if 0 ≤ x5 then (if x5 < (x1.length : Int) then (if (rd x0 x5) = (rd x1 x5) then (r04_Same.l0 k x0 x1 (wrap64 (x5 + 1))) else (some false)) else (none)) else (none)) else (some true)
def r04_Same.f (k : Nat) (l0 : List Int) (l1 : List Int) : Option (Bool) := if (l0.length : Int) = (l1.length : Int) then (r04_Same.l0 k l0 l1 0) else (some false)
theorem r04_Same.mono_l : ∀ k, M3 r04_Same.l0 k
 | 0 => fun _ _ _ r h => by simp [r04_Same.l0] at h
 | k + 1 => by
  have aq := r04_Same.mono_l k
  ·intro y0 y1 y2
   unfold r04_Same.l0
   repeat' first | (with_reducible first | apply aq | apply lr | apply ln | apply li | refine lb ?_ fun _ => ?_)
theorem r04_Same.mono : ∀ a0 a1 k, LeO (r04_Same.f k a0 a1) (r04_Same.f (k + 1) a0 a1) := by
 intro a0 a1 k
 have aq := r04_Same.mono_l k
 unfold r04_Same.f
 repeat' first | (with_reducible first | apply aq | apply lr | apply ln | apply li | refine lb ?_ fun _ => ?_)
set_option maxHeartbeats 8000000 in
set_option maxRecDepth 100000 in
theorem r04_Same.calls (k : Nat) (A0 : Option Addr) (c0 : Nat) (l0 : List Int) (A1 : Option Addr) (c1 : Nat) (l1 : List Int) (r : Bool) (w : World) (aB : Kd.C (Kd.int .i64) w A0 l0.length l0) (hc0 : l0.length ≤ c0) (aC : Kd.C (Kd.int .i64) w A1 l1.length l1) (aA : l1.length ≤ c1) (h : r04_Same.f k l0 l1 = some r) :
  Calls Try.prog 14 #[.slice A0 l0.length c0, .slice A1 l1.length c1] w fun e w' => e = .returned (.bool r) ∧ Drawn0 w w' := by
 have ay := am aB
 have aF := am hc0
 clear aB hc0
 have az := am aC
 have aG := am aA
 clear aC aA
 have H := h
 unfold r04_Same.f at H
 clear h
 by_cases c3 : (l0.length : Int) = (l1.length : Int)
 rotate_left
 ·rw [if_neg c3] at H
  have ai : ((l0.length : Int) == (l1.length : Int)) = false := beq_eq_false_iff_ne.mpr c3
  have aj : ((l0.length : Int) != (l1.length : Int)) = true := bne_iff_ne.mpr c3
  have ak : (l0.length == l1.length) = false := by first | simpa using c3 | (simp at c3 ⊢; omega)
  obtain rfl := Option.some.inj H
  go_enter Try.func14, Try.ntmps14
  go_wp2
  repeat (go_quiet (fail); try go_wp2)
  go_ret
  exact ⟨prs, pdr⟩
 rw [if_pos c3] at H
 have ai : ((l0.length : Int) == (l1.length : Int)) = true := beq_iff_eq.mpr c3
 have aj : ((l0.length : Int) != (l1.length : Int)) = false := bne_eq_false_iff_eq.mpr c3
 have ak : (l0.length == l1.length) = true := by first | simpa using c3 | (simp at c3 ⊢; omega)
 clear c3
 have H' := am H
 clear H
 go_enter Try.func14, Try.ntmps14
 go_wp2
 repeat (go_quiet (fail); try go_wp2)
 go_loopg [5] k (fun kq v5 w' => ∃ (aa : Int), v5 = .int .i64 aa ∧ Aside0 (r04_Same.l0 kq l0 l1 aa = some r) ∧ Aside0 (kq ≤ k) ∧ Drawn0 w w')
 case atStart => exact ⟨(0), prs, H', ⟨Nat.le_refl _⟩, pdr⟩
 clear H'
 try clear c1 c3 ai aj ak
 obtain ⟨aa, rfl, HA, ax, ⟨m1, rfl⟩⟩ := hrel
 obtain _ | k1 := gk
 ·exact absurd HA.1 (by simp [r04_Same.l0])
 have H := HA.1
 clear HA
 simp only [r04_Same.l0] at H
 replace H := ifl H
 rcases H with ⟨al, H⟩ | ⟨al, H⟩
 rotate_left
 ·obtain rfl := Option.some.inj H
  go_wp2
  repeat (go_quiet (fail); try go_wp2)
  go_ret
  exact ⟨prs, pdr⟩
 replace H := ifp H
 obtain ⟨c5, H⟩ := H
 have aD := decide_eq_true c5
 clear c5
 replace H := ifp H
 obtain ⟨c6, H⟩ := H
 have aE := decide_eq_true c6
 clear c6
 replace H := ife H
 rcases H with ⟨ao, ap, H⟩ | ⟨ao, ap, H⟩
 rotate_left
 ·obtain rfl := Option.some.inj H
  obtain ⟨ar, av, ag, ae, ab⟩ := dint ay.1 aa
  cases ae
  obtain ⟨au, aw, ah, af, ac⟩ := dint az.1 aa
  cases af
  go_wp2
  repeat (go_quiet (fail); try go_wp2)
  go_ret
  exact ⟨prs, pdr⟩
 have H' := am H
 clear H
 obtain ⟨ar, av, ag, ae, ab⟩ := dint ay.1 aa
 cases ae
 obtain ⟨au, aw, ah, af, ac⟩ := dint az.1 aa
 cases af
 go_wp2
 repeat (go_quiet (fail); try go_wp2)
 go_roundg k1
 case measure => have := ax.1; omega
 case rel => exact ⟨(wrap64 (aa + 1)), prs, H', ⟨by have := ax.1; omega⟩, pdr⟩

/-! ### marking_Valid: function 76 -/
def marking_Valid.l0 : Nat → List Int → Int → Int → Option (Bool)
 | 0, _, _, _ => none
 | k + 1, x11, x12, x13 => if x13 < x12 then (if 0 ≤ x13 then (if x13 < (x11.length : Int) then (if (rd x11 x13) < 0 then (some false) else (if (rd x11 x13) > 1048576 then (some false) else (marking_Valid.l0 k x11 x12 (wrap64 (x13 + 1))))) else (none)) else (none)) else (some true)
def marking_Valid.f (k : Nat) (l0 : List Int) (a1 : Int) : Option (Bool) := if (l0.length : Int) = a1 then (marking_Valid.l0 k l0 (l0.length : Int) 0) else (some false)
theorem marking_Valid.mono_l : ∀ k, M3 marking_Valid.l0 k
 | 0 => fun _ _ _ r h => by simp [marking_Valid.l0] at h
 | k + 1 => by
  have ap := marking_Valid.mono_l k
  ·intro y0 y1 y2
   unfold marking_Valid.l0
   repeat' first | (with_reducible first | apply ap | apply lr | apply ln | apply li | refine lb ?_ fun _ => ?_)
theorem marking_Valid.mono : ∀ a0 a1 k, LeO (marking_Valid.f k a0 a1) (marking_Valid.f (k + 1) a0 a1) := by
 intro a0 a1 k
 have ap := marking_Valid.mono_l k
 unfold marking_Valid.f
 repeat' first | (with_reducible first | apply ap | apply lr | apply ln | apply li | refine lb ?_ fun _ => ?_)
set_option maxHeartbeats 8000000 in
set_option maxRecDepth 100000 in
theorem marking_Valid.calls (k : Nat) (A0 : Option Addr) (c0 : Nat) (l0 : List Int) (a1 : Int) (r : Bool) (w : World) (ar : Kd.C (Kd.int .i64) w A0 l0.length l0) (hc0 : l0.length ≤ c0) (h : marking_Valid.f k l0 a1 = some r) :
  Calls Try.prog 76 #[.slice A0 l0.length c0, .int .i64 a1] w fun e w' => e = .returned (.bool r) ∧ Drawn0 w w' := by
 have aj := am ar
 have ax := am hc0
 clear ar hc0
 have H := h
 unfold marking_Valid.f at H
 clear h
 replace H := ife H
 rcases H with ⟨af, ag, H⟩ | ⟨af, ag, H⟩
 rotate_left
 ·obtain rfl := Option.some.inj H
  go_enter Try.func76, Try.ntmps76
  go_wp2
  go_ret
  exact ⟨prs, pdr⟩
 have H' := am H
 clear H
 go_enter Try.func76, Try.ntmps76
 go_wp2
 go_loopg [13] k (fun kq aw w' => ∃ (aa : Int), aw = .int .i64 aa ∧ Aside0 (marking_Valid.l0 kq l0 (l0.length : Int) aa = some r) ∧ Aside0 (kq ≤ k) ∧ Drawn0 w w')
 case atStart => exact ⟨(0), prs, H', ⟨Nat.le_refl _⟩, pdr⟩
 clear H'
 try clear af ag
 obtain ⟨aa, rfl, HA, aq, ⟨m1, rfl⟩⟩ := hrel
 obtain _ | k1 := gk
 ·exact absurd HA.1 (by simp [marking_Valid.l0])
 have H := HA.1
 clear HA
 simp only [marking_Valid.l0] at H
 replace H := ifl H
 rcases H with ⟨ak, H⟩ | ⟨ak, H⟩
 rotate_left
 ·obtain rfl := Option.some.inj H
  go_wp2
  go_ret
  exact ⟨prs, pdr⟩
 replace H := ifp H
 obtain ⟨c5, H⟩ := H
 have au := decide_eq_true c5
 clear c5
 replace H := ifp H
 obtain ⟨c6, H⟩ := H
 have av := decide_eq_true c6
 clear c6
 replace H := ifl H
 rcases H with ⟨al, H⟩ | ⟨al, H⟩
 ·obtain rfl := Option.some.inj H
  obtain ⟨ah, ai, ae, ac, ab⟩ := dint aj.1 aa
  cases ac
  go_wp2
  go_ret
  exact ⟨prs, pdr⟩
 replace H := ifg H
 rcases H with ⟨ao, H⟩ | ⟨ao, H⟩
 ·obtain rfl := Option.some.inj H
  obtain ⟨ah, ai, ae, ac, ab⟩ := dint aj.1 aa
  cases ac
  go_wp2
  go_ret
  exact ⟨prs, pdr⟩
 have H' := am H
 clear H
 obtain ⟨ah, ai, ae, ac, ab⟩ := dint aj.1 aa
 cases ac
 go_wp2
 go_roundg k1
 case measure => have := aq.1; omega
 case rel => exact ⟨(wrap64 (aa + 1)), prs, H', ⟨by have := aq.1; omega⟩, pdr⟩

/-! ### net_checkPlace: function 64 -/
def placeE (x c : Int) : Int := if c < 0 ∨ c > 1048576 then 1 else if (x < 0 ∨ x > 1048576) ∨ (c ≠ 0 ∧ x > c) then 10 else 0
def net_checkPlace.f (ac : ByteArray) (aa : Int) (ab : Int) : Option Int := some (placeE aa ab)
theorem valid_one (x : Int) : marking_Valid.f 5 [x] 1 = some (decide (0 ≤ x) && decide (x ≤ 1048576)) := by
 have hr : rd [x] 0 = x := rfl
 have h1 : wrap64 (0 + 1) = 1 := by unfold wrap64; omega
 unfold marking_Valid.f
 rw [if_pos (by simp)]
 simp only [marking_Valid.l0, List.length_cons, List.length_nil, hr, h1]
 by_cases c1 : x < 0
 ·simp [c1]; omega
 ·by_cases c2 : x > 1048576
  ·simp [c1, c2]
  ·simp [c1, c2]; omega
theorem C_one {w : World} {b t : Nat} {x : Int} (h : w.heap[b]? = some (.cells #[.int .i64 x] t (0, 0))) : Kd.C (Kd.int .i64) w (some ⟨b, 0, none⟩) 1 [x] := by
 refine ⟨rfl, by decide, fun _ => ⟨_, rfl, fun j p hj => ⟨[.int .i64 x], rfl, ?_, fun i u hu => ?_⟩⟩⟩
 ·cases j with
  | zero => cases hj; exact rfl
  | succ j => cases hj
 ·cases j with
  | succ j => cases hj
  | zero =>
   cases i with
   | zero => cases hu; exact (blk_cell h 0).trans rfl
   | succ i => cases hu
set_option maxHeartbeats 2000000 in
set_option maxRecDepth 100000 in
theorem net_checkPlace.calls (ac : ByteArray) (aa : Int) (ab : Int) (r : Int) (w : World) (h : net_checkPlace.f ac aa ab = some r) :
  Calls Try.prog 64 #[.agg #[.string ac, .int .i64 aa, .int .i64 ab]] w fun e w' => e = .returned (.int .i64 r) ∧ Below w.heap.size w w' := by
 have hr : placeE aa ab = r := Option.some.inj h
 clear h
 have HR := Aside0.mk hr
 clear hr
 have hb0 : (w.alloc (.cells #[.string ac, .int .i64 aa, .int .i64 ab] 57)).heap[w.heap.size]? = some (.cells #[.string ac, .int .i64 aa, .int .i64 ab] 57 (0, 0)) := alloc_new _ _
 have ai := Aside0.mk hb0
 have c0 := blk_cell hb0 1
 have c1 := blk_cell hb0 2
 have c0' : (w.alloc (.cells #[.string ac, .int .i64 aa, .int .i64 ab] 57)).cell? ⟨w.heap.size, 1, none⟩ = some (.int .i64 aa) := c0.trans rfl
 have c1' : (w.alloc (.cells #[.string ac, .int .i64 aa, .int .i64 ab] 57)).cell? ⟨w.heap.size, 2, none⟩ = some (.int .i64 ab) := c1.trans rfl
 clear hb0 c0 c1
 have hu := Try.underlying57
 have aj : (w.alloc (.cells #[.string ac, .int .i64 aa, .int .i64 ab] 57)).heap.size = w.heap.size + 1 := by simp
 have ag := Aside0.mk (show Below w.heap.size w (w.alloc (.cells #[.string ac, .int .i64 aa, .int .i64 ab] 57)) from below_alloc (Below.refl _ _) _)
 have bad (b1 b2 : Bool) (d1b : decide (ab < 0) = b1) (d2b : decide (1048576 < ab) = b2) (hor : (b1 || b2) = true) :
   Calls Try.prog 64 #[.agg #[.string ac, .int .i64 aa, .int .i64 ab]] w fun e w' => e = .returned (.int .i64 r) ∧ Below w.heap.size w w' := by
  have ae := Aside0.mk (HR.out.symm.trans (show placeE aa ab = 1 by
   unfold placeE
   rw [if_pos]
   rcases Bool.or_eq_true _ _ ▸ hor with h | h
   ·rw [h] at d1b; exact .inl (of_decide_eq_true d1b)
   ·rw [h] at d2b; exact .inr (of_decide_eq_true d2b)))
  cases b1 with
  | true =>
   clear d2b hor
   go_enter Try.func64, Try.ntmps64
   go_wp2
   go_ret
   have e_ := ae.out
   subst e_
   exact ⟨rfl, ag.out⟩
  | false =>
   cases b2 with
   | false => cases hor
   | true =>
    clear hor
    go_enter Try.func64, Try.ntmps64
    go_wp2
    go_ret
    have e_ := ae.out
    subst e_
    exact ⟨rfl, ag.out⟩
 cases d1b : decide (ab < 0) with
 | true => exact bad _ _ d1b rfl rfl
 | false =>
 cases d2b : decide (1048576 < ab) with
 | true => exact bad _ _ d1b d2b rfl
 | false =>
  clear bad
  have ah := Aside0.mk (show Kd.C (Kd.int .i64) ((w.alloc (.cells #[.string ac, .int .i64 aa, .int .i64 ab] 57)).alloc (.cells #[.int .i64 aa] 3)) (some ⟨w.heap.size + 1, 0, none⟩) 1 [aa] by rw [← aj]; exact C_one (alloc_new _ _))
  clear aj
  have d1 := of_decide_eq_false d1b
  have d2 := of_decide_eq_false d2b
  have hpe : placeE aa ab = if (aa < 0 ∨ aa > 1048576) ∨ (ab ≠ 0 ∧ aa > ab) then 10 else 0 := by unfold placeE; rw [if_neg (fun h => h.elim d1 d2)]
  have ae := Aside0.mk (HR.out.symm.trans hpe)
  clear hpe d1 d2 HR
  cases d3b : (decide (0 ≤ aa) && decide (aa ≤ 1048576)) with
  | false =>
   have af := Aside0.mk (ae.out.trans (if_pos (.inl (by
    rw [Bool.and_eq_false_iff] at d3b
    exact d3b.imp (fun h => by have := of_decide_eq_false h; omega) (fun h => by have := of_decide_eq_false h; omega)))))
   have HV := Aside0.mk ((valid_one aa).trans (congrArg some d3b))
   clear d3b ae
   go_enter Try.func64, Try.ntmps64
   go_wp2_with (first | (go_at_call 76; refine (marking_Valid.calls 5 _ _ [aa] _ _ _ ah.out (Nat.le_refl 1) HV.out).mono ?_; rintro e w' ⟨rfl, ⟨n, rfl⟩⟩))
   go_ret
   have e_ := af.out
   subst e_
   exact ⟨rfl, pw_below_drewN (below_alloc ag.out _) _⟩
  | true =>
   have HV := Aside0.mk ((valid_one aa).trans (congrArg some d3b))
   have d3 : ¬ (aa < 0 ∨ aa > 1048576) := by
    rw [Bool.and_eq_true] at d3b
    have h1 := of_decide_eq_true d3b.1
    have h2 := of_decide_eq_true d3b.2
    omega
   have D3 := Aside0.mk d3
   clear d3b d3
   cases d4b : (ab == 0) with
   | true =>
    have d4c : (ab != 0) = false := by rw [bne, d4b]; rfl
    have af := Aside0.mk (ae.out.trans (if_neg (fun h => h.elim D3.out (fun h => h.1 (beq_iff_eq.1 d4b)))))
    clear ae
    go_enter Try.func64, Try.ntmps64
    go_wp2_with (first | (go_at_call 76; refine (marking_Valid.calls 5 _ _ [aa] _ _ _ ah.out (Nat.le_refl 1) HV.out).mono ?_; rintro e w' ⟨rfl, ⟨n, rfl⟩⟩))
    go_ret
    have e_ := af.out
    subst e_
    exact ⟨rfl, pw_below_drewN (below_alloc ag.out _) _⟩
   | false =>
    have d4c : (ab != 0) = true := by rw [bne, d4b]; rfl
    have c0d : ∀ n, (((w.alloc (.cells #[.string ac, .int .i64 aa, .int .i64 ab] 57)).alloc (.cells #[.int .i64 aa] 3)).drewN n).cell? ⟨w.heap.size, 1, none⟩ = some (.int .i64 aa) := fun n => (blk_cell (blk_below ai.out (pw_below_drewN (below_alloc (Below.refl _ _) _) n)) 1).trans rfl
    have c1d : ∀ n, (((w.alloc (.cells #[.string ac, .int .i64 aa, .int .i64 ab] 57)).alloc (.cells #[.int .i64 aa] 3)).drewN n).cell? ⟨w.heap.size, 2, none⟩ = some (.int .i64 ab) := fun n => (blk_cell (blk_below ai.out (pw_below_drewN (below_alloc (Below.refl _ _) _) n)) 2).trans rfl
    cases d5b : decide (ab < aa) with
    | true =>
     have af := Aside0.mk (ae.out.trans (if_pos (.inr ⟨beq_eq_false_iff_ne.1 d4b, of_decide_eq_true d5b⟩)))
     clear ae
     go_enter Try.func64, Try.ntmps64
     go_wp2_with (first | (go_at_call 76; refine (marking_Valid.calls 5 _ _ [aa] _ _ _ ah.out (Nat.le_refl 1) HV.out).mono ?_; rintro e w' ⟨rfl, ⟨n, rfl⟩⟩))
     go_ret
     have e_ := af.out
     subst e_
     exact ⟨rfl, pw_below_drewN (below_alloc ag.out _) _⟩
    | false =>
     have af := Aside0.mk (ae.out.trans (if_neg (fun h => h.elim D3.out (fun h => of_decide_eq_false d5b h.2))))
     clear ae
     go_enter Try.func64, Try.ntmps64
     go_wp2_with (first | (go_at_call 76; refine (marking_Valid.calls 5 _ _ [aa] _ _ _ ah.out (Nat.le_refl 1) HV.out).mono ?_; rintro e w' ⟨rfl, ⟨n, rfl⟩⟩))
     go_ret
     have e_ := af.out
     subst e_
     exact ⟨rfl, pw_below_drewN (below_alloc ag.out _) _⟩

/-! ### net_checkArcs: function 77 -/
mutual
def net_checkArcs.l0 : Nat → List (S78) → Int → List (S78) → Int → Int → Option (Int)
 | 0, _, _, _, _, _ => none
 | k + 1, x0, x1, x7, x8, x9 => if x9 < x8 then (if 0 ≤ x9 then (if x9 < (x7.length : Int) then (if ((rd_T78 x7 x9).f0) < 0 then (net_checkArcs.j1 k x0 x1 x9 x7 x8 x9 true ((rd_T78 x7 x9).f0) ((rd_T78 x7 x9).f1)) else (net_checkArcs.j1 k x0 x1 x9 x7 x8 x9 (decide (((rd_T78 x7 x9).f0) ≥ x1)) ((rd_T78 x7 x9).f0) ((rd_T78 x7 x9).f1))) else (none)) else (none)) else (some 0)
def net_checkArcs.j1 : Nat → List (S78) → Int → Int → List (S78) → Int → Int → Bool → Int → Int → Option (Int)
 | 0, _, _, _, _, _, _, _, _, _ => none
 | k + 1, x0, x1, x5, x7, x8, x9, x14, ae, ac => if x14 = true then (some 7) else (if x5 > 0 then (if 0 ≤ (wrap64 (x5 - 1)) then (if (wrap64 (x5 - 1)) < (x0.length : Int) then (net_checkArcs.j2 k x0 x1 x7 x8 x9 (decide (((rd_T78 x0 (wrap64 (x5 - 1))).f0) ≥ ae)) ae ac) else (none)) else (none)) else (net_checkArcs.j2 k x0 x1 x7 x8 x9 false ae ac))
def net_checkArcs.j2 : Nat → List (S78) → Int → List (S78) → Int → Int → Bool → Int → Int → Option (Int)
 | 0, _, _, _, _, _, _, _, _ => none
 | k + 1, x0, x1, x7, x8, x9, a6, ae, ac => if a6 = true then (some 8) else (if ac < 1 then (some 9) else (if ac > 99 then (some 9) else (net_checkArcs.l0 k x0 x1 x7 x8 (wrap64 (x9 + 1)))))
end
def net_checkArcs.f (k : Nat) (l0 : List (S78)) (a1 : Int) : Option (Int) := net_checkArcs.l0 k l0 a1 l0 (l0.length : Int) 0
theorem net_checkArcs.mono_l : ∀ k, M5 net_checkArcs.l0 k ∧ M9 net_checkArcs.j1 k ∧ M8 net_checkArcs.j2 k
 | 0 => ⟨fun _ _ _ _ _ r h => by simp [net_checkArcs.l0] at h, fun _ _ _ _ _ _ _ _ _ r h => by simp [net_checkArcs.j1] at h, fun _ _ _ _ _ _ _ _ r h => by simp [net_checkArcs.j2] at h⟩
 | k + 1 => by
  obtain ⟨aQ, aR, aS⟩ := net_checkArcs.mono_l k
  refine ⟨?_, ?_, ?_⟩ <;> dsimp only [M5, M8, M9] <;> intros <;> (first | unfold net_checkArcs.l0 | unfold net_checkArcs.j1 | unfold net_checkArcs.j2) <;> repeat' first | (with_reducible first | apply aQ | apply aR | apply aS | apply lr | apply ln | apply li | refine lb ?_ fun _ => ?_)
theorem net_checkArcs.mono : ∀ a0 a1 k, LeO (net_checkArcs.f k a0 a1) (net_checkArcs.f (k + 1) a0 a1) := by
 intro a0 a1 k
 obtain ⟨aQ, aR, aS⟩ := net_checkArcs.mono_l k
 unfold net_checkArcs.f
 repeat' first | (with_reducible first | apply aQ | apply aR | apply aS | apply lr | apply ln | apply li | refine lb ?_ fun _ => ?_)
set_option maxHeartbeats 8000000 in
set_option maxRecDepth 100000 in
theorem net_checkArcs.calls (k : Nat) (A0 : Option Addr) (c0 : Nat) (l0 : List (S78)) (a1 : Int) (r : Int) (w : World) (aX : Kd.C k78 w A0 l0.length l0) (hc0 : l0.length ≤ c0) (h : net_checkArcs.f k l0 a1 = some r) :
  Calls Try.prog 77 #[.slice A0 l0.length c0, .int .i64 a1] w fun e w' => e = .returned (.int .i64 r) ∧ Below w.heap.size w w' := by
 have a3 := Try.underlying78
 have aW := am aX
 have a8 := am hc0
 clear aX hc0
 have HB := am (Below.refl w.heap.size w)
 have H := h
 unfold net_checkArcs.f at H
 clear h
 have H' := am H
 clear H
 go_enter Try.func77, Try.ntmps77
 go_wp2
 repeat (go_quiet (fail); try go_wp2)
 go_loopg [9] k (fun kq v9 w' => ∃ (ab : Int), v9 = .int .i64 ab ∧ Aside0 (net_checkArcs.l0 kq l0 a1 l0 (l0.length : Int) ab = some r) ∧ Aside0 (kq ≤ k) ∧ Aside0 (Below w.heap.size w w'))
 case atStart => exact ⟨(0), prs, H', ⟨Nat.le_refl _⟩, ⟨pbg⟩⟩
 clear H'
 obtain ⟨ab, rfl, HA, ay, HB⟩ := hrel
 obtain _ | k1 := gk
 ·exact absurd HA.1 (by simp [net_checkArcs.l0])
 have H := HA.1
 clear HA
 simp only [net_checkArcs.l0] at H
 replace H := ifl H
 rcases H with ⟨ax, H⟩ | ⟨ax, H⟩
 rotate_left
 ·obtain rfl := Option.some.inj H
  go_wp2
  repeat (go_quiet (fail); try go_wp2)
  go_ret
  exact ⟨per, pbg⟩
 replace H := ifp H
 obtain ⟨c4, H⟩ := H
 have aG := decide_eq_true c4
 clear c4
 replace H := ifp H
 obtain ⟨c5, H⟩ := H
 have aH := decide_eq_true c5
 clear c5
 have aL := am H
 clear H
 obtain ⟨aI, aJ, aA, aO, al, ao⟩ := bT78 aW.1 HB.1 ab
 cases aO
 go_upto_region 4 with (first | ((with_reducible refine gate_dst (N := 6) rfl ?_); refine box_ev ?_; intro aj hg w7 hbox hb; have aa := am hbox; have ah := gwl hg; have av := ah; replace HB := bsl hb; clear hb hbox hg; have z8 := cf2 aa.1))
 repeat (go_quiet (first | ((with_reducible refine gate_dst (N := 6) rfl ?_); refine box_ev ?_; intro aj hg w7 hbox hb; have aa := am hbox; have ah := gwl hg; have av := ah; replace HB := bsl hb; clear hb hbox hg; have z8 := cf2 aa.1)); go_upto_region 4 with (first | ((with_reducible refine gate_dst (N := 6) rfl ?_); refine box_ev ?_; intro aj hg w7 hbox hb; have aa := am hbox; have ah := gwl hg; have av := ah; replace HB := bsl hb; clear hb hbox hg; have z8 := cf2 aa.1)))
 (try simp only [Act.put, List.setIfInBounds_toArray, List.set_cons_zero, List.set_cons_succ])
 go_cut [14] (fun a4 wc => ∃ (kq : Nat) (ap : Bool), a4 = .bool ap ∧ Aside0 (net_checkArcs.j1 kq l0 a1 ab l0 (l0.length : Int) ab ap ((rd_T78 l0 ab).f0) ((rd_T78 l0 ab).f1) = some r) ∧ Aside0 (kq ≤ k1) ∧ Aside0 (wc.heap[aj]? = some (.cells #[.int .i64 ((rd_T78 l0 ab).f0), .int .i64 ((rd_T78 l0 ab).f1)] 78 (0, 0))) ∧ Aside0 (Below w.heap.size w wc))
 case first =>
  have H := aL.1
  clear aL
  replace H := ifl H
  rcases H with ⟨ai, H⟩ | ⟨ai, H⟩
  ·(first | rw [ai] | (simp only [i64_w, i32_w]; rw [ai]) | skip)
   have H' := am H
   clear H
   have aZ := cf2 aa.1
   go_wp2
   repeat (go_quiet (fail); try go_wp2)
   go_meet
   case rel => exact ⟨_, (true), prs, H', ⟨by have := ay.1; first | omega | exact Nat.le_refl _⟩, ⟨by (with_reducible repeat (first | refine blk_drewN ?_ _ | refine blk_drew ?_ | refine blk_alloc ?_ _)); exact bp2 (pbk aa.1)⟩, ⟨pbg⟩⟩
  (first | rw [ai] | (simp only [i64_w, i32_w]; rw [ai]) | skip)
  have H' := am H
  clear H
  have a2 := cf2 aa.1
  go_wp2
  repeat (go_quiet (fail); try go_wp2)
  go_meet
  case rel => exact ⟨_, (decide (((rd_T78 l0 ab).f0) ≥ a1)), prs, H', ⟨by have := ay.1; first | omega | exact Nat.le_refl _⟩, ⟨by (with_reducible repeat (first | refine blk_drewN ?_ _ | refine blk_drew ?_ | refine blk_alloc ?_ _)); exact bp2 (pbk aa.1)⟩, ⟨pbg⟩⟩
 clear aL
 try clear ax c4 aG c5 aH c9 ai aZ a2 z8 al ao aI aJ
 obtain ⟨kq, ap, rfl, HA, aK, aa, HB⟩ := hcut
 obtain _ | aY := kq
 ·exact absurd HA.1 (by simp [net_checkArcs.j1])
 have H := HA.1
 clear HA
 simp only [net_checkArcs.j1] at H
 cases ap
 rotate_left
 ·rw [if_pos rfl] at H
  obtain rfl := Option.some.inj H
  go_wp2
  repeat (go_quiet (fail); try go_wp2)
  go_ret
  exact ⟨per, pbg⟩
 rw [if_neg Bool.false_ne_true] at H
 have aw := am H
 clear H
 go_upto_region 6 with (fail)
 repeat (go_quiet (fail); go_upto_region 6 with (fail))
 go_cut [24] (fun a5 wc => ∃ (kq : Nat) (ag : Bool), a5 = .bool ag ∧ Aside0 (net_checkArcs.j2 kq l0 a1 l0 (l0.length : Int) ab ag ((rd_T78 l0 ab).f0) ((rd_T78 l0 ab).f1) = some r) ∧ Aside0 (kq ≤ aY) ∧ Aside0 (wc.heap[aj]? = some (.cells #[.int .i64 ((rd_T78 l0 ab).f0), .int .i64 ((rd_T78 l0 ab).f1)] 78 (0, 0))) ∧ Aside0 (Below w.heap.size w wc))
 case first =>
  have H := aw.1
  clear aw
  replace H := ifg H
  rcases H with ⟨af, H⟩ | ⟨af, H⟩
  rotate_left
  ·(first | rw [af] | (simp only [i64_w, i32_w]; rw [af]) | skip)
   have H' := am H
   clear H
   go_wp2
   repeat (go_quiet (fail); try go_wp2)
   go_meet
   case rel => exact ⟨_, (false), prs, H', ⟨by have := ay.1; have := aK.1; first | omega | exact Nat.le_refl _⟩, ⟨pbk aa.1⟩, ⟨pbg⟩⟩
  (first | rw [af] | (simp only [i64_w, i32_w]; rw [af]) | skip)
  obtain ⟨aq, ak⟩ : ∃ j_ : Int, (wrap64 (ab - 1)) = j_ := ⟨_, rfl⟩
  replace H : (if 0 ≤ (aq) then (if (aq) < (l0.length : Int) then (net_checkArcs.j2 aY l0 a1 l0 (l0.length : Int) ab (decide (((rd_T78 l0 (aq)).f0) ≥ ((rd_T78 l0 ab).f0))) ((rd_T78 l0 ab).f0) ((rd_T78 l0 ab).f1)) else (none)) else (none)) = some r := by first | (rw [ak] at H; exact H) | (simp only [ak] at H ⊢; exact H)
  have hji15w : (IntKind.i64.wrap (ab - 1)) = aq := (i64_w _).trans ak
  replace H := ifp H
  obtain ⟨aM, H⟩ := H
  have aC := decide_eq_true aM
  clear aM
  replace H := ifp H
  obtain ⟨aN, H⟩ := H
  have aD := decide_eq_true aN
  clear aN
  have H' := am H
  clear H
  obtain ⟨aU, aV, aB, aP, ar, au⟩ := bT78 aW.1 HB.1 (aq)
  obtain rfl : aA = aB := (by injection aP)
  have a7 := cf2 aa.1
  go_wp2
  repeat (go_quiet (fail); try go_wp2)
  go_meet
  case rel => exact ⟨_, (decide (((rd_T78 l0 (aq)).f0) ≥ ((rd_T78 l0 ab).f0))), (by first | rfl | (simp; done) | (simp only [← ak] <;> (first | rfl | simp)) | (simp [*]; done)), H', ⟨by have := ay.1; have := aK.1; first | omega | exact Nat.le_refl _⟩, ⟨pbk aa.1⟩, ⟨pbg⟩⟩
 clear aw
 try clear c3 ax c4 aG c5 aH c9 ai a9 af aM aC aN aD aZ a2 a7 z8 al ao ar au aI aU aJ aV
 obtain ⟨kq, ag, rfl, HA, az, aa, HB⟩ := hcut
 obtain _ | aT := kq
 ·exact absurd HA.1 (by simp [net_checkArcs.j2])
 have H := HA.1
 clear HA
 simp only [net_checkArcs.j2] at H
 cases ag
 rotate_left
 ·rw [if_pos rfl] at H
  obtain rfl := Option.some.inj H
  go_wp2
  repeat (go_quiet (fail); try go_wp2)
  go_ret
  exact ⟨per, pbg⟩
 rw [if_neg Bool.false_ne_true] at H
 replace H := ifl H
 rcases H with ⟨aE, H⟩ | ⟨aE, H⟩
 ·obtain rfl := Option.some.inj H
  have ba := cf2 aa.1
  go_wp2
  repeat (go_quiet (fail); try go_wp2)
  go_ret
  exact ⟨per, pbg⟩
 replace H := ifg H
 rcases H with ⟨aF, H⟩ | ⟨aF, H⟩
 ·obtain rfl := Option.some.inj H
  have bb := cf2 aa.1
  go_wp2
  repeat (go_quiet (fail); try go_wp2)
  go_ret
  exact ⟨per, pbg⟩
 have H' := am H
 clear H
 have bc := cf2 aa.1
 go_wp2
 repeat (go_quiet (fail); try go_wp2)
 go_roundg aT
 case measure => have := ay.1; have := aK.1; have := az.1; omega
 case rel => exact ⟨(wrap64 (ab + 1)), prs, H', ⟨by have := ay.1; have := aK.1; have := az.1; omega⟩, ⟨pbg⟩⟩

/-! ### net_checkTrans: function 65 -/
mutual
def net_checkTrans.j0 : Nat → Int → Bool → ByteArray → List (S78) → List (S78) → List (S78) → Int → Option (Int)
 | 0, _, _, _, _, _, _, _ => none
 | k + 1, x1, x15, bn, aY, aZ, a6, bo => if x15 = true then (some 1) else ((some (([aY, aZ, a6] : List (List (S78))) : List (List (S78)))).bind fun aq => (net_checkTrans.l0 k x1 aq (aq.length : Int) 0))
def net_checkTrans.l0 : Nat → Int → List (List (S78)) → Int → Int → Option (Int)
 | 0, _, _, _, _ => none
 | k + 1, x1, bv, bF, bm => if bm < bF then (if 0 ≤ bm then (if bm < (bv.length : Int) then ((net_checkArcs.f k (rd_L4 bv bm) x1).bind fun aT => (if aT = 0 then (net_checkTrans.l0 k x1 bv bF (wrap64 (bm + 1))) else (some aT))) else (none)) else (none)) else (some 0)
end
def net_checkTrans.f (k : Nat) (aG : ByteArray) (aj : List (S78)) (ak : List (S78)) (al : List (S78)) (ax : Int) (a1 : Int) : Option (Int) := if ax < 0 then (net_checkTrans.j0 k a1 true aG aj ak al ax) else (net_checkTrans.j0 k a1 (decide (ax > 9)) aG aj ak al ax)
theorem net_checkTrans.mono_l : ∀ k, M7 net_checkTrans.j0 k ∧ M4 net_checkTrans.l0 k
 | 0 => ⟨fun _ _ _ _ _ _ _ r h => by simp [net_checkTrans.j0] at h, fun _ _ _ _ r h => by simp [net_checkTrans.l0] at h⟩
 | k + 1 => by
  obtain ⟨br, bs⟩ := net_checkTrans.mono_l k
  refine ⟨?_, ?_⟩ <;> dsimp only [M4, M7] <;> intros <;> (first | unfold net_checkTrans.j0 | unfold net_checkTrans.l0) <;> repeat' first | (with_reducible first | apply br | apply bs | apply net_checkArcs.mono | apply lr | apply ln | apply li | refine lb ?_ fun _ => ?_)
theorem net_checkTrans.mono : ∀ a0 a1 a2 a3 a4 a5 k, LeO (net_checkTrans.f k a0 a1 a2 a3 a4 a5) (net_checkTrans.f (k + 1) a0 a1 a2 a3 a4 a5) := by
 intro a0 a1 a2 a3 a4 a5 k
 obtain ⟨br, bs⟩ := net_checkTrans.mono_l k
 unfold net_checkTrans.f
 repeat' first | (with_reducible first | apply br | apply bs | apply net_checkArcs.mono | apply lr | apply ln | apply li | refine lb ?_ fun _ => ?_)
set_option maxHeartbeats 8000000 in
set_option maxRecDepth 100000 in
theorem net_checkTrans.calls (k : Nat) (aG : ByteArray) (P0_1_ : Nat → Prop) (az : Option Addr) (aC : Nat) (aj : List (S78)) (P0_2_ : Nat → Prop) (aA : Option Addr) (aD : Nat) (ak : List (S78)) (P0_3_ : Nat → Prop) (aB : Option Addr) (aE : Nat) (al : List (S78)) (ax : Int) (a1 : Int) (r : Int) (w : World) (bj : Kd.V k78 78 w w.heap.size (fun k_ => P0_1_ k_) (.slice az aj.length aC) aj) (bk : Kd.V k78 78 w w.heap.size (fun k_ => P0_2_ k_) (.slice aA ak.length aD) ak) (bl : Kd.V k78 78 w w.heap.size (fun k_ => P0_3_ k_) (.slice aB al.length aE) al) (h : net_checkTrans.f k aG aj ak al ax a1 = some r) :
  Calls Try.prog 65 #[.agg #[.string aG, .slice az aj.length aC, .slice aA ak.length aD, .slice aB al.length aE, .int .i64 ax], .int .i64 a1] w fun e w' => e = .returned (.int .i64 r) ∧ Below w.heap.size w w' := by
 have bG := Try.underlying60
 have aO := am (show Kd.V k78 78 w w.heap.size (fun k_ => ((P0_1_ k_ ∨ P0_2_ k_ ∨ P0_3_ k_) ∨ w.heap.size ≤ k_)) (.slice az aj.length aC) aj from Kd.V_mono bj (fun k_ hk => .inl (.inl hk)))
 have aP := am (show Kd.V k78 78 w w.heap.size (fun k_ => ((P0_1_ k_ ∨ P0_2_ k_ ∨ P0_3_ k_) ∨ w.heap.size ≤ k_)) (.slice aA ak.length aD) ak from Kd.V_mono bk (fun k_ hk => .inl (.inr (.inl hk))))
 have aQ := am (show Kd.V k78 78 w w.heap.size (fun k_ => ((P0_1_ k_ ∨ P0_2_ k_ ∨ P0_3_ k_) ∨ w.heap.size ≤ k_)) (.slice aB al.length aE) al from Kd.V_mono bl (fun k_ hk => .inl (.inr (.inr hk))))
 have HB := am (Below.refl w.heap.size w)
 have H := h
 unfold net_checkTrans.f at H
 clear h
 have bp := am H
 clear H
 go_enter Try.func65, Try.ntmps65
 go_upto_region 1 with (first | ((with_reducible refine gate_dst (N := 2) rfl ?_); refine box_ev ?_; intro ae hg w4 hbox hb; have af := am hbox; have bc := gwl hg; have bx := bc; replace aO := vbb aO hg hb; replace aP := vbb aP hg hb; replace aQ := vbb aQ hg hb; replace HB := bsl hb; clear hb hbox hg))
 (try simp only [Act.put, List.setIfInBounds_toArray, List.set_cons_zero, List.set_cons_succ])
 go_cut [15] (fun bI wc => ∃ (kq : Nat) (aR : Bool), bI = .bool aR ∧ Aside0 (net_checkTrans.j0 kq a1 aR aG aj ak al ax = some r) ∧ Aside0 (kq ≤ k) ∧ Aside0 (Kd.V k78 78 wc w.heap.size (fun k_ => ((P0_1_ k_ ∨ P0_2_ k_ ∨ P0_3_ k_) ∨ w.heap.size ≤ k_) ∧ k_ ≠ ae) (.slice az aj.length aC) aj) ∧ Aside0 (Kd.V k78 78 wc w.heap.size (fun k_ => ((P0_1_ k_ ∨ P0_2_ k_ ∨ P0_3_ k_) ∨ w.heap.size ≤ k_) ∧ k_ ≠ ae) (.slice aA ak.length aD) ak) ∧ Aside0 (Kd.V k78 78 wc w.heap.size (fun k_ => ((P0_1_ k_ ∨ P0_2_ k_ ∨ P0_3_ k_) ∨ w.heap.size ≤ k_) ∧ k_ ≠ ae) (.slice aB al.length aE) al) ∧ Aside0 (wc.heap[ae]? = some (.cells #[.string aG, (.slice az aj.length aC), (.slice aA ak.length aD), (.slice aB al.length aE), .int .i64 ax] 60 (0, 0))) ∧ Aside0 (Below w.heap.size w wc))
 case first =>
  have H := bp.1
  clear bp
  replace H := ifl H
  rcases H with ⟨aL, H⟩ | ⟨aL, H⟩
  ·(first | rw [aL] | (simp only [i64_w, i32_w]; rw [aL]) | skip)
   have H' := am H
   clear H
   have z6 := cf5 af.1
   go_wp2
   go_meet
   case rel => exact ⟨_, (true), prs, H', ⟨by first | omega | exact Nat.le_refl _⟩, ⟨pkv aO.1⟩, ⟨pkv aP.1⟩, ⟨pkv aQ.1⟩, ⟨pbk af.1⟩, ⟨pbg⟩⟩
  (first | rw [aL] | (simp only [i64_w, i32_w]; rw [aL]) | skip)
  have H' := am H
  clear H
  have z7 := cf5 af.1
  go_wp2
  go_meet
  case rel => exact ⟨_, (decide (ax > 9)), prs, H', ⟨by first | omega | exact Nat.le_refl _⟩, ⟨pkv aO.1⟩, ⟨pkv aP.1⟩, ⟨pkv aQ.1⟩, ⟨pbk af.1⟩, ⟨pbg⟩⟩
 clear bp
 try clear c5 aL z6 z7
 obtain ⟨kq, aR, rfl, HA, bz, aa, ab, ac, af, HB⟩ := hcut
 obtain _ | bu := kq
 ·exact absurd HA.1 (by simp [net_checkTrans.j0])
 have H := HA.1
 clear HA
 simp only [net_checkTrans.j0] at H
 cases aR
 rotate_left
 ·rw [if_pos rfl] at H
  obtain rfl := Option.some.inj H
  go_wp2
  go_ret
  exact ⟨per, pbg⟩
 rw [if_neg Bool.false_ne_true] at H
 obtain ⟨aq, aS⟩ : ∃ y_ : List (List (S78)), y_ = (([aj, ak, al] : List (List (S78)))) := ⟨_, rfl⟩
 replace H : (net_checkTrans.l0 bu a1 aq (aq.length : Int) 0) = some r := hrp aS H
 have a8 := am aS
 clear aS
 have H' := am H
 clear H
 have z9 := cf5 af.1
 go_wp2_with (first | ((with_reducible refine gate_dst (N := 22) rfl ?_); refine Kd.N_lit (Kd.slice 78 k78) _ 58 ?hg (N' := 22) ?hd (xs := ([aj, ak, al] : List (List (S78)))) (inner := [.slice az aj.length aC, .slice aA ak.length aD, .slice aB al.length aE]) (ok := (fun k_ => ((P0_1_ k_ ∨ P0_2_ k_ ∨ P0_3_ k_) ∨ w.heap.size ≤ k_) ∧ k_ ≠ ae)) (okp := (fun k_ => ((P0_1_ k_ ∨ P0_2_ k_ ∨ P0_3_ k_) ∨ w.heap.size ≤ k_) ∧ k_ ≠ ae)) ?hr ?hp (fun _ hk => hk) ((show ∀ k_, wc.heap.size ≤ k_ → (fun k_ => ((P0_1_ k_ ∨ P0_2_ k_ ∨ P0_3_ k_) ∨ w.heap.size ≤ k_) ∧ k_ ≠ ae) k_ from fun k_ hk => ⟨(.inr (Nat.le_trans (below_size pbg) hk)), Kd.freshB (g := ae) (o := .cells #[.string aG, .slice az aj.length aC, .slice aA ak.length aD, .slice aB al.length aE, .int .i64 ax] 60 (0, 0)) (by exact pbk af.1) k_ hk⟩) _ (Nat.le_refl _)) (Below.refl _ _) (Nat.le_refl _) (by simp) ?_; (case hd => rfl); (case hg => rfl); (case hr => first | (go_simp; done) | (go_simp; rfl)); (case hp => exact (Reps.one (show Kd.FK (Kd.slice 78 k78) _ _ aj [.slice az aj.length aC] from (Kd.FK_slice_mk (Kd.V_reads' (Kd.V_mono (ok' := (fun k_ => ((P0_1_ k_ ∨ P0_2_ k_ ∨ P0_3_ k_) ∨ w.heap.size ≤ k_) ∧ k_ ≠ ae)) (aa.1) (fun k_ hk => ⟨hk.1, hk.2⟩))).2.1 (Kd.V_F (Kd.V_mono (ok' := (fun k_ => ((P0_1_ k_ ∨ P0_2_ k_ ∨ P0_3_ k_) ∨ w.heap.size ≤ k_) ∧ k_ ≠ ae)) (aa.1) (fun k_ hk => ⟨hk.1, hk.2⟩))))) (Reps.one (show Kd.FK (Kd.slice 78 k78) _ _ ak [.slice aA ak.length aD] from (Kd.FK_slice_mk (Kd.V_reads' (Kd.V_mono (ok' := (fun k_ => ((P0_1_ k_ ∨ P0_2_ k_ ∨ P0_3_ k_) ∨ w.heap.size ≤ k_) ∧ k_ ≠ ae)) (ab.1) (fun k_ hk => ⟨hk.1, hk.2⟩))).2.1 (Kd.V_F (Kd.V_mono (ok' := (fun k_ => ((P0_1_ k_ ∨ P0_2_ k_ ∨ P0_3_ k_) ∨ w.heap.size ≤ k_) ∧ k_ ≠ ae)) (ab.1) (fun k_ hk => ⟨hk.1, hk.2⟩))))) (Reps.one (show Kd.FK (Kd.slice 78 k78) _ _ al [.slice aB al.length aE] from (Kd.FK_slice_mk (Kd.V_reads' (Kd.V_mono (ok' := (fun k_ => ((P0_1_ k_ ∨ P0_2_ k_ ∨ P0_3_ k_) ∨ w.heap.size ≤ k_) ∧ k_ ≠ ae)) (ac.1) (fun k_ hk => ⟨hk.1, hk.2⟩))).2.1 (Kd.V_F (Kd.V_mono (ok' := (fun k_ => ((P0_1_ k_ ∨ P0_2_ k_ ∨ P0_3_ k_) ∨ w.heap.size ≤ k_) ∧ k_ ≠ ae)) (ac.1) (fun k_ hk => ⟨hk.1, hk.2⟩))))) (Reps.none _ _))))); intro bH bK aK hb hg_ hnew_; clear hg_ hnew_; (first | rw [← a8.1] at aK | (simp only [Int.reduceToNat] at aK; rw [← a8.1] at aK)); have a7 := am (Kd.N_lower aK (below_size pbg)); replace aa := am (Kd.V_elder' (pkv aa.1) (Kd.N_base aK) hb); replace ab := am (Kd.V_elder' (pkv ab.1) (Kd.N_base aK) hb); replace ac := am (Kd.V_elder' (pkv ac.1) (Kd.N_base aK) hb); replace af := bbh af hb; replace HB := bst hb; clear hb aK; obtain ⟨aU, aV, bq⟩ := Kd.N_slice a7.1; subst bq))
 go_loopg [24] bu (fun kq bJ w' => ∃ (ag : Int), bJ = .int .i64 ag ∧ Aside0 (net_checkTrans.l0 kq a1 aq (aq.length : Int) ag = some r) ∧ Aside0 (kq ≤ bu) ∧ Aside0 (Kd.N (Kd.slice 78 k78) 58 w' w.heap.size (fun k_ => ((P0_1_ k_ ∨ P0_2_ k_ ∨ P0_3_ k_) ∨ w.heap.size ≤ k_) ∧ k_ ≠ ae) (.slice aU aq.length aV) aq) ∧ Aside0 (Kd.V k78 78 w' w.heap.size (fun k_ => ((P0_1_ k_ ∨ P0_2_ k_ ∨ P0_3_ k_) ∨ w.heap.size ≤ k_) ∧ some k_ ≠ ((.slice aU aq.length aV) : Value).ownBlock ∧ k_ ≠ ae) (.slice az aj.length aC) aj) ∧ Aside0 (Kd.V k78 78 w' w.heap.size (fun k_ => ((P0_1_ k_ ∨ P0_2_ k_ ∨ P0_3_ k_) ∨ w.heap.size ≤ k_) ∧ some k_ ≠ ((.slice aU aq.length aV) : Value).ownBlock ∧ k_ ≠ ae) (.slice aA ak.length aD) ak) ∧ Aside0 (Kd.V k78 78 w' w.heap.size (fun k_ => ((P0_1_ k_ ∨ P0_2_ k_ ∨ P0_3_ k_) ∨ w.heap.size ≤ k_) ∧ some k_ ≠ ((.slice aU aq.length aV) : Value).ownBlock ∧ k_ ≠ ae) (.slice aB al.length aE) al) ∧ Aside0 (w'.heap[ae]? = some (.cells #[.string aG, (.slice az aj.length aC), (.slice aA ak.length aD), (.slice aB al.length aE), .int .i64 ax] 60 (0, 0))) ∧ Aside0 (Below w.heap.size w w'))
 case atStart => exact ⟨(0), prs, H', ⟨Nat.le_refl _⟩, ⟨pkn a7.1⟩, ⟨by (with_reducible repeat (first | apply Kd.V_alloc | apply Kd.V_drewN | apply Kd.V_drew)); exact Kd.V_mono aa.1 (fun _ hk => ⟨hk.1.1, ⟨hk.2, hk.1.2⟩⟩)⟩, ⟨by (with_reducible repeat (first | apply Kd.V_alloc | apply Kd.V_drewN | apply Kd.V_drew)); exact Kd.V_mono ab.1 (fun _ hk => ⟨hk.1.1, ⟨hk.2, hk.1.2⟩⟩)⟩, ⟨by (with_reducible repeat (first | apply Kd.V_alloc | apply Kd.V_drewN | apply Kd.V_drew)); exact Kd.V_mono ac.1 (fun _ hk => ⟨hk.1.1, ⟨hk.2, hk.1.2⟩⟩)⟩, ⟨pbk af.1⟩, ⟨pbg⟩⟩
 clear H'
 try clear c5 aL z6 z7 z9
 obtain ⟨ag, rfl, HA, bA, ar, aa, ab, ac, af, HB⟩ := hrel
 obtain _ | k2 := gk
 ·exact absurd HA.1 (by simp [net_checkTrans.l0])
 have H := HA.1
 clear HA
 simp only [net_checkTrans.l0] at H
 replace H := ifl H
 rcases H with ⟨bf, H⟩ | ⟨bf, H⟩
 rotate_left
 ·obtain rfl := Option.some.inj H
  go_wp2
  go_ret
  exact ⟨per, pbg⟩
 replace H := ifp H
 obtain ⟨bB, H⟩ := H
 have bC := decide_eq_true bB
 clear bB
 replace H := ifp H
 obtain ⟨bD, H⟩ := H
 have bE := decide_eq_true bD
 clear bD
 replace H := bnd H
 obtain ⟨aT, bw, H⟩ := H
 (try dsimp only at H)
 replace H := ife H
 rcases H with ⟨bg, bh, H⟩ | ⟨bg, bh, H⟩
 rotate_left
 ·obtain rfl := Option.some.inj H
  have aI : 0 ≤ (ag : Int) := dq
  have aJ : ag < (aq.length : Int) := dq
  obtain ⟨bd, a9, ba, bb, aH, aw, av⟩ := at_L4 (Kd.N_reads' ar.1).2.2 ag aI aJ
  cases bb
  obtain ⟨bi, aN, aM, ay⟩ := Kd.N_get ar.1 [] ag aI (by first | exact aJ | exact dq | (have e_ := (Kd.N_reads' ar.1).1; omega))
  obtain ⟨aW, aX, rfl, ap, ao⟩ := Kd.FK_slice_open aM
  have ai := ay 0 _ rfl
  rw [Nat.add_zero, show ((Kd.slice 78 k78)).sz = 1 from rfl, Nat.mul_one] at ai
  replace ai := Option.some.inj (ai.symm.trans aH)
  injection ai with hva_ hvn_ hvc_
  rw [hva_] at ao
  rw [hvc_] at ap
  have au := am (show Kd.V k78 78 _ w.heap.size _ _ (rd_L4 aq ag) from Kd.V_mk ap ao)
  clear hva_ hvn_ hvc_ ao ap ay aN
  have ah := am av
  have aF := am aw
  clear av aw
  replace aI := eq_true aI
  replace aJ := eq_true aJ
  go_wp2_with (first | ((with_reducible refine gate_callee (f := 77) rfl ?_); refine gC 30 Try.func77 _ (net_checkArcs.calls k2 _ _ (rd_L4 aq ag) a1 aT _ ?side1 ?side2 bw.1) ?_; (case side1 => repeat (first | exact (by repeat (first | (with_reducible exact ah.1) | (with_reducible refine Kd.C_alloc ?_ _) | (with_reducible refine Kd.C_drewN ?_ _) | (with_reducible refine Kd.C_drew ?_) | exact ah.1)) | (with_reducible refine Kd.C_alloc ?_ _) | (with_reducible refine Kd.C_drewN ?_ _) | (with_reducible refine Kd.C_drew ?_))); (case side2 => exact aF.1); rintro e bM ⟨rfl, hb⟩; refine ⟨_, rfl, ?_⟩; replace ar := nbw ar hb; replace aa := vbw aa hb; replace ab := vbw ab hb; replace ac := vbw ac hb; replace au := vbw au hb; replace af := bbh af hb; replace ah := cbb ah hb; replace HB := bst hb; (try clear hb)))
  go_ret
  exact ⟨per, pbg⟩
 have H' := am H
 clear H
 have aI : 0 ≤ (ag : Int) := dq
 have aJ : ag < (aq.length : Int) := dq
 obtain ⟨bd, a9, ba, bb, aH, aw, av⟩ := at_L4 (Kd.N_reads' ar.1).2.2 ag aI aJ
 cases bb
 obtain ⟨bi, aN, aM, ay⟩ := Kd.N_get ar.1 [] ag aI (by first | exact aJ | exact dq | (have e_ := (Kd.N_reads' ar.1).1; omega))
 obtain ⟨aW, aX, rfl, ap, ao⟩ := Kd.FK_slice_open aM
 have ai := ay 0 _ rfl
 rw [Nat.add_zero, show ((Kd.slice 78 k78)).sz = 1 from rfl, Nat.mul_one] at ai
 replace ai := Option.some.inj (ai.symm.trans aH)
 injection ai with hva_ hvn_ hvc_
 rw [hva_] at ao
 rw [hvc_] at ap
 have au := am (show Kd.V k78 78 _ w.heap.size _ _ (rd_L4 aq ag) from Kd.V_mk ap ao)
 clear hva_ hvn_ hvc_ ao ap ay aN
 have ah := am av
 have aF := am aw
 clear av aw
 replace aI := eq_true aI
 replace aJ := eq_true aJ
 go_wp2_with (first | ((with_reducible refine gate_callee (f := 77) rfl ?_); refine gC 30 Try.func77 _ (net_checkArcs.calls k2 _ _ (rd_L4 aq ag) a1 aT _ ?side1 ?side2 bw.1) ?_; (case side1 => repeat (first | exact (by repeat (first | (with_reducible exact ah.1) | (with_reducible refine Kd.C_alloc ?_ _) | (with_reducible refine Kd.C_drewN ?_ _) | (with_reducible refine Kd.C_drew ?_) | exact ah.1)) | (with_reducible refine Kd.C_alloc ?_ _) | (with_reducible refine Kd.C_drewN ?_ _) | (with_reducible refine Kd.C_drew ?_))); (case side2 => exact aF.1); rintro e bL ⟨rfl, hb⟩; refine ⟨_, rfl, ?_⟩; replace ar := nbw ar hb; replace aa := vbw aa hb; replace ab := vbw ab hb; replace ac := vbw ac hb; replace au := vbw au hb; replace af := bbh af hb; replace ah := cbb ah hb; replace HB := bst hb; (try clear hb)))
 go_roundg k2
 case measure => have := bz.1; have := bA.1; omega
 case rel => exact ⟨(wrap64 (ag + 1)), prs, H', ⟨by have := bz.1; have := bA.1; omega⟩, ⟨pkn ar.1⟩, ⟨pkv aa.1⟩, ⟨pkv ab.1⟩, ⟨pkv ac.1⟩, ⟨pbk af.1⟩, ⟨pbg⟩⟩

/-! ### omega_Valid: function 61 -/
def omega_Valid.l0 : Nat → List Int → Int → Int → Option (Bool)
 | 0, _, _, _ => none
 | k + 1, x11, x12, x13 => if x13 < x12 then (if 0 ≤ x13 then (if x13 < (x11.length : Int) then (if (rd x11 x13) = (-1) then (omega_Valid.l0 k x11 x12 (wrap64 (x13 + 1))) else ((marking_Valid.f k (([rd x11 x13] : List Int)) 1).bind fun aj => (if aj = true then (omega_Valid.l0 k x11 x12 (wrap64 (x13 + 1))) else (some false)))) else (none)) else (none)) else (some true)
def omega_Valid.f (k : Nat) (l0 : List Int) (a1 : Int) : Option (Bool) := if (l0.length : Int) = a1 then (omega_Valid.l0 k l0 (l0.length : Int) 0) else (some false)
theorem omega_Valid.mono_l : ∀ k, M3 omega_Valid.l0 k
 | 0 => fun _ _ _ r h => by simp [omega_Valid.l0] at h
 | k + 1 => by
  have aB := omega_Valid.mono_l k
  ·intro y0 y1 y2
   unfold omega_Valid.l0
   repeat' first | (with_reducible first | apply aB | apply marking_Valid.mono | apply lr | apply ln | apply li | refine lb ?_ fun _ => ?_)
theorem omega_Valid.mono : ∀ a0 a1 k, LeO (omega_Valid.f k a0 a1) (omega_Valid.f (k + 1) a0 a1) := by
 intro a0 a1 k
 have aB := omega_Valid.mono_l k
 unfold omega_Valid.f
 repeat' first | (with_reducible first | apply aB | apply marking_Valid.mono | apply lr | apply ln | apply li | refine lb ?_ fun _ => ?_)
set_option maxHeartbeats 8000000 in
set_option maxRecDepth 100000 in
theorem omega_Valid.calls (k : Nat) (A0 : Option Addr) (c0 : Nat) (l0 : List Int) (a1 : Int) (r : Bool) (w : World) (aD : Kd.C (Kd.int .i64) w A0 l0.length l0) (hc0 : l0.length ≤ c0) (h : omega_Valid.f k l0 a1 = some r) :
  Calls Try.prog 61 #[.slice A0 l0.length c0, .int .i64 a1] w fun e w' => e = .returned (.bool r) ∧ Below w.heap.size w w' := by
 have av := am aD
 have aL := am hc0
 clear aD hc0
 have HB := am (Below.refl w.heap.size w)
 have H := h
 unfold omega_Valid.f at H
 clear h
 replace H := ife H
 rcases H with ⟨ao, ap, H⟩ | ⟨ao, ap, H⟩
 rotate_left
 ·obtain rfl := Option.some.inj H
  go_enter Try.func61, Try.ntmps61
  go_wp2
  go_ret
  exact ⟨per, pbg⟩
 have H' := am H
 clear H
 go_enter Try.func61, Try.ntmps61
 go_wp2
 go_loopg [13] k (fun kq aK w' => ∃ (aa : Int), aK = .int .i64 aa ∧ Aside0 (omega_Valid.l0 kq l0 (l0.length : Int) aa = some r) ∧ Aside0 (kq ≤ k) ∧ Aside0 (Below w.heap.size w w'))
 case atStart => exact ⟨(0), prs, H', ⟨Nat.le_refl _⟩, ⟨pbg⟩⟩
 clear H'
 try clear ao ap
 obtain ⟨aa, rfl, HA, au, HB⟩ := hrel
 obtain _ | k1 := gk
 ·exact absurd HA.1 (by simp [omega_Valid.l0])
 have H := HA.1
 clear HA
 simp only [omega_Valid.l0] at H
 replace H := ifl H
 rcases H with ⟨aw, H⟩ | ⟨aw, H⟩
 rotate_left
 ·obtain rfl := Option.some.inj H
  go_wp2
  go_ret
  exact ⟨per, pbg⟩
 replace H := ifp H
 obtain ⟨c5, H⟩ := H
 have aG := decide_eq_true c5
 clear c5
 replace H := ifp H
 obtain ⟨c6, H⟩ := H
 have aH := decide_eq_true c6
 clear c6
 replace H := ife H
 rcases H with ⟨ax, ay, H⟩ | ⟨ax, ay, H⟩
 ·have H' := am H
  clear H
  obtain ⟨aq, ar, ak, af, ae⟩ := bint av.1 HB.1 aa
  cases af
  go_wp2
  go_roundg k1
  case measure => have := au.1; omega
  case rel => exact ⟨(wrap64 (aa + 1)), prs, H', ⟨by have := au.1; omega⟩, ⟨pbg⟩⟩
 obtain ⟨al, ai⟩ : ∃ y_ : List Int, y_ = (([rd l0 aa] : List Int)) := ⟨_, rfl⟩
 replace H : ((marking_Valid.f k1 al 1).bind fun aj => (if aj = true then (omega_Valid.l0 k1 l0 (l0.length : Int) (wrap64 (aa + 1))) else (some false))) = some r := hrp ai H
 have ac := am ai
 clear ai
 replace H := bnd H
 obtain ⟨aj, A8, H⟩ := H
 (try dsimp only at H)
 cases aj
 ·rw [if_neg Bool.false_ne_true] at H
  obtain rfl := Option.some.inj H
  obtain ⟨aq, ar, ak, af, ae⟩ := bint av.1 HB.1 aa
  cases af
  go_wp2_with (first | ((with_reducible refine gate_dst (N := 21) rfl ?_); (try (refine gate_guard (by rfl) ?_; dsimp only)); refine Kd.R_lit (Kd.int .i64) _ 3 ?hg (N := 21) ?hd (xs := ([rd l0 aa] : List Int)) (inner := [.int .i64 (rd l0 aa)]) (ok := fun _ => True) (okp := fun _ => True) ?hr ?hp (fun _ hk => hk) trivial (Below.refl _ _) (Nat.le_refl _) (by simp) ?_; (case hd => rfl); (case hg => rfl); (case hr => first | (go_simp; done) | (go_simp; rfl)); (case hp => exact (Reps.one (show Kd.M (Kd.int .i64) _ _ _ (rd l0 aa) [.int .i64 (rd l0 aa)] from rfl) (Reps.none _ _))); intro aC aN ah hb hg_ hnew_; clear hg_ hnew_; (first | rw [← ac.1] at ah | (simp only [Int.reduceToNat] at ah; rw [← ac.1] at ah)); have ab := am (Kd.R_lower ah (below_size pbl)); replace HB := bsl hb; clear hb ah; obtain ⟨aF, aJ, aA⟩ := Kd.R_slice ab.1; subst aA) | (go_at_call 76; (with_reducible refine (marking_Valid.calls k1 _ _ al 1 false _ ?side1 ?side2 A8.1).mono ?_); (case side1 => exact csd ((Kd.R_reads' ab.1).2.2)); (case side2 => exact (Kd.R_reads' ab.1).2.1); rintro e w' ⟨rfl, ⟨nd, rfl⟩⟩))
  go_ret
  exact ⟨per, pbg⟩
 rw [if_pos rfl] at H
 have H' := am H
 clear H
 obtain ⟨aq, ar, ak, af, ae⟩ := bint av.1 HB.1 aa
 cases af
 go_wp2_with (first | ((with_reducible refine gate_dst (N := 21) rfl ?_); (try (refine gate_guard (by rfl) ?_; dsimp only)); refine Kd.R_lit (Kd.int .i64) _ 3 ?hg (N := 21) ?hd (xs := ([rd l0 aa] : List Int)) (inner := [.int .i64 (rd l0 aa)]) (ok := fun _ => True) (okp := fun _ => True) ?hr ?hp (fun _ hk => hk) trivial (Below.refl _ _) (Nat.le_refl _) (by simp) ?_; (case hd => rfl); (case hg => rfl); (case hr => first | (go_simp; done) | (go_simp; rfl)); (case hp => exact (Reps.one (show Kd.M (Kd.int .i64) _ _ _ (rd l0 aa) [.int .i64 (rd l0 aa)] from rfl) (Reps.none _ _))); intro aC aM ag hb hg_ hnew_; clear hg_ hnew_; (first | rw [← ac.1] at ag | (simp only [Int.reduceToNat] at ag; rw [← ac.1] at ag)); have ab := am (Kd.R_lower ag (below_size pbl)); replace HB := bsl hb; clear hb ag; obtain ⟨aE, aI, az⟩ := Kd.R_slice ab.1; subst az) | (go_at_call 76; (with_reducible refine (marking_Valid.calls k1 _ _ al 1 true _ ?side1 ?side2 A8.1).mono ?_); (case side1 => exact csd ((Kd.R_reads' ab.1).2.2)); (case side2 => exact (Kd.R_reads' ab.1).2.1); rintro e w' ⟨rfl, ⟨nd, rfl⟩⟩))
 go_roundg k1
 case measure => have := au.1; omega
 case rel => exact ⟨(wrap64 (aa + 1)), prs, H', ⟨by have := au.1; omega⟩, ⟨pbg⟩⟩

/-! ### karpmiller_enabled: function 37 -/
def karpmiller_enabled.l0 : Nat → List Int → List (S78) → Int → Int → Option (Bool)
 | 0, _, _, _, _ => none
 | k + 1, x1, x8, x9, x10 => if x10 < x9 then (if 0 ≤ x10 then (if x10 < (x8.length : Int) then (if 0 ≤ ((rd_T78 x8 x10).f0) then (if ((rd_T78 x8 x10).f0) < (x1.length : Int) then (if (rd x1 ((rd_T78 x8 x10).f0)) = (-1) then (karpmiller_enabled.l0 k x1 x8 x9 (wrap64 (x10 + 1))) else (if (rd x1 ((rd_T78 x8 x10).f0)) < ((rd_T78 x8 x10).f1) then (some false) else (karpmiller_enabled.l0 k x1 x8 x9 (wrap64 (x10 + 1))))) else (none)) else (none)) else (none)) else (none)) else (some true)
def karpmiller_enabled.f (k : Nat) (aH : ByteArray) (af : List (S78)) (aw : List (S78)) (ax : List (S78)) (aI : Int) (l1 : List Int) : Option (Bool) := karpmiller_enabled.l0 k l1 af (af.length : Int) 0
theorem karpmiller_enabled.mono_l : ∀ k, M4 karpmiller_enabled.l0 k
 | 0 => fun _ _ _ _ r h => by simp [karpmiller_enabled.l0] at h
 | k + 1 => by
  have bg := karpmiller_enabled.mono_l k
  ·intro y0 y1 y2 y3
   unfold karpmiller_enabled.l0
   repeat' first | (with_reducible first | apply bg | apply lr | apply ln | apply li | refine lb ?_ fun _ => ?_)
theorem karpmiller_enabled.mono : ∀ a0 a1 a2 a3 a4 a5 k, LeO (karpmiller_enabled.f k a0 a1 a2 a3 a4 a5) (karpmiller_enabled.f (k + 1) a0 a1 a2 a3 a4 a5) := by
 intro a0 a1 a2 a3 a4 a5 k
 have bg := karpmiller_enabled.mono_l k
 unfold karpmiller_enabled.f
 repeat' first | (with_reducible first | apply bg | apply lr | apply ln | apply li | refine lb ?_ fun _ => ?_)
set_option maxHeartbeats 8000000 in
set_option maxRecDepth 100000 in
theorem karpmiller_enabled.calls (k : Nat) (aH : ByteArray) (aS : Option Addr) (aV : Nat) (af : List (S78)) (aT : Option Addr) (aW : Nat) (aw : List (S78)) (aU : Option Addr) (aX : Nat) (ax : List (S78)) (aI : Int) (A1 : Option Addr) (c1 : Nat) (l1 : List Int) (r : Bool) (w : World) (aP : Kd.C k78 w aS af.length af) (aM : af.length ≤ aV) (aQ : Kd.C k78 w aT aw.length aw) (aN : aw.length ≤ aW) (aR : Kd.C k78 w aU ax.length ax) (aO : ax.length ≤ aX) (bv : Kd.C (Kd.int .i64) w A1 l1.length l1) (bn : l1.length ≤ c1) (h : karpmiller_enabled.f k aH af aw ax aI l1 = some r) :
  Calls Try.prog 37 #[.agg #[.string aH, .slice aS af.length aV, .slice aT aw.length aW, .slice aU ax.length aX, .int .i64 aI], .slice A1 l1.length c1] w fun e w' => e = .returned (.bool r) ∧ Below w.heap.size w w' := by
 have bD := Try.underlying60
 have bE := Try.underlying78
 have aD := am aP
 have bi := am aM
 clear aP aM
 have bl := am aQ
 have bj := am aN
 clear aQ aN
 have bm := am aR
 have bk := am aO
 clear aR aO
 have a6 := am bv
 have bH := am bn
 clear bv bn
 have HB := am (Below.refl w.heap.size w)
 have H := h
 unfold karpmiller_enabled.f at H
 clear h
 have H' := am H
 clear H
 go_enter Try.func37, Try.ntmps37
 iterate 4 (try go_wp2_with (first | ((with_reducible refine gate_dst (N := 2) rfl ?_); refine box_ev ?_; intro ba hg w3 hbox hb; have aj := am hbox; have aZ := gwl hg; have bh := aZ; replace HB := bsl hb; clear hb hbox hg; have z4 := cf5 aj.1)); try go_quiet (fail))
 go_loopg [10] k (fun kq bF w' => ∃ (ab : Int), bF = .int .i64 ab ∧ Aside0 (karpmiller_enabled.l0 kq l1 af (af.length : Int) ab = some r) ∧ Aside0 (kq ≤ k) ∧ Aside0 (w'.heap[ba]? = some (.cells #[.string aH, (.slice aS af.length aV), (.slice aT aw.length aW), (.slice aU ax.length aX), .int .i64 aI] 60 (0, 0))) ∧ Aside0 (Below w.heap.size w w'))
 case atStart => exact ⟨(0), prs, H', ⟨Nat.le_refl _⟩, ⟨pbk aj.1⟩, ⟨pbg⟩⟩
 clear H'
 try clear c1 z4
 obtain ⟨ab, rfl, HA, bd, aj, HB⟩ := hrel
 obtain _ | k1 := gk
 ·exact absurd HA.1 (by simp [karpmiller_enabled.l0])
 have H := HA.1
 clear HA
 simp only [karpmiller_enabled.l0] at H
 replace H := ifl H
 rcases H with ⟨bf, H⟩ | ⟨bf, H⟩
 rotate_left
 ·obtain rfl := Option.some.inj H
  go_wp2
  repeat (go_quiet (fail); try go_wp2)
  go_ret
  exact ⟨per, pbg⟩
 replace H := ifp H
 obtain ⟨c6, H⟩ := H
 have bz := decide_eq_true c6
 clear c6
 replace H := ifp H
 obtain ⟨c7, H⟩ := H
 have bA := decide_eq_true c7
 clear c7
 replace H := ifp H
 obtain ⟨c8, H⟩ := H
 have bB := decide_eq_true c8
 clear c8
 replace H := ifp H
 obtain ⟨c9, H⟩ := H
 have bC := decide_eq_true c9
 clear c9
 replace H := ife H
 rcases H with ⟨a7, a8, H⟩ | ⟨a7, a8, H⟩
 ·have H' := am H
  clear H
  obtain ⟨bb, bc, aL, aF, aA, aB⟩ := bT78 aD.1 HB.1 ab
  cases aF
  iterate 4 (try go_wp2_with (first | ((with_reducible refine gate_dst (N := 6) rfl ?_); refine box_ev ?_; intro ae hg bG hbox hb; have av := am hbox; have ao := gwb hg; have aK := ao; have ai := nlt hg aj; have aq := ngt hg aj; replace aj := bbh aj hb; replace HB := bst hb; clear hb hbox hg; have bo := aq.1; have br := ai.1; have bI := cf2 av.1; have ar : 0 ≤ (((rd_T78 af ab).f0) : Int) := dq; have au : ((rd_T78 af ab).f0) < (l1.length : Int) := dq; obtain ⟨ap, aG, aa⟩ := Kd.at_int a6.1 ((rd_T78 af ab).f0) ar au; cases aG; have ag : ap.block ≠ ae := Nat.ne_of_lt (Nat.lt_of_lt_of_le (by have := World.block_lt_of_cell? _ _ aa; first | rwa [add_block] at this | exact this) ao.1); have ah : ap.block ≠ ae := Nat.ne_of_lt (Nat.lt_of_lt_of_le (by have := World.block_lt_of_cell? _ _ aa; first | rwa [add_block] at this | exact this) ao.1); replace aa := cbl HB.1 aa; replace aa := (cell_far (p := ⟨ae, 0, none⟩) (by first | (rw [add_block]; exact ag) | (show (Addr.add _ _).block ≠ _; rw [add_block]; exact ag) | exact ag) (.int .i64 ((rd_T78 af ab).f0))).trans aa; replace aa := (cell_far (p := ⟨ae, 1, none⟩) (by first | (rw [add_block]; exact ah) | (show (Addr.add _ _).block ≠ _; rw [add_block]; exact ah) | exact ah) (.int .i64 ((rd_T78 af ab).f1))).trans aa; (try have aC := fun (n_ : Nat) => (show ((((bG.drewN n_).setCell ⟨ae, 0, none⟩ (.int .i64 ((rd_T78 af ab).f0))).setCell ⟨ae, 1, none⟩ (.int .i64 ((rd_T78 af ab).f1)))).cell? _ = some _ from aa)); clear ag; clear ah; replace ar := eq_true ar; replace au := eq_true au)); try go_quiet (fail))
  go_roundg k1
  case measure => have := bd.1; omega
  case rel => exact ⟨(wrap64 (ab + 1)), prs, H', ⟨by have := bd.1; omega⟩, ⟨by (with_reducible repeat (first | refine blk_drewN ?_ _ | refine blk_drew ?_ | refine blk_alloc ?_ _)); refine bf2 ?_ ai.1; exact pbk aj.1⟩, ⟨pbg⟩⟩
 replace H := ifl H
 rcases H with ⟨a9, H⟩ | ⟨a9, H⟩
 ·obtain rfl := Option.some.inj H
  obtain ⟨bb, bc, aL, aF, aA, aB⟩ := bT78 aD.1 HB.1 ab
  cases aF
  iterate 4 (try go_wp2_with (first | ((with_reducible refine gate_dst (N := 6) rfl ?_); refine box_ev ?_; intro ae hg bw hbox hb; have av := am hbox; have ao := gwb hg; have aK := ao; have ai := nlt hg aj; have aq := ngt hg aj; replace aj := bbh aj hb; replace HB := bst hb; clear hb hbox hg; have bp := aq.1; have bs := ai.1; have bJ := cf2 av.1; have ar : 0 ≤ (((rd_T78 af ab).f0) : Int) := dq; have au : ((rd_T78 af ab).f0) < (l1.length : Int) := dq; obtain ⟨ap, aG, aa⟩ := Kd.at_int a6.1 ((rd_T78 af ab).f0) ar au; cases aG; have ag : ap.block ≠ ae := Nat.ne_of_lt (Nat.lt_of_lt_of_le (by have := World.block_lt_of_cell? _ _ aa; first | rwa [add_block] at this | exact this) ao.1); have ah : ap.block ≠ ae := Nat.ne_of_lt (Nat.lt_of_lt_of_le (by have := World.block_lt_of_cell? _ _ aa; first | rwa [add_block] at this | exact this) ao.1); replace aa := cbl HB.1 aa; replace aa := (cell_far (p := ⟨ae, 0, none⟩) (by first | (rw [add_block]; exact ag) | (show (Addr.add _ _).block ≠ _; rw [add_block]; exact ag) | exact ag) (.int .i64 ((rd_T78 af ab).f0))).trans aa; replace aa := (cell_far (p := ⟨ae, 1, none⟩) (by first | (rw [add_block]; exact ah) | (show (Addr.add _ _).block ≠ _; rw [add_block]; exact ah) | exact ah) (.int .i64 ((rd_T78 af ab).f1))).trans aa; (try have aC := fun (n_ : Nat) => (show ((((bw.drewN n_).setCell ⟨ae, 0, none⟩ (.int .i64 ((rd_T78 af ab).f0))).setCell ⟨ae, 1, none⟩ (.int .i64 ((rd_T78 af ab).f1)))).cell? _ = some _ from aa)); clear ag; clear ah; replace ar := eq_true ar; replace au := eq_true au; have ay : 0 ≤ (((rd_T78 af ab).f0) : Int) := dq; have az : ((rd_T78 af ab).f0) < (l1.length : Int) := dq; obtain ⟨aE, aY, ac⟩ := Kd.at_int a6.1 ((rd_T78 af ab).f0) ay az; obtain rfl : ap = aE := (by injection aY); have ak : ap.block ≠ ae := Nat.ne_of_lt (Nat.lt_of_lt_of_le (by have := World.block_lt_of_cell? _ _ ac; first | rwa [add_block] at this | exact this) ao.1); have al : ap.block ≠ ae := Nat.ne_of_lt (Nat.lt_of_lt_of_le (by have := World.block_lt_of_cell? _ _ ac; first | rwa [add_block] at this | exact this) ao.1); replace ac := cbl HB.1 ac; replace ac := (cell_far (p := ⟨ae, 0, none⟩) (by first | (rw [add_block]; exact ak) | (show (Addr.add _ _).block ≠ _; rw [add_block]; exact ak) | exact ak) (.int .i64 ((rd_T78 af ab).f0))).trans ac; replace ac := (cell_far (p := ⟨ae, 1, none⟩) (by first | (rw [add_block]; exact al) | (show (Addr.add _ _).block ≠ _; rw [add_block]; exact al) | exact al) (.int .i64 ((rd_T78 af ab).f1))).trans ac; (try have aJ := fun (n_ : Nat) => (show ((((bw.drewN n_).setCell ⟨ae, 0, none⟩ (.int .i64 ((rd_T78 af ab).f0))).setCell ⟨ae, 1, none⟩ (.int .i64 ((rd_T78 af ab).f1)))).cell? _ = some _ from ac)); clear ak; clear al; replace ay := eq_true ay; replace az := eq_true az)); try go_quiet (fail))
  go_ret
  exact ⟨per, pbg⟩
 have H' := am H
 clear H
 obtain ⟨bb, bc, aL, aF, aA, aB⟩ := bT78 aD.1 HB.1 ab
 cases aF
 iterate 4 (try go_wp2_with (first | ((with_reducible refine gate_dst (N := 6) rfl ?_); refine box_ev ?_; intro ae hg bx hbox hb; have av := am hbox; have ao := gwb hg; have aK := ao; have ai := nlt hg aj; have aq := ngt hg aj; replace aj := bbh aj hb; replace HB := bst hb; clear hb hbox hg; have bq := aq.1; have bu := ai.1; have bK := cf2 av.1; have ar : 0 ≤ (((rd_T78 af ab).f0) : Int) := dq; have au : ((rd_T78 af ab).f0) < (l1.length : Int) := dq; obtain ⟨ap, aG, aa⟩ := Kd.at_int a6.1 ((rd_T78 af ab).f0) ar au; cases aG; have ag : ap.block ≠ ae := Nat.ne_of_lt (Nat.lt_of_lt_of_le (by have := World.block_lt_of_cell? _ _ aa; first | rwa [add_block] at this | exact this) ao.1); have ah : ap.block ≠ ae := Nat.ne_of_lt (Nat.lt_of_lt_of_le (by have := World.block_lt_of_cell? _ _ aa; first | rwa [add_block] at this | exact this) ao.1); replace aa := cbl HB.1 aa; replace aa := (cell_far (p := ⟨ae, 0, none⟩) (by first | (rw [add_block]; exact ag) | (show (Addr.add _ _).block ≠ _; rw [add_block]; exact ag) | exact ag) (.int .i64 ((rd_T78 af ab).f0))).trans aa; replace aa := (cell_far (p := ⟨ae, 1, none⟩) (by first | (rw [add_block]; exact ah) | (show (Addr.add _ _).block ≠ _; rw [add_block]; exact ah) | exact ah) (.int .i64 ((rd_T78 af ab).f1))).trans aa; (try have aC := fun (n_ : Nat) => (show ((((bx.drewN n_).setCell ⟨ae, 0, none⟩ (.int .i64 ((rd_T78 af ab).f0))).setCell ⟨ae, 1, none⟩ (.int .i64 ((rd_T78 af ab).f1)))).cell? _ = some _ from aa)); clear ag; clear ah; replace ar := eq_true ar; replace au := eq_true au; have ay : 0 ≤ (((rd_T78 af ab).f0) : Int) := dq; have az : ((rd_T78 af ab).f0) < (l1.length : Int) := dq; obtain ⟨aE, aY, ac⟩ := Kd.at_int a6.1 ((rd_T78 af ab).f0) ay az; obtain rfl : ap = aE := (by injection aY); have ak : ap.block ≠ ae := Nat.ne_of_lt (Nat.lt_of_lt_of_le (by have := World.block_lt_of_cell? _ _ ac; first | rwa [add_block] at this | exact this) ao.1); have al : ap.block ≠ ae := Nat.ne_of_lt (Nat.lt_of_lt_of_le (by have := World.block_lt_of_cell? _ _ ac; first | rwa [add_block] at this | exact this) ao.1); replace ac := cbl HB.1 ac; replace ac := (cell_far (p := ⟨ae, 0, none⟩) (by first | (rw [add_block]; exact ak) | (show (Addr.add _ _).block ≠ _; rw [add_block]; exact ak) | exact ak) (.int .i64 ((rd_T78 af ab).f0))).trans ac; replace ac := (cell_far (p := ⟨ae, 1, none⟩) (by first | (rw [add_block]; exact al) | (show (Addr.add _ _).block ≠ _; rw [add_block]; exact al) | exact al) (.int .i64 ((rd_T78 af ab).f1))).trans ac; (try have aJ := fun (n_ : Nat) => (show ((((bx.drewN n_).setCell ⟨ae, 0, none⟩ (.int .i64 ((rd_T78 af ab).f0))).setCell ⟨ae, 1, none⟩ (.int .i64 ((rd_T78 af ab).f1)))).cell? _ = some _ from ac)); clear ak; clear al; replace ay := eq_true ay; replace az := eq_true az)); try go_quiet (fail))
 go_roundg k1
 case measure => have := bd.1; omega
 case rel => exact ⟨(wrap64 (ab + 1)), prs, H', ⟨by have := bd.1; omega⟩, ⟨by (with_reducible repeat (first | refine blk_drewN ?_ _ | refine blk_drew ?_ | refine blk_alloc ?_ _)); refine bf2 ?_ ai.1; exact pbk aj.1⟩, ⟨pbg⟩⟩

/-! ### marking_Leq: function 78 -/
def marking_Leq.l0 : Nat → List Int → List Int → Int → Int → Option (Bool)
 | 0, _, _, _, _ => none
 | k + 1, x0, x1, x12, x13 => if x13 < x12 then (if 0 ≤ x13 then (if x13 < (x0.length : Int) then (if x13 < (x1.length : Int) then (if (rd x0 x13) > (rd x1 x13) then (some false) else (marking_Leq.l0 k x0 x1 x12 (wrap64 (x13 + 1)))) else (none)) else (none)) else (none)) else (some true)
def marking_Leq.f (k : Nat) (l0 : List Int) (l1 : List Int) : Option (Bool) := if (l0.length : Int) = (l1.length : Int) then (marking_Leq.l0 k l0 l1 (l0.length : Int) 0) else (some false)
theorem marking_Leq.mono_l : ∀ k, M4 marking_Leq.l0 k
 | 0 => fun _ _ _ _ r h => by simp [marking_Leq.l0] at h
 | k + 1 => by
  have ap := marking_Leq.mono_l k
  ·intro y0 y1 y2 y3
   unfold marking_Leq.l0
   repeat' first | (with_reducible first | apply ap | apply lr | apply ln | apply li | refine lb ?_ fun _ => ?_)
theorem marking_Leq.mono : ∀ a0 a1 k, LeO (marking_Leq.f k a0 a1) (marking_Leq.f (k + 1) a0 a1) := by
 intro a0 a1 k
 have ap := marking_Leq.mono_l k
 unfold marking_Leq.f
 repeat' first | (with_reducible first | apply ap | apply lr | apply ln | apply li | refine lb ?_ fun _ => ?_)
set_option maxHeartbeats 8000000 in
set_option maxRecDepth 100000 in
theorem marking_Leq.calls (k : Nat) (A0 : Option Addr) (c0 : Nat) (l0 : List Int) (A1 : Option Addr) (c1 : Nat) (l1 : List Int) (r : Bool) (w : World) (aA : Kd.C (Kd.int .i64) w A0 l0.length l0) (hc0 : l0.length ≤ c0) (aB : Kd.C (Kd.int .i64) w A1 l1.length l1) (az : l1.length ≤ c1) (h : marking_Leq.f k l0 l1 = some r) :
  Calls Try.prog 78 #[.slice A0 l0.length c0, .slice A1 l1.length c1] w fun e w' => e = .returned (.bool r) ∧ Drawn0 w w' := by
 have ax := am aA
 have aG := am hc0
 clear aA hc0
 have ay := am aB
 have aH := am az
 clear aB az
 have H := h
 unfold marking_Leq.f at H
 clear h
 by_cases c3 : (l0.length : Int) = (l1.length : Int)
 rotate_left
 ·rw [if_neg c3] at H
  have ai : ((l0.length : Int) == (l1.length : Int)) = false := beq_eq_false_iff_ne.mpr c3
  have aj : ((l0.length : Int) != (l1.length : Int)) = true := bne_iff_ne.mpr c3
  have ak : (l0.length == l1.length) = false := by first | simpa using c3 | (simp at c3 ⊢; omega)
  obtain rfl := Option.some.inj H
  go_enter Try.func78, Try.ntmps78
  go_wp2
  repeat (go_quiet (fail); try go_wp2)
  go_ret
  exact ⟨prs, pdr⟩
 rw [if_pos c3] at H
 have ai : ((l0.length : Int) == (l1.length : Int)) = true := beq_iff_eq.mpr c3
 have aj : ((l0.length : Int) != (l1.length : Int)) = false := bne_eq_false_iff_eq.mpr c3
 have ak : (l0.length == l1.length) = true := by first | simpa using c3 | (simp at c3 ⊢; omega)
 clear c3
 have H' := am H
 clear H
 go_enter Try.func78, Try.ntmps78
 go_wp2
 repeat (go_quiet (fail); try go_wp2)
 go_loopg [13] k (fun kq aF w' => ∃ (aa : Int), aF = .int .i64 aa ∧ Aside0 (marking_Leq.l0 kq l0 l1 (l0.length : Int) aa = some r) ∧ Aside0 (kq ≤ k) ∧ Drawn0 w w')
 case atStart => exact ⟨(0), prs, H', ⟨Nat.le_refl _⟩, pdr⟩
 clear H'
 try clear c1 c3 ai aj ak
 obtain ⟨aa, rfl, HA, aw, ⟨m1, rfl⟩⟩ := hrel
 obtain _ | k1 := gk
 ·exact absurd HA.1 (by simp [marking_Leq.l0])
 have H := HA.1
 clear HA
 simp only [marking_Leq.l0] at H
 replace H := ifl H
 rcases H with ⟨al, H⟩ | ⟨al, H⟩
 rotate_left
 ·obtain rfl := Option.some.inj H
  go_wp2
  repeat (go_quiet (fail); try go_wp2)
  go_ret
  exact ⟨prs, pdr⟩
 replace H := ifp H
 obtain ⟨c5, H⟩ := H
 have aC := decide_eq_true c5
 clear c5
 replace H := ifp H
 obtain ⟨c6, H⟩ := H
 have aD := decide_eq_true c6
 clear c6
 replace H := ifp H
 obtain ⟨c7, H⟩ := H
 have aE := decide_eq_true c7
 clear c7
 replace H := ifg H
 rcases H with ⟨ao, H⟩ | ⟨ao, H⟩
 ·obtain rfl := Option.some.inj H
  obtain ⟨aq, au, ag, ae, ab⟩ := dint ax.1 aa
  cases ae
  obtain ⟨ar, av, ah, af, ac⟩ := dint ay.1 aa
  cases af
  go_wp2
  repeat (go_quiet (fail); try go_wp2)
  go_ret
  exact ⟨prs, pdr⟩
 have H' := am H
 clear H
 obtain ⟨aq, au, ag, ae, ab⟩ := dint ax.1 aa
 cases ae
 obtain ⟨ar, av, ah, af, ac⟩ := dint ay.1 aa
 cases af
 go_wp2
 repeat (go_quiet (fail); try go_wp2)
 go_roundg k1
 case measure => have := aw.1; omega
 case rel => exact ⟨(wrap64 (aa + 1)), prs, H', ⟨by have := aw.1; omega⟩, pdr⟩

/-! ### omega_rank: function 69 -/
def omega_rank.f (a0 : Int) : Option (Int) := if a0 = (-1) then (some 1048577) else (some a0)
set_option maxHeartbeats 8000000 in
set_option maxRecDepth 100000 in
theorem omega_rank.calls (a0 : Int) (r : Int) (w : World) (h : omega_rank.f a0 = some r) :
  Calls Try.prog 69 #[.int .i64 a0] w fun e w' => e = .returned (.int .i64 r) ∧ Drawn0 w w' := by
 have H := h
 unfold omega_rank.f at H
 clear h
 replace H := ife H
 rcases H with ⟨aa, ab, H⟩ | ⟨aa, ab, H⟩
 rotate_left
 ·obtain rfl := Option.some.inj H
  go_enter Try.func69, Try.ntmps69
  go_wp2
  go_ret
  exact ⟨prs, pdr⟩
 obtain rfl := Option.some.inj H
 go_enter Try.func69, Try.ntmps69
 go_wp2
 go_ret
 exact ⟨prs, pdr⟩

/-! ### omega_ranks: function 79 -/
def omega_ranks.l0 : Nat → List Int → List Int → Int → Int → Option (List Int)
 | 0, _, _, _, _ => none
 | k + 1, x3, x9, x10, x11 => if x11 < x10 then (if 0 ≤ x11 then (if x11 < (x9.length : Int) then ((omega_rank.f (rd x9 x11)).bind fun ae => (if x11 < (x3.length : Int) then (omega_ranks.l0 k (x3.set (x11 : Int).toNat ae) x9 x10 (wrap64 (x11 + 1))) else (none))) else (none)) else (none)) else (some x3)
def omega_ranks.f (k : Nat) (l0 : List Int) : Option (List Int) := if 0 ≤ (l0.length : Int) then (if ((l0.length : Int) : Int).toNat ≤ 35184372088832 then (omega_ranks.l0 k (List.replicate ((l0.length : Int) : Int).toNat 0) l0 (l0.length : Int) 0) else (none)) else (none)
theorem omega_ranks.mono_l : ∀ k, M4 omega_ranks.l0 k
 | 0 => fun _ _ _ _ r h => by simp [omega_ranks.l0] at h
 | k + 1 => by
  have aJ := omega_ranks.mono_l k
  ·intro y0 y1 y2 y3
   unfold omega_ranks.l0
   repeat' first | (with_reducible first | apply aJ | apply lr | apply ln | apply li | refine lb ?_ fun _ => ?_)
theorem omega_ranks.mono : ∀ a0 k, LeO (omega_ranks.f k a0) (omega_ranks.f (k + 1) a0) := by
 intro a0 k
 have aJ := omega_ranks.mono_l k
 unfold omega_ranks.f
 repeat' first | (with_reducible first | apply aJ | apply lr | apply ln | apply li | refine lb ?_ fun _ => ?_)
set_option maxHeartbeats 8000000 in
set_option maxRecDepth 100000 in
theorem omega_ranks.calls (k : Nat) (A0 : Option Addr) (c0 : Nat) (l0 : List Int) (r : List Int) (w : World) (aQ : Kd.C (Kd.int .i64) w A0 l0.length l0) (hc0 : l0.length ≤ c0) (h : omega_ranks.f k l0 = some r) :
  Calls Try.prog 79 #[.slice A0 l0.length c0] w fun e w' => ∃ v0_ : Value, e = .returned (v0_) ∧ Kd.R (Kd.int .i64) 3 w' w.heap.size (fun _ => True) v0_ r ∧ Below w.heap.size w w' := by
 have aS := am aQ
 have aZ := am hc0
 clear aQ hc0
 have HB := am (Below.refl w.heap.size w)
 have H := h
 unfold omega_ranks.f at H
 clear h
 replace H := ifp H
 obtain ⟨c2, H⟩ := H
 have az := eq_true c2
 have aA : decide (0 ≤ (l0.length : Int)) = true := decide_eq_true c2
 clear c2
 replace H := ifp H
 obtain ⟨c3, H⟩ := H
 have aB := eq_true c3
 have aC : decide (((l0.length : Int) : Int).toNat ≤ 35184372088832) = true := decide_eq_true c3
 clear c3
 obtain ⟨aw, af⟩ : ∃ y_ : List Int, y_ = (List.replicate ((l0.length : Int) : Int).toNat 0) := ⟨_, rfl⟩
 replace H : (omega_ranks.l0 k aw l0 (l0.length : Int) 0) = some r := hrp af H
 have ah := am af
 clear af
 have H' := am H
 clear H
 go_enter Try.func79, Try.ntmps79
 go_wp2_with (first | ((with_reducible refine gate_dst (N := 8) rfl ?_); refine Kd.R_make (Kd.int .i64) _ 3 rfl (N := 8) rfl 26 _ _ rfl (l0.length : Int) rfl rfl Try.underlying26 (.int .i64 0) 8 info3 rfl (by decide) (by omega) 0 (ok := fun _ => True) (okp := fun _ => True) rfl (fun _ hk => hk) trivial (dq) (Nat.le_trans (Nat.mul_le_mul_right _ (dq : (l0.length : Int).toNat ≤ 35184372088832)) (by omega)) (Below.refl _ _) (Nat.le_refl _) ?_; intro av w4 au hb hg_ hnew_; clear hg_ hnew_; (first | rw [← ah.1] at au | (simp only [Int.reduceToNat] at au; rw [← ah.1] at au)); have ao := am (Kd.R_lower au (below_size pbl)); replace HB := bsl hb; clear hb au))
 go_loopg [11] k (fun kq aY w' => ∃ (ac : List Int) (aa : Int), aY = .int .i64 aa ∧ Aside0 (omega_ranks.l0 kq ac l0 (l0.length : Int) aa = some r) ∧ Aside0 (kq ≤ k) ∧ Aside0 (Kd.R (Kd.int .i64) 3 w' w.heap.size (fun _ => True) av ac) ∧ Aside0 (Below w.heap.size w w'))
 case atStart => exact ⟨(aw), (0), prs, H', ⟨Nat.le_refl _⟩, ⟨pkr ao.1⟩, ⟨pbg⟩⟩
 clear H'
 try clear c2 az aA c3 aB aC
 obtain ⟨ac, aa, rfl, HA, aN, ab, HB⟩ := hrel
 obtain _ | k1 := gk
 ·exact absurd HA.1 (by simp [omega_ranks.l0])
 have H := HA.1
 clear HA
 simp only [omega_ranks.l0] at H
 replace H := ifl H
 rcases H with ⟨aD, H⟩ | ⟨aD, H⟩
 rotate_left
 ·obtain rfl := Option.some.inj H
  go_wp2
  go_ret
  exact ⟨_, per, by (with_reducible repeat (first | apply Kd.R_alloc | apply Kd.R_drewN | apply Kd.R_drew)); exact ab.1, pbg⟩
 replace H := ifp H
 obtain ⟨c7, H⟩ := H
 have aT := decide_eq_true c7
 clear c7
 replace H := ifp H
 obtain ⟨c8, H⟩ := H
 have aU := decide_eq_true c8
 clear c8
 replace H := bnd H
 obtain ⟨ae, A9, H⟩ := H
 (try dsimp only at H)
 replace H := ifp H
 obtain ⟨c10, H⟩ := H
 have aP := decide_eq_true c10
 clear c10
 obtain ⟨ak, ag⟩ : ∃ y_ : List Int, y_ = (ac.set (aa : Int).toNat ae) := ⟨_, rfl⟩
 replace H : (omega_ranks.l0 k1 ak l0 (l0.length : Int) (wrap64 (aa + 1))) = some r := hrp ag H
 have ap := am ag
 clear ag
 have H' := am H
 clear H
 obtain ⟨aW, aX, aO, aF, ax⟩ := bint aS.1 HB.1 aa
 cases aF
 go_wp2_with (first | ((with_reducible refine gate_callee (f := 69) rfl ?_); refine gC 19 Try.func69 _ (omega_rank.calls (rd l0 aa) ae _ A9.1) ?_; rintro e w' ⟨rfl, ⟨nd, rfl⟩⟩; refine ⟨_, rfl, ?_⟩; (try (rw [drewN_self wr]; generalize hq_ : World.drewN wr _ = wr; replace ab : Aside0 (Kd.R (Kd.int .i64) 3 wr w.heap.size (fun _ => True) av ac) := ⟨by rw [← hq_]; exact (pkr ab.1)⟩; replace HB : Aside0 (Below w.heap.size w wr) := ⟨by rw [← hq_]; exact pbl⟩; clear hq_)); have aK : 0 ≤ (aa : Int) := dq; have aL : (aa : Int) < ((ac.length : Int) : Int) := dq; obtain ⟨aj, aE, aq, ar, aG, aV, al⟩ := Kd.R_form ab.1 (by omega); (first | cases aq | (injection aq with ea_ en_ ec_; (first | subst ea_ | (injection ea_ with ea_; subst ea_)); subst ec_; clear en_)); have ay := am ar; have aR := am al; clear ar aG al; obtain ⟨aI, aH⟩ := Kd.R_celln 0 ab.1 (aa : Int) aK aL; replace aK := eq_true aK; replace aL := eq_true aL; obtain ⟨hy12_, hz12_⟩ := Kd.R_celln 0 ab.1 (aa : Int) (dq) (dq); have ai := Kd.R_putg ab.1 (aa : Int) ae) | ((with_reducible refine gate_store (t := 3) (p := 20) rfl ?_); refine store_event (t := 3) (p := 20) (v := ?vo_w13) (w1 := (wr.setCell ⟨aj, (aa : Int).toNat, none⟩ (.int .i64 ae))) ?hg ?ho ?hn ?hr ?_; (case ho => rfl); (case hg => rfl); (case hn => rfl); (case hr => first | (go_simp; done) | (go_simp; rfl)); intro aM hw; have hg : wr.grownBy aM (some aj) := (by rw [hw]; exact ai.2); have hp_ : Kd.R (Kd.int .i64) 3 aM w.heap.size (fun _ => True) (.slice (some ⟨aj, 0, none⟩) ac.length aE) ak := (by rw [hw, ap.1]; exact ai.1); clear ai; replace ab := am hp_; replace HB := am ((by rw [hw]; exact below_set (HB.1) ay.1 : Below w.heap.size w aM)); clear hg hw hp_))
 go_roundg k1
 case measure => have := aN.1; omega
 case rel => exact ⟨(ak), (wrap64 (aa + 1)), prs, H', ⟨by have := aN.1; omega⟩, ⟨pkr ab.1⟩, ⟨pbg⟩⟩

/-! ### omega_Leq: function 68 -/
def omega_Leq.f (k : Nat) (l0 : List Int) (l1 : List Int) : Option (Bool) := (omega_Valid.f k l0 (l1.length : Int)).bind fun af => (if af = true then ((omega_Valid.f k l1 (l1.length : Int)).bind fun ag => (if ag = true then ((omega_ranks.f k l0).bind fun ac => ((omega_ranks.f k l1).bind fun ae => ((marking_Leq.f k ac ae).bind fun ah => (some ah)))) else (some false))) else (some false))
theorem omega_Leq.mono : ∀ a0 a1 k, LeO (omega_Leq.f k a0 a1) (omega_Leq.f (k + 1) a0 a1) := by
 intro a0 a1 k
 unfold omega_Leq.f
 repeat' first | (with_reducible first | apply marking_Leq.mono | apply omega_Valid.mono | apply omega_ranks.mono | apply lr | apply ln | apply li | refine lb ?_ fun _ => ?_)
set_option maxHeartbeats 8000000 in
set_option maxRecDepth 100000 in
theorem omega_Leq.calls (k : Nat) (A0 : Option Addr) (c0 : Nat) (l0 : List Int) (A1 : Option Addr) (c1 : Nat) (l1 : List Int) (r : Bool) (w : World) (au : Kd.C (Kd.int .i64) w A0 l0.length l0) (hc0 : l0.length ≤ c0) (av : Kd.C (Kd.int .i64) w A1 l1.length l1) (ar : l1.length ≤ c1) (h : omega_Leq.f k l0 l1 = some r) :
  Calls Try.prog 68 #[.slice A0 l0.length c0, .slice A1 l1.length c1] w fun e w' => e = .returned (.bool r) ∧ Below w.heap.size w w' := by
 have ak := am au
 have aj := am hc0
 clear au hc0
 have ao := am av
 have al := am ar
 clear av ar
 have HB := am (Below.refl w.heap.size w)
 have H := h
 unfold omega_Leq.f at H
 clear h
 replace H := bnd H
 obtain ⟨af, A3, H⟩ := H
 (try dsimp only at H)
 cases af
 ·rw [if_neg Bool.false_ne_true] at H
  obtain rfl := Option.some.inj H
  go_enter Try.func68, Try.ntmps68
  go_wp2_with (first | ((with_reducible refine gate_callee (f := 61) rfl ?_); refine gC 8 Try.func61 _ (omega_Valid.calls k _ _ l0 (l1.length : Int) false _ (csd ak.1) aj.1 A3.1) ?_; rintro e aI ⟨rfl, hb⟩; refine ⟨_, rfl, ?_⟩; replace HB := bsl hb; (try clear hb)))
  go_ret
  exact ⟨per, pbg⟩
 rw [if_pos rfl] at H
 replace H := bnd H
 obtain ⟨ag, A5, H⟩ := H
 (try dsimp only at H)
 cases ag
 ·rw [if_neg Bool.false_ne_true] at H
  obtain rfl := Option.some.inj H
  go_enter Try.func68, Try.ntmps68
  go_wp2_with (first | ((with_reducible refine gate_callee (f := 61) rfl ?_); refine gC 8 Try.func61 _ (omega_Valid.calls k _ _ l0 (l1.length : Int) true _ (csd ak.1) aj.1 A3.1) ?_; rintro e aG ⟨rfl, hb⟩; refine ⟨_, rfl, ?_⟩; replace HB := bsl hb; (try clear hb)) | (go_at_call 61; (with_reducible refine (omega_Valid.calls k _ _ l1 (l1.length : Int) false _ ?side1 ?side2 A5.1).mono ?_); (case side1 => exact csb ao HB); (case side2 => exact al.1); rintro e aH ⟨rfl, hb⟩; replace HB := bsl hb; (try clear hb)))
  go_ret
  exact ⟨per, pbg⟩
 rw [if_pos rfl] at H
 replace H := bnd H
 obtain ⟨ac, A7, H⟩ := H
 (try dsimp only at H)
 replace H := bnd H
 obtain ⟨ae, A8, H⟩ := H
 (try dsimp only at H)
 replace H := bnd H
 obtain ⟨ah, A9, H⟩ := H
 (try dsimp only at H)
 obtain rfl := Option.some.inj H
 go_enter Try.func68, Try.ntmps68
 go_wp2_with (first | ((with_reducible refine gate_callee (f := 61) rfl ?_); refine gC 8 Try.func61 _ (omega_Valid.calls k _ _ l0 (l1.length : Int) true _ (csd ak.1) aj.1 A3.1) ?_; rintro e aC ⟨rfl, hb⟩; refine ⟨_, rfl, ?_⟩; replace HB := bsl hb; (try clear hb)) | (go_at_call 61; (with_reducible refine (omega_Valid.calls k _ _ l1 (l1.length : Int) true _ ?side1 ?side2 A5.1).mono ?_); (case side1 => exact csb ao HB); (case side2 => exact al.1); rintro e aD ⟨rfl, hb⟩; replace HB := bsl hb; (try clear hb)) | (go_at_call 79; (with_reducible refine (omega_ranks.calls k _ _ l0 ac _ ?side1 ?side2 A7.1).mono ?_); (case side1 => exact csb ak HB); (case side2 => exact aj.1); rintro e aE ⟨aA, rfl, ai, hb⟩; have aa := am (Kd.R_lower ai (below_size pbl)); replace HB := bsl hb; (try clear hb); (try clear ai)) | (go_at_call 79; (with_reducible refine (omega_ranks.calls k _ _ l1 ae _ ?side1 ?side2 A8.1).mono ?_); (case side1 => exact csb ao HB); (case side2 => exact al.1); rintro e aF ⟨aB, rfl, ai, hb⟩; have ab := am (Kd.R_lower (Kd.R_new' ai (Kd.R_lt (pkr aa.1))) (below_size pbl)); replace aa := am (Kd.R_elder' (pkr aa.1) (Kd.R_base ai) hb); replace HB := bsl hb; (try clear hb); (try clear ai); obtain ⟨aw, ay, ap⟩ := Kd.R_slice aa.1; subst ap; obtain ⟨ax, az, aq⟩ := Kd.R_slice ab.1; subst aq) | (go_at_call 78; (with_reducible refine (marking_Leq.calls k _ _ ac _ _ ae ah _ ?side1 ?side2 ?side3 ?side4 A9.1).mono ?_); (case side1 => exact csd ((Kd.R_reads' aa.1).2.2)); (case side2 => exact (Kd.R_reads' aa.1).2.1); (case side3 => exact csd ((Kd.R_reads' ab.1).2.2)); (case side4 => exact (Kd.R_reads' ab.1).2.1); rintro e w' ⟨rfl, ⟨nd, rfl⟩⟩))
 go_ret
 exact ⟨per, pbg⟩

/-! ### karpmiller_equal: function 53 -/
def karpmiller_equal.l0 : Nat → List Int → List Int → Int → Int → Option (Bool)
 | 0, _, _, _, _ => none
 | k + 1, x1, x12, x13, x14 => if x14 < x13 then (if 0 ≤ x14 then (if x14 < (x12.length : Int) then (if x14 < (x1.length : Int) then (if (rd x1 x14) = (rd x12 x14) then (karpmiller_equal.l0 k x1 x12 x13 (wrap64 (x14 + 1))) else (some false)) else (none)) else (none)) else (none)) else (some true)
def karpmiller_equal.f (k : Nat) (l0 : List Int) (l1 : List Int) : Option (Bool) := if (l0.length : Int) = (l1.length : Int) then (karpmiller_equal.l0 k l1 l0 (l0.length : Int) 0) else (some false)
theorem karpmiller_equal.mono_l : ∀ k, M4 karpmiller_equal.l0 k
 | 0 => fun _ _ _ _ r h => by simp [karpmiller_equal.l0] at h
 | k + 1 => by
  have aq := karpmiller_equal.mono_l k
  ·intro y0 y1 y2 y3
   unfold karpmiller_equal.l0
   repeat' first | (with_reducible first | apply aq | apply lr | apply ln | apply li | refine lb ?_ fun _ => ?_)
theorem karpmiller_equal.mono : ∀ a0 a1 k, LeO (karpmiller_equal.f k a0 a1) (karpmiller_equal.f (k + 1) a0 a1) := by
 intro a0 a1 k
 have aq := karpmiller_equal.mono_l k
 unfold karpmiller_equal.f
 repeat' first | (with_reducible first | apply aq | apply lr | apply ln | apply li | refine lb ?_ fun _ => ?_)
set_option maxHeartbeats 8000000 in
set_option maxRecDepth 100000 in
theorem karpmiller_equal.calls (k : Nat) (A0 : Option Addr) (c0 : Nat) (l0 : List Int) (A1 : Option Addr) (c1 : Nat) (l1 : List Int) (r : Bool) (w : World) (aB : Kd.C (Kd.int .i64) w A0 l0.length l0) (hc0 : l0.length ≤ c0) (aC : Kd.C (Kd.int .i64) w A1 l1.length l1) (aA : l1.length ≤ c1) (h : karpmiller_equal.f k l0 l1 = some r) :
  Calls Try.prog 53 #[.slice A0 l0.length c0, .slice A1 l1.length c1] w fun e w' => e = .returned (.bool r) ∧ Drawn0 w w' := by
 have ay := am aB
 have aH := am hc0
 clear aB hc0
 have az := am aC
 have aI := am aA
 clear aC aA
 have H := h
 unfold karpmiller_equal.f at H
 clear h
 by_cases c3 : (l0.length : Int) = (l1.length : Int)
 rotate_left
 ·rw [if_neg c3] at H
  have ai : ((l0.length : Int) == (l1.length : Int)) = false := beq_eq_false_iff_ne.mpr c3
  have aj : ((l0.length : Int) != (l1.length : Int)) = true := bne_iff_ne.mpr c3
  have ak : (l0.length == l1.length) = false := by first | simpa using c3 | (simp at c3 ⊢; omega)
  obtain rfl := Option.some.inj H
  go_enter Try.func53, Try.ntmps53
  go_wp2
  go_ret
  exact ⟨prs, pdr⟩
 rw [if_pos c3] at H
 have ai : ((l0.length : Int) == (l1.length : Int)) = true := beq_iff_eq.mpr c3
 have aj : ((l0.length : Int) != (l1.length : Int)) = false := bne_eq_false_iff_eq.mpr c3
 have ak : (l0.length == l1.length) = true := by first | simpa using c3 | (simp at c3 ⊢; omega)
 clear c3
 have H' := am H
 clear H
 go_enter Try.func53, Try.ntmps53
 go_wp2
 go_loopg [14] k (fun kq aG w' => ∃ (aa : Int), aG = .int .i64 aa ∧ Aside0 (karpmiller_equal.l0 kq l1 l0 (l0.length : Int) aa = some r) ∧ Aside0 (kq ≤ k) ∧ Drawn0 w w')
 case atStart => exact ⟨(0), prs, H', ⟨Nat.le_refl _⟩, pdr⟩
 clear H'
 try clear c1 c3 ai aj ak
 obtain ⟨aa, rfl, HA, ax, ⟨m1, rfl⟩⟩ := hrel
 obtain _ | k1 := gk
 ·exact absurd HA.1 (by simp [karpmiller_equal.l0])
 have H := HA.1
 clear HA
 simp only [karpmiller_equal.l0] at H
 replace H := ifl H
 rcases H with ⟨al, H⟩ | ⟨al, H⟩
 rotate_left
 ·obtain rfl := Option.some.inj H
  go_wp2
  go_ret
  exact ⟨prs, pdr⟩
 replace H := ifp H
 obtain ⟨c5, H⟩ := H
 have aD := decide_eq_true c5
 clear c5
 replace H := ifp H
 obtain ⟨c6, H⟩ := H
 have aE := decide_eq_true c6
 clear c6
 replace H := ifp H
 obtain ⟨c7, H⟩ := H
 have aF := decide_eq_true c7
 clear c7
 replace H := ife H
 rcases H with ⟨ao, ap, H⟩ | ⟨ao, ap, H⟩
 rotate_left
 ·obtain rfl := Option.some.inj H
  obtain ⟨ar, av, ag, ae, ab⟩ := dint ay.1 aa
  cases ae
  obtain ⟨au, aw, ah, af, ac⟩ := dint az.1 aa
  cases af
  go_wp2
  go_ret
  exact ⟨prs, pdr⟩
 have H' := am H
 clear H
 obtain ⟨ar, av, ag, ae, ab⟩ := dint ay.1 aa
 cases ae
 obtain ⟨au, aw, ah, af, ac⟩ := dint az.1 aa
 cases af
 go_wp2
 go_roundg k1
 case measure => have := ax.1; omega
 case rel => exact ⟨(wrap64 (aa + 1)), prs, H', ⟨by have := ax.1; omega⟩, pdr⟩

/-! ### karpmiller_again: function 47 -/
def karpmiller_again.l0 : Nat → List Int → List (S48) → Int → Int → Option (Bool)
 | 0, _, _, _, _ => none
 | k + 1, x1, x7, x8, x9 => if x9 < x8 then (if 0 ≤ x9 then (if x9 < (x7.length : Int) then ((karpmiller_equal.f k ((rd_T48 x7 x9).f2) x1).bind fun ap => (if ap = true then (some true) else (karpmiller_again.l0 k x1 x7 x8 (wrap64 (x9 + 1))))) else (none)) else (none)) else (some false)
def karpmiller_again.f (k : Nat) (l0 : List (S48)) (l1 : List Int) : Option (Bool) := karpmiller_again.l0 k l1 l0 (l0.length : Int) 0
theorem karpmiller_again.mono_l : ∀ k, M4 karpmiller_again.l0 k
 | 0 => fun _ _ _ _ r h => by simp [karpmiller_again.l0] at h
 | k + 1 => by
  have aw := karpmiller_again.mono_l k
  ·intro y0 y1 y2 y3
   unfold karpmiller_again.l0
   repeat' first | (with_reducible first | apply aw | apply karpmiller_equal.mono | apply lr | apply ln | apply li | refine lb ?_ fun _ => ?_)
theorem karpmiller_again.mono : ∀ a0 a1 k, LeO (karpmiller_again.f k a0 a1) (karpmiller_again.f (k + 1) a0 a1) := by
 intro a0 a1 k
 have aw := karpmiller_again.mono_l k
 unfold karpmiller_again.f
 repeat' first | (with_reducible first | apply aw | apply karpmiller_equal.mono | apply lr | apply ln | apply li | refine lb ?_ fun _ => ?_)
set_option maxHeartbeats 8000000 in
set_option maxRecDepth 100000 in
theorem karpmiller_again.calls (k : Nat) (A0 : Option Addr) (c0 : Nat) (l0 : List (S48)) (A1 : Option Addr) (c1 : Nat) (l1 : List Int) (r : Bool) (w : World) (aE : Kd.C k48 w A0 l0.length l0) (hc0 : l0.length ≤ c0) (aF : Kd.C (Kd.int .i64) w A1 l1.length l1) (aD : l1.length ≤ c1) (h : karpmiller_again.f k l0 l1 = some r) :
  Calls Try.prog 47 #[.slice A0 l0.length c0, .slice A1 l1.length c1] w fun e w' => e = .returned (.bool r) ∧ Below w.heap.size w w' := by
 have aI := Try.underlying48
 have aB := am aE
 have aJ := am hc0
 clear aE hc0
 have aC := am aF
 have az := am aD
 clear aF aD
 have HB := am (Below.refl w.heap.size w)
 have H := h
 unfold karpmiller_again.f at H
 clear h
 have H' := am H
 clear H
 go_enter Try.func47, Try.ntmps47
 go_wp2
 go_loopg [9] k (fun kq v9 w' => ∃ (ac : Int), v9 = .int .i64 ac ∧ Aside0 (karpmiller_again.l0 kq l1 l0 (l0.length : Int) ac = some r) ∧ Aside0 (kq ≤ k) ∧ Aside0 (Below w.heap.size w w'))
 case atStart => exact ⟨(0), prs, H', ⟨Nat.le_refl _⟩, ⟨pbg⟩⟩
 clear H'
 try clear c1
 obtain ⟨ac, rfl, HA, aA, HB⟩ := hrel
 obtain _ | k1 := gk
 ·exact absurd HA.1 (by simp [karpmiller_again.l0])
 have H := HA.1
 clear HA
 simp only [karpmiller_again.l0] at H
 replace H := ifl H
 rcases H with ⟨av, H⟩ | ⟨av, H⟩
 rotate_left
 ·obtain rfl := Option.some.inj H
  go_wp2
  go_ret
  exact ⟨per, pbg⟩
 replace H := ifp H
 obtain ⟨c4, H⟩ := H
 have aG := decide_eq_true c4
 clear c4
 replace H := ifp H
 obtain ⟨c5, H⟩ := H
 have aH := decide_eq_true c5
 clear c5
 replace H := bnd H
 obtain ⟨ap, A6, H⟩ := H
 (try dsimp only at H)
 cases ap
 rotate_left
 ·rw [if_pos rfl] at H
  obtain rfl := Option.some.inj H
  obtain ⟨ax, ay, ar, ak, al, ao, ag, ah, ai, aj, aa, ab⟩ := bT48 aB.1 HB.1 ac
  cases ao
  go_wp2_with (first | ((with_reducible refine gate_dst (N := 6) rfl ?_); refine box_ev (N := 6) (cs := #[.int .i64 0, .int .i64 0, .slice none 0 0, .bool false]) (t := 48) ?_; intro au hg w8 hbox hb; have ae := am hbox; have af := gwl hg; have aq := af; replace HB := bsl hb; clear hb hbox hg; have z9 := cf4 ae.1) | ((with_reducible refine gate_callee (f := 53) rfl ?_); refine gC 16 Try.func53 _ (karpmiller_equal.calls k1 _ _ ((rd_T48 l0 ac).f2) _ _ l1 true _ (Kd.C_below ab.1 pbg) aa.1 (Kd.C_below aC.1 pbg) az.1 A6.1) ?_; rintro e w' ⟨rfl, ⟨nd, rfl⟩⟩; refine ⟨_, rfl, ?_⟩))
  go_ret
  exact ⟨per, pbg⟩
 rw [if_neg Bool.false_ne_true] at H
 have H' := am H
 clear H
 obtain ⟨ax, ay, ar, ak, al, ao, ag, ah, ai, aj, aa, ab⟩ := bT48 aB.1 HB.1 ac
 cases ao
 go_wp2_with (first | ((with_reducible refine gate_dst (N := 6) rfl ?_); refine box_ev (N := 6) (cs := #[.int .i64 0, .int .i64 0, .slice none 0 0, .bool false]) (t := 48) ?_; intro au hg aK hbox hb; have ae := am hbox; have af := gwl hg; have aq := af; replace HB := bsl hb; clear hb hbox hg; have aL := cf4 ae.1) | ((with_reducible refine gate_callee (f := 53) rfl ?_); refine gC 16 Try.func53 _ (karpmiller_equal.calls k1 _ _ ((rd_T48 l0 ac).f2) _ _ l1 false _ (Kd.C_below ab.1 pbg) aa.1 (Kd.C_below aC.1 pbg) az.1 A6.1) ?_; rintro e w' ⟨rfl, ⟨nd, rfl⟩⟩; refine ⟨_, rfl, ?_⟩))
 go_roundg k1
 case measure => have := aA.1; omega
 case rel => exact ⟨(wrap64 (ac + 1)), prs, H', ⟨by have := aA.1; omega⟩, ⟨pbg⟩⟩

/-! ### petrinetlaw22_source: function 35 -/
def petrinetlaw22_source.f  : Option (ByteArray × (List (S57)) × (List (S60))) := some ((⟨#[110]⟩ : ByteArray), (([(⟨(⟨#[112]⟩ : ByteArray), 0, 0⟩ : S57)] : List (S57))), (([(⟨(⟨#[116]⟩ : ByteArray), ([] : List (S78)), (([(⟨0, 1⟩ : S78)] : List (S78))), ([] : List (S78)), 0⟩ : S60)] : List (S60))))
set_option maxHeartbeats 8000000 in
set_option maxRecDepth 100000 in
theorem petrinetlaw22_source.calls  (r1 : ByteArray) (r2 : List (S57)) (r3 : List (S60)) (w : World) (h : petrinetlaw22_source.f  = some (r1, r2, r3)) :
  Calls Try.prog 35 #[] w fun e w' => ∃ v1_ v2_ : Value, e = .returned (.agg #[.string r1, v1_, v2_]) ∧ Kd.R k57 57 w' w.heap.size (fun k_ => (w.heap.size ≤ k_)) v1_ r2 ∧ Kd.N k60 60 w' w.heap.size (fun k_ => (w.heap.size ≤ k_) ∧ some k_ ≠ (v1_ : Value).ownBlock) v2_ r3 ∧ Below w.heap.size w w' := by
 have aI := Try.underlying25
 have aJ := Try.underlying57
 have aL := Try.underlying78
 have aK := Try.underlying60
 have HB := am (Below.refl w.heap.size w)
 have H := h
 unfold petrinetlaw22_source.f at H
 clear h
 obtain ⟨ak, ag⟩ : ∃ y_ : List (S57), y_ = (([(⟨(⟨#[112]⟩ : ByteArray), 0, 0⟩ : S57)] : List (S57))) := ⟨_, rfl⟩
 replace H : (some ((⟨#[110]⟩ : ByteArray), ak, (([(⟨(⟨#[116]⟩ : ByteArray), ([] : List (S78)), (([(⟨0, 1⟩ : S78)] : List (S78))), ([] : List (S78)), 0⟩ : S60)] : List (S60))))) = some (r1, r2, r3) := hrp ag H
 have ao := am ag
 clear ag
 obtain ⟨ae, ah⟩ : ∃ y_ : List (S78), y_ = (([(⟨0, 1⟩ : S78)] : List (S78))) := ⟨_, rfl⟩
 replace H : (some ((⟨#[110]⟩ : ByteArray), ak, (([(⟨(⟨#[116]⟩ : ByteArray), ([] : List (S78)), ae, ([] : List (S78)), 0⟩ : S60)] : List (S60))))) = some (r1, r2, r3) := hrp ah H
 have ap := am ah
 clear ah
 obtain ⟨ax, ai⟩ : ∃ y_ : List (S60), y_ = (([(⟨(⟨#[116]⟩ : ByteArray), ([] : List (S78)), ae, ([] : List (S78)), 0⟩ : S60)] : List (S60))) := ⟨_, rfl⟩
 replace H : (some ((⟨#[110]⟩ : ByteArray), ak, ax)) = some (r1, r2, r3) := hrp ai H
 have aq := am ai
 clear ai
 simp only [Option.some.injEq, Prod.mk.injEq] at H
 obtain ⟨rfl, rfl, rfl⟩ := H
 go_enter Try.func35, Try.ntmps35
 go_wp2_with (first | ((with_reducible refine gate_dst (N := 0) rfl ?_); refine box_ev (N := 0) (cs := #[.string (⟨#[]⟩ : ByteArray), .slice none 0 0, .slice none 0 0]) (t := 25) ?_; intro ab hg w1 hbox hb; have aa := am hbox; have ar := gwl hg; have aC := ar; replace HB := bsl hb; clear hb hbox hg) | ((with_reducible refine gate_dst (N := 2) rfl ?_); refine Kd.R_lit k57 _ 57 ?hg (N := 2) ?hd (xs := ([(⟨(⟨#[112]⟩ : ByteArray), 0, 0⟩ : S57)] : List (S57))) (inner := [.string (⟨#[112]⟩ : ByteArray), .int .i64 0, .int .i64 0]) (ok := fun _ => True) (okp := fun _ => True) ?hr ?hp (fun _ hk => hk) trivial (Below.refl _ _) (Nat.le_refl _) (by simp) ?_; (case hd => rfl); (case hg => rfl); (case hr => first | (go_simp; done) | (go_simp; rfl)); (case hp => exact (Reps.c3 (show Kd.M k57 _ _ _ (⟨(⟨#[112]⟩ : ByteArray), 0, 0⟩ : S57) [.string (⟨#[112]⟩ : ByteArray), .int .i64 0, .int .i64 0] from (k57_mkM _ _ _ (⟨(⟨#[112]⟩ : ByteArray), 0, 0⟩ : S57) )) (Reps.none _ _))); intro aj w2 au hb hg_ hnew_; clear hg_ hnew_; (first | rw [← ao.1] at au | (simp only [Int.reduceToNat] at au; rw [← ao.1] at au)); have ac := am (Kd.R_lower (Kd.R_newM (M := fun k_ => (w.heap.size ≤ k_)) au (below_size pbg) (fun k_ h_ => h_)) (below_size pbg)); replace aa := bbh aa hb; replace HB := bst hb; clear hb au) | ((with_reducible refine gate_dst (N := 4) rfl ?_); refine Kd.R_lit k78 _ 78 ?hg (N := 4) ?hd (xs := ([(⟨0, 1⟩ : S78)] : List (S78))) (inner := [.int .i64 0, .int .i64 1]) (ok := fun _ => True) (okp := fun _ => True) ?hr ?hp (fun _ hk => hk) trivial (Below.refl _ _) (Nat.le_refl _) (by simp) ?_; (case hd => rfl); (case hg => rfl); (case hr => first | (go_simp; done) | (go_simp; rfl)); (case hp => exact (Reps.c2 (show Kd.M k78 _ _ _ (⟨0, 1⟩ : S78) [.int .i64 0, .int .i64 1] from (k78_mkM _ _ _ (⟨0, 1⟩ : S78) )) (Reps.none _ _))); intro aM w4 av hb hg_ hnew_; clear hg_ hnew_; (first | rw [← ap.1] at av | (simp only [Int.reduceToNat] at av; rw [← ap.1] at av)); have af := am (Kd.R_lower (Kd.R_newM (M := fun k_ => (w.heap.size ≤ k_)) av (below_size pbg) (fun k_ h_ => h_)) (below_size pbg)); replace ac := rbw ac hb; replace aa := bbh aa hb; replace HB := bst hb; clear hb av; obtain ⟨aB, aD, aG⟩ := Kd.R_slice af.1; subst aG) | ((with_reducible refine gate_dst (N := 6) rfl ?_); refine Kd.N_lit k60 _ 60 ?hg (N' := 6) ?hd (xs := ([(⟨(⟨#[116]⟩ : ByteArray), ([] : List (S78)), ae, ([] : List (S78)), 0⟩ : S60)] : List (S60))) (inner := [.string (⟨#[116]⟩ : ByteArray), .slice none 0 0, .slice aB ae.length aD, .slice none 0 0, .int .i64 0]) (ok := (fun k_ => (w.heap.size ≤ k_) ∧ some k_ ≠ (aj : Value).ownBlock ∧ k_ ≠ ab)) (okp := (fun k_ => (w.heap.size ≤ k_) ∧ some k_ ≠ (aj : Value).ownBlock ∧ k_ ≠ ab)) ?hr ?hp (fun _ hk => hk) ((show ∀ k_, w4.heap.size ≤ k_ → (fun k_ => (w.heap.size ≤ k_) ∧ some k_ ≠ (aj : Value).ownBlock ∧ k_ ≠ ab) k_ from fun k_ hk => ⟨(Nat.le_trans (below_size pbg) hk), Kd.fresh' (Kd.R_lt (pkr ac.1)) k_ hk, Kd.freshB (g := ab) (o := .cells #[.string (⟨#[]⟩ : ByteArray), .slice none 0 0, .slice none 0 0] 25 (0, 0)) (by exact pbk aa.1) k_ hk⟩) _ (Nat.le_refl _)) (Below.refl _ _) (Nat.le_refl _) (by simp) ?_; (case hd => rfl); (case hg => rfl); (case hr => first | (go_simp; done) | (go_simp; rfl)); (case hp => exact (Reps.c5 (show Kd.FK k60 _ _ (⟨(⟨#[116]⟩ : ByteArray), ([] : List (S78)), ae, ([] : List (S78)), 0⟩ : S60) [.string (⟨#[116]⟩ : ByteArray), .slice none 0 0, .slice aB ae.length aD, .slice none 0 0, .int .i64 0] from (k60_mkF _ _ (⟨(⟨#[116]⟩ : ByteArray), ([] : List (S78)), ae, ([] : List (S78)), 0⟩ : S60) (Nat.le_refl _) (Kd.F_nil _ _ _) (Kd.R_reads' (Kd.R_mono (ok' := (fun k_ => (w.heap.size ≤ k_) ∧ some k_ ≠ (aj : Value).ownBlock ∧ k_ ≠ ab)) (Kd.R_types (Kd.R_apart' (af.1) (Kd.R_typed ac.1) (by decide)) aa.1 (by decide)) (fun k_ hk => ⟨hk.1.1.1, ⟨hk.1.2, hk.2⟩⟩))).2.1 (Kd.R_F (Kd.R_mono (ok' := (fun k_ => (w.heap.size ≤ k_) ∧ some k_ ≠ (aj : Value).ownBlock ∧ k_ ≠ ab)) (Kd.R_types (Kd.R_apart' (af.1) (Kd.R_typed ac.1) (by decide)) aa.1 (by decide)) (fun k_ hk => ⟨hk.1.1.1, ⟨hk.1.2, hk.2⟩⟩))) (Nat.le_refl _) (Kd.F_nil _ _ _))) (Reps.none _ _))); intro aN w7 aw hb hg_ hnew_; clear hg_ hnew_; (first | rw [← aq.1] at aw | (simp only [Int.reduceToNat] at aw; rw [← aq.1] at aw)); have al := am (Kd.N_lower aw (below_size pbg)); replace ac := rbw ac hb; replace aa := bbh aa hb; replace HB := bst hb; clear af; clear hb aw; obtain ⟨aE, aF, aH⟩ := Kd.N_slice al.1; subst aH; obtain ⟨ay, az, aA⟩ := Kd.R_slice ac.1; subst aA; have aO := cf3 aa.1))
 refine bodyPost_ret (results_cell_row rfl _ _ ab 25 #[.string (⟨#[110]⟩ : ByteArray), .slice ay ak.length az, .slice aE ax.length aF] (0, 0) _ rfl (by (with_reducible repeat (first | refine blk_drewN ?_ _ | refine blk_drew ?_ | refine blk_alloc ?_ _)); exact bp3 (pbk aa.1)) Try.underlying25 rfl (by kernel_rfl)) rfl ?_
 exact ⟨_, _, per, by (with_reducible repeat (first | apply Kd.R_alloc | apply Kd.R_drewN | apply Kd.R_drew)); exact Kd.R_mono (fR3 ab (Kd.R_types ac.1 aa.1 (by decide)) (fun _ hk => hk.2)) (fun _ hk => hk.1.1), by (with_reducible repeat (first | apply Kd.N_alloc | apply Kd.N_drewN | apply Kd.N_drew)); exact Kd.N_mono (fN3 ab (Kd.N_mono al.1 (fun k_ hk => (⟨hk, hk.2.2⟩ : _ ∧ k_ ≠ ab))) (fun _ hk => hk.2)) (fun _ hk => ⟨hk.1.1, hk.1.2.1⟩), pbg⟩

/-! ### net_Name: function 62 -/
-- IMPORTS Derived.Laws.RangeString
/-- A byte of a name, at its place. -/
def nameC (i c : Int) : Bool := (decide (97 ≤ c) && decide (c ≤ 122)) || c == 95 || (decide (0 < i) && ((decide (48 ≤ c) && decide (c ≤ 57)) || c == 46))
def nameB (s : ByteArray) : Bool := decide (1 ≤ s.size) && decide (s.size ≤ 16) && (List.range s.size).all fun i => nameC (i : Int) (bt s (i : Int))
def net_Name.f (a0 : ByteArray) : Option Bool := some (nameB a0)
/-- A sign that is no single byte is none of a name. -/
theorem decode_far (s : ByteArray) (pos : Nat) (h : pos < s.size) (ha : ¬ (s[pos]'h).toNat < 128) : ¬ (Utf8.decode s pos).1 < 128 := by
 have e : s.get! (pos + 0) = s[pos]'h := by
  show s.get! pos = _
  simp [ByteArray.get!, getElem!_pos, h]
  rfl
 unfold Utf8.decode
 simp only [e]
 rw [if_neg ha]
 repeat' first | split
 all_goals simp_all [Utf8.runeError]
 all_goals omega
theorem next_some {b pos : Nat} {s : ByteArray} {W : World} (P : Program) (ty : TypeId) (hb : W.heap[b]? = some (.stringIter s pos)) (h : pos < s.size) :
  (Instr.next (.pointer (some ⟨b, 0, none⟩)) true ty).run P W = .ok (.tuple #[.bool true, .int .i64 pos, .int .i32 (Utf8.decode s pos).1]) { W with heap := W.heap.setIfInBounds b (.stringIter s (pos + (Utf8.decode s pos).2)) } := by
 simp [Instr.next, getObj, setObj, Sem.run, hb, h, goInt]
theorem next_none {b pos : Nat} {s : ByteArray} {W : World} (P : Program) (ty : TypeId) (hb : W.heap[b]? = some (.stringIter s pos)) (h : ¬ pos < s.size) :
  (Instr.next (.pointer (some ⟨b, 0, none⟩)) true ty).run P W = .ok (.tuple #[.bool false]) W := by
 simp [Instr.next, getObj, Sem.run, hb, h]
theorem iter_step {w wr w2 : World} {b pos pos' : Nat} {s : ByteArray} (hb : wr.heap[b]? = some (.stringIter s pos)) (hB : Below w.heap.size w wr) (hn : w.heap.size ≤ b) (h : w2 = { wr with heap := wr.heap.setIfInBounds b (.stringIter s pos') }) :
  w2.heap[b]? = some (.stringIter s pos') ∧ Below w.heap.size w w2 := by
 subst h
 refine ⟨?_, hB.os, hB.tape, hB.output, by simpa using hB.size, fun k hk => ?_⟩
 ·obtain ⟨h1, h2⟩ := Array.getElem?_eq_some_iff.mp hb
  simp [Array.getElem?_setIfInBounds, h1]
 ·rw [← hB.block k hk]
  show (wr.heap.setIfInBounds b _)[k]? = _
  rw [Array.getElem?_setIfInBounds, if_neg (by omega)]
theorem nameB_no {s : ByteArray} {i : Nat} (hi : i < s.size) (h : nameC (i : Int) (bt s (i : Int)) = false) : nameB s = false := by
 unfold nameB
 rw [Bool.and_eq_false_iff]
 refine .inr (Bool.eq_false_iff.2 fun e => ?_)
 have := List.all_eq_true.1 e i (List.mem_range.2 hi)
 rw [h] at this
 cases this
theorem nameB_yes {s : ByteArray} (h1 : 1 ≤ s.size) (h2 : s.size ≤ 16) (h : ∀ i, i < s.size → nameC (i : Int) (bt s (i : Int)) = true) : nameB s = true := by
 unfold nameB
 rw [decide_eq_true h1, decide_eq_true h2, Bool.true_and, Bool.true_and]
 exact List.all_eq_true.2 fun i hi => h i (List.mem_range.1 hi)
/-- The sign at a place: its first byte if that is a sign, and none of a name otherwise. -/
theorem sign_at (s : ByteArray) (pos : Nat) (h : pos < s.size) (i : Int) : nameC i ((Utf8.decode s pos).1 : Int) = nameC i (bt s (pos : Int)) ∧ (nameC i ((Utf8.decode s pos).1 : Int) = true → (Utf8.decode s pos).2 = 1) := by
 have hb : bt s (pos : Int) = ((s[pos]'h).toNat : Int) := by unfold bt; rw [dif_pos (by simpa using h)]; simp
 by_cases ha : (s[pos]'h).toNat < 128
 ·rw [decode_ascii s pos h ha]
  exact ⟨by rw [hb], fun _ => rfl⟩
 ·have hf := decode_far s pos h ha
  have no : ∀ c : Int, ¬ c < 128 → nameC i c = false := fun c hc => by
   unfold nameC
   rw [decide_eq_false (show ¬ c ≤ 122 by omega), decide_eq_false (show ¬ c ≤ 57 by omega), beq_eq_false_iff_ne.2 (show c ≠ 95 by omega), beq_eq_false_iff_ne.2 (show c ≠ 46 by omega)]
   simp
  rw [no _ (by omega), no (bt s (pos : Int)) (by rw [hb]; omega)]
  exact ⟨rfl, fun h => by cases h⟩

set_option maxHeartbeats 4000000 in
set_option maxRecDepth 100000 in
theorem net_Name.calls (a0 : ByteArray) (r : Bool) (w : World) (h : net_Name.f a0 = some r) :
  Calls Try.prog 62 #[.string a0] w fun e w' => e = .returned (.bool r) ∧ Below w.heap.size w w' := by
 have hr : nameB a0 = r := Option.some.inj h
 have HR := Aside0.mk hr
 clear h hr
 by_cases c1 : (a0.size : Int) < 1
 ·have hf : nameB a0 = false := by unfold nameB; rw [decide_eq_false (by omega)]; rfl
  have c1b : decide ((a0.size : Int) < 1) = true := decide_eq_true c1
  have c1c : decide (a0.size < 1) = true := decide_eq_true (by omega)
  have aa := Aside0.mk (HR.out.symm.trans hf)
  clear hf HR c1
  go_enter Try.func62, Try.ntmps62
  go_wp2
  go_ret
  have e_ := aa.out
  subst e_
  exact ⟨rfl, Below.refl _ _⟩
 ·have c1b : decide ((a0.size : Int) < 1) = false := decide_eq_false c1
  have c1c : decide (a0.size < 1) = false := decide_eq_false (by omega)
  by_cases c2 : (16 : Int) < (a0.size : Int)
  ·have hf : nameB a0 = false := by unfold nameB; rw [decide_eq_false (show ¬ a0.size ≤ 16 by omega)]; simp
   have c2b : decide ((16 : Int) < (a0.size : Int)) = true := decide_eq_true c2
   have c2c : decide (16 < a0.size) = true := decide_eq_true (by omega)
   have aa := Aside0.mk (HR.out.symm.trans hf)
   clear hf HR c1 c2
   go_enter Try.func62, Try.ntmps62
   go_wp2
   go_ret
   have e_ := aa.out
   subst e_
   exact ⟨rfl, Below.refl _ _⟩
  ·have c2b : decide ((16 : Int) < (a0.size : Int)) = false := decide_eq_false c2
   have c2c : decide (16 < a0.size) = false := decide_eq_false (by omega)
   have S1 := Aside0.mk (show 1 ≤ a0.size by omega)
   have S2 := Aside0.mk (show a0.size ≤ 16 by omega)
   clear c1 c2
   go_enter Try.func62, Try.ntmps62
   go_wp2
   have HI := Aside0.mk (show (w.iter a0 0).heap[w.heap.size]? = some (.stringIter a0 0) from World.iter_heap w a0 0)
   have HB := Aside0.mk (show Below w.heap.size w (w.iter a0 0) from below_alloc (Below.refl _ _) _)
   go_loopg [3] a0.size (fun kq v3 w' => ∃ pos : Nat, Aside0 (kq = a0.size - pos) ∧ Aside0 (w'.heap[w.heap.size]? = some (.stringIter a0 pos)) ∧ Aside0 (∀ i, i < pos → nameC (i : Int) (bt a0 (i : Int)) = true) ∧ Aside0 (Below w.heap.size w w'))
   case atStart => exact ⟨0, ⟨rfl⟩, HI, ⟨fun i hi => absurd hi (Nat.not_lt_zero _)⟩, HB⟩
   case round =>
    clear HI HB
    obtain ⟨pos, HK, HI, HO, HB⟩ := hrel
    by_cases d1 : pos < a0.size
    case neg =>
     have hnx := fun ty => next_none Try.prog ty HI.out d1
     have aa := Aside0.mk (HR.out.symm.trans (nameB_yes S1.out S2.out (fun i hi => HO.out i (by omega))))
     clear d1
     go_wp2
     go_ret
     have e_ := aa.out
     subst e_
     exact ⟨rfl, HB.out⟩
    have ae := fun ty => next_some Try.prog ty HI.out d1
    obtain ⟨ag, ah⟩ := sign_at a0 pos d1 (pos : Int)
    obtain ⟨w2, af⟩ : ∃ w2 : World, w2 = { wr with heap := wr.heap.setIfInBounds w.heap.size (.stringIter a0 (pos + (Utf8.decode a0 pos).2)) } := ⟨_, rfl⟩
    have hit := iter_step HI.out HB.out (Nat.le_refl _) af
    obtain ⟨c, hc⟩ : ∃ c : Int, c = ((Utf8.decode a0 pos).1 : Int) := ⟨_, rfl⟩
    have hnx : ∀ ty, (Instr.next (.pointer (some ⟨w.heap.size, 0, none⟩)) true ty).run Try.prog wr = .ok (.tuple #[.bool true, .int .i64 pos, .int .i32 c]) w2 := fun ty => by rw [af, hc]; exact ae ty
    rw [← hc] at ag ah
    have ab := Aside0.mk ag
    have ac := Aside0.mk ah
    have HIT := Aside0.mk hit
    have D1 := Aside0.mk d1
    clear ag ah hit ae hc af d1
    cases e1 : decide (97 ≤ c) with
    | true =>
     cases e2 : decide (c ≤ 122) with
     | true =>
      have OK := Aside0.mk (show nameC (pos : Int) c = true by unfold nameC; rw [e1, e2]; rfl)
      go_wp2
      go_roundg (a0.size - (pos + 1))
      case measure => have := HK.out; have := D1.out; omega
      case rel =>
       have h1 := HIT.out.1
       rw [ac.out OK.out] at h1
       refine ⟨pos + 1, ⟨rfl⟩, ⟨h1⟩, ⟨fun i hi => ?_⟩, ⟨HIT.out.2⟩⟩
       by_cases e : i = pos
       ·subst e; exact ab.out.symm.trans OK.out
       ·exact HO.out i (by omega)
     | false =>
      cases e3 : (c == 95) with
      | true =>
       have OK := Aside0.mk (show nameC (pos : Int) c = true by unfold nameC; rw [e1, e2, e3]; rfl)
       go_wp2
       go_roundg (a0.size - (pos + 1))
       case measure => have := HK.out; have := D1.out; omega
       case rel =>
        have h1 := HIT.out.1
        rw [ac.out OK.out] at h1
        refine ⟨pos + 1, ⟨rfl⟩, ⟨h1⟩, ⟨fun i hi => ?_⟩, ⟨HIT.out.2⟩⟩
        by_cases e : i = pos
        ·subst e; exact ab.out.symm.trans OK.out
        ·exact HO.out i (by omega)
      | false =>
       cases e4 : decide (0 < (pos : Int)) with
       | true =>
        have e4n : decide (0 < pos) = true := (decide_eq_decide.2 (by omega)).trans e4
        cases e5 : decide (48 ≤ c) with
        | true =>
         cases e6 : decide (c ≤ 57) with
         | true =>
          have OK := Aside0.mk (show nameC (pos : Int) c = true by unfold nameC; rw [e1, e2, e3, e4, e5, e6]; rfl)
          go_wp2
          go_roundg (a0.size - (pos + 1))
          case measure => have := HK.out; have := D1.out; omega
          case rel =>
           have h1 := HIT.out.1
           rw [ac.out OK.out] at h1
           refine ⟨pos + 1, ⟨rfl⟩, ⟨h1⟩, ⟨fun i hi => ?_⟩, ⟨HIT.out.2⟩⟩
           by_cases e : i = pos
           ·subst e; exact ab.out.symm.trans OK.out
           ·exact HO.out i (by omega)
         | false =>
          cases e7 : (c == 46) with
          | true =>
           have OK := Aside0.mk (show nameC (pos : Int) c = true by unfold nameC; rw [e1, e2, e3, e4, e5, e6, e7]; rfl)
           go_wp2
           go_roundg (a0.size - (pos + 1))
           case measure => have := HK.out; have := D1.out; omega
           case rel =>
            have h1 := HIT.out.1
            rw [ac.out OK.out] at h1
            refine ⟨pos + 1, ⟨rfl⟩, ⟨h1⟩, ⟨fun i hi => ?_⟩, ⟨HIT.out.2⟩⟩
            by_cases e : i = pos
            ·subst e; exact ab.out.symm.trans OK.out
            ·exact HO.out i (by omega)
          | false =>
           have aa := Aside0.mk (HR.out.symm.trans (nameB_no D1.out (ab.out.symm.trans (show nameC (pos : Int) c = false by unfold nameC; rw [e1, e2, e3, e4, e5, e6, e7]; rfl))))
           go_wp2
           go_ret
           have e_ := aa.out
           subst e_
           exact ⟨rfl, HIT.out.2⟩
        | false =>
         cases e7 : (c == 46) with
         | true =>
          have OK := Aside0.mk (show nameC (pos : Int) c = true by unfold nameC; rw [e1, e2, e3, e4, e5, e7]; rfl)
          go_wp2
          go_roundg (a0.size - (pos + 1))
          case measure => have := HK.out; have := D1.out; omega
          case rel =>
           have h1 := HIT.out.1
           rw [ac.out OK.out] at h1
           refine ⟨pos + 1, ⟨rfl⟩, ⟨h1⟩, ⟨fun i hi => ?_⟩, ⟨HIT.out.2⟩⟩
           by_cases e : i = pos
           ·subst e; exact ab.out.symm.trans OK.out
           ·exact HO.out i (by omega)
         | false =>
          have aa := Aside0.mk (HR.out.symm.trans (nameB_no D1.out (ab.out.symm.trans (show nameC (pos : Int) c = false by unfold nameC; rw [e1, e2, e3, e4, e5, e7]; rfl))))
          go_wp2
          go_ret
          have e_ := aa.out
          subst e_
          exact ⟨rfl, HIT.out.2⟩
       | false =>
        have e4n : decide (0 < pos) = false := (decide_eq_decide.2 (by omega)).trans e4
        have aa := Aside0.mk (HR.out.symm.trans (nameB_no D1.out (ab.out.symm.trans (show nameC (pos : Int) c = false by unfold nameC; rw [e1, e2, e3, e4]; rfl))))
        go_wp2
        go_ret
        have e_ := aa.out
        subst e_
        exact ⟨rfl, HIT.out.2⟩
    | false =>
     cases e3 : (c == 95) with
     | true =>
      have OK := Aside0.mk (show nameC (pos : Int) c = true by unfold nameC; rw [e1, e3]; rfl)
      go_wp2
      go_roundg (a0.size - (pos + 1))
      case measure => have := HK.out; have := D1.out; omega
      case rel =>
       have h1 := HIT.out.1
       rw [ac.out OK.out] at h1
       refine ⟨pos + 1, ⟨rfl⟩, ⟨h1⟩, ⟨fun i hi => ?_⟩, ⟨HIT.out.2⟩⟩
       by_cases e : i = pos
       ·subst e; exact ab.out.symm.trans OK.out
       ·exact HO.out i (by omega)
     | false =>
      cases e4 : decide (0 < (pos : Int)) with
      | true =>
       have e4n : decide (0 < pos) = true := (decide_eq_decide.2 (by omega)).trans e4
       cases e5 : decide (48 ≤ c) with
       | true =>
        cases e6 : decide (c ≤ 57) with
        | true =>
         have OK := Aside0.mk (show nameC (pos : Int) c = true by unfold nameC; rw [e1, e3, e4, e5, e6]; rfl)
         go_wp2
         go_roundg (a0.size - (pos + 1))
         case measure => have := HK.out; have := D1.out; omega
         case rel =>
          have h1 := HIT.out.1
          rw [ac.out OK.out] at h1
          refine ⟨pos + 1, ⟨rfl⟩, ⟨h1⟩, ⟨fun i hi => ?_⟩, ⟨HIT.out.2⟩⟩
          by_cases e : i = pos
          ·subst e; exact ab.out.symm.trans OK.out
          ·exact HO.out i (by omega)
        | false =>
         cases e7 : (c == 46) with
         | true =>
          have OK := Aside0.mk (show nameC (pos : Int) c = true by unfold nameC; rw [e1, e3, e4, e5, e6, e7]; rfl)
          go_wp2
          go_roundg (a0.size - (pos + 1))
          case measure => have := HK.out; have := D1.out; omega
          case rel =>
           have h1 := HIT.out.1
           rw [ac.out OK.out] at h1
           refine ⟨pos + 1, ⟨rfl⟩, ⟨h1⟩, ⟨fun i hi => ?_⟩, ⟨HIT.out.2⟩⟩
           by_cases e : i = pos
           ·subst e; exact ab.out.symm.trans OK.out
           ·exact HO.out i (by omega)
         | false =>
          have aa := Aside0.mk (HR.out.symm.trans (nameB_no D1.out (ab.out.symm.trans (show nameC (pos : Int) c = false by unfold nameC; rw [e1, e3, e4, e5, e6, e7]; rfl))))
          go_wp2
          go_ret
          have e_ := aa.out
          subst e_
          exact ⟨rfl, HIT.out.2⟩
       | false =>
        cases e7 : (c == 46) with
        | true =>
         have OK := Aside0.mk (show nameC (pos : Int) c = true by unfold nameC; rw [e1, e3, e4, e5, e7]; rfl)
         go_wp2
         go_roundg (a0.size - (pos + 1))
         case measure => have := HK.out; have := D1.out; omega
         case rel =>
          have h1 := HIT.out.1
          rw [ac.out OK.out] at h1
          refine ⟨pos + 1, ⟨rfl⟩, ⟨h1⟩, ⟨fun i hi => ?_⟩, ⟨HIT.out.2⟩⟩
          by_cases e : i = pos
          ·subst e; exact ab.out.symm.trans OK.out
          ·exact HO.out i (by omega)
        | false =>
         have aa := Aside0.mk (HR.out.symm.trans (nameB_no D1.out (ab.out.symm.trans (show nameC (pos : Int) c = false by unfold nameC; rw [e1, e3, e4, e5, e7]; rfl))))
         go_wp2
         go_ret
         have e_ := aa.out
         subst e_
         exact ⟨rfl, HIT.out.2⟩
      | false =>
       have e4n : decide (0 < pos) = false := (decide_eq_decide.2 (by omega)).trans e4
       have aa := Aside0.mk (HR.out.symm.trans (nameB_no D1.out (ab.out.symm.trans (show nameC (pos : Int) c = false by unfold nameC; rw [e1, e3, e4]; rfl))))
       go_wp2
       go_ret
       have e_ := aa.out
       subst e_
       exact ⟨rfl, HIT.out.2⟩

/-! ### net_Check: function 42 -/
-- IMPORTS Derived.RegionTactic,Derived.BigRegion,Derived.Laws.EntriesVeiled
/-- The names so far, in a variable of the call's own; what else stood there stays. -/
structure NInv (w0 w : World) (Bn : Nat) (ns : List ByteArray) : Prop where
 t : ∃ v, w.heap[Bn]? = some (.cells #[v] 80 (0, 0)) ∧ Kd.R Kd.string 9 w w0.heap.size (fun _ => True) v ns
 B : Below w0.heap.size w0 w
 b : w0.heap.size ≤ Bn
def Others (w w1 : World) : Prop := w.heap.size ≤ w1.heap.size ∧ ∀ (a : Nat) (c : Array Value) (t : Nat), w.heap[a]? = some (.cells c t (0, 0)) → t ≠ 80 → t ≠ 9 → w1.heap[a]? = some (.cells c t (0, 0))
theorem Others.trans {a b c : World} (h : Others a b) (k : Others b c) : Others a c := ⟨Nat.le_trans h.1 k.1, fun x cs t h1 h2 h3 => k.2 x cs t (h.2 x cs t h1 h2 h3) h2 h3⟩
theorem Others.below {w w1 : World} (hb : Below w.heap.size w w1) : Others w w1 := ⟨hb.size, fun a c t h _ _ => blk_below h hb⟩
theorem NInv.below {w0 w w1 : World} {Bn : Nat} {ns : List ByteArray} (h : NInv w0 w Bn ns) (hb : Below w.heap.size w w1) : NInv w0 w1 Bn ns := by
 obtain ⟨⟨v, h1, h2⟩, B, b⟩ := h
 exact ⟨⟨v, blk_below h1 hb, Kd.R_below h2 hb⟩, B.trans (hb.mono B.size), b⟩
theorem NInv.push {w0 w w1 : World} {Bn : Nat} {ns ns' : List ByteArray} (h : NInv w0 w Bn ns) {v v1 : Value} (hT : Kd.R Kd.string 9 w w0.heap.size (fun _ => True) v ns)
  (h1 : Kd.R Kd.string 9 w1 w0.heap.size (fun _ => True) v1 ns') (hb : Below w0.heap.size w0 w1) (hg : w.grownBy w1 v.ownBlock) : NInv w0 (w1.setCell ⟨Bn, 0, none⟩ v1) Bn ns' ∧ Others w (w1.setCell ⟨Bn, 0, none⟩ v1) ∧ w1.cell? ⟨Bn, 0, none⟩ ≠ none ∧ w1.frozen? ⟨Bn, 0, none⟩ = false := by
 obtain ⟨⟨vt, h3, h4⟩, B, b⟩ := h
 have e3 := grown_blk h3 (Kd.R_typed hT) (by decide) hg
 refine ⟨⟨⟨v1, one_setCell e3, Kd.R_set h1 e3 (by decide) _ _⟩, below_set hb b, b⟩, ⟨by simpa using hg.size, fun a c t ha t1 t2 => ?_⟩, by rw [cell_of_one e3]; simp, free_of_one e3⟩
 have ea := grown_blk ha (Kd.R_typed hT) t2 hg
 exact blk_over ea (blk_apart ea e3 t1) _
/-- One more name: an error, or the names with it. -/
def addM (ns : List ByteArray) (s : ByteArray) : Option (Int × List ByteArray) :=
 if nameB s = true then (if (ns.any fun o => o.toList == s.toList) = true then some (6, ns) else (if ns.length < 1000000 then some (0, ns ++ [s]) else none)) else some (5, ns)
theorem any_step (ns : List ByteArray) (s : ByteArray) (i : Nat) (hi : i < ns.length) : ((ns.drop i).any fun o => o.toList == s.toList) = (((rdOf ByteArray.empty ns (i : Int)).toList == s.toList) || ((ns.drop (i + 1)).any fun o => o.toList == s.toList)) := by
 rw [List.drop_eq_getElem_cons hi, List.any_cons]
 unfold rdOf
 rw [Int.toNat_natCast, List.getD_eq_getElem?_getD, List.getElem?_eq_getElem hi]
 rfl

set_option maxHeartbeats 1000000 in
set_option maxRecDepth 100000 in
theorem add_calls (w0 w : World) (Bn : Nat) (ns : List ByteArray) (s : ByteArray) (p : Int × List ByteArray) (h : NInv w0 w Bn ns) (hp : addM ns s = some p) :
  Calls Try.prog 63 #[.string s, .pointer (some ⟨Bn, 0, none⟩)] w fun e w' => e = .returned (.int .i64 p.1) ∧ NInv w0 w' Bn p.2 ∧ Others w w' := by
 have HV := Aside0.mk h
 clear h
 unfold addM at hp
 by_cases c1 : nameB s = true
 case neg =>
  rw [if_neg c1] at hp
  cases hp
  have HN := Aside0.mk (show net_Name.f s = some false by unfold net_Name.f; rw [Bool.not_eq_true] at c1; rw [c1])
  clear c1
  go_enter Try.func63, Try.ntmps63
  go_wp2_with (first | (go_at_call 62; refine (net_Name.calls _ _ _ HN.out).mono ?_; rintro e w' ⟨rfl, hb⟩; have HB := Aside0.mk hb; clear hb))
  go_ret
  exact ⟨rfl, HV.out.below HB.out, Others.below HB.out⟩
 rw [if_pos c1] at hp
 have HN := Aside0.mk (show net_Name.f s = some true by unfold net_Name.f; rw [c1])
 have HP := Aside0.mk hp
 clear c1 hp
 go_enter Try.func63, Try.ntmps63
 go_wp2_with (first | (go_at_call 62; refine (net_Name.calls _ _ _ HN.out).mono ?_; rintro e w1 ⟨rfl, hb⟩; have aA := Aside0.mk (HV.out.below hb); have aJ := Aside0.mk (Others.below hb); obtain ⟨vt, aQ, aR⟩ := aA.out.t; obtain ⟨At, ct, rfl⟩ := Kd.R_slice aR; have a8 := cell_of_one aQ; have HC := Aside0.mk aQ; have HT := Aside0.mk aR; clear hb aQ aR))
 clear HV
 have HD := Aside0.mk (show (ns.any fun o => o.toList == s.toList) = ((ns.drop 0).any fun o => o.toList == s.toList) by rw [List.drop_zero])
 go_loopg [11] ns.length (fun kq bg w' => ∃ i : Nat, bg = .int .i64 i ∧ Aside0 (kq = ns.length - i) ∧ Aside0 (i ≤ ns.length) ∧ Aside0 ((ns.any fun o => o.toList == s.toList) = ((ns.drop i).any fun o => o.toList == s.toList)) ∧ Aside0 (w'.heap[Bn]? = some (.cells #[.slice At ns.length ct] 80 (0, 0))) ∧ Aside0 (Kd.R Kd.string 9 w' w0.heap.size (fun _ => True) (.slice At ns.length ct) ns) ∧ Aside0 (NInv w0 w' Bn ns) ∧ Aside0 (Others w w'))
 case atStart => exact ⟨0, rfl, ⟨rfl⟩, ⟨Nat.zero_le _⟩, HD, HC, HT, aA, aJ⟩
 case round =>
  clear HD HC HT aA aJ a8
  obtain ⟨i, rfl, HK, HI, HD, HC, HT, aA, aJ⟩ := hrel
  by_cases d1 : i < ns.length
  ·have d1b : decide ((i : Int) < (ns.length : Int)) = true := decide_eq_true (by omega)
   have d1c : decide (i < ns.length) = true := decide_eq_true d1
   obtain ⟨gt, gc, eg, _, _, _⟩ := Kd.R_form HT.out (by omega)
   injection eg with eg _ a9
   subst eg a9
   obtain ⟨y1, y2⟩ := Kd.R_celln ByteArray.empty HT.out (i : Int) (by omega) (by omega)
   have HS := Aside0.mk (any_step ns s i d1)
   have D1 := Aside0.mk d1
   rw [Int.toNat_natCast] at y1 y2
   have HM := Aside0.mk (Kd.R_reads' HT.out).2.2.2.1
   cases d2 : ((rdOf ByteArray.empty ns (i : Int)).toList == s.toList) with
   | true =>
    have aN := Aside0.mk (show p = (6, ns) by
     have hp := HP.out
     rw [HD.out, HS.out, d2] at hp
     simpa using hp.symm)
    clear HP
    go_wp2
    go_ret
    have e_ := aN.out
    subst e_
    exact ⟨rfl, aA.out, aJ.out⟩
   | false =>
    go_wp2
    go_roundg (ns.length - (i + 1))
    case measure => have := HK.out; have := D1.out; omega
    case rel => exact ⟨i + 1, by congr 1; have := HM.out; have := D1.out; (first | omega | (unfold wrap64; omega) | (show wrap64 _ = _; unfold wrap64; omega)), ⟨rfl⟩, ⟨D1.out⟩, ⟨by rw [HD.out, HS.out, d2, Bool.false_or]⟩, HC, HT, aA, aJ⟩
  ·have d1b : decide ((i : Int) < (ns.length : Int)) = false := decide_eq_false (by omega)
   have d1c : decide (i < ns.length) = false := decide_eq_false d1
   have hp := HP.out
   have hd : (ns.any fun o => o.toList == s.toList) = false := by rw [HD.out, List.drop_eq_nil_of_le (by omega)]; rfl
   rw [hd, if_neg Bool.false_ne_true] at hp
   by_cases d3 : ns.length < 1000000
   case neg => rw [if_neg d3] at hp; cases hp
   rw [if_pos d3] at hp
   have aN := Aside0.mk (Option.some.inj hp).symm
   have D3 := Aside0.mk d3
   have cb := cell_of_one HC.out
   clear hp hd HP d3
   go_wp2_with (first
    | ((with_reducible refine gate_builtin (b := .append) (xs := #[.tmp 19, .tmp 21]) rfl ?_); at_builtin; refine Kd.R_append Kd.string (w0 := w0) w0.heap.size rfl (.tmp 19) (.tmp 21) 80 9 (.string ⟨#[]⟩) 16 rfl Try.underlying80 info9 rfl (by decide) (by omega) (.slice At ns.length ct) ns s [.string s] (fun _ => True) (fun _ => False) rfl rfl ?aP (fun _ hk => hk.elim) ?aF ?aO ?aB ?aS ?aL ?_; (case aP => exact rfl); (case aF => exact (fun _ _ => trivial)); (case aO => exact HT.out); (case aB => exact aA.out.B); (case aS => exact aA.out.B.size); (case aL => have := D3.out; omega); intro v2 w2 ho hb hg hat; obtain ⟨A2, k2, rfl⟩ := Kd.R_slice ho; have HX := Aside0.mk (NInv.push aA.out HT.out ho hb hg); obtain ⟨c2, bl⟩ := Option.ne_none_iff_exists'.mp HX.out.2.2.1; have hf2 := HX.out.2.2.2; clear ho hb hg hat))
   go_ret
   have e_ := aN.out
   subst e_
   have x_ := HX.out
   rw [List.length_append] at x_
   exact ⟨rfl, x_.1, aJ.out.trans x_.2.1⟩

def net_Check.l1 : Nat → List S57 → List S60 → List ByteArray → Int → Option (Int × Int)
 | 0, _, _, _, _ => none
 | k + 1, l1, l2, ns, i => if i < (l2.length : Int) then (if 0 ≤ i then ((addM ns (rd_T60 l2 i).f0).bind fun p => if p.1 = 0 then ((net_checkTrans.f k (rd_T60 l2 i).f0 (rd_T60 l2 i).f1 (rd_T60 l2 i).f2 (rd_T60 l2 i).f3 (rd_T60 l2 i).f4 (l1.length : Int)).bind fun e => if e = 0 then net_Check.l1 k l1 l2 p.2 (wrap64 (i + 1)) else some (e, wrap64 ((l1.length : Int) + i))) else some (p.1, wrap64 ((l1.length : Int) + i))) else none) else some (0, 0)
def net_Check.l0 : Nat → List S57 → List S60 → List ByteArray → Int → Option (Int × Int)
 | 0, _, _, _, _ => none
 | k + 1, l1, l2, ns, i => if i < (l1.length : Int) then (if 0 ≤ i then ((addM ns (rd_T57 l1 i).f0).bind fun p => if p.1 = 0 then ((net_checkPlace.f (rd_T57 l1 i).f0 (rd_T57 l1 i).f1 (rd_T57 l1 i).f2).bind fun e => if e = 0 then net_Check.l0 k l1 l2 p.2 (wrap64 (i + 1)) else some (e, i)) else some (p.1, i)) else none) else net_Check.l1 k l1 l2 ns 0
def net_Check.f (k : Nat) (ac : ByteArray) (aa : List (S57)) (ab : List (S60)) : Option (Int × Int) := if nameB ac = true then (if (aa.length : Int) < 1 ∨ (24 : Int) < (aa.length : Int) ∨ (24 : Int) < (ab.length : Int) then some (2, 0) else net_Check.l0 k aa ab [] 0) else some (5, 0)
theorem net_Check.mono_l : ∀ k, (∀ y0 y1 y2 y3, LeO (net_Check.l0 k y0 y1 y2 y3) (net_Check.l0 (k + 1) y0 y1 y2 y3)) ∧ (∀ y0 y1 y2 y3, LeO (net_Check.l1 k y0 y1 y2 y3) (net_Check.l1 (k + 1) y0 y1 y2 y3))
 | 0 => ⟨fun _ _ _ _ r h => by simp [net_Check.l0] at h, fun _ _ _ _ r h => by simp [net_Check.l1] at h⟩
 | k + 1 => by
  obtain ⟨bd, a7⟩ := net_Check.mono_l k
  refine ⟨?_, ?_⟩
  ·intro y0 y1 y2 y3
   unfold net_Check.l0
   repeat' first | exact bd _ _ _ _ | exact a7 _ _ _ _ | exact LeO.refl _ | exact LeO.none _ | refine LeO.ite ?_ ?_ | refine LeO.bind (LeO.refl _) (fun _ => ?_)
  ·intro y0 y1 y2 y3
   unfold net_Check.l1
   repeat' first | exact a7 _ _ _ _ | exact net_checkTrans.mono _ _ _ _ _ _ _ | exact LeO.refl _ | exact LeO.none _ | refine LeO.ite ?_ ?_ | refine LeO.bind (LeO.refl _) (fun _ => ?_) | refine LeO.bind (net_checkTrans.mono _ _ _ _ _ _ _) (fun _ => ?_)
theorem net_Check.mono : ∀ a0 a1 a2 k, LeO (net_Check.f k a0 a1 a2) (net_Check.f (k + 1) a0 a1 a2) := by
 intro a0 a1 a2 k
 unfold net_Check.f
 exact LeO.ite (LeO.ite (LeO.refl _) ((net_Check.mono_l k).1 _ _ _ _)) (LeO.refl _)
/-- What stands while a net is checked: the net, the result, the names. -/
structure KInv (w0 w : World) (Bx Br Bn : Nat) (net : Array Value) (ns : List ByteArray) : Prop where
 nv : NInv w0 w Bn ns
 bx : w.heap[Bx]? = some (.cells net 25 (0, 0))
 br : w.heap[Br]? = some (.cells #[.int .i64 0, .int .i64 0] 66 (0, 0))
 rb : w0.heap.size ≤ Br
theorem KInv.move {w0 w w1 : World} {Bx Br Bn : Nat} {net : Array Value} {ns ns' : List ByteArray} (h : KInv w0 w Bx Br Bn net ns) (hn : NInv w0 w1 Bn ns') (o : Others w w1) : KInv w0 w1 Bx Br Bn net ns' := ⟨hn, o.2 _ _ _ h.bx (by decide) (by decide), o.2 _ _ _ h.br (by decide) (by decide), h.rb⟩
theorem KInv.below {w0 w w1 : World} {Bx Br Bn : Nat} {net : Array Value} {ns : List ByteArray} (h : KInv w0 w Bx Br Bn net ns) (hb : Below w.heap.size w w1) : KInv w0 w1 Bx Br Bn net ns := h.move (h.nv.below hb) (Others.below hb)
theorem heapArc : Kd.Heap k78 := Kd.heap_iso _ (Kd.heap_pair (Kd.heap_int _) (Kd.heap_int _))
/-- The result is written. -/
theorem res_put {W : World} {Br : Nat} {x y a b : Int} (h : W.heap[Br]? = some (.cells #[.int .i64 x, .int .i64 y] 66 (0, 0))) : ((W.setCell ⟨Br, 0, none⟩ (.int .i64 a)).setCell ⟨Br, 1, none⟩ (.int .i64 b)).heap[Br]? = some (.cells #[.int .i64 a, .int .i64 b] 66 (0, 0)) :=
 blk_put (cs := #[.int .i64 a, .int .i64 y]) (blk_put (cs := #[.int .i64 x, .int .i64 y]) h 0 _ rfl) 1 _ rfl
theorem res_facts {W : World} {Br : Nat} (h : W.heap[Br]? = some (.cells #[.int .i64 0, .int .i64 0] 66 (0, 0))) : W.cell? ⟨Br, 0, none⟩ = some (.int .i64 0) ∧ W.cell? ⟨Br, 1, none⟩ = some (.int .i64 0) ∧ W.frozen? ⟨Br, 0, none⟩ = false ∧ W.frozen? ⟨Br, 1, none⟩ = false := ⟨(blk_cell h 0).trans rfl, (blk_cell h 1).trans rfl, blk_frozen h 0, blk_frozen h 1⟩
theorem net_facts {W : World} {B : Nat} {x y z : Value} (h : W.heap[B]? = some (.cells #[x, y, z] 25 (0, 0))) : W.cell? ⟨B, 0, none⟩ = some x ∧ W.cell? ⟨B, 1, none⟩ = some y ∧ W.cell? ⟨B, 2, none⟩ = some z := ⟨(blk_cell h 0).trans rfl, (blk_cell h 1).trans rfl, (blk_cell h 2).trans rfl⟩
theorem place_facts {W : World} {B : Nat} {x y z : Value} (h : W.heap[B]? = some (.cells #[x, y, z] 57 (0, 0))) : W.cell? ⟨B, 0, none⟩ = some x ∧ W.cell? ⟨B, 1, none⟩ = some y ∧ W.cell? ⟨B, 2, none⟩ = some z := ⟨(blk_cell h 0).trans rfl, (blk_cell h 1).trans rfl, (blk_cell h 2).trans rfl⟩
theorem trans_facts {W : World} {B : Nat} {x y z u v : Value} (h : W.heap[B]? = some (.cells #[x, y, z, u, v] 60 (0, 0))) : W.cell? ⟨B, 0, none⟩ = some x ∧ W.cell? ⟨B, 1, none⟩ = some y ∧ W.cell? ⟨B, 2, none⟩ = some z ∧ W.cell? ⟨B, 3, none⟩ = some u ∧ W.cell? ⟨B, 4, none⟩ = some v := ⟨(blk_cell h 0).trans rfl, (blk_cell h 1).trans rfl, (blk_cell h 2).trans rfl, (blk_cell h 3).trans rfl, (blk_cell h 4).trans rfl⟩

set_option maxHeartbeats 4000000 in
set_option maxRecDepth 100000 in
theorem net_Check.calls (k : Nat) (ac : ByteArray) (af : Option Addr) (ah : Nat) (aa : List (S57)) (ag : Option Addr) (ai : Nat) (ab : List (S60)) (r1 : Int) (r2 : Int) (w : World) (aE : Kd.C k57 w af aa.length aa) (aC : aa.length ≤ ah) (aG : Kd.C k60 w ag ab.length ab) (aD : ab.length ≤ ai) (h : net_Check.f k ac aa ab = some (r1, r2)) :
  Calls Try.prog 42 #[.agg #[.string ac, .slice af aa.length ah, .slice ag ab.length ai]] w fun e w' => e = .returned (.agg #[.int .i64 r1, .int .i64 r2]) ∧ Below w.heap.size w w' := by
 have bm := Try.underlying25
 have hu2 := Try.underlying66
 have bn := Try.underlying57
 have bo := Try.underlying60
 have aU := Aside0.mk aE
 have bj := Aside0.mk aC
 have aV := Aside0.mk aG
 have bk := Aside0.mk aD
 clear aE aC aG aD
 have W1 : (w.alloc (.cells #[.string ac, .slice af aa.length ah, .slice ag ab.length ai] 25)).heap[w.heap.size]? = some (.cells #[.string ac, .slice af aa.length ah, .slice ag ab.length ai] 25 (0, 0)) := alloc_new _ _
 have a6 : (w.alloc (.cells #[.string ac, .slice af aa.length ah, .slice ag ab.length ai] 25)).heap.size = w.heap.size + 1 := by simp
 obtain ⟨w2, aM⟩ : ∃ w2 : World, w2 = (w.alloc (.cells #[.string ac, .slice af aa.length ah, .slice ag ab.length ai] 25)).alloc (.cells #[.int .i64 0, .int .i64 0] 66) := ⟨_, rfl⟩
 have aI := Aside0.mk (show w2.heap[w.heap.size]? = some (.cells #[.string ac, .slice af aa.length ah, .slice ag ab.length ai] 25 (0, 0)) by rw [aM]; exact blk_below W1 (below_alloc (Below.refl _ _) _))
 have aH := Aside0.mk (show w2.heap[w.heap.size + 1]? = some (.cells #[.int .i64 0, .int .i64 0] 66 (0, 0)) by rw [aM, ← a6]; exact alloc_new _ _)
 have ay := Aside0.mk (show Below w.heap.size w w2 by rw [aM]; exact below_alloc (below_alloc (Below.refl _ _) _) _)
 obtain ⟨aY, aZ, a3⟩ := net_facts aI.out
 obtain ⟨aW, aX, a4, a5⟩ := res_facts aH.out
 rw [aM] at aY aZ a3 aW aX a4 a5
 have aK := Aside0.mk aM
 clear W1 a6 aM
 unfold net_Check.f at h
 by_cases n1 : nameB ac = true
 case neg =>
  rw [if_neg n1] at h
  simp only [Option.some.injEq, Prod.mk.injEq] at h
  obtain ⟨rfl, rfl⟩ := h
  have HN := Aside0.mk (show net_Name.f ac = some false by unfold net_Name.f; rw [Bool.not_eq_true] at n1; rw [n1])
  clear n1
  go_enter Try.func42, Try.ntmps42
  go_wp2_with (first | (go_at_call 62; refine (net_Name.calls _ _ _ HN.out).mono ?_; rintro e w3 ⟨rfl, hb⟩; rw [← aK.out] at hb; have au := Aside0.mk (blk_below aI.out hb); have ap := Aside0.mk (blk_below aH.out hb); have az := Aside0.mk (ay.out.trans (hb.mono ay.out.size)); obtain ⟨av, aw, ax⟩ := net_facts au.out; obtain ⟨aj, ak, al, ao⟩ := res_facts ap.out; clear hb))
  refine bodyPost_ret (results_cell_row rfl _ _ (w.heap.size + 1) 66 #[.int .i64 5, .int .i64 0] (0, 0) _ rfl (res_put ap.out) Try.underlying66 rfl (by kernel_rfl)) rfl ?_
  exact ⟨rfl, below_set (below_set az.out (Nat.le_succ _)) (Nat.le_succ _)⟩
 rw [if_pos n1] at h
 have HN := Aside0.mk (show net_Name.f ac = some true by unfold net_Name.f; rw [n1])
 clear n1
 by_cases z : (aa.length : Int) < 1 ∨ (24 : Int) < (aa.length : Int) ∨ (24 : Int) < (ab.length : Int)
 case pos =>
  rw [if_pos z] at h
  simp only [Option.some.injEq, Prod.mk.injEq] at h
  obtain ⟨rfl, rfl⟩ := h
  by_cases z1 : (aa.length : Int) < 1
  case pos =>
   have z1b : decide ((aa.length : Int) < 1) = true := decide_eq_true (by omega)
   have z1c : decide (aa.length < 1) = true := decide_eq_true (by omega)
   clear z
   go_enter Try.func42, Try.ntmps42
   go_wp2_with (first | (go_at_call 62; refine (net_Name.calls _ _ _ HN.out).mono ?_; rintro e w3 ⟨rfl, hb⟩; rw [← aK.out] at hb; have au := Aside0.mk (blk_below aI.out hb); have ap := Aside0.mk (blk_below aH.out hb); have az := Aside0.mk (ay.out.trans (hb.mono ay.out.size)); obtain ⟨av, aw, ax⟩ := net_facts au.out; obtain ⟨aj, ak, al, ao⟩ := res_facts ap.out; clear hb))
   refine bodyPost_ret (results_cell_row rfl _ _ (w.heap.size + 1) 66 #[.int .i64 2, .int .i64 0] (0, 0) _ rfl (res_put ap.out) Try.underlying66 rfl (by kernel_rfl)) rfl ?_
   exact ⟨rfl, below_set (below_set az.out (Nat.le_succ _)) (Nat.le_succ _)⟩
  have z1b : decide ((aa.length : Int) < 1) = false := decide_eq_false (by omega)
  have z1c : decide (aa.length < 1) = false := decide_eq_false (by omega)
  by_cases z2 : 24 < (aa.length : Int)
  case pos =>
   have z2b : decide (24 < (aa.length : Int)) = true := decide_eq_true (by omega)
   have z2c : decide (24 < aa.length) = true := decide_eq_true (by omega)
   clear z
   go_enter Try.func42, Try.ntmps42
   go_wp2_with (first | (go_at_call 62; refine (net_Name.calls _ _ _ HN.out).mono ?_; rintro e w3 ⟨rfl, hb⟩; rw [← aK.out] at hb; have au := Aside0.mk (blk_below aI.out hb); have ap := Aside0.mk (blk_below aH.out hb); have az := Aside0.mk (ay.out.trans (hb.mono ay.out.size)); obtain ⟨av, aw, ax⟩ := net_facts au.out; obtain ⟨aj, ak, al, ao⟩ := res_facts ap.out; clear hb))
   refine bodyPost_ret (results_cell_row rfl _ _ (w.heap.size + 1) 66 #[.int .i64 2, .int .i64 0] (0, 0) _ rfl (res_put ap.out) Try.underlying66 rfl (by kernel_rfl)) rfl ?_
   exact ⟨rfl, below_set (below_set az.out (Nat.le_succ _)) (Nat.le_succ _)⟩
  have z2b : decide (24 < (aa.length : Int)) = false := decide_eq_false (by omega)
  have z2c : decide (24 < aa.length) = false := decide_eq_false (by omega)
  have z3 : 24 < (ab.length : Int) := (z.resolve_left z1).resolve_left z2
  have z3b : decide (24 < (ab.length : Int)) = true := decide_eq_true (by omega)
  have z3c : decide (24 < ab.length) = true := decide_eq_true (by omega)
  clear z
  go_enter Try.func42, Try.ntmps42
  go_wp2_with (first | (go_at_call 62; refine (net_Name.calls _ _ _ HN.out).mono ?_; rintro e w3 ⟨rfl, hb⟩; rw [← aK.out] at hb; have au := Aside0.mk (blk_below aI.out hb); have ap := Aside0.mk (blk_below aH.out hb); have az := Aside0.mk (ay.out.trans (hb.mono ay.out.size)); obtain ⟨av, aw, ax⟩ := net_facts au.out; obtain ⟨aj, ak, al, ao⟩ := res_facts ap.out; clear hb))
  refine bodyPost_ret (results_cell_row rfl _ _ (w.heap.size + 1) 66 #[.int .i64 2, .int .i64 0] (0, 0) _ rfl (res_put ap.out) Try.underlying66 rfl (by kernel_rfl)) rfl ?_
  exact ⟨rfl, below_set (below_set az.out (Nat.le_succ _)) (Nat.le_succ _)⟩
 rw [if_neg z] at h
 have z1b : decide ((aa.length : Int) < 1) = false := decide_eq_false (by omega)
 have z1c : decide (aa.length < 1) = false := decide_eq_false (by omega)
 have z2b : decide (24 < (aa.length : Int)) = false := decide_eq_false (by omega)
 have z2c : decide (24 < aa.length) = false := decide_eq_false (by omega)
 have z3b : decide (24 < (ab.length : Int)) = false := decide_eq_false (by omega)
 have z3c : decide (24 < ab.length) = false := decide_eq_false (by omega)
 have hmf : ∀ (fn : Fn) (first cap : Array Value) (w : World), (Instr.makeFunc fn first cap).run Try.prog w = .ok (.func fn first cap) w := fun _ _ _ _ => rfl
 have H := Aside0.mk h
 clear h
 go_enter Try.func42, Try.ntmps42
 go_wp2_with (first | (go_at_call 62; refine (net_Name.calls _ _ _ HN.out).mono ?_; rintro e w3 ⟨rfl, hb⟩; rw [← aK.out] at hb; have au := Aside0.mk (blk_below aI.out hb); have ap := Aside0.mk (blk_below aH.out hb); have az := Aside0.mk (ay.out.trans (hb.mono ay.out.size)); obtain ⟨av, aw, ax⟩ := net_facts au.out; obtain ⟨aj, ak, al, ao⟩ := res_facts ap.out; clear hb; obtain ⟨ba, bb, bc⟩ := net_facts (blk_below au.out (below_alloc (Below.refl _ _) (.cells #[.slice none 0 0] 80)))))
 have HK := Aside0.mk (show KInv w (w3.alloc (.cells #[.slice none 0 0] 80)) w.heap.size (w.heap.size + 1) w3.heap.size #[.string ac, .slice af aa.length ah, .slice ag ab.length ai] [] from ⟨⟨⟨.slice none 0 0, alloc_new _ _, Kd.R_nil _ _ _ _ _⟩, below_alloc az.out _, az.out.size⟩, blk_below au.out (below_alloc (Below.refl _ _) _), blk_below ap.out (below_alloc (Below.refl _ _) _), Nat.le_succ _⟩)
 obtain ⟨Bn, hBn⟩ : ∃ Bn, Bn = w3.heap.size := ⟨_, rfl⟩
 rw [← hBn] at HK ⊢
 clear ba bb bc av aw ax aj ak al ao au ap az hBn aY aZ a3 aW aX a4 a5 aI aH ay aK z1b z1c z2b z2c z3b z3c z HN
 go_loopg [37] k (fun kq bh w' => ∃ (i : Int) (ns : List ByteArray), bh = .int .i64 i ∧ Aside0 (net_Check.l0 kq aa ab ns i = some (r1, r2)) ∧ Aside0 (kq ≤ k) ∧ Aside0 (KInv w w' w.heap.size (w.heap.size + 1) Bn #[.string ac, .slice af aa.length ah, .slice ag ab.length ai] ns))
 case atStart => exact ⟨0, [], rfl, H, ⟨Nat.le_refl _⟩, HK⟩
 case round =>
  clear H HK
  obtain ⟨i, ns, rfl, HA, HJ, HK⟩ := hrel
  cases gk with
  | zero => exact absurd HA.out (by simp [net_Check.l0])
  | succ k1 =>
  have H := HA.out
  clear HA
  simp only [net_Check.l0] at H
  by_cases d1 : i < (aa.length : Int)
  case neg =>
   rw [if_neg d1] at H
   have d1b : decide (i < (aa.length : Int)) = false := decide_eq_false d1
   have H' := Aside0.mk H
   clear H d1
   obtain ⟨av, aw, ax⟩ := net_facts HK.out.bx
   go_wp2
   clear av aw ax d1b
   go_loopg [59] k1 (fun kq bi w' => ∃ (i : Int) (ns : List ByteArray), bi = .int .i64 i ∧ Aside0 (net_Check.l1 kq aa ab ns i = some (r1, r2)) ∧ Aside0 (kq ≤ k1) ∧ Aside0 (KInv w w' w.heap.size (w.heap.size + 1) Bn #[.string ac, .slice af aa.length ah, .slice ag ab.length ai] ns))
   case atStart => exact ⟨0, ns, rfl, H', ⟨Nat.le_refl _⟩, HK⟩
   case round =>
    clear H' HK
    obtain ⟨i, ns, rfl, HA, aT, HK⟩ := hrel
    cases gk with
    | zero => exact absurd HA.out (by simp [net_Check.l1])
    | succ k3 =>
    have H := HA.out
    clear HA
    simp only [net_Check.l1] at H
    by_cases d1 : i < (ab.length : Int)
    case neg =>
     rw [if_neg d1] at H
     have d1b : decide (i < (ab.length : Int)) = false := decide_eq_false d1
     simp only [Option.some.injEq, Prod.mk.injEq] at H
     obtain ⟨rfl, rfl⟩ := H
     obtain ⟨aj, ak, al, ao⟩ := res_facts HK.out.br
     clear d1
     go_wp2
     refine bodyPost_ret (results_cell_row rfl _ _ (w.heap.size + 1) 66 #[.int .i64 0, .int .i64 0] (0, 0) _ rfl (res_put HK.out.br) Try.underlying66 rfl (by kernel_rfl)) rfl ?_
     exact ⟨rfl, below_set (below_set HK.out.nv.B (Nat.le_succ _)) (Nat.le_succ _)⟩
    rw [if_pos d1] at H
    have d1b : decide (i < (ab.length : Int)) = true := decide_eq_true d1
    by_cases d2 : 0 ≤ i
    case neg => rw [if_neg d2] at H; cases H
    rw [if_pos d2] at H
    obtain ⟨⟨p1, bf⟩, hp, H⟩ := Option.bind_eq_some_iff.mp H
    have HP := Aside0.mk hp
    clear hp
    obtain ⟨ad, A1, c1, A2, c2, A3, c3, eA, y0, y1, y2, y3, y4, m1, g1, m2, g2, m3, g3⟩ := at_T60 aV.out i d2 d1
    subst eA
    have u0 := pw_cell_below HK.out.nv.B y0
    have u1 := pw_cell_below HK.out.nv.B y1
    have u2 := pw_cell_below HK.out.nv.B y2
    have u3 := pw_cell_below HK.out.nv.B y3
    have u4 := pw_cell_below HK.out.nv.B y4
    clear y0 y1 y2 y3 y4
    have M1 := Aside0.mk m1
    have M2 := Aside0.mk m2
    have M3 := Aside0.mk m3
    have G1 := Aside0.mk g1
    have G2 := Aside0.mk g2
    have G3 := Aside0.mk g3
    clear m1 m2 m3 g1 g2 g3
    have q1 : (0 ≤ i) = True := eq_true d2
    have q2 : (i < (ab.length : Int)) = True := eq_true d1
    have ar := Aside0.mk (HK.out.below (below_alloc (Below.refl _ _) (.cells #[.string (rd_T60 ab i).f0, .slice A1 (rd_T60 ab i).f1.length c1, .slice A2 (rd_T60 ab i).f2.length c2, .slice A3 (rd_T60 ab i).f3.length c3, .int .i64 (rd_T60 ab i).f4] 60)))
    have HPl := Aside0.mk (alloc_new wr (.cells #[.string (rd_T60 ab i).f0, .slice A1 (rd_T60 ab i).f1.length c1, .slice A2 (rd_T60 ab i).f2.length c2, .slice A3 (rd_T60 ab i).f3.length c3, .int .i64 (rd_T60 ab i).f4] 60))
    obtain ⟨v0, v1, v2, v3, v4⟩ := trans_facts HPl.out
    by_cases d3 : p1 = 0
    case neg =>
     have d3b : (p1 == 0) = false := beq_eq_false_iff_ne.mpr d3
     have d3c : (p1 != 0) = true := bne_iff_ne.mpr d3
     rw [if_neg d3] at H
     simp only [Option.some.injEq, Prod.mk.injEq] at H
     obtain ⟨rfl, rfl⟩ := H
     clear d3
     go_wp2_with (first | (go_at_call 63; refine (add_calls w _ Bn ns _ _ ar.out.nv HP.out).mono ?_; rintro e w4 ⟨rfl, hn, ho⟩; have ae := Aside0.mk (ar.out.move hn ho); have HPm := Aside0.mk (ho.2 _ _ _ HPl.out (by decide) (by decide)); obtain ⟨t0, t1, t2, t3, t4⟩ := trans_facts HPm.out; obtain ⟨aj, ak, al, ao⟩ := res_facts ae.out.br; obtain ⟨av, aw, ax⟩ := net_facts ae.out.bx; clear hn ho))
     refine bodyPost_ret (results_cell_row rfl _ _ (w.heap.size + 1) 66 #[.int .i64 p1, .int .i64 (wrap64 ((aa.length : Int) + i))] (0, 0) _ rfl (res_put ae.out.br) Try.underlying66 rfl (by kernel_rfl)) rfl ?_
     exact ⟨rfl, below_set (below_set ae.out.nv.B (Nat.le_succ _)) (Nat.le_succ _)⟩
    have d3b : (p1 == 0) = true := beq_iff_eq.mpr d3
    rw [if_pos d3] at H
    obtain ⟨e1, he, H⟩ := Option.bind_eq_some_iff.mp H
    have HE := Aside0.mk he
    clear he
    by_cases d4 : e1 = 0
    case neg =>
     have d4b : (e1 == 0) = false := beq_eq_false_iff_ne.mpr d4
     have d4c : (e1 != 0) = true := bne_iff_ne.mpr d4
     rw [if_neg d4] at H
     simp only [Option.some.injEq, Prod.mk.injEq] at H
     obtain ⟨rfl, rfl⟩ := H
     clear d4 d3
     go_wp2_with (first | (go_at_call 63; refine (add_calls w _ Bn ns _ _ ar.out.nv HP.out).mono ?_; rintro e w4 ⟨rfl, hn, ho⟩; have ae := Aside0.mk (ar.out.move hn ho); have HPm := Aside0.mk (ho.2 _ _ _ HPl.out (by decide) (by decide)); obtain ⟨t0, t1, t2, t3, t4⟩ := trans_facts HPm.out; obtain ⟨aj, ak, al, ao⟩ := res_facts ae.out.br; obtain ⟨av, aw, ax⟩ := net_facts ae.out.bx; clear hn ho) | (go_at_call 65; refine (net_checkTrans.calls k3 _ (fun k_ => k_ < w4.heap.size) A1 c1 _ (fun k_ => k_ < w4.heap.size) A2 c2 _ (fun k_ => k_ < w4.heap.size) A3 c3 _ _ _ _ _ (Kd.V_mk M1.out (Kd.C_F heapArc (Kd.C_below G1.out ae.out.nv.B))) (Kd.V_mk M2.out (Kd.C_F heapArc (Kd.C_below G2.out ae.out.nv.B))) (Kd.V_mk M3.out (Kd.C_F heapArc (Kd.C_below G3.out ae.out.nv.B))) HE.out).mono ?_; rintro e w5 ⟨rfl, hb⟩; have aq := Aside0.mk (ae.out.below hb); obtain ⟨aj, ak, al, ao⟩ := res_facts aq.out.br; obtain ⟨av, aw, ax⟩ := net_facts aq.out.bx; clear hb))
     refine bodyPost_ret (results_cell_row rfl _ _ (w.heap.size + 1) 66 #[.int .i64 e1, .int .i64 (wrap64 ((aa.length : Int) + i))] (0, 0) _ rfl (res_put aq.out.br) Try.underlying66 rfl (by kernel_rfl)) rfl ?_
     exact ⟨rfl, below_set (below_set aq.out.nv.B (Nat.le_succ _)) (Nat.le_succ _)⟩
    have d4b : (e1 == 0) = true := beq_iff_eq.mpr d4
    have d4c : (e1 != 0) = false := by rw [bne, d4b]; rfl
    rw [if_pos d4] at H
    have HM := Aside0.mk (show (ab.length : Int) ≤ 9223372036854775807 by have := aV.out.2.1; omega)
    rw [show wrap64 (i + 1) = i + 1 by have := HM.out; unfold wrap64; omega] at H
    have H' := Aside0.mk H
    clear H d4 d3
    go_wp2_with (first | (go_at_call 63; refine (add_calls w _ Bn ns _ _ ar.out.nv HP.out).mono ?_; rintro e w4 ⟨rfl, hn, ho⟩; have ae := Aside0.mk (ar.out.move hn ho); have HPm := Aside0.mk (ho.2 _ _ _ HPl.out (by decide) (by decide)); obtain ⟨t0, t1, t2, t3, t4⟩ := trans_facts HPm.out; obtain ⟨aj, ak, al, ao⟩ := res_facts ae.out.br; obtain ⟨av, aw, ax⟩ := net_facts ae.out.bx; clear hn ho) | (go_at_call 65; refine (net_checkTrans.calls k3 _ (fun k_ => k_ < w4.heap.size) A1 c1 _ (fun k_ => k_ < w4.heap.size) A2 c2 _ (fun k_ => k_ < w4.heap.size) A3 c3 _ _ _ _ _ (Kd.V_mk M1.out (Kd.C_F heapArc (Kd.C_below G1.out ae.out.nv.B))) (Kd.V_mk M2.out (Kd.C_F heapArc (Kd.C_below G2.out ae.out.nv.B))) (Kd.V_mk M3.out (Kd.C_F heapArc (Kd.C_below G3.out ae.out.nv.B))) HE.out).mono ?_; rintro e w5 ⟨rfl, hb⟩; have aq := Aside0.mk (ae.out.below hb); obtain ⟨aj, ak, al, ao⟩ := res_facts aq.out.br; obtain ⟨av, aw, ax⟩ := net_facts aq.out.bx; clear hb))
    go_roundg k3
    case measure => have := aT.out; omega
    case rel => exact ⟨_, _, (by congr 1; have := HM.out; (first | omega | (unfold wrap64; omega) | (show wrap64 _ = _; unfold wrap64; omega))), H', ⟨by have := aT.out; omega⟩, aq⟩
  rw [if_pos d1] at H
  have d1b : decide (i < (aa.length : Int)) = true := decide_eq_true d1
  by_cases d2 : 0 ≤ i
  case neg => rw [if_neg d2] at H; cases H
  rw [if_pos d2] at H
  obtain ⟨⟨p1, bf⟩, hp, H⟩ := Option.bind_eq_some_iff.mp H
  have HP := Aside0.mk hp
  clear hp
  obtain ⟨ad, eA, y0, y1, y2⟩ := at_T57 aU.out i d2 d1
  subst eA
  have u0 := pw_cell_below HK.out.nv.B y0
  have u1 := pw_cell_below HK.out.nv.B y1
  have u2 := pw_cell_below HK.out.nv.B y2
  clear y0 y1 y2
  have q1 : (0 ≤ i) = True := eq_true d2
  have q2 : (i < (aa.length : Int)) = True := eq_true d1
  have ar := Aside0.mk (HK.out.below (below_alloc (Below.refl _ _) (.cells #[.string (rd_T57 aa i).f0, .int .i64 (rd_T57 aa i).f1, .int .i64 (rd_T57 aa i).f2] 57)))
  have HPl := Aside0.mk (alloc_new wr (.cells #[.string (rd_T57 aa i).f0, .int .i64 (rd_T57 aa i).f1, .int .i64 (rd_T57 aa i).f2] 57))
  obtain ⟨v0, v1, v2⟩ := place_facts HPl.out
  by_cases d3 : p1 = 0
  case neg =>
   have d3b : (p1 == 0) = false := beq_eq_false_iff_ne.mpr d3
   have d3c : (p1 != 0) = true := bne_iff_ne.mpr d3
   rw [if_neg d3] at H
   simp only [Option.some.injEq, Prod.mk.injEq] at H
   obtain ⟨rfl, rfl⟩ := H
   clear d3
   go_wp2_with (first | (go_at_call 63; refine (add_calls w _ Bn ns _ _ ar.out.nv HP.out).mono ?_; rintro e w4 ⟨rfl, hn, ho⟩; have ae := Aside0.mk (ar.out.move hn ho); have HPm := Aside0.mk (ho.2 _ _ _ HPl.out (by decide) (by decide)); obtain ⟨t0, t1, t2⟩ := place_facts HPm.out; obtain ⟨aj, ak, al, ao⟩ := res_facts ae.out.br; clear hn ho))
   refine bodyPost_ret (results_cell_row rfl _ _ (w.heap.size + 1) 66 #[.int .i64 p1, .int .i64 i] (0, 0) _ rfl (res_put ae.out.br) Try.underlying66 rfl (by kernel_rfl)) rfl ?_
   exact ⟨rfl, below_set (below_set ae.out.nv.B (Nat.le_succ _)) (Nat.le_succ _)⟩
  have d3b : (p1 == 0) = true := beq_iff_eq.mpr d3
  rw [if_pos d3] at H
  obtain ⟨e1, he, H⟩ := Option.bind_eq_some_iff.mp H
  have HE := Aside0.mk he
  clear he
  by_cases d4 : e1 = 0
  case neg =>
   have d4b : (e1 == 0) = false := beq_eq_false_iff_ne.mpr d4
   have d4c : (e1 != 0) = true := bne_iff_ne.mpr d4
   rw [if_neg d4] at H
   simp only [Option.some.injEq, Prod.mk.injEq] at H
   obtain ⟨rfl, rfl⟩ := H
   clear d4 d3
   go_wp2_with (first | (go_at_call 63; refine (add_calls w _ Bn ns _ _ ar.out.nv HP.out).mono ?_; rintro e w4 ⟨rfl, hn, ho⟩; have ae := Aside0.mk (ar.out.move hn ho); have HPm := Aside0.mk (ho.2 _ _ _ HPl.out (by decide) (by decide)); obtain ⟨t0, t1, t2⟩ := place_facts HPm.out; obtain ⟨aj, ak, al, ao⟩ := res_facts ae.out.br; clear hn ho) | (go_at_call 64; refine (net_checkPlace.calls _ _ _ _ _ HE.out).mono ?_; rintro e w5 ⟨rfl, hb⟩; have aq := Aside0.mk (ae.out.below hb); obtain ⟨aj, ak, al, ao⟩ := res_facts aq.out.br; clear hb))
   refine bodyPost_ret (results_cell_row rfl _ _ (w.heap.size + 1) 66 #[.int .i64 e1, .int .i64 i] (0, 0) _ rfl (res_put aq.out.br) Try.underlying66 rfl (by kernel_rfl)) rfl ?_
   exact ⟨rfl, below_set (below_set aq.out.nv.B (Nat.le_succ _)) (Nat.le_succ _)⟩
  have d4b : (e1 == 0) = true := beq_iff_eq.mpr d4
  have d4c : (e1 != 0) = false := by rw [bne, d4b]; rfl
  rw [if_pos d4] at H
  have HM := Aside0.mk (show (aa.length : Int) ≤ 9223372036854775807 by have := aU.out.2.1; omega)
  rw [show wrap64 (i + 1) = i + 1 by have := HM.out; unfold wrap64; omega] at H
  have H' := Aside0.mk H
  clear H d4 d3
  go_wp2_with (first | (go_at_call 63; refine (add_calls w _ Bn ns _ _ ar.out.nv HP.out).mono ?_; rintro e w4 ⟨rfl, hn, ho⟩; have ae := Aside0.mk (ar.out.move hn ho); have HPm := Aside0.mk (ho.2 _ _ _ HPl.out (by decide) (by decide)); obtain ⟨t0, t1, t2⟩ := place_facts HPm.out; obtain ⟨aj, ak, al, ao⟩ := res_facts ae.out.br; clear hn ho) | (go_at_call 64; refine (net_checkPlace.calls _ _ _ _ _ HE.out).mono ?_; rintro e w5 ⟨rfl, hb⟩; have aq := Aside0.mk (ae.out.below hb); obtain ⟨aj, ak, al, ao⟩ := res_facts aq.out.br; clear hb))
  go_roundg k1
  case measure => have := HJ.out; omega
  case rel => exact ⟨_, _, (by congr 1; have := HM.out; (first | omega | (unfold wrap64; omega) | (show wrap64 _ = _; unfold wrap64; omega))), H', ⟨by have := HJ.out; omega⟩, aq⟩

/-! ### net_valid: function 66 -/
def net_valid.f (k : Nat) (ae : ByteArray) (aa : List (S57)) (ab : List (S60)) : Option (Bool) := (net_Check.f k ae aa ab).bind fun au => (some (au.1 == 0))
theorem net_valid.mono : ∀ a0 a1 a2 k, LeO (net_valid.f k a0 a1 a2) (net_valid.f (k + 1) a0 a1 a2) := by
 intro a0 a1 a2 k
 unfold net_valid.f
 repeat' first | (with_reducible first | apply net_Check.mono | apply lr | apply ln | apply li | refine lb ?_ fun _ => ?_)
set_option maxHeartbeats 8000000 in
set_option maxRecDepth 100000 in
theorem net_valid.calls (k : Nat) (ae : ByteArray) (aj : Option Addr) (av : Nat) (aa : List (S57)) (ak : Option Addr) (aw : Nat) (ab : List (S60)) (r : Bool) (w : World) (ah : Kd.C k57 w aj aa.length aa) (af : aa.length ≤ av) (ai : Kd.C k60 w ak ab.length ab) (ag : ab.length ≤ aw) (h : net_valid.f k ae aa ab = some r) :
  Calls Try.prog 66 #[.agg #[.string ae, .slice aj aa.length av, .slice ak ab.length aw]] w fun e w' => e = .returned (.bool r) ∧ Below w.heap.size w w' := by
 have ax : ∀ (x0 x1 : Value) (W : World), (Instr.field 66 (.agg #[x0, x1]) 0).run Try.prog W = .ok x0 W := fun x0 x1 W => by kernel_rfl
 have aC := Try.underlying25
 have aq := am ah
 have ao := am af
 clear ah af
 have ar := am ai
 have ap := am ag
 clear ai ag
 have HB := am (Below.refl w.heap.size w)
 have H := h
 unfold net_valid.f at H
 clear h
 replace H := bnd H
 obtain ⟨⟨ay, az⟩, A2, H⟩ := H
 (try dsimp only at H)
 obtain rfl := Option.some.inj H
 go_enter Try.func66, Try.ntmps66
 go_wp2_with (first | ((with_reducible refine gate_dst (N := 1) rfl ?_); refine box_ev ?_; intro aB hg w3 hbox hb; have ac := am hbox; have al := gwl hg; have aA := al; replace HB := bsl hb; clear hb hbox hg; have z4 := cf3 ac.1) | ((with_reducible refine gate_callee (f := 42) rfl ?_); refine gC 4 Try.func42 _ (net_Check.calls k ae _ _ aa _ _ ab ay az _ (csb aq HB) ao.1 (csb ar HB) ap.1 A2.1) ?_; rintro e w5 ⟨rfl, hb⟩; refine ⟨_, rfl, ?_⟩; replace ac := bbh ac hb; replace HB := bst hb; (try clear hb)))
 go_ret
 exact ⟨per, pbg⟩

/-! ### net_Plain: function 43 -/
mutual
def net_Plain.l0 : Nat → List (S60) → Int → Int → ByteArray → List (S57) → List (S60) → Option (Bool)
 | 0, _, _, _, _, _, _ => none
 | k + 1, x8, x9, x10, aj, af, ak => if x10 < x9 then (if 0 ≤ x10 then (if x10 < (x8.length : Int) then (if (((rd_T60 x8 x10).f3).length : Int) > 0 then (some false) else (if ((rd_T60 x8 x10).f4) = 0 then (net_Plain.l0 k x8 x9 (wrap64 (x10 + 1)) aj af ak) else (some false))) else (none)) else (none)) else (net_Plain.l1 k af (af.length : Int) 0 aj af ak)
def net_Plain.l1 : Nat → List (S57) → Int → Int → ByteArray → List (S57) → List (S60) → Option (Bool)
 | 0, _, _, _, _, _, _ => none
 | k + 1, bB, bQ, br, aj, af, ak => if br < bQ then (if 0 ≤ br then (if br < (bB.length : Int) then (if ((rd_T57 bB br).f2) = 0 then (net_Plain.l1 k bB bQ (wrap64 (br + 1)) aj af ak) else (some false)) else (none)) else (none)) else ((net_valid.f k aj af ak).bind fun bd => (some bd))
end
def net_Plain.f (k : Nat) (ap : ByteArray) (ai : List (S57)) (ac : List (S60)) : Option (Bool) := net_Plain.l0 k ac (ac.length : Int) 0 ap ai ac
theorem net_Plain.mono_l : ∀ k, M6 net_Plain.l0 k ∧ M6 net_Plain.l1 k
 | 0 => ⟨fun _ _ _ _ _ _ r h => by simp [net_Plain.l0] at h, fun _ _ _ _ _ _ r h => by simp [net_Plain.l1] at h⟩
 | k + 1 => by
  obtain ⟨bw, bx⟩ := net_Plain.mono_l k
  refine ⟨?_, ?_⟩ <;> dsimp only [M6] <;> intros <;> (first | unfold net_Plain.l0 | unfold net_Plain.l1) <;> repeat' first | (with_reducible first | apply bw | apply bx | apply net_valid.mono | apply lr | apply ln | apply li | refine lb ?_ fun _ => ?_)
theorem net_Plain.mono : ∀ a0 a1 a2 k, LeO (net_Plain.f k a0 a1 a2) (net_Plain.f (k + 1) a0 a1 a2) := by
 intro a0 a1 a2 k
 obtain ⟨bw, bx⟩ := net_Plain.mono_l k
 unfold net_Plain.f
 repeat' first | (with_reducible first | apply bw | apply bx | apply net_valid.mono | apply lr | apply ln | apply li | refine lb ?_ fun _ => ?_)
set_option maxHeartbeats 8000000 in
set_option maxRecDepth 100000 in
theorem net_Plain.calls (k : Nat) (ap : ByteArray) (aQ : Option Addr) (aS : Nat) (ai : List (S57)) (aR : Option Addr) (aT : Nat) (ac : List (S60)) (r : Bool) (w : World) (a8 : Kd.C k57 w aQ ai.length ai) (a6 : ai.length ≤ aS) (a9 : Kd.C k60 w aR ac.length ac) (a7 : ac.length ≤ aT) (h : net_Plain.f k ap ai ac = some r) :
  Calls Try.prog 43 #[.agg #[.string ap, .slice aQ ai.length aS, .slice aR ac.length aT]] w fun e w' => e = .returned (.bool r) ∧ Below w.heap.size w w' := by
 have bU := Try.underlying25
 have bW := Try.underlying60
 have bV := Try.underlying57
 have aL := am a8
 have bh := am a6
 clear a8 a6
 have aC := am a9
 have bi := am a7
 clear a9 a7
 have HB := am (Below.refl w.heap.size w)
 have H := h
 unfold net_Plain.f at H
 clear h
 have H' := am H
 clear H
 go_enter Try.func43, Try.ntmps43
 go_wp2_with (first | ((with_reducible refine gate_dst (N := 1) rfl ?_); refine box_ev ?_; intro a4 hg w2 hbox hb; have aa := am hbox; have bg := gwl hg; have bC := bg; replace HB := bsl hb; clear hb hbox hg; have z3 := cf3 aa.1))
 go_loopg [10] k (fun kq bX w' => ∃ (ag : Int), bX = .int .i64 ag ∧ Aside0 (net_Plain.l0 kq ac (ac.length : Int) ag ap ai ac = some r) ∧ Aside0 (kq ≤ k) ∧ Aside0 (w'.heap[a4]? = some (.cells #[.string ap, (.slice aQ ai.length aS), (.slice aR ac.length aT)] 25 (0, 0))) ∧ Aside0 (Below w.heap.size w w'))
 case atStart => exact ⟨(0), prs, H', ⟨Nat.le_refl _⟩, ⟨pbk aa.1⟩, ⟨pbg⟩⟩
 clear H'
 try clear z3
 obtain ⟨ag, rfl, HA, bs, aa, HB⟩ := hrel
 obtain _ | k1 := gk
 ·exact absurd HA.1 (by simp [net_Plain.l0])
 have H := HA.1
 clear HA
 simp only [net_Plain.l0] at H
 replace H := ifl H
 rcases H with ⟨bn, H⟩ | ⟨bn, H⟩
 rotate_left
 ·have H' := am H
  clear H
  have b2 := cf3 aa.1
  go_wp2
  go_loopg [27] k1 (fun kq bY w' => ∃ (ao : Int), bY = .int .i64 ao ∧ Aside0 (net_Plain.l1 kq ai (ai.length : Int) ao ap ai ac = some r) ∧ Aside0 (kq ≤ k1) ∧ Aside0 (w'.heap[a4]? = some (.cells #[.string ap, (.slice aQ ai.length aS), (.slice aR ac.length aT)] 25 (0, 0))) ∧ Aside0 (Below w.heap.size w w'))
  case atStart => exact ⟨(0), prs, H', ⟨Nat.le_refl _⟩, ⟨pbk aa.1⟩, ⟨pbg⟩⟩
  clear H'
  try clear bn c5 bu c6 bv c7 bo bp b3 aZ a3 bZ b0 b1 b2 z3 aq ar au av aw bb bc
  obtain ⟨ao, rfl, HA, bD, aa, HB⟩ := hrel
  obtain _ | k2 := gk
  ·exact absurd HA.1 (by simp [net_Plain.l1])
  have H := HA.1
  clear HA
  simp only [net_Plain.l1] at H
  replace H := ifl H
  rcases H with ⟨bk, H⟩ | ⟨bk, H⟩
  rotate_left
  ·replace H := bnd H
   obtain ⟨bd, bR, H⟩ := H
   (try dsimp only at H)
   obtain rfl := Option.some.inj H
   have ca := cf3 aa.1
   go_wp2_with (first | ((with_reducible refine gate_callee (f := 66) rfl ?_); refine gC 36 Try.func66 _ (net_valid.calls k2 ap _ _ ai _ _ ac bd _ (csb aL HB) bh.1 (csb aC HB) bi.1 bR.1) ?_; rintro e b8 ⟨rfl, hb⟩; refine ⟨_, rfl, ?_⟩; replace aa := bbh aa hb; replace HB := bst hb; (try clear hb)))
   go_ret
   exact ⟨per, pbg⟩
  replace H := ifp H
  obtain ⟨bE, H⟩ := H
  have bF := decide_eq_true bE
  clear bE
  replace H := ifp H
  obtain ⟨bG, H⟩ := H
  have bH := decide_eq_true bG
  clear bG
  replace H := ife H
  rcases H with ⟨bl, bm, H⟩ | ⟨bl, bm, H⟩
  rotate_left
  ·obtain rfl := Option.some.inj H
   obtain ⟨bz, bA, bj, ba, aU, aV, aW⟩ := bT57 aL.1 HB.1 ao
   cases ba
   go_wp2_with (first | ((with_reducible refine gate_dst (N := 6) rfl ?_); refine box_ev (N := 6) (cs := #[.string (⟨#[]⟩ : ByteArray), .int .i64 0, .int .i64 0]) (t := 57) ?_; intro bq hg b7 hbox hb; have aJ := am hbox; have aK := gwb hg; have bf := aK; have ah := nlt hg aa; have al := ngt hg aa; replace aa := bbh aa hb; replace HB := bst hb; clear hb hbox hg; have bL := al.1; have bP := ah.1; have b9 := cf3 aJ.1))
   go_ret
   exact ⟨per, pbg⟩
  have H' := am H
  clear H
  obtain ⟨bz, bA, bj, ba, aU, aV, aW⟩ := bT57 aL.1 HB.1 ao
  cases ba
  go_wp2_with (first | ((with_reducible refine gate_dst (N := 6) rfl ?_); refine box_ev (N := 6) (cs := #[.string (⟨#[]⟩ : ByteArray), .int .i64 0, .int .i64 0]) (t := 57) ?_; intro bq hg b6 hbox hb; have aJ := am hbox; have aK := gwb hg; have bf := aK; have ah := nlt hg aa; have al := ngt hg aa; replace aa := bbh aa hb; replace HB := bst hb; clear hb hbox hg; have bK := al.1; have bO := ah.1; have z25 := cf3 aJ.1))
  go_roundg k2
  case measure => have := bs.1; have := bD.1; omega
  case rel => exact ⟨(wrap64 (ao + 1)), prs, H', ⟨by have := bs.1; have := bD.1; omega⟩, ⟨by (with_reducible repeat (first | refine blk_drewN ?_ _ | refine blk_drew ?_ | refine blk_alloc ?_ _)); refine bf3 ?_ ah.1; exact pbk aa.1⟩, ⟨pbg⟩⟩
 replace H := ifp H
 obtain ⟨c5, H⟩ := H
 have bu := decide_eq_true c5
 clear c5
 replace H := ifp H
 obtain ⟨c6, H⟩ := H
 have bv := decide_eq_true c6
 clear c6
 by_cases c7 : (((rd_T60 ac ag).f3).length : Int) > 0
 ·rw [if_pos c7] at H
  have bo : decide (0 < (((rd_T60 ac ag).f3).length : Int)) = true := decide_eq_true c7
  have bp : decide (0 < ((rd_T60 ac ag).f3).length) = true := decide_eq_true (by omega)
  clear c7
  obtain rfl := Option.some.inj H
  obtain ⟨bb, bc, aY, aG, aM, aH, aN, aI, aO, aP, aq, ar, au, av, aw, az, aD, aA, aE, aB, aF⟩ := bT60 aC.1 HB.1 ag
  cases aP
  go_wp2_with (first | ((with_reducible refine gate_dst (N := 4) rfl ?_); refine box_ev (N := 4) (cs := #[.string (⟨#[]⟩ : ByteArray), .slice none 0 0, .slice none 0 0, .slice none 0 0, .int .i64 0]) (t := 60) ?_; intro a5 hg w8 hbox hb; have ax := am hbox; have ay := gwb hg; have aX := ay; have ab := nlt hg aa; have ae := ngt hg aa; replace aa := bbh aa hb; replace HB := bst hb; clear hb hbox hg; have bS := ae.1; have bT := ab.1; have bZ := cf5 ax.1))
  go_ret
  exact ⟨per, pbg⟩
 rw [if_neg c7] at H
 have bo : decide (0 < (((rd_T60 ac ag).f3).length : Int)) = false := decide_eq_false c7
 have bp : decide (0 < ((rd_T60 ac ag).f3).length) = false := decide_eq_false (by omega)
 clear c7
 replace H := ife H
 rcases H with ⟨aZ, a3, H⟩ | ⟨aZ, a3, H⟩
 rotate_left
 ·obtain rfl := Option.some.inj H
  obtain ⟨bb, bc, aY, aG, aM, aH, aN, aI, aO, aP, aq, ar, au, av, aw, az, aD, aA, aE, aB, aF⟩ := bT60 aC.1 HB.1 ag
  cases aP
  go_wp2_with (first | ((with_reducible refine gate_dst (N := 4) rfl ?_); refine box_ev (N := 4) (cs := #[.string (⟨#[]⟩ : ByteArray), .slice none 0 0, .slice none 0 0, .slice none 0 0, .int .i64 0]) (t := 60) ?_; intro a5 hg b5 hbox hb; have ax := am hbox; have ay := gwb hg; have aX := ay; have ab := nlt hg aa; have ae := ngt hg aa; replace aa := bbh aa hb; replace HB := bst hb; clear hb hbox hg; have bJ := ae.1; have bN := ab.1; have b1 := cf5 ax.1))
  go_ret
  exact ⟨per, pbg⟩
 have H' := am H
 clear H
 obtain ⟨bb, bc, aY, aG, aM, aH, aN, aI, aO, aP, aq, ar, au, av, aw, az, aD, aA, aE, aB, aF⟩ := bT60 aC.1 HB.1 ag
 cases aP
 go_wp2_with (first | ((with_reducible refine gate_dst (N := 4) rfl ?_); refine box_ev (N := 4) (cs := #[.string (⟨#[]⟩ : ByteArray), .slice none 0 0, .slice none 0 0, .slice none 0 0, .int .i64 0]) (t := 60) ?_; intro a5 hg b4 hbox hb; have ax := am hbox; have ay := gwb hg; have aX := ay; have ab := nlt hg aa; have ae := ngt hg aa; replace aa := bbh aa hb; replace HB := bst hb; clear hb hbox hg; have bI := ae.1; have bM := ab.1; have b0 := cf5 ax.1))
 go_roundg k1
 case measure => have := bs.1; omega
 case rel => exact ⟨(wrap64 (ag + 1)), prs, H', ⟨by have := bs.1; omega⟩, ⟨by (with_reducible repeat (first | refine blk_drewN ?_ _ | refine blk_drew ?_ | refine blk_alloc ?_ _)); refine bf5 ?_ ab.1; exact pbk aa.1⟩, ⟨pbg⟩⟩

/-! ### karpmiller_fits: function 36 -/
def karpmiller_fits.f (k : Nat) (ae : ByteArray) (ab : List (S57)) (ac : List (S60)) (l1 : List Int) : Option (Bool) := (net_Plain.f k ae ab ac).bind fun aq => (if aq = true then ((omega_Valid.f k l1 (ab.length : Int)).bind fun ar => (some ar)) else (some false))
theorem karpmiller_fits.mono : ∀ a0 a1 a2 a3 k, LeO (karpmiller_fits.f k a0 a1 a2 a3) (karpmiller_fits.f (k + 1) a0 a1 a2 a3) := by
 intro a0 a1 a2 a3 k
 unfold karpmiller_fits.f
 repeat' first | (with_reducible first | apply net_Plain.mono | apply omega_Valid.mono | apply lr | apply ln | apply li | refine lb ?_ fun _ => ?_)
set_option maxHeartbeats 8000000 in
set_option maxRecDepth 100000 in
theorem karpmiller_fits.calls (k : Nat) (ae : ByteArray) (au : Option Addr) (ax : Nat) (ab : List (S57)) (av : Option Addr) (ay : Nat) (ac : List (S60)) (A1 : Option Addr) (c1 : Nat) (l1 : List Int) (r : Bool) (w : World) (ao : Kd.C k57 w au ab.length ab) (ak : ab.length ≤ ax) (ap : Kd.C k60 w av ac.length ac) (al : ac.length ≤ ay) (aB : Kd.C (Kd.int .i64) w A1 l1.length l1) (aA : l1.length ≤ c1) (h : karpmiller_fits.f k ae ab ac l1 = some r) :
  Calls Try.prog 36 #[.agg #[.string ae, .slice au ab.length ax, .slice av ac.length ay], .slice A1 l1.length c1] w fun e w' => e = .returned (.bool r) ∧ Below w.heap.size w w' := by
 have aE := Try.underlying25
 have ai := am ao
 have ag := am ak
 clear ao ak
 have aj := am ap
 have ah := am al
 clear ap al
 have aD := am aB
 have aC := am aA
 clear aB aA
 have HB := am (Below.refl w.heap.size w)
 have H := h
 unfold karpmiller_fits.f at H
 clear h
 replace H := bnd H
 obtain ⟨aq, A3, H⟩ := H
 (try dsimp only at H)
 cases aq
 ·rw [if_neg Bool.false_ne_true] at H
  obtain rfl := Option.some.inj H
  go_enter Try.func36, Try.ntmps36
  go_wp2_with (first | ((with_reducible refine gate_dst (N := 2) rfl ?_); (try (refine gate_guard (by rfl) ?_; dsimp only)); refine box_ev ?_; intro az hg aG hbox hb; have aa := am hbox; have af := gwl hg; have aw := af; replace HB := bsl hb; clear hb hbox hg; have aI := cf3 aa.1) | ((with_reducible refine gate_callee (f := 43) rfl ?_); refine gC 6 Try.func43 _ (net_Plain.calls k ae _ _ ab _ _ ac false _ (csb ai HB) ag.1 (csb aj HB) ah.1 A3.1) ?_; rintro e aH ⟨rfl, hb⟩; refine ⟨_, rfl, ?_⟩; replace aa := bbh aa hb; replace HB := bst hb; (try clear hb)))
  go_ret
  exact ⟨per, pbg⟩
 rw [if_pos rfl] at H
 replace H := bnd H
 obtain ⟨ar, A5, H⟩ := H
 (try dsimp only at H)
 obtain rfl := Option.some.inj H
 go_enter Try.func36, Try.ntmps36
 go_wp2_with (first | ((with_reducible refine gate_dst (N := 2) rfl ?_); (try (refine gate_guard (by rfl) ?_; dsimp only)); refine box_ev ?_; intro az hg w6 hbox hb; have aa := am hbox; have af := gwl hg; have aw := af; replace HB := bsl hb; clear hb hbox hg; have z7 := cf3 aa.1) | ((with_reducible refine gate_callee (f := 43) rfl ?_); refine gC 6 Try.func43 _ (net_Plain.calls k ae _ _ ab _ _ ac true _ (csb ai HB) ag.1 (csb aj HB) ah.1 A3.1) ?_; rintro e w8 ⟨rfl, hb⟩; refine ⟨_, rfl, ?_⟩; replace aa := bbh aa hb; replace HB := bst hb; (try clear hb); have z9 := cf3 aa.1) | (go_at_call 61; (with_reducible refine (omega_Valid.calls k _ _ l1 (ab.length : Int) ar _ ?side1 ?side2 A5.1).mono ?_); (case side1 => exact csb aD HB); (case side2 => exact aC.1); rintro e aF ⟨rfl, hb⟩; replace aa := bbh aa hb; replace HB := bst hb; (try clear hb)))
 go_ret
 exact ⟨per, pbg⟩

/-! ### karpmiller_Enabled: function 15 -/
def karpmiller_Enabled.l0 : Nat → List Int → List Int → List (S60) → Int → Int → Option (List Int)
 | 0, _, _, _, _, _ => none
 | k + 1, x1, x5, x13, x14, x15 => if x15 < x14 then (if 0 ≤ x15 then (if x15 < (x13.length : Int) then ((karpmiller_enabled.f k ((rd_T60 x13 x15).f0) ((rd_T60 x13 x15).f1) ((rd_T60 x13 x15).f2) ((rd_T60 x13 x15).f3) ((rd_T60 x13 x15).f4) x1).bind fun a9 => (if a9 = true then (if x5.length < 17592186044416 then (karpmiller_Enabled.l0 k x1 (x5 ++ [x15]) x13 x14 (wrap64 (x15 + 1))) else (none)) else (karpmiller_Enabled.l0 k x1 x5 x13 x14 (wrap64 (x15 + 1))))) else (none)) else (none)) else (some x5)
def karpmiller_Enabled.f (k : Nat) (ax : ByteArray) (ai : List (S57)) (ac : List (S60)) (l1 : List Int) : Option (List Int) := (karpmiller_fits.f k ax ai ac l1).bind fun a8 => (if a8 = true then (karpmiller_Enabled.l0 k l1 ([] : List Int) ac (ac.length : Int) 0) else (some ([] : List Int)))
theorem karpmiller_Enabled.mono_l : ∀ k, M5 karpmiller_Enabled.l0 k
 | 0 => fun _ _ _ _ _ r h => by simp [karpmiller_Enabled.l0] at h
 | k + 1 => by
  have bm := karpmiller_Enabled.mono_l k
  ·intro y0 y1 y2 y3 y4
   unfold karpmiller_Enabled.l0
   repeat' first | (with_reducible first | apply bm | apply karpmiller_enabled.mono | apply karpmiller_fits.mono | apply lr | apply ln | apply li | refine lb ?_ fun _ => ?_)
theorem karpmiller_Enabled.mono : ∀ a0 a1 a2 a3 k, LeO (karpmiller_Enabled.f k a0 a1 a2 a3) (karpmiller_Enabled.f (k + 1) a0 a1 a2 a3) := by
 intro a0 a1 a2 a3 k
 have bm := karpmiller_Enabled.mono_l k
 unfold karpmiller_Enabled.f
 repeat' first | (with_reducible first | apply bm | apply karpmiller_enabled.mono | apply karpmiller_fits.mono | apply lr | apply ln | apply li | refine lb ?_ fun _ => ?_)
set_option maxHeartbeats 8000000 in
set_option maxRecDepth 100000 in
theorem karpmiller_Enabled.calls (k : Nat) (ax : ByteArray) (aZ : Option Addr) (a5 : Nat) (ai : List (S57)) (a4 : Option Addr) (a6 : Nat) (ac : List (S60)) (A1 : Option Addr) (c1 : Nat) (l1 : List Int) (r : List Int) (w : World) (aX : Kd.C k57 w aZ ai.length ai) (aV : ai.length ≤ a5) (aY : Kd.C k60 w a4 ac.length ac) (aW : ac.length ≤ a6) (bA : Kd.C (Kd.int .i64) w A1 l1.length l1) (bu : l1.length ≤ c1) (h : karpmiller_Enabled.f k ax ai ac l1 = some r) :
  Calls Try.prog 15 #[.agg #[.string ax, .slice aZ ai.length a5, .slice a4 ac.length a6], .slice A1 l1.length c1] w fun e w' => ∃ v0_ : Value, e = .returned (v0_) ∧ Kd.R (Kd.int .i64) 3 w' w.heap.size (fun _ => True) v0_ r ∧ Below w.heap.size w w' := by
 have bB := Try.underlying25
 have bC := Try.underlying60
 have aT := am aX
 have aQ := am aV
 clear aX aV
 have aC := am aY
 have aR := am aW
 clear aY aW
 have bk := am bA
 have bi := am bu
 clear bA bu
 have HB := am (Below.refl w.heap.size w)
 have H := h
 unfold karpmiller_Enabled.f at H
 clear h
 replace H := bnd H
 obtain ⟨a8, A3, H⟩ := H
 (try dsimp only at H)
 cases a8
 ·rw [if_neg Bool.false_ne_true] at H
  obtain rfl := Option.some.inj H
  go_enter Try.func15, Try.ntmps15
  go_wp2_with (first | ((with_reducible refine gate_dst (N := 2) rfl ?_); refine box_ev ?_; intro aU hg bK hbox hb; have ab := am hbox; have aE := gwl hg; have ba := aE; replace HB := bsl hb; clear hb hbox hg; have z25 := cf3 ab.1) | ((with_reducible refine gate_callee (f := 36) rfl ?_); refine gC 10 Try.func36 _ (karpmiller_fits.calls k ax _ _ ai _ _ ac _ _ l1 false _ (csb aT HB) aQ.1 (csb aC HB) aR.1 (csb bk HB) bi.1 A3.1) ?_; rintro e bL ⟨rfl, hb⟩; refine ⟨_, rfl, ?_⟩; replace ab := bbh ab hb; replace HB := bst hb; (try clear hb)))
  go_ret
  exact ⟨_, per, knl, pbg⟩
 rw [if_pos rfl] at H
 have H' := am H
 clear H
 go_enter Try.func15, Try.ntmps15
 go_wp2_with (first | ((with_reducible refine gate_dst (N := 2) rfl ?_); refine box_ev ?_; intro aU hg w5 hbox hb; have ab := am hbox; have aE := gwl hg; have ba := aE; replace HB := bsl hb; clear hb hbox hg; have z6 := cf3 ab.1) | ((with_reducible refine gate_callee (f := 36) rfl ?_); refine gC 10 Try.func36 _ (karpmiller_fits.calls k ax _ _ ai _ _ ac _ _ l1 true _ (csb aT HB) aQ.1 (csb aC HB) aR.1 (csb bk HB) bi.1 A3.1) ?_; rintro e w7 ⟨rfl, hb⟩; refine ⟨_, rfl, ?_⟩; replace ab := bbh ab hb; replace HB := bst hb; (try clear hb); have z8 := cf3 ab.1))
 go_loopg [5, 15] k (fun kq v5 bD w' => ∃ (aD : List Int) (aa : Int), bD = .int .i64 aa ∧ Aside0 (karpmiller_Enabled.l0 kq l1 aD ac (ac.length : Int) aa = some r) ∧ Aside0 (kq ≤ k) ∧ Aside0 (Kd.R (Kd.int .i64) 3 w' w.heap.size (fun _ => True) v5 aD) ∧ Aside0 (w'.heap[aU]? = some (.cells #[.string ax, (.slice aZ ai.length a5), (.slice a4 ac.length a6)] 25 (0, 0))) ∧ Aside0 (Below w.heap.size w w'))
 case atStart => exact ⟨(([] : List Int)), (0), prs, H', ⟨Nat.le_refl _⟩, ⟨knl⟩, ⟨pbk ab.1⟩, ⟨pbg⟩⟩
 clear H'
 try clear c1 z6 z8
 obtain ⟨aD, aa, rfl, HA, bj, ag, ab, HB⟩ := hrel
 obtain _ | k1 := gk
 ·exact absurd HA.1 (by simp [karpmiller_Enabled.l0])
 have H := HA.1
 clear HA
 simp only [karpmiller_Enabled.l0] at H
 replace H := ifl H
 rcases H with ⟨bl, H⟩ | ⟨bl, H⟩
 rotate_left
 ·obtain rfl := Option.some.inj H
  go_wp2
  go_ret
  exact ⟨_, per, by (with_reducible repeat (first | apply Kd.R_alloc | apply Kd.R_drewN | apply Kd.R_drew)); exact ag.1, pbg⟩
 replace H := ifp H
 obtain ⟨c10, H⟩ := H
 have bp := decide_eq_true c10
 clear c10
 replace H := ifp H
 obtain ⟨bq, H⟩ := H
 have br := decide_eq_true bq
 clear bq
 replace H := bnd H
 obtain ⟨a9, A12, H⟩ := H
 (try dsimp only at H)
 cases a9
 ·rw [if_neg Bool.false_ne_true] at H
  have H' := am H
  clear H
  obtain ⟨bn, bo, bg, au, ay, av, az, aw, aA, a7, aI, aJ, aK, aM, aN, aj, ao, ak, ap, al, aq⟩ := bT60 aC.1 HB.1 aa
  cases a7
  go_wp2_with (first | ((with_reducible refine gate_dst (N := 7) rfl ?_); refine box_ev (N := 7) (cs := #[.string (⟨#[]⟩ : ByteArray), .slice none 0 0, .slice none 0 0, .slice none 0 0, .int .i64 0]) (t := 60) ?_; intro ar hg bI hbox hb; have af := am hbox; have aG := gwb hg; have bb := aG; have ae := nlt hg ab; have ah := ngt hg ab; replace ag := rbw ag hb; replace ab := bbh ab hb; replace HB := bst hb; clear hb hbox hg; have bw := ah.1; have bz := ae.1; have bN := cf5 af.1) | ((with_reducible refine gate_callee (f := 37) rfl ?_); refine gC 22 Try.func37 _ (karpmiller_enabled.calls k1 ((rd_T60 ac aa).f0) _ _ ((rd_T60 ac aa).f1) _ _ ((rd_T60 ac aa).f2) _ _ ((rd_T60 ac aa).f3) ((rd_T60 ac aa).f4) _ _ l1 false _ (Kd.C_below ao.1 pbg) aj.1 (Kd.C_below ap.1 pbg) ak.1 (Kd.C_below aq.1 pbg) al.1 (Kd.C_below bk.1 pbg) bi.1 A12.1) ?_; rintro e bJ ⟨rfl, hb⟩; refine ⟨_, rfl, ?_⟩; replace ag := am (Kd.R_below (by (with_reducible repeat (first | apply Kd.R_alloc | apply Kd.R_drewN | apply Kd.R_drew)); exact (Kd.R_mono (fR5 ar (Kd.R_types ag.1 af.1 (by decide)) (fun _ hk => hk.2)) (fun _ h_ => h_.1))) hb); replace ab := bbx ab (fun h_ => by (with_reducible repeat (first | refine blk_drewN ?_ _ | refine blk_drew ?_ | refine blk_alloc ?_ _)); refine bf5 ?_ ae.1; exact pbk h_) hb; replace af := am (blk_below (g := ar) (o := .cells #[.string ((rd_T60 ac aa).f0), .slice au ((rd_T60 ac aa).f1).length ay, .slice av ((rd_T60 ac aa).f2).length az, .slice aw ((rd_T60 ac aa).f3).length aA, .int .i64 ((rd_T60 ac aa).f4)] 60 (0, 0)) (by (with_reducible repeat (first | refine blk_drewN ?_ _ | refine blk_drew ?_ | refine blk_alloc ?_ _)); exact bp5 (pbk af.1)) hb); replace HB := bst hb; (try clear hb); (try clear hk)))
  go_roundg k1
  case measure => have := bj.1; omega
  case rel => exact ⟨(aD), (wrap64 (aa + 1)), prs, H', ⟨by have := bj.1; omega⟩, ⟨pkr ag.1⟩, ⟨pbk ab.1⟩, ⟨pbg⟩⟩
 rw [if_pos rfl] at H
 replace H := ifp H
 obtain ⟨bs, H⟩ := H
 have bd := am bs
 clear bs
 obtain ⟨bh, aH⟩ : ∃ y_ : List Int, y_ = (aD ++ [aa]) := ⟨_, rfl⟩
 replace H : (karpmiller_Enabled.l0 k1 l1 bh ac (ac.length : Int) (wrap64 (aa + 1))) = some r := hrp aH H
 have bf := am aH
 clear aH
 have H' := am H
 clear H
 obtain ⟨bn, bo, bg, au, ay, av, az, aw, aA, a7, aI, aJ, aK, aM, aN, aj, ao, ak, ap, al, aq⟩ := bT60 aC.1 HB.1 aa
 cases a7
 go_wp2_with (first | ((with_reducible refine gate_dst (N := 7) rfl ?_); refine box_ev (N := 7) (cs := #[.string (⟨#[]⟩ : ByteArray), .slice none 0 0, .slice none 0 0, .slice none 0 0, .int .i64 0]) (t := 60) ?_; intro ar hg bF hbox hb; have af := am hbox; have aG := gwb hg; have bb := aG; have ae := nlt hg ab; have ah := ngt hg ab; replace ag := rbw ag hb; replace ab := bbh ab hb; replace HB := bst hb; clear hb hbox hg; have bv := ah.1; have bx := ae.1; have bM := cf5 af.1) | ((with_reducible refine gate_callee (f := 37) rfl ?_); refine gC 22 Try.func37 _ (karpmiller_enabled.calls k1 ((rd_T60 ac aa).f0) _ _ ((rd_T60 ac aa).f1) _ _ ((rd_T60 ac aa).f2) _ _ ((rd_T60 ac aa).f3) ((rd_T60 ac aa).f4) _ _ l1 true _ (Kd.C_below ao.1 pbg) aj.1 (Kd.C_below ap.1 pbg) ak.1 (Kd.C_below aq.1 pbg) al.1 (Kd.C_below bk.1 pbg) bi.1 A12.1) ?_; rintro e bG ⟨rfl, hb⟩; refine ⟨_, rfl, ?_⟩; replace ag := am (Kd.R_below (by (with_reducible repeat (first | apply Kd.R_alloc | apply Kd.R_drewN | apply Kd.R_drew)); exact (Kd.R_mono (fR5 ar (Kd.R_types ag.1 af.1 (by decide)) (fun _ hk => hk.2)) (fun _ h_ => h_.1))) hb); replace ab := bbx ab (fun h_ => by (with_reducible repeat (first | refine blk_drewN ?_ _ | refine blk_drew ?_ | refine blk_alloc ?_ _)); refine bf5 ?_ ae.1; exact pbk h_) hb; replace af := am (blk_below (g := ar) (o := .cells #[.string ((rd_T60 ac aa).f0), .slice au ((rd_T60 ac aa).f1).length ay, .slice av ((rd_T60 ac aa).f2).length az, .slice aw ((rd_T60 ac aa).f3).length aA, .int .i64 ((rd_T60 ac aa).f4)] 60 (0, 0)) (by (with_reducible repeat (first | refine blk_drewN ?_ _ | refine blk_drew ?_ | refine blk_alloc ?_ _)); exact bp5 (pbk af.1)) hb); replace HB := bst hb; (try clear hb); (try clear hk)) | ((with_reducible refine gate_builtin (b := .append) (xs := #[.tmp 23, .tmp 25]) rfl ?_); at_builtin; refine Kd.R_append (Kd.int .i64) (w0 := w) w.heap.size rfl (.tmp 23) (.tmp 25) 26 3 (.int .i64 0) 8 rfl Try.underlying26 info3 rfl (by decide) (by omega) u5 aD aa [.int .i64 aa] (fun _ => True) (fun _ => False) rfl rfl ?aP (fun _ hk => hk.elim) ?aF ?aO ?aB ?aS ?aL ?_; (case aP => exact rfl); (case aB => exact pbg); (case aF => exact (fun _ _ => trivial)); (case aO => exact (pkr ag.1)); (case aS => exact (below_size pbg)); (case aL => have := bd.1; omega); intro bE bH ho hb hg hat; rw [← bf.1] at ho; have bc := am ho; replace ab := (bgr ab hg (Kd.R_ne ag.1 ab.1 (by decide))); replace af := (bgr af hg (Kd.R_ne ag.1 af.1 (by decide))); replace HB := am hb; clear ag; clear ho hb hg hat))
 go_roundg k1
 case measure => have := bj.1; omega
 case rel => exact ⟨(bh), (wrap64 (aa + 1)), prs, H', ⟨by have := bj.1; omega⟩, ⟨pkr bc.1⟩, ⟨pbk ab.1⟩, ⟨pbg⟩⟩

/-! ### net_Initial: function 44 -/
def net_Initial.l0 : Nat → List Int → List (S57) → Int → Int → Option (List Int)
 | 0, _, _, _, _ => none
 | k + 1, x3, x10, x11, x12 => if x12 < x11 then (if 0 ≤ x12 then (if x12 < (x10.length : Int) then (if x3.length < 17592186044416 then (net_Initial.l0 k (x3 ++ [(rd_T57 x10 x12).f1]) x10 x11 (wrap64 (x12 + 1))) else (none)) else (none)) else (none)) else (some x3)
def net_Initial.f (k : Nat) (ai : ByteArray) (ab : List (S57)) (ae : List (S60)) : Option (List Int) := (net_valid.f k ai ab ae).bind fun aH => (if aH = true then (net_Initial.l0 k ([] : List Int) ab (ab.length : Int) 0) else (some ([] : List Int)))
theorem net_Initial.mono_l : ∀ k, M4 net_Initial.l0 k
 | 0 => fun _ _ _ _ r h => by simp [net_Initial.l0] at h
 | k + 1 => by
  have aX := net_Initial.mono_l k
  ·intro y0 y1 y2 y3
   unfold net_Initial.l0
   repeat' first | (with_reducible first | apply aX | apply net_valid.mono | apply lr | apply ln | apply li | refine lb ?_ fun _ => ?_)
theorem net_Initial.mono : ∀ a0 a1 a2 k, LeO (net_Initial.f k a0 a1 a2) (net_Initial.f (k + 1) a0 a1 a2) := by
 intro a0 a1 a2 k
 have aX := net_Initial.mono_l k
 unfold net_Initial.f
 repeat' first | (with_reducible first | apply aX | apply net_valid.mono | apply lr | apply ln | apply li | refine lb ?_ fun _ => ?_)
set_option maxHeartbeats 8000000 in
set_option maxRecDepth 100000 in
theorem net_Initial.calls (k : Nat) (ai : ByteArray) (aC : Option Addr) (aE : Nat) (ab : List (S57)) (aD : Option Addr) (aG : Nat) (ae : List (S60)) (r : List Int) (w : World) (az : Kd.C k57 w aC ab.length ab) (ax : ab.length ≤ aE) (aA : Kd.C k60 w aD ae.length ae) (ay : ae.length ≤ aG) (h : net_Initial.f k ai ab ae = some r) :
  Calls Try.prog 44 #[.agg #[.string ai, .slice aC ab.length aE, .slice aD ae.length aG]] w fun e w' => ∃ v0_ : Value, e = .returned (v0_) ∧ Kd.R (Kd.int .i64) 3 w' w.heap.size (fun _ => True) v0_ r ∧ Below w.heap.size w w' := by
 have a9 := Try.underlying25
 have ba := Try.underlying57
 have al := am az
 have aq := am ax
 clear az ax
 have au := am aA
 have ar := am ay
 clear aA ay
 have HB := am (Below.refl w.heap.size w)
 have H := h
 unfold net_Initial.f at H
 clear h
 replace H := bnd H
 obtain ⟨aH, A2, H⟩ := H
 (try dsimp only at H)
 cases aH
 ·rw [if_neg Bool.false_ne_true] at H
  obtain rfl := Option.some.inj H
  go_enter Try.func44, Try.ntmps44
  go_wp2_with (first | ((with_reducible refine gate_dst (N := 1) rfl ?_); refine box_ev ?_; intro av hg bi hbox hb; have aa := am hbox; have ak := gwl hg; have aI := ak; replace HB := bsl hb; clear hb hbox hg; have bl := cf3 aa.1) | ((with_reducible refine gate_callee (f := 66) rfl ?_); refine gC 7 Try.func66 _ (net_valid.calls k ai _ _ ab _ _ ae false _ (csb al HB) aq.1 (csb au HB) ar.1 A2.1) ?_; rintro e bj ⟨rfl, hb⟩; refine ⟨_, rfl, ?_⟩; replace aa := bbh aa hb; replace HB := bst hb; (try clear hb)))
  go_ret
  exact ⟨_, per, knl, pbg⟩
 rw [if_pos rfl] at H
 have H' := am H
 clear H
 go_enter Try.func44, Try.ntmps44
 go_wp2_with (first | ((with_reducible refine gate_dst (N := 1) rfl ?_); refine box_ev ?_; intro av hg w4 hbox hb; have aa := am hbox; have ak := gwl hg; have aI := ak; replace HB := bsl hb; clear hb hbox hg; have z5 := cf3 aa.1) | ((with_reducible refine gate_callee (f := 66) rfl ?_); refine gC 7 Try.func66 _ (net_valid.calls k ai _ _ ab _ _ ae true _ (csb al HB) aq.1 (csb au HB) ar.1 A2.1) ?_; rintro e w6 ⟨rfl, hb⟩; refine ⟨_, rfl, ?_⟩; replace aa := bbh aa hb; replace HB := bst hb; (try clear hb); have z7 := cf3 aa.1))
 go_loopg [3, 12] k (fun kq v3 bd w' => ∃ (ap : List Int) (ac : Int), bd = .int .i64 ac ∧ Aside0 (net_Initial.l0 kq ap ab (ab.length : Int) ac = some r) ∧ Aside0 (kq ≤ k) ∧ Aside0 (Kd.R (Kd.int .i64) 3 w' w.heap.size (fun _ => True) v3 ap) ∧ Aside0 (w'.heap[av]? = some (.cells #[.string ai, (.slice aC ab.length aE), (.slice aD ae.length aG)] 25 (0, 0))) ∧ Aside0 (Below w.heap.size w w'))
 case atStart => exact ⟨(([] : List Int)), (0), prs, H', ⟨Nat.le_refl _⟩, ⟨knl⟩, ⟨pbk aa.1⟩, ⟨pbg⟩⟩
 clear H'
 try clear z5 z7
 obtain ⟨ap, ac, rfl, HA, aZ, ah, aa, HB⟩ := hrel
 obtain _ | k1 := gk
 ·exact absurd HA.1 (by simp [net_Initial.l0])
 have H := HA.1
 clear HA
 simp only [net_Initial.l0] at H
 replace H := ifl H
 rcases H with ⟨aV, H⟩ | ⟨aV, H⟩
 rotate_left
 ·obtain rfl := Option.some.inj H
  go_wp2
  go_ret
  exact ⟨_, per, by (with_reducible repeat (first | apply Kd.R_alloc | apply Kd.R_drewN | apply Kd.R_drew)); exact ah.1, pbg⟩
 replace H := ifp H
 obtain ⟨c9, H⟩ := H
 have a8 := decide_eq_true c9
 clear c9
 replace H := ifp H
 obtain ⟨c10, H⟩ := H
 have a4 := decide_eq_true c10
 clear c10
 replace H := ifp H
 obtain ⟨a5, H⟩ := H
 have aM := am a5
 clear a5
 obtain ⟨aQ, ao⟩ : ∃ y_ : List Int, y_ = (ap ++ [(rd_T57 ab ac).f1]) := ⟨_, rfl⟩
 replace H : (net_Initial.l0 k1 aQ ab (ab.length : Int) (wrap64 (ac + 1))) = some r := hrp ao H
 have aN := am ao
 clear ao
 have H' := am H
 clear H
 obtain ⟨bb, bc, a3, aW, aR, aT, aU⟩ := bT57 al.1 HB.1 ac
 cases aW
 go_wp2_with (first | ((with_reducible refine gate_dst (N := 5) rfl ?_); refine box_ev (N := 5) (cs := #[.string (⟨#[]⟩ : ByteArray), .int .i64 0, .int .i64 0]) (t := 57) ?_; intro aw hg bg hbox hb; have ag := am hbox; have aJ := gwb hg; have aY := aJ; have af := nlt hg aa; have aj := ngt hg aa; replace ah := rbw ah hb; replace aa := bbh aa hb; replace HB := bst hb; clear hb hbox hg; have a6 := aj.1; have a7 := af.1; have bk := cf3 ag.1) | ((with_reducible refine gate_builtin (b := .append) (xs := #[.tmp 16, .tmp 19]) rfl ?_); at_builtin; refine Kd.R_append (Kd.int .i64) (w0 := w) w.heap.size rfl (.tmp 16) (.tmp 19) 26 3 (.int .i64 0) 8 rfl Try.underlying26 info3 rfl (by decide) (by omega) u3 ap ((rd_T57 ab ac).f1) [.int .i64 ((rd_T57 ab ac).f1)] (fun _ => True) (fun _ => False) rfl (by first | (go_simp; done) | (go_simp; rfl)) ?aP (fun _ hk => hk.elim) ?aF ?aO ?aB ?aS ?aL ?_; (case aP => exact rfl); (case aB => exact pbg); (case aF => exact (fun _ _ => trivial)); (case aO => exact (by (with_reducible repeat (first | apply Kd.R_alloc | apply Kd.R_drewN | apply Kd.R_drew)); exact Kd.R_mono (fR3 aw (Kd.R_types ah.1 ag.1 (by decide)) (fun _ hk => hk.2)) (fun _ hk => trivial))); (case aS => exact (below_size pbg)); (case aL => have := aM.1; omega); intro bf bh ho hb hg hat; rw [← aN.1] at ho; have aK := am ho; replace aa := (bgx aa (fun h_ => by (with_reducible repeat (first | refine blk_drewN ?_ _ | refine blk_drew ?_ | refine blk_alloc ?_ _)); refine bf3 ?_ af.1; exact pbk h_) hg (Kd.R_ne ah.1 aa.1 (by decide))); replace ag := am (blk_grown (g := aw) (o := .cells #[.string ((rd_T57 ab ac).f0), .int .i64 ((rd_T57 ab ac).f1), .int .i64 ((rd_T57 ab ac).f2)] 57 (0, 0)) (by (with_reducible repeat (first | refine blk_drewN ?_ _ | refine blk_drew ?_ | refine blk_alloc ?_ _)); exact bp3 (pbk ag.1)) hg (Kd.R_ne ah.1 ag.1 (by decide))); replace HB := am hb; clear ah; clear ho hb hg hat))
 go_roundg k1
 case measure => have := aZ.1; omega
 case rel => exact ⟨(aQ), (wrap64 (ac + 1)), prs, H', ⟨by have := aZ.1; omega⟩, ⟨pkr aK.1⟩, ⟨pbk aa.1⟩, ⟨pbg⟩⟩

end Go.Proofs.Yteknagfpiadaiaa.P
