-- LAID BY OUR PROGRAM OVER THE PRINT (xprint.py, part.py): Lean checks it.
import Derived.Test.YtplljicodflagaaPx0
import Derived.Test.YtplljicodflagaaPx5
import Derived.Test.YtplljicodflagaaPx7
namespace Go.Proofs.Ytplljicodflagaa.P
open Go.RowKit Go.Proofs.YtplljicodflagaaW.PrintWords Go.Proofs.YtplljicodflagaaW.PrintLast Go.Proofs.YtplljicodflagaaW.PrintMore
attribute [local go_sem] max2_int min2_int max_two min_two max_three min_three max_four min_four   -- for this text's walks alone
set_option linter.unusedVariables false
set_option linter.unusedSimpArgs false

/-! ### r09_Plain: function 64 -/
mutual
def r09_Plain.l0 : Nat → Int → ByteArray → List (S46) → List (S41) → Option (Bool)
 | 0, _, _, _, _ => none
 | k + 1, x3, x473000, x473001, x473002 => if x3 < (x473001.length : Int) then (if 0 ≤ x3 then (if ((rd_T46 x473001 x3).f2) = 0 then (r09_Plain.l0 k (wrap64 (x3 + 1)) x473000 x473001 x473002) else (some false)) else (none)) else (r09_Plain.l1 k 0 x473000 x473001 x473002)
def r09_Plain.l1 : Nat → Int → ByteArray → List (S46) → List (S41) → Option (Bool)
 | 0, _, _, _, _ => none
 | k + 1, x4, x473000, x473001, x473002 => if x4 < (x473002.length : Int) then (if 0 ≤ x4 then (if (((rd_T41 x473002 x4).f3).length : Int) > 0 then (some false) else (if ((rd_T41 x473002 x4).f4) = 0 then (r09_Plain.l1 k (wrap64 (x4 + 1)) x473000 x473001 x473002) else (some false))) else (none)) else (some true)
end
def r09_Plain.f (k : Nat) (a0_0 : ByteArray) (l0_1 : List (S46)) (l0_2 : List (S41)) : Option (Bool) := (r09_Valid.f k a0_0 l0_1 l0_2).bind fun t473 => (if t473 = true then (r09_Plain.l0 k 0 a0_0 l0_1 l0_2) else (some false))
theorem r09_Plain.mono_l : ∀ k, M4 r09_Plain.l0 k ∧ M4 r09_Plain.l1 k
 | 0 => ⟨fun _ _ _ _ r h => by simp [r09_Plain.l0] at h, fun _ _ _ _ r h => by simp [r09_Plain.l1] at h⟩
 | k + 1 => by
  obtain ⟨ih0, ih1⟩ := r09_Plain.mono_l k
  refine ⟨?_, ?_⟩ <;> dsimp only [M4] <;> intros <;> (first | unfold r09_Plain.l0 | unfold r09_Plain.l1) <;> repeat' first | (with_reducible first | apply ih0 | apply ih1 | apply r09_Valid.mono | apply lr | apply ln | apply li | refine lb ?_ fun _ => ?_)
theorem r09_Plain.mono : ∀ a0 a1 a2 k, LeO (r09_Plain.f k a0 a1 a2) (r09_Plain.f (k + 1) a0 a1 a2) := by
 intro a0 a1 a2 k
 obtain ⟨ih0, ih1⟩ := r09_Plain.mono_l k
 unfold r09_Plain.f
 repeat' first | (with_reducible first | apply ih0 | apply ih1 | apply r09_Valid.mono | apply lr | apply ln | apply li | refine lb ?_ fun _ => ?_)
set_option maxHeartbeats 8000000 in
set_option maxRecDepth 100000 in
theorem r09_Plain.calls (k : Nat) (a0_0 : ByteArray) (A0_1 : Option Addr) (c0_1 : Nat) (l0_1 : List (S46)) (A0_2 : Option Addr) (c0_2 : Nat) (l0_2 : List (S41)) (r : Bool) (w : World) (hr0_1 : Kd.C k46 w A0_1 l0_1.length l0_1) (hc0_1 : l0_1.length ≤ c0_1) (hr0_2 : Kd.C k41 w A0_2 l0_2.length l0_2) (hc0_2 : l0_2.length ≤ c0_2) (h : r09_Plain.f k a0_0 l0_1 l0_2 = some r) :
  Calls Try.prog 64 #[.agg #[.string a0_0, .slice A0_1 l0_1.length c0_1, .slice A0_2 l0_2.length c0_2]] w fun e w' => e = .returned (.bool r) ∧ Below w.heap.size w w' := by
 have hu25 := Try.underlying25
 have HR0_1 := am hr0_1
 have HC0_1 := am hc0_1
 clear hr0_1 hc0_1
 have HR0_2 := am hr0_2
 have HC0_2 := am hc0_2
 clear hr0_2 hc0_2
 have HB := am (Below.refl w.heap.size w)
 have H : ((r09_Valid.f k a0_0 l0_1 l0_2).bind fun t473 => (if t473 = true then (r09_Plain.l0 k 0 a0_0 l0_1 l0_2) else (some false))) = some r := h
 clear h
 replace H := bnd H
 obtain ⟨t473, A2, H⟩ := H
 (try dsimp only at H)
 by_cases c3 : t473 = true
 rotate_left
 ·replace c3 := Bool.eq_false_iff.mpr c3
  subst c3
  rw [if_neg Bool.false_ne_true] at H
  obtain rfl := Option.some.inj H
  go_enter Try.func64, Try.ntmps64
  go_wp2_with (first | ((with_reducible refine gate_dst (N := 1) rfl ?_); refine box_ev (N := 1) (cs := #[.string a0_0, .slice A0_1 l0_1.length c0_1, .slice A0_2 l0_2.length c0_2]) (t := 25) ?_; intro gb472 hg w21 hbox hb; have BK472 := am hbox; have GW472 := gwl hg; have GE472 := GW472; replace HB := bsl hb; clear hb hbox hg; have z22 := cf3 BK472.1) | ((with_reducible refine gate_callee (f := 34) rfl ?_); refine gC 6 Try.func34 _ (r09_Valid.calls k a0_0 _ _ l0_1 _ _ l0_2 false _ (csb HR0_1 HB) HC0_1.1 (csb HR0_2 HB) HC0_2.1 A2.1) ?_; rintro e w23 ⟨rfl, hb⟩; refine ⟨_, rfl, ?_⟩; replace BK472 := bbh BK472 hb; replace HB := bst hb; (try clear hb)))
  go_ret
  exact ⟨per, pbg⟩
 subst c3
 rw [if_pos rfl] at H
 have H' := am H
 clear H
 go_enter Try.func64, Try.ntmps64
 go_wp2_with (first | ((with_reducible refine gate_dst (N := 1) rfl ?_); refine box_ev (N := 1) (cs := #[.string a0_0, .slice A0_1 l0_1.length c0_1, .slice A0_2 l0_2.length c0_2]) (t := 25) ?_; intro gb472 hg w4 hbox hb; have BK472 := am hbox; have GW472 := gwl hg; have GE472 := GW472; replace HB := bsl hb; clear hb hbox hg; have z5 := cf3 BK472.1) | ((with_reducible refine gate_callee (f := 34) rfl ?_); refine gC 6 Try.func34 _ (r09_Valid.calls k a0_0 _ _ l0_1 _ _ l0_2 true _ (csb HR0_1 HB) HC0_1.1 (csb HR0_2 HB) HC0_2.1 A2.1) ?_; rintro e w6 ⟨rfl, hb⟩; refine ⟨_, rfl, ?_⟩; replace BK472 := bbh BK472 hb; replace HB := bst hb; (try clear hb)))
 go_loopg [3] k (fun kq v3 w' => ∃ (x3_1 : Int), v3 = .int .i64 x3_1 ∧ Aside0 (r09_Plain.l0 kq x3_1 a0_0 l0_1 l0_2 = some r) ∧ Aside0 (kq ≤ k) ∧ Aside0 (w'.heap[gb472]? = some (.cells #[.string a0_0, (.slice A0_1 l0_1.length c0_1), (.slice A0_2 l0_2.length c0_2)] 25 (0, 0))) ∧ Aside0 (Below w.heap.size w w'))
 case atStart => exact ⟨(0), prs, H', ⟨Nat.le_refl _⟩, ⟨pbk BK472.1⟩, ⟨pbg⟩⟩
 clear H'
 try clear c3 z5
 obtain ⟨x3_1, rfl, HA, HK1, BK472, HB⟩ := hrel
 obtain _ | k1 := gk
 ·exact absurd HA.1 (by simp [r09_Plain.l0])
 have H := HA.1
 clear HA
 simp only [r09_Plain.l0] at H
 by_cases c7 : x3_1 < (l0_1.length : Int)
 ·rw [if_pos c7] at H
  have c7b0 : decide (x3_1 < (l0_1.length : Int)) = true := decide_eq_true c7
  clear c7
  replace H := ifp H
  obtain ⟨c8, H⟩ := H
  have c8b0 := decide_eq_true c8
  clear c8
  by_cases c9 : ((rd_T46 l0_1 x3_1).f2) = 0
  rotate_left
  ·rw [if_neg c9] at H
   have c9b0 : (((rd_T46 l0_1 x3_1).f2) == 0) = false := beq_eq_false_iff_ne.mpr c9
   have c9b1 : (((rd_T46 l0_1 x3_1).f2) != 0) = true := bne_iff_ne.mpr c9
   obtain rfl := Option.some.inj H
   have z11 := cf3 BK472.1
   obtain ⟨p474, q474, ad474, e474, hx474_0, hx474_1, hx474_2⟩ := bT46 HR0_1.1 HB.1 x3_1
   cases e474
   go_wp2
   go_ret
   exact ⟨per, pbg⟩
  rw [if_pos c9] at H
  have c9b0 : (((rd_T46 l0_1 x3_1).f2) == 0) = true := beq_iff_eq.mpr c9
  have c9b1 : (((rd_T46 l0_1 x3_1).f2) != 0) = false := bne_eq_false_iff_eq.mpr c9
  clear c9
  have H' := am H
  clear H
  have z10 := cf3 BK472.1
  obtain ⟨p474, q474, ad474, e474, hx474_0, hx474_1, hx474_2⟩ := bT46 HR0_1.1 HB.1 x3_1
  cases e474
  go_wp2
  go_roundg k1
  case measure => have := HK1.1; omega
  case rel => exact ⟨(wrap64 (x3_1 + 1)), prs, H', ⟨by have := HK1.1; omega⟩, ⟨pbk BK472.1⟩, ⟨pbg⟩⟩
 rw [if_neg c7] at H
 have c7b0 : decide (x3_1 < (l0_1.length : Int)) = false := decide_eq_false c7
 clear c7
 have H' := am H
 clear H
 have z12 := cf3 BK472.1
 go_wp2
 go_loopg [4] k1 (fun kq v4 w' => ∃ (x4_2 : Int), v4 = .int .i64 x4_2 ∧ Aside0 (r09_Plain.l1 kq x4_2 a0_0 l0_1 l0_2 = some r) ∧ Aside0 (kq ≤ k1) ∧ Aside0 (w'.heap[gb472]? = some (.cells #[.string a0_0, (.slice A0_1 l0_1.length c0_1), (.slice A0_2 l0_2.length c0_2)] 25 (0, 0))) ∧ Aside0 (Below w.heap.size w w'))
 case atStart => exact ⟨(0), prs, H', ⟨Nat.le_refl _⟩, ⟨pbk BK472.1⟩, ⟨pbg⟩⟩
 clear H'
 try clear c3 c7 c7b0 c8 c8b0 c9 c9b0 c9b1 z10 z11 z12 z5 hx474_0 hx474_1 hx474_2 p474 q474
 obtain ⟨x4_2, rfl, HA, HK2, BK472, HB⟩ := hrel
 obtain _ | k2 := gk
 ·exact absurd HA.1 (by simp [r09_Plain.l1])
 have H := HA.1
 clear HA
 simp only [r09_Plain.l1] at H
 by_cases c13 : x4_2 < (l0_2.length : Int)
 rotate_left
 ·rw [if_neg c13] at H
  have c13b0 : decide (x4_2 < (l0_2.length : Int)) = false := decide_eq_false c13
  clear c13
  obtain rfl := Option.some.inj H
  have z20 := cf3 BK472.1
  go_wp2
  go_ret
  exact ⟨per, pbg⟩
 rw [if_pos c13] at H
 have c13b0 : decide (x4_2 < (l0_2.length : Int)) = true := decide_eq_true c13
 clear c13
 replace H := ifp H
 obtain ⟨c14, H⟩ := H
 have c14b0 := decide_eq_true c14
 clear c14
 by_cases c15 : (((rd_T41 l0_2 x4_2).f3).length : Int) > 0
 ·rw [if_pos c15] at H
  have c15b0 : decide (0 < (((rd_T41 l0_2 x4_2).f3).length : Int)) = true := decide_eq_true c15
  have c15b1 : decide (0 < ((rd_T41 l0_2 x4_2).f3).length) = true := decide_eq_true (by omega)
  clear c15
  obtain rfl := Option.some.inj H
  have z16 := cf3 BK472.1
  obtain ⟨p475, q475, ad475, A475_1, c475_1, A475_2, c475_2, A475_3, c475_3, e475, hx475_0, hx475_1, hx475_2, hx475_3, hx475_4, HC475_1, HR475_1, HC475_2, HR475_2, HC475_3, HR475_3⟩ := bT41 HR0_2.1 HB.1 x4_2
  cases e475
  go_wp2
  go_ret
  exact ⟨per, pbg⟩
 rw [if_neg c15] at H
 have c15b0 : decide (0 < (((rd_T41 l0_2 x4_2).f3).length : Int)) = false := decide_eq_false c15
 have c15b1 : decide (0 < ((rd_T41 l0_2 x4_2).f3).length) = false := decide_eq_false (by omega)
 clear c15
 by_cases c17 : ((rd_T41 l0_2 x4_2).f4) = 0
 rotate_left
 ·rw [if_neg c17] at H
  have c17b0 : (((rd_T41 l0_2 x4_2).f4) == 0) = false := beq_eq_false_iff_ne.mpr c17
  have c17b1 : (((rd_T41 l0_2 x4_2).f4) != 0) = true := bne_iff_ne.mpr c17
  obtain rfl := Option.some.inj H
  have z19 := cf3 BK472.1
  obtain ⟨p475, q475, ad475, A475_1, c475_1, A475_2, c475_2, A475_3, c475_3, e475, hx475_0, hx475_1, hx475_2, hx475_3, hx475_4, HC475_1, HR475_1, HC475_2, HR475_2, HC475_3, HR475_3⟩ := bT41 HR0_2.1 HB.1 x4_2
  cases e475
  obtain ⟨p476, q476, ad476, A476_1, c476_1, A476_2, c476_2, A476_3, c476_3, e476, hx476_0, hx476_1, hx476_2, hx476_3, hx476_4, HC476_1, HR476_1, HC476_2, HR476_2, HC476_3, HR476_3⟩ := bT41 HR0_2.1 HB.1 x4_2
  obtain rfl : ad475 = ad476 := (by injection e476)
  have ea_ := Option.some.inj (hx475_1.symm.trans hx476_1)
  injection ea_ with ea_ en_ ec_
  subst ea_
  subst ec_
  clear en_
  have ea_ := Option.some.inj (hx475_2.symm.trans hx476_2)
  injection ea_ with ea_ en_ ec_
  subst ea_
  subst ec_
  clear en_
  have ea_ := Option.some.inj (hx475_3.symm.trans hx476_3)
  injection ea_ with ea_ en_ ec_
  subst ea_
  subst ec_
  clear en_
  go_wp2
  go_ret
  exact ⟨per, pbg⟩
 rw [if_pos c17] at H
 have c17b0 : (((rd_T41 l0_2 x4_2).f4) == 0) = true := beq_iff_eq.mpr c17
 have c17b1 : (((rd_T41 l0_2 x4_2).f4) != 0) = false := bne_eq_false_iff_eq.mpr c17
 clear c17
 have H' := am H
 clear H
 have z18 := cf3 BK472.1
 obtain ⟨p475, q475, ad475, A475_1, c475_1, A475_2, c475_2, A475_3, c475_3, e475, hx475_0, hx475_1, hx475_2, hx475_3, hx475_4, HC475_1, HR475_1, HC475_2, HR475_2, HC475_3, HR475_3⟩ := bT41 HR0_2.1 HB.1 x4_2
 cases e475
 obtain ⟨p476, q476, ad476, A476_1, c476_1, A476_2, c476_2, A476_3, c476_3, e476, hx476_0, hx476_1, hx476_2, hx476_3, hx476_4, HC476_1, HR476_1, HC476_2, HR476_2, HC476_3, HR476_3⟩ := bT41 HR0_2.1 HB.1 x4_2
 obtain rfl : ad475 = ad476 := (by injection e476)
 have ea_ := Option.some.inj (hx475_1.symm.trans hx476_1)
 injection ea_ with ea_ en_ ec_
 subst ea_
 subst ec_
 clear en_
 have ea_ := Option.some.inj (hx475_2.symm.trans hx476_2)
 injection ea_ with ea_ en_ ec_
 subst ea_
 subst ec_
 clear en_
 have ea_ := Option.some.inj (hx475_3.symm.trans hx476_3)
 injection ea_ with ea_ en_ ec_
 subst ea_
 subst ec_
 clear en_
 go_wp2
 go_roundg k2
 case measure => have := HK1.1; have := HK2.1; omega
 case rel => exact ⟨(wrap64 (x4_2 + 1)), prs, H', ⟨by have := HK1.1; have := HK2.1; omega⟩, ⟨pbk BK472.1⟩, ⟨pbg⟩⟩

/-! ### r09_ones: function 83 -/
def r09_ones.l0 : Nat → List (S43) → Int → Option (Bool)
 | 0, _, _ => none
 | k + 1, x0, x3 => if x3 < (x0.length : Int) then (if 0 ≤ x3 then (if ((rd_T43 x0 x3).f1) = 1 then (r09_ones.l0 k x0 (wrap64 (x3 + 1))) else (some false)) else (none)) else (some true)
def r09_ones.f (k : Nat) (l0 : List (S43)) : Option (Bool) := r09_ones.l0 k l0 0
theorem r09_ones.mono_l : ∀ k, M2 r09_ones.l0 k
 | 0 => fun _ _ r h => by simp [r09_ones.l0] at h
 | k + 1 => by
  have ih0 := r09_ones.mono_l k
  ·intro y0 y1
   unfold r09_ones.l0
   repeat' first | (with_reducible first | apply ih0 | apply lr | apply ln | apply li | refine lb ?_ fun _ => ?_)
theorem r09_ones.mono : ∀ a0 k, LeO (r09_ones.f k a0) (r09_ones.f (k + 1) a0) := by
 intro a0 k
 have ih0 := r09_ones.mono_l k
 unfold r09_ones.f
 repeat' first | (with_reducible first | apply ih0 | apply lr | apply ln | apply li | refine lb ?_ fun _ => ?_)
set_option maxHeartbeats 8000000 in
set_option maxRecDepth 100000 in
theorem r09_ones.calls (k : Nat) (A0 : Option Addr) (c0 : Nat) (l0 : List (S43)) (r : Bool) (w : World) (hr0 : Kd.C k43 w A0 l0.length l0) (hc0 : l0.length ≤ c0) (h : r09_ones.f k l0 = some r) :
  Calls Try.prog 83 #[.slice A0 l0.length c0] w fun e w' => e = .returned (.bool r) ∧ Drawn0 w w' := by
 have HR0 := am hr0
 have HC0 := am hc0
 clear hr0 hc0
 have H : (r09_ones.l0 k l0 0) = some r := h
 clear h
 have H' := am H
 clear H
 go_enter Try.func83, Try.ntmps83
 go_wp2
 go_loopg [3] k (fun kq v3 w' => ∃ (x3_1 : Int), v3 = .int .i64 x3_1 ∧ Aside0 (r09_ones.l0 kq l0 x3_1 = some r) ∧ Aside0 (kq ≤ k) ∧ Drawn0 w w')
 case atStart => exact ⟨(0), prs, H', ⟨Nat.le_refl _⟩, pdr⟩
 clear H'
 obtain ⟨x3_1, rfl, HA, HK1, ⟨m1, rfl⟩⟩ := hrel
 obtain _ | k1 := gk
 ·exact absurd HA.1 (by simp [r09_ones.l0])
 have H := HA.1
 clear HA
 simp only [r09_ones.l0] at H
 by_cases c2 : x3_1 < (l0.length : Int)
 rotate_left
 ·rw [if_neg c2] at H
  have c2b0 : decide (x3_1 < (l0.length : Int)) = false := decide_eq_false c2
  clear c2
  obtain rfl := Option.some.inj H
  go_wp2
  go_ret
  exact ⟨prs, pdr⟩
 rw [if_pos c2] at H
 have c2b0 : decide (x3_1 < (l0.length : Int)) = true := decide_eq_true c2
 clear c2
 replace H := ifp H
 obtain ⟨c3, H⟩ := H
 have c3b0 := decide_eq_true c3
 clear c3
 by_cases c4 : ((rd_T43 l0 x3_1).f1) = 1
 rotate_left
 ·rw [if_neg c4] at H
  have c4b0 : (((rd_T43 l0 x3_1).f1) == 1) = false := beq_eq_false_iff_ne.mpr c4
  have c4b1 : (((rd_T43 l0 x3_1).f1) != 1) = true := bne_iff_ne.mpr c4
  obtain rfl := Option.some.inj H
  obtain ⟨p477, q477, ad477, e477, hx477_0, hx477_1⟩ := dT43 HR0.1 x3_1
  cases e477
  go_wp2
  go_ret
  exact ⟨prs, pdr⟩
 rw [if_pos c4] at H
 have c4b0 : (((rd_T43 l0 x3_1).f1) == 1) = true := beq_iff_eq.mpr c4
 have c4b1 : (((rd_T43 l0 x3_1).f1) != 1) = false := bne_eq_false_iff_eq.mpr c4
 clear c4
 have H' := am H
 clear H
 obtain ⟨p477, q477, ad477, e477, hx477_0, hx477_1⟩ := dT43 HR0.1 x3_1
 cases e477
 go_wp2
 go_roundg k1
 case measure => have := HK1.1; omega
 case rel => exact ⟨(wrap64 (x3_1 + 1)), prs, H', ⟨by have := HK1.1; omega⟩, pdr⟩

/-! ### r09_Ordinary: function 65 -/
def r09_Ordinary.l0 : Nat → Int → ByteArray → List (S46) → List (S41) → Option (Bool)
 | 0, _, _, _, _ => none
 | k + 1, x3, x479000, x479001, x479002 => if x3 < (x479002.length : Int) then (if 0 ≤ x3 then ((r09_ones.f k ((rd_T41 x479002 x3).f1)).bind fun t481 => (if t481 = true then ((r09_ones.f k ((rd_T41 x479002 x3).f2)).bind fun t483 => (if t483 = true then (r09_Ordinary.l0 k (wrap64 (x3 + 1)) x479000 x479001 x479002) else (some false))) else (some false))) else (none)) else (some true)
def r09_Ordinary.f (k : Nat) (a0_0 : ByteArray) (l0_1 : List (S46)) (l0_2 : List (S41)) : Option (Bool) := (r09_Valid.f k a0_0 l0_1 l0_2).bind fun t479 => (if t479 = true then (r09_Ordinary.l0 k 0 a0_0 l0_1 l0_2) else (some false))
theorem r09_Ordinary.mono_l : ∀ k, M4 r09_Ordinary.l0 k
 | 0 => fun _ _ _ _ r h => by simp [r09_Ordinary.l0] at h
 | k + 1 => by
  have ih0 := r09_Ordinary.mono_l k
  ·intro y0 y1 y2 y3
   unfold r09_Ordinary.l0
   repeat' first | (with_reducible first | apply ih0 | apply r09_Valid.mono | apply r09_ones.mono | apply lr | apply ln | apply li | refine lb ?_ fun _ => ?_)
theorem r09_Ordinary.mono : ∀ a0 a1 a2 k, LeO (r09_Ordinary.f k a0 a1 a2) (r09_Ordinary.f (k + 1) a0 a1 a2) := by
 intro a0 a1 a2 k
 have ih0 := r09_Ordinary.mono_l k
 unfold r09_Ordinary.f
 repeat' first | (with_reducible first | apply ih0 | apply r09_Valid.mono | apply r09_ones.mono | apply lr | apply ln | apply li | refine lb ?_ fun _ => ?_)
set_option maxHeartbeats 8000000 in
set_option maxRecDepth 100000 in
theorem r09_Ordinary.calls (k : Nat) (a0_0 : ByteArray) (A0_1 : Option Addr) (c0_1 : Nat) (l0_1 : List (S46)) (A0_2 : Option Addr) (c0_2 : Nat) (l0_2 : List (S41)) (r : Bool) (w : World) (hr0_1 : Kd.C k46 w A0_1 l0_1.length l0_1) (hc0_1 : l0_1.length ≤ c0_1) (hr0_2 : Kd.C k41 w A0_2 l0_2.length l0_2) (hc0_2 : l0_2.length ≤ c0_2) (h : r09_Ordinary.f k a0_0 l0_1 l0_2 = some r) :
  Calls Try.prog 65 #[.agg #[.string a0_0, .slice A0_1 l0_1.length c0_1, .slice A0_2 l0_2.length c0_2]] w fun e w' => e = .returned (.bool r) ∧ Below w.heap.size w w' := by
 have hu25 := Try.underlying25
 have HR0_1 := am hr0_1
 have HC0_1 := am hc0_1
 clear hr0_1 hc0_1
 have HR0_2 := am hr0_2
 have HC0_2 := am hc0_2
 clear hr0_2 hc0_2
 have HB := am (Below.refl w.heap.size w)
 have H : ((r09_Valid.f k a0_0 l0_1 l0_2).bind fun t479 => (if t479 = true then (r09_Ordinary.l0 k 0 a0_0 l0_1 l0_2) else (some false))) = some r := h
 clear h
 replace H := bnd H
 obtain ⟨t479, A2, H⟩ := H
 (try dsimp only at H)
 by_cases c3 : t479 = true
 rotate_left
 ·replace c3 := Bool.eq_false_iff.mpr c3
  subst c3
  rw [if_neg Bool.false_ne_true] at H
  obtain rfl := Option.some.inj H
  go_enter Try.func65, Try.ntmps65
  go_wp2_with (first | ((with_reducible refine gate_dst (N := 1) rfl ?_); refine box_ev (N := 1) (cs := #[.string a0_0, .slice A0_1 l0_1.length c0_1, .slice A0_2 l0_2.length c0_2]) (t := 25) ?_; intro gb478 hg w17 hbox hb; have BK478 := am hbox; have GW478 := gwl hg; have GE478 := GW478; replace HB := bsl hb; clear hb hbox hg; have z18 := cf3 BK478.1) | ((with_reducible refine gate_callee (f := 34) rfl ?_); refine gC 5 Try.func34 _ (r09_Valid.calls k a0_0 _ _ l0_1 _ _ l0_2 false _ (csb HR0_1 HB) HC0_1.1 (csb HR0_2 HB) HC0_2.1 A2.1) ?_; rintro e w19 ⟨rfl, hb⟩; refine ⟨_, rfl, ?_⟩; replace BK478 := bbh BK478 hb; replace HB := bst hb; (try clear hb)))
  go_ret
  exact ⟨per, pbg⟩
 subst c3
 rw [if_pos rfl] at H
 have H' := am H
 clear H
 go_enter Try.func65, Try.ntmps65
 go_wp2_with (first | ((with_reducible refine gate_dst (N := 1) rfl ?_); refine box_ev (N := 1) (cs := #[.string a0_0, .slice A0_1 l0_1.length c0_1, .slice A0_2 l0_2.length c0_2]) (t := 25) ?_; intro gb478 hg w4 hbox hb; have BK478 := am hbox; have GW478 := gwl hg; have GE478 := GW478; replace HB := bsl hb; clear hb hbox hg; have z5 := cf3 BK478.1) | ((with_reducible refine gate_callee (f := 34) rfl ?_); refine gC 5 Try.func34 _ (r09_Valid.calls k a0_0 _ _ l0_1 _ _ l0_2 true _ (csb HR0_1 HB) HC0_1.1 (csb HR0_2 HB) HC0_2.1 A2.1) ?_; rintro e w6 ⟨rfl, hb⟩; refine ⟨_, rfl, ?_⟩; replace BK478 := bbh BK478 hb; replace HB := bst hb; (try clear hb)))
 go_loopg [3] k (fun kq v3 w' => ∃ (x3_1 : Int), v3 = .int .i64 x3_1 ∧ Aside0 (r09_Ordinary.l0 kq x3_1 a0_0 l0_1 l0_2 = some r) ∧ Aside0 (kq ≤ k) ∧ Aside0 (w'.heap[gb478]? = some (.cells #[.string a0_0, (.slice A0_1 l0_1.length c0_1), (.slice A0_2 l0_2.length c0_2)] 25 (0, 0))) ∧ Aside0 (Below w.heap.size w w'))
 case atStart => exact ⟨(0), prs, H', ⟨Nat.le_refl _⟩, ⟨pbk BK478.1⟩, ⟨pbg⟩⟩
 clear H'
 try clear c3 z5
 obtain ⟨x3_1, rfl, HA, HK1, BK478, HB⟩ := hrel
 obtain _ | k1 := gk
 ·exact absurd HA.1 (by simp [r09_Ordinary.l0])
 have H := HA.1
 clear HA
 simp only [r09_Ordinary.l0] at H
 by_cases c7 : x3_1 < (l0_2.length : Int)
 rotate_left
 ·rw [if_neg c7] at H
  have c7b0 : decide (x3_1 < (l0_2.length : Int)) = false := decide_eq_false c7
  clear c7
  obtain rfl := Option.some.inj H
  have z16 := cf3 BK478.1
  go_wp2
  go_ret
  exact ⟨per, pbg⟩
 rw [if_pos c7] at H
 have c7b0 : decide (x3_1 < (l0_2.length : Int)) = true := decide_eq_true c7
 clear c7
 replace H := ifp H
 obtain ⟨c8, H⟩ := H
 have c8b0 := decide_eq_true c8
 clear c8
 replace H := bnd H
 obtain ⟨t481, A9, H⟩ := H
 (try dsimp only at H)
 by_cases c10 : t481 = true
 rotate_left
 ·replace c10 := Bool.eq_false_iff.mpr c10
  subst c10
  rw [if_neg Bool.false_ne_true] at H
  obtain rfl := Option.some.inj H
  have z15 := cf3 BK478.1
  obtain ⟨p480, q480, ad480, A480_1, c480_1, A480_2, c480_2, A480_3, c480_3, e480, hx480_0, hx480_1, hx480_2, hx480_3, hx480_4, HC480_1, HR480_1, HC480_2, HR480_2, HC480_3, HR480_3⟩ := bT41 HR0_2.1 HB.1 x3_1
  cases e480
  go_wp2_with (first | ((with_reducible refine gate_callee (f := 83) rfl ?_); refine gC 20 Try.func83 _ (r09_ones.calls k1 _ _ ((rd_T41 l0_2 x3_1).f1) false _ (csb HR480_1 HB) HC480_1.1 A9.1) ?_; rintro e w' ⟨rfl, ⟨nd, rfl⟩⟩; refine ⟨_, rfl, ?_⟩))
  go_ret
  exact ⟨per, pbg⟩
 subst c10
 rw [if_pos rfl] at H
 replace H := bnd H
 obtain ⟨t483, A11, H⟩ := H
 (try dsimp only at H)
 by_cases c12 : t483 = true
 rotate_left
 ·replace c12 := Bool.eq_false_iff.mpr c12
  subst c12
  rw [if_neg Bool.false_ne_true] at H
  obtain rfl := Option.some.inj H
  have z14 := cf3 BK478.1
  obtain ⟨p480, q480, ad480, A480_1, c480_1, A480_2, c480_2, A480_3, c480_3, e480, hx480_0, hx480_1, hx480_2, hx480_3, hx480_4, HC480_1, HR480_1, HC480_2, HR480_2, HC480_3, HR480_3⟩ := bT41 HR0_2.1 HB.1 x3_1
  cases e480
  go_wp2_with (first | ((with_reducible refine gate_callee (f := 83) rfl ?_); refine gC 20 Try.func83 _ (r09_ones.calls k1 _ _ ((rd_T41 l0_2 x3_1).f1) true _ (csb HR480_1 HB) HC480_1.1 A9.1) ?_; rintro e w' ⟨rfl, ⟨nd, rfl⟩⟩; refine ⟨_, rfl, ?_⟩; have p482 : 0 ≤ (x3_1 : Int) := dq; have q482 : x3_1 < (l0_2.length : Int) := dq; obtain ⟨ad482, A482_1, c482_1, A482_2, c482_2, A482_3, c482_3, e482, hx482_0, hx482_1, hx482_2, hx482_3, hx482_4, hl482_1, hi482_1, hl482_2, hi482_2, hl482_3, hi482_3⟩ := at_T41 HR0_2.1 x3_1 p482 q482; obtain rfl : ad480 = ad482 := (by injection e482); replace hx482_0 := cbl HB.1 hx482_0; replace hx482_1 := cbl HB.1 hx482_1; replace hx482_2 := cbl HB.1 hx482_2; replace hx482_3 := cbl HB.1 hx482_3; replace hx482_4 := cbl HB.1 hx482_4; have HR482_1 := am hi482_1; have HC482_1 := am hl482_1; clear hi482_1 hl482_1; have HR482_2 := am hi482_2; have HC482_2 := am hl482_2; clear hi482_2 hl482_2; have HR482_3 := am hi482_3; have HC482_3 := am hl482_3; clear hi482_3 hl482_3; replace p482 := eq_true p482; replace q482 := eq_true q482; have ea_ := Option.some.inj (hx480_1.symm.trans hx482_1); injection ea_ with ea_ en_ ec_; subst ea_; subst ec_; clear en_; have ea_ := Option.some.inj (hx480_2.symm.trans hx482_2); injection ea_ with ea_ en_ ec_; subst ea_; subst ec_; clear en_; have ea_ := Option.some.inj (hx480_3.symm.trans hx482_3); injection ea_ with ea_ en_ ec_; subst ea_; subst ec_; clear en_) | (go_at_call 83; (with_reducible refine (r09_ones.calls k1 _ _ ((rd_T41 l0_2 x3_1).f2) false _ ?side1 ?side2 A11.1).mono ?_); (case side1 => exact csd ((Kd.C_below HR482_2.1 pbg))); (case side2 => exact HC482_2.1); rintro e w' ⟨rfl, ⟨nd, rfl⟩⟩))
  go_ret
  exact ⟨per, pbg⟩
 subst c12
 rw [if_pos rfl] at H
 have H' := am H
 clear H
 have z13 := cf3 BK478.1
 obtain ⟨p480, q480, ad480, A480_1, c480_1, A480_2, c480_2, A480_3, c480_3, e480, hx480_0, hx480_1, hx480_2, hx480_3, hx480_4, HC480_1, HR480_1, HC480_2, HR480_2, HC480_3, HR480_3⟩ := bT41 HR0_2.1 HB.1 x3_1
 cases e480
 go_wp2_with (first | ((with_reducible refine gate_callee (f := 83) rfl ?_); refine gC 20 Try.func83 _ (r09_ones.calls k1 _ _ ((rd_T41 l0_2 x3_1).f1) true _ (csb HR480_1 HB) HC480_1.1 A9.1) ?_; rintro e w' ⟨rfl, ⟨nd, rfl⟩⟩; refine ⟨_, rfl, ?_⟩; have p482 : 0 ≤ (x3_1 : Int) := dq; have q482 : x3_1 < (l0_2.length : Int) := dq; obtain ⟨ad482, A482_1, c482_1, A482_2, c482_2, A482_3, c482_3, e482, hx482_0, hx482_1, hx482_2, hx482_3, hx482_4, hl482_1, hi482_1, hl482_2, hi482_2, hl482_3, hi482_3⟩ := at_T41 HR0_2.1 x3_1 p482 q482; obtain rfl : ad480 = ad482 := (by injection e482); replace hx482_0 := cbl HB.1 hx482_0; replace hx482_1 := cbl HB.1 hx482_1; replace hx482_2 := cbl HB.1 hx482_2; replace hx482_3 := cbl HB.1 hx482_3; replace hx482_4 := cbl HB.1 hx482_4; have HR482_1 := am hi482_1; have HC482_1 := am hl482_1; clear hi482_1 hl482_1; have HR482_2 := am hi482_2; have HC482_2 := am hl482_2; clear hi482_2 hl482_2; have HR482_3 := am hi482_3; have HC482_3 := am hl482_3; clear hi482_3 hl482_3; replace p482 := eq_true p482; replace q482 := eq_true q482; have ea_ := Option.some.inj (hx480_1.symm.trans hx482_1); injection ea_ with ea_ en_ ec_; subst ea_; subst ec_; clear en_; have ea_ := Option.some.inj (hx480_2.symm.trans hx482_2); injection ea_ with ea_ en_ ec_; subst ea_; subst ec_; clear en_; have ea_ := Option.some.inj (hx480_3.symm.trans hx482_3); injection ea_ with ea_ en_ ec_; subst ea_; subst ec_; clear en_) | (go_at_call 83; (with_reducible refine (r09_ones.calls k1 _ _ ((rd_T41 l0_2 x3_1).f2) true _ ?side1 ?side2 A11.1).mono ?_); (case side1 => exact csd ((Kd.C_below HR482_2.1 pbg))); (case side2 => exact HC482_2.1); rintro e w' ⟨rfl, ⟨nd, rfl⟩⟩))
 go_roundg k1
 case measure => have := HK1.1; omega
 case rel => exact ⟨(wrap64 (x3_1 + 1)), prs, H', ⟨by have := HK1.1; omega⟩, ⟨pbk BK478.1⟩, ⟨pbg⟩⟩

/-! ### r13_basic: function 45 -/
def r13_basic.f (k : Nat) (a0_0 : ByteArray) (l0_1 : List (S46)) (l0_2 : List (S41)) : Option (Bool) := (r09_Valid.f k a0_0 l0_1 l0_2).bind fun t485 => (if t485 = true then ((r09_Plain.f k a0_0 l0_1 l0_2).bind fun t486 => (if t486 = true then ((r09_Ordinary.f k a0_0 l0_1 l0_2).bind fun t487 => (some t487)) else (some false))) else (some false))
theorem r13_basic.mono : ∀ a0 a1 a2 k, LeO (r13_basic.f k a0 a1 a2) (r13_basic.f (k + 1) a0 a1 a2) := by
 intro a0 a1 a2 k
 unfold r13_basic.f
 repeat' first | (with_reducible first | apply r09_Ordinary.mono | apply r09_Plain.mono | apply r09_Valid.mono | apply lr | apply ln | apply li | refine lb ?_ fun _ => ?_)
set_option maxHeartbeats 8000000 in
set_option maxRecDepth 100000 in
theorem r13_basic.calls (k : Nat) (a0_0 : ByteArray) (A0_1 : Option Addr) (c0_1 : Nat) (l0_1 : List (S46)) (A0_2 : Option Addr) (c0_2 : Nat) (l0_2 : List (S41)) (r : Bool) (w : World) (hr0_1 : Kd.C k46 w A0_1 l0_1.length l0_1) (hc0_1 : l0_1.length ≤ c0_1) (hr0_2 : Kd.C k41 w A0_2 l0_2.length l0_2) (hc0_2 : l0_2.length ≤ c0_2) (h : r13_basic.f k a0_0 l0_1 l0_2 = some r) :
  Calls Try.prog 45 #[.agg #[.string a0_0, .slice A0_1 l0_1.length c0_1, .slice A0_2 l0_2.length c0_2]] w fun e w' => e = .returned (.bool r) ∧ Below w.heap.size w w' := by
 have hu25 := Try.underlying25
 have HR0_1 := am hr0_1
 have HC0_1 := am hc0_1
 clear hr0_1 hc0_1
 have HR0_2 := am hr0_2
 have HC0_2 := am hc0_2
 clear hr0_2 hc0_2
 have HB := am (Below.refl w.heap.size w)
 have H : ((r09_Valid.f k a0_0 l0_1 l0_2).bind fun t485 => (if t485 = true then ((r09_Plain.f k a0_0 l0_1 l0_2).bind fun t486 => (if t486 = true then ((r09_Ordinary.f k a0_0 l0_1 l0_2).bind fun t487 => (some t487)) else (some false))) else (some false))) = some r := h
 clear h
 replace H := bnd H
 obtain ⟨t485, A2, H⟩ := H
 (try dsimp only at H)
 by_cases c3 : t485 = true
 rotate_left
 ·replace c3 := Bool.eq_false_iff.mpr c3
  subst c3
  rw [if_neg Bool.false_ne_true] at H
  obtain rfl := Option.some.inj H
  go_enter Try.func45, Try.ntmps45
  go_wp2_with (first | ((with_reducible refine gate_dst (N := 1) rfl ?_); refine box_ev (N := 1) (cs := #[.string a0_0, .slice A0_1 l0_1.length c0_1, .slice A0_2 l0_2.length c0_2]) (t := 25) ?_; intro gb484 hg w19 hbox hb; have BK484 := am hbox; have GW484 := gwl hg; have GE484 := GW484; replace HB := bsl hb; clear hb hbox hg; have z20 := cf3 BK484.1) | ((with_reducible refine gate_callee (f := 34) rfl ?_); refine gC 4 Try.func34 _ (r09_Valid.calls k a0_0 _ _ l0_1 _ _ l0_2 false _ (csb HR0_1 HB) HC0_1.1 (csb HR0_2 HB) HC0_2.1 A2.1) ?_; rintro e w21 ⟨rfl, hb⟩; refine ⟨_, rfl, ?_⟩; replace BK484 := bbh BK484 hb; replace HB := bst hb; (try clear hb)))
  go_ret
  exact ⟨per, pbg⟩
 subst c3
 rw [if_pos rfl] at H
 replace H := bnd H
 obtain ⟨t486, A4, H⟩ := H
 (try dsimp only at H)
 by_cases c5 : t486 = true
 rotate_left
 ·replace c5 := Bool.eq_false_iff.mpr c5
  subst c5
  rw [if_neg Bool.false_ne_true] at H
  obtain rfl := Option.some.inj H
  go_enter Try.func45, Try.ntmps45
  go_wp2_with (first | ((with_reducible refine gate_dst (N := 1) rfl ?_); refine box_ev (N := 1) (cs := #[.string a0_0, .slice A0_1 l0_1.length c0_1, .slice A0_2 l0_2.length c0_2]) (t := 25) ?_; intro gb484 hg w14 hbox hb; have BK484 := am hbox; have GW484 := gwl hg; have GE484 := GW484; replace HB := bsl hb; clear hb hbox hg; have z15 := cf3 BK484.1) | ((with_reducible refine gate_callee (f := 34) rfl ?_); refine gC 4 Try.func34 _ (r09_Valid.calls k a0_0 _ _ l0_1 _ _ l0_2 true _ (csb HR0_1 HB) HC0_1.1 (csb HR0_2 HB) HC0_2.1 A2.1) ?_; rintro e w16 ⟨rfl, hb⟩; refine ⟨_, rfl, ?_⟩; replace BK484 := bbh BK484 hb; replace HB := bst hb; (try clear hb); have z17 := cf3 BK484.1) | (go_at_call 64; (with_reducible refine (r09_Plain.calls k a0_0 _ _ l0_1 _ _ l0_2 false _ ?side1 ?side2 ?side3 ?side4 A4.1).mono ?_); (case side1 => exact csb HR0_1 HB); (case side2 => exact HC0_1.1); (case side3 => exact csb HR0_2 HB); (case side4 => exact HC0_2.1); rintro e w18 ⟨rfl, hb⟩; replace BK484 := bbh BK484 hb; replace HB := bst hb; (try clear hb)))
  go_ret
  exact ⟨per, pbg⟩
 subst c5
 rw [if_pos rfl] at H
 replace H := bnd H
 obtain ⟨t487, A6, H⟩ := H
 (try dsimp only at H)
 obtain rfl := Option.some.inj H
 go_enter Try.func45, Try.ntmps45
 go_wp2_with (first | ((with_reducible refine gate_dst (N := 1) rfl ?_); refine box_ev (N := 1) (cs := #[.string a0_0, .slice A0_1 l0_1.length c0_1, .slice A0_2 l0_2.length c0_2]) (t := 25) ?_; intro gb484 hg w7 hbox hb; have BK484 := am hbox; have GW484 := gwl hg; have GE484 := GW484; replace HB := bsl hb; clear hb hbox hg; have z8 := cf3 BK484.1) | ((with_reducible refine gate_callee (f := 34) rfl ?_); refine gC 4 Try.func34 _ (r09_Valid.calls k a0_0 _ _ l0_1 _ _ l0_2 true _ (csb HR0_1 HB) HC0_1.1 (csb HR0_2 HB) HC0_2.1 A2.1) ?_; rintro e w9 ⟨rfl, hb⟩; refine ⟨_, rfl, ?_⟩; replace BK484 := bbh BK484 hb; replace HB := bst hb; (try clear hb); have z10 := cf3 BK484.1) | (go_at_call 64; (with_reducible refine (r09_Plain.calls k a0_0 _ _ l0_1 _ _ l0_2 true _ ?side1 ?side2 ?side3 ?side4 A4.1).mono ?_); (case side1 => exact csb HR0_1 HB); (case side2 => exact HC0_1.1); (case side3 => exact csb HR0_2 HB); (case side4 => exact HC0_2.1); rintro e w11 ⟨rfl, hb⟩; replace BK484 := bbh BK484 hb; replace HB := bst hb; (try clear hb); have z12 := cf3 BK484.1) | (go_at_call 65; (with_reducible refine (r09_Ordinary.calls k a0_0 _ _ l0_1 _ _ l0_2 t487 _ ?side1 ?side2 ?side3 ?side4 A6.1).mono ?_); (case side1 => exact csb HR0_1 HB); (case side2 => exact HC0_1.1); (case side3 => exact csb HR0_2 HB); (case side4 => exact HC0_2.1); rintro e w13 ⟨rfl, hb⟩; replace BK484 := bbh BK484 hb; replace HB := bst hb; (try clear hb)))
 go_ret
 exact ⟨per, pbg⟩

/-! ### r13_StateMachine: function 19 -/
def r13_StateMachine.l0 : Nat → Int → ByteArray → List (S46) → List (S41) → Option (Bool)
 | 0, _, _, _, _ => none
 | k + 1, x3, x489000, x489001, x489002 => if x3 < (x489002.length : Int) then (if 0 ≤ x3 then (if (((rd_T41 x489002 x3).f1).length : Int) = 1 then (if (((rd_T41 x489002 x3).f2).length : Int) = 1 then (r13_StateMachine.l0 k (wrap64 (x3 + 1)) x489000 x489001 x489002) else (some false)) else (some false)) else (none)) else ((r13_basic.f k x489000 x489001 x489002).bind fun t491 => (some t491))
def r13_StateMachine.f (k : Nat) (a0_0 : ByteArray) (l0_1 : List (S46)) (l0_2 : List (S41)) : Option (Bool) := r13_StateMachine.l0 k 0 a0_0 l0_1 l0_2
theorem r13_StateMachine.mono_l : ∀ k, M4 r13_StateMachine.l0 k
 | 0 => fun _ _ _ _ r h => by simp [r13_StateMachine.l0] at h
 | k + 1 => by
  have ih0 := r13_StateMachine.mono_l k
  ·intro y0 y1 y2 y3
   unfold r13_StateMachine.l0
   repeat' first | (with_reducible first | apply ih0 | apply r13_basic.mono | apply lr | apply ln | apply li | refine lb ?_ fun _ => ?_)
theorem r13_StateMachine.mono : ∀ a0 a1 a2 k, LeO (r13_StateMachine.f k a0 a1 a2) (r13_StateMachine.f (k + 1) a0 a1 a2) := by
 intro a0 a1 a2 k
 have ih0 := r13_StateMachine.mono_l k
 unfold r13_StateMachine.f
 repeat' first | (with_reducible first | apply ih0 | apply r13_basic.mono | apply lr | apply ln | apply li | refine lb ?_ fun _ => ?_)
set_option maxHeartbeats 8000000 in
set_option maxRecDepth 100000 in
theorem r13_StateMachine.calls (k : Nat) (a0_0 : ByteArray) (A0_1 : Option Addr) (c0_1 : Nat) (l0_1 : List (S46)) (A0_2 : Option Addr) (c0_2 : Nat) (l0_2 : List (S41)) (r : Bool) (w : World) (hr0_1 : Kd.C k46 w A0_1 l0_1.length l0_1) (hc0_1 : l0_1.length ≤ c0_1) (hr0_2 : Kd.C k41 w A0_2 l0_2.length l0_2) (hc0_2 : l0_2.length ≤ c0_2) (h : r13_StateMachine.f k a0_0 l0_1 l0_2 = some r) :
  Calls Try.prog 19 #[.agg #[.string a0_0, .slice A0_1 l0_1.length c0_1, .slice A0_2 l0_2.length c0_2]] w fun e w' => e = .returned (.bool r) ∧ Below w.heap.size w w' := by
 have hu25 := Try.underlying25
 have HR0_1 := am hr0_1
 have HC0_1 := am hc0_1
 clear hr0_1 hc0_1
 have HR0_2 := am hr0_2
 have HC0_2 := am hc0_2
 clear hr0_2 hc0_2
 have HB := am (Below.refl w.heap.size w)
 have H : (r13_StateMachine.l0 k 0 a0_0 l0_1 l0_2) = some r := h
 clear h
 have H' := am H
 clear H
 go_enter Try.func19, Try.ntmps19
 go_wp2_with (first | ((with_reducible refine gate_dst (N := 1) rfl ?_); (try (refine gate_guard (by rfl) ?_; dsimp only)); refine box_ev (N := 1) (cs := #[.string a0_0, .slice A0_1 l0_1.length c0_1, .slice A0_2 l0_2.length c0_2]) (t := 25) ?_; intro gb488 hg w2 hbox hb; have BK488 := am hbox; have GW488 := gwl hg; have GE488 := GW488; replace HB := bsl hb; clear hb hbox hg))
 go_loopg [3] k (fun kq v3 w' => ∃ (x3_1 : Int), v3 = .int .i64 x3_1 ∧ Aside0 (r13_StateMachine.l0 kq x3_1 a0_0 l0_1 l0_2 = some r) ∧ Aside0 (kq ≤ k) ∧ Aside0 (w'.heap[gb488]? = some (.cells #[.string a0_0, (.slice A0_1 l0_1.length c0_1), (.slice A0_2 l0_2.length c0_2)] 25 (0, 0))) ∧ Aside0 (Below w.heap.size w w'))
 case atStart => exact ⟨(0), prs, H', ⟨Nat.le_refl _⟩, ⟨pbk BK488.1⟩, ⟨pbg⟩⟩
 clear H'
 obtain ⟨x3_1, rfl, HA, HK1, BK488, HB⟩ := hrel
 obtain _ | k1 := gk
 ·exact absurd HA.1 (by simp [r13_StateMachine.l0])
 have H := HA.1
 clear HA
 simp only [r13_StateMachine.l0] at H
 by_cases c3 : x3_1 < (l0_2.length : Int)
 rotate_left
 ·rw [if_neg c3] at H
  have c3b0 : decide (x3_1 < (l0_2.length : Int)) = false := decide_eq_false c3
  clear c3
  replace H := bnd H
  obtain ⟨t491, A10, H⟩ := H
  (try dsimp only at H)
  obtain rfl := Option.some.inj H
  have z11 := cf3 BK488.1
  go_wp2_with (first | ((with_reducible refine gate_callee (f := 45) rfl ?_); refine gC 30 Try.func45 _ (r13_basic.calls k1 a0_0 _ _ l0_1 _ _ l0_2 t491 _ (csb HR0_1 HB) HC0_1.1 (csb HR0_2 HB) HC0_2.1 A10.1) ?_; rintro e w12 ⟨rfl, hb⟩; refine ⟨_, rfl, ?_⟩; replace BK488 := bbh BK488 hb; replace HB := bst hb; (try clear hb)))
  go_ret
  exact ⟨per, pbg⟩
 rw [if_pos c3] at H
 have c3b0 : decide (x3_1 < (l0_2.length : Int)) = true := decide_eq_true c3
 clear c3
 replace H := ifp H
 obtain ⟨c4, H⟩ := H
 have c4b0 := decide_eq_true c4
 clear c4
 by_cases c5 : (((rd_T41 l0_2 x3_1).f1).length : Int) = 1
 rotate_left
 ·rw [if_neg c5] at H
  have c5b0 : ((((rd_T41 l0_2 x3_1).f1).length : Int) == 1) = false := beq_eq_false_iff_ne.mpr c5
  have c5b1 : ((((rd_T41 l0_2 x3_1).f1).length : Int) != 1) = true := bne_iff_ne.mpr c5
  obtain rfl := Option.some.inj H
  have z9 := cf3 BK488.1
  obtain ⟨p489, q489, ad489, A489_1, c489_1, A489_2, c489_2, A489_3, c489_3, e489, hx489_0, hx489_1, hx489_2, hx489_3, hx489_4, HC489_1, HR489_1, HC489_2, HR489_2, HC489_3, HR489_3⟩ := bT41 HR0_2.1 HB.1 x3_1
  cases e489
  go_wp2
  go_ret
  exact ⟨per, pbg⟩
 rw [if_pos c5] at H
 have c5b0 : ((((rd_T41 l0_2 x3_1).f1).length : Int) == 1) = true := beq_iff_eq.mpr c5
 have c5b1 : ((((rd_T41 l0_2 x3_1).f1).length : Int) != 1) = false := bne_eq_false_iff_eq.mpr c5
 clear c5
 by_cases c6 : (((rd_T41 l0_2 x3_1).f2).length : Int) = 1
 rotate_left
 ·rw [if_neg c6] at H
  have c6b0 : ((((rd_T41 l0_2 x3_1).f2).length : Int) == 1) = false := beq_eq_false_iff_ne.mpr c6
  have c6b1 : ((((rd_T41 l0_2 x3_1).f2).length : Int) != 1) = true := bne_iff_ne.mpr c6
  obtain rfl := Option.some.inj H
  have z8 := cf3 BK488.1
  obtain ⟨p489, q489, ad489, A489_1, c489_1, A489_2, c489_2, A489_3, c489_3, e489, hx489_0, hx489_1, hx489_2, hx489_3, hx489_4, HC489_1, HR489_1, HC489_2, HR489_2, HC489_3, HR489_3⟩ := bT41 HR0_2.1 HB.1 x3_1
  cases e489
  obtain ⟨p490, q490, ad490, A490_1, c490_1, A490_2, c490_2, A490_3, c490_3, e490, hx490_0, hx490_1, hx490_2, hx490_3, hx490_4, HC490_1, HR490_1, HC490_2, HR490_2, HC490_3, HR490_3⟩ := bT41 HR0_2.1 HB.1 x3_1
  obtain rfl : ad489 = ad490 := (by injection e490)
  have ea_ := Option.some.inj (hx489_1.symm.trans hx490_1)
  injection ea_ with ea_ en_ ec_
  subst ea_
  subst ec_
  clear en_
  have ea_ := Option.some.inj (hx489_2.symm.trans hx490_2)
  injection ea_ with ea_ en_ ec_
  subst ea_
  subst ec_
  clear en_
  have ea_ := Option.some.inj (hx489_3.symm.trans hx490_3)
  injection ea_ with ea_ en_ ec_
  subst ea_
  subst ec_
  clear en_
  go_wp2
  go_ret
  exact ⟨per, pbg⟩
 rw [if_pos c6] at H
 have c6b0 : ((((rd_T41 l0_2 x3_1).f2).length : Int) == 1) = true := beq_iff_eq.mpr c6
 have c6b1 : ((((rd_T41 l0_2 x3_1).f2).length : Int) != 1) = false := bne_eq_false_iff_eq.mpr c6
 clear c6
 have H' := am H
 clear H
 have z7 := cf3 BK488.1
 obtain ⟨p489, q489, ad489, A489_1, c489_1, A489_2, c489_2, A489_3, c489_3, e489, hx489_0, hx489_1, hx489_2, hx489_3, hx489_4, HC489_1, HR489_1, HC489_2, HR489_2, HC489_3, HR489_3⟩ := bT41 HR0_2.1 HB.1 x3_1
 cases e489
 obtain ⟨p490, q490, ad490, A490_1, c490_1, A490_2, c490_2, A490_3, c490_3, e490, hx490_0, hx490_1, hx490_2, hx490_3, hx490_4, HC490_1, HR490_1, HC490_2, HR490_2, HC490_3, HR490_3⟩ := bT41 HR0_2.1 HB.1 x3_1
 obtain rfl : ad489 = ad490 := (by injection e490)
 have ea_ := Option.some.inj (hx489_1.symm.trans hx490_1)
 injection ea_ with ea_ en_ ec_
 subst ea_
 subst ec_
 clear en_
 have ea_ := Option.some.inj (hx489_2.symm.trans hx490_2)
 injection ea_ with ea_ en_ ec_
 subst ea_
 subst ec_
 clear en_
 have ea_ := Option.some.inj (hx489_3.symm.trans hx490_3)
 injection ea_ with ea_ en_ ec_
 subst ea_
 subst ec_
 clear en_
 go_wp2
 go_roundg k1
 case measure => have := HK1.1; omega
 case rel => exact ⟨(wrap64 (x3_1 + 1)), prs, H', ⟨by have := HK1.1; omega⟩, ⟨pbk BK488.1⟩, ⟨pbg⟩⟩

/-! ### r09_Producers: function 48 -/
mutual
def r09_Producers.l0 : Nat → Int → List Int → Int → ByteArray → List (S46) → List (S41) → Option (List Int)
 | 0, _, _, _, _, _, _ => none
 | k + 1, x1, x5, x6, x493000, x493001, x493002 => if x6 < (x493002.length : Int) then ((r09_Valid.f k x493000 x493001 x493002).bind fun t493 => (r09_Producers.j1 k x1 x5 x6 t493 x493000 x493001 x493002)) else (r09_Producers.j1 k x1 x5 x6 false x493000 x493001 x493002)
def r09_Producers.j1 : Nat → Int → List Int → Int → Bool → ByteArray → List (S46) → List (S41) → Option (List Int)
 | 0, _, _, _, _, _, _, _ => none
 | k + 1, x1, x5, x6, x15, x493000, x493001, x493002 => if x15 = true then (if 0 ≤ x6 then (if x6 < (x493002.length : Int) then ((r09_Weight.f k ((rd_T41 x493002 x6).f2) x1).bind fun t495 => (if t495 > 0 then (if x5.length < 17592186044416 then (r09_Producers.l0 k x1 (x5 ++ [x6]) (wrap64 (x6 + 1)) x493000 x493001 x493002) else (none)) else (r09_Producers.l0 k x1 x5 (wrap64 (x6 + 1)) x493000 x493001 x493002))) else (none)) else (none)) else (some x5)
end
def r09_Producers.f (k : Nat) (a0_0 : ByteArray) (l0_1 : List (S46)) (l0_2 : List (S41)) (a1 : Int) : Option (List Int) := r09_Producers.l0 k a1 ([] : List Int) 0 a0_0 l0_1 l0_2
theorem r09_Producers.mono_l : ∀ k, M6 r09_Producers.l0 k ∧ M7 r09_Producers.j1 k
 | 0 => ⟨fun _ _ _ _ _ _ r h => by simp [r09_Producers.l0] at h, fun _ _ _ _ _ _ _ r h => by simp [r09_Producers.j1] at h⟩
 | k + 1 => by
  obtain ⟨ih0, ih1⟩ := r09_Producers.mono_l k
  refine ⟨?_, ?_⟩ <;> dsimp only [M6, M7] <;> intros <;> (first | unfold r09_Producers.l0 | unfold r09_Producers.j1) <;> repeat' first | (with_reducible first | apply ih0 | apply ih1 | apply r09_Valid.mono | apply r09_Weight.mono | apply lr | apply ln | apply li | refine lb ?_ fun _ => ?_)
theorem r09_Producers.mono : ∀ a0 a1 a2 a3 k, LeO (r09_Producers.f k a0 a1 a2 a3) (r09_Producers.f (k + 1) a0 a1 a2 a3) := by
 intro a0 a1 a2 a3 k
 obtain ⟨ih0, ih1⟩ := r09_Producers.mono_l k
 unfold r09_Producers.f
 repeat' first | (with_reducible first | apply ih0 | apply ih1 | apply r09_Valid.mono | apply r09_Weight.mono | apply lr | apply ln | apply li | refine lb ?_ fun _ => ?_)
set_option maxHeartbeats 8000000 in
set_option maxRecDepth 100000 in
theorem r09_Producers.calls (k : Nat) (a0_0 : ByteArray) (A0_1 : Option Addr) (c0_1 : Nat) (l0_1 : List (S46)) (A0_2 : Option Addr) (c0_2 : Nat) (l0_2 : List (S41)) (a1 : Int) (r : List Int) (w : World) (hr0_1 : Kd.C k46 w A0_1 l0_1.length l0_1) (hc0_1 : l0_1.length ≤ c0_1) (hr0_2 : Kd.C k41 w A0_2 l0_2.length l0_2) (hc0_2 : l0_2.length ≤ c0_2) (h : r09_Producers.f k a0_0 l0_1 l0_2 a1 = some r) :
  Calls Try.prog 48 #[.agg #[.string a0_0, .slice A0_1 l0_1.length c0_1, .slice A0_2 l0_2.length c0_2], .int .i64 a1] w fun e w' => ∃ v0_ : Value, e = .returned (v0_) ∧ Kd.R (Kd.int .i64) 3 w' w.heap.size (fun _ => True) v0_ r ∧ Below w.heap.size w w' := by
 have hu25 := Try.underlying25
 have HR0_1 := am hr0_1
 have HC0_1 := am hc0_1
 clear hr0_1 hc0_1
 have HR0_2 := am hr0_2
 have HC0_2 := am hc0_2
 clear hr0_2 hc0_2
 have HB := am (Below.refl w.heap.size w)
 have H : (r09_Producers.l0 k a1 ([] : List Int) 0 a0_0 l0_1 l0_2) = some r := h
 clear h
 have H' := am H
 clear H
 go_enter Try.func48, Try.ntmps48
 go_wp2_with (first | ((with_reducible refine gate_dst (N := 2) rfl ?_); refine box_ev (N := 2) (cs := #[.string a0_0, .slice A0_1 l0_1.length c0_1, .slice A0_2 l0_2.length c0_2]) (t := 25) ?_; intro gb492 hg w3 hbox hb; have BK492 := am hbox; have GW492 := gwl hg; have GE492 := GW492; replace HB := bsl hb; clear hb hbox hg))
 go_loopg [5, 6] k (fun kq v5 v6 w' => ∃ (x5_1 : List Int) (x6_1 : Int), v6 = .int .i64 x6_1 ∧ Aside0 (r09_Producers.l0 kq a1 x5_1 x6_1 a0_0 l0_1 l0_2 = some r) ∧ Aside0 (kq ≤ k) ∧ Aside0 (Kd.R (Kd.int .i64) 3 w' w.heap.size (fun _ => True) v5 x5_1) ∧ Aside0 (w'.heap[gb492]? = some (.cells #[.string a0_0, (.slice A0_1 l0_1.length c0_1), (.slice A0_2 l0_2.length c0_2)] 25 (0, 0))) ∧ Aside0 (Below w.heap.size w w'))
 case atStart => exact ⟨(([] : List Int)), (0), prs, H', ⟨Nat.le_refl _⟩, ⟨knl⟩, ⟨pbk BK492.1⟩, ⟨pbg⟩⟩
 clear H'
 obtain ⟨x5_1, x6_1, rfl, HA, HK1, HO_5, BK492, HB⟩ := hrel
 obtain _ | k1 := gk
 ·exact absurd HA.1 (by simp [r09_Producers.l0])
 have H := HA.1
 clear HA
 simp only [r09_Producers.l0] at H
 have HC4 := am H
 clear H
 go_upto_region 3 with (fail)
 go_cut [15] (fun v15 wc => ∃ (kq : Nat) (x15_3 : Bool), v15 = .bool x15_3 ∧ Aside0 (r09_Producers.j1 kq a1 x5_1 x6_1 x15_3 a0_0 l0_1 l0_2 = some r) ∧ Aside0 (kq ≤ k1) ∧ Aside0 (Kd.R (Kd.int .i64) 3 wc w.heap.size (fun _ => True) u5 x5_1) ∧ Aside0 (wc.heap[gb492]? = some (.cells #[.string a0_0, (.slice A0_1 l0_1.length c0_1), (.slice A0_2 l0_2.length c0_2)] 25 (0, 0))) ∧ Aside0 (Below w.heap.size w wc))
 case first =>
  have H := HC4.1
  clear HC4
  by_cases c5 : x6_1 < (l0_2.length : Int)
  rotate_left
  ·rw [if_neg c5] at H
   have c5b0 : decide (x6_1 < (l0_2.length : Int)) = false := decide_eq_false c5
   clear c5
   (first | rw [c5b0] | (simp only [i64_w, i32_w]; rw [c5b0]) | skip)
   have H' := am H
   clear H
   have z9 := cf3 BK492.1
   go_wp2
   go_meet
   case rel => exact ⟨_, (false), prs, H', ⟨by have := HK1.1; first | omega | exact Nat.le_refl _⟩, ⟨pkr HO_5.1⟩, ⟨pbk BK492.1⟩, ⟨pbg⟩⟩
  rw [if_pos c5] at H
  have c5b0 : decide (x6_1 < (l0_2.length : Int)) = true := decide_eq_true c5
  clear c5
  (first | rw [c5b0] | (simp only [i64_w, i32_w]; rw [c5b0]) | skip)
  replace H := bnd H
  obtain ⟨t493, A6, H⟩ := H
  (try dsimp only at H)
  have H' := am H
  clear H
  have z7 := cf3 BK492.1
  go_wp2_with (first | (go_at_call 34; (with_reducible refine (r09_Valid.calls k1 a0_0 _ _ l0_1 _ _ l0_2 t493 _ ?side1 ?side2 ?side3 ?side4 A6.1).mono ?_); (case side1 => exact csb HR0_1 HB); (case side2 => exact HC0_1.1); (case side3 => exact csb HR0_2 HB); (case side4 => exact HC0_2.1); rintro e w8 ⟨rfl, hb⟩; replace HO_5 := rbw HO_5 hb; replace BK492 := bbh BK492 hb; replace HB := bst hb; (try clear hb)))
  go_meet
  case rel => exact ⟨_, (t493), prs, H', ⟨by have := HK1.1; first | omega | exact Nat.le_refl _⟩, ⟨pkr HO_5.1⟩, ⟨pbk BK492.1⟩, ⟨pbg⟩⟩
 clear HC4
 try clear c5 c5b0 z7 z9
 obtain ⟨kq, x15_3, rfl, HA, HJ3, HO_5, BK492, HB⟩ := hcut
 obtain _ | kj3 := kq
 ·exact absurd HA.1 (by simp [r09_Producers.j1])
 have H := HA.1
 clear HA
 simp only [r09_Producers.j1] at H
 by_cases c10 : x15_3 = true
 rotate_left
 ·replace c10 := Bool.eq_false_iff.mpr c10
  subst c10
  rw [if_neg Bool.false_ne_true] at H
  obtain rfl := Option.some.inj H
  go_wp2
  go_ret
  exact ⟨_, per, by (with_reducible repeat (first | apply Kd.R_alloc | apply Kd.R_drewN | apply Kd.R_drew)); exact HO_5.1, pbg⟩
 subst c10
 rw [if_pos rfl] at H
 replace H := ifp H
 obtain ⟨c11, H⟩ := H
 have c11b0 := decide_eq_true c11
 clear c11
 replace H := ifp H
 obtain ⟨c12, H⟩ := H
 have c12b0 := decide_eq_true c12
 clear c12
 replace H := bnd H
 obtain ⟨t495, A13, H⟩ := H
 (try dsimp only at H)
 by_cases c14 : t495 > 0
 rotate_left
 ·rw [if_neg c14] at H
  have c14b0 : decide (0 < t495) = false := decide_eq_false c14
  clear c14
  have H' := am H
  clear H
  have z18 := cf3 BK492.1
  obtain ⟨p494, q494, ad494, A494_1, c494_1, A494_2, c494_2, A494_3, c494_3, e494, hx494_0, hx494_1, hx494_2, hx494_3, hx494_4, HC494_1, HR494_1, HC494_2, HR494_2, HC494_3, HR494_3⟩ := bT41 HR0_2.1 HB.1 x6_1
  cases e494
  go_wp2_with (first | ((with_reducible refine gate_callee (f := 38) rfl ?_); refine gC 25 Try.func38 _ (r09_Weight.calls kj3 _ _ ((rd_T41 l0_2 x6_1).f2) a1 t495 _ (csb HR494_2 HB) HC494_2.1 A13.1) ?_; rintro e w' ⟨rfl, ⟨nd, rfl⟩⟩; refine ⟨_, rfl, ?_⟩))
  go_roundg kj3
  case measure => have := HK1.1; have := HJ3.1; omega
  case rel => exact ⟨(x5_1), (wrap64 (x6_1 + 1)), prs, H', ⟨by have := HK1.1; have := HJ3.1; omega⟩, ⟨pkr HO_5.1⟩, ⟨pbk BK492.1⟩, ⟨pbg⟩⟩
 rw [if_pos c14] at H
 have c14b0 : decide (0 < t495) = true := decide_eq_true c14
 clear c14
 replace H := ifp H
 obtain ⟨c15, H⟩ := H
 have LMc15 := am c15
 clear c15
 obtain ⟨y496, hy496⟩ : ∃ y_ : List Int, y_ = (x5_1 ++ [x6_1]) := ⟨_, rfl⟩
 replace H : (r09_Producers.l0 kj3 a1 y496 (wrap64 (x6_1 + 1)) a0_0 l0_1 l0_2) = some r := hrp hy496 H
 have Ny496 := am hy496
 clear hy496
 have H' := am H
 clear H
 have z16 := cf3 BK492.1
 obtain ⟨p494, q494, ad494, A494_1, c494_1, A494_2, c494_2, A494_3, c494_3, e494, hx494_0, hx494_1, hx494_2, hx494_3, hx494_4, HC494_1, HR494_1, HC494_2, HR494_2, HC494_3, HR494_3⟩ := bT41 HR0_2.1 HB.1 x6_1
 cases e494
 go_wp2_with (first | ((with_reducible refine gate_callee (f := 38) rfl ?_); refine gC 25 Try.func38 _ (r09_Weight.calls kj3 _ _ ((rd_T41 l0_2 x6_1).f2) a1 t495 _ (csb HR494_2 HB) HC494_2.1 A13.1) ?_; rintro e w' ⟨rfl, ⟨nd, rfl⟩⟩; refine ⟨_, rfl, ?_⟩) | ((with_reducible refine gate_builtin (b := .append) (xs := #[.tmp 27, .tmp 29]) rfl ?_); at_builtin; refine Kd.R_append (Kd.int .i64) (w0 := w) w.heap.size rfl (.tmp 27) (.tmp 29) 37 3 (.int .i64 0) 8 rfl Try.underlying37 info3 rfl (by decide) (by omega) u5 x5_1 x6_1 [.int .i64 x6_1] (fun _ => True) (fun _ => False) rfl rfl ?aP (fun _ hk => hk.elim) ?aF ?aO ?aB ?aS ?aL ?_; (case aP => exact rfl); (case aB => exact pbg); (case aF => exact (fun _ _ => trivial)); (case aO => exact (pkr HO_5.1)); (case aS => exact (below_size pbg)); (case aL => have := LMc15.1; omega); intro v497 w17 ho hb hg hat; rw [← Ny496.1] at ho; have HO498 := am ho; replace BK492 := am (blk_grown (g := gb492) (o := .cells #[.string a0_0, .slice A0_1 l0_1.length c0_1, .slice (some ad494) l0_2.length c0_2] 25 (0, 0)) (by exact pbk BK492.1) hg (Kd.R_ne HO_5.1 BK492.1 (by decide))); replace HB := am hb; clear HO_5; clear ho hb hg hat))
 go_roundg kj3
 case measure => have := HK1.1; have := HJ3.1; omega
 case rel => exact ⟨(y496), (wrap64 (x6_1 + 1)), prs, H', ⟨by have := HK1.1; have := HJ3.1; omega⟩, ⟨pkr HO498.1⟩, ⟨pbk BK492.1⟩, ⟨pbg⟩⟩

/-! ### r09_Consumers: function 49 -/
mutual
def r09_Consumers.l0 : Nat → Int → List Int → Int → ByteArray → List (S46) → List (S41) → Option (List Int)
 | 0, _, _, _, _, _, _ => none
 | k + 1, x1, x5, x6, x500000, x500001, x500002 => if x6 < (x500002.length : Int) then ((r09_Valid.f k x500000 x500001 x500002).bind fun t500 => (r09_Consumers.j1 k x1 x5 x6 t500 x500000 x500001 x500002)) else (r09_Consumers.j1 k x1 x5 x6 false x500000 x500001 x500002)
def r09_Consumers.j1 : Nat → Int → List Int → Int → Bool → ByteArray → List (S46) → List (S41) → Option (List Int)
 | 0, _, _, _, _, _, _, _ => none
 | k + 1, x1, x5, x6, x15, x500000, x500001, x500002 => if x15 = true then (if 0 ≤ x6 then (if x6 < (x500002.length : Int) then ((r09_Weight.f k ((rd_T41 x500002 x6).f1) x1).bind fun t502 => (if t502 > 0 then (if x5.length < 17592186044416 then (r09_Consumers.l0 k x1 (x5 ++ [x6]) (wrap64 (x6 + 1)) x500000 x500001 x500002) else (none)) else (r09_Consumers.l0 k x1 x5 (wrap64 (x6 + 1)) x500000 x500001 x500002))) else (none)) else (none)) else (some x5)
end
def r09_Consumers.f (k : Nat) (a0_0 : ByteArray) (l0_1 : List (S46)) (l0_2 : List (S41)) (a1 : Int) : Option (List Int) := r09_Consumers.l0 k a1 ([] : List Int) 0 a0_0 l0_1 l0_2
theorem r09_Consumers.mono_l : ∀ k, M6 r09_Consumers.l0 k ∧ M7 r09_Consumers.j1 k
 | 0 => ⟨fun _ _ _ _ _ _ r h => by simp [r09_Consumers.l0] at h, fun _ _ _ _ _ _ _ r h => by simp [r09_Consumers.j1] at h⟩
 | k + 1 => by
  obtain ⟨ih0, ih1⟩ := r09_Consumers.mono_l k
  refine ⟨?_, ?_⟩ <;> dsimp only [M6, M7] <;> intros <;> (first | unfold r09_Consumers.l0 | unfold r09_Consumers.j1) <;> repeat' first | (with_reducible first | apply ih0 | apply ih1 | apply r09_Valid.mono | apply r09_Weight.mono | apply lr | apply ln | apply li | refine lb ?_ fun _ => ?_)
theorem r09_Consumers.mono : ∀ a0 a1 a2 a3 k, LeO (r09_Consumers.f k a0 a1 a2 a3) (r09_Consumers.f (k + 1) a0 a1 a2 a3) := by
 intro a0 a1 a2 a3 k
 obtain ⟨ih0, ih1⟩ := r09_Consumers.mono_l k
 unfold r09_Consumers.f
 repeat' first | (with_reducible first | apply ih0 | apply ih1 | apply r09_Valid.mono | apply r09_Weight.mono | apply lr | apply ln | apply li | refine lb ?_ fun _ => ?_)
set_option maxHeartbeats 8000000 in
set_option maxRecDepth 100000 in
theorem r09_Consumers.calls (k : Nat) (a0_0 : ByteArray) (A0_1 : Option Addr) (c0_1 : Nat) (l0_1 : List (S46)) (A0_2 : Option Addr) (c0_2 : Nat) (l0_2 : List (S41)) (a1 : Int) (r : List Int) (w : World) (hr0_1 : Kd.C k46 w A0_1 l0_1.length l0_1) (hc0_1 : l0_1.length ≤ c0_1) (hr0_2 : Kd.C k41 w A0_2 l0_2.length l0_2) (hc0_2 : l0_2.length ≤ c0_2) (h : r09_Consumers.f k a0_0 l0_1 l0_2 a1 = some r) :
  Calls Try.prog 49 #[.agg #[.string a0_0, .slice A0_1 l0_1.length c0_1, .slice A0_2 l0_2.length c0_2], .int .i64 a1] w fun e w' => ∃ v0_ : Value, e = .returned (v0_) ∧ Kd.R (Kd.int .i64) 3 w' w.heap.size (fun _ => True) v0_ r ∧ Below w.heap.size w w' := by
 have hu25 := Try.underlying25
 have HR0_1 := am hr0_1
 have HC0_1 := am hc0_1
 clear hr0_1 hc0_1
 have HR0_2 := am hr0_2
 have HC0_2 := am hc0_2
 clear hr0_2 hc0_2
 have HB := am (Below.refl w.heap.size w)
 have H : (r09_Consumers.l0 k a1 ([] : List Int) 0 a0_0 l0_1 l0_2) = some r := h
 clear h
 have H' := am H
 clear H
 go_enter Try.func49, Try.ntmps49
 go_wp2_with (first | ((with_reducible refine gate_dst (N := 2) rfl ?_); refine box_ev (N := 2) (cs := #[.string a0_0, .slice A0_1 l0_1.length c0_1, .slice A0_2 l0_2.length c0_2]) (t := 25) ?_; intro gb499 hg w3 hbox hb; have BK499 := am hbox; have GW499 := gwl hg; have GE499 := GW499; replace HB := bsl hb; clear hb hbox hg))
 go_loopg [5, 6] k (fun kq v5 v6 w' => ∃ (x5_1 : List Int) (x6_1 : Int), v6 = .int .i64 x6_1 ∧ Aside0 (r09_Consumers.l0 kq a1 x5_1 x6_1 a0_0 l0_1 l0_2 = some r) ∧ Aside0 (kq ≤ k) ∧ Aside0 (Kd.R (Kd.int .i64) 3 w' w.heap.size (fun _ => True) v5 x5_1) ∧ Aside0 (w'.heap[gb499]? = some (.cells #[.string a0_0, (.slice A0_1 l0_1.length c0_1), (.slice A0_2 l0_2.length c0_2)] 25 (0, 0))) ∧ Aside0 (Below w.heap.size w w'))
 case atStart => exact ⟨(([] : List Int)), (0), prs, H', ⟨Nat.le_refl _⟩, ⟨knl⟩, ⟨pbk BK499.1⟩, ⟨pbg⟩⟩
 clear H'
 obtain ⟨x5_1, x6_1, rfl, HA, HK1, HO_5, BK499, HB⟩ := hrel
 obtain _ | k1 := gk
 ·exact absurd HA.1 (by simp [r09_Consumers.l0])
 have H := HA.1
 clear HA
 simp only [r09_Consumers.l0] at H
 have HC4 := am H
 clear H
 go_upto_region 3 with (fail)
 go_cut [15] (fun v15 wc => ∃ (kq : Nat) (x15_3 : Bool), v15 = .bool x15_3 ∧ Aside0 (r09_Consumers.j1 kq a1 x5_1 x6_1 x15_3 a0_0 l0_1 l0_2 = some r) ∧ Aside0 (kq ≤ k1) ∧ Aside0 (Kd.R (Kd.int .i64) 3 wc w.heap.size (fun _ => True) u5 x5_1) ∧ Aside0 (wc.heap[gb499]? = some (.cells #[.string a0_0, (.slice A0_1 l0_1.length c0_1), (.slice A0_2 l0_2.length c0_2)] 25 (0, 0))) ∧ Aside0 (Below w.heap.size w wc))
 case first =>
  have H := HC4.1
  clear HC4
  by_cases c5 : x6_1 < (l0_2.length : Int)
  rotate_left
  ·rw [if_neg c5] at H
   have c5b0 : decide (x6_1 < (l0_2.length : Int)) = false := decide_eq_false c5
   clear c5
   (first | rw [c5b0] | (simp only [i64_w, i32_w]; rw [c5b0]) | skip)
   have H' := am H
   clear H
   have z9 := cf3 BK499.1
   go_wp2
   go_meet
   case rel => exact ⟨_, (false), prs, H', ⟨by have := HK1.1; first | omega | exact Nat.le_refl _⟩, ⟨pkr HO_5.1⟩, ⟨pbk BK499.1⟩, ⟨pbg⟩⟩
  rw [if_pos c5] at H
  have c5b0 : decide (x6_1 < (l0_2.length : Int)) = true := decide_eq_true c5
  clear c5
  (first | rw [c5b0] | (simp only [i64_w, i32_w]; rw [c5b0]) | skip)
  replace H := bnd H
  obtain ⟨t500, A6, H⟩ := H
  (try dsimp only at H)
  have H' := am H
  clear H
  have z7 := cf3 BK499.1
  go_wp2_with (first | (go_at_call 34; (with_reducible refine (r09_Valid.calls k1 a0_0 _ _ l0_1 _ _ l0_2 t500 _ ?side1 ?side2 ?side3 ?side4 A6.1).mono ?_); (case side1 => exact csb HR0_1 HB); (case side2 => exact HC0_1.1); (case side3 => exact csb HR0_2 HB); (case side4 => exact HC0_2.1); rintro e w8 ⟨rfl, hb⟩; replace HO_5 := rbw HO_5 hb; replace BK499 := bbh BK499 hb; replace HB := bst hb; (try clear hb)))
  go_meet
  case rel => exact ⟨_, (t500), prs, H', ⟨by have := HK1.1; first | omega | exact Nat.le_refl _⟩, ⟨pkr HO_5.1⟩, ⟨pbk BK499.1⟩, ⟨pbg⟩⟩
 clear HC4
 try clear c5 c5b0 z7 z9
 obtain ⟨kq, x15_3, rfl, HA, HJ3, HO_5, BK499, HB⟩ := hcut
 obtain _ | kj3 := kq
 ·exact absurd HA.1 (by simp [r09_Consumers.j1])
 have H := HA.1
 clear HA
 simp only [r09_Consumers.j1] at H
 by_cases c10 : x15_3 = true
 rotate_left
 ·replace c10 := Bool.eq_false_iff.mpr c10
  subst c10
  rw [if_neg Bool.false_ne_true] at H
  obtain rfl := Option.some.inj H
  go_wp2
  go_ret
  exact ⟨_, per, by (with_reducible repeat (first | apply Kd.R_alloc | apply Kd.R_drewN | apply Kd.R_drew)); exact HO_5.1, pbg⟩
 subst c10
 rw [if_pos rfl] at H
 replace H := ifp H
 obtain ⟨c11, H⟩ := H
 have c11b0 := decide_eq_true c11
 clear c11
 replace H := ifp H
 obtain ⟨c12, H⟩ := H
 have c12b0 := decide_eq_true c12
 clear c12
 replace H := bnd H
 obtain ⟨t502, A13, H⟩ := H
 (try dsimp only at H)
 by_cases c14 : t502 > 0
 rotate_left
 ·rw [if_neg c14] at H
  have c14b0 : decide (0 < t502) = false := decide_eq_false c14
  clear c14
  have H' := am H
  clear H
  have z18 := cf3 BK499.1
  obtain ⟨p501, q501, ad501, A501_1, c501_1, A501_2, c501_2, A501_3, c501_3, e501, hx501_0, hx501_1, hx501_2, hx501_3, hx501_4, HC501_1, HR501_1, HC501_2, HR501_2, HC501_3, HR501_3⟩ := bT41 HR0_2.1 HB.1 x6_1
  cases e501
  go_wp2_with (first | ((with_reducible refine gate_callee (f := 38) rfl ?_); refine gC 25 Try.func38 _ (r09_Weight.calls kj3 _ _ ((rd_T41 l0_2 x6_1).f1) a1 t502 _ (csb HR501_1 HB) HC501_1.1 A13.1) ?_; rintro e w' ⟨rfl, ⟨nd, rfl⟩⟩; refine ⟨_, rfl, ?_⟩))
  go_roundg kj3
  case measure => have := HK1.1; have := HJ3.1; omega
  case rel => exact ⟨(x5_1), (wrap64 (x6_1 + 1)), prs, H', ⟨by have := HK1.1; have := HJ3.1; omega⟩, ⟨pkr HO_5.1⟩, ⟨pbk BK499.1⟩, ⟨pbg⟩⟩
 rw [if_pos c14] at H
 have c14b0 : decide (0 < t502) = true := decide_eq_true c14
 clear c14
 replace H := ifp H
 obtain ⟨c15, H⟩ := H
 have LMc15 := am c15
 clear c15
 obtain ⟨y503, hy503⟩ : ∃ y_ : List Int, y_ = (x5_1 ++ [x6_1]) := ⟨_, rfl⟩
 replace H : (r09_Consumers.l0 kj3 a1 y503 (wrap64 (x6_1 + 1)) a0_0 l0_1 l0_2) = some r := hrp hy503 H
 have Ny503 := am hy503
 clear hy503
 have H' := am H
 clear H
 have z16 := cf3 BK499.1
 obtain ⟨p501, q501, ad501, A501_1, c501_1, A501_2, c501_2, A501_3, c501_3, e501, hx501_0, hx501_1, hx501_2, hx501_3, hx501_4, HC501_1, HR501_1, HC501_2, HR501_2, HC501_3, HR501_3⟩ := bT41 HR0_2.1 HB.1 x6_1
 cases e501
 go_wp2_with (first | ((with_reducible refine gate_callee (f := 38) rfl ?_); refine gC 25 Try.func38 _ (r09_Weight.calls kj3 _ _ ((rd_T41 l0_2 x6_1).f1) a1 t502 _ (csb HR501_1 HB) HC501_1.1 A13.1) ?_; rintro e w' ⟨rfl, ⟨nd, rfl⟩⟩; refine ⟨_, rfl, ?_⟩) | ((with_reducible refine gate_builtin (b := .append) (xs := #[.tmp 27, .tmp 29]) rfl ?_); at_builtin; refine Kd.R_append (Kd.int .i64) (w0 := w) w.heap.size rfl (.tmp 27) (.tmp 29) 37 3 (.int .i64 0) 8 rfl Try.underlying37 info3 rfl (by decide) (by omega) u5 x5_1 x6_1 [.int .i64 x6_1] (fun _ => True) (fun _ => False) rfl rfl ?aP (fun _ hk => hk.elim) ?aF ?aO ?aB ?aS ?aL ?_; (case aP => exact rfl); (case aB => exact pbg); (case aF => exact (fun _ _ => trivial)); (case aO => exact (pkr HO_5.1)); (case aS => exact (below_size pbg)); (case aL => have := LMc15.1; omega); intro v504 w17 ho hb hg hat; rw [← Ny503.1] at ho; have HO505 := am ho; replace BK499 := am (blk_grown (g := gb499) (o := .cells #[.string a0_0, .slice A0_1 l0_1.length c0_1, .slice (some ad501) l0_2.length c0_2] 25 (0, 0)) (by exact pbk BK499.1) hg (Kd.R_ne HO_5.1 BK499.1 (by decide))); replace HB := am hb; clear HO_5; clear ho hb hg hat))
 go_roundg kj3
 case measure => have := HK1.1; have := HJ3.1; omega
 case rel => exact ⟨(y503), (wrap64 (x6_1 + 1)), prs, H', ⟨by have := HK1.1; have := HJ3.1; omega⟩, ⟨pkr HO505.1⟩, ⟨pbk BK499.1⟩, ⟨pbg⟩⟩

/-! ### r13_MarkedGraph: function 21 -/
mutual
def r13_MarkedGraph.l0 : Nat → Int → ByteArray → List (S46) → List (S41) → Option (Bool)
 | 0, _, _, _, _ => none
 | k + 1, x3, x507000, x507001, x507002 => if x3 < (x507001.length : Int) then ((r13_basic.f k x507000 x507001 x507002).bind fun t507 => (r13_MarkedGraph.j1 k x3 t507 x507000 x507001 x507002)) else (r13_MarkedGraph.j1 k x3 false x507000 x507001 x507002)
def r13_MarkedGraph.j1 : Nat → Int → Bool → ByteArray → List (S46) → List (S41) → Option (Bool)
 | 0, _, _, _, _, _ => none
 | k + 1, x3, x12, x507000, x507001, x507002 => if x12 = true then ((r09_Producers.f k x507000 x507001 x507002 x3).bind fun t509 => (if (t509.length : Int) = 1 then ((r09_Consumers.f k x507000 x507001 x507002 x3).bind fun t512 => (if (t512.length : Int) = 1 then (r13_MarkedGraph.l0 k (wrap64 (x3 + 1)) x507000 x507001 x507002) else (some false))) else (some false))) else ((r13_basic.f k x507000 x507001 x507002).bind fun t508 => (some t508))
end
def r13_MarkedGraph.f (k : Nat) (a0_0 : ByteArray) (l0_1 : List (S46)) (l0_2 : List (S41)) : Option (Bool) := r13_MarkedGraph.l0 k 0 a0_0 l0_1 l0_2
theorem r13_MarkedGraph.mono_l : ∀ k, M4 r13_MarkedGraph.l0 k ∧ M5 r13_MarkedGraph.j1 k
 | 0 => ⟨fun _ _ _ _ r h => by simp [r13_MarkedGraph.l0] at h, fun _ _ _ _ _ r h => by simp [r13_MarkedGraph.j1] at h⟩
 | k + 1 => by
  obtain ⟨ih0, ih1⟩ := r13_MarkedGraph.mono_l k
  refine ⟨?_, ?_⟩ <;> dsimp only [M4, M5] <;> intros <;> (first | unfold r13_MarkedGraph.l0 | unfold r13_MarkedGraph.j1) <;> repeat' first | (with_reducible first | apply ih0 | apply ih1 | apply r09_Consumers.mono | apply r09_Producers.mono | apply r13_basic.mono | apply lr | apply ln | apply li | refine lb ?_ fun _ => ?_)
theorem r13_MarkedGraph.mono : ∀ a0 a1 a2 k, LeO (r13_MarkedGraph.f k a0 a1 a2) (r13_MarkedGraph.f (k + 1) a0 a1 a2) := by
 intro a0 a1 a2 k
 obtain ⟨ih0, ih1⟩ := r13_MarkedGraph.mono_l k
 unfold r13_MarkedGraph.f
 repeat' first | (with_reducible first | apply ih0 | apply ih1 | apply r09_Consumers.mono | apply r09_Producers.mono | apply r13_basic.mono | apply lr | apply ln | apply li | refine lb ?_ fun _ => ?_)
set_option maxHeartbeats 8000000 in
set_option maxRecDepth 100000 in
theorem r13_MarkedGraph.calls (k : Nat) (a0_0 : ByteArray) (A0_1 : Option Addr) (c0_1 : Nat) (l0_1 : List (S46)) (A0_2 : Option Addr) (c0_2 : Nat) (l0_2 : List (S41)) (r : Bool) (w : World) (hr0_1 : Kd.C k46 w A0_1 l0_1.length l0_1) (hc0_1 : l0_1.length ≤ c0_1) (hr0_2 : Kd.C k41 w A0_2 l0_2.length l0_2) (hc0_2 : l0_2.length ≤ c0_2) (h : r13_MarkedGraph.f k a0_0 l0_1 l0_2 = some r) :
  Calls Try.prog 21 #[.agg #[.string a0_0, .slice A0_1 l0_1.length c0_1, .slice A0_2 l0_2.length c0_2]] w fun e w' => e = .returned (.bool r) ∧ Below w.heap.size w w' := by
 have hu25 := Try.underlying25
 have HR0_1 := am hr0_1
 have HC0_1 := am hc0_1
 clear hr0_1 hc0_1
 have HR0_2 := am hr0_2
 have HC0_2 := am hc0_2
 clear hr0_2 hc0_2
 have HB := am (Below.refl w.heap.size w)
 have H : (r13_MarkedGraph.l0 k 0 a0_0 l0_1 l0_2) = some r := h
 clear h
 have H' := am H
 clear H
 go_enter Try.func21, Try.ntmps21
 go_wp2_with (first | ((with_reducible refine gate_dst (N := 1) rfl ?_); (try (refine gate_guard (by rfl) ?_; dsimp only)); refine box_ev (N := 1) (cs := #[.string a0_0, .slice A0_1 l0_1.length c0_1, .slice A0_2 l0_2.length c0_2]) (t := 25) ?_; intro gb506 hg w2 hbox hb; have BK506 := am hbox; have GW506 := gwl hg; have GE506 := GW506; replace HB := bsl hb; clear hb hbox hg))
 go_loopg [3] k (fun kq v3 w' => ∃ (x3_1 : Int), v3 = .int .i64 x3_1 ∧ Aside0 (r13_MarkedGraph.l0 kq x3_1 a0_0 l0_1 l0_2 = some r) ∧ Aside0 (kq ≤ k) ∧ Aside0 (w'.heap[gb506]? = some (.cells #[.string a0_0, (.slice A0_1 l0_1.length c0_1), (.slice A0_2 l0_2.length c0_2)] 25 (0, 0))) ∧ Aside0 (Below w.heap.size w w'))
 case atStart => exact ⟨(0), prs, H', ⟨Nat.le_refl _⟩, ⟨pbk BK506.1⟩, ⟨pbg⟩⟩
 clear H'
 obtain ⟨x3_1, rfl, HA, HK1, BK506, HB⟩ := hrel
 obtain _ | k1 := gk
 ·exact absurd HA.1 (by simp [r13_MarkedGraph.l0])
 have H := HA.1
 clear HA
 simp only [r13_MarkedGraph.l0] at H
 have HC3 := am H
 clear H
 go_upto_region 2 with (fail)
 go_cut [12] (fun v12 wc => ∃ (kq : Nat) (x12_2 : Bool), v12 = .bool x12_2 ∧ Aside0 (r13_MarkedGraph.j1 kq x3_1 x12_2 a0_0 l0_1 l0_2 = some r) ∧ Aside0 (kq ≤ k1) ∧ Aside0 (wc.heap[gb506]? = some (.cells #[.string a0_0, (.slice A0_1 l0_1.length c0_1), (.slice A0_2 l0_2.length c0_2)] 25 (0, 0))) ∧ Aside0 (Below w.heap.size w wc))
 case first =>
  have H := HC3.1
  clear HC3
  by_cases c4 : x3_1 < (l0_1.length : Int)
  rotate_left
  ·rw [if_neg c4] at H
   have c4b0 : decide (x3_1 < (l0_1.length : Int)) = false := decide_eq_false c4
   clear c4
   (first | rw [c4b0] | (simp only [i64_w, i32_w]; rw [c4b0]) | skip)
   have H' := am H
   clear H
   have z8 := cf3 BK506.1
   go_wp2
   go_meet
   case rel => exact ⟨_, (false), prs, H', ⟨by have := HK1.1; first | omega | exact Nat.le_refl _⟩, ⟨pbk BK506.1⟩, ⟨pbg⟩⟩
  rw [if_pos c4] at H
  have c4b0 : decide (x3_1 < (l0_1.length : Int)) = true := decide_eq_true c4
  clear c4
  (first | rw [c4b0] | (simp only [i64_w, i32_w]; rw [c4b0]) | skip)
  replace H := bnd H
  obtain ⟨t507, A5, H⟩ := H
  (try dsimp only at H)
  have H' := am H
  clear H
  have z6 := cf3 BK506.1
  go_wp2_with (first | (go_at_call 45; (with_reducible refine (r13_basic.calls k1 a0_0 _ _ l0_1 _ _ l0_2 t507 _ ?side1 ?side2 ?side3 ?side4 A5.1).mono ?_); (case side1 => exact csb HR0_1 HB); (case side2 => exact HC0_1.1); (case side3 => exact csb HR0_2 HB); (case side4 => exact HC0_2.1); rintro e w7 ⟨rfl, hb⟩; replace BK506 := bbh BK506 hb; replace HB := bst hb; (try clear hb)))
  go_meet
  case rel => exact ⟨_, (t507), prs, H', ⟨by have := HK1.1; first | omega | exact Nat.le_refl _⟩, ⟨pbk BK506.1⟩, ⟨pbg⟩⟩
 clear HC3
 try clear c4 c4b0 z6 z8
 obtain ⟨kq, x12_2, rfl, HA, HJ2, BK506, HB⟩ := hcut
 obtain _ | kj2 := kq
 ·exact absurd HA.1 (by simp [r13_MarkedGraph.j1])
 have H := HA.1
 clear HA
 simp only [r13_MarkedGraph.j1] at H
 by_cases c9 : x12_2 = true
 rotate_left
 ·replace c9 := Bool.eq_false_iff.mpr c9
  subst c9
  rw [if_neg Bool.false_ne_true] at H
  replace H := bnd H
  obtain ⟨t508, A29, H⟩ := H
  (try dsimp only at H)
  obtain rfl := Option.some.inj H
  have z30 := cf3 BK506.1
  go_wp2_with (first | ((with_reducible refine gate_callee (f := 45) rfl ?_); refine gC 28 Try.func45 _ (r13_basic.calls kj2 a0_0 _ _ l0_1 _ _ l0_2 t508 _ (csb HR0_1 HB) HC0_1.1 (csb HR0_2 HB) HC0_2.1 A29.1) ?_; rintro e w31 ⟨rfl, hb⟩; refine ⟨_, rfl, ?_⟩; replace BK506 := bbh BK506 hb; replace HB := bst hb; (try clear hb)))
  go_ret
  exact ⟨per, pbg⟩
 subst c9
 rw [if_pos rfl] at H
 replace H := bnd H
 obtain ⟨t509, A10, H⟩ := H
 (try dsimp only at H)
 by_cases c11 : (t509.length : Int) = 1
 rotate_left
 ·rw [if_neg c11] at H
  have c11b0 : ((t509.length : Int) == 1) = false := beq_eq_false_iff_ne.mpr c11
  have c11b1 : ((t509.length : Int) != 1) = true := bne_iff_ne.mpr c11
  obtain rfl := Option.some.inj H
  have z26 := cf3 BK506.1
  go_wp2_with (first | ((with_reducible refine gate_callee (f := 48) rfl ?_); refine gC 17 Try.func48 _ (r09_Producers.calls kj2 a0_0 _ _ l0_1 _ _ l0_2 x3_1 t509 _ (csb HR0_1 HB) HC0_1.1 (csb HR0_2 HB) HC0_2.1 A10.1) ?_; rintro e w27 ⟨v510, rfl, ho0, hb⟩; refine ⟨_, rfl, ?_⟩; have HO511 := am (Kd.R_lower ho0 (below_size pbg)); replace BK506 := bbh BK506 hb; replace HB := bst hb; (try clear hb); (try clear ho0); obtain ⟨Ao28, co28, eo28⟩ := Kd.R_slice HO511.1; subst eo28))
  go_ret
  exact ⟨per, pbg⟩
 rw [if_pos c11] at H
 have c11b0 : ((t509.length : Int) == 1) = true := beq_iff_eq.mpr c11
 have c11b1 : ((t509.length : Int) != 1) = false := bne_eq_false_iff_eq.mpr c11
 clear c11
 replace H := bnd H
 obtain ⟨t512, A12, H⟩ := H
 (try dsimp only at H)
 by_cases c13 : (t512.length : Int) = 1
 rotate_left
 ·rw [if_neg c13] at H
  have c13b0 : ((t512.length : Int) == 1) = false := beq_eq_false_iff_ne.mpr c13
  have c13b1 : ((t512.length : Int) != 1) = true := bne_iff_ne.mpr c13
  obtain rfl := Option.some.inj H
  have z20 := cf3 BK506.1
  go_wp2_with (first | ((with_reducible refine gate_callee (f := 48) rfl ?_); refine gC 17 Try.func48 _ (r09_Producers.calls kj2 a0_0 _ _ l0_1 _ _ l0_2 x3_1 t509 _ (csb HR0_1 HB) HC0_1.1 (csb HR0_2 HB) HC0_2.1 A10.1) ?_; rintro e w21 ⟨v510, rfl, ho0, hb⟩; refine ⟨_, rfl, ?_⟩; have HO511 := am (Kd.R_lower ho0 (below_size pbg)); replace BK506 := bbh BK506 hb; replace HB := bst hb; (try clear hb); (try clear ho0); obtain ⟨Ao22, co22, eo22⟩ := Kd.R_slice HO511.1; subst eo22; have z23 := cf3 BK506.1) | (go_at_call 49; (with_reducible refine (r09_Consumers.calls kj2 a0_0 _ _ l0_1 _ _ l0_2 x3_1 t512 _ ?side1 ?side2 ?side3 ?side4 A12.1).mono ?_); (case side1 => exact csb HR0_1 HB); (case side2 => exact HC0_1.1); (case side3 => exact csb HR0_2 HB); (case side4 => exact HC0_2.1); rintro e w24 ⟨v513, rfl, ho0, hb⟩; have HO514 := am (Kd.R_lower (Kd.R_new' ho0 (Kd.R_lt (pkr HO511.1))) (below_size pbg)); replace HO511 := am (Kd.R_elder' (pkr HO511.1) (Kd.R_base ho0) hb); replace BK506 := bbh BK506 hb; replace HB := bst hb; (try clear hb); (try clear ho0); obtain ⟨Ao25, co25, eo25⟩ := Kd.R_slice HO514.1; subst eo25))
  go_ret
  exact ⟨per, pbg⟩
 rw [if_pos c13] at H
 have c13b0 : ((t512.length : Int) == 1) = true := beq_iff_eq.mpr c13
 have c13b1 : ((t512.length : Int) != 1) = false := bne_eq_false_iff_eq.mpr c13
 clear c13
 have H' := am H
 clear H
 have z14 := cf3 BK506.1
 go_wp2_with (first | ((with_reducible refine gate_callee (f := 48) rfl ?_); refine gC 17 Try.func48 _ (r09_Producers.calls kj2 a0_0 _ _ l0_1 _ _ l0_2 x3_1 t509 _ (csb HR0_1 HB) HC0_1.1 (csb HR0_2 HB) HC0_2.1 A10.1) ?_; rintro e w15 ⟨v510, rfl, ho0, hb⟩; refine ⟨_, rfl, ?_⟩; have HO511 := am (Kd.R_lower ho0 (below_size pbg)); replace BK506 := bbh BK506 hb; replace HB := bst hb; (try clear hb); (try clear ho0); obtain ⟨Ao16, co16, eo16⟩ := Kd.R_slice HO511.1; subst eo16; have z17 := cf3 BK506.1) | (go_at_call 49; (with_reducible refine (r09_Consumers.calls kj2 a0_0 _ _ l0_1 _ _ l0_2 x3_1 t512 _ ?side1 ?side2 ?side3 ?side4 A12.1).mono ?_); (case side1 => exact csb HR0_1 HB); (case side2 => exact HC0_1.1); (case side3 => exact csb HR0_2 HB); (case side4 => exact HC0_2.1); rintro e w18 ⟨v513, rfl, ho0, hb⟩; have HO514 := am (Kd.R_lower (Kd.R_new' ho0 (Kd.R_lt (pkr HO511.1))) (below_size pbg)); replace HO511 := am (Kd.R_elder' (pkr HO511.1) (Kd.R_base ho0) hb); replace BK506 := bbh BK506 hb; replace HB := bst hb; (try clear hb); (try clear ho0); obtain ⟨Ao19, co19, eo19⟩ := Kd.R_slice HO514.1; subst eo19))
 go_roundg kj2
 case measure => have := HK1.1; have := HJ2.1; omega
 case rel => exact ⟨(wrap64 (x3_1 + 1)), prs, H', ⟨by have := HK1.1; have := HJ2.1; omega⟩, ⟨pbk BK506.1⟩, ⟨pbg⟩⟩

/-! ### r13_meet: function 53 -/
def r13_meet.l0 : Nat → Int → Int → Int → ByteArray → List (S46) → List (S41) → Option (Bool)
 | 0, _, _, _, _, _, _ => none
 | k + 1, x1, x2, x7, x516000, x516001, x516002 => if x7 < (x516002.length : Int) then (if 0 ≤ x7 then ((r09_Weight.f k ((rd_T41 x516002 x7).f1) x1).bind fun t517 => (if t517 > 0 then ((r09_Weight.f k ((rd_T41 x516002 x7).f1) x2).bind fun t519 => (if t519 > 0 then (some true) else (r13_meet.l0 k x1 x2 (wrap64 (x7 + 1)) x516000 x516001 x516002))) else (r13_meet.l0 k x1 x2 (wrap64 (x7 + 1)) x516000 x516001 x516002))) else (none)) else (some false)
def r13_meet.f (k : Nat) (a0_0 : ByteArray) (l0_1 : List (S46)) (l0_2 : List (S41)) (a1 : Int) (a2 : Int) : Option (Bool) := r13_meet.l0 k a1 a2 0 a0_0 l0_1 l0_2
theorem r13_meet.mono_l : ∀ k, M6 r13_meet.l0 k
 | 0 => fun _ _ _ _ _ _ r h => by simp [r13_meet.l0] at h
 | k + 1 => by
  have ih0 := r13_meet.mono_l k
  ·intro y0 y1 y2 y3 y4 y5
   unfold r13_meet.l0
   repeat' first | (with_reducible first | apply ih0 | apply r09_Weight.mono | apply lr | apply ln | apply li | refine lb ?_ fun _ => ?_)
theorem r13_meet.mono : ∀ a0 a1 a2 a3 a4 k, LeO (r13_meet.f k a0 a1 a2 a3 a4) (r13_meet.f (k + 1) a0 a1 a2 a3 a4) := by
 intro a0 a1 a2 a3 a4 k
 have ih0 := r13_meet.mono_l k
 unfold r13_meet.f
 repeat' first | (with_reducible first | apply ih0 | apply r09_Weight.mono | apply lr | apply ln | apply li | refine lb ?_ fun _ => ?_)
set_option maxHeartbeats 8000000 in
set_option maxRecDepth 100000 in
theorem r13_meet.calls (k : Nat) (a0_0 : ByteArray) (A0_1 : Option Addr) (c0_1 : Nat) (l0_1 : List (S46)) (A0_2 : Option Addr) (c0_2 : Nat) (l0_2 : List (S41)) (a1 : Int) (a2 : Int) (r : Bool) (w : World) (hr0_1 : Kd.C k46 w A0_1 l0_1.length l0_1) (hc0_1 : l0_1.length ≤ c0_1) (hr0_2 : Kd.C k41 w A0_2 l0_2.length l0_2) (hc0_2 : l0_2.length ≤ c0_2) (h : r13_meet.f k a0_0 l0_1 l0_2 a1 a2 = some r) :
  Calls Try.prog 53 #[.agg #[.string a0_0, .slice A0_1 l0_1.length c0_1, .slice A0_2 l0_2.length c0_2], .int .i64 a1, .int .i64 a2] w fun e w' => e = .returned (.bool r) ∧ Below w.heap.size w w' := by
 have hu25 := Try.underlying25
 have HR0_1 := am hr0_1
 have HC0_1 := am hc0_1
 clear hr0_1 hc0_1
 have HR0_2 := am hr0_2
 have HC0_2 := am hc0_2
 clear hr0_2 hc0_2
 have HB := am (Below.refl w.heap.size w)
 have H : (r13_meet.l0 k a1 a2 0 a0_0 l0_1 l0_2) = some r := h
 clear h
 have H' := am H
 clear H
 go_enter Try.func53, Try.ntmps53
 go_wp2_with (first | ((with_reducible refine gate_dst (N := 3) rfl ?_); refine box_ev (N := 3) (cs := #[.string a0_0, .slice A0_1 l0_1.length c0_1, .slice A0_2 l0_2.length c0_2]) (t := 25) ?_; intro gb515 hg w4 hbox hb; have BK515 := am hbox; have GW515 := gwl hg; have GE515 := GW515; replace HB := bsl hb; clear hb hbox hg))
 go_loopg [7] k (fun kq v7 w' => ∃ (x7_1 : Int), v7 = .int .i64 x7_1 ∧ Aside0 (r13_meet.l0 kq a1 a2 x7_1 a0_0 l0_1 l0_2 = some r) ∧ Aside0 (kq ≤ k) ∧ Aside0 (w'.heap[gb515]? = some (.cells #[.string a0_0, (.slice A0_1 l0_1.length c0_1), (.slice A0_2 l0_2.length c0_2)] 25 (0, 0))) ∧ Aside0 (Below w.heap.size w w'))
 case atStart => exact ⟨(0), prs, H', ⟨Nat.le_refl _⟩, ⟨pbk BK515.1⟩, ⟨pbg⟩⟩
 clear H'
 obtain ⟨x7_1, rfl, HA, HK1, BK515, HB⟩ := hrel
 obtain _ | k1 := gk
 ·exact absurd HA.1 (by simp [r13_meet.l0])
 have H := HA.1
 clear HA
 simp only [r13_meet.l0] at H
 by_cases c5 : x7_1 < (l0_2.length : Int)
 rotate_left
 ·rw [if_neg c5] at H
  have c5b0 : decide (x7_1 < (l0_2.length : Int)) = false := decide_eq_false c5
  clear c5
  obtain rfl := Option.some.inj H
  have z14 := cf3 BK515.1
  go_wp2
  go_ret
  exact ⟨per, pbg⟩
 rw [if_pos c5] at H
 have c5b0 : decide (x7_1 < (l0_2.length : Int)) = true := decide_eq_true c5
 clear c5
 replace H := ifp H
 obtain ⟨c6, H⟩ := H
 have c6b0 := decide_eq_true c6
 clear c6
 replace H := bnd H
 obtain ⟨t517, A7, H⟩ := H
 (try dsimp only at H)
 by_cases c8 : t517 > 0
 rotate_left
 ·rw [if_neg c8] at H
  have c8b0 : decide (0 < t517) = false := decide_eq_false c8
  clear c8
  have H' := am H
  clear H
  have z13 := cf3 BK515.1
  obtain ⟨p516, q516, ad516, A516_1, c516_1, A516_2, c516_2, A516_3, c516_3, e516, hx516_0, hx516_1, hx516_2, hx516_3, hx516_4, HC516_1, HR516_1, HC516_2, HR516_2, HC516_3, HR516_3⟩ := bT41 HR0_2.1 HB.1 x7_1
  cases e516
  go_wp2_with (first | ((with_reducible refine gate_callee (f := 38) rfl ?_); refine gC 22 Try.func38 _ (r09_Weight.calls k1 _ _ ((rd_T41 l0_2 x7_1).f1) a1 t517 _ (csb HR516_1 HB) HC516_1.1 A7.1) ?_; rintro e w' ⟨rfl, ⟨nd, rfl⟩⟩; refine ⟨_, rfl, ?_⟩))
  go_roundg k1
  case measure => have := HK1.1; omega
  case rel => exact ⟨(wrap64 (x7_1 + 1)), prs, H', ⟨by have := HK1.1; omega⟩, ⟨pbk BK515.1⟩, ⟨pbg⟩⟩
 rw [if_pos c8] at H
 have c8b0 : decide (0 < t517) = true := decide_eq_true c8
 clear c8
 replace H := bnd H
 obtain ⟨t519, A9, H⟩ := H
 (try dsimp only at H)
 by_cases c10 : t519 > 0
 ·rw [if_pos c10] at H
  have c10b0 : decide (0 < t519) = true := decide_eq_true c10
  clear c10
  obtain rfl := Option.some.inj H
  have z11 := cf3 BK515.1
  obtain ⟨p516, q516, ad516, A516_1, c516_1, A516_2, c516_2, A516_3, c516_3, e516, hx516_0, hx516_1, hx516_2, hx516_3, hx516_4, HC516_1, HR516_1, HC516_2, HR516_2, HC516_3, HR516_3⟩ := bT41 HR0_2.1 HB.1 x7_1
  cases e516
  go_wp2_with (first | ((with_reducible refine gate_callee (f := 38) rfl ?_); refine gC 22 Try.func38 _ (r09_Weight.calls k1 _ _ ((rd_T41 l0_2 x7_1).f1) a1 t517 _ (csb HR516_1 HB) HC516_1.1 A7.1) ?_; rintro e w' ⟨rfl, ⟨nd, rfl⟩⟩; refine ⟨_, rfl, ?_⟩; have p518 : 0 ≤ (x7_1 : Int) := dq; have q518 : x7_1 < (l0_2.length : Int) := dq; obtain ⟨ad518, A518_1, c518_1, A518_2, c518_2, A518_3, c518_3, e518, hx518_0, hx518_1, hx518_2, hx518_3, hx518_4, hl518_1, hi518_1, hl518_2, hi518_2, hl518_3, hi518_3⟩ := at_T41 HR0_2.1 x7_1 p518 q518; obtain rfl : ad516 = ad518 := (by injection e518); replace hx518_0 := cbl HB.1 hx518_0; replace hx518_1 := cbl HB.1 hx518_1; replace hx518_2 := cbl HB.1 hx518_2; replace hx518_3 := cbl HB.1 hx518_3; replace hx518_4 := cbl HB.1 hx518_4; have HR518_1 := am hi518_1; have HC518_1 := am hl518_1; clear hi518_1 hl518_1; have HR518_2 := am hi518_2; have HC518_2 := am hl518_2; clear hi518_2 hl518_2; have HR518_3 := am hi518_3; have HC518_3 := am hl518_3; clear hi518_3 hl518_3; replace p518 := eq_true p518; replace q518 := eq_true q518; have ea_ := Option.some.inj (hx516_1.symm.trans hx518_1); injection ea_ with ea_ en_ ec_; subst ea_; subst ec_; clear en_; have ea_ := Option.some.inj (hx516_2.symm.trans hx518_2); injection ea_ with ea_ en_ ec_; subst ea_; subst ec_; clear en_; have ea_ := Option.some.inj (hx516_3.symm.trans hx518_3); injection ea_ with ea_ en_ ec_; subst ea_; subst ec_; clear en_) | (go_at_call 38; (with_reducible refine (r09_Weight.calls k1 _ _ ((rd_T41 l0_2 x7_1).f1) a2 t519 _ ?side1 ?side2 A9.1).mono ?_); (case side1 => exact csd ((Kd.C_below HR518_1.1 pbg))); (case side2 => exact HC518_1.1); rintro e w' ⟨rfl, ⟨nd, rfl⟩⟩))
  go_ret
  exact ⟨per, pbg⟩
 rw [if_neg c10] at H
 have c10b0 : decide (0 < t519) = false := decide_eq_false c10
 clear c10
 have H' := am H
 clear H
 have z12 := cf3 BK515.1
 obtain ⟨p516, q516, ad516, A516_1, c516_1, A516_2, c516_2, A516_3, c516_3, e516, hx516_0, hx516_1, hx516_2, hx516_3, hx516_4, HC516_1, HR516_1, HC516_2, HR516_2, HC516_3, HR516_3⟩ := bT41 HR0_2.1 HB.1 x7_1
 cases e516
 go_wp2_with (first | ((with_reducible refine gate_callee (f := 38) rfl ?_); refine gC 22 Try.func38 _ (r09_Weight.calls k1 _ _ ((rd_T41 l0_2 x7_1).f1) a1 t517 _ (csb HR516_1 HB) HC516_1.1 A7.1) ?_; rintro e w' ⟨rfl, ⟨nd, rfl⟩⟩; refine ⟨_, rfl, ?_⟩; have p518 : 0 ≤ (x7_1 : Int) := dq; have q518 : x7_1 < (l0_2.length : Int) := dq; obtain ⟨ad518, A518_1, c518_1, A518_2, c518_2, A518_3, c518_3, e518, hx518_0, hx518_1, hx518_2, hx518_3, hx518_4, hl518_1, hi518_1, hl518_2, hi518_2, hl518_3, hi518_3⟩ := at_T41 HR0_2.1 x7_1 p518 q518; obtain rfl : ad516 = ad518 := (by injection e518); replace hx518_0 := cbl HB.1 hx518_0; replace hx518_1 := cbl HB.1 hx518_1; replace hx518_2 := cbl HB.1 hx518_2; replace hx518_3 := cbl HB.1 hx518_3; replace hx518_4 := cbl HB.1 hx518_4; have HR518_1 := am hi518_1; have HC518_1 := am hl518_1; clear hi518_1 hl518_1; have HR518_2 := am hi518_2; have HC518_2 := am hl518_2; clear hi518_2 hl518_2; have HR518_3 := am hi518_3; have HC518_3 := am hl518_3; clear hi518_3 hl518_3; replace p518 := eq_true p518; replace q518 := eq_true q518; have ea_ := Option.some.inj (hx516_1.symm.trans hx518_1); injection ea_ with ea_ en_ ec_; subst ea_; subst ec_; clear en_; have ea_ := Option.some.inj (hx516_2.symm.trans hx518_2); injection ea_ with ea_ en_ ec_; subst ea_; subst ec_; clear en_; have ea_ := Option.some.inj (hx516_3.symm.trans hx518_3); injection ea_ with ea_ en_ ec_; subst ea_; subst ec_; clear en_) | (go_at_call 38; (with_reducible refine (r09_Weight.calls k1 _ _ ((rd_T41 l0_2 x7_1).f1) a2 t519 _ ?side1 ?side2 A9.1).mono ?_); (case side1 => exact csd ((Kd.C_below HR518_1.1 pbg))); (case side2 => exact HC518_1.1); rintro e w' ⟨rfl, ⟨nd, rfl⟩⟩))
 go_roundg k1
 case measure => have := HK1.1; omega
 case rel => exact ⟨(wrap64 (x7_1 + 1)), prs, H', ⟨by have := HK1.1; omega⟩, ⟨pbk BK515.1⟩, ⟨pbg⟩⟩

/-! ### r13_within: function 54 -/
def r13_within.l0 : Nat → Int → Int → Int → ByteArray → List (S46) → List (S41) → Option (Bool)
 | 0, _, _, _, _, _, _ => none
 | k + 1, x1, x2, x7, x521000, x521001, x521002 => if x7 < (x521002.length : Int) then (if 0 ≤ x7 then ((r09_Weight.f k ((rd_T41 x521002 x7).f1) x1).bind fun t522 => (if t522 > 0 then ((r09_Weight.f k ((rd_T41 x521002 x7).f1) x2).bind fun t524 => (if t524 = 0 then (some false) else (r13_within.l0 k x1 x2 (wrap64 (x7 + 1)) x521000 x521001 x521002))) else (r13_within.l0 k x1 x2 (wrap64 (x7 + 1)) x521000 x521001 x521002))) else (none)) else (some true)
def r13_within.f (k : Nat) (a0_0 : ByteArray) (l0_1 : List (S46)) (l0_2 : List (S41)) (a1 : Int) (a2 : Int) : Option (Bool) := r13_within.l0 k a1 a2 0 a0_0 l0_1 l0_2
theorem r13_within.mono_l : ∀ k, M6 r13_within.l0 k
 | 0 => fun _ _ _ _ _ _ r h => by simp [r13_within.l0] at h
 | k + 1 => by
  have ih0 := r13_within.mono_l k
  ·intro y0 y1 y2 y3 y4 y5
   unfold r13_within.l0
   repeat' first | (with_reducible first | apply ih0 | apply r09_Weight.mono | apply lr | apply ln | apply li | refine lb ?_ fun _ => ?_)
theorem r13_within.mono : ∀ a0 a1 a2 a3 a4 k, LeO (r13_within.f k a0 a1 a2 a3 a4) (r13_within.f (k + 1) a0 a1 a2 a3 a4) := by
 intro a0 a1 a2 a3 a4 k
 have ih0 := r13_within.mono_l k
 unfold r13_within.f
 repeat' first | (with_reducible first | apply ih0 | apply r09_Weight.mono | apply lr | apply ln | apply li | refine lb ?_ fun _ => ?_)
set_option maxHeartbeats 8000000 in
set_option maxRecDepth 100000 in
theorem r13_within.calls (k : Nat) (a0_0 : ByteArray) (A0_1 : Option Addr) (c0_1 : Nat) (l0_1 : List (S46)) (A0_2 : Option Addr) (c0_2 : Nat) (l0_2 : List (S41)) (a1 : Int) (a2 : Int) (r : Bool) (w : World) (hr0_1 : Kd.C k46 w A0_1 l0_1.length l0_1) (hc0_1 : l0_1.length ≤ c0_1) (hr0_2 : Kd.C k41 w A0_2 l0_2.length l0_2) (hc0_2 : l0_2.length ≤ c0_2) (h : r13_within.f k a0_0 l0_1 l0_2 a1 a2 = some r) :
  Calls Try.prog 54 #[.agg #[.string a0_0, .slice A0_1 l0_1.length c0_1, .slice A0_2 l0_2.length c0_2], .int .i64 a1, .int .i64 a2] w fun e w' => e = .returned (.bool r) ∧ Below w.heap.size w w' := by
 have hu25 := Try.underlying25
 have HR0_1 := am hr0_1
 have HC0_1 := am hc0_1
 clear hr0_1 hc0_1
 have HR0_2 := am hr0_2
 have HC0_2 := am hc0_2
 clear hr0_2 hc0_2
 have HB := am (Below.refl w.heap.size w)
 have H : (r13_within.l0 k a1 a2 0 a0_0 l0_1 l0_2) = some r := h
 clear h
 have H' := am H
 clear H
 go_enter Try.func54, Try.ntmps54
 go_wp2_with (first | ((with_reducible refine gate_dst (N := 3) rfl ?_); refine box_ev (N := 3) (cs := #[.string a0_0, .slice A0_1 l0_1.length c0_1, .slice A0_2 l0_2.length c0_2]) (t := 25) ?_; intro gb520 hg w4 hbox hb; have BK520 := am hbox; have GW520 := gwl hg; have GE520 := GW520; replace HB := bsl hb; clear hb hbox hg))
 go_loopg [7] k (fun kq v7 w' => ∃ (x7_1 : Int), v7 = .int .i64 x7_1 ∧ Aside0 (r13_within.l0 kq a1 a2 x7_1 a0_0 l0_1 l0_2 = some r) ∧ Aside0 (kq ≤ k) ∧ Aside0 (w'.heap[gb520]? = some (.cells #[.string a0_0, (.slice A0_1 l0_1.length c0_1), (.slice A0_2 l0_2.length c0_2)] 25 (0, 0))) ∧ Aside0 (Below w.heap.size w w'))
 case atStart => exact ⟨(0), prs, H', ⟨Nat.le_refl _⟩, ⟨pbk BK520.1⟩, ⟨pbg⟩⟩
 clear H'
 obtain ⟨x7_1, rfl, HA, HK1, BK520, HB⟩ := hrel
 obtain _ | k1 := gk
 ·exact absurd HA.1 (by simp [r13_within.l0])
 have H := HA.1
 clear HA
 simp only [r13_within.l0] at H
 by_cases c5 : x7_1 < (l0_2.length : Int)
 rotate_left
 ·rw [if_neg c5] at H
  have c5b0 : decide (x7_1 < (l0_2.length : Int)) = false := decide_eq_false c5
  clear c5
  obtain rfl := Option.some.inj H
  have z14 := cf3 BK520.1
  go_wp2
  go_ret
  exact ⟨per, pbg⟩
 rw [if_pos c5] at H
 have c5b0 : decide (x7_1 < (l0_2.length : Int)) = true := decide_eq_true c5
 clear c5
 replace H := ifp H
 obtain ⟨c6, H⟩ := H
 have c6b0 := decide_eq_true c6
 clear c6
 replace H := bnd H
 obtain ⟨t522, A7, H⟩ := H
 (try dsimp only at H)
 by_cases c8 : t522 > 0
 rotate_left
 ·rw [if_neg c8] at H
  have c8b0 : decide (0 < t522) = false := decide_eq_false c8
  clear c8
  have H' := am H
  clear H
  have z13 := cf3 BK520.1
  obtain ⟨p521, q521, ad521, A521_1, c521_1, A521_2, c521_2, A521_3, c521_3, e521, hx521_0, hx521_1, hx521_2, hx521_3, hx521_4, HC521_1, HR521_1, HC521_2, HR521_2, HC521_3, HR521_3⟩ := bT41 HR0_2.1 HB.1 x7_1
  cases e521
  go_wp2_with (first | ((with_reducible refine gate_callee (f := 38) rfl ?_); refine gC 22 Try.func38 _ (r09_Weight.calls k1 _ _ ((rd_T41 l0_2 x7_1).f1) a1 t522 _ (csb HR521_1 HB) HC521_1.1 A7.1) ?_; rintro e w' ⟨rfl, ⟨nd, rfl⟩⟩; refine ⟨_, rfl, ?_⟩))
  go_roundg k1
  case measure => have := HK1.1; omega
  case rel => exact ⟨(wrap64 (x7_1 + 1)), prs, H', ⟨by have := HK1.1; omega⟩, ⟨pbk BK520.1⟩, ⟨pbg⟩⟩
 rw [if_pos c8] at H
 have c8b0 : decide (0 < t522) = true := decide_eq_true c8
 clear c8
 replace H := bnd H
 obtain ⟨t524, A9, H⟩ := H
 (try dsimp only at H)
 by_cases c10 : t524 = 0
 ·rw [if_pos c10] at H
  have c10b0 : (t524 == 0) = true := beq_iff_eq.mpr c10
  have c10b1 : (t524 != 0) = false := bne_eq_false_iff_eq.mpr c10
  clear c10
  obtain rfl := Option.some.inj H
  have z11 := cf3 BK520.1
  obtain ⟨p521, q521, ad521, A521_1, c521_1, A521_2, c521_2, A521_3, c521_3, e521, hx521_0, hx521_1, hx521_2, hx521_3, hx521_4, HC521_1, HR521_1, HC521_2, HR521_2, HC521_3, HR521_3⟩ := bT41 HR0_2.1 HB.1 x7_1
  cases e521
  go_wp2_with (first | ((with_reducible refine gate_callee (f := 38) rfl ?_); refine gC 22 Try.func38 _ (r09_Weight.calls k1 _ _ ((rd_T41 l0_2 x7_1).f1) a1 t522 _ (csb HR521_1 HB) HC521_1.1 A7.1) ?_; rintro e w' ⟨rfl, ⟨nd, rfl⟩⟩; refine ⟨_, rfl, ?_⟩; have p523 : 0 ≤ (x7_1 : Int) := dq; have q523 : x7_1 < (l0_2.length : Int) := dq; obtain ⟨ad523, A523_1, c523_1, A523_2, c523_2, A523_3, c523_3, e523, hx523_0, hx523_1, hx523_2, hx523_3, hx523_4, hl523_1, hi523_1, hl523_2, hi523_2, hl523_3, hi523_3⟩ := at_T41 HR0_2.1 x7_1 p523 q523; obtain rfl : ad521 = ad523 := (by injection e523); replace hx523_0 := cbl HB.1 hx523_0; replace hx523_1 := cbl HB.1 hx523_1; replace hx523_2 := cbl HB.1 hx523_2; replace hx523_3 := cbl HB.1 hx523_3; replace hx523_4 := cbl HB.1 hx523_4; have HR523_1 := am hi523_1; have HC523_1 := am hl523_1; clear hi523_1 hl523_1; have HR523_2 := am hi523_2; have HC523_2 := am hl523_2; clear hi523_2 hl523_2; have HR523_3 := am hi523_3; have HC523_3 := am hl523_3; clear hi523_3 hl523_3; replace p523 := eq_true p523; replace q523 := eq_true q523; have ea_ := Option.some.inj (hx521_1.symm.trans hx523_1); injection ea_ with ea_ en_ ec_; subst ea_; subst ec_; clear en_; have ea_ := Option.some.inj (hx521_2.symm.trans hx523_2); injection ea_ with ea_ en_ ec_; subst ea_; subst ec_; clear en_; have ea_ := Option.some.inj (hx521_3.symm.trans hx523_3); injection ea_ with ea_ en_ ec_; subst ea_; subst ec_; clear en_) | (go_at_call 38; (with_reducible refine (r09_Weight.calls k1 _ _ ((rd_T41 l0_2 x7_1).f1) a2 t524 _ ?side1 ?side2 A9.1).mono ?_); (case side1 => exact csd ((Kd.C_below HR523_1.1 pbg))); (case side2 => exact HC523_1.1); rintro e w' ⟨rfl, ⟨nd, rfl⟩⟩))
  go_ret
  exact ⟨per, pbg⟩
 rw [if_neg c10] at H
 have c10b0 : (t524 == 0) = false := beq_eq_false_iff_ne.mpr c10
 have c10b1 : (t524 != 0) = true := bne_iff_ne.mpr c10
 have H' := am H
 clear H
 have z12 := cf3 BK520.1
 obtain ⟨p521, q521, ad521, A521_1, c521_1, A521_2, c521_2, A521_3, c521_3, e521, hx521_0, hx521_1, hx521_2, hx521_3, hx521_4, HC521_1, HR521_1, HC521_2, HR521_2, HC521_3, HR521_3⟩ := bT41 HR0_2.1 HB.1 x7_1
 cases e521
 go_wp2_with (first | ((with_reducible refine gate_callee (f := 38) rfl ?_); refine gC 22 Try.func38 _ (r09_Weight.calls k1 _ _ ((rd_T41 l0_2 x7_1).f1) a1 t522 _ (csb HR521_1 HB) HC521_1.1 A7.1) ?_; rintro e w' ⟨rfl, ⟨nd, rfl⟩⟩; refine ⟨_, rfl, ?_⟩; have p523 : 0 ≤ (x7_1 : Int) := dq; have q523 : x7_1 < (l0_2.length : Int) := dq; obtain ⟨ad523, A523_1, c523_1, A523_2, c523_2, A523_3, c523_3, e523, hx523_0, hx523_1, hx523_2, hx523_3, hx523_4, hl523_1, hi523_1, hl523_2, hi523_2, hl523_3, hi523_3⟩ := at_T41 HR0_2.1 x7_1 p523 q523; obtain rfl : ad521 = ad523 := (by injection e523); replace hx523_0 := cbl HB.1 hx523_0; replace hx523_1 := cbl HB.1 hx523_1; replace hx523_2 := cbl HB.1 hx523_2; replace hx523_3 := cbl HB.1 hx523_3; replace hx523_4 := cbl HB.1 hx523_4; have HR523_1 := am hi523_1; have HC523_1 := am hl523_1; clear hi523_1 hl523_1; have HR523_2 := am hi523_2; have HC523_2 := am hl523_2; clear hi523_2 hl523_2; have HR523_3 := am hi523_3; have HC523_3 := am hl523_3; clear hi523_3 hl523_3; replace p523 := eq_true p523; replace q523 := eq_true q523; have ea_ := Option.some.inj (hx521_1.symm.trans hx523_1); injection ea_ with ea_ en_ ec_; subst ea_; subst ec_; clear en_; have ea_ := Option.some.inj (hx521_2.symm.trans hx523_2); injection ea_ with ea_ en_ ec_; subst ea_; subst ec_; clear en_; have ea_ := Option.some.inj (hx521_3.symm.trans hx523_3); injection ea_ with ea_ en_ ec_; subst ea_; subst ec_; clear en_) | (go_at_call 38; (with_reducible refine (r09_Weight.calls k1 _ _ ((rd_T41 l0_2 x7_1).f1) a2 t524 _ ?side1 ?side2 A9.1).mono ?_); (case side1 => exact csd ((Kd.C_below HR523_1.1 pbg))); (case side2 => exact HC523_1.1); rintro e w' ⟨rfl, ⟨nd, rfl⟩⟩))
 go_roundg k1
 case measure => have := HK1.1; omega
 case rel => exact ⟨(wrap64 (x7_1 + 1)), prs, H', ⟨by have := HK1.1; omega⟩, ⟨pbk BK520.1⟩, ⟨pbg⟩⟩

/-! ### r13_FreeChoice: function 23 -/
mutual
def r13_FreeChoice.l0 : Nat → Int → ByteArray → List (S46) → List (S41) → Option (Bool)
 | 0, _, _, _, _ => none
 | k + 1, x3, x526000, x526001, x526002 => if x3 < (x526001.length : Int) then ((r13_basic.f k x526000 x526001 x526002).bind fun t526 => (r13_FreeChoice.j1 k x3 t526 x526000 x526001 x526002)) else (r13_FreeChoice.j1 k x3 false x526000 x526001 x526002)
def r13_FreeChoice.j1 : Nat → Int → Bool → ByteArray → List (S46) → List (S41) → Option (Bool)
 | 0, _, _, _, _, _ => none
 | k + 1, x3, x13, x526000, x526001, x526002 => if x13 = true then (r13_FreeChoice.l1 k x3 0 x526000 x526001 x526002) else ((r13_basic.f k x526000 x526001 x526002).bind fun t527 => (some t527))
def r13_FreeChoice.l1 : Nat → Int → Int → ByteArray → List (S46) → List (S41) → Option (Bool)
 | 0, _, _, _, _, _ => none
 | k + 1, x3, x4, x526000, x526001, x526002 => if x4 < (x526001.length : Int) then ((r13_meet.f k x526000 x526001 x526002 x3 x4).bind fun t528 => (if t528 = true then ((r13_within.f k x526000 x526001 x526002 x3 x4).bind fun t529 => (if t529 = true then (r13_FreeChoice.l1 k x3 (wrap64 (x4 + 1)) x526000 x526001 x526002) else (some false))) else (r13_FreeChoice.l1 k x3 (wrap64 (x4 + 1)) x526000 x526001 x526002))) else (r13_FreeChoice.l0 k (wrap64 (x3 + 1)) x526000 x526001 x526002)
end
def r13_FreeChoice.f (k : Nat) (a0_0 : ByteArray) (l0_1 : List (S46)) (l0_2 : List (S41)) : Option (Bool) := r13_FreeChoice.l0 k 0 a0_0 l0_1 l0_2
theorem r13_FreeChoice.mono_l : ∀ k, M4 r13_FreeChoice.l0 k ∧ M5 r13_FreeChoice.j1 k ∧ M5 r13_FreeChoice.l1 k
 | 0 => ⟨fun _ _ _ _ r h => by simp [r13_FreeChoice.l0] at h, fun _ _ _ _ _ r h => by simp [r13_FreeChoice.j1] at h, fun _ _ _ _ _ r h => by simp [r13_FreeChoice.l1] at h⟩
 | k + 1 => by
  obtain ⟨ih0, ih1, ih2⟩ := r13_FreeChoice.mono_l k
  refine ⟨?_, ?_, ?_⟩ <;> dsimp only [M4, M5] <;> intros <;> (first | unfold r13_FreeChoice.l0 | unfold r13_FreeChoice.j1 | unfold r13_FreeChoice.l1) <;> repeat' first | (with_reducible first | apply ih0 | apply ih1 | apply ih2 | apply r13_basic.mono | apply r13_meet.mono | apply r13_within.mono | apply lr | apply ln | apply li | refine lb ?_ fun _ => ?_)
theorem r13_FreeChoice.mono : ∀ a0 a1 a2 k, LeO (r13_FreeChoice.f k a0 a1 a2) (r13_FreeChoice.f (k + 1) a0 a1 a2) := by
 intro a0 a1 a2 k
 obtain ⟨ih0, ih1, ih2⟩ := r13_FreeChoice.mono_l k
 unfold r13_FreeChoice.f
 repeat' first | (with_reducible first | apply ih0 | apply ih1 | apply ih2 | apply r13_basic.mono | apply r13_meet.mono | apply r13_within.mono | apply lr | apply ln | apply li | refine lb ?_ fun _ => ?_)
set_option maxHeartbeats 8000000 in
set_option maxRecDepth 100000 in
theorem r13_FreeChoice.calls (k : Nat) (a0_0 : ByteArray) (A0_1 : Option Addr) (c0_1 : Nat) (l0_1 : List (S46)) (A0_2 : Option Addr) (c0_2 : Nat) (l0_2 : List (S41)) (r : Bool) (w : World) (hr0_1 : Kd.C k46 w A0_1 l0_1.length l0_1) (hc0_1 : l0_1.length ≤ c0_1) (hr0_2 : Kd.C k41 w A0_2 l0_2.length l0_2) (hc0_2 : l0_2.length ≤ c0_2) (h : r13_FreeChoice.f k a0_0 l0_1 l0_2 = some r) :
  Calls Try.prog 23 #[.agg #[.string a0_0, .slice A0_1 l0_1.length c0_1, .slice A0_2 l0_2.length c0_2]] w fun e w' => e = .returned (.bool r) ∧ Below w.heap.size w w' := by
 have hu25 := Try.underlying25
 have HR0_1 := am hr0_1
 have HC0_1 := am hc0_1
 clear hr0_1 hc0_1
 have HR0_2 := am hr0_2
 have HC0_2 := am hc0_2
 clear hr0_2 hc0_2
 have HB := am (Below.refl w.heap.size w)
 have H : (r13_FreeChoice.l0 k 0 a0_0 l0_1 l0_2) = some r := h
 clear h
 have H' := am H
 clear H
 go_enter Try.func23, Try.ntmps23
 go_wp2_with (first | ((with_reducible refine gate_dst (N := 1) rfl ?_); refine box_ev (N := 1) (cs := #[.string a0_0, .slice A0_1 l0_1.length c0_1, .slice A0_2 l0_2.length c0_2]) (t := 25) ?_; intro gb525 hg w2 hbox hb; have BK525 := am hbox; have GW525 := gwl hg; have GE525 := GW525; replace HB := bsl hb; clear hb hbox hg))
 go_loopg [3] k (fun kq v3 w' => ∃ (x3_1 : Int), v3 = .int .i64 x3_1 ∧ Aside0 (r13_FreeChoice.l0 kq x3_1 a0_0 l0_1 l0_2 = some r) ∧ Aside0 (kq ≤ k) ∧ Aside0 (w'.heap[gb525]? = some (.cells #[.string a0_0, (.slice A0_1 l0_1.length c0_1), (.slice A0_2 l0_2.length c0_2)] 25 (0, 0))) ∧ Aside0 (Below w.heap.size w w'))
 case atStart => exact ⟨(0), prs, H', ⟨Nat.le_refl _⟩, ⟨pbk BK525.1⟩, ⟨pbg⟩⟩
 clear H'
 obtain ⟨x3_1, rfl, HA, HK1, BK525, HB⟩ := hrel
 obtain _ | k1 := gk
 ·exact absurd HA.1 (by simp [r13_FreeChoice.l0])
 have H := HA.1
 clear HA
 simp only [r13_FreeChoice.l0] at H
 have HC3 := am H
 clear H
 go_upto_region 2 with (fail)
 go_cut [13] (fun v13 wc => ∃ (kq : Nat) (x13_2 : Bool), v13 = .bool x13_2 ∧ Aside0 (r13_FreeChoice.j1 kq x3_1 x13_2 a0_0 l0_1 l0_2 = some r) ∧ Aside0 (kq ≤ k1) ∧ Aside0 (wc.heap[gb525]? = some (.cells #[.string a0_0, (.slice A0_1 l0_1.length c0_1), (.slice A0_2 l0_2.length c0_2)] 25 (0, 0))) ∧ Aside0 (Below w.heap.size w wc))
 case first =>
  have H := HC3.1
  clear HC3
  by_cases c4 : x3_1 < (l0_1.length : Int)
  rotate_left
  ·rw [if_neg c4] at H
   have c4b0 : decide (x3_1 < (l0_1.length : Int)) = false := decide_eq_false c4
   clear c4
   (first | rw [c4b0] | (simp only [i64_w, i32_w]; rw [c4b0]) | skip)
   have H' := am H
   clear H
   have z8 := cf3 BK525.1
   go_wp2
   go_meet
   case rel => exact ⟨_, (false), prs, H', ⟨by have := HK1.1; first | omega | exact Nat.le_refl _⟩, ⟨pbk BK525.1⟩, ⟨pbg⟩⟩
  rw [if_pos c4] at H
  have c4b0 : decide (x3_1 < (l0_1.length : Int)) = true := decide_eq_true c4
  clear c4
  (first | rw [c4b0] | (simp only [i64_w, i32_w]; rw [c4b0]) | skip)
  replace H := bnd H
  obtain ⟨t526, A5, H⟩ := H
  (try dsimp only at H)
  have H' := am H
  clear H
  have z6 := cf3 BK525.1
  go_wp2_with (first | (go_at_call 45; (with_reducible refine (r13_basic.calls k1 a0_0 _ _ l0_1 _ _ l0_2 t526 _ ?side1 ?side2 ?side3 ?side4 A5.1).mono ?_); (case side1 => exact csb HR0_1 HB); (case side2 => exact HC0_1.1); (case side3 => exact csb HR0_2 HB); (case side4 => exact HC0_2.1); rintro e w7 ⟨rfl, hb⟩; replace BK525 := bbh BK525 hb; replace HB := bst hb; (try clear hb)))
  go_meet
  case rel => exact ⟨_, (t526), prs, H', ⟨by have := HK1.1; first | omega | exact Nat.le_refl _⟩, ⟨pbk BK525.1⟩, ⟨pbg⟩⟩
 clear HC3
 try clear c4 c4b0 z6 z8
 obtain ⟨kq, x13_2, rfl, HA, HJ2, BK525, HB⟩ := hcut
 obtain _ | kj2 := kq
 ·exact absurd HA.1 (by simp [r13_FreeChoice.j1])
 have H := HA.1
 clear HA
 simp only [r13_FreeChoice.j1] at H
 by_cases c9 : x13_2 = true
 rotate_left
 ·replace c9 := Bool.eq_false_iff.mpr c9
  subst c9
  rw [if_neg Bool.false_ne_true] at H
  replace H := bnd H
  obtain ⟨t527, A26, H⟩ := H
  (try dsimp only at H)
  obtain rfl := Option.some.inj H
  have z27 := cf3 BK525.1
  go_wp2_with (first | ((with_reducible refine gate_callee (f := 45) rfl ?_); refine gC 35 Try.func45 _ (r13_basic.calls kj2 a0_0 _ _ l0_1 _ _ l0_2 t527 _ (csb HR0_1 HB) HC0_1.1 (csb HR0_2 HB) HC0_2.1 A26.1) ?_; rintro e w28 ⟨rfl, hb⟩; refine ⟨_, rfl, ?_⟩; replace BK525 := bbh BK525 hb; replace HB := bst hb; (try clear hb)))
  go_ret
  exact ⟨per, pbg⟩
 subst c9
 rw [if_pos rfl] at H
 have H' := am H
 clear H
 go_wp2
 go_loopg [4] kj2 (fun kq v4 w' => ∃ (x4_3 : Int), v4 = .int .i64 x4_3 ∧ Aside0 (r13_FreeChoice.l1 kq x3_1 x4_3 a0_0 l0_1 l0_2 = some r) ∧ Aside0 (kq ≤ kj2) ∧ Aside0 (w'.heap[gb525]? = some (.cells #[.string a0_0, (.slice A0_1 l0_1.length c0_1), (.slice A0_2 l0_2.length c0_2)] 25 (0, 0))) ∧ Aside0 (Below w.heap.size w w'))
 case atStart => exact ⟨(0), prs, H', ⟨Nat.le_refl _⟩, ⟨pbk BK525.1⟩, ⟨pbg⟩⟩
 clear H'
 try clear c4 c4b0 c9 z6 z8
 obtain ⟨x4_3, rfl, HA, HK3, BK525, HB⟩ := hrel
 obtain _ | k3 := gk
 ·exact absurd HA.1 (by simp [r13_FreeChoice.l1])
 have H := HA.1
 clear HA
 simp only [r13_FreeChoice.l1] at H
 by_cases c10 : x4_3 < (l0_1.length : Int)
 rotate_left
 ·rw [if_neg c10] at H
  have c10b0 : decide (x4_3 < (l0_1.length : Int)) = false := decide_eq_false c10
  clear c10
  have H' := am H
  clear H
  have z25 := cf3 BK525.1
  go_wp2
  go_roundg k3
  case measure => have := HK1.1; have := HJ2.1; have := HK3.1; omega
  case rel => exact ⟨(wrap64 (x3_1 + 1)), prs, H', ⟨by have := HK1.1; have := HJ2.1; have := HK3.1; omega⟩, ⟨pbk BK525.1⟩, ⟨pbg⟩⟩
 rw [if_pos c10] at H
 have c10b0 : decide (x4_3 < (l0_1.length : Int)) = true := decide_eq_true c10
 clear c10
 replace H := bnd H
 obtain ⟨t528, A11, H⟩ := H
 (try dsimp only at H)
 by_cases c12 : t528 = true
 rotate_left
 ·replace c12 := Bool.eq_false_iff.mpr c12
  subst c12
  rw [if_neg Bool.false_ne_true] at H
  have H' := am H
  clear H
  have z23 := cf3 BK525.1
  go_wp2_with (first | ((with_reducible refine gate_callee (f := 53) rfl ?_); refine gC 26 Try.func53 _ (r13_meet.calls k3 a0_0 _ _ l0_1 _ _ l0_2 x3_1 x4_3 false _ (csb HR0_1 HB) HC0_1.1 (csb HR0_2 HB) HC0_2.1 A11.1) ?_; rintro e w24 ⟨rfl, hb⟩; refine ⟨_, rfl, ?_⟩; replace BK525 := bbh BK525 hb; replace HB := bst hb; (try clear hb)))
  go_roundg k3
  case measure => have := HK1.1; have := HJ2.1; have := HK3.1; omega
  case rel => exact ⟨(wrap64 (x4_3 + 1)), prs, H', ⟨by have := HK1.1; have := HJ2.1; have := HK3.1; omega⟩, ⟨pbk BK525.1⟩, ⟨pbg⟩⟩
 subst c12
 rw [if_pos rfl] at H
 replace H := bnd H
 obtain ⟨t529, A13, H⟩ := H
 (try dsimp only at H)
 by_cases c14 : t529 = true
 rotate_left
 ·replace c14 := Bool.eq_false_iff.mpr c14
  subst c14
  rw [if_neg Bool.false_ne_true] at H
  obtain rfl := Option.some.inj H
  have z19 := cf3 BK525.1
  go_wp2_with (first | ((with_reducible refine gate_callee (f := 53) rfl ?_); refine gC 26 Try.func53 _ (r13_meet.calls k3 a0_0 _ _ l0_1 _ _ l0_2 x3_1 x4_3 true _ (csb HR0_1 HB) HC0_1.1 (csb HR0_2 HB) HC0_2.1 A11.1) ?_; rintro e w20 ⟨rfl, hb⟩; refine ⟨_, rfl, ?_⟩; replace BK525 := bbh BK525 hb; replace HB := bst hb; (try clear hb); have z21 := cf3 BK525.1) | (go_at_call 54; (with_reducible refine (r13_within.calls k3 a0_0 _ _ l0_1 _ _ l0_2 x3_1 x4_3 false _ ?side1 ?side2 ?side3 ?side4 A13.1).mono ?_); (case side1 => exact csb HR0_1 HB); (case side2 => exact HC0_1.1); (case side3 => exact csb HR0_2 HB); (case side4 => exact HC0_2.1); rintro e w22 ⟨rfl, hb⟩; replace BK525 := bbh BK525 hb; replace HB := bst hb; (try clear hb)))
  go_ret
  exact ⟨per, pbg⟩
 subst c14
 rw [if_pos rfl] at H
 have H' := am H
 clear H
 have z15 := cf3 BK525.1
 go_wp2_with (first | ((with_reducible refine gate_callee (f := 53) rfl ?_); refine gC 26 Try.func53 _ (r13_meet.calls k3 a0_0 _ _ l0_1 _ _ l0_2 x3_1 x4_3 true _ (csb HR0_1 HB) HC0_1.1 (csb HR0_2 HB) HC0_2.1 A11.1) ?_; rintro e w16 ⟨rfl, hb⟩; refine ⟨_, rfl, ?_⟩; replace BK525 := bbh BK525 hb; replace HB := bst hb; (try clear hb); have z17 := cf3 BK525.1) | (go_at_call 54; (with_reducible refine (r13_within.calls k3 a0_0 _ _ l0_1 _ _ l0_2 x3_1 x4_3 true _ ?side1 ?side2 ?side3 ?side4 A13.1).mono ?_); (case side1 => exact csb HR0_1 HB); (case side2 => exact HC0_1.1); (case side3 => exact csb HR0_2 HB); (case side4 => exact HC0_2.1); rintro e w18 ⟨rfl, hb⟩; replace BK525 := bbh BK525 hb; replace HB := bst hb; (try clear hb)))
 go_roundg k3
 case measure => have := HK1.1; have := HJ2.1; have := HK3.1; omega
 case rel => exact ⟨(wrap64 (x4_3 + 1)), prs, H', ⟨by have := HK1.1; have := HJ2.1; have := HK3.1; omega⟩, ⟨pbk BK525.1⟩, ⟨pbg⟩⟩

/-! ### r13_Asymmetric: function 25 -/
mutual
def r13_Asymmetric.l0 : Nat → Int → ByteArray → List (S46) → List (S41) → Option (Bool)
 | 0, _, _, _, _ => none
 | k + 1, x3, x531000, x531001, x531002 => if x3 < (x531001.length : Int) then ((r13_basic.f k x531000 x531001 x531002).bind fun t531 => (r13_Asymmetric.j1 k x3 t531 x531000 x531001 x531002)) else (r13_Asymmetric.j1 k x3 false x531000 x531001 x531002)
def r13_Asymmetric.j1 : Nat → Int → Bool → ByteArray → List (S46) → List (S41) → Option (Bool)
 | 0, _, _, _, _, _ => none
 | k + 1, x3, x13, x531000, x531001, x531002 => if x13 = true then (r13_Asymmetric.l1 k x3 0 x531000 x531001 x531002) else ((r13_basic.f k x531000 x531001 x531002).bind fun t532 => (some t532))
def r13_Asymmetric.l1 : Nat → Int → Int → ByteArray → List (S46) → List (S41) → Option (Bool)
 | 0, _, _, _, _, _ => none
 | k + 1, x3, x4, x531000, x531001, x531002 => if x4 < (x531001.length : Int) then ((r13_meet.f k x531000 x531001 x531002 x3 x4).bind fun t533 => (if t533 = true then ((r13_within.f k x531000 x531001 x531002 x3 x4).bind fun t534 => (if t534 = true then (r13_Asymmetric.l1 k x3 (wrap64 (x4 + 1)) x531000 x531001 x531002) else ((r13_within.f k x531000 x531001 x531002 x4 x3).bind fun t535 => (if t535 = true then (r13_Asymmetric.l1 k x3 (wrap64 (x4 + 1)) x531000 x531001 x531002) else (some false))))) else (r13_Asymmetric.l1 k x3 (wrap64 (x4 + 1)) x531000 x531001 x531002))) else (r13_Asymmetric.l0 k (wrap64 (x3 + 1)) x531000 x531001 x531002)
end
def r13_Asymmetric.f (k : Nat) (a0_0 : ByteArray) (l0_1 : List (S46)) (l0_2 : List (S41)) : Option (Bool) := r13_Asymmetric.l0 k 0 a0_0 l0_1 l0_2
theorem r13_Asymmetric.mono_l : ∀ k, M4 r13_Asymmetric.l0 k ∧ M5 r13_Asymmetric.j1 k ∧ M5 r13_Asymmetric.l1 k
 | 0 => ⟨fun _ _ _ _ r h => by simp [r13_Asymmetric.l0] at h, fun _ _ _ _ _ r h => by simp [r13_Asymmetric.j1] at h, fun _ _ _ _ _ r h => by simp [r13_Asymmetric.l1] at h⟩
 | k + 1 => by
  obtain ⟨ih0, ih1, ih2⟩ := r13_Asymmetric.mono_l k
  refine ⟨?_, ?_, ?_⟩ <;> dsimp only [M4, M5] <;> intros <;> (first | unfold r13_Asymmetric.l0 | unfold r13_Asymmetric.j1 | unfold r13_Asymmetric.l1) <;> repeat' first | (with_reducible first | apply ih0 | apply ih1 | apply ih2 | apply r13_basic.mono | apply r13_meet.mono | apply r13_within.mono | apply lr | apply ln | apply li | refine lb ?_ fun _ => ?_)
theorem r13_Asymmetric.mono : ∀ a0 a1 a2 k, LeO (r13_Asymmetric.f k a0 a1 a2) (r13_Asymmetric.f (k + 1) a0 a1 a2) := by
 intro a0 a1 a2 k
 obtain ⟨ih0, ih1, ih2⟩ := r13_Asymmetric.mono_l k
 unfold r13_Asymmetric.f
 repeat' first | (with_reducible first | apply ih0 | apply ih1 | apply ih2 | apply r13_basic.mono | apply r13_meet.mono | apply r13_within.mono | apply lr | apply ln | apply li | refine lb ?_ fun _ => ?_)
set_option maxHeartbeats 8000000 in
set_option maxRecDepth 100000 in
theorem r13_Asymmetric.calls (k : Nat) (a0_0 : ByteArray) (A0_1 : Option Addr) (c0_1 : Nat) (l0_1 : List (S46)) (A0_2 : Option Addr) (c0_2 : Nat) (l0_2 : List (S41)) (r : Bool) (w : World) (hr0_1 : Kd.C k46 w A0_1 l0_1.length l0_1) (hc0_1 : l0_1.length ≤ c0_1) (hr0_2 : Kd.C k41 w A0_2 l0_2.length l0_2) (hc0_2 : l0_2.length ≤ c0_2) (h : r13_Asymmetric.f k a0_0 l0_1 l0_2 = some r) :
  Calls Try.prog 25 #[.agg #[.string a0_0, .slice A0_1 l0_1.length c0_1, .slice A0_2 l0_2.length c0_2]] w fun e w' => e = .returned (.bool r) ∧ Below w.heap.size w w' := by
 have hu25 := Try.underlying25
 have HR0_1 := am hr0_1
 have HC0_1 := am hc0_1
 clear hr0_1 hc0_1
 have HR0_2 := am hr0_2
 have HC0_2 := am hc0_2
 clear hr0_2 hc0_2
 have HB := am (Below.refl w.heap.size w)
 have H : (r13_Asymmetric.l0 k 0 a0_0 l0_1 l0_2) = some r := h
 clear h
 have H' := am H
 clear H
 go_enter Try.func25, Try.ntmps25
 go_wp2_with (first | ((with_reducible refine gate_dst (N := 1) rfl ?_); refine box_ev (N := 1) (cs := #[.string a0_0, .slice A0_1 l0_1.length c0_1, .slice A0_2 l0_2.length c0_2]) (t := 25) ?_; intro gb530 hg w2 hbox hb; have BK530 := am hbox; have GW530 := gwl hg; have GE530 := GW530; replace HB := bsl hb; clear hb hbox hg))
 go_loopg [3] k (fun kq v3 w' => ∃ (x3_1 : Int), v3 = .int .i64 x3_1 ∧ Aside0 (r13_Asymmetric.l0 kq x3_1 a0_0 l0_1 l0_2 = some r) ∧ Aside0 (kq ≤ k) ∧ Aside0 (w'.heap[gb530]? = some (.cells #[.string a0_0, (.slice A0_1 l0_1.length c0_1), (.slice A0_2 l0_2.length c0_2)] 25 (0, 0))) ∧ Aside0 (Below w.heap.size w w'))
 case atStart => exact ⟨(0), prs, H', ⟨Nat.le_refl _⟩, ⟨pbk BK530.1⟩, ⟨pbg⟩⟩
 clear H'
 obtain ⟨x3_1, rfl, HA, HK1, BK530, HB⟩ := hrel
 obtain _ | k1 := gk
 ·exact absurd HA.1 (by simp [r13_Asymmetric.l0])
 have H := HA.1
 clear HA
 simp only [r13_Asymmetric.l0] at H
 have HC3 := am H
 clear H
 go_upto_region 2 with (fail)
 go_cut [13] (fun v13 wc => ∃ (kq : Nat) (x13_2 : Bool), v13 = .bool x13_2 ∧ Aside0 (r13_Asymmetric.j1 kq x3_1 x13_2 a0_0 l0_1 l0_2 = some r) ∧ Aside0 (kq ≤ k1) ∧ Aside0 (wc.heap[gb530]? = some (.cells #[.string a0_0, (.slice A0_1 l0_1.length c0_1), (.slice A0_2 l0_2.length c0_2)] 25 (0, 0))) ∧ Aside0 (Below w.heap.size w wc))
 case first =>
  have H := HC3.1
  clear HC3
  by_cases c4 : x3_1 < (l0_1.length : Int)
  rotate_left
  ·rw [if_neg c4] at H
   have c4b0 : decide (x3_1 < (l0_1.length : Int)) = false := decide_eq_false c4
   clear c4
   (first | rw [c4b0] | (simp only [i64_w, i32_w]; rw [c4b0]) | skip)
   have H' := am H
   clear H
   have z8 := cf3 BK530.1
   go_wp2
   go_meet
   case rel => exact ⟨_, (false), prs, H', ⟨by have := HK1.1; first | omega | exact Nat.le_refl _⟩, ⟨pbk BK530.1⟩, ⟨pbg⟩⟩
  rw [if_pos c4] at H
  have c4b0 : decide (x3_1 < (l0_1.length : Int)) = true := decide_eq_true c4
  clear c4
  (first | rw [c4b0] | (simp only [i64_w, i32_w]; rw [c4b0]) | skip)
  replace H := bnd H
  obtain ⟨t531, A5, H⟩ := H
  (try dsimp only at H)
  have H' := am H
  clear H
  have z6 := cf3 BK530.1
  go_wp2_with (first | (go_at_call 45; (with_reducible refine (r13_basic.calls k1 a0_0 _ _ l0_1 _ _ l0_2 t531 _ ?side1 ?side2 ?side3 ?side4 A5.1).mono ?_); (case side1 => exact csb HR0_1 HB); (case side2 => exact HC0_1.1); (case side3 => exact csb HR0_2 HB); (case side4 => exact HC0_2.1); rintro e w7 ⟨rfl, hb⟩; replace BK530 := bbh BK530 hb; replace HB := bst hb; (try clear hb)))
  go_meet
  case rel => exact ⟨_, (t531), prs, H', ⟨by have := HK1.1; first | omega | exact Nat.le_refl _⟩, ⟨pbk BK530.1⟩, ⟨pbg⟩⟩
 clear HC3
 try clear c4 c4b0 z6 z8
 obtain ⟨kq, x13_2, rfl, HA, HJ2, BK530, HB⟩ := hcut
 obtain _ | kj2 := kq
 ·exact absurd HA.1 (by simp [r13_Asymmetric.j1])
 have H := HA.1
 clear HA
 simp only [r13_Asymmetric.j1] at H
 by_cases c9 : x13_2 = true
 rotate_left
 ·replace c9 := Bool.eq_false_iff.mpr c9
  subst c9
  rw [if_neg Bool.false_ne_true] at H
  replace H := bnd H
  obtain ⟨t532, A36, H⟩ := H
  (try dsimp only at H)
  obtain rfl := Option.some.inj H
  have z37 := cf3 BK530.1
  go_wp2_with (first | ((with_reducible refine gate_callee (f := 45) rfl ?_); refine gC 42 Try.func45 _ (r13_basic.calls kj2 a0_0 _ _ l0_1 _ _ l0_2 t532 _ (csb HR0_1 HB) HC0_1.1 (csb HR0_2 HB) HC0_2.1 A36.1) ?_; rintro e w38 ⟨rfl, hb⟩; refine ⟨_, rfl, ?_⟩; replace BK530 := bbh BK530 hb; replace HB := bst hb; (try clear hb)))
  go_ret
  exact ⟨per, pbg⟩
 subst c9
 rw [if_pos rfl] at H
 have H' := am H
 clear H
 go_wp2
 go_loopg [4] kj2 (fun kq v4 w' => ∃ (x4_3 : Int), v4 = .int .i64 x4_3 ∧ Aside0 (r13_Asymmetric.l1 kq x3_1 x4_3 a0_0 l0_1 l0_2 = some r) ∧ Aside0 (kq ≤ kj2) ∧ Aside0 (w'.heap[gb530]? = some (.cells #[.string a0_0, (.slice A0_1 l0_1.length c0_1), (.slice A0_2 l0_2.length c0_2)] 25 (0, 0))) ∧ Aside0 (Below w.heap.size w w'))
 case atStart => exact ⟨(0), prs, H', ⟨Nat.le_refl _⟩, ⟨pbk BK530.1⟩, ⟨pbg⟩⟩
 clear H'
 try clear c4 c4b0 c9 z6 z8
 obtain ⟨x4_3, rfl, HA, HK3, BK530, HB⟩ := hrel
 obtain _ | k3 := gk
 ·exact absurd HA.1 (by simp [r13_Asymmetric.l1])
 have H := HA.1
 clear HA
 simp only [r13_Asymmetric.l1] at H
 by_cases c10 : x4_3 < (l0_1.length : Int)
 rotate_left
 ·rw [if_neg c10] at H
  have c10b0 : decide (x4_3 < (l0_1.length : Int)) = false := decide_eq_false c10
  clear c10
  have H' := am H
  clear H
  have z35 := cf3 BK530.1
  go_wp2
  go_roundg k3
  case measure => have := HK1.1; have := HJ2.1; have := HK3.1; omega
  case rel => exact ⟨(wrap64 (x3_1 + 1)), prs, H', ⟨by have := HK1.1; have := HJ2.1; have := HK3.1; omega⟩, ⟨pbk BK530.1⟩, ⟨pbg⟩⟩
 rw [if_pos c10] at H
 have c10b0 : decide (x4_3 < (l0_1.length : Int)) = true := decide_eq_true c10
 clear c10
 replace H := bnd H
 obtain ⟨t533, A11, H⟩ := H
 (try dsimp only at H)
 by_cases c12 : t533 = true
 rotate_left
 ·replace c12 := Bool.eq_false_iff.mpr c12
  subst c12
  rw [if_neg Bool.false_ne_true] at H
  have H' := am H
  clear H
  have z33 := cf3 BK530.1
  go_wp2_with (first | ((with_reducible refine gate_callee (f := 53) rfl ?_); refine gC 26 Try.func53 _ (r13_meet.calls k3 a0_0 _ _ l0_1 _ _ l0_2 x3_1 x4_3 false _ (csb HR0_1 HB) HC0_1.1 (csb HR0_2 HB) HC0_2.1 A11.1) ?_; rintro e w34 ⟨rfl, hb⟩; refine ⟨_, rfl, ?_⟩; replace BK530 := bbh BK530 hb; replace HB := bst hb; (try clear hb)))
  go_roundg k3
  case measure => have := HK1.1; have := HJ2.1; have := HK3.1; omega
  case rel => exact ⟨(wrap64 (x4_3 + 1)), prs, H', ⟨by have := HK1.1; have := HJ2.1; have := HK3.1; omega⟩, ⟨pbk BK530.1⟩, ⟨pbg⟩⟩
 subst c12
 rw [if_pos rfl] at H
 replace H := bnd H
 obtain ⟨t534, A13, H⟩ := H
 (try dsimp only at H)
 by_cases c14 : t534 = true
 ·subst c14
  rw [if_pos rfl] at H
  have H' := am H
  clear H
  have z15 := cf3 BK530.1
  go_wp2_with (first | ((with_reducible refine gate_callee (f := 53) rfl ?_); refine gC 26 Try.func53 _ (r13_meet.calls k3 a0_0 _ _ l0_1 _ _ l0_2 x3_1 x4_3 true _ (csb HR0_1 HB) HC0_1.1 (csb HR0_2 HB) HC0_2.1 A11.1) ?_; rintro e w16 ⟨rfl, hb⟩; refine ⟨_, rfl, ?_⟩; replace BK530 := bbh BK530 hb; replace HB := bst hb; (try clear hb); have z17 := cf3 BK530.1) | (go_at_call 54; (with_reducible refine (r13_within.calls k3 a0_0 _ _ l0_1 _ _ l0_2 x3_1 x4_3 true _ ?side1 ?side2 ?side3 ?side4 A13.1).mono ?_); (case side1 => exact csb HR0_1 HB); (case side2 => exact HC0_1.1); (case side3 => exact csb HR0_2 HB); (case side4 => exact HC0_2.1); rintro e w18 ⟨rfl, hb⟩; replace BK530 := bbh BK530 hb; replace HB := bst hb; (try clear hb)))
  go_roundg k3
  case measure => have := HK1.1; have := HJ2.1; have := HK3.1; omega
  case rel => exact ⟨(wrap64 (x4_3 + 1)), prs, H', ⟨by have := HK1.1; have := HJ2.1; have := HK3.1; omega⟩, ⟨pbk BK530.1⟩, ⟨pbg⟩⟩
 replace c14 := Bool.eq_false_iff.mpr c14
 subst c14
 rw [if_neg Bool.false_ne_true] at H
 replace H := bnd H
 obtain ⟨t535, A19, H⟩ := H
 (try dsimp only at H)
 by_cases c20 : t535 = true
 rotate_left
 ·replace c20 := Bool.eq_false_iff.mpr c20
  subst c20
  rw [if_neg Bool.false_ne_true] at H
  obtain rfl := Option.some.inj H
  have z27 := cf3 BK530.1
  go_wp2_with (first | ((with_reducible refine gate_callee (f := 53) rfl ?_); refine gC 26 Try.func53 _ (r13_meet.calls k3 a0_0 _ _ l0_1 _ _ l0_2 x3_1 x4_3 true _ (csb HR0_1 HB) HC0_1.1 (csb HR0_2 HB) HC0_2.1 A11.1) ?_; rintro e w28 ⟨rfl, hb⟩; refine ⟨_, rfl, ?_⟩; replace BK530 := bbh BK530 hb; replace HB := bst hb; (try clear hb); have z29 := cf3 BK530.1) | (go_at_call 54; (with_reducible refine (r13_within.calls k3 a0_0 _ _ l0_1 _ _ l0_2 x3_1 x4_3 false _ ?side1 ?side2 ?side3 ?side4 A13.1).mono ?_); (case side1 => exact csb HR0_1 HB); (case side2 => exact HC0_1.1); (case side3 => exact csb HR0_2 HB); (case side4 => exact HC0_2.1); rintro e w30 ⟨rfl, hb⟩; replace BK530 := bbh BK530 hb; replace HB := bst hb; (try clear hb); have z31 := cf3 BK530.1) | (go_at_call 54; (with_reducible refine (r13_within.calls k3 a0_0 _ _ l0_1 _ _ l0_2 x4_3 x3_1 false _ ?side1 ?side2 ?side3 ?side4 A19.1).mono ?_); (case side1 => exact csb HR0_1 HB); (case side2 => exact HC0_1.1); (case side3 => exact csb HR0_2 HB); (case side4 => exact HC0_2.1); rintro e w32 ⟨rfl, hb⟩; replace BK530 := bbh BK530 hb; replace HB := bst hb; (try clear hb)))
  go_ret
  exact ⟨per, pbg⟩
 subst c20
 rw [if_pos rfl] at H
 have H' := am H
 clear H
 have z21 := cf3 BK530.1
 go_wp2_with (first | ((with_reducible refine gate_callee (f := 53) rfl ?_); refine gC 26 Try.func53 _ (r13_meet.calls k3 a0_0 _ _ l0_1 _ _ l0_2 x3_1 x4_3 true _ (csb HR0_1 HB) HC0_1.1 (csb HR0_2 HB) HC0_2.1 A11.1) ?_; rintro e w22 ⟨rfl, hb⟩; refine ⟨_, rfl, ?_⟩; replace BK530 := bbh BK530 hb; replace HB := bst hb; (try clear hb); have z23 := cf3 BK530.1) | (go_at_call 54; (with_reducible refine (r13_within.calls k3 a0_0 _ _ l0_1 _ _ l0_2 x3_1 x4_3 false _ ?side1 ?side2 ?side3 ?side4 A13.1).mono ?_); (case side1 => exact csb HR0_1 HB); (case side2 => exact HC0_1.1); (case side3 => exact csb HR0_2 HB); (case side4 => exact HC0_2.1); rintro e w24 ⟨rfl, hb⟩; replace BK530 := bbh BK530 hb; replace HB := bst hb; (try clear hb); have z25 := cf3 BK530.1) | (go_at_call 54; (with_reducible refine (r13_within.calls k3 a0_0 _ _ l0_1 _ _ l0_2 x4_3 x3_1 true _ ?side1 ?side2 ?side3 ?side4 A19.1).mono ?_); (case side1 => exact csb HR0_1 HB); (case side2 => exact HC0_1.1); (case side3 => exact csb HR0_2 HB); (case side4 => exact HC0_2.1); rintro e w26 ⟨rfl, hb⟩; replace BK530 := bbh BK530 hb; replace HB := bst hb; (try clear hb)))
 go_roundg k3
 case measure => have := HK1.1; have := HJ2.1; have := HK3.1; omega
 case rel => exact ⟨(wrap64 (x4_3 + 1)), prs, H', ⟨by have := HK1.1; have := HJ2.1; have := HK3.1; omega⟩, ⟨pbk BK530.1⟩, ⟨pbg⟩⟩

/-! ### r09_Pre: function 59 -/
def r09_Pre.f (k : Nat) (a0_0 : ByteArray) (l0_1 : List (S46)) (l0_2 : List (S41)) (a1 : Int) (a2 : Int) : Option (Int) := (r09_Valid.f k a0_0 l0_1 l0_2).bind fun t537 => (if t537 = true then (if a1 < 0 then (some 0) else (if a1 ≥ (l0_2.length : Int) then (some 0) else (if 0 ≤ a1 then (if a1 < (l0_2.length : Int) then ((r09_Weight.f k ((rd_T41 l0_2 a1).f1) a2).bind fun t539 => (some t539)) else (none)) else (none)))) else (some 0))
theorem r09_Pre.mono : ∀ a0 a1 a2 a3 a4 k, LeO (r09_Pre.f k a0 a1 a2 a3 a4) (r09_Pre.f (k + 1) a0 a1 a2 a3 a4) := by
 intro a0 a1 a2 a3 a4 k
 unfold r09_Pre.f
 repeat' first | (with_reducible first | apply r09_Valid.mono | apply r09_Weight.mono | apply lr | apply ln | apply li | refine lb ?_ fun _ => ?_)
set_option maxHeartbeats 8000000 in
set_option maxRecDepth 100000 in
theorem r09_Pre.calls (k : Nat) (a0_0 : ByteArray) (A0_1 : Option Addr) (c0_1 : Nat) (l0_1 : List (S46)) (A0_2 : Option Addr) (c0_2 : Nat) (l0_2 : List (S41)) (a1 : Int) (a2 : Int) (r : Int) (w : World) (hr0_1 : Kd.C k46 w A0_1 l0_1.length l0_1) (hc0_1 : l0_1.length ≤ c0_1) (hr0_2 : Kd.C k41 w A0_2 l0_2.length l0_2) (hc0_2 : l0_2.length ≤ c0_2) (h : r09_Pre.f k a0_0 l0_1 l0_2 a1 a2 = some r) :
  Calls Try.prog 59 #[.agg #[.string a0_0, .slice A0_1 l0_1.length c0_1, .slice A0_2 l0_2.length c0_2], .int .i64 a1, .int .i64 a2] w fun e w' => e = .returned (.int .i64 r) ∧ Below w.heap.size w w' := by
 have hu25 := Try.underlying25
 have HR0_1 := am hr0_1
 have HC0_1 := am hc0_1
 clear hr0_1 hc0_1
 have HR0_2 := am hr0_2
 have HC0_2 := am hc0_2
 clear hr0_2 hc0_2
 have HB := am (Below.refl w.heap.size w)
 have H : ((r09_Valid.f k a0_0 l0_1 l0_2).bind fun t537 => (if t537 = true then (if a1 < 0 then (some 0) else (if a1 ≥ (l0_2.length : Int) then (some 0) else (if 0 ≤ a1 then (if a1 < (l0_2.length : Int) then ((r09_Weight.f k ((rd_T41 l0_2 a1).f1) a2).bind fun t539 => (some t539)) else (none)) else (none)))) else (some 0))) = some r := h
 clear h
 replace H := bnd H
 obtain ⟨t537, A4, H⟩ := H
 (try dsimp only at H)
 by_cases c5 : t537 = true
 rotate_left
 ·replace c5 := Bool.eq_false_iff.mpr c5
  subst c5
  rw [if_neg Bool.false_ne_true] at H
  obtain rfl := Option.some.inj H
  go_enter Try.func59, Try.ntmps59
  go_wp2_with (first | ((with_reducible refine gate_dst (N := 3) rfl ?_); (try (refine gate_guard (by rfl) ?_; dsimp only)); refine box_ev (N := 3) (cs := #[.string a0_0, .slice A0_1 l0_1.length c0_1, .slice A0_2 l0_2.length c0_2]) (t := 25) ?_; intro gb536 hg w22 hbox hb; have BK536 := am hbox; have GW536 := gwl hg; have GE536 := GW536; replace HB := bsl hb; clear hb hbox hg; have z23 := cf3 BK536.1) | ((with_reducible refine gate_callee (f := 34) rfl ?_); refine gC 8 Try.func34 _ (r09_Valid.calls k a0_0 _ _ l0_1 _ _ l0_2 false _ (csb HR0_1 HB) HC0_1.1 (csb HR0_2 HB) HC0_2.1 A4.1) ?_; rintro e w24 ⟨rfl, hb⟩; refine ⟨_, rfl, ?_⟩; replace BK536 := bbh BK536 hb; replace HB := bst hb; (try clear hb)))
  go_ret
  exact ⟨per, pbg⟩
 subst c5
 rw [if_pos rfl] at H
 by_cases c6 : a1 < 0
 ·rw [if_pos c6] at H
  have c6b0 : decide (a1 < 0) = true := decide_eq_true c6
  clear c6
  obtain rfl := Option.some.inj H
  go_enter Try.func59, Try.ntmps59
  go_wp2_with (first | ((with_reducible refine gate_dst (N := 3) rfl ?_); (try (refine gate_guard (by rfl) ?_; dsimp only)); refine box_ev (N := 3) (cs := #[.string a0_0, .slice A0_1 l0_1.length c0_1, .slice A0_2 l0_2.length c0_2]) (t := 25) ?_; intro gb536 hg w7 hbox hb; have BK536 := am hbox; have GW536 := gwl hg; have GE536 := GW536; replace HB := bsl hb; clear hb hbox hg; have z8 := cf3 BK536.1) | ((with_reducible refine gate_callee (f := 34) rfl ?_); refine gC 8 Try.func34 _ (r09_Valid.calls k a0_0 _ _ l0_1 _ _ l0_2 true _ (csb HR0_1 HB) HC0_1.1 (csb HR0_2 HB) HC0_2.1 A4.1) ?_; rintro e w9 ⟨rfl, hb⟩; refine ⟨_, rfl, ?_⟩; replace BK536 := bbh BK536 hb; replace HB := bst hb; (try clear hb)))
  go_ret
  exact ⟨per, pbg⟩
 rw [if_neg c6] at H
 have c6b0 : decide (a1 < 0) = false := decide_eq_false c6
 clear c6
 by_cases c10 : a1 ≥ (l0_2.length : Int)
 ·rw [if_pos c10] at H
  have c10b0 : decide ((l0_2.length : Int) ≤ a1) = true := decide_eq_true c10
  clear c10
  obtain rfl := Option.some.inj H
  go_enter Try.func59, Try.ntmps59
  go_wp2_with (first | ((with_reducible refine gate_dst (N := 3) rfl ?_); (try (refine gate_guard (by rfl) ?_; dsimp only)); refine box_ev (N := 3) (cs := #[.string a0_0, .slice A0_1 l0_1.length c0_1, .slice A0_2 l0_2.length c0_2]) (t := 25) ?_; intro gb536 hg w11 hbox hb; have BK536 := am hbox; have GW536 := gwl hg; have GE536 := GW536; replace HB := bsl hb; clear hb hbox hg; have z12 := cf3 BK536.1) | ((with_reducible refine gate_callee (f := 34) rfl ?_); refine gC 8 Try.func34 _ (r09_Valid.calls k a0_0 _ _ l0_1 _ _ l0_2 true _ (csb HR0_1 HB) HC0_1.1 (csb HR0_2 HB) HC0_2.1 A4.1) ?_; rintro e w13 ⟨rfl, hb⟩; refine ⟨_, rfl, ?_⟩; replace BK536 := bbh BK536 hb; replace HB := bst hb; (try clear hb); have z14 := cf3 BK536.1))
  go_ret
  exact ⟨per, pbg⟩
 rw [if_neg c10] at H
 have c10b0 : decide ((l0_2.length : Int) ≤ a1) = false := decide_eq_false c10
 clear c10
 replace H := ifp H
 obtain ⟨c15, H⟩ := H
 have c15b0 := decide_eq_true c15
 clear c15
 replace H := ifp H
 obtain ⟨c16, H⟩ := H
 have c16b0 := decide_eq_true c16
 clear c16
 replace H := bnd H
 obtain ⟨t539, A17, H⟩ := H
 (try dsimp only at H)
 obtain rfl := Option.some.inj H
 go_enter Try.func59, Try.ntmps59
 go_wp2_with (first | ((with_reducible refine gate_dst (N := 3) rfl ?_); (try (refine gate_guard (by rfl) ?_; dsimp only)); refine box_ev (N := 3) (cs := #[.string a0_0, .slice A0_1 l0_1.length c0_1, .slice A0_2 l0_2.length c0_2]) (t := 25) ?_; intro gb536 hg w18 hbox hb; have BK536 := am hbox; have GW536 := gwl hg; have GE536 := GW536; replace HB := bsl hb; clear hb hbox hg; have z19 := cf3 BK536.1) | ((with_reducible refine gate_callee (f := 34) rfl ?_); refine gC 8 Try.func34 _ (r09_Valid.calls k a0_0 _ _ l0_1 _ _ l0_2 true _ (csb HR0_1 HB) HC0_1.1 (csb HR0_2 HB) HC0_2.1 A4.1) ?_; rintro e w20 ⟨rfl, hb⟩; refine ⟨_, rfl, ?_⟩; replace BK536 := bbh BK536 hb; replace HB := bst hb; (try clear hb); have z21 := cf3 BK536.1; have p538 : 0 ≤ (a1 : Int) := dq; have q538 : a1 < (l0_2.length : Int) := dq; obtain ⟨ad538, A538_1, c538_1, A538_2, c538_2, A538_3, c538_3, e538, hx538_0, hx538_1, hx538_2, hx538_3, hx538_4, hl538_1, hi538_1, hl538_2, hi538_2, hl538_3, hi538_3⟩ := at_T41 HR0_2.1 a1 p538 q538; cases e538; replace hx538_0 := cbl HB.1 hx538_0; replace hx538_1 := cbl HB.1 hx538_1; replace hx538_2 := cbl HB.1 hx538_2; replace hx538_3 := cbl HB.1 hx538_3; replace hx538_4 := cbl HB.1 hx538_4; have HR538_1 := am hi538_1; have HC538_1 := am hl538_1; clear hi538_1 hl538_1; have HR538_2 := am hi538_2; have HC538_2 := am hl538_2; clear hi538_2 hl538_2; have HR538_3 := am hi538_3; have HC538_3 := am hl538_3; clear hi538_3 hl538_3; replace p538 := eq_true p538; replace q538 := eq_true q538) | ((with_reducible refine gate_callee (f := 38) rfl ?_); refine gC 28 Try.func38 _ (r09_Weight.calls k _ _ ((rd_T41 l0_2 a1).f1) a2 t539 _ (csb HR538_1 HB) HC538_1.1 A17.1) ?_; rintro e w' ⟨rfl, ⟨nd, rfl⟩⟩; refine ⟨_, rfl, ?_⟩))
 go_ret
 exact ⟨per, pbg⟩

/-! ### r09_Post: function 60 -/
def r09_Post.f (k : Nat) (a0_0 : ByteArray) (l0_1 : List (S46)) (l0_2 : List (S41)) (a1 : Int) (a2 : Int) : Option (Int) := (r09_Valid.f k a0_0 l0_1 l0_2).bind fun t541 => (if t541 = true then (if a1 < 0 then (some 0) else (if a1 ≥ (l0_2.length : Int) then (some 0) else (if 0 ≤ a1 then (if a1 < (l0_2.length : Int) then ((r09_Weight.f k ((rd_T41 l0_2 a1).f2) a2).bind fun t543 => (some t543)) else (none)) else (none)))) else (some 0))
theorem r09_Post.mono : ∀ a0 a1 a2 a3 a4 k, LeO (r09_Post.f k a0 a1 a2 a3 a4) (r09_Post.f (k + 1) a0 a1 a2 a3 a4) := by
 intro a0 a1 a2 a3 a4 k
 unfold r09_Post.f
 repeat' first | (with_reducible first | apply r09_Valid.mono | apply r09_Weight.mono | apply lr | apply ln | apply li | refine lb ?_ fun _ => ?_)
set_option maxHeartbeats 8000000 in
set_option maxRecDepth 100000 in
theorem r09_Post.calls (k : Nat) (a0_0 : ByteArray) (A0_1 : Option Addr) (c0_1 : Nat) (l0_1 : List (S46)) (A0_2 : Option Addr) (c0_2 : Nat) (l0_2 : List (S41)) (a1 : Int) (a2 : Int) (r : Int) (w : World) (hr0_1 : Kd.C k46 w A0_1 l0_1.length l0_1) (hc0_1 : l0_1.length ≤ c0_1) (hr0_2 : Kd.C k41 w A0_2 l0_2.length l0_2) (hc0_2 : l0_2.length ≤ c0_2) (h : r09_Post.f k a0_0 l0_1 l0_2 a1 a2 = some r) :
  Calls Try.prog 60 #[.agg #[.string a0_0, .slice A0_1 l0_1.length c0_1, .slice A0_2 l0_2.length c0_2], .int .i64 a1, .int .i64 a2] w fun e w' => e = .returned (.int .i64 r) ∧ Below w.heap.size w w' := by
 have hu25 := Try.underlying25
 have HR0_1 := am hr0_1
 have HC0_1 := am hc0_1
 clear hr0_1 hc0_1
 have HR0_2 := am hr0_2
 have HC0_2 := am hc0_2
 clear hr0_2 hc0_2
 have HB := am (Below.refl w.heap.size w)
 have H : ((r09_Valid.f k a0_0 l0_1 l0_2).bind fun t541 => (if t541 = true then (if a1 < 0 then (some 0) else (if a1 ≥ (l0_2.length : Int) then (some 0) else (if 0 ≤ a1 then (if a1 < (l0_2.length : Int) then ((r09_Weight.f k ((rd_T41 l0_2 a1).f2) a2).bind fun t543 => (some t543)) else (none)) else (none)))) else (some 0))) = some r := h
 clear h
 replace H := bnd H
 obtain ⟨t541, A4, H⟩ := H
 (try dsimp only at H)
 by_cases c5 : t541 = true
 rotate_left
 ·replace c5 := Bool.eq_false_iff.mpr c5
  subst c5
  rw [if_neg Bool.false_ne_true] at H
  obtain rfl := Option.some.inj H
  go_enter Try.func60, Try.ntmps60
  go_wp2_with (first | ((with_reducible refine gate_dst (N := 3) rfl ?_); (try (refine gate_guard (by rfl) ?_; dsimp only)); refine box_ev (N := 3) (cs := #[.string a0_0, .slice A0_1 l0_1.length c0_1, .slice A0_2 l0_2.length c0_2]) (t := 25) ?_; intro gb540 hg w22 hbox hb; have BK540 := am hbox; have GW540 := gwl hg; have GE540 := GW540; replace HB := bsl hb; clear hb hbox hg; have z23 := cf3 BK540.1) | ((with_reducible refine gate_callee (f := 34) rfl ?_); refine gC 8 Try.func34 _ (r09_Valid.calls k a0_0 _ _ l0_1 _ _ l0_2 false _ (csb HR0_1 HB) HC0_1.1 (csb HR0_2 HB) HC0_2.1 A4.1) ?_; rintro e w24 ⟨rfl, hb⟩; refine ⟨_, rfl, ?_⟩; replace BK540 := bbh BK540 hb; replace HB := bst hb; (try clear hb)))
  go_ret
  exact ⟨per, pbg⟩
 subst c5
 rw [if_pos rfl] at H
 by_cases c6 : a1 < 0
 ·rw [if_pos c6] at H
  have c6b0 : decide (a1 < 0) = true := decide_eq_true c6
  clear c6
  obtain rfl := Option.some.inj H
  go_enter Try.func60, Try.ntmps60
  go_wp2_with (first | ((with_reducible refine gate_dst (N := 3) rfl ?_); (try (refine gate_guard (by rfl) ?_; dsimp only)); refine box_ev (N := 3) (cs := #[.string a0_0, .slice A0_1 l0_1.length c0_1, .slice A0_2 l0_2.length c0_2]) (t := 25) ?_; intro gb540 hg w7 hbox hb; have BK540 := am hbox; have GW540 := gwl hg; have GE540 := GW540; replace HB := bsl hb; clear hb hbox hg; have z8 := cf3 BK540.1) | ((with_reducible refine gate_callee (f := 34) rfl ?_); refine gC 8 Try.func34 _ (r09_Valid.calls k a0_0 _ _ l0_1 _ _ l0_2 true _ (csb HR0_1 HB) HC0_1.1 (csb HR0_2 HB) HC0_2.1 A4.1) ?_; rintro e w9 ⟨rfl, hb⟩; refine ⟨_, rfl, ?_⟩; replace BK540 := bbh BK540 hb; replace HB := bst hb; (try clear hb)))
  go_ret
  exact ⟨per, pbg⟩
 rw [if_neg c6] at H
 have c6b0 : decide (a1 < 0) = false := decide_eq_false c6
 clear c6
 by_cases c10 : a1 ≥ (l0_2.length : Int)
 ·rw [if_pos c10] at H
  have c10b0 : decide ((l0_2.length : Int) ≤ a1) = true := decide_eq_true c10
  clear c10
  obtain rfl := Option.some.inj H
  go_enter Try.func60, Try.ntmps60
  go_wp2_with (first | ((with_reducible refine gate_dst (N := 3) rfl ?_); (try (refine gate_guard (by rfl) ?_; dsimp only)); refine box_ev (N := 3) (cs := #[.string a0_0, .slice A0_1 l0_1.length c0_1, .slice A0_2 l0_2.length c0_2]) (t := 25) ?_; intro gb540 hg w11 hbox hb; have BK540 := am hbox; have GW540 := gwl hg; have GE540 := GW540; replace HB := bsl hb; clear hb hbox hg; have z12 := cf3 BK540.1) | ((with_reducible refine gate_callee (f := 34) rfl ?_); refine gC 8 Try.func34 _ (r09_Valid.calls k a0_0 _ _ l0_1 _ _ l0_2 true _ (csb HR0_1 HB) HC0_1.1 (csb HR0_2 HB) HC0_2.1 A4.1) ?_; rintro e w13 ⟨rfl, hb⟩; refine ⟨_, rfl, ?_⟩; replace BK540 := bbh BK540 hb; replace HB := bst hb; (try clear hb); have z14 := cf3 BK540.1))
  go_ret
  exact ⟨per, pbg⟩
 rw [if_neg c10] at H
 have c10b0 : decide ((l0_2.length : Int) ≤ a1) = false := decide_eq_false c10
 clear c10
 replace H := ifp H
 obtain ⟨c15, H⟩ := H
 have c15b0 := decide_eq_true c15
 clear c15
 replace H := ifp H
 obtain ⟨c16, H⟩ := H
 have c16b0 := decide_eq_true c16
 clear c16
 replace H := bnd H
 obtain ⟨t543, A17, H⟩ := H
 (try dsimp only at H)
 obtain rfl := Option.some.inj H
 go_enter Try.func60, Try.ntmps60
 go_wp2_with (first | ((with_reducible refine gate_dst (N := 3) rfl ?_); (try (refine gate_guard (by rfl) ?_; dsimp only)); refine box_ev (N := 3) (cs := #[.string a0_0, .slice A0_1 l0_1.length c0_1, .slice A0_2 l0_2.length c0_2]) (t := 25) ?_; intro gb540 hg w18 hbox hb; have BK540 := am hbox; have GW540 := gwl hg; have GE540 := GW540; replace HB := bsl hb; clear hb hbox hg; have z19 := cf3 BK540.1) | ((with_reducible refine gate_callee (f := 34) rfl ?_); refine gC 8 Try.func34 _ (r09_Valid.calls k a0_0 _ _ l0_1 _ _ l0_2 true _ (csb HR0_1 HB) HC0_1.1 (csb HR0_2 HB) HC0_2.1 A4.1) ?_; rintro e w20 ⟨rfl, hb⟩; refine ⟨_, rfl, ?_⟩; replace BK540 := bbh BK540 hb; replace HB := bst hb; (try clear hb); have z21 := cf3 BK540.1; have p542 : 0 ≤ (a1 : Int) := dq; have q542 : a1 < (l0_2.length : Int) := dq; obtain ⟨ad542, A542_1, c542_1, A542_2, c542_2, A542_3, c542_3, e542, hx542_0, hx542_1, hx542_2, hx542_3, hx542_4, hl542_1, hi542_1, hl542_2, hi542_2, hl542_3, hi542_3⟩ := at_T41 HR0_2.1 a1 p542 q542; cases e542; replace hx542_0 := cbl HB.1 hx542_0; replace hx542_1 := cbl HB.1 hx542_1; replace hx542_2 := cbl HB.1 hx542_2; replace hx542_3 := cbl HB.1 hx542_3; replace hx542_4 := cbl HB.1 hx542_4; have HR542_1 := am hi542_1; have HC542_1 := am hl542_1; clear hi542_1 hl542_1; have HR542_2 := am hi542_2; have HC542_2 := am hl542_2; clear hi542_2 hl542_2; have HR542_3 := am hi542_3; have HC542_3 := am hl542_3; clear hi542_3 hl542_3; replace p542 := eq_true p542; replace q542 := eq_true q542) | ((with_reducible refine gate_callee (f := 38) rfl ?_); refine gC 28 Try.func38 _ (r09_Weight.calls k _ _ ((rd_T41 l0_2 a1).f2) a2 t543 _ (csb HR542_2 HB) HC542_2.1 A17.1) ?_; rintro e w' ⟨rfl, ⟨nd, rfl⟩⟩; refine ⟨_, rfl, ?_⟩))
 go_ret
 exact ⟨per, pbg⟩

/-! ### r13_Pure: function 27 -/
mutual
def r13_Pure.l0 : Nat → Int → ByteArray → List (S46) → List (S41) → Option (Bool)
 | 0, _, _, _, _ => none
 | k + 1, x3, x545000, x545001, x545002 => if x3 < (x545002.length : Int) then (r13_Pure.l1 k x3 0 x545000 x545001 x545002) else (some true)
def r13_Pure.l1 : Nat → Int → Int → ByteArray → List (S46) → List (S41) → Option (Bool)
 | 0, _, _, _, _, _ => none
 | k + 1, x3, x4, x545000, x545001, x545002 => if x4 < (x545001.length : Int) then ((r09_Pre.f k x545000 x545001 x545002 x3 x4).bind fun t546 => (if t546 > 0 then ((r09_Post.f k x545000 x545001 x545002 x3 x4).bind fun t547 => (if t547 > 0 then (some false) else (r13_Pure.l1 k x3 (wrap64 (x4 + 1)) x545000 x545001 x545002))) else (r13_Pure.l1 k x3 (wrap64 (x4 + 1)) x545000 x545001 x545002))) else (r13_Pure.l0 k (wrap64 (x3 + 1)) x545000 x545001 x545002)
end
def r13_Pure.f (k : Nat) (a0_0 : ByteArray) (l0_1 : List (S46)) (l0_2 : List (S41)) : Option (Bool) := (r09_Valid.f k a0_0 l0_1 l0_2).bind fun t545 => (if t545 = true then (r13_Pure.l0 k 0 a0_0 l0_1 l0_2) else (some false))
theorem r13_Pure.mono_l : ∀ k, M4 r13_Pure.l0 k ∧ M5 r13_Pure.l1 k
 | 0 => ⟨fun _ _ _ _ r h => by simp [r13_Pure.l0] at h, fun _ _ _ _ _ r h => by simp [r13_Pure.l1] at h⟩
 | k + 1 => by
  obtain ⟨ih0, ih1⟩ := r13_Pure.mono_l k
  refine ⟨?_, ?_⟩ <;> dsimp only [M4, M5] <;> intros <;> (first | unfold r13_Pure.l0 | unfold r13_Pure.l1) <;> repeat' first | (with_reducible first | apply ih0 | apply ih1 | apply r09_Post.mono | apply r09_Pre.mono | apply r09_Valid.mono | apply lr | apply ln | apply li | refine lb ?_ fun _ => ?_)
theorem r13_Pure.mono : ∀ a0 a1 a2 k, LeO (r13_Pure.f k a0 a1 a2) (r13_Pure.f (k + 1) a0 a1 a2) := by
 intro a0 a1 a2 k
 obtain ⟨ih0, ih1⟩ := r13_Pure.mono_l k
 unfold r13_Pure.f
 repeat' first | (with_reducible first | apply ih0 | apply ih1 | apply r09_Post.mono | apply r09_Pre.mono | apply r09_Valid.mono | apply lr | apply ln | apply li | refine lb ?_ fun _ => ?_)
set_option maxHeartbeats 8000000 in
set_option maxRecDepth 100000 in
theorem r13_Pure.calls (k : Nat) (a0_0 : ByteArray) (A0_1 : Option Addr) (c0_1 : Nat) (l0_1 : List (S46)) (A0_2 : Option Addr) (c0_2 : Nat) (l0_2 : List (S41)) (r : Bool) (w : World) (hr0_1 : Kd.C k46 w A0_1 l0_1.length l0_1) (hc0_1 : l0_1.length ≤ c0_1) (hr0_2 : Kd.C k41 w A0_2 l0_2.length l0_2) (hc0_2 : l0_2.length ≤ c0_2) (h : r13_Pure.f k a0_0 l0_1 l0_2 = some r) :
  Calls Try.prog 27 #[.agg #[.string a0_0, .slice A0_1 l0_1.length c0_1, .slice A0_2 l0_2.length c0_2]] w fun e w' => e = .returned (.bool r) ∧ Below w.heap.size w w' := by
 have hu25 := Try.underlying25
 have HR0_1 := am hr0_1
 have HC0_1 := am hc0_1
 clear hr0_1 hc0_1
 have HR0_2 := am hr0_2
 have HC0_2 := am hc0_2
 clear hr0_2 hc0_2
 have HB := am (Below.refl w.heap.size w)
 have H : ((r09_Valid.f k a0_0 l0_1 l0_2).bind fun t545 => (if t545 = true then (r13_Pure.l0 k 0 a0_0 l0_1 l0_2) else (some false))) = some r := h
 clear h
 replace H := bnd H
 obtain ⟨t545, A2, H⟩ := H
 (try dsimp only at H)
 by_cases c3 : t545 = true
 rotate_left
 ·replace c3 := Bool.eq_false_iff.mpr c3
  subst c3
  rw [if_neg Bool.false_ne_true] at H
  obtain rfl := Option.some.inj H
  go_enter Try.func27, Try.ntmps27
  go_wp2_with (first | ((with_reducible refine gate_dst (N := 1) rfl ?_); refine box_ev (N := 1) (cs := #[.string a0_0, .slice A0_1 l0_1.length c0_1, .slice A0_2 l0_2.length c0_2]) (t := 25) ?_; intro gb544 hg w26 hbox hb; have BK544 := am hbox; have GW544 := gwl hg; have GE544 := GW544; replace HB := bsl hb; clear hb hbox hg; have z27 := cf3 BK544.1) | ((with_reducible refine gate_callee (f := 34) rfl ?_); refine gC 6 Try.func34 _ (r09_Valid.calls k a0_0 _ _ l0_1 _ _ l0_2 false _ (csb HR0_1 HB) HC0_1.1 (csb HR0_2 HB) HC0_2.1 A2.1) ?_; rintro e w28 ⟨rfl, hb⟩; refine ⟨_, rfl, ?_⟩; replace BK544 := bbh BK544 hb; replace HB := bst hb; (try clear hb)))
  go_ret
  exact ⟨per, pbg⟩
 subst c3
 rw [if_pos rfl] at H
 have H' := am H
 clear H
 go_enter Try.func27, Try.ntmps27
 go_wp2_with (first | ((with_reducible refine gate_dst (N := 1) rfl ?_); refine box_ev (N := 1) (cs := #[.string a0_0, .slice A0_1 l0_1.length c0_1, .slice A0_2 l0_2.length c0_2]) (t := 25) ?_; intro gb544 hg w4 hbox hb; have BK544 := am hbox; have GW544 := gwl hg; have GE544 := GW544; replace HB := bsl hb; clear hb hbox hg; have z5 := cf3 BK544.1) | ((with_reducible refine gate_callee (f := 34) rfl ?_); refine gC 6 Try.func34 _ (r09_Valid.calls k a0_0 _ _ l0_1 _ _ l0_2 true _ (csb HR0_1 HB) HC0_1.1 (csb HR0_2 HB) HC0_2.1 A2.1) ?_; rintro e w6 ⟨rfl, hb⟩; refine ⟨_, rfl, ?_⟩; replace BK544 := bbh BK544 hb; replace HB := bst hb; (try clear hb)))
 go_loopg [3] k (fun kq v3 w' => ∃ (x3_1 : Int), v3 = .int .i64 x3_1 ∧ Aside0 (r13_Pure.l0 kq x3_1 a0_0 l0_1 l0_2 = some r) ∧ Aside0 (kq ≤ k) ∧ Aside0 (w'.heap[gb544]? = some (.cells #[.string a0_0, (.slice A0_1 l0_1.length c0_1), (.slice A0_2 l0_2.length c0_2)] 25 (0, 0))) ∧ Aside0 (Below w.heap.size w w'))
 case atStart => exact ⟨(0), prs, H', ⟨Nat.le_refl _⟩, ⟨pbk BK544.1⟩, ⟨pbg⟩⟩
 clear H'
 try clear c3 z5
 obtain ⟨x3_1, rfl, HA, HK1, BK544, HB⟩ := hrel
 obtain _ | k1 := gk
 ·exact absurd HA.1 (by simp [r13_Pure.l0])
 have H := HA.1
 clear HA
 simp only [r13_Pure.l0] at H
 by_cases c7 : x3_1 < (l0_2.length : Int)
 rotate_left
 ·rw [if_neg c7] at H
  have c7b0 : decide (x3_1 < (l0_2.length : Int)) = false := decide_eq_false c7
  clear c7
  obtain rfl := Option.some.inj H
  have z25 := cf3 BK544.1
  go_wp2
  go_ret
  exact ⟨per, pbg⟩
 rw [if_pos c7] at H
 have c7b0 : decide (x3_1 < (l0_2.length : Int)) = true := decide_eq_true c7
 clear c7
 have H' := am H
 clear H
 have z8 := cf3 BK544.1
 go_wp2
 go_loopg [4] k1 (fun kq v4 w' => ∃ (x4_2 : Int), v4 = .int .i64 x4_2 ∧ Aside0 (r13_Pure.l1 kq x3_1 x4_2 a0_0 l0_1 l0_2 = some r) ∧ Aside0 (kq ≤ k1) ∧ Aside0 (w'.heap[gb544]? = some (.cells #[.string a0_0, (.slice A0_1 l0_1.length c0_1), (.slice A0_2 l0_2.length c0_2)] 25 (0, 0))) ∧ Aside0 (Below w.heap.size w w'))
 case atStart => exact ⟨(0), prs, H', ⟨Nat.le_refl _⟩, ⟨pbk BK544.1⟩, ⟨pbg⟩⟩
 clear H'
 try clear c3 c7 c7b0 z5 z8
 obtain ⟨x4_2, rfl, HA, HK2, BK544, HB⟩ := hrel
 obtain _ | k2 := gk
 ·exact absurd HA.1 (by simp [r13_Pure.l1])
 have H := HA.1
 clear HA
 simp only [r13_Pure.l1] at H
 by_cases c9 : x4_2 < (l0_1.length : Int)
 rotate_left
 ·rw [if_neg c9] at H
  have c9b0 : decide (x4_2 < (l0_1.length : Int)) = false := decide_eq_false c9
  clear c9
  have H' := am H
  clear H
  have z24 := cf3 BK544.1
  go_wp2
  go_roundg k2
  case measure => have := HK1.1; have := HK2.1; omega
  case rel => exact ⟨(wrap64 (x3_1 + 1)), prs, H', ⟨by have := HK1.1; have := HK2.1; omega⟩, ⟨pbk BK544.1⟩, ⟨pbg⟩⟩
 rw [if_pos c9] at H
 have c9b0 : decide (x4_2 < (l0_1.length : Int)) = true := decide_eq_true c9
 clear c9
 replace H := bnd H
 obtain ⟨t546, A10, H⟩ := H
 (try dsimp only at H)
 by_cases c11 : t546 > 0
 rotate_left
 ·rw [if_neg c11] at H
  have c11b0 : decide (0 < t546) = false := decide_eq_false c11
  clear c11
  have H' := am H
  clear H
  have z22 := cf3 BK544.1
  go_wp2_with (first | ((with_reducible refine gate_callee (f := 59) rfl ?_); refine gC 25 Try.func59 _ (r09_Pre.calls k2 a0_0 _ _ l0_1 _ _ l0_2 x3_1 x4_2 t546 _ (csb HR0_1 HB) HC0_1.1 (csb HR0_2 HB) HC0_2.1 A10.1) ?_; rintro e w23 ⟨rfl, hb⟩; refine ⟨_, rfl, ?_⟩; replace BK544 := bbh BK544 hb; replace HB := bst hb; (try clear hb)))
  go_roundg k2
  case measure => have := HK1.1; have := HK2.1; omega
  case rel => exact ⟨(wrap64 (x4_2 + 1)), prs, H', ⟨by have := HK1.1; have := HK2.1; omega⟩, ⟨pbk BK544.1⟩, ⟨pbg⟩⟩
 rw [if_pos c11] at H
 have c11b0 : decide (0 < t546) = true := decide_eq_true c11
 clear c11
 replace H := bnd H
 obtain ⟨t547, A12, H⟩ := H
 (try dsimp only at H)
 by_cases c13 : t547 > 0
 ·rw [if_pos c13] at H
  have c13b0 : decide (0 < t547) = true := decide_eq_true c13
  clear c13
  obtain rfl := Option.some.inj H
  have z14 := cf3 BK544.1
  go_wp2_with (first | ((with_reducible refine gate_callee (f := 59) rfl ?_); refine gC 25 Try.func59 _ (r09_Pre.calls k2 a0_0 _ _ l0_1 _ _ l0_2 x3_1 x4_2 t546 _ (csb HR0_1 HB) HC0_1.1 (csb HR0_2 HB) HC0_2.1 A10.1) ?_; rintro e w15 ⟨rfl, hb⟩; refine ⟨_, rfl, ?_⟩; replace BK544 := bbh BK544 hb; replace HB := bst hb; (try clear hb); have z16 := cf3 BK544.1) | (go_at_call 60; (with_reducible refine (r09_Post.calls k2 a0_0 _ _ l0_1 _ _ l0_2 x3_1 x4_2 t547 _ ?side1 ?side2 ?side3 ?side4 A12.1).mono ?_); (case side1 => exact csb HR0_1 HB); (case side2 => exact HC0_1.1); (case side3 => exact csb HR0_2 HB); (case side4 => exact HC0_2.1); rintro e w17 ⟨rfl, hb⟩; replace BK544 := bbh BK544 hb; replace HB := bst hb; (try clear hb)))
  go_ret
  exact ⟨per, pbg⟩
 rw [if_neg c13] at H
 have c13b0 : decide (0 < t547) = false := decide_eq_false c13
 clear c13
 have H' := am H
 clear H
 have z18 := cf3 BK544.1
 go_wp2_with (first | ((with_reducible refine gate_callee (f := 59) rfl ?_); refine gC 25 Try.func59 _ (r09_Pre.calls k2 a0_0 _ _ l0_1 _ _ l0_2 x3_1 x4_2 t546 _ (csb HR0_1 HB) HC0_1.1 (csb HR0_2 HB) HC0_2.1 A10.1) ?_; rintro e w19 ⟨rfl, hb⟩; refine ⟨_, rfl, ?_⟩; replace BK544 := bbh BK544 hb; replace HB := bst hb; (try clear hb); have z20 := cf3 BK544.1) | (go_at_call 60; (with_reducible refine (r09_Post.calls k2 a0_0 _ _ l0_1 _ _ l0_2 x3_1 x4_2 t547 _ ?side1 ?side2 ?side3 ?side4 A12.1).mono ?_); (case side1 => exact csb HR0_1 HB); (case side2 => exact HC0_1.1); (case side3 => exact csb HR0_2 HB); (case side4 => exact HC0_2.1); rintro e w21 ⟨rfl, hb⟩; replace BK544 := bbh BK544 hb; replace HB := bst hb; (try clear hb)))
 go_roundg k2
 case measure => have := HK1.1; have := HK2.1; omega
 case rel => exact ⟨(wrap64 (x4_2 + 1)), prs, H', ⟨by have := HK1.1; have := HK2.1; omega⟩, ⟨pbk BK544.1⟩, ⟨pbg⟩⟩

end Go.Proofs.Ytplljicodflagaa.P
