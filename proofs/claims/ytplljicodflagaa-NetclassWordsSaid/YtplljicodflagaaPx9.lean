-- LAID BY OUR PROGRAM OVER THE PRINT (xprint.py, part.py): Lean checks it.
import Derived.Test.YtplljicodflagaaPx0
import Derived.Test.YtplljicodflagaaPx8
namespace Go.Proofs.Ytplljicodflagaa.P
open Go.RowKit Go.Proofs.YtplljicodflagaaW.PrintWords Go.Proofs.YtplljicodflagaaW.PrintLast Go.Proofs.YtplljicodflagaaW.PrintMore
attribute [local go_sem] max2_int min2_int max_two min_two max_three min_three max_four min_four   -- for this text's walks alone
set_option linter.unusedVariables false
set_option linter.unusedSimpArgs false

/-! ### r13_one: function 41 -/
def r13_one.l0 : Nat → List Int → Int → Option (Bool)
 | 0, _, _ => none
 | k + 1, x3, x4 => if x4 < (x3.length : Int) then (if 0 ≤ x4 then (if (rd x3 x4) = 0 then (r13_one.l0 k x3 (wrap64 (x4 + 1))) else (some false)) else (none)) else (some (decide ((x3.length : Int) > 0)))
def r13_one.f (k : Nat) (l0 : List (List Int)) : Option (Bool) := (r07_Components.f k l0).bind fun t403 => (r13_one.l0 k t403 0)
theorem r13_one.mono_l : ∀ k, M2 r13_one.l0 k
 | 0 => fun _ _ r h => by simp [r13_one.l0] at h
 | k + 1 => by
  have ih0 := r13_one.mono_l k
  ·intro y0 y1
   unfold r13_one.l0
   repeat' first | (with_reducible first | apply ih0 | apply r07_Components.mono | apply lr | apply ln | apply li | refine lb ?_ fun _ => ?_)
theorem r13_one.mono : ∀ a0 k, LeO (r13_one.f k a0) (r13_one.f (k + 1) a0) := by
 intro a0 k
 have ih0 := r13_one.mono_l k
 unfold r13_one.f
 repeat' first | (with_reducible first | apply ih0 | apply r07_Components.mono | apply lr | apply ln | apply li | refine lb ?_ fun _ => ?_)
set_option maxHeartbeats 8000000 in
set_option maxRecDepth 100000 in
theorem r13_one.calls (k : Nat) (A0 : Option Addr) (c0 : Nat) (l0 : List (List Int)) (r : Bool) (w : World) (hr0 : Kd.C (Kd.slice 3 (Kd.int .i64)) w A0 l0.length l0) (hc0 : l0.length ≤ c0) (h : r13_one.f k l0 = some r) :
  Calls Try.prog 41 #[.slice A0 l0.length c0] w fun e w' => e = .returned (.bool r) ∧ Below w.heap.size w w' := by
 have HR0 := am hr0
 have HC0 := am hc0
 clear hr0 hc0
 have HB := am (Below.refl w.heap.size w)
 have H : ((r07_Components.f k l0).bind fun t403 => (r13_one.l0 k t403 0)) = some r := h
 clear h
 replace H := bnd H
 obtain ⟨t403, A2, H⟩ := H
 (try dsimp only at H)
 have H' := am H
 clear H
 go_enter Try.func41, Try.ntmps41
 go_wp2_with (first | ((with_reducible refine gate_callee (f := 66) rfl ?_); refine gC 6 Try.func66 _ (r07_Components.calls k _ _ l0 t403 _ (csd HR0.1) HC0.1 A2.1) ?_; rintro e w3 ⟨v404, rfl, ho0, hb⟩; refine ⟨_, rfl, ?_⟩; have HO405 := am (Kd.R_lower ho0 (below_size pbl)); replace HB := bsl hb; (try clear hb); (try clear ho0)))
 go_loopg [4] k (fun kq v4 w' => ∃ (x4_1 : Int), v4 = .int .i64 x4_1 ∧ Aside0 (r13_one.l0 kq t403 x4_1 = some r) ∧ Aside0 (kq ≤ k) ∧ Aside0 (Kd.R (Kd.int .i64) 3 w' w.heap.size (fun _ => True) v404 t403) ∧ Aside0 (Below w.heap.size w w'))
 case atStart => exact ⟨(0), prs, H', ⟨Nat.le_refl _⟩, ⟨pkr HO405.1⟩, ⟨pbg⟩⟩
 clear H'
 obtain ⟨x4_1, rfl, HA, HK1, HO_3, HB⟩ := hrel
 obtain _ | k1 := gk
 ·exact absurd HA.1 (by simp [r13_one.l0])
 have H := HA.1
 clear HA
 simp only [r13_one.l0] at H
 by_cases c4 : x4_1 < (t403.length : Int)
 rotate_left
 ·rw [if_neg c4] at H
  have c4b0 : decide (x4_1 < (t403.length : Int)) = false := decide_eq_false c4
  clear c4
  obtain rfl := Option.some.inj H
  obtain ⟨Ao9, co9, eo9⟩ := Kd.R_slice HO_3.1
  subst eo9
  go_wp2
  go_ret
  exact ⟨per, pbg⟩
 rw [if_pos c4] at H
 have c4b0 : decide (x4_1 < (t403.length : Int)) = true := decide_eq_true c4
 clear c4
 replace H := ifp H
 obtain ⟨c5, H⟩ := H
 have c5b0 := decide_eq_true c5
 clear c5
 by_cases c6 : (rd t403 x4_1) = 0
 rotate_left
 ·rw [if_neg c6] at H
  have c6b0 : ((rd t403 x4_1) == 0) = false := beq_eq_false_iff_ne.mpr c6
  have c6b1 : ((rd t403 x4_1) != 0) = true := bne_iff_ne.mpr c6
  obtain rfl := Option.some.inj H
  obtain ⟨Ao8, co8, eo8⟩ := Kd.R_slice HO_3.1
  subst eo8
  obtain ⟨p406, q406, ad406, e406, hx406_0⟩ := dint (Kd.R_reads' HO_3.1).2.2 x4_1
  cases e406
  go_wp2
  go_ret
  exact ⟨per, pbg⟩
 rw [if_pos c6] at H
 have c6b0 : ((rd t403 x4_1) == 0) = true := beq_iff_eq.mpr c6
 have c6b1 : ((rd t403 x4_1) != 0) = false := bne_eq_false_iff_eq.mpr c6
 clear c6
 have H' := am H
 clear H
 obtain ⟨Ao7, co7, eo7⟩ := Kd.R_slice HO_3.1
 subst eo7
 obtain ⟨p406, q406, ad406, e406, hx406_0⟩ := dint (Kd.R_reads' HO_3.1).2.2 x4_1
 cases e406
 go_wp2
 go_roundg k1
 case measure => have := HK1.1; omega
 case rel => exact ⟨(wrap64 (x4_1 + 1)), prs, H', ⟨by have := HK1.1; omega⟩, ⟨pkr HO_3.1⟩, ⟨pbg⟩⟩

/-! ### r13_Connected: function 15 -/
def r13_Connected.f (k : Nat) (a0_0 : ByteArray) (l0_1 : List (S46)) (l0_2 : List (S41)) : Option (Bool) := (r13_Flow.f k a0_0 l0_1 l0_2).bind fun t437 => ((r13_both.f k t437).bind fun t440 => ((r13_one.f k t440).bind fun t443 => (some t443)))
theorem r13_Connected.mono : ∀ a0 a1 a2 k, LeO (r13_Connected.f k a0 a1 a2) (r13_Connected.f (k + 1) a0 a1 a2) := by
 intro a0 a1 a2 k
 unfold r13_Connected.f
 repeat' first | (with_reducible first | apply r13_Flow.mono | apply r13_both.mono | apply r13_one.mono | apply lr | apply ln | apply li | refine lb ?_ fun _ => ?_)
set_option maxHeartbeats 8000000 in
set_option maxRecDepth 100000 in
theorem r13_Connected.calls (k : Nat) (a0_0 : ByteArray) (A0_1 : Option Addr) (c0_1 : Nat) (l0_1 : List (S46)) (A0_2 : Option Addr) (c0_2 : Nat) (l0_2 : List (S41)) (r : Bool) (w : World) (hr0_1 : Kd.C k46 w A0_1 l0_1.length l0_1) (hc0_1 : l0_1.length ≤ c0_1) (hr0_2 : Kd.C k41 w A0_2 l0_2.length l0_2) (hc0_2 : l0_2.length ≤ c0_2) (h : r13_Connected.f k a0_0 l0_1 l0_2 = some r) :
  Calls Try.prog 15 #[.agg #[.string a0_0, .slice A0_1 l0_1.length c0_1, .slice A0_2 l0_2.length c0_2]] w fun e w' => e = .returned (.bool r) ∧ Below w.heap.size w w' := by
 have hu25 := Try.underlying25
 have HR0_1 := am hr0_1
 have HC0_1 := am hc0_1
 clear hr0_1 hc0_1
 have HR0_2 := am hr0_2
 have HC0_2 := am hc0_2
 clear hr0_2 hc0_2
 have HB := am (Below.refl w.heap.size w)
 have H : ((r13_Flow.f k a0_0 l0_1 l0_2).bind fun t437 => ((r13_both.f k t437).bind fun t440 => ((r13_one.f k t440).bind fun t443 => (some t443)))) = some r := h
 clear h
 replace H := bnd H
 obtain ⟨t437, A2, H⟩ := H
 (try dsimp only at H)
 replace H := bnd H
 obtain ⟨t440, A3, H⟩ := H
 (try dsimp only at H)
 replace H := bnd H
 obtain ⟨t443, A4, H⟩ := H
 (try dsimp only at H)
 obtain rfl := Option.some.inj H
 go_enter Try.func15, Try.ntmps15
 go_wp2_with (first | ((with_reducible refine gate_dst (N := 1) rfl ?_); refine box_ev (N := 1) (cs := #[.string a0_0, .slice A0_1 l0_1.length c0_1, .slice A0_2 l0_2.length c0_2]) (t := 25) ?_; intro gb436 hg w5 hbox hb; have BK436 := am hbox; have GW436 := gwl hg; have GE436 := GW436; replace HB := bsl hb; clear hb hbox hg; have z6 := cf3 BK436.1) | ((with_reducible refine gate_callee (f := 13) rfl ?_); refine gC 4 Try.func13 _ (r13_Flow.calls k a0_0 _ _ l0_1 _ _ l0_2 t437 _ (csb HR0_1 HB) HC0_1.1 (csb HR0_2 HB) HC0_2.1 A2.1) ?_; rintro e w7 ⟨v438, rfl, ho0, hb⟩; refine ⟨_, rfl, ?_⟩; have HO439 := am (Kd.S_lower ho0 (below_size pbg)); replace BK436 := bbh BK436 hb; replace HB := bst hb; (try clear hb); (try clear ho0); obtain ⟨Ao8, co8, eo8⟩ := Kd.S_slice HO439.1; subst eo8) | ((with_reducible refine gate_callee (f := 42) rfl ?_); refine gC 5 Try.func42 _ (r13_both.calls k _ _ t437 t440 _ (csd ((Kd.S_reads' HO439.1).2.2)) ((Kd.S_reads' HO439.1).2.1) A3.1) ?_; rintro e w9 ⟨v441, rfl, ho0, hb⟩; refine ⟨_, rfl, ?_⟩; have HO442 := am (Kd.S_lower (Kd.S_new' ho0 (Kd.S_lt (pks HO439.1))) (below_size pbg)); replace HO439 := am (Kd.S_elder' (pks HO439.1) (Kd.S_base ho0) hb); replace BK436 := bbh BK436 hb; replace HB := bst hb; (try clear hb); (try clear ho0); obtain ⟨Ao10, co10, eo10⟩ := Kd.S_slice HO442.1; subst eo10) | ((with_reducible refine gate_callee (f := 41) rfl ?_); refine gC 6 Try.func41 _ (r13_one.calls k _ _ t440 t443 _ (csd ((Kd.S_reads' HO442.1).2.2)) ((Kd.S_reads' HO442.1).2.1) A4.1) ?_; rintro e w11 ⟨rfl, hb⟩; refine ⟨_, rfl, ?_⟩; replace HO439 := sbw HO439 hb; replace HO442 := sbw HO442 hb; replace BK436 := bbh BK436 hb; replace HB := bst hb; (try clear hb)))
 go_ret
 exact ⟨per, pbg⟩

/-! ### r13_Strong: function 17 -/
def r13_Strong.f (k : Nat) (a0_0 : ByteArray) (l0_1 : List (S46)) (l0_2 : List (S41)) : Option (Bool) := (r13_Flow.f k a0_0 l0_1 l0_2).bind fun t445 => ((r13_one.f k t445).bind fun t448 => (some t448))
theorem r13_Strong.mono : ∀ a0 a1 a2 k, LeO (r13_Strong.f k a0 a1 a2) (r13_Strong.f (k + 1) a0 a1 a2) := by
 intro a0 a1 a2 k
 unfold r13_Strong.f
 repeat' first | (with_reducible first | apply r13_Flow.mono | apply r13_one.mono | apply lr | apply ln | apply li | refine lb ?_ fun _ => ?_)
set_option maxHeartbeats 8000000 in
set_option maxRecDepth 100000 in
theorem r13_Strong.calls (k : Nat) (a0_0 : ByteArray) (A0_1 : Option Addr) (c0_1 : Nat) (l0_1 : List (S46)) (A0_2 : Option Addr) (c0_2 : Nat) (l0_2 : List (S41)) (r : Bool) (w : World) (hr0_1 : Kd.C k46 w A0_1 l0_1.length l0_1) (hc0_1 : l0_1.length ≤ c0_1) (hr0_2 : Kd.C k41 w A0_2 l0_2.length l0_2) (hc0_2 : l0_2.length ≤ c0_2) (h : r13_Strong.f k a0_0 l0_1 l0_2 = some r) :
  Calls Try.prog 17 #[.agg #[.string a0_0, .slice A0_1 l0_1.length c0_1, .slice A0_2 l0_2.length c0_2]] w fun e w' => e = .returned (.bool r) ∧ Below w.heap.size w w' := by
 have hu25 := Try.underlying25
 have HR0_1 := am hr0_1
 have HC0_1 := am hc0_1
 clear hr0_1 hc0_1
 have HR0_2 := am hr0_2
 have HC0_2 := am hc0_2
 clear hr0_2 hc0_2
 have HB := am (Below.refl w.heap.size w)
 have H : ((r13_Flow.f k a0_0 l0_1 l0_2).bind fun t445 => ((r13_one.f k t445).bind fun t448 => (some t448))) = some r := h
 clear h
 replace H := bnd H
 obtain ⟨t445, A2, H⟩ := H
 (try dsimp only at H)
 replace H := bnd H
 obtain ⟨t448, A3, H⟩ := H
 (try dsimp only at H)
 obtain rfl := Option.some.inj H
 go_enter Try.func17, Try.ntmps17
 go_wp2_with (first | ((with_reducible refine gate_dst (N := 1) rfl ?_); refine box_ev (N := 1) (cs := #[.string a0_0, .slice A0_1 l0_1.length c0_1, .slice A0_2 l0_2.length c0_2]) (t := 25) ?_; intro gb444 hg w4 hbox hb; have BK444 := am hbox; have GW444 := gwl hg; have GE444 := GW444; replace HB := bsl hb; clear hb hbox hg; have z5 := cf3 BK444.1) | ((with_reducible refine gate_callee (f := 13) rfl ?_); refine gC 4 Try.func13 _ (r13_Flow.calls k a0_0 _ _ l0_1 _ _ l0_2 t445 _ (csb HR0_1 HB) HC0_1.1 (csb HR0_2 HB) HC0_2.1 A2.1) ?_; rintro e w6 ⟨v446, rfl, ho0, hb⟩; refine ⟨_, rfl, ?_⟩; have HO447 := am (Kd.S_lower ho0 (below_size pbg)); replace BK444 := bbh BK444 hb; replace HB := bst hb; (try clear hb); (try clear ho0); obtain ⟨Ao7, co7, eo7⟩ := Kd.S_slice HO447.1; subst eo7) | ((with_reducible refine gate_callee (f := 41) rfl ?_); refine gC 5 Try.func41 _ (r13_one.calls k _ _ t445 t448 _ (csd ((Kd.S_reads' HO447.1).2.2)) ((Kd.S_reads' HO447.1).2.1) A3.1) ?_; rintro e w8 ⟨rfl, hb⟩; refine ⟨_, rfl, ?_⟩; replace HO447 := sbw HO447 hb; replace BK444 := bbh BK444 hb; replace HB := bst hb; (try clear hb)))
 go_ret
 exact ⟨per, pbg⟩

end Go.Proofs.Ytplljicodflagaa.P
