-- LAID BY OUR PROGRAM OVER THE PRINT (xprint.py, part.py): Lean checks it.
import Derived.Test.YtplljicodflagaaPx0
import Derived.Test.YtplljicodflagaaPx5
import Derived.Test.YtplljicodflagaaPx6
import Derived.Test.YtplljicodflagaaPx7
import Derived.BigRegion
import Derived.RegionTactic
namespace Go.Proofs.Ytplljicodflagaa.P
open Go.RowKit Go.Proofs.YtplljicodflagaaW.PrintWords Go.Proofs.YtplljicodflagaaW.PrintLast Go.Proofs.YtplljicodflagaaW.PrintMore
attribute [local go_sem] max2_int min2_int max_two min_two max_three min_three max_four min_four   -- for this text's walks alone
set_option linter.unusedVariables false
set_option linter.unusedSimpArgs false

/-! ### r13_Flow: function 13 -/
mutual
def r13_Flow.l0 : Nat → List (List Int) → Int → ByteArray → List (S46) → List (S41) → Option ((List (List Int)))
 | 0, _, _, _, _, _ => none
 | k + 1, x3, x4, x360000, x360001, x360002 => if x4 < (x360001.length : Int) then (r13_Flow.l1 k x3 x4 ([] : List Int) 0 x360000 x360001 x360002) else (r13_Flow.l2 k x3 0 x360000 x360001 x360002)
def r13_Flow.l1 : Nat → List (List Int) → Int → List Int → Int → ByteArray → List (S46) → List (S41) → Option ((List (List Int)))
 | 0, _, _, _, _, _, _, _ => none
 | k + 1, x3, x4, x5, x6, x360000, x360001, x360002 => if x6 < (x360002.length : Int) then (if 0 ≤ x6 then ((r09_Weight.f k ((rd_T41 x360002 x6).f1) x4).bind fun t362 => (if t362 > 0 then (if x5.length < 17592186044416 then (r13_Flow.l1 k x3 x4 (x5 ++ [wrap64 ((x360001.length : Int) + x6)]) (wrap64 (x6 + 1)) x360000 x360001 x360002) else (none)) else (r13_Flow.l1 k x3 x4 x5 (wrap64 (x6 + 1)) x360000 x360001 x360002))) else (none)) else (if x3.length < 5864062014805 then (r13_Flow.l0 k (x3 ++ [x5]) (wrap64 (x4 + 1)) x360000 x360001 x360002) else (none))
def r13_Flow.l2 : Nat → List (List Int) → Int → ByteArray → List (S46) → List (S41) → Option ((List (List Int)))
 | 0, _, _, _, _, _ => none
 | k + 1, x3, x7, x360000, x360001, x360002 => if x7 < (x360002.length : Int) then (if 0 ≤ x7 then ((r09_Targets.f k ((rd_T41 x360002 x7).f2)).bind fun t370 => (if x3.length < 5864062014805 then (r13_Flow.l2 k (x3 ++ [t370]) (wrap64 (x7 + 1)) x360000 x360001 x360002) else (none))) else (none)) else (some x3)
end
def r13_Flow.f (k : Nat) (a0_0 : ByteArray) (l0_1 : List (S46)) (l0_2 : List (S41)) : Option ((List (List Int))) := (r09_Valid.f k a0_0 l0_1 l0_2).bind fun t360 => (if t360 = true then (r13_Flow.l0 k ([] : List (List Int)) 0 a0_0 l0_1 l0_2) else (some ([] : List (List Int))))
theorem r13_Flow.mono_l : ∀ k, M5 r13_Flow.l0 k ∧ M7 r13_Flow.l1 k ∧ M5 r13_Flow.l2 k
 | 0 => ⟨fun _ _ _ _ _ r h => by simp [r13_Flow.l0] at h, fun _ _ _ _ _ _ _ r h => by simp [r13_Flow.l1] at h, fun _ _ _ _ _ r h => by simp [r13_Flow.l2] at h⟩
 | k + 1 => by
  obtain ⟨ih0, ih1, ih2⟩ := r13_Flow.mono_l k
  refine ⟨?_, ?_, ?_⟩ <;> dsimp only [M5, M7] <;> intros <;> (first | unfold r13_Flow.l0 | unfold r13_Flow.l1 | unfold r13_Flow.l2) <;> repeat' first | (with_reducible first | apply ih0 | apply ih1 | apply ih2 | apply r09_Targets.mono | apply r09_Valid.mono | apply r09_Weight.mono | apply lr | apply ln | apply li | refine lb ?_ fun _ => ?_)
theorem r13_Flow.mono : ∀ a0 a1 a2 k, LeO (r13_Flow.f k a0 a1 a2) (r13_Flow.f (k + 1) a0 a1 a2) := by
 intro a0 a1 a2 k
 obtain ⟨ih0, ih1, ih2⟩ := r13_Flow.mono_l k
 unfold r13_Flow.f
 repeat' first | (with_reducible first | apply ih0 | apply ih1 | apply ih2 | apply r09_Targets.mono | apply r09_Valid.mono | apply r09_Weight.mono | apply lr | apply ln | apply li | refine lb ?_ fun _ => ?_)
set_option maxHeartbeats 8000000 in
set_option maxRecDepth 100000 in
theorem r13_Flow.calls (k : Nat) (a0_0 : ByteArray) (A0_1 : Option Addr) (c0_1 : Nat) (l0_1 : List (S46)) (A0_2 : Option Addr) (c0_2 : Nat) (l0_2 : List (S41)) (r : List (List Int)) (w : World) (hr0_1 : Kd.C k46 w A0_1 l0_1.length l0_1) (hc0_1 : l0_1.length ≤ c0_1) (hr0_2 : Kd.C k41 w A0_2 l0_2.length l0_2) (hc0_2 : l0_2.length ≤ c0_2) (h : r13_Flow.f k a0_0 l0_1 l0_2 = some r) :
  Calls Try.prog 13 #[.agg #[.string a0_0, .slice A0_1 l0_1.length c0_1, .slice A0_2 l0_2.length c0_2]] w fun e w' => ∃ v0_ : Value, e = .returned (v0_) ∧ Kd.S (Kd.slice 3 (Kd.int .i64)) 37 w' w.heap.size (fun _ => True) v0_ r ∧ Below w.heap.size w w' := by
 have hu25 := Try.underlying25
 have HR0_1 := am hr0_1
 have HC0_1 := am hc0_1
 clear hr0_1 hc0_1
 have HR0_2 := am hr0_2
 have HC0_2 := am hc0_2
 clear hr0_2 hc0_2
 have HB := am (Below.refl w.heap.size w)
 have H : ((r09_Valid.f k a0_0 l0_1 l0_2).bind fun t360 => (if t360 = true then (r13_Flow.l0 k ([] : List (List Int)) 0 a0_0 l0_1 l0_2) else (some ([] : List (List Int))))) = some r := h
 clear h
 replace H := bnd H
 obtain ⟨t360, A2, H⟩ := H
 (try dsimp only at H)
 by_cases c3 : t360 = true
 rotate_left
 ·replace c3 := Bool.eq_false_iff.mpr c3
  subst c3
  rw [if_neg Bool.false_ne_true] at H
  obtain rfl := Option.some.inj H
  go_enter Try.func13, Try.ntmps13
  go_wp2_with (first | ((with_reducible refine gate_dst (N := 1) rfl ?_); refine box_ev (N := 1) (cs := #[.string a0_0, .slice A0_1 l0_1.length c0_1, .slice A0_2 l0_2.length c0_2]) (t := 25) ?_; intro gb359 hg w31 hbox hb; have BK359 := am hbox; have GW359 := gwl hg; have GE359 := GW359; replace HB := bsl hb; clear hb hbox hg; have z32 := cf3 BK359.1) | ((with_reducible refine gate_callee (f := 34) rfl ?_); refine gC 9 Try.func34 _ (r09_Valid.calls k a0_0 _ _ l0_1 _ _ l0_2 false _ (csb HR0_1 HB) HC0_1.1 (csb HR0_2 HB) HC0_2.1 A2.1) ?_; rintro e w33 ⟨rfl, hb⟩; refine ⟨_, rfl, ?_⟩; replace BK359 := bbh BK359 hb; replace HB := bst hb; (try clear hb)))
  go_ret
  exact ⟨_, per, knl, pbg⟩
 subst c3
 rw [if_pos rfl] at H
 have H' := am H
 clear H
 go_enter Try.func13, Try.ntmps13
 go_wp2_with (first | ((with_reducible refine gate_dst (N := 1) rfl ?_); refine box_ev (N := 1) (cs := #[.string a0_0, .slice A0_1 l0_1.length c0_1, .slice A0_2 l0_2.length c0_2]) (t := 25) ?_; intro gb359 hg w4 hbox hb; have BK359 := am hbox; have GW359 := gwl hg; have GE359 := GW359; replace HB := bsl hb; clear hb hbox hg; have z5 := cf3 BK359.1) | ((with_reducible refine gate_callee (f := 34) rfl ?_); refine gC 9 Try.func34 _ (r09_Valid.calls k a0_0 _ _ l0_1 _ _ l0_2 true _ (csb HR0_1 HB) HC0_1.1 (csb HR0_2 HB) HC0_2.1 A2.1) ?_; rintro e w6 ⟨rfl, hb⟩; refine ⟨_, rfl, ?_⟩; replace BK359 := bbh BK359 hb; replace HB := bst hb; (try clear hb)))
 go_loopg [3, 4] k (fun kq v3 v4 w' => ∃ (x3_1 : List (List Int)) (x4_1 : Int), v4 = .int .i64 x4_1 ∧ Aside0 (r13_Flow.l0 kq x3_1 x4_1 a0_0 l0_1 l0_2 = some r) ∧ Aside0 (kq ≤ k) ∧ Aside0 (Kd.S (Kd.slice 3 (Kd.int .i64)) 37 w' w.heap.size (fun _ => True) v3 x3_1) ∧ Aside0 (w'.heap[gb359]? = some (.cells #[.string a0_0, (.slice A0_1 l0_1.length c0_1), (.slice A0_2 l0_2.length c0_2)] 25 (0, 0))) ∧ Aside0 (Below w.heap.size w w'))
 case atStart => exact ⟨(([] : List (List Int))), (0), prs, H', ⟨Nat.le_refl _⟩, ⟨knl⟩, ⟨pbk BK359.1⟩, ⟨pbg⟩⟩
 clear H'
 try clear c3 z5
 obtain ⟨x3_1, x4_1, rfl, HA, HK1, HO_3, BK359, HB⟩ := hrel
 obtain _ | k1 := gk
 ·exact absurd HA.1 (by simp [r13_Flow.l0])
 have H := HA.1
 clear HA
 simp only [r13_Flow.l0] at H
 by_cases c7 : x4_1 < (l0_1.length : Int)
 rotate_left
 ·rw [if_neg c7] at H
  have c7b0 : decide (x4_1 < (l0_1.length : Int)) = false := decide_eq_false c7
  clear c7
  have H' := am H
  clear H
  have z21 := cf3 BK359.1
  go_wp2
  go_loopg [3, 7] k1 (fun kq v3 v7 w' => ∃ (x3_2 : List (List Int)) (x7_2 : Int), v7 = .int .i64 x7_2 ∧ Aside0 (r13_Flow.l2 kq x3_2 x7_2 a0_0 l0_1 l0_2 = some r) ∧ Aside0 (kq ≤ k1) ∧ Aside0 (Kd.S (Kd.slice 3 (Kd.int .i64)) 37 w' w.heap.size (fun _ => True) v3 x3_2) ∧ Aside0 (w'.heap[gb359]? = some (.cells #[.string a0_0, (.slice A0_1 l0_1.length c0_1), (.slice A0_2 l0_2.length c0_2)] 25 (0, 0))) ∧ Aside0 (Below w.heap.size w w'))
  case atStart => exact ⟨(x3_1), (0), prs, H', ⟨Nat.le_refl _⟩, ⟨pks HO_3.1⟩, ⟨pbk BK359.1⟩, ⟨pbg⟩⟩
  clear H'
  try clear c3 c7 c7b0 c9 c9b0 c10 c10b0 c12 c12b0 c13 c17 z14 z16 z18 z21 z5 z8 hx361_0 hx361_1 hx361_2 hx361_3 hx361_4 p361 q361
  obtain ⟨x3_2, x7_2, rfl, HA, HK2, HO_3, BK359, HB⟩ := hrel
  obtain _ | k2 := gk
  ·exact absurd HA.1 (by simp [r13_Flow.l2])
  have H := HA.1
  clear HA
  simp only [r13_Flow.l2] at H
  by_cases c22 : x7_2 < (l0_2.length : Int)
  rotate_left
  ·rw [if_neg c22] at H
   have c22b0 : decide (x7_2 < (l0_2.length : Int)) = false := decide_eq_false c22
   clear c22
   obtain rfl := Option.some.inj H
   have z30 := cf3 BK359.1
   go_wp2
   go_ret
   exact ⟨_, per, by (with_reducible repeat (first | apply Kd.S_alloc | apply Kd.S_drewN | apply Kd.S_drew)); exact HO_3.1, pbg⟩
  rw [if_pos c22] at H
  have c22b0 : decide (x7_2 < (l0_2.length : Int)) = true := decide_eq_true c22
  clear c22
  replace H := ifp H
  obtain ⟨c23, H⟩ := H
  have c23b0 := decide_eq_true c23
  clear c23
  replace H := bnd H
  obtain ⟨t370, A24, H⟩ := H
  (try dsimp only at H)
  replace H := ifp H
  obtain ⟨c25, H⟩ := H
  have LMc25 := am c25
  clear c25
  obtain ⟨y373, hy373⟩ : ∃ y_ : List (List Int), y_ = (x3_2 ++ [t370]) := ⟨_, rfl⟩
  replace H : (r13_Flow.l2 k2 y373 (wrap64 (x7_2 + 1)) a0_0 l0_1 l0_2) = some r := hrp hy373 H
  have Ny373 := am hy373
  clear hy373
  have H' := am H
  clear H
  have z26 := cf3 BK359.1
  obtain ⟨p369, q369, ad369, A369_1, c369_1, A369_2, c369_2, A369_3, c369_3, e369, hx369_0, hx369_1, hx369_2, hx369_3, hx369_4, HC369_1, HR369_1, HC369_2, HR369_2, HC369_3, HR369_3⟩ := bT41 HR0_2.1 HB.1 x7_2
  cases e369
  go_wp2_with (first | ((with_reducible refine gate_callee (f := 35) rfl ?_); refine gC 60 Try.func35 _ (r09_Targets.calls k2 _ _ ((rd_T41 l0_2 x7_2).f2) t370 _ (csb HR369_2 HB) HC369_2.1 A24.1) ?_; rintro e w27 ⟨v371, rfl, ho0, hb⟩; refine ⟨_, rfl, ?_⟩; have HO372 := am (Kd.R_lower ho0 (below_size pbg)); replace HO_3 := am (Kd.S_elder' (pks HO_3.1) (Kd.R_base ho0) hb); replace BK359 := bbh BK359 hb; replace HB := bst hb; (try clear hb); (try clear ho0); obtain ⟨Ao29, co29, eo29⟩ := Kd.R_slice HO372.1; subst eo29) | ((with_reducible refine gate_builtin (b := .append) (xs := #[.tmp 53, .tmp 61]) rfl ?_); at_builtin; refine Kd.S_append (Kd.slice 3 (Kd.int .i64)) (w0 := w) w.heap.size rfl (.tmp 53) (.tmp 61) 30 37 (.slice none 0 0) 24 rfl Try.underlying30 info37 rfl (by decide) (by omega) u3 x3_2 t370 [.slice Ao29 t370.length co29] (fun _ => True) (fun k_ => some k_ = (.slice Ao29 t370.length co29 : Value).ownBlock) rfl rfl ?aP (fun k_ hk_ => ((Kd.R_mono (ok' := fun k_ => ((fun _ => True)) k_ ∧ some k_ ≠ (u3 : Value).ownBlock) (Kd.R_apart' (HO372.1) (Kd.S_typed HO_3.1) (by decide)) (fun k_ hk => ⟨trivial, hk.2⟩))).1 k_ hk_.symm) ?aF ?aO ?aB ?aS ?aL ?_; (case aP => exact Kd.M_row (Kd.R_mono (Kd.R_tight rfl (Kd.R_mono (ok' := fun k_ => ((fun _ => True)) k_ ∧ some k_ ≠ (u3 : Value).ownBlock) (Kd.R_apart' (HO372.1) (Kd.S_typed HO_3.1) (by decide)) (fun k_ hk => ⟨trivial, hk.2⟩))) (fun _ h_ => h_))); (case aB => exact pbg); (case aF => exact (fun _ _ => trivial)); (case aO => exact (by (with_reducible repeat (first | apply Kd.S_alloc | apply Kd.S_drewN | apply Kd.S_drew)); exact Kd.S_mono HO_3.1 (fun k_ hk => ⟨trivial, fun e_ => hk.2 e_⟩))); (case aS => exact (below_size pbg)); (case aL => have := LMc25.1; omega); intro v374 w28 ho hb hg hat; rw [← Ny373.1] at ho; have HO375 := am ho; replace BK359 := am (blk_grown (g := gb359) (o := .cells #[.string a0_0, .slice A0_1 l0_1.length c0_1, .slice (some ad369) l0_2.length c0_2] 25 (0, 0)) (by exact pbk BK359.1) hg (Kd.S_ne HO_3.1 BK359.1 (by decide))); replace HB := am hb; (try clear HO_3 HO372); clear ho hb hg hat))
  go_roundg k2
  case measure => have := HK1.1; have := HK2.1; omega
  case rel => exact ⟨(y373), (wrap64 (x7_2 + 1)), prs, H', ⟨by have := HK1.1; have := HK2.1; omega⟩, ⟨pks HO375.1⟩, ⟨pbk BK359.1⟩, ⟨pbg⟩⟩
 rw [if_pos c7] at H
 have c7b0 : decide (x4_1 < (l0_1.length : Int)) = true := decide_eq_true c7
 clear c7
 have H' := am H
 clear H
 have z8 := cf3 BK359.1
 go_wp2
 go_loopg [5, 6] k1 (fun kq v5 v6 w' => ∃ (x5_2 : List Int) (x6_2 : Int), v6 = .int .i64 x6_2 ∧ Aside0 (r13_Flow.l1 kq x3_1 x4_1 x5_2 x6_2 a0_0 l0_1 l0_2 = some r) ∧ Aside0 (kq ≤ k1) ∧ Aside0 (Kd.S (Kd.slice 3 (Kd.int .i64)) 37 w' w.heap.size (fun k_ => some k_ ≠ (v5 : Value).ownBlock) u3 x3_1) ∧ Aside0 (Kd.R (Kd.int .i64) 3 w' w.heap.size (fun _ => True) v5 x5_2) ∧ Aside0 (w'.heap[gb359]? = some (.cells #[.string a0_0, (.slice A0_1 l0_1.length c0_1), (.slice A0_2 l0_2.length c0_2)] 25 (0, 0))) ∧ Aside0 (Below w.heap.size w w'))
 case atStart => exact ⟨(([] : List Int)), (0), prs, H', ⟨Nat.le_refl _⟩, ⟨by (with_reducible repeat (first | apply Kd.S_alloc | apply Kd.S_drewN | apply Kd.S_drew)); exact Kd.S_mono HO_3.1 (fun _ hk => (by simp [Value.ownBlock]))⟩, ⟨knl⟩, ⟨pbk BK359.1⟩, ⟨pbg⟩⟩
 clear H'
 try clear c3 c7 c7b0 z5 z8
 obtain ⟨x5_2, x6_2, rfl, HA, HK2, HO_3, HO_5, BK359, HB⟩ := hrel
 obtain _ | k2 := gk
 ·exact absurd HA.1 (by simp [r13_Flow.l1])
 have H := HA.1
 clear HA
 simp only [r13_Flow.l1] at H
 by_cases c9 : x6_2 < (l0_2.length : Int)
 rotate_left
 ·rw [if_neg c9] at H
  have c9b0 : decide (x6_2 < (l0_2.length : Int)) = false := decide_eq_false c9
  clear c9
  replace H := ifp H
  obtain ⟨c17, H⟩ := H
  have LMc17 := am c17
  clear c17
  obtain ⟨y366, hy366⟩ : ∃ y_ : List (List Int), y_ = (x3_1 ++ [x5_2]) := ⟨_, rfl⟩
  replace H : (r13_Flow.l0 k2 y366 (wrap64 (x4_1 + 1)) a0_0 l0_1 l0_2) = some r := hrp hy366 H
  have Ny366 := am hy366
  clear hy366
  have H' := am H
  clear H
  have z18 := cf3 BK359.1
  obtain ⟨Ao20, co20, eo20⟩ := Kd.R_slice HO_5.1
  subst eo20
  go_wp2_with (first | ((with_reducible refine gate_builtin (b := .append) (xs := #[.tmp 42, .tmp 44]) rfl ?_); at_builtin; refine Kd.S_append (Kd.slice 3 (Kd.int .i64)) (w0 := w) w.heap.size rfl (.tmp 42) (.tmp 44) 30 37 (.slice none 0 0) 24 rfl Try.underlying30 info37 rfl (by decide) (by omega) u3 x3_1 x5_2 [.slice Ao20 x5_2.length co20] (fun _ => True) (fun k_ => some k_ = (.slice Ao20 x5_2.length co20 : Value).ownBlock) rfl rfl ?aP (fun k_ hk_ => ((Kd.R_mono (ok' := fun k_ => ((fun _ => True)) k_ ∧ some k_ ≠ (u3 : Value).ownBlock) (Kd.R_apart' (HO_5.1) (Kd.S_typed HO_3.1) (by decide)) (fun k_ hk => ⟨trivial, hk.2⟩))).1 k_ hk_.symm) ?aF ?aO ?aB ?aS ?aL ?_; (case aP => exact Kd.M_row (Kd.R_mono (Kd.R_tight rfl (Kd.R_mono (ok' := fun k_ => ((fun _ => True)) k_ ∧ some k_ ≠ (u3 : Value).ownBlock) (Kd.R_apart' (HO_5.1) (Kd.S_typed HO_3.1) (by decide)) (fun k_ hk => ⟨trivial, hk.2⟩))) (fun _ h_ => h_))); (case aB => exact pbg); (case aF => exact (fun _ _ => trivial)); (case aO => exact (by (with_reducible repeat (first | apply Kd.S_alloc | apply Kd.S_drewN | apply Kd.S_drew)); exact Kd.S_mono HO_3.1 (fun k_ hk => ⟨trivial, fun e_ => hk e_⟩))); (case aS => exact (below_size pbg)); (case aL => have := LMc17.1; omega); intro v367 w19 ho hb hg hat; rw [← Ny366.1] at ho; have HO368 := am ho; replace BK359 := am (blk_grown (g := gb359) (o := .cells #[.string a0_0, .slice A0_1 l0_1.length c0_1, .slice A0_2 l0_2.length c0_2] 25 (0, 0)) (by exact pbk BK359.1) hg (Kd.S_ne HO_3.1 BK359.1 (by decide))); replace HB := am hb; (try clear HO_3 HO_5); clear ho hb hg hat))
  go_roundg k2
  case measure => have := HK1.1; have := HK2.1; omega
  case rel => exact ⟨(y366), (wrap64 (x4_1 + 1)), prs, H', ⟨by have := HK1.1; have := HK2.1; omega⟩, ⟨pks HO368.1⟩, ⟨pbk BK359.1⟩, ⟨pbg⟩⟩
 rw [if_pos c9] at H
 have c9b0 : decide (x6_2 < (l0_2.length : Int)) = true := decide_eq_true c9
 clear c9
 replace H := ifp H
 obtain ⟨c10, H⟩ := H
 have c10b0 := decide_eq_true c10
 clear c10
 replace H := bnd H
 obtain ⟨t362, A11, H⟩ := H
 (try dsimp only at H)
 by_cases c12 : t362 > 0
 rotate_left
 ·rw [if_neg c12] at H
  have c12b0 : decide (0 < t362) = false := decide_eq_false c12
  clear c12
  have H' := am H
  clear H
  have z16 := cf3 BK359.1
  obtain ⟨p361, q361, ad361, A361_1, c361_1, A361_2, c361_2, A361_3, c361_3, e361, hx361_0, hx361_1, hx361_2, hx361_3, hx361_4, HC361_1, HR361_1, HC361_2, HR361_2, HC361_3, HR361_3⟩ := bT41 HR0_2.1 HB.1 x6_2
  cases e361
  go_wp2_with (first | ((with_reducible refine gate_callee (f := 38) rfl ?_); refine gC 32 Try.func38 _ (r09_Weight.calls k2 _ _ ((rd_T41 l0_2 x6_2).f1) x4_1 t362 _ (csb HR361_1 HB) HC361_1.1 A11.1) ?_; rintro e w' ⟨rfl, ⟨nd, rfl⟩⟩; refine ⟨_, rfl, ?_⟩))
  go_roundg k2
  case measure => have := HK1.1; have := HK2.1; omega
  case rel => exact ⟨(x5_2), (wrap64 (x6_2 + 1)), prs, H', ⟨by have := HK1.1; have := HK2.1; omega⟩, ⟨pks HO_3.1⟩, ⟨pkr HO_5.1⟩, ⟨pbk BK359.1⟩, ⟨pbg⟩⟩
 rw [if_pos c12] at H
 have c12b0 : decide (0 < t362) = true := decide_eq_true c12
 clear c12
 replace H := ifp H
 obtain ⟨c13, H⟩ := H
 have LMc13 := am c13
 clear c13
 obtain ⟨y363, hy363⟩ : ∃ y_ : List Int, y_ = (x5_2 ++ [wrap64 ((l0_1.length : Int) + x6_2)]) := ⟨_, rfl⟩
 replace H : (r13_Flow.l1 k2 x3_1 x4_1 y363 (wrap64 (x6_2 + 1)) a0_0 l0_1 l0_2) = some r := hrp hy363 H
 have Ny363 := am hy363
 clear hy363
 have H' := am H
 clear H
 have z14 := cf3 BK359.1
 obtain ⟨p361, q361, ad361, A361_1, c361_1, A361_2, c361_2, A361_3, c361_3, e361, hx361_0, hx361_1, hx361_2, hx361_3, hx361_4, HC361_1, HR361_1, HC361_2, HR361_2, HC361_3, HR361_3⟩ := bT41 HR0_2.1 HB.1 x6_2
 cases e361
 go_wp2_with (first | ((with_reducible refine gate_callee (f := 38) rfl ?_); refine gC 32 Try.func38 _ (r09_Weight.calls k2 _ _ ((rd_T41 l0_2 x6_2).f1) x4_1 t362 _ (csb HR361_1 HB) HC361_1.1 A11.1) ?_; rintro e w' ⟨rfl, ⟨nd, rfl⟩⟩; refine ⟨_, rfl, ?_⟩) | ((with_reducible refine gate_builtin (b := .append) (xs := #[.tmp 34, .tmp 40]) rfl ?_); at_builtin; refine Kd.R_append (Kd.int .i64) (w0 := w) w.heap.size rfl (.tmp 34) (.tmp 40) 37 3 (.int .i64 0) 8 rfl Try.underlying37 info3 rfl (by decide) (by omega) u5 x5_2 (wrap64 ((l0_1.length : Int) + x6_2)) [.int .i64 (wrap64 ((l0_1.length : Int) + x6_2))] (fun _ => True) (fun _ => False) rfl rfl ?aP (fun _ hk => hk.elim) ?aF ?aO ?aB ?aS ?aL ?_; (case aP => exact rfl); (case aB => exact pbg); (case aF => exact (fun _ _ => trivial)); (case aO => exact (pkr HO_5.1)); (case aS => exact (below_size pbg)); (case aL => have := LMc13.1; omega); intro v364 w15 ho hb hg hat; rw [← Ny363.1] at ho; have HO365 := am ho; replace HO_3 := am (Kd.S_after (ok := (fun _ => True)) (by (with_reducible repeat (first | apply Kd.S_alloc | apply Kd.S_drewN | apply Kd.S_drew)); exact Kd.S_mono HO_3.1 (fun _ hk => ⟨trivial, hk⟩)) hg hat); replace BK359 := am (blk_grown (g := gb359) (o := .cells #[.string a0_0, .slice A0_1 l0_1.length c0_1, .slice (some ad361) l0_2.length c0_2] 25 (0, 0)) (by exact pbk BK359.1) hg (Kd.R_ne HO_5.1 BK359.1 (by decide))); replace HB := am hb; clear HO_5; clear ho hb hg hat))
 go_roundg k2
 case measure => have := HK1.1; have := HK2.1; omega
 case rel => exact ⟨(y363), (wrap64 (x6_2 + 1)), prs, H', ⟨by have := HK1.1; have := HK2.1; omega⟩, ⟨by (with_reducible repeat (first | apply Kd.S_alloc | apply Kd.S_drewN | apply Kd.S_drew)); exact Kd.S_mono HO_3.1 (fun _ hk => hk.2)⟩, ⟨pkr HO365.1⟩, ⟨pbk BK359.1⟩, ⟨pbg⟩⟩

/-! ### r07_Table: function 92 -/
mutual
def r07_Table.l0 : Nat → List (List Int) → List (List Bool) → Int → Option ((List (List Bool)))
 | 0, _, _, _ => none
 | k + 1, x0, x3, x4 => if x4 < (x0.length : Int) then (if 0 ≤ (x0.length : Int) then (if ((x0.length : Int) : Int).toNat ≤ 281474976710656 then (r07_Table.l1 k x0 x3 x4 (List.replicate ((x0.length : Int) : Int).toNat false) 0) else (none)) else (none)) else (some x3)
def r07_Table.l1 : Nat → List (List Int) → List (List Bool) → Int → List Bool → Int → Option ((List (List Bool)))
 | 0, _, _, _, _, _ => none
 | k + 1, x0, x3, x4, x5, x6 => if 0 ≤ x4 then (if x4 < (x0.length : Int) then (if x6 < ((rd_L11 x0 x4).length : Int) then (if 0 ≤ x6 then (if (rd (rd_L11 x0 x4) x6) ≥ 0 then (if (rd (rd_L11 x0 x4) x6) < (x0.length : Int) then (if 0 ≤ (rd (rd_L11 x0 x4) x6) then (if (rd (rd_L11 x0 x4) x6) < (x5.length : Int) then (r07_Table.l1 k x0 x3 x4 (x5.set ((rd (rd_L11 x0 x4) x6) : Int).toNat true) (wrap64 (x6 + 1))) else (none)) else (none)) else (r07_Table.l1 k x0 x3 x4 x5 (wrap64 (x6 + 1)))) else (r07_Table.l1 k x0 x3 x4 x5 (wrap64 (x6 + 1)))) else (none)) else (if x3.length < 5864062014805 then (r07_Table.l0 k x0 (x3 ++ [x5]) (wrap64 (x4 + 1))) else (none))) else (none)) else (none)
end
def r07_Table.f (k : Nat) (l0 : List (List Int)) : Option ((List (List Bool))) := r07_Table.l0 k l0 ([] : List (List Bool)) 0
theorem r07_Table.mono_l : ∀ k, M3 r07_Table.l0 k ∧ M5 r07_Table.l1 k
 | 0 => ⟨fun _ _ _ r h => by simp [r07_Table.l0] at h, fun _ _ _ _ _ r h => by simp [r07_Table.l1] at h⟩
 | k + 1 => by
  obtain ⟨ih0, ih1⟩ := r07_Table.mono_l k
  refine ⟨?_, ?_⟩ <;> dsimp only [M3, M5] <;> intros <;> (first | unfold r07_Table.l0 | unfold r07_Table.l1) <;> repeat' first | (with_reducible first | apply ih0 | apply ih1 | apply lr | apply ln | apply li | refine lb ?_ fun _ => ?_)
theorem r07_Table.mono : ∀ a0 k, LeO (r07_Table.f k a0) (r07_Table.f (k + 1) a0) := by
 intro a0 k
 obtain ⟨ih0, ih1⟩ := r07_Table.mono_l k
 unfold r07_Table.f
 repeat' first | (with_reducible first | apply ih0 | apply ih1 | apply lr | apply ln | apply li | refine lb ?_ fun _ => ?_)
set_option maxHeartbeats 8000000 in
set_option maxRecDepth 100000 in
theorem r07_Table.calls (k : Nat) (A0 : Option Addr) (c0 : Nat) (l0 : List (List Int)) (r : List (List Bool)) (w : World) (hr0 : Kd.C (Kd.slice 3 (Kd.int .i64)) w A0 l0.length l0) (hc0 : l0.length ≤ c0) (h : r07_Table.f k l0 = some r) :
  Calls Try.prog 92 #[.slice A0 l0.length c0] w fun e w' => ∃ v0_ : Value, e = .returned (v0_) ∧ Kd.S (Kd.slice 4 Kd.bool) 49 w' w.heap.size (fun _ => True) v0_ r ∧ Below w.heap.size w w' := by
 have HR0 := am hr0
 have HC0 := am hc0
 clear hr0 hc0
 have HB := am (Below.refl w.heap.size w)
 have H : (r07_Table.l0 k l0 ([] : List (List Bool)) 0) = some r := h
 clear h
 have H' := am H
 clear H
 go_enter Try.func92, Try.ntmps92
 go_wp2
 go_loopg [3, 4] k (fun kq v3 v4 w' => ∃ (x3_1 : List (List Bool)) (x4_1 : Int), v4 = .int .i64 x4_1 ∧ Aside0 (r07_Table.l0 kq l0 x3_1 x4_1 = some r) ∧ Aside0 (kq ≤ k) ∧ Aside0 (Kd.S (Kd.slice 4 Kd.bool) 49 w' w.heap.size (fun _ => True) v3 x3_1) ∧ Aside0 (Below w.heap.size w w'))
 case atStart => exact ⟨(([] : List (List Bool))), (0), prs, H', ⟨Nat.le_refl _⟩, ⟨knl⟩, ⟨pbg⟩⟩
 clear H'
 obtain ⟨x3_1, x4_1, rfl, HA, HK1, HO_3, HB⟩ := hrel
 obtain _ | k1 := gk
 ·exact absurd HA.1 (by simp [r07_Table.l0])
 have H := HA.1
 clear HA
 simp only [r07_Table.l0] at H
 by_cases c2 : x4_1 < (l0.length : Int)
 rotate_left
 ·rw [if_neg c2] at H
  have c2b0 : decide (x4_1 < (l0.length : Int)) = false := decide_eq_false c2
  clear c2
  obtain rfl := Option.some.inj H
  go_wp2
  go_ret
  exact ⟨_, per, by (with_reducible repeat (first | apply Kd.S_alloc | apply Kd.S_drewN | apply Kd.S_drew)); exact HO_3.1, pbg⟩
 rw [if_pos c2] at H
 have c2b0 : decide (x4_1 < (l0.length : Int)) = true := decide_eq_true c2
 clear c2
 replace H := ifp H
 obtain ⟨c3, H⟩ := H
 have c3b0 := eq_true c3
 have c3b1 : decide (0 ≤ (l0.length : Int)) = true := decide_eq_true c3
 clear c3
 replace H := ifp H
 obtain ⟨c4, H⟩ := H
 have c4b0 := eq_true c4
 have c4b1 : decide (((l0.length : Int) : Int).toNat ≤ 281474976710656) = true := decide_eq_true c4
 clear c4
 obtain ⟨y376, hy376⟩ : ∃ y_ : List Bool, y_ = (List.replicate ((l0.length : Int) : Int).toNat false) := ⟨_, rfl⟩
 replace H : (r07_Table.l1 k1 l0 x3_1 x4_1 y376 0) = some r := hrp hy376 H
 have Ny376 := am hy376
 clear hy376
 have H' := am H
 clear H
 go_wp2_with (first | ((with_reducible refine gate_dst (N := 15) rfl ?_); (try (refine gate_guard (by rfl) ?_; dsimp only)); refine Kd.R_make Kd.bool _ 4 rfl (N := 15) rfl 49 _ _ rfl (l0.length : Int) rfl rfl Try.underlying49 (.bool false) 1 info4 rfl (by decide) (by omega) false (ok := fun _ => True) (okp := fun _ => True) rfl (fun _ hk => hk) trivial (dq) (Nat.le_trans (Nat.mul_le_mul_right _ (dq : (l0.length : Int).toNat ≤ 281474976710656)) (by omega)) (Below.refl _ _) (Nat.le_refl _) ?_; intro v377 w5 ho6 hb hg_ hnew_; clear hg_ hnew_; (first | rw [← Ny376.1] at ho6 | (simp only [Int.reduceToNat] at ho6; rw [← Ny376.1] at ho6)); have HO378 := am (Kd.R_lower ho6 (below_size pbl)); replace HO_3 := am (Kd.S_elder' (pks HO_3.1) (Kd.R_base ho6) hb); replace HB := bsl hb; clear hb ho6))
 go_loopg [6] k1 (fun kq v6 w' => ∃ (x5_2 : List Bool) (x6_2 : Int), v6 = .int .i64 x6_2 ∧ Aside0 (r07_Table.l1 kq l0 x3_1 x4_1 x5_2 x6_2 = some r) ∧ Aside0 (kq ≤ k1) ∧ Aside0 (Kd.S (Kd.slice 4 Kd.bool) 49 w' w.heap.size (fun k_ => some k_ ≠ (v377 : Value).ownBlock) u3 x3_1) ∧ Aside0 (Kd.R Kd.bool 4 w' w.heap.size (fun _ => True) v377 x5_2) ∧ Aside0 (Below w.heap.size w w'))
 case atStart => exact ⟨(y376), (0), prs, H', ⟨Nat.le_refl _⟩, ⟨by (with_reducible repeat (first | apply Kd.S_alloc | apply Kd.S_drewN | apply Kd.S_drew)); exact Kd.S_mono HO_3.1 (fun _ hk => hk.2)⟩, ⟨pkr HO378.1⟩, ⟨pbg⟩⟩
 clear H'
 try clear c2 c2b0 c3 c3b0 c3b1 c4 c4b0 c4b1
 obtain ⟨x5_2, x6_2, rfl, HA, HK2, HO_3, HO_5, HB⟩ := hrel
 obtain _ | k2 := gk
 ·exact absurd HA.1 (by simp [r07_Table.l1])
 have H := HA.1
 clear HA
 simp only [r07_Table.l1] at H
 replace H := ifp H
 obtain ⟨c7, H⟩ := H
 have c7b0 := decide_eq_true c7
 clear c7
 replace H := ifp H
 obtain ⟨c8, H⟩ := H
 have c8b0 := decide_eq_true c8
 clear c8
 by_cases c9 : x6_2 < ((rd_L11 l0 x4_1).length : Int)
 rotate_left
 ·rw [if_neg c9] at H
  have c9b0 : decide (x6_2 < ((rd_L11 l0 x4_1).length : Int)) = false := decide_eq_false c9
  clear c9
  replace H := ifp H
  obtain ⟨c18, H⟩ := H
  have LMc18 := am c18
  clear c18
  obtain ⟨y387, hy387⟩ : ∃ y_ : List (List Bool), y_ = (x3_1 ++ [x5_2]) := ⟨_, rfl⟩
  replace H : (r07_Table.l0 k2 l0 y387 (wrap64 (x4_1 + 1))) = some r := hrp hy387 H
  have Ny387 := am hy387
  clear hy387
  have H' := am H
  clear H
  obtain ⟨p379, q379, ad379, A379_0, c379_0, e379, hx379_0, HC379_0, HR379_0⟩ := bL11 HR0.1 HB.1 x4_1
  cases e379
  obtain ⟨Ao20, co20, eo20⟩ := Kd.R_slice HO_5.1
  subst eo20
  go_wp2_with (first | ((with_reducible refine gate_builtin (b := .append) (xs := #[.tmp 54, .tmp 56]) rfl ?_); (try (refine gate_guard (by rfl) ?_; dsimp only)); at_builtin; refine Kd.S_append (Kd.slice 4 Kd.bool) (w0 := w) w.heap.size rfl (.tmp 54) (.tmp 56) 71 49 (.slice none 0 0) 24 rfl Try.underlying71 info49 rfl (by decide) (by omega) u3 x3_1 x5_2 [.slice Ao20 x5_2.length co20] (fun _ => True) (fun k_ => some k_ = (.slice Ao20 x5_2.length co20 : Value).ownBlock) rfl rfl ?aP (fun k_ hk_ => ((Kd.R_mono (ok' := fun k_ => ((fun _ => True)) k_ ∧ some k_ ≠ (u3 : Value).ownBlock) (Kd.R_apart' (HO_5.1) (Kd.S_typed HO_3.1) (by decide)) (fun k_ hk => ⟨trivial, hk.2⟩))).1 k_ hk_.symm) ?aF ?aO ?aB ?aS ?aL ?_; (case aP => exact Kd.M_row (Kd.R_mono (Kd.R_tight rfl (Kd.R_mono (ok' := fun k_ => ((fun _ => True)) k_ ∧ some k_ ≠ (u3 : Value).ownBlock) (Kd.R_apart' (HO_5.1) (Kd.S_typed HO_3.1) (by decide)) (fun k_ hk => ⟨trivial, hk.2⟩))) (fun _ h_ => h_))); (case aB => exact pbl); (case aF => exact (fun _ _ => trivial)); (case aO => exact (by (with_reducible repeat (first | apply Kd.S_alloc | apply Kd.S_drewN | apply Kd.S_drew)); exact Kd.S_mono HO_3.1 (fun k_ hk => ⟨trivial, fun e_ => hk e_⟩))); (case aS => exact (below_size pbl)); (case aL => have := LMc18.1; omega); intro v388 w19 ho hb hg hat; rw [← Ny387.1] at ho; have HO389 := am ho; replace HB := am hb; (try clear HO_3 HO_5); clear ho hb hg hat))
  go_roundg k2
  case measure => have := HK1.1; have := HK2.1; omega
  case rel => exact ⟨(y387), (wrap64 (x4_1 + 1)), prs, H', ⟨by have := HK1.1; have := HK2.1; omega⟩, ⟨pks HO389.1⟩, ⟨pbg⟩⟩
 rw [if_pos c9] at H
 have c9b0 : decide (x6_2 < ((rd_L11 l0 x4_1).length : Int)) = true := decide_eq_true c9
 clear c9
 replace H := ifp H
 obtain ⟨c10, H⟩ := H
 have c10b0 := decide_eq_true c10
 clear c10
 by_cases c11 : (rd (rd_L11 l0 x4_1) x6_2) ≥ 0
 rotate_left
 ·rw [if_neg c11] at H
  have c11b0 : decide (0 ≤ (rd (rd_L11 l0 x4_1) x6_2)) = false := decide_eq_false c11
  clear c11
  have H' := am H
  clear H
  obtain ⟨p379, q379, ad379, A379_0, c379_0, e379, hx379_0, HC379_0, HR379_0⟩ := bL11 HR0.1 HB.1 x4_1
  cases e379
  obtain ⟨p380, q380, ad380, A380_0, c380_0, e380, hx380_0, HC380_0, HR380_0⟩ := bL11 HR0.1 HB.1 x4_1
  obtain rfl : ad379 = ad380 := (by injection e380)
  have ea_ := Option.some.inj (hx379_0.symm.trans hx380_0)
  injection ea_ with ea_ en_ ec_
  subst ea_
  subst ec_
  clear en_
  obtain ⟨p381, q381, ad381, e381, hx381_0⟩ := bint HR380_0.1 HB.1 x6_2
  cases e381
  go_wp2
  go_roundg k2
  case measure => have := HK1.1; have := HK2.1; omega
  case rel => exact ⟨(x5_2), (wrap64 (x6_2 + 1)), prs, H', ⟨by have := HK1.1; have := HK2.1; omega⟩, ⟨pks HO_3.1⟩, ⟨pkr HO_5.1⟩, ⟨pbg⟩⟩
 rw [if_pos c11] at H
 have c11b0 : decide (0 ≤ (rd (rd_L11 l0 x4_1) x6_2)) = true := decide_eq_true c11
 clear c11
 by_cases c12 : (rd (rd_L11 l0 x4_1) x6_2) < (l0.length : Int)
 rotate_left
 ·rw [if_neg c12] at H
  have c12b0 : decide ((rd (rd_L11 l0 x4_1) x6_2) < (l0.length : Int)) = false := decide_eq_false c12
  clear c12
  have H' := am H
  clear H
  obtain ⟨p379, q379, ad379, A379_0, c379_0, e379, hx379_0, HC379_0, HR379_0⟩ := bL11 HR0.1 HB.1 x4_1
  cases e379
  obtain ⟨p380, q380, ad380, A380_0, c380_0, e380, hx380_0, HC380_0, HR380_0⟩ := bL11 HR0.1 HB.1 x4_1
  obtain rfl : ad379 = ad380 := (by injection e380)
  have ea_ := Option.some.inj (hx379_0.symm.trans hx380_0)
  injection ea_ with ea_ en_ ec_
  subst ea_
  subst ec_
  clear en_
  obtain ⟨p381, q381, ad381, e381, hx381_0⟩ := bint HR380_0.1 HB.1 x6_2
  cases e381
  obtain ⟨p382, q382, ad382, A382_0, c382_0, e382, hx382_0, HC382_0, HR382_0⟩ := bL11 HR0.1 HB.1 x4_1
  obtain rfl : ad379 = ad382 := (by injection e382)
  have ea_ := Option.some.inj (hx379_0.symm.trans hx382_0)
  injection ea_ with ea_ en_ ec_
  subst ea_
  subst ec_
  clear en_
  obtain ⟨p383, q383, ad383, e383, hx383_0⟩ := bint HR382_0.1 HB.1 x6_2
  cases e383
  go_wp2
  go_roundg k2
  case measure => have := HK1.1; have := HK2.1; omega
  case rel => exact ⟨(x5_2), (wrap64 (x6_2 + 1)), prs, H', ⟨by have := HK1.1; have := HK2.1; omega⟩, ⟨pks HO_3.1⟩, ⟨pkr HO_5.1⟩, ⟨pbg⟩⟩
 rw [if_pos c12] at H
 have c12b0 : decide ((rd (rd_L11 l0 x4_1) x6_2) < (l0.length : Int)) = true := decide_eq_true c12
 clear c12
 replace H := ifp H
 obtain ⟨c13, H⟩ := H
 have c13b0 := decide_eq_true c13
 clear c13
 replace H := ifp H
 obtain ⟨c14, H⟩ := H
 have c14b0 := decide_eq_true c14
 clear c14
 obtain ⟨y386, hy386⟩ : ∃ y_ : List Bool, y_ = (x5_2.set ((rd (rd_L11 l0 x4_1) x6_2) : Int).toNat true) := ⟨_, rfl⟩
 replace H : (r07_Table.l1 k2 l0 x3_1 x4_1 y386 (wrap64 (x6_2 + 1))) = some r := hrp hy386 H
 have Ny386 := am hy386
 clear hy386
 have H' := am H
 clear H
 obtain ⟨p379, q379, ad379, A379_0, c379_0, e379, hx379_0, HC379_0, HR379_0⟩ := bL11 HR0.1 HB.1 x4_1
 cases e379
 obtain ⟨p380, q380, ad380, A380_0, c380_0, e380, hx380_0, HC380_0, HR380_0⟩ := bL11 HR0.1 HB.1 x4_1
 obtain rfl : ad379 = ad380 := (by injection e380)
 have ea_ := Option.some.inj (hx379_0.symm.trans hx380_0)
 injection ea_ with ea_ en_ ec_
 subst ea_
 subst ec_
 clear en_
 obtain ⟨p381, q381, ad381, e381, hx381_0⟩ := bint HR380_0.1 HB.1 x6_2
 cases e381
 obtain ⟨p382, q382, ad382, A382_0, c382_0, e382, hx382_0, HC382_0, HR382_0⟩ := bL11 HR0.1 HB.1 x4_1
 obtain rfl : ad379 = ad382 := (by injection e382)
 have ea_ := Option.some.inj (hx379_0.symm.trans hx382_0)
 injection ea_ with ea_ en_ ec_
 subst ea_
 subst ec_
 clear en_
 obtain ⟨p383, q383, ad383, e383, hx383_0⟩ := bint HR382_0.1 HB.1 x6_2
 cases e383
 obtain ⟨p384, q384, ad384, A384_0, c384_0, e384, hx384_0, HC384_0, HR384_0⟩ := bL11 HR0.1 HB.1 x4_1
 obtain rfl : ad379 = ad384 := (by injection e384)
 have ea_ := Option.some.inj (hx379_0.symm.trans hx384_0)
 injection ea_ with ea_ en_ ec_
 subst ea_
 subst ec_
 clear en_
 obtain ⟨p385, q385, ad385, e385, hx385_0⟩ := bint HR384_0.1 HB.1 x6_2
 cases e385
 have p15 : 0 ≤ ((rd (rd_L11 l0 x4_1) x6_2) : Int) := dq
 have q15 : ((rd (rd_L11 l0 x4_1) x6_2) : Int) < ((x5_2.length : Int) : Int) := dq
 obtain ⟨go15, co15, eo15, gb15, gl15, cl15, HG15⟩ := Kd.R_form HO_5.1 (by omega)
 (first | cases eo15 | (injection eo15 with ea_ en_ ec_; (first | subst ea_ | (injection ea_ with ea_; subst ea_)); subst ec_; clear en_))
 have GB15 := am gb15
 have GG15 := am HG15
 clear gb15 gl15 HG15
 obtain ⟨hx15_0, hf15_0⟩ := Kd.R_celln false HO_5.1 ((rd (rd_L11 l0 x4_1) x6_2) : Int) p15 q15
 replace p15 := eq_true p15
 replace q15 := eq_true q15
 have HP16 := Kd.R_putg HO_5.1 ((rd (rd_L11 l0 x4_1) x6_2) : Int) true
 go_wp2_with (first | ((with_reducible refine gate_store (t := 4) (p := 53) rfl ?_); refine store_event (t := 4) (p := 53) (v := ?vo_w17) (w1 := (wr.setCell ⟨go15, ((rd (rd_L11 l0 x4_1) x6_2) : Int).toNat, none⟩ (.bool true))) ?hg ?ho ?hn ?hr ?_; (case ho => rfl); (case hg => rfl); (case hn => rfl); (case hr => first | (go_simp; done) | (go_simp; rfl)); intro w17 hw; have hg : wr.grownBy w17 (some go15) := (by rw [hw]; exact HP16.2); have hp_ : Kd.R Kd.bool 4 w17 w.heap.size (fun _ => True) (.slice (some ⟨go15, 0, none⟩) x5_2.length co15) y386 := (by rw [hw, Ny386.1]; exact HP16.1); clear HP16; replace HO_3 := am (Kd.S_after (v := (.slice (some ⟨go15, 0, none⟩) x5_2.length co15)) (v1 := (.slice (some ⟨go15, 0, none⟩) x5_2.length co15)) (ok := (fun _ => True)) (by (with_reducible repeat (first | apply Kd.S_alloc | apply Kd.S_drewN | apply Kd.S_drew)); exact Kd.S_mono HO_3.1 (fun _ hk => ⟨trivial, hk⟩)) hg (.inl rfl)); replace HO_5 := am hp_; replace HB := am ((by rw [hw]; exact below_set (HB.1) GB15.1 : Below w.heap.size w w17)); clear hg hw hp_))
 go_roundg k2
 case measure => have := HK1.1; have := HK2.1; omega
 case rel => exact ⟨(y386), (wrap64 (x6_2 + 1)), prs, H', ⟨by have := HK1.1; have := HK2.1; omega⟩, ⟨by (with_reducible repeat (first | apply Kd.S_alloc | apply Kd.S_drewN | apply Kd.S_drew)); exact Kd.S_mono HO_3.1 (fun _ hk => hk.2)⟩, ⟨pkr HO_5.1⟩, ⟨pbg⟩⟩

/-! ### r07_Reverse: function 72 -/
mutual
def r07_Reverse.l0 : Nat → List (List Int) → List (List Bool) → List (List Int) → Int → Option ((List (List Int)))
 | 0, _, _, _, _ => none
 | k + 1, x0, x3, x4, x5 => if x5 < (x0.length : Int) then (r07_Reverse.l1 k x0 x3 x4 x5 ([] : List Int) 0) else (some x4)
def r07_Reverse.l1 : Nat → List (List Int) → List (List Bool) → List (List Int) → Int → List Int → Int → Option ((List (List Int)))
 | 0, _, _, _, _, _, _ => none
 | k + 1, x0, x3, x4, x5, x6, x7 => if x7 < (x0.length : Int) then (if 0 ≤ x7 then (if x7 < (x3.length : Int) then (if 0 ≤ x5 then (if x5 < ((rd_L13 x3 x7).length : Int) then (if rdOf false (rd_L13 x3 x7) x5 = true then (if x6.length < 17592186044416 then (r07_Reverse.l1 k x0 x3 x4 x5 (x6 ++ [x7]) (wrap64 (x7 + 1))) else (none)) else (r07_Reverse.l1 k x0 x3 x4 x5 x6 (wrap64 (x7 + 1)))) else (none)) else (none)) else (none)) else (none)) else (if x4.length < 5864062014805 then (r07_Reverse.l0 k x0 x3 (x4 ++ [x6]) (wrap64 (x5 + 1))) else (none))
end
def r07_Reverse.f (k : Nat) (l0 : List (List Int)) : Option ((List (List Int))) := (r07_Table.f k l0).bind fun t407 => (r07_Reverse.l0 k l0 t407 ([] : List (List Int)) 0)
theorem r07_Reverse.mono_l : ∀ k, M4 r07_Reverse.l0 k ∧ M6 r07_Reverse.l1 k
 | 0 => ⟨fun _ _ _ _ r h => by simp [r07_Reverse.l0] at h, fun _ _ _ _ _ _ r h => by simp [r07_Reverse.l1] at h⟩
 | k + 1 => by
  obtain ⟨ih0, ih1⟩ := r07_Reverse.mono_l k
  refine ⟨?_, ?_⟩ <;> dsimp only [M4, M6] <;> intros <;> (first | unfold r07_Reverse.l0 | unfold r07_Reverse.l1) <;> repeat' first | (with_reducible first | apply ih0 | apply ih1 | apply r07_Table.mono | apply lr | apply ln | apply li | refine lb ?_ fun _ => ?_)
theorem r07_Reverse.mono : ∀ a0 k, LeO (r07_Reverse.f k a0) (r07_Reverse.f (k + 1) a0) := by
 intro a0 k
 obtain ⟨ih0, ih1⟩ := r07_Reverse.mono_l k
 unfold r07_Reverse.f
 repeat' first | (with_reducible first | apply ih0 | apply ih1 | apply r07_Table.mono | apply lr | apply ln | apply li | refine lb ?_ fun _ => ?_)
set_option maxHeartbeats 8000000 in
set_option maxRecDepth 100000 in
theorem r07_Reverse.calls (k : Nat) (A0 : Option Addr) (c0 : Nat) (l0 : List (List Int)) (r : List (List Int)) (w : World) (hr0 : Kd.C (Kd.slice 3 (Kd.int .i64)) w A0 l0.length l0) (hc0 : l0.length ≤ c0) (h : r07_Reverse.f k l0 = some r) :
  Calls Try.prog 72 #[.slice A0 l0.length c0] w fun e w' => ∃ v0_ : Value, e = .returned (v0_) ∧ Kd.S (Kd.slice 3 (Kd.int .i64)) 37 w' w.heap.size (fun _ => True) v0_ r ∧ Below w.heap.size w w' := by
 have HR0 := am hr0
 have HC0 := am hc0
 clear hr0 hc0
 have HB := am (Below.refl w.heap.size w)
 have H : ((r07_Table.f k l0).bind fun t407 => (r07_Reverse.l0 k l0 t407 ([] : List (List Int)) 0)) = some r := h
 clear h
 replace H := bnd H
 obtain ⟨t407, A2, H⟩ := H
 (try dsimp only at H)
 have H' := am H
 clear H
 go_enter Try.func72, Try.ntmps72
 go_wp2_with (first | ((with_reducible refine gate_callee (f := 92) rfl ?_); refine gC 9 Try.func92 _ (r07_Table.calls k _ _ l0 t407 _ (csd HR0.1) HC0.1 A2.1) ?_; rintro e w3 ⟨v408, rfl, ho0, hb⟩; refine ⟨_, rfl, ?_⟩; have HO409 := am (Kd.S_lower ho0 (below_size pbl)); replace HB := bsl hb; (try clear hb); (try clear ho0)))
 go_loopg [4, 5] k (fun kq v4 v5 w' => ∃ (x4_1 : List (List Int)) (x5_1 : Int), v5 = .int .i64 x5_1 ∧ Aside0 (r07_Reverse.l0 kq l0 t407 x4_1 x5_1 = some r) ∧ Aside0 (kq ≤ k) ∧ Aside0 (Kd.S (Kd.slice 4 Kd.bool) 49 w' w.heap.size (fun _ => True) v408 t407) ∧ Aside0 (Kd.S (Kd.slice 3 (Kd.int .i64)) 37 w' w.heap.size (fun _ => True) v4 x4_1) ∧ Aside0 (Below w.heap.size w w'))
 case atStart => exact ⟨(([] : List (List Int))), (0), prs, H', ⟨Nat.le_refl _⟩, ⟨pks HO409.1⟩, ⟨knl⟩, ⟨pbg⟩⟩
 clear H'
 obtain ⟨x4_1, x5_1, rfl, HA, HK1, HO_3, HO_4, HB⟩ := hrel
 obtain _ | k1 := gk
 ·exact absurd HA.1 (by simp [r07_Reverse.l0])
 have H := HA.1
 clear HA
 simp only [r07_Reverse.l0] at H
 by_cases c4 : x5_1 < (l0.length : Int)
 rotate_left
 ·rw [if_neg c4] at H
  have c4b0 : decide (x5_1 < (l0.length : Int)) = false := decide_eq_false c4
  clear c4
  obtain rfl := Option.some.inj H
  go_wp2
  go_ret
  exact ⟨_, per, by (with_reducible repeat (first | apply Kd.S_alloc | apply Kd.S_drewN | apply Kd.S_drew)); exact HO_4.1, pbg⟩
 rw [if_pos c4] at H
 have c4b0 : decide (x5_1 < (l0.length : Int)) = true := decide_eq_true c4
 clear c4
 have H' := am H
 clear H
 go_wp2
 go_loopg [6, 7] k1 (fun kq v6 v7 w' => ∃ (x6_2 : List Int) (x7_2 : Int), v7 = .int .i64 x7_2 ∧ Aside0 (r07_Reverse.l1 kq l0 t407 x4_1 x5_1 x6_2 x7_2 = some r) ∧ Aside0 (kq ≤ k1) ∧ Aside0 (Kd.S (Kd.slice 4 Kd.bool) 49 w' w.heap.size (fun _ => True) v408 t407) ∧ Aside0 (Kd.S (Kd.slice 3 (Kd.int .i64)) 37 w' w.heap.size (fun k_ => some k_ ≠ (v6 : Value).ownBlock) u4 x4_1) ∧ Aside0 (Kd.R (Kd.int .i64) 3 w' w.heap.size (fun _ => True) v6 x6_2) ∧ Aside0 (Below w.heap.size w w'))
 case atStart => exact ⟨(([] : List Int)), (0), prs, H', ⟨Nat.le_refl _⟩, ⟨pks HO_3.1⟩, ⟨by (with_reducible repeat (first | apply Kd.S_alloc | apply Kd.S_drewN | apply Kd.S_drew)); exact Kd.S_mono HO_4.1 (fun _ hk => (by simp [Value.ownBlock]))⟩, ⟨knl⟩, ⟨pbg⟩⟩
 clear H'
 try clear c4 c4b0
 obtain ⟨x6_2, x7_2, rfl, HA, HK2, HO_3, HO_4, HO_6, HB⟩ := hrel
 obtain _ | k2 := gk
 ·exact absurd HA.1 (by simp [r07_Reverse.l1])
 have H := HA.1
 clear HA
 simp only [r07_Reverse.l1] at H
 by_cases c5 : x7_2 < (l0.length : Int)
 rotate_left
 ·rw [if_neg c5] at H
  have c5b0 : decide (x7_2 < (l0.length : Int)) = false := decide_eq_false c5
  clear c5
  replace H := ifp H
  obtain ⟨c16, H⟩ := H
  have LMc16 := am c16
  clear c16
  obtain ⟨y415, hy415⟩ : ∃ y_ : List (List Int), y_ = (x4_1 ++ [x6_2]) := ⟨_, rfl⟩
  replace H : (r07_Reverse.l0 k2 l0 t407 y415 (wrap64 (x5_1 + 1))) = some r := hrp hy415 H
  have Ny415 := am hy415
  clear hy415
  have H' := am H
  clear H
  obtain ⟨Ao18, co18, eo18⟩ := Kd.R_slice HO_6.1
  subst eo18
  go_wp2_with (first | ((with_reducible refine gate_builtin (b := .append) (xs := #[.tmp 33, .tmp 35]) rfl ?_); at_builtin; refine Kd.S_append (Kd.slice 3 (Kd.int .i64)) (w0 := w) w.heap.size rfl (.tmp 33) (.tmp 35) 30 37 (.slice none 0 0) 24 rfl Try.underlying30 info37 rfl (by decide) (by omega) u4 x4_1 x6_2 [.slice Ao18 x6_2.length co18] (fun _ => True) (fun k_ => some k_ = (.slice Ao18 x6_2.length co18 : Value).ownBlock) rfl rfl ?aP (fun k_ hk_ => ((Kd.R_mono (ok' := fun k_ => ((fun _ => True)) k_ ∧ some k_ ≠ (u4 : Value).ownBlock) (Kd.R_apart' (HO_6.1) (Kd.S_typed HO_4.1) (by decide)) (fun k_ hk => ⟨trivial, hk.2⟩))).1 k_ hk_.symm) ?aF ?aO ?aB ?aS ?aL ?_; (case aP => exact Kd.M_row (Kd.R_mono (Kd.R_tight rfl (Kd.R_mono (ok' := fun k_ => ((fun _ => True)) k_ ∧ some k_ ≠ (u4 : Value).ownBlock) (Kd.R_apart' (HO_6.1) (Kd.S_typed HO_4.1) (by decide)) (fun k_ hk => ⟨trivial, hk.2⟩))) (fun _ h_ => h_))); (case aB => exact pbl); (case aF => exact (fun _ _ => trivial)); (case aO => exact (by (with_reducible repeat (first | apply Kd.S_alloc | apply Kd.S_drewN | apply Kd.S_drew)); exact Kd.S_mono HO_4.1 (fun k_ hk => ⟨trivial, fun e_ => hk e_⟩))); (case aS => exact (below_size pbl)); (case aL => have := LMc16.1; omega); intro v416 w17 ho hb hg hat; rw [← Ny415.1] at ho; have HO417 := am ho; replace HO_3 := am (Kd.S_over' (pks HO_3.1) (Kd.S_typed (pks HO_4.1)) (by decide) hg); replace HB := am hb; (try clear HO_4 HO_6); clear ho hb hg hat))
  go_roundg k2
  case measure => have := HK1.1; have := HK2.1; omega
  case rel => exact ⟨(y415), (wrap64 (x5_1 + 1)), prs, H', ⟨by have := HK1.1; have := HK2.1; omega⟩, ⟨pks HO_3.1⟩, ⟨pks HO417.1⟩, ⟨pbg⟩⟩
 rw [if_pos c5] at H
 have c5b0 : decide (x7_2 < (l0.length : Int)) = true := decide_eq_true c5
 clear c5
 replace H := ifp H
 obtain ⟨c6, H⟩ := H
 have c6b0 := decide_eq_true c6
 clear c6
 replace H := ifp H
 obtain ⟨c7, H⟩ := H
 have c7b0 := decide_eq_true c7
 clear c7
 replace H := ifp H
 obtain ⟨c8, H⟩ := H
 have c8b0 := decide_eq_true c8
 clear c8
 replace H := ifp H
 obtain ⟨c9, H⟩ := H
 have c9b0 := decide_eq_true c9
 clear c9
 obtain ⟨bq10, hbq10⟩ : ∃ b_ : Bool, b_ = (rdOf false (rd_L13 t407 x7_2) x5_1) := ⟨_, rfl⟩
 replace H : (if bq10 = true then (if x6_2.length < 17592186044416 then (r07_Reverse.l1 k2 l0 t407 x4_1 x5_1 (x6_2 ++ [x7_2]) (wrap64 (x7_2 + 1))) else (none)) else (r07_Reverse.l1 k2 l0 t407 x4_1 x5_1 x6_2 (wrap64 (x7_2 + 1)))) = some r := by rw [← hbq10] at H; exact H
 have Nbq10 := am hbq10
 clear hbq10
 by_cases c11 : bq10 = true
 rotate_left
 ·replace c11 := Bool.eq_false_iff.mpr c11
  subst c11
  rw [if_neg Bool.false_ne_true] at H
  have H' := am H
  clear H
  obtain ⟨Ao15, co15, eo15⟩ := Kd.S_slice HO_3.1
  subst eo15
  have p410 : 0 ≤ (x7_2 : Int) := dq
  have q410 : x7_2 < (t407.length : Int) := dq
  obtain ⟨ad410, A410_0, c410_0, e410, hx410_0, hl410_0, hi410_0⟩ := at_L13 (Kd.S_reads' HO_3.1).2.2 x7_2 p410 q410
  cases e410
  obtain ⟨ce410, hce410, hMe410, hcc410⟩ := Kd.S_get HO_3.1 [] x7_2 p410 (by first | exact q410 | exact dq | (have e_ := (Kd.S_reads' HO_3.1).1; omega))
  obtain ⟨ve410_0, rfl, ge410_0⟩ := hMe410
  have hv410_0 := hcc410 0 _ rfl
  rw [Nat.add_zero, show ((Kd.slice 4 Kd.bool)).sz = 1 from rfl, Nat.mul_one] at hv410_0
  replace hv410_0 := Option.some.inj (hv410_0.symm.trans hx410_0)
  rw [hv410_0] at ge410_0
  have HL410_0 := am (show Kd.R Kd.bool 4 _ _ _ _ (rd_L13 t407 x7_2) from ge410_0)
  clear hv410_0 ge410_0 hcc410 hce410
  have HR410_0 := am hi410_0
  have HC410_0 := am hl410_0
  clear hi410_0 hl410_0
  replace p410 := eq_true p410
  replace q410 := eq_true q410
  obtain ⟨p411, q411, ad411, e411, hx411_0⟩ := dbool (by repeat (first | (with_reducible exact HR410_0.1) | (with_reducible refine Kd.C_alloc ?_ _) | (with_reducible refine Kd.C_drewN ?_ _) | (with_reducible refine Kd.C_drew ?_) | exact HR410_0.1)) x5_1
  (try rw [← Nbq10.1] at hx411_0)
  cases e411
  go_wp2
  go_roundg k2
  case measure => have := HK1.1; have := HK2.1; omega
  case rel => exact ⟨(x6_2), (wrap64 (x7_2 + 1)), prs, H', ⟨by have := HK1.1; have := HK2.1; omega⟩, ⟨pks HO_3.1⟩, ⟨pks HO_4.1⟩, ⟨pkr HO_6.1⟩, ⟨pbg⟩⟩
 subst c11
 rw [if_pos rfl] at H
 replace H := ifp H
 obtain ⟨c12, H⟩ := H
 have LMc12 := am c12
 clear c12
 obtain ⟨y412, hy412⟩ : ∃ y_ : List Int, y_ = (x6_2 ++ [x7_2]) := ⟨_, rfl⟩
 replace H : (r07_Reverse.l1 k2 l0 t407 x4_1 x5_1 y412 (wrap64 (x7_2 + 1))) = some r := hrp hy412 H
 have Ny412 := am hy412
 clear hy412
 have H' := am H
 clear H
 obtain ⟨Ao13, co13, eo13⟩ := Kd.S_slice HO_3.1
 subst eo13
 have p410 : 0 ≤ (x7_2 : Int) := dq
 have q410 : x7_2 < (t407.length : Int) := dq
 obtain ⟨ad410, A410_0, c410_0, e410, hx410_0, hl410_0, hi410_0⟩ := at_L13 (Kd.S_reads' HO_3.1).2.2 x7_2 p410 q410
 cases e410
 obtain ⟨ce410, hce410, hMe410, hcc410⟩ := Kd.S_get HO_3.1 [] x7_2 p410 (by first | exact q410 | exact dq | (have e_ := (Kd.S_reads' HO_3.1).1; omega))
 obtain ⟨ve410_0, rfl, ge410_0⟩ := hMe410
 have hv410_0 := hcc410 0 _ rfl
 rw [Nat.add_zero, show ((Kd.slice 4 Kd.bool)).sz = 1 from rfl, Nat.mul_one] at hv410_0
 replace hv410_0 := Option.some.inj (hv410_0.symm.trans hx410_0)
 rw [hv410_0] at ge410_0
 have HL410_0 := am (show Kd.R Kd.bool 4 _ _ _ _ (rd_L13 t407 x7_2) from ge410_0)
 clear hv410_0 ge410_0 hcc410 hce410
 have HR410_0 := am hi410_0
 have HC410_0 := am hl410_0
 clear hi410_0 hl410_0
 replace p410 := eq_true p410
 replace q410 := eq_true q410
 obtain ⟨p411, q411, ad411, e411, hx411_0⟩ := dbool (by repeat (first | (with_reducible exact HR410_0.1) | (with_reducible refine Kd.C_alloc ?_ _) | (with_reducible refine Kd.C_drewN ?_ _) | (with_reducible refine Kd.C_drew ?_) | exact HR410_0.1)) x5_1
 (try rw [← Nbq10.1] at hx411_0)
 cases e411
 go_wp2_with (first | ((with_reducible refine gate_builtin (b := .append) (xs := #[.tmp 29, .tmp 31]) rfl ?_); at_builtin; refine Kd.R_append (Kd.int .i64) (w0 := w) w.heap.size rfl (.tmp 29) (.tmp 31) 37 3 (.int .i64 0) 8 rfl Try.underlying37 info3 rfl (by decide) (by omega) u6 x6_2 x7_2 [.int .i64 x7_2] (fun _ => True) (fun _ => False) rfl rfl ?aP (fun _ hk => hk.elim) ?aF ?aO ?aB ?aS ?aL ?_; (case aP => exact rfl); (case aB => exact pbl); (case aF => exact (fun _ _ => trivial)); (case aO => exact (pkr HO_6.1)); (case aS => exact (below_size pbl)); (case aL => have := LMc12.1; omega); intro v413 w14 ho hb hg hat; rw [← Ny412.1] at ho; have HO414 := am ho; replace HO_3 := am (Kd.S_over' (pks HO_3.1) (Kd.R_typed (pkr HO_6.1)) (by decide) hg); replace HO_4 := am (Kd.S_after (ok := (fun _ => True)) (by (with_reducible repeat (first | apply Kd.S_alloc | apply Kd.S_drewN | apply Kd.S_drew)); exact Kd.S_mono HO_4.1 (fun _ hk => ⟨trivial, hk⟩)) hg hat); replace HL410_0 := am (Kd.R_over' (pkr HL410_0.1) (Kd.R_typed (pkr HO_6.1)) (by decide) hg); replace HB := am hb; clear HO_6; clear ho hb hg hat))
 go_roundg k2
 case measure => have := HK1.1; have := HK2.1; omega
 case rel => exact ⟨(y412), (wrap64 (x7_2 + 1)), prs, H', ⟨by have := HK1.1; have := HK2.1; omega⟩, ⟨pks HO_3.1⟩, ⟨by (with_reducible repeat (first | apply Kd.S_alloc | apply Kd.S_drewN | apply Kd.S_drew)); exact Kd.S_mono HO_4.1 (fun _ hk => hk.2)⟩, ⟨pkr HO414.1⟩, ⟨pbg⟩⟩

/-! ### r13_both: function 42 -/
mutual
def r13_both.l0 : Nat → List (List Int) → List (List Int) → List (List Int) → Int → Option ((List (List Int)))
 | 0, _, _, _, _ => none
 | k + 1, x0, x3, x4, x5 => if x5 < (x0.length : Int) then (r13_both.l1 k x0 x3 x4 x5 ([] : List Int) 0) else (some x4)
def r13_both.l1 : Nat → List (List Int) → List (List Int) → List (List Int) → Int → List Int → Int → Option ((List (List Int)))
 | 0, _, _, _, _, _, _ => none
 | k + 1, x0, x3, x4, x5, x6, x7 => if 0 ≤ x5 then (if x5 < (x0.length : Int) then (if x7 < ((rd_L11 x0 x5).length : Int) then (if 0 ≤ x7 then (if x6.length < 17592186044416 then (r13_both.l1 k x0 x3 x4 x5 (x6 ++ [rd (rd_L11 x0 x5) x7]) (wrap64 (x7 + 1))) else (none)) else (none)) else (r13_both.l2 k x0 x3 x4 x5 x6 0)) else (none)) else (none)
def r13_both.l2 : Nat → List (List Int) → List (List Int) → List (List Int) → Int → List Int → Int → Option ((List (List Int)))
 | 0, _, _, _, _, _, _ => none
 | k + 1, x0, x3, x4, x5, x6, x8 => if 0 ≤ x5 then (if x5 < (x3.length : Int) then (if x8 < ((rd_L11 x3 x5).length : Int) then (if 0 ≤ x8 then (if x6.length < 17592186044416 then (r13_both.l2 k x0 x3 x4 x5 (x6 ++ [rd (rd_L11 x3 x5) x8]) (wrap64 (x8 + 1))) else (none)) else (none)) else (if x4.length < 5864062014805 then (r13_both.l0 k x0 x3 (x4 ++ [x6]) (wrap64 (x5 + 1))) else (none))) else (none)) else (none)
end
def r13_both.f (k : Nat) (l0 : List (List Int)) : Option ((List (List Int))) := (r07_Reverse.f k l0).bind fun t418 => (r13_both.l0 k l0 t418 ([] : List (List Int)) 0)
theorem r13_both.mono_l : ∀ k, M4 r13_both.l0 k ∧ M6 r13_both.l1 k ∧ M6 r13_both.l2 k
 | 0 => ⟨fun _ _ _ _ r h => by simp [r13_both.l0] at h, fun _ _ _ _ _ _ r h => by simp [r13_both.l1] at h, fun _ _ _ _ _ _ r h => by simp [r13_both.l2] at h⟩
 | k + 1 => by
  obtain ⟨ih0, ih1, ih2⟩ := r13_both.mono_l k
  refine ⟨?_, ?_, ?_⟩ <;> dsimp only [M4, M6] <;> intros <;> (first | unfold r13_both.l0 | unfold r13_both.l1 | unfold r13_both.l2) <;> repeat' first | (with_reducible first | apply ih0 | apply ih1 | apply ih2 | apply r07_Reverse.mono | apply lr | apply ln | apply li | refine lb ?_ fun _ => ?_)
theorem r13_both.mono : ∀ a0 k, LeO (r13_both.f k a0) (r13_both.f (k + 1) a0) := by
 intro a0 k
 obtain ⟨ih0, ih1, ih2⟩ := r13_both.mono_l k
 unfold r13_both.f
 repeat' first | (with_reducible first | apply ih0 | apply ih1 | apply ih2 | apply r07_Reverse.mono | apply lr | apply ln | apply li | refine lb ?_ fun _ => ?_)
set_option maxHeartbeats 8000000 in
set_option maxRecDepth 100000 in
theorem r13_both.calls (k : Nat) (A0 : Option Addr) (c0 : Nat) (l0 : List (List Int)) (r : List (List Int)) (w : World) (hr0 : Kd.C (Kd.slice 3 (Kd.int .i64)) w A0 l0.length l0) (hc0 : l0.length ≤ c0) (h : r13_both.f k l0 = some r) :
  Calls Try.prog 42 #[.slice A0 l0.length c0] w fun e w' => ∃ v0_ : Value, e = .returned (v0_) ∧ Kd.S (Kd.slice 3 (Kd.int .i64)) 37 w' w.heap.size (fun _ => True) v0_ r ∧ Below w.heap.size w w' := by
 have HR0 := am hr0
 have HC0 := am hc0
 clear hr0 hc0
 have HB := am (Below.refl w.heap.size w)
 have H : ((r07_Reverse.f k l0).bind fun t418 => (r13_both.l0 k l0 t418 ([] : List (List Int)) 0)) = some r := h
 clear h
 replace H := bnd H
 obtain ⟨t418, A2, H⟩ := H
 (try dsimp only at H)
 have H' := am H
 clear H
 go_enter Try.func42, Try.ntmps42
 go_wp2_with (first | ((with_reducible refine gate_callee (f := 72) rfl ?_); refine gC 10 Try.func72 _ (r07_Reverse.calls k _ _ l0 t418 _ (csd HR0.1) HC0.1 A2.1) ?_; rintro e w3 ⟨v419, rfl, ho0, hb⟩; refine ⟨_, rfl, ?_⟩; have HO420 := am (Kd.S_lower ho0 (below_size pbl)); replace HB := bsl hb; (try clear hb); (try clear ho0)))
 go_loopg [4, 5] k (fun kq v4 v5 w' => ∃ (x4_1 : List (List Int)) (x5_1 : Int), v5 = .int .i64 x5_1 ∧ Aside0 (r13_both.l0 kq l0 t418 x4_1 x5_1 = some r) ∧ Aside0 (kq ≤ k) ∧ Aside0 (Kd.S (Kd.slice 3 (Kd.int .i64)) 37 w' w.heap.size (fun k_ => some k_ ≠ (v4 : Value).ownBlock) v419 t418) ∧ Aside0 (Kd.S (Kd.slice 3 (Kd.int .i64)) 37 w' w.heap.size (fun k_ => some k_ ≠ (v419 : Value).ownBlock) v4 x4_1) ∧ Aside0 (Below w.heap.size w w'))
 case atStart => exact ⟨(([] : List (List Int))), (0), prs, H', ⟨Nat.le_refl _⟩, ⟨by (with_reducible repeat (first | apply Kd.S_alloc | apply Kd.S_drewN | apply Kd.S_drew)); exact Kd.S_mono HO420.1 (fun _ hk => (by simp [Value.ownBlock]))⟩, ⟨knl⟩, ⟨pbg⟩⟩
 clear H'
 obtain ⟨x4_1, x5_1, rfl, HA, HK1, HO_3, HO_4, HB⟩ := hrel
 obtain _ | k1 := gk
 ·exact absurd HA.1 (by simp [r13_both.l0])
 have H := HA.1
 clear HA
 simp only [r13_both.l0] at H
 by_cases c4 : x5_1 < (l0.length : Int)
 rotate_left
 ·rw [if_neg c4] at H
  have c4b0 : decide (x5_1 < (l0.length : Int)) = false := decide_eq_false c4
  clear c4
  obtain rfl := Option.some.inj H
  go_wp2
  go_ret
  exact ⟨_, per, by (with_reducible repeat (first | apply Kd.S_alloc | apply Kd.S_drewN | apply Kd.S_drew)); exact Kd.S_mono HO_4.1 (fun _ hk => trivial), pbg⟩
 rw [if_pos c4] at H
 have c4b0 : decide (x5_1 < (l0.length : Int)) = true := decide_eq_true c4
 clear c4
 have H' := am H
 clear H
 go_wp2
 go_loopg [6, 7] k1 (fun kq v6 v7 w' => ∃ (x6_2 : List Int) (x7_2 : Int), v7 = .int .i64 x7_2 ∧ Aside0 (r13_both.l1 kq l0 t418 x4_1 x5_1 x6_2 x7_2 = some r) ∧ Aside0 (kq ≤ k1) ∧ Aside0 (Kd.S (Kd.slice 3 (Kd.int .i64)) 37 w' w.heap.size (fun k_ => some k_ ≠ (u4 : Value).ownBlock ∧ some k_ ≠ (v6 : Value).ownBlock) v419 t418) ∧ Aside0 (Kd.S (Kd.slice 3 (Kd.int .i64)) 37 w' w.heap.size (fun k_ => some k_ ≠ (v419 : Value).ownBlock ∧ some k_ ≠ (v6 : Value).ownBlock) u4 x4_1) ∧ Aside0 (Kd.R (Kd.int .i64) 3 w' w.heap.size (fun _ => True) v6 x6_2) ∧ Aside0 (Below w.heap.size w w'))
 case atStart => exact ⟨(([] : List Int)), (0), prs, H', ⟨Nat.le_refl _⟩, ⟨by (with_reducible repeat (first | apply Kd.S_alloc | apply Kd.S_drewN | apply Kd.S_drew)); exact Kd.S_mono HO_3.1 (fun _ hk => ⟨hk, (by simp [Value.ownBlock])⟩)⟩, ⟨by (with_reducible repeat (first | apply Kd.S_alloc | apply Kd.S_drewN | apply Kd.S_drew)); exact Kd.S_mono HO_4.1 (fun _ hk => ⟨hk, (by simp [Value.ownBlock])⟩)⟩, ⟨knl⟩, ⟨pbg⟩⟩
 clear H'
 try clear c4 c4b0
 obtain ⟨x6_2, x7_2, rfl, HA, HK2, HO_3, HO_4, HO_6, HB⟩ := hrel
 obtain _ | k2 := gk
 ·exact absurd HA.1 (by simp [r13_both.l1])
 have H := HA.1
 clear HA
 simp only [r13_both.l1] at H
 replace H := ifp H
 obtain ⟨c5, H⟩ := H
 have c5b0 := decide_eq_true c5
 clear c5
 replace H := ifp H
 obtain ⟨c6, H⟩ := H
 have c6b0 := decide_eq_true c6
 clear c6
 by_cases c7 : x7_2 < ((rd_L11 l0 x5_1).length : Int)
 ·rw [if_pos c7] at H
  have c7b0 : decide (x7_2 < ((rd_L11 l0 x5_1).length : Int)) = true := decide_eq_true c7
  clear c7
  replace H := ifp H
  obtain ⟨c8, H⟩ := H
  have c8b0 := decide_eq_true c8
  clear c8
  replace H := ifp H
  obtain ⟨c9, H⟩ := H
  have LMc9 := am c9
  clear c9
  obtain ⟨y424, hy424⟩ : ∃ y_ : List Int, y_ = (x6_2 ++ [rd (rd_L11 l0 x5_1) x7_2]) := ⟨_, rfl⟩
  replace H : (r13_both.l1 k2 l0 t418 x4_1 x5_1 y424 (wrap64 (x7_2 + 1))) = some r := hrp hy424 H
  have Ny424 := am hy424
  clear hy424
  have H' := am H
  clear H
  obtain ⟨p421, q421, ad421, A421_0, c421_0, e421, hx421_0, HC421_0, HR421_0⟩ := bL11 HR0.1 HB.1 x5_1
  cases e421
  obtain ⟨p422, q422, ad422, A422_0, c422_0, e422, hx422_0, HC422_0, HR422_0⟩ := bL11 HR0.1 HB.1 x5_1
  obtain rfl : ad421 = ad422 := (by injection e422)
  have ea_ := Option.some.inj (hx421_0.symm.trans hx422_0)
  injection ea_ with ea_ en_ ec_
  subst ea_
  subst ec_
  clear en_
  obtain ⟨p423, q423, ad423, e423, hx423_0⟩ := bint HR422_0.1 HB.1 x7_2
  cases e423
  go_wp2_with (first | ((with_reducible refine gate_builtin (b := .append) (xs := #[.tmp 26, .tmp 34]) rfl ?_); at_builtin; refine Kd.R_append (Kd.int .i64) (w0 := w) w.heap.size rfl (.tmp 26) (.tmp 34) 37 3 (.int .i64 0) 8 rfl Try.underlying37 info3 rfl (by decide) (by omega) u6 x6_2 (rd (rd_L11 l0 x5_1) x7_2) [.int .i64 (rd (rd_L11 l0 x5_1) x7_2)] (fun _ => True) (fun _ => False) rfl rfl ?aP (fun _ hk => hk.elim) ?aF ?aO ?aB ?aS ?aL ?_; (case aP => exact rfl); (case aB => exact pbl); (case aF => exact (fun _ _ => trivial)); (case aO => exact (pkr HO_6.1)); (case aS => exact (below_size pbl)); (case aL => have := LMc9.1; omega); intro v425 w10 ho hb hg hat; rw [← Ny424.1] at ho; have HO426 := am ho; replace HO_3 := am (Kd.S_after (ok := (fun k_ => some k_ ≠ (u4 : Value).ownBlock)) (pks HO_3.1) hg hat); replace HO_4 := am (Kd.S_after (ok := (fun k_ => some k_ ≠ (v419 : Value).ownBlock)) (pks HO_4.1) hg hat); replace HB := am hb; clear HO_6; clear ho hb hg hat))
  go_roundg k2
  case measure => have := HK1.1; have := HK2.1; omega
  case rel => exact ⟨(y424), (wrap64 (x7_2 + 1)), prs, H', ⟨by have := HK1.1; have := HK2.1; omega⟩, ⟨pks HO_3.1⟩, ⟨pks HO_4.1⟩, ⟨pkr HO426.1⟩, ⟨pbg⟩⟩
 rw [if_neg c7] at H
 have c7b0 : decide (x7_2 < ((rd_L11 l0 x5_1).length : Int)) = false := decide_eq_false c7
 clear c7
 have H' := am H
 clear H
 obtain ⟨p421, q421, ad421, A421_0, c421_0, e421, hx421_0, HC421_0, HR421_0⟩ := bL11 HR0.1 HB.1 x5_1
 cases e421
 go_wp2
 go_loopg [6, 8] k2 (fun kq v6 v8 w' => ∃ (x6_3 : List Int) (x8_3 : Int), v8 = .int .i64 x8_3 ∧ Aside0 (r13_both.l2 kq l0 t418 x4_1 x5_1 x6_3 x8_3 = some r) ∧ Aside0 (kq ≤ k2) ∧ Aside0 (Kd.S (Kd.slice 3 (Kd.int .i64)) 37 w' w.heap.size (fun k_ => some k_ ≠ (u4 : Value).ownBlock ∧ some k_ ≠ (v6 : Value).ownBlock) v419 t418) ∧ Aside0 (Kd.S (Kd.slice 3 (Kd.int .i64)) 37 w' w.heap.size (fun k_ => some k_ ≠ (v419 : Value).ownBlock ∧ some k_ ≠ (v6 : Value).ownBlock) u4 x4_1) ∧ Aside0 (Kd.R (Kd.int .i64) 3 w' w.heap.size (fun _ => True) v6 x6_3) ∧ Aside0 (Below w.heap.size w w'))
 case atStart => exact ⟨(x6_2), (0), prs, H', ⟨Nat.le_refl _⟩, ⟨pks HO_3.1⟩, ⟨pks HO_4.1⟩, ⟨pkr HO_6.1⟩, ⟨pbg⟩⟩
 clear H'
 try clear c4 c4b0 c5 c5b0 c6 c6b0 c7 c7b0 c8 c8b0 c9 hx421_0 hx422_0 hx423_0 p421 p422 p423 q421 q422 q423
 obtain ⟨x6_3, x8_3, rfl, HA, HK3, HO_3, HO_4, HO_6, HB⟩ := hrel
 obtain _ | k3 := gk
 ·exact absurd HA.1 (by simp [r13_both.l2])
 have H := HA.1
 clear HA
 simp only [r13_both.l2] at H
 replace H := ifp H
 obtain ⟨c11, H⟩ := H
 have c11b0 := decide_eq_true c11
 clear c11
 replace H := ifp H
 obtain ⟨c12, H⟩ := H
 have c12b0 := decide_eq_true c12
 clear c12
 by_cases c13 : x8_3 < ((rd_L11 t418 x5_1).length : Int)
 rotate_left
 ·rw [if_neg c13] at H
  have c13b0 : decide (x8_3 < ((rd_L11 t418 x5_1).length : Int)) = false := decide_eq_false c13
  clear c13
  replace H := ifp H
  obtain ⟨c18, H⟩ := H
  have LMc18 := am c18
  clear c18
  obtain ⟨y433, hy433⟩ : ∃ y_ : List (List Int), y_ = (x4_1 ++ [x6_3]) := ⟨_, rfl⟩
  replace H : (r13_both.l0 k3 l0 t418 y433 (wrap64 (x5_1 + 1))) = some r := hrp hy433 H
  have Ny433 := am hy433
  clear hy433
  have H' := am H
  clear H
  obtain ⟨Ao19, co19, eo19⟩ := Kd.S_slice HO_3.1
  subst eo19
  have p427 : 0 ≤ (x5_1 : Int) := dq
  have q427 : x5_1 < (t418.length : Int) := dq
  obtain ⟨ad427, A427_0, c427_0, e427, hx427_0, hl427_0, hi427_0⟩ := at_L11 (Kd.S_reads' HO_3.1).2.2 x5_1 p427 q427
  cases e427
  obtain ⟨ce427, hce427, hMe427, hcc427⟩ := Kd.S_get HO_3.1 [] x5_1 p427 (by first | exact q427 | exact dq | (have e_ := (Kd.S_reads' HO_3.1).1; omega))
  obtain ⟨ve427_0, rfl, ge427_0⟩ := hMe427
  have hv427_0 := hcc427 0 _ rfl
  rw [Nat.add_zero, show ((Kd.slice 3 (Kd.int .i64))).sz = 1 from rfl, Nat.mul_one] at hv427_0
  replace hv427_0 := Option.some.inj (hv427_0.symm.trans hx427_0)
  rw [hv427_0] at ge427_0
  have HL427_0 := am (show Kd.R (Kd.int .i64) 3 _ _ _ _ (rd_L11 t418 x5_1) from ge427_0)
  clear hv427_0 ge427_0 hcc427 hce427
  have HR427_0 := am hi427_0
  have HC427_0 := am hl427_0
  clear hi427_0 hl427_0
  replace p427 := eq_true p427
  replace q427 := eq_true q427
  obtain ⟨Ao21, co21, eo21⟩ := Kd.R_slice HO_6.1
  subst eo21
  go_wp2_with (first | ((with_reducible refine gate_builtin (b := .append) (xs := #[.tmp 55, .tmp 57]) rfl ?_); at_builtin; refine Kd.S_append (Kd.slice 3 (Kd.int .i64)) (w0 := w) w.heap.size rfl (.tmp 55) (.tmp 57) 30 37 (.slice none 0 0) 24 rfl Try.underlying30 info37 rfl (by decide) (by omega) u4 x4_1 x6_3 [.slice Ao21 x6_3.length co21] (fun k_ => some k_ ≠ (.slice (some ad427) t418.length co19 : Value).ownBlock) (fun k_ => some k_ = (.slice Ao21 x6_3.length co21 : Value).ownBlock) rfl rfl ?aP (fun k_ hk_ => ((Kd.R_mono (ok' := fun k_ => ((fun k_ => some k_ ≠ (.slice (some ad427) t418.length co19 : Value).ownBlock)) k_ ∧ some k_ ≠ (u4 : Value).ownBlock) (Kd.R_apart' (Kd.R_apart' (HO_6.1) (Kd.S_typed HO_3.1) (by decide)) (Kd.S_typed HO_4.1) (by decide)) (fun k_ hk => ⟨hk.1.2, hk.2⟩))).1 k_ hk_.symm) ?aF ?aO ?aB ?aS ?aL ?_; (case aP => exact Kd.M_row (Kd.R_mono (Kd.R_tight rfl (Kd.R_mono (ok' := fun k_ => ((fun k_ => some k_ ≠ (.slice (some ad427) t418.length co19 : Value).ownBlock)) k_ ∧ some k_ ≠ (u4 : Value).ownBlock) (Kd.R_apart' (Kd.R_apart' (HO_6.1) (Kd.S_typed HO_3.1) (by decide)) (Kd.S_typed HO_4.1) (by decide)) (fun k_ hk => ⟨hk.1.2, hk.2⟩))) (fun _ h_ => h_))); (case aB => exact pbl); (case aF => exact (fun k_ hk => Kd.fresh' (Kd.S_lt (pks HO_3.1)) k_ hk)); (case aO => exact (by (with_reducible repeat (first | apply Kd.S_alloc | apply Kd.S_drewN | apply Kd.S_drew)); exact Kd.S_mono HO_4.1 (fun k_ hk => ⟨hk.1, fun e_ => hk.2 e_⟩))); (case aS => exact (below_size pbl)); (case aL => have := LMc18.1; omega); intro v434 w20 ho hb hg hat; rw [← Ny433.1] at ho; have HO435 := am ho; replace HO_3 := am (Kd.S_after (ok := (fun k_ => some k_ ≠ (.slice Ao21 x6_3.length co21 : Value).ownBlock)) (by (with_reducible repeat (first | apply Kd.S_alloc | apply Kd.S_drewN | apply Kd.S_drew)); exact Kd.S_mono HO_3.1 (fun _ hk => ⟨hk.2, hk.1⟩)) hg hat); replace HL427_0 := am (Kd.R_after (ok := (fun k_ => some k_ ≠ (.slice (some ad427) t418.length co19 : Value).ownBlock ∧ some k_ ≠ (.slice Ao21 x6_3.length co21 : Value).ownBlock)) (by (with_reducible repeat (first | apply Kd.R_alloc | apply Kd.R_drewN | apply Kd.R_drew)); exact Kd.R_mono HL427_0.1 (fun _ hk => ⟨⟨hk.2, hk.1.2⟩, hk.1.1⟩)) hg hat); replace HB := am hb; (try clear HO_4 HO_6); clear ho hb hg hat))
  go_roundg k3
  case measure => have := HK1.1; have := HK2.1; have := HK3.1; omega
  case rel => exact ⟨(y433), (wrap64 (x5_1 + 1)), prs, H', ⟨by have := HK1.1; have := HK2.1; have := HK3.1; omega⟩, ⟨by (with_reducible repeat (first | apply Kd.S_alloc | apply Kd.S_drewN | apply Kd.S_drew)); exact Kd.S_mono HO_3.1 (fun _ hk => hk.2)⟩, ⟨pks HO435.1⟩, ⟨pbg⟩⟩
 rw [if_pos c13] at H
 have c13b0 : decide (x8_3 < ((rd_L11 t418 x5_1).length : Int)) = true := decide_eq_true c13
 clear c13
 replace H := ifp H
 obtain ⟨c14, H⟩ := H
 have c14b0 := decide_eq_true c14
 clear c14
 replace H := ifp H
 obtain ⟨c15, H⟩ := H
 have LMc15 := am c15
 clear c15
 obtain ⟨y430, hy430⟩ : ∃ y_ : List Int, y_ = (x6_3 ++ [rd (rd_L11 t418 x5_1) x8_3]) := ⟨_, rfl⟩
 replace H : (r13_both.l2 k3 l0 t418 x4_1 x5_1 y430 (wrap64 (x8_3 + 1))) = some r := hrp hy430 H
 have Ny430 := am hy430
 clear hy430
 have H' := am H
 clear H
 obtain ⟨Ao16, co16, eo16⟩ := Kd.S_slice HO_3.1
 subst eo16
 have p427 : 0 ≤ (x5_1 : Int) := dq
 have q427 : x5_1 < (t418.length : Int) := dq
 obtain ⟨ad427, A427_0, c427_0, e427, hx427_0, hl427_0, hi427_0⟩ := at_L11 (Kd.S_reads' HO_3.1).2.2 x5_1 p427 q427
 cases e427
 obtain ⟨ce427, hce427, hMe427, hcc427⟩ := Kd.S_get HO_3.1 [] x5_1 p427 (by first | exact q427 | exact dq | (have e_ := (Kd.S_reads' HO_3.1).1; omega))
 obtain ⟨ve427_0, rfl, ge427_0⟩ := hMe427
 have hv427_0 := hcc427 0 _ rfl
 rw [Nat.add_zero, show ((Kd.slice 3 (Kd.int .i64))).sz = 1 from rfl, Nat.mul_one] at hv427_0
 replace hv427_0 := Option.some.inj (hv427_0.symm.trans hx427_0)
 rw [hv427_0] at ge427_0
 have HL427_0 := am (show Kd.R (Kd.int .i64) 3 _ _ _ _ (rd_L11 t418 x5_1) from ge427_0)
 clear hv427_0 ge427_0 hcc427 hce427
 have HR427_0 := am hi427_0
 have HC427_0 := am hl427_0
 clear hi427_0 hl427_0
 replace p427 := eq_true p427
 replace q427 := eq_true q427
 have p428 : 0 ≤ (x5_1 : Int) := dq
 have q428 : x5_1 < (t418.length : Int) := dq
 obtain ⟨ad428, A428_0, c428_0, e428, hx428_0, hl428_0, hi428_0⟩ := at_L11 (Kd.S_reads' HO_3.1).2.2 x5_1 p428 q428
 obtain rfl : ad427 = ad428 := (by injection e428)
 obtain ⟨ce428, hce428, hMe428, hcc428⟩ := Kd.S_get HO_3.1 [] x5_1 p428 (by first | exact q428 | exact dq | (have e_ := (Kd.S_reads' HO_3.1).1; omega))
 obtain ⟨ve428_0, rfl, ge428_0⟩ := hMe428
 have hv428_0 := hcc428 0 _ rfl
 rw [Nat.add_zero, show ((Kd.slice 3 (Kd.int .i64))).sz = 1 from rfl, Nat.mul_one] at hv428_0
 replace hv428_0 := Option.some.inj (hv428_0.symm.trans hx428_0)
 rw [hv428_0] at ge428_0
 have HL428_0 := am (show Kd.R (Kd.int .i64) 3 _ _ _ _ (rd_L11 t418 x5_1) from ge428_0)
 clear hv428_0 ge428_0 hcc428 hce428
 have HR428_0 := am hi428_0
 have HC428_0 := am hl428_0
 clear hi428_0 hl428_0
 replace p428 := eq_true p428
 replace q428 := eq_true q428
 have ea_ := Option.some.inj (hx427_0.symm.trans hx428_0)
 injection ea_ with ea_ en_ ec_
 subst ea_
 subst ec_
 clear en_
 obtain ⟨p429, q429, ad429, e429, hx429_0⟩ := dint (by repeat (first | (with_reducible exact HR428_0.1) | (with_reducible refine Kd.C_alloc ?_ _) | (with_reducible refine Kd.C_drewN ?_ _) | (with_reducible refine Kd.C_drew ?_) | exact HR428_0.1)) x8_3
 cases e429
 go_wp2_with (first | ((with_reducible refine gate_builtin (b := .append) (xs := #[.tmp 45, .tmp 53]) rfl ?_); at_builtin; refine Kd.R_append (Kd.int .i64) (w0 := w) w.heap.size rfl (.tmp 45) (.tmp 53) 37 3 (.int .i64 0) 8 rfl Try.underlying37 info3 rfl (by decide) (by omega) u6 x6_3 (rd (rd_L11 t418 x5_1) x8_3) [.int .i64 (rd (rd_L11 t418 x5_1) x8_3)] (fun _ => True) (fun _ => False) rfl rfl ?aP (fun _ hk => hk.elim) ?aF ?aO ?aB ?aS ?aL ?_; (case aP => exact rfl); (case aB => exact pbl); (case aF => exact (fun _ _ => trivial)); (case aO => exact (pkr HO_6.1)); (case aS => exact (below_size pbl)); (case aL => have := LMc15.1; omega); intro v431 w17 ho hb hg hat; rw [← Ny430.1] at ho; have HO432 := am ho; replace HO_3 := am (Kd.S_after (ok := (fun k_ => some k_ ≠ (u4 : Value).ownBlock)) (pks HO_3.1) hg hat); replace HO_4 := am (Kd.S_after (ok := (fun k_ => some k_ ≠ (.slice (some ad427) t418.length co16 : Value).ownBlock)) (pks HO_4.1) hg hat); replace HL427_0 := am (Kd.R_after (ok := (fun k_ => some k_ ≠ (.slice (some ad427) t418.length co16 : Value).ownBlock ∧ some k_ ≠ (u4 : Value).ownBlock)) (by (with_reducible repeat (first | apply Kd.R_alloc | apply Kd.R_drewN | apply Kd.R_drew)); exact Kd.R_mono HL427_0.1 (fun _ hk => ⟨⟨hk.2, hk.1.1⟩, hk.1.2⟩)) hg hat); replace HL428_0 := am (Kd.R_after (ok := (fun k_ => some k_ ≠ (.slice (some ad427) t418.length co16 : Value).ownBlock ∧ some k_ ≠ (u4 : Value).ownBlock)) (by (with_reducible repeat (first | apply Kd.R_alloc | apply Kd.R_drewN | apply Kd.R_drew)); exact Kd.R_mono HL428_0.1 (fun _ hk => ⟨⟨hk.2, hk.1.1⟩, hk.1.2⟩)) hg hat); replace HB := am hb; clear HO_6; clear ho hb hg hat))
 go_roundg k3
 case measure => have := HK1.1; have := HK2.1; have := HK3.1; omega
 case rel => exact ⟨(y430), (wrap64 (x8_3 + 1)), prs, H', ⟨by have := HK1.1; have := HK2.1; have := HK3.1; omega⟩, ⟨pks HO_3.1⟩, ⟨pks HO_4.1⟩, ⟨pkr HO432.1⟩, ⟨pbg⟩⟩

/-! ### r07_Paths: function 84 -/
-- IMPORTS Derived.RegionTactic,Derived.BigRegion
mutual
def r07_Paths.l0 : Nat → List (List Int) → List (List Bool) → Int → Option ((List (List Bool)))
 | 0, _, _, _ => none
 | k + 1, x0, x3, x4 => if x4 < (x0.length : Int) then (r07_Paths.l1 k x0 x3 x4 0) else (some x3)
def r07_Paths.l1 : Nat → List (List Int) → List (List Bool) → Int → Int → Option ((List (List Bool)))
 | 0, _, _, _, _ => none
 | k + 1, x0, x3, x4, x5 => if x5 < (x0.length : Int) then (r07_Paths.l2 k x0 x3 x4 x5 0) else (r07_Paths.l0 k x0 x3 (wrap64 (x4 + 1)))
def r07_Paths.l2 : Nat → List (List Int) → List (List Bool) → Int → Int → Int → Option ((List (List Bool)))
 | 0, _, _, _, _, _ => none
 | k + 1, x0, x3, x4, x5, x6 => if x6 < (x0.length : Int) then (if 0 ≤ x5 then (if x5 < (x3.length : Int) then (if 0 ≤ x6 then (if x6 < ((rd_L13 x3 x5).length : Int) then (if rdOf false (rd_L13 x3 x5) x6 = true then (r07_Paths.l2 k x0 (x3.set (x5 : Int).toNat ((rd_L13 x3 x5).set (x6 : Int).toNat true)) x4 x5 (wrap64 (x6 + 1))) else (if 0 ≤ x4 then (if x4 < ((rd_L13 x3 x5).length : Int) then (if rdOf false (rd_L13 x3 x5) x4 = true then (if x4 < (x3.length : Int) then (if x6 < ((rd_L13 x3 x4).length : Int) then (r07_Paths.l2 k x0 (x3.set (x5 : Int).toNat ((rd_L13 x3 x5).set (x6 : Int).toNat (rdOf false (rd_L13 x3 x4) x6))) x4 x5 (wrap64 (x6 + 1))) else (none)) else (none)) else (r07_Paths.l2 k x0 (x3.set (x5 : Int).toNat ((rd_L13 x3 x5).set (x6 : Int).toNat false)) x4 x5 (wrap64 (x6 + 1)))) else (none)) else (none))) else (none)) else (none)) else (none)) else (none)) else (r07_Paths.l1 k x0 x3 x4 (wrap64 (x5 + 1)))
end
def r07_Paths.f (k : Nat) (l0 : List (List Int)) : Option ((List (List Bool))) := (r07_Table.f k l0).bind fun t227 => (r07_Paths.l0 k l0 t227 0)
theorem r07_Paths.mono_l : ∀ k, (∀ y0 y1 y2, LeO (r07_Paths.l0 k y0 y1 y2) (r07_Paths.l0 (k + 1) y0 y1 y2)) ∧ (∀ y0 y1 y2 y3, LeO (r07_Paths.l1 k y0 y1 y2 y3) (r07_Paths.l1 (k + 1) y0 y1 y2 y3)) ∧ (∀ y0 y1 y2 y3 y4, LeO (r07_Paths.l2 k y0 y1 y2 y3 y4) (r07_Paths.l2 (k + 1) y0 y1 y2 y3 y4))
 | 0 => ⟨fun _ _ _ r h => by simp [r07_Paths.l0] at h, fun _ _ _ _ r h => by simp [r07_Paths.l1] at h, fun _ _ _ _ _ r h => by simp [r07_Paths.l2] at h⟩
 | k + 1 => by
  obtain ⟨ih0, ih1, ih2⟩ := r07_Paths.mono_l k
  refine ⟨?_, ?_, ?_⟩
  ·intro y0 y1 y2
   unfold r07_Paths.l0
   repeat' first
   | (with_reducible exact ih0 _ _ _)
   | (with_reducible exact ih1 _ _ _ _)
   | (with_reducible exact ih2 _ _ _ _ _)
   | (with_reducible exact r07_Table.mono _ _)
   | (with_reducible exact LeO.refl _)
   | (with_reducible exact LeO.none _)
   | (with_reducible refine LeO.ite ?_ ?_)
   | (with_reducible refine LeO.bind ?_ (fun _ => ?_))
   | exact ih0 _ _ _
   | exact ih1 _ _ _ _
   | exact ih2 _ _ _ _ _
   | exact r07_Table.mono _ _
   | exact LeO.none _
   | refine LeO.ite ?_ ?_
   | refine LeO.bind ?_ (fun _ => ?_)
  ·intro y0 y1 y2 y3
   unfold r07_Paths.l1
   repeat' first
   | (with_reducible exact ih0 _ _ _)
   | (with_reducible exact ih1 _ _ _ _)
   | (with_reducible exact ih2 _ _ _ _ _)
   | (with_reducible exact r07_Table.mono _ _)
   | (with_reducible exact LeO.refl _)
   | (with_reducible exact LeO.none _)
   | (with_reducible refine LeO.ite ?_ ?_)
   | (with_reducible refine LeO.bind ?_ (fun _ => ?_))
   | exact ih0 _ _ _
   | exact ih1 _ _ _ _
   | exact ih2 _ _ _ _ _
   | exact r07_Table.mono _ _
   | exact LeO.none _
   | refine LeO.ite ?_ ?_
   | refine LeO.bind ?_ (fun _ => ?_)
  ·intro y0 y1 y2 y3 y4
   unfold r07_Paths.l2
   repeat' first
   | (with_reducible exact ih0 _ _ _)
   | (with_reducible exact ih1 _ _ _ _)
   | (with_reducible exact ih2 _ _ _ _ _)
   | (with_reducible exact r07_Table.mono _ _)
   | (with_reducible exact LeO.refl _)
   | (with_reducible exact LeO.none _)
   | (with_reducible refine LeO.ite ?_ ?_)
   | (with_reducible refine LeO.bind ?_ (fun _ => ?_))
   | exact ih0 _ _ _
   | exact ih1 _ _ _ _
   | exact ih2 _ _ _ _ _
   | exact r07_Table.mono _ _
   | exact LeO.none _
   | refine LeO.ite ?_ ?_
   | refine LeO.bind ?_ (fun _ => ?_)
theorem r07_Paths.mono : ∀ a0 k, LeO (r07_Paths.f k a0) (r07_Paths.f (k + 1) a0) := by
 intro a0 k
 obtain ⟨ih0, ih1, ih2⟩ := r07_Paths.mono_l k
 unfold r07_Paths.f
 repeat' first
   | (with_reducible exact ih0 _ _ _)
   | (with_reducible exact ih1 _ _ _ _)
   | (with_reducible exact ih2 _ _ _ _ _)
   | (with_reducible exact r07_Table.mono _ _)
   | (with_reducible exact LeO.refl _)
   | (with_reducible exact LeO.none _)
   | (with_reducible refine LeO.ite ?_ ?_)
   | (with_reducible refine LeO.bind ?_ (fun _ => ?_))
   | exact ih0 _ _ _
   | exact ih1 _ _ _ _
   | exact ih2 _ _ _ _ _
   | exact r07_Table.mono _ _
   | exact LeO.none _
   | refine LeO.ite ?_ ?_
   | refine LeO.bind ?_ (fun _ => ?_)
/-- The row that a vertex has in the table, and its cells. -/
theorem tab_row {w : World} {base n cap gt : Nat} {xs : List (List Bool)} (h : Kd.S (Kd.slice 4 Kd.bool) 49 w base (fun _ => True) (.slice (some ⟨gt, 0, none⟩) n cap) xs) (i : Int) (h0 : 0 ≤ i) (hi : i < n) :
  ∃ A c, w.cell? ⟨gt, i.toNat, none⟩ = some (.slice A (rd_L13 xs i).length c) ∧ (rd_L13 xs i).length ≤ c ∧
   ∀ j : Int, 0 ≤ j → j < (rd_L13 xs i).length → ∃ g, A = some ⟨g, 0, none⟩ ∧ base ≤ g ∧ w.cell? ⟨g, j.toNat, none⟩ = some (.bool (rdOf false (rd_L13 xs i) j)) ∧ w.frozen? ⟨g, j.toNat, none⟩ = false ∧
    ∀ x, Kd.S (Kd.slice 4 Kd.bool) 49 (w.setCell ⟨g, j.toNat, none⟩ (.bool x)) base (fun _ => True) (.slice (some ⟨gt, 0, none⟩) n cap) (xs.set i.toNat ((rd_L13 xs i).set j.toNat x)) := S_row h false i h0 hi

set_option maxHeartbeats 4000000 in
set_option maxRecDepth 100000 in
theorem r07_Paths.calls (k : Nat) (A0 : Option Addr) (c0 : Nat) (l0 : List (List Int)) (r : List (List Bool)) (w : World) (hr0 : Kd.C (Kd.slice 3 (Kd.int .i64)) w A0 l0.length l0) (hc0 : l0.length ≤ c0) (h : r07_Paths.f k l0 = some r) :
  Calls Try.prog 84 #[.slice A0 l0.length c0] w fun e w' => ∃ v0_ : Value, e = .returned (v0_) ∧ Kd.S (Kd.slice 4 Kd.bool) 49 w' w.heap.size (fun _ => True) v0_ r ∧ Below w.heap.size w w' := by
 have HR0 := Aside0.mk hr0
 have HC0 := Aside0.mk hc0
 clear hr0 hc0
 unfold r07_Paths.f at h
 obtain ⟨t, ht, h⟩ := Option.bind_eq_some_iff.mp h
 have HT := Aside0.mk ht
 have H := Aside0.mk h
 clear ht h
 go_enter Try.func84, Try.ntmps84
 go_wp2_with (first | (go_at_call 92; refine (r07_Table.calls k _ _ _ _ _ HR0.out HC0.out HT.out).mono ?_; rintro e w1 ⟨vt, rfl, ho, hb⟩; have HO := Aside0.mk ho; have HB := Aside0.mk hb; clear ho hb))
 go_loopg [4] k (fun kq v4 w' => ∃ (x3 : List (List Bool)) (x4 : Int), v4 = .int .i64 x4 ∧ Aside0 (r07_Paths.l0 kq l0 x3 x4 = some r) ∧ Aside0 (kq ≤ k) ∧ Aside0 (Kd.S (Kd.slice 4 Kd.bool) 49 w' w.heap.size (fun _ => True) vt x3) ∧ Aside0 (Below w.heap.size w w'))
 case atStart => exact ⟨_, 0, rfl, H, ⟨Nat.le_refl _⟩, HO, HB⟩
 case round =>
  clear H HO HB
  obtain ⟨x3, x4, rfl, HA, HK1, HO, HB⟩ := hrel
  cases gk with
  | zero => exact absurd HA.out (by simp [r07_Paths.l0])
  | succ k1 =>
  have H := HA.out
  clear HA
  simp only [r07_Paths.l0] at H
  by_cases c1 : x4 < (l0.length : Int)
  case neg =>
   rw [if_neg c1] at H
   have c1b : decide (x4 < (l0.length : Int)) = false := decide_eq_false c1
   obtain rfl := Option.some.inj H
   clear H
   obtain ⟨A5, k5, rfl⟩ := Kd.S_slice HO.out
   go_wp2
   go_ret
   exact ⟨_, rfl, HO.out, HB.out⟩
  rw [if_pos c1] at H
  have c1b : decide (x4 < (l0.length : Int)) = true := decide_eq_true c1
  have H' := Aside0.mk H
  clear H
  go_wp2
  go_loopg [5] k1 (fun kq v5 w' => ∃ (x3 : List (List Bool)) (x5 : Int), v5 = .int .i64 x5 ∧ Aside0 (r07_Paths.l1 kq l0 x3 x4 x5 = some r) ∧ Aside0 (kq ≤ k1) ∧ Aside0 (Kd.S (Kd.slice 4 Kd.bool) 49 w' w.heap.size (fun _ => True) vt x3) ∧ Aside0 (Below w.heap.size w w'))
  case atStart => exact ⟨_, 0, rfl, H', ⟨Nat.le_refl _⟩, HO, HB⟩
  case round =>
   clear H' HO HB
   obtain ⟨x3, x5, rfl, HA, HK2, HO, HB⟩ := hrel
   cases gk with
   | zero => exact absurd HA.out (by simp [r07_Paths.l1])
   | succ k2 =>
   have H := HA.out
   clear HA
   simp only [r07_Paths.l1] at H
   by_cases c2 : x5 < (l0.length : Int)
   case neg =>
    rw [if_neg c2] at H
    have c2b : decide (x5 < (l0.length : Int)) = false := decide_eq_false c2
    have H' := Aside0.mk H
    clear H
    go_wp2
    go_roundg k2
    case measure => have := HK1.out; have := HK2.out; omega
    case rel => exact ⟨_, _, rfl, H', ⟨by have := HK1.out; have := HK2.out; omega⟩, HO, HB⟩
   rw [if_pos c2] at H
   have c2b : decide (x5 < (l0.length : Int)) = true := decide_eq_true c2
   have H' := Aside0.mk H
   clear H
   go_wp2
   go_loopg [6] k2 (fun kq v6 w' => ∃ (x3 : List (List Bool)) (x6 : Int), v6 = .int .i64 x6 ∧ Aside0 (r07_Paths.l2 kq l0 x3 x4 x5 x6 = some r) ∧ Aside0 (kq ≤ k2) ∧ Aside0 (Kd.S (Kd.slice 4 Kd.bool) 49 w' w.heap.size (fun _ => True) vt x3) ∧ Aside0 (Below w.heap.size w w'))
   case atStart => exact ⟨_, 0, rfl, H', ⟨Nat.le_refl _⟩, HO, HB⟩
   case round =>
    clear H' HO HB
    obtain ⟨x3, x6, rfl, HA, HK3, HO, HB⟩ := hrel
    cases gk with
    | zero => exact absurd HA.out (by simp [r07_Paths.l2])
    | succ k3 =>
    have H := HA.out
    clear HA
    simp only [r07_Paths.l2] at H
    by_cases c3 : x6 < (l0.length : Int)
    case neg =>
     rw [if_neg c3] at H
     have c3b : decide (x6 < (l0.length : Int)) = false := decide_eq_false c3
     have H' := Aside0.mk H
     clear H
     go_wp2
     go_roundg k3
     case measure => have := HK1.out; have := HK2.out; have := HK3.out; omega
     case rel => exact ⟨_, _, rfl, H', ⟨by have := HK3.out; have := HK2.out; omega⟩, HO, HB⟩
    rw [if_pos c3] at H
    have c3b : decide (x6 < (l0.length : Int)) = true := decide_eq_true c3
    by_cases d1 : 0 ≤ x5
    case neg => rw [if_neg d1] at H; cases H
    rw [if_pos d1] at H
    by_cases d2 : x5 < (x3.length : Int)
    case neg => rw [if_neg d2] at H; cases H
    rw [if_pos d2] at H
    by_cases d3 : 0 ≤ x6
    case neg => rw [if_neg d3] at H; cases H
    rw [if_pos d3] at H
    by_cases d4 : x6 < ((rd_L13 x3 x5).length : Int)
    case neg => rw [if_neg d4] at H; cases H
    rw [if_pos d4] at H
    obtain ⟨gt, ct, rfl, _, _, _⟩ := Kd.S_form HO.out (by omega)
    obtain ⟨A1, k1', hx1, _, hrow⟩ := tab_row HO.out x5 d1 d2
    obtain ⟨gr, rfl, hgr, hx2, hf2, hput⟩ := hrow x6 d3 d4
    have hput' := Aside0.mk hput
    by_cases e1 : rdOf false (rd_L13 x3 x5) x6 = true
    ·rw [if_pos e1] at H
     rw [e1] at hx2
     have H' := Aside0.mk H
     clear H hput hrow e1
     go_wp2
     go_region
     go_wp2
     go_roundg k3
     case measure => have := HK1.out; have := HK2.out; have := HK3.out; omega
     case rel => exact ⟨_, _, rfl, H', ⟨by have := HK3.out; omega⟩, ⟨Kd.S_drew (hput'.out true)⟩, ⟨below_drew (below_set HB.out hgr)⟩⟩
    ·rw [if_neg e1] at H
     have e1' : rdOf false (rd_L13 x3 x5) x6 = false := Bool.eq_false_iff.mpr e1
     rw [e1'] at hx2
     by_cases d5 : 0 ≤ x4
     case neg => rw [if_neg d5] at H; cases H
     rw [if_pos d5] at H
     by_cases d6 : x4 < ((rd_L13 x3 x5).length : Int)
     case neg => rw [if_neg d6] at H; cases H
     rw [if_pos d6] at H
     obtain ⟨gr2, eg, _, hx3, hf3, _⟩ := hrow x4 d5 d6
     injection eg with eg
     injection eg with eg _ _
     subst eg
     by_cases e2 : rdOf false (rd_L13 x3 x5) x4 = true
     ·rw [if_pos e2] at H
      rw [e2] at hx3
      by_cases d7 : x4 < (x3.length : Int)
      case neg => rw [if_neg d7] at H; cases H
      rw [if_pos d7] at H
      by_cases d8 : x6 < ((rd_L13 x3 x4).length : Int)
      case neg => rw [if_neg d8] at H; cases H
      rw [if_pos d8] at H
      obtain ⟨A3, k3', hx4, _, hrow2⟩ := tab_row HO.out x4 d5 d7
      obtain ⟨gq, rfl, _, hx5, hf5, _⟩ := hrow2 x6 d3 d8
      obtain ⟨b3, eb3⟩ : ∃ b3, b3 = rdOf false (rd_L13 x3 x4) x6 := ⟨_, rfl⟩
      rw [← eb3] at H hx5
      have H' := Aside0.mk H
      clear H hput hrow hrow2 e1' e2 eb3
      cases b3 with
      | true =>
       go_wp2
       go_region
       go_wp2
       go_roundg k3
       case measure => have := HK1.out; have := HK2.out; have := HK3.out; omega
       case rel => exact ⟨_, _, rfl, H', ⟨by have := HK3.out; omega⟩, ⟨Kd.S_drew (hput'.out true)⟩, ⟨below_drew (below_set HB.out hgr)⟩⟩
      | false =>
       go_wp2
       go_region
       go_wp2
       go_roundg k3
       case measure => have := HK1.out; have := HK2.out; have := HK3.out; omega
       case rel => exact ⟨_, _, rfl, H', ⟨by have := HK3.out; omega⟩, ⟨Kd.S_drew (hput'.out false)⟩, ⟨below_drew (below_set HB.out hgr)⟩⟩
     ·rw [if_neg e2] at H
      have e2' : rdOf false (rd_L13 x3 x5) x4 = false := Bool.eq_false_iff.mpr e2
      rw [e2'] at hx3
      have H' := Aside0.mk H
      clear H hput hrow e1' e2 e2'
      go_wp2
      go_region
      go_wp2
      go_roundg k3
      case measure => have := HK1.out; have := HK2.out; have := HK3.out; omega
      case rel => exact ⟨_, _, rfl, H', ⟨by have := HK3.out; omega⟩, ⟨Kd.S_drew (hput'.out false)⟩, ⟨below_drew (below_set HB.out hgr)⟩⟩

/-! ### r07_Components: function 66 -/
mutual
def r07_Components.l0 : Nat → List (List Int) → List (List Bool) → List Int → Int → Option (List Int)
 | 0, _, _, _, _ => none
 | k + 1, x0, x3, x4, x5 => if x5 < (x0.length : Int) then (r07_Components.l1 k x0 x3 x4 x5 0) else (some x4)
def r07_Components.l1 : Nat → List (List Int) → List (List Bool) → List Int → Int → Int → Option (List Int)
 | 0, _, _, _, _, _ => none
 | k + 1, x0, x3, x4, x5, x6 => if x6 < x5 then (if 0 ≤ x6 then (if x6 < (x3.length : Int) then (if 0 ≤ x5 then (if x5 < ((rd_L13 x3 x6).length : Int) then (if rdOf false (rd_L13 x3 x6) x5 = true then (if x5 < (x3.length : Int) then (if x6 < ((rd_L13 x3 x5).length : Int) then (if (rdOf false (rd_L13 x3 x5) x6 = true) then (if x4.length < 17592186044416 then (r07_Components.l0 k x0 x3 (x4 ++ [x6]) (wrap64 (x5 + 1))) else (none)) else (r07_Components.l1 k x0 x3 x4 x5 (wrap64 (x6 + 1)))) else (none)) else (none)) else (r07_Components.l1 k x0 x3 x4 x5 (wrap64 (x6 + 1)))) else (none)) else (none)) else (none)) else (none)) else (if x4.length < 17592186044416 then (r07_Components.l0 k x0 x3 (x4 ++ [x6]) (wrap64 (x5 + 1))) else (none))
end
def r07_Components.f (k : Nat) (l0 : List (List Int)) : Option (List Int) := (r07_Paths.f k l0).bind fun t390 => (r07_Components.l0 k l0 t390 ([] : List Int) 0)
theorem r07_Components.mono_l : ∀ k, M4 r07_Components.l0 k ∧ M5 r07_Components.l1 k
 | 0 => ⟨fun _ _ _ _ r h => by simp [r07_Components.l0] at h, fun _ _ _ _ _ r h => by simp [r07_Components.l1] at h⟩
 | k + 1 => by
  obtain ⟨ih0, ih1⟩ := r07_Components.mono_l k
  refine ⟨?_, ?_⟩ <;> dsimp only [M4, M5] <;> intros <;> (first | unfold r07_Components.l0 | unfold r07_Components.l1) <;> repeat' first | (with_reducible first | apply ih0 | apply ih1 | apply r07_Paths.mono | apply lr | apply ln | apply li | refine lb ?_ fun _ => ?_)
theorem r07_Components.mono : ∀ a0 k, LeO (r07_Components.f k a0) (r07_Components.f (k + 1) a0) := by
 intro a0 k
 obtain ⟨ih0, ih1⟩ := r07_Components.mono_l k
 unfold r07_Components.f
 repeat' first | (with_reducible first | apply ih0 | apply ih1 | apply r07_Paths.mono | apply lr | apply ln | apply li | refine lb ?_ fun _ => ?_)
set_option maxHeartbeats 8000000 in
set_option maxRecDepth 100000 in
theorem r07_Components.calls (k : Nat) (A0 : Option Addr) (c0 : Nat) (l0 : List (List Int)) (r : List Int) (w : World) (hr0 : Kd.C (Kd.slice 3 (Kd.int .i64)) w A0 l0.length l0) (hc0 : l0.length ≤ c0) (h : r07_Components.f k l0 = some r) :
  Calls Try.prog 66 #[.slice A0 l0.length c0] w fun e w' => ∃ v0_ : Value, e = .returned (v0_) ∧ Kd.R (Kd.int .i64) 3 w' w.heap.size (fun _ => True) v0_ r ∧ Below w.heap.size w w' := by
 have HR0 := am hr0
 have HC0 := am hc0
 clear hr0 hc0
 have HB := am (Below.refl w.heap.size w)
 have H : ((r07_Paths.f k l0).bind fun t390 => (r07_Components.l0 k l0 t390 ([] : List Int) 0)) = some r := h
 clear h
 replace H := bnd H
 obtain ⟨t390, A2, H⟩ := H
 (try dsimp only at H)
 have H' := am H
 clear H
 go_enter Try.func66, Try.ntmps66
 go_wp2_with (first | ((with_reducible refine gate_callee (f := 84) rfl ?_); refine gC 8 Try.func84 _ (r07_Paths.calls k _ _ l0 t390 _ (csd HR0.1) HC0.1 A2.1) ?_; rintro e w3 ⟨v391, rfl, ho0, hb⟩; refine ⟨_, rfl, ?_⟩; have HO392 := am (Kd.S_lower ho0 (below_size pbl)); replace HB := bsl hb; (try clear hb); (try clear ho0)))
 go_loopg [4, 5] k (fun kq v4 v5 w' => ∃ (x4_1 : List Int) (x5_1 : Int), v5 = .int .i64 x5_1 ∧ Aside0 (r07_Components.l0 kq l0 t390 x4_1 x5_1 = some r) ∧ Aside0 (kq ≤ k) ∧ Aside0 (Kd.S (Kd.slice 4 Kd.bool) 49 w' w.heap.size (fun _ => True) v391 t390) ∧ Aside0 (Kd.R (Kd.int .i64) 3 w' w.heap.size (fun _ => True) v4 x4_1) ∧ Aside0 (Below w.heap.size w w'))
 case atStart => exact ⟨(([] : List Int)), (0), prs, H', ⟨Nat.le_refl _⟩, ⟨pks HO392.1⟩, ⟨knl⟩, ⟨pbg⟩⟩
 clear H'
 obtain ⟨x4_1, x5_1, rfl, HA, HK1, HO_3, HO_4, HB⟩ := hrel
 obtain _ | k1 := gk
 ·exact absurd HA.1 (by simp [r07_Components.l0])
 have H := HA.1
 clear HA
 simp only [r07_Components.l0] at H
 by_cases c4 : x5_1 < (l0.length : Int)
 rotate_left
 ·rw [if_neg c4] at H
  have c4b0 : decide (x5_1 < (l0.length : Int)) = false := decide_eq_false c4
  clear c4
  obtain rfl := Option.some.inj H
  go_wp2
  go_ret
  exact ⟨_, per, by (with_reducible repeat (first | apply Kd.R_alloc | apply Kd.R_drewN | apply Kd.R_drew)); exact HO_4.1, pbg⟩
 rw [if_pos c4] at H
 have c4b0 : decide (x5_1 < (l0.length : Int)) = true := decide_eq_true c4
 clear c4
 have H' := am H
 clear H
 go_wp2
 go_loopg [6] k1 (fun kq v6 w' => ∃ (x6_2 : Int), v6 = .int .i64 x6_2 ∧ Aside0 (r07_Components.l1 kq l0 t390 x4_1 x5_1 x6_2 = some r) ∧ Aside0 (kq ≤ k1) ∧ Aside0 (Kd.S (Kd.slice 4 Kd.bool) 49 w' w.heap.size (fun _ => True) v391 t390) ∧ Aside0 (Kd.R (Kd.int .i64) 3 w' w.heap.size (fun _ => True) u4 x4_1) ∧ Aside0 (Below w.heap.size w w'))
 case atStart => exact ⟨(0), prs, H', ⟨Nat.le_refl _⟩, ⟨pks HO_3.1⟩, ⟨pkr HO_4.1⟩, ⟨pbg⟩⟩
 clear H'
 try clear c4 c4b0
 obtain ⟨x6_2, rfl, HA, HK2, HO_3, HO_4, HB⟩ := hrel
 obtain _ | k2 := gk
 ·exact absurd HA.1 (by simp [r07_Components.l1])
 have H := HA.1
 clear HA
 simp only [r07_Components.l1] at H
 by_cases c5 : x6_2 < x5_1
 rotate_left
 ·rw [if_neg c5] at H
  have c5b0 : decide (x6_2 < x5_1) = false := decide_eq_false c5
  clear c5
  replace H := ifp H
  obtain ⟨c21, H⟩ := H
  have LMc21 := am c21
  clear c21
  obtain ⟨y400, hy400⟩ : ∃ y_ : List Int, y_ = (x4_1 ++ [x6_2]) := ⟨_, rfl⟩
  replace H : (r07_Components.l0 k2 l0 t390 y400 (wrap64 (x5_1 + 1))) = some r := hrp hy400 H
  have Ny400 := am hy400
  clear hy400
  have H' := am H
  clear H
  go_wp2_with (first | ((with_reducible refine gate_builtin (b := .append) (xs := #[.tmp 39, .tmp 41]) rfl ?_); at_builtin; refine Kd.R_append (Kd.int .i64) (w0 := w) w.heap.size rfl (.tmp 39) (.tmp 41) 37 3 (.int .i64 0) 8 rfl Try.underlying37 info3 rfl (by decide) (by omega) u4 x4_1 x6_2 [.int .i64 x6_2] (fun _ => True) (fun _ => False) rfl rfl ?aP (fun _ hk => hk.elim) ?aF ?aO ?aB ?aS ?aL ?_; (case aP => exact rfl); (case aB => exact pbl); (case aF => exact (fun _ _ => trivial)); (case aO => exact (pkr HO_4.1)); (case aS => exact (below_size pbl)); (case aL => have := LMc21.1; omega); intro v401 w22 ho hb hg hat; rw [← Ny400.1] at ho; have HO402 := am ho; replace HO_3 := am (Kd.S_over' (pks HO_3.1) (Kd.R_typed (pkr HO_4.1)) (by decide) hg); replace HB := am hb; clear HO_4; clear ho hb hg hat))
  go_roundg k2
  case measure => have := HK1.1; have := HK2.1; omega
  case rel => exact ⟨(y400), (wrap64 (x5_1 + 1)), prs, H', ⟨by have := HK1.1; have := HK2.1; omega⟩, ⟨pks HO_3.1⟩, ⟨pkr HO402.1⟩, ⟨pbg⟩⟩
 rw [if_pos c5] at H
 have c5b0 : decide (x6_2 < x5_1) = true := decide_eq_true c5
 clear c5
 replace H := ifp H
 obtain ⟨c6, H⟩ := H
 have c6b0 := decide_eq_true c6
 clear c6
 replace H := ifp H
 obtain ⟨c7, H⟩ := H
 have c7b0 := decide_eq_true c7
 clear c7
 replace H := ifp H
 obtain ⟨c8, H⟩ := H
 have c8b0 := decide_eq_true c8
 clear c8
 replace H := ifp H
 obtain ⟨c9, H⟩ := H
 have c9b0 := decide_eq_true c9
 clear c9
 obtain ⟨bq10, hbq10⟩ : ∃ b_ : Bool, b_ = (rdOf false (rd_L13 t390 x6_2) x5_1) := ⟨_, rfl⟩
 replace H : (if bq10 = true then (if x5_1 < (t390.length : Int) then (if x6_2 < ((rd_L13 t390 x5_1).length : Int) then (if (rdOf false (rd_L13 t390 x5_1) x6_2 = true) then (if x4_1.length < 17592186044416 then (r07_Components.l0 k2 l0 t390 (x4_1 ++ [x6_2]) (wrap64 (x5_1 + 1))) else (none)) else (r07_Components.l1 k2 l0 t390 x4_1 x5_1 (wrap64 (x6_2 + 1)))) else (none)) else (none)) else (r07_Components.l1 k2 l0 t390 x4_1 x5_1 (wrap64 (x6_2 + 1)))) = some r := by rw [← hbq10] at H; exact H
 have Nbq10 := am hbq10
 clear hbq10
 by_cases c11 : bq10 = true
 rotate_left
 ·replace c11 := Bool.eq_false_iff.mpr c11
  subst c11
  rw [if_neg Bool.false_ne_true] at H
  have H' := am H
  clear H
  obtain ⟨Ao20, co20, eo20⟩ := Kd.S_slice HO_3.1
  subst eo20
  have p393 : 0 ≤ (x6_2 : Int) := dq
  have q393 : x6_2 < (t390.length : Int) := dq
  obtain ⟨ad393, A393_0, c393_0, e393, hx393_0, hl393_0, hi393_0⟩ := at_L13 (Kd.S_reads' HO_3.1).2.2 x6_2 p393 q393
  cases e393
  obtain ⟨ce393, hce393, hMe393, hcc393⟩ := Kd.S_get HO_3.1 [] x6_2 p393 (by first | exact q393 | exact dq | (have e_ := (Kd.S_reads' HO_3.1).1; omega))
  obtain ⟨ve393_0, rfl, ge393_0⟩ := hMe393
  have hv393_0 := hcc393 0 _ rfl
  rw [Nat.add_zero, show ((Kd.slice 4 Kd.bool)).sz = 1 from rfl, Nat.mul_one] at hv393_0
  replace hv393_0 := Option.some.inj (hv393_0.symm.trans hx393_0)
  rw [hv393_0] at ge393_0
  have HL393_0 := am (show Kd.R Kd.bool 4 _ _ _ _ (rd_L13 t390 x6_2) from ge393_0)
  clear hv393_0 ge393_0 hcc393 hce393
  have HR393_0 := am hi393_0
  have HC393_0 := am hl393_0
  clear hi393_0 hl393_0
  replace p393 := eq_true p393
  replace q393 := eq_true q393
  obtain ⟨p394, q394, ad394, e394, hx394_0⟩ := dbool (by repeat (first | (with_reducible exact HR393_0.1) | (with_reducible refine Kd.C_alloc ?_ _) | (with_reducible refine Kd.C_drewN ?_ _) | (with_reducible refine Kd.C_drew ?_) | exact HR393_0.1)) x5_1
  (try rw [← Nbq10.1] at hx394_0)
  cases e394
  go_wp2
  go_roundg k2
  case measure => have := HK1.1; have := HK2.1; omega
  case rel => exact ⟨(wrap64 (x6_2 + 1)), prs, H', ⟨by have := HK1.1; have := HK2.1; omega⟩, ⟨pks HO_3.1⟩, ⟨pkr HO_4.1⟩, ⟨pbg⟩⟩
 subst c11
 rw [if_pos rfl] at H
 replace H := ifp H
 obtain ⟨c12, H⟩ := H
 have c12b0 := decide_eq_true c12
 clear c12
 replace H := ifp H
 obtain ⟨c13, H⟩ := H
 have c13b0 := decide_eq_true c13
 clear c13
 obtain ⟨bq14, hbq14⟩ : ∃ b_ : Bool, b_ = (rdOf false (rd_L13 t390 x5_1) x6_2) := ⟨_, rfl⟩
 replace H : (if (bq14 = true) then (if x4_1.length < 17592186044416 then (r07_Components.l0 k2 l0 t390 (x4_1 ++ [x6_2]) (wrap64 (x5_1 + 1))) else (none)) else (r07_Components.l1 k2 l0 t390 x4_1 x5_1 (wrap64 (x6_2 + 1)))) = some r := by rw [← hbq14] at H; exact H
 have Nbq14 := am hbq14
 clear hbq14
 by_cases c15 : (bq14 = true)
 rotate_left
 ·replace c15 := Bool.eq_false_iff.mpr c15
  subst c15
  rw [if_neg Bool.false_ne_true] at H
  have H' := am H
  clear H
  obtain ⟨Ao19, co19, eo19⟩ := Kd.S_slice HO_3.1
  subst eo19
  have p393 : 0 ≤ (x6_2 : Int) := dq
  have q393 : x6_2 < (t390.length : Int) := dq
  obtain ⟨ad393, A393_0, c393_0, e393, hx393_0, hl393_0, hi393_0⟩ := at_L13 (Kd.S_reads' HO_3.1).2.2 x6_2 p393 q393
  cases e393
  obtain ⟨ce393, hce393, hMe393, hcc393⟩ := Kd.S_get HO_3.1 [] x6_2 p393 (by first | exact q393 | exact dq | (have e_ := (Kd.S_reads' HO_3.1).1; omega))
  obtain ⟨ve393_0, rfl, ge393_0⟩ := hMe393
  have hv393_0 := hcc393 0 _ rfl
  rw [Nat.add_zero, show ((Kd.slice 4 Kd.bool)).sz = 1 from rfl, Nat.mul_one] at hv393_0
  replace hv393_0 := Option.some.inj (hv393_0.symm.trans hx393_0)
  rw [hv393_0] at ge393_0
  have HL393_0 := am (show Kd.R Kd.bool 4 _ _ _ _ (rd_L13 t390 x6_2) from ge393_0)
  clear hv393_0 ge393_0 hcc393 hce393
  have HR393_0 := am hi393_0
  have HC393_0 := am hl393_0
  clear hi393_0 hl393_0
  replace p393 := eq_true p393
  replace q393 := eq_true q393
  obtain ⟨p394, q394, ad394, e394, hx394_0⟩ := dbool (by repeat (first | (with_reducible exact HR393_0.1) | (with_reducible refine Kd.C_alloc ?_ _) | (with_reducible refine Kd.C_drewN ?_ _) | (with_reducible refine Kd.C_drew ?_) | exact HR393_0.1)) x5_1
  (try rw [← Nbq10.1] at hx394_0)
  (try rw [← Nbq14.1] at hx394_0)
  cases e394
  have p395 : 0 ≤ (x5_1 : Int) := dq
  have q395 : x5_1 < (t390.length : Int) := dq
  obtain ⟨ad395, A395_0, c395_0, e395, hx395_0, hl395_0, hi395_0⟩ := at_L13 (Kd.S_reads' HO_3.1).2.2 x5_1 p395 q395
  obtain rfl : ad393 = ad395 := (by injection e395)
  obtain ⟨ce395, hce395, hMe395, hcc395⟩ := Kd.S_get HO_3.1 [] x5_1 p395 (by first | exact q395 | exact dq | (have e_ := (Kd.S_reads' HO_3.1).1; omega))
  obtain ⟨ve395_0, rfl, ge395_0⟩ := hMe395
  have hv395_0 := hcc395 0 _ rfl
  rw [Nat.add_zero, show ((Kd.slice 4 Kd.bool)).sz = 1 from rfl, Nat.mul_one] at hv395_0
  replace hv395_0 := Option.some.inj (hv395_0.symm.trans hx395_0)
  rw [hv395_0] at ge395_0
  have HL395_0 := am (show Kd.R Kd.bool 4 _ _ _ _ (rd_L13 t390 x5_1) from ge395_0)
  clear hv395_0 ge395_0 hcc395 hce395
  have HR395_0 := am hi395_0
  have HC395_0 := am hl395_0
  clear hi395_0 hl395_0
  replace p395 := eq_true p395
  replace q395 := eq_true q395
  obtain ⟨p396, q396, ad396, e396, hx396_0⟩ := dbool (by repeat (first | (with_reducible exact HR395_0.1) | (with_reducible refine Kd.C_alloc ?_ _) | (with_reducible refine Kd.C_drewN ?_ _) | (with_reducible refine Kd.C_drew ?_) | exact HR395_0.1)) x6_2
  (try rw [← Nbq10.1] at hx396_0)
  (try rw [← Nbq14.1] at hx396_0)
  cases e396
  go_wp2
  go_roundg k2
  case measure => have := HK1.1; have := HK2.1; omega
  case rel => exact ⟨(wrap64 (x6_2 + 1)), prs, H', ⟨by have := HK1.1; have := HK2.1; omega⟩, ⟨pks HO_3.1⟩, ⟨pkr HO_4.1⟩, ⟨pbg⟩⟩
 subst c15
 rw [if_pos rfl] at H
 replace H := ifp H
 obtain ⟨c16, H⟩ := H
 have LMc16 := am c16
 clear c16
 obtain ⟨y397, hy397⟩ : ∃ y_ : List Int, y_ = (x4_1 ++ [x6_2]) := ⟨_, rfl⟩
 replace H : (r07_Components.l0 k2 l0 t390 y397 (wrap64 (x5_1 + 1))) = some r := hrp hy397 H
 have Ny397 := am hy397
 clear hy397
 have H' := am H
 clear H
 obtain ⟨Ao17, co17, eo17⟩ := Kd.S_slice HO_3.1
 subst eo17
 have p393 : 0 ≤ (x6_2 : Int) := dq
 have q393 : x6_2 < (t390.length : Int) := dq
 obtain ⟨ad393, A393_0, c393_0, e393, hx393_0, hl393_0, hi393_0⟩ := at_L13 (Kd.S_reads' HO_3.1).2.2 x6_2 p393 q393
 cases e393
 obtain ⟨ce393, hce393, hMe393, hcc393⟩ := Kd.S_get HO_3.1 [] x6_2 p393 (by first | exact q393 | exact dq | (have e_ := (Kd.S_reads' HO_3.1).1; omega))
 obtain ⟨ve393_0, rfl, ge393_0⟩ := hMe393
 have hv393_0 := hcc393 0 _ rfl
 rw [Nat.add_zero, show ((Kd.slice 4 Kd.bool)).sz = 1 from rfl, Nat.mul_one] at hv393_0
 replace hv393_0 := Option.some.inj (hv393_0.symm.trans hx393_0)
 rw [hv393_0] at ge393_0
 have HL393_0 := am (show Kd.R Kd.bool 4 _ _ _ _ (rd_L13 t390 x6_2) from ge393_0)
 clear hv393_0 ge393_0 hcc393 hce393
 have HR393_0 := am hi393_0
 have HC393_0 := am hl393_0
 clear hi393_0 hl393_0
 replace p393 := eq_true p393
 replace q393 := eq_true q393
 obtain ⟨p394, q394, ad394, e394, hx394_0⟩ := dbool (by repeat (first | (with_reducible exact HR393_0.1) | (with_reducible refine Kd.C_alloc ?_ _) | (with_reducible refine Kd.C_drewN ?_ _) | (with_reducible refine Kd.C_drew ?_) | exact HR393_0.1)) x5_1
 (try rw [← Nbq10.1] at hx394_0)
 (try rw [← Nbq14.1] at hx394_0)
 cases e394
 have p395 : 0 ≤ (x5_1 : Int) := dq
 have q395 : x5_1 < (t390.length : Int) := dq
 obtain ⟨ad395, A395_0, c395_0, e395, hx395_0, hl395_0, hi395_0⟩ := at_L13 (Kd.S_reads' HO_3.1).2.2 x5_1 p395 q395
 obtain rfl : ad393 = ad395 := (by injection e395)
 obtain ⟨ce395, hce395, hMe395, hcc395⟩ := Kd.S_get HO_3.1 [] x5_1 p395 (by first | exact q395 | exact dq | (have e_ := (Kd.S_reads' HO_3.1).1; omega))
 obtain ⟨ve395_0, rfl, ge395_0⟩ := hMe395
 have hv395_0 := hcc395 0 _ rfl
 rw [Nat.add_zero, show ((Kd.slice 4 Kd.bool)).sz = 1 from rfl, Nat.mul_one] at hv395_0
 replace hv395_0 := Option.some.inj (hv395_0.symm.trans hx395_0)
 rw [hv395_0] at ge395_0
 have HL395_0 := am (show Kd.R Kd.bool 4 _ _ _ _ (rd_L13 t390 x5_1) from ge395_0)
 clear hv395_0 ge395_0 hcc395 hce395
 have HR395_0 := am hi395_0
 have HC395_0 := am hl395_0
 clear hi395_0 hl395_0
 replace p395 := eq_true p395
 replace q395 := eq_true q395
 obtain ⟨p396, q396, ad396, e396, hx396_0⟩ := dbool (by repeat (first | (with_reducible exact HR395_0.1) | (with_reducible refine Kd.C_alloc ?_ _) | (with_reducible refine Kd.C_drewN ?_ _) | (with_reducible refine Kd.C_drew ?_) | exact HR395_0.1)) x6_2
 (try rw [← Nbq10.1] at hx396_0)
 (try rw [← Nbq14.1] at hx396_0)
 cases e396
 go_wp2_with (first | ((with_reducible refine gate_builtin (b := .append) (xs := #[.tmp 39, .tmp 41]) rfl ?_); at_builtin; refine Kd.R_append (Kd.int .i64) (w0 := w) w.heap.size rfl (.tmp 39) (.tmp 41) 37 3 (.int .i64 0) 8 rfl Try.underlying37 info3 rfl (by decide) (by omega) u4 x4_1 x6_2 [.int .i64 x6_2] (fun _ => True) (fun _ => False) rfl rfl ?aP (fun _ hk => hk.elim) ?aF ?aO ?aB ?aS ?aL ?_; (case aP => exact rfl); (case aB => exact pbl); (case aF => exact (fun _ _ => trivial)); (case aO => exact (pkr HO_4.1)); (case aS => exact (below_size pbl)); (case aL => have := LMc16.1; omega); intro v398 w18 ho hb hg hat; rw [← Ny397.1] at ho; have HO399 := am ho; replace HO_3 := am (Kd.S_over' (pks HO_3.1) (Kd.R_typed (pkr HO_4.1)) (by decide) hg); replace HL393_0 := am (Kd.R_over' (pkr HL393_0.1) (Kd.R_typed (pkr HO_4.1)) (by decide) hg); replace HL395_0 := am (Kd.R_over' (pkr HL395_0.1) (Kd.R_typed (pkr HO_4.1)) (by decide) hg); replace HB := am hb; clear HO_4; clear ho hb hg hat))
 go_roundg k2
 case measure => have := HK1.1; have := HK2.1; omega
 case rel => exact ⟨(y397), (wrap64 (x5_1 + 1)), prs, H', ⟨by have := HK1.1; have := HK2.1; omega⟩, ⟨pks HO_3.1⟩, ⟨pkr HO399.1⟩, ⟨pbg⟩⟩

end Go.Proofs.Ytplljicodflagaa.P
