-- LAID BY OUR PROGRAM OVER THE PRINT (xprint.py, part.py): Lean checks it.
import Derived.Test.YtplljicodflagaaPx0
namespace Go.Proofs.Ytplljicodflagaa.P
open Go.RowKit Go.Proofs.YtplljicodflagaaW.PrintWords Go.Proofs.YtplljicodflagaaW.PrintLast Go.Proofs.YtplljicodflagaaW.PrintMore
attribute [local go_sem] max2_int min2_int max_two min_two max_three min_three max_four min_four   -- for this text's walks alone
set_option linter.unusedVariables false
set_option linter.unusedSimpArgs false

/-! ### r09_Targets: function 35 -/
def r09_Targets.l0 : Nat → List (S43) → List Int → Int → Option (List Int)
 | 0, _, _, _ => none
 | k + 1, x0, x3, x4 => if x4 < (x0.length : Int) then (if 0 ≤ x4 then (if x3.length < 17592186044416 then (r09_Targets.l0 k x0 (x3 ++ [(rd_T43 x0 x4).f0]) (wrap64 (x4 + 1))) else (none)) else (none)) else (some x3)
def r09_Targets.f (k : Nat) (l0 : List (S43)) : Option (List Int) := r09_Targets.l0 k l0 ([] : List Int) 0
theorem r09_Targets.mono_l : ∀ k, M3 r09_Targets.l0 k
 | 0 => fun _ _ _ r h => by simp [r09_Targets.l0] at h
 | k + 1 => by
  have ih0 := r09_Targets.mono_l k
  ·intro y0 y1 y2
   unfold r09_Targets.l0
   repeat' first | (with_reducible first | apply ih0 | apply lr | apply ln | apply li | refine lb ?_ fun _ => ?_)
theorem r09_Targets.mono : ∀ a0 k, LeO (r09_Targets.f k a0) (r09_Targets.f (k + 1) a0) := by
 intro a0 k
 have ih0 := r09_Targets.mono_l k
 unfold r09_Targets.f
 repeat' first | (with_reducible first | apply ih0 | apply lr | apply ln | apply li | refine lb ?_ fun _ => ?_)
set_option maxHeartbeats 8000000 in
set_option maxRecDepth 100000 in
theorem r09_Targets.calls (k : Nat) (A0 : Option Addr) (c0 : Nat) (l0 : List (S43)) (r : List Int) (w : World) (hr0 : Kd.C k43 w A0 l0.length l0) (hc0 : l0.length ≤ c0) (h : r09_Targets.f k l0 = some r) :
  Calls Try.prog 35 #[.slice A0 l0.length c0] w fun e w' => ∃ v0_ : Value, e = .returned (v0_) ∧ Kd.R (Kd.int .i64) 3 w' w.heap.size (fun _ => True) v0_ r ∧ Below w.heap.size w w' := by
 have HR0 := am hr0
 have HC0 := am hc0
 clear hr0 hc0
 have HB := am (Below.refl w.heap.size w)
 have H : (r09_Targets.l0 k l0 ([] : List Int) 0) = some r := h
 clear h
 have H' := am H
 clear H
 go_enter Try.func35, Try.ntmps35
 go_wp2
 go_loopg [3, 4] k (fun kq v3 v4 w' => ∃ (x3_1 : List Int) (x4_1 : Int), v4 = .int .i64 x4_1 ∧ Aside0 (r09_Targets.l0 kq l0 x3_1 x4_1 = some r) ∧ Aside0 (kq ≤ k) ∧ Aside0 (Kd.R (Kd.int .i64) 3 w' w.heap.size (fun _ => True) v3 x3_1) ∧ Aside0 (Below w.heap.size w w'))
 case atStart => exact ⟨(([] : List Int)), (0), prs, H', ⟨Nat.le_refl _⟩, ⟨knl⟩, ⟨pbg⟩⟩
 clear H'
 obtain ⟨x3_1, x4_1, rfl, HA, HK1, HO_3, HB⟩ := hrel
 obtain _ | k1 := gk
 ·exact absurd HA.1 (by simp [r09_Targets.l0])
 have H := HA.1
 clear HA
 simp only [r09_Targets.l0] at H
 by_cases c2 : x4_1 < (l0.length : Int)
 rotate_left
 ·rw [if_neg c2] at H
  have c2b0 : decide (x4_1 < (l0.length : Int)) = false := decide_eq_false c2
  clear c2
  obtain rfl := Option.some.inj H
  go_wp2
  go_ret
  exact ⟨_, per, by (with_reducible repeat (first | apply Kd.R_alloc | apply Kd.R_drewN | apply Kd.R_drew)); exact HO_3.1, pbg⟩
 rw [if_pos c2] at H
 have c2b0 : decide (x4_1 < (l0.length : Int)) = true := decide_eq_true c2
 clear c2
 replace H := ifp H
 obtain ⟨c3, H⟩ := H
 have c3b0 := decide_eq_true c3
 clear c3
 replace H := ifp H
 obtain ⟨c4, H⟩ := H
 have LMc4 := am c4
 clear c4
 obtain ⟨y354, hy354⟩ : ∃ y_ : List Int, y_ = (x3_1 ++ [(rd_T43 l0 x4_1).f0]) := ⟨_, rfl⟩
 replace H : (r09_Targets.l0 k1 l0 y354 (wrap64 (x4_1 + 1))) = some r := hrp hy354 H
 have Ny354 := am hy354
 clear hy354
 have H' := am H
 clear H
 obtain ⟨p353, q353, ad353, e353, hx353_0, hx353_1⟩ := bT43 HR0.1 HB.1 x4_1
 cases e353
 go_wp2_with (first | ((with_reducible refine gate_builtin (b := .append) (xs := #[.tmp 11, .tmp 17]) rfl ?_); at_builtin; refine Kd.R_append (Kd.int .i64) (w0 := w) w.heap.size rfl (.tmp 11) (.tmp 17) 37 3 (.int .i64 0) 8 rfl Try.underlying37 info3 rfl (by decide) (by omega) u3 x3_1 ((rd_T43 l0 x4_1).f0) [.int .i64 ((rd_T43 l0 x4_1).f0)] (fun _ => True) (fun _ => False) rfl rfl ?aP (fun _ hk => hk.elim) ?aF ?aO ?aB ?aS ?aL ?_; (case aP => exact rfl); (case aB => exact pbl); (case aF => exact (fun _ _ => trivial)); (case aO => exact (pkr HO_3.1)); (case aS => exact (below_size pbl)); (case aL => have := LMc4.1; omega); intro v355 w5 ho hb hg hat; rw [← Ny354.1] at ho; have HO356 := am ho; replace HB := am hb; clear HO_3; clear ho hb hg hat))
 go_roundg k1
 case measure => have := HK1.1; omega
 case rel => exact ⟨(y354), (wrap64 (x4_1 + 1)), prs, H', ⟨by have := HK1.1; omega⟩, ⟨pkr HO356.1⟩, ⟨pbg⟩⟩

end Go.Proofs.Ytplljicodflagaa.P
