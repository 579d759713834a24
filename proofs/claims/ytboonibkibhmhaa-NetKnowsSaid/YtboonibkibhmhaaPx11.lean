-- LAID BY OUR PROGRAM OVER THE PRINT (xprint.py): Lean checks it.
import Derived.Test.YtboonibkibhmhaaPx0
import Derived.Test.YtboonibkibhmhaaPx6
import Derived.Test.YtboonibkibhmhaaPx7
import Derived.Test.YtboonibkibhmhaaPx8
import Derived.BigRegion
import Derived.Laws.EntriesVeiled
import Derived.RegionTactic
namespace Go.Proofs.Ytboonibkibhmhaa.P
open Go.RowKit Go.Proofs.YtboonibkibhmhaaW.PrintWords Go.Proofs.YtboonibkibhmhaaW.PrintLast Go.Proofs.YtboonibkibhmhaaW.PrintMore
attribute [local go_sem] max2_int min2_int max_two min_two max_three min_three max_four min_four   -- for this text's walks alone
set_option linter.unusedVariables false
set_option linter.unusedSimpArgs false

/-! ### net_Producers: function 37 -/
-- IMPORTS Derived.RegionTactic,Derived.BigRegion,Derived.Laws.EntriesVeiled
theorem arcs_Producers (w : World) (s : ByteArray) (v1 v2 v3 : Value) (x : Int) : Calls Try.prog 61 #[.agg #[.string s, v1, v2, v3, .int .i64 x]] w fun e w' => e = .returned v2 ∧ Below w.heap.size w w' := by
  have hu := Try.underlying53
  obtain ⟨c0, c1, c2, c3, c4⟩ := trans_facts (alloc_new w (.cells #[.string s, v1, v2, v3, .int .i64 x] 53))
  go_enter Try.func61, Try.ntmps61
  go_wp2
  go_ret
  exact ⟨rfl, below_alloc (Below.refl _ _) _⟩
def net_Producers.l0 : Nat → List S53 → Int → List Int → Int → Option (List Int)
  | 0, _, _, _, _ => none
  | k + 1, l2, p, out, i => if i < (l2.length : Int) then (if 0 ≤ i then ((net_weight.f k (rd_T53 l2 i).f2 p).bind fun t => if t > 0 then (if out.length < 17592186044416 then net_Producers.l0 k l2 p (out ++ [i]) (wrap64 (i + 1)) else none) else net_Producers.l0 k l2 p out (wrap64 (i + 1))) else none) else some out
def net_Producers.f (k : Nat) (a0_0 : ByteArray) (l0_1 : List (S50)) (l0_2 : List (S53)) (a1 : Int) : Option (List Int) := (net_valid.f k a0_0 l0_1 l0_2).bind fun t => if t = true then net_Producers.l0 k l0_2 a1 [] 0 else some []
theorem net_Producers.mono_l : ∀ k y0 y1 y2 y3, LeO (net_Producers.l0 k y0 y1 y2 y3) (net_Producers.l0 (k + 1) y0 y1 y2 y3)
  | 0 => fun _ _ _ _ r h => by simp [net_Producers.l0] at h
  | k + 1 => by
    have ih0 := net_Producers.mono_l k
    intro y0 y1 y2 y3
    unfold net_Producers.l0
    repeat' first | exact ih0 _ _ _ _ | exact net_weight.mono _ _ _ | exact LeO.refl _ | exact LeO.none _ | refine LeO.ite ?_ ?_ | refine LeO.bind (net_weight.mono _ _ _) (fun _ => ?_)
theorem net_Producers.mono : ∀ a0 a1 a2 a3 k, LeO (net_Producers.f k a0 a1 a2 a3) (net_Producers.f (k + 1) a0 a1 a2 a3) := by
  intro a0 a1 a2 a3 k
  unfold net_Producers.f
  exact LeO.bind (net_valid.mono _ _ _ _) (fun _ => LeO.ite (net_Producers.mono_l k _ _ _ _) (LeO.refl _))
set_option maxHeartbeats 4000000 in
set_option maxRecDepth 100000 in
theorem users_Producers (k : Nat) (a0_0 : ByteArray) (A0_1 : Option Addr) (c0_1 : Nat) (l0_1 : List (S50)) (A0_2 : Option Addr) (c0_2 : Nat) (l0_2 : List (S53)) (a1 : Int) (r : List Int) (w : World) (hr0_1 : Kd.C k50 w A0_1 l0_1.length l0_1) (hc0_1 : l0_1.length ≤ c0_1) (hr0_2 : Kd.C k53 w A0_2 l0_2.length l0_2) (hc0_2 : l0_2.length ≤ c0_2) (h : net_Producers.f k a0_0 l0_1 l0_2 a1 = some r) :
    Calls Try.prog 60 #[.agg #[.string a0_0, .slice A0_1 l0_1.length c0_1, .slice A0_2 l0_2.length c0_2], .int .i64 a1, .func (.func 61) #[] #[]] w fun e w' => ∃ v0_ : Value, e = .returned (v0_) ∧ Kd.R (Kd.int .i64) 3 w' w.heap.size (fun _ => True) v0_ r ∧ Below w.heap.size w w' := by
  have hu1 := Try.underlying25
  have hu2 := Try.underlying53
  have HR1 := Aside0.mk hr0_1
  have HC1 := Aside0.mk hc0_1
  have HR2 := Aside0.mk hr0_2
  have HC2 := Aside0.mk hc0_2
  clear hr0_1 hc0_1 hr0_2 hc0_2
  unfold net_Producers.f at h
  obtain ⟨t, ht, h⟩ := Option.bind_eq_some_iff.mp h
  have HV := Aside0.mk ht
  have HX := Aside0.mk (alloc_new w (.cells #[.string a0_0, .slice A0_1 l0_1.length c0_1, .slice A0_2 l0_2.length c0_2] 25))
  have HB := Aside0.mk (show Below w.heap.size w (w.alloc (.cells #[.string a0_0, .slice A0_1 l0_1.length c0_1, .slice A0_2 l0_2.length c0_2] 25)) from below_alloc (Below.refl _ _) _)
  obtain ⟨cx0, cx1, cx2⟩ := net_facts HX.out
  clear ht
  cases t with
  | false =>
    rw [if_neg Bool.false_ne_true] at h
    obtain rfl := Option.some.inj h
    go_enter Try.func60, Try.ntmps60
    go_wp2_with (first | (go_at_call 54; refine (net_valid.calls k _ _ _ _ _ _ _ _ _ (Kd.C_below HR1.out HB.out) HC1.out (Kd.C_below HR2.out HB.out) HC2.out HV.out).mono ?_; rintro e w3 ⟨rfl, hb⟩; have HB3 := Aside0.mk (HB.out.trans (hb.mono HB.out.size)); clear hb))
    go_ret
    exact ⟨_, rfl, Kd.R_nil _ _ _ _ _, HB3.out⟩
  | true =>
    rw [if_pos rfl] at h
    have H := Aside0.mk h
    clear h
    go_enter Try.func60, Try.ntmps60
    go_wp2_with (first | (go_at_call 54; refine (net_valid.calls k _ _ _ _ _ _ _ _ _ (Kd.C_below HR1.out HB.out) HC1.out (Kd.C_below HR2.out HB.out) HC2.out HV.out).mono ?_; rintro e w3 ⟨rfl, hb⟩; have HB3 := Aside0.mk (HB.out.trans (hb.mono HB.out.size)); obtain ⟨dx0, dx1, dx2⟩ := net_facts (blk_below HX.out hb); clear hb))
    clear dx0 dx1 dx2 cx0 cx1 cx2 HX HB HV
    go_loopg [7, 16] k (fun kq v7 v16 w' => ∃ (i : Int) (out : List Int), v16 = .int .i64 i ∧ Aside0 (net_Producers.l0 kq l0_2 a1 out i = some r) ∧ Aside0 (kq ≤ k) ∧ Aside0 (Kd.R (Kd.int .i64) 3 w' w.heap.size (fun _ => True) v7 out) ∧ Aside0 (Below w.heap.size w w'))
    case atStart => exact ⟨0, [], rfl, H, ⟨Nat.le_refl _⟩, ⟨Kd.R_nil _ _ _ _ _⟩, HB3⟩
    case round =>
      clear H HB3
      obtain ⟨i, out, rfl, HA, HJ, HO, HB⟩ := hrel
      cases gk with
      | zero => exact absurd HA.out (by simp [net_Producers.l0])
      | succ k1 =>
      have H := HA.out
      clear HA
      simp only [net_Producers.l0] at H
      by_cases d1 : i < (l0_2.length : Int)
      case neg =>
        rw [if_neg d1] at H
        have d1b : decide (i < (l0_2.length : Int)) = false := decide_eq_false d1
        obtain rfl := Option.some.inj H
        clear d1
        go_wp2
        go_ret
        exact ⟨_, rfl, HO.out, HB.out⟩
      rw [if_pos d1] at H
      have d1b : decide (i < (l0_2.length : Int)) = true := decide_eq_true d1
      by_cases d2 : 0 ≤ i
      case neg => rw [if_neg d2] at H; cases H
      rw [if_pos d2] at H
      obtain ⟨t, ht, H⟩ := Option.bind_eq_some_iff.mp H
      have HT := Aside0.mk ht
      clear ht
      obtain ⟨ad, A1, c1, A2, c2, A3, c3, eA, y0, y1, y2, y3, y4, m1, g1, m2, g2, m3, g3⟩ := at_T53 HR2.out i d2 d1
      subst eA
      have u0 := pw_cell_below HB.out y0
      have u1 := pw_cell_below HB.out y1
      have u2 := pw_cell_below HB.out y2
      have u3 := pw_cell_below HB.out y3
      have u4 := pw_cell_below HB.out y4
      clear y0 y1 y2 y3 y4
      have M := Aside0.mk m2
      have G := Aside0.mk g2
      clear m1 m2 m3 g1 g2 g3
      have q1 : (0 ≤ i) = True := eq_true d2
      have q2 : (i < (l0_2.length : Int)) = True := eq_true d1
      have HPl := Aside0.mk (alloc_new wr (.cells #[.string (rd_T53 l0_2 i).f0, .slice A1 (rd_T53 l0_2 i).f1.length c1, .slice A2 (rd_T53 l0_2 i).f2.length c2, .slice A3 (rd_T53 l0_2 i).f3.length c3, .int .i64 (rd_T53 l0_2 i).f4] 53))
      have HB1 := Aside0.mk (show Below wr.heap.size wr (wr.alloc (.cells #[.string (rd_T53 l0_2 i).f0, .slice A1 (rd_T53 l0_2 i).f1.length c1, .slice A2 (rd_T53 l0_2 i).f2.length c2, .slice A3 (rd_T53 l0_2 i).f3.length c3, .int .i64 (rd_T53 l0_2 i).f4] 53)) from below_alloc (Below.refl _ _) _)
      obtain ⟨v0, v1, v2, v3, v4⟩ := trans_facts HPl.out
      have HM := Aside0.mk (show (l0_2.length : Int) ≤ 9223372036854775807 by have := HR2.out.2.1; omega)
      by_cases d3 : t > 0
      · rw [if_pos d3] at H
        have d3b : decide (0 < t) = true := decide_eq_true d3
        by_cases d4 : out.length < 17592186044416
        case neg => rw [if_neg d4] at H; cases H
        rw [if_pos d4, show wrap64 (i + 1) = i + 1 by have := HM.out; unfold wrap64; omega] at H
        have H' := Aside0.mk H
        have D4 := Aside0.mk d4
        clear H d3 d4
        go_wp2_with (first
          | (go_at_call 61; refine (arcs_Producers _ _ _ _ _ _).mono ?_; rintro e w4 ⟨rfl, hb⟩; have HB4 := Aside0.mk (HB1.out.trans (hb.mono HB1.out.size)); clear hb)
          | (go_at_call 55; refine (net_weight.calls k1 _ _ _ _ _ _ (Kd.C_below G.out (HB.out.trans (HB4.out.mono HB.out.size))) M.out HT.out).mono ?_; rintro e w5 ⟨rfl, hb⟩; have HB5 := Aside0.mk (HB4.out.trans (hb.mono HB4.out.size)); have HO5 := Aside0.mk (Kd.R_below HO.out HB5.out); clear hb)
          | ((with_reducible refine gate_builtin (b := .append) (xs := #[.tmp 27, .tmp 29]) rfl ?_); at_builtin; refine Kd.R_append (Kd.int .i64) (w0 := w) w.heap.size rfl (.tmp 27) (.tmp 29) 37 3 (.int .i64 0) 8 rfl Try.underlying37 info3 rfl (by decide) (by omega) _ out i [.int .i64 i] (fun _ => True) (fun _ => False) rfl rfl ?aP (fun _ hk => hk.elim) ?aF ?aO ?aB ?aS ?aL ?_; (case aP => exact rfl); (case aF => exact (fun _ _ => trivial)); (case aO => exact HO5.out); (case aB => exact (HB.out.trans (HB5.out.mono HB.out.size))); (case aS => exact Nat.le_trans HB.out.size HB5.out.size); (case aL => have := D4.out; omega); intro v2 w2 ho hb hg hat; have HO6 := Aside0.mk ho; have HB6 := Aside0.mk hb; clear ho hb hg hat))
        go_roundg k1
        case measure => have := HJ.out; omega
        case rel => exact ⟨_, _, (by congr 1; have := HM.out; (first | omega | (unfold wrap64; omega) | (show wrap64 _ = _; unfold wrap64; omega))), H', ⟨by have := HJ.out; omega⟩, HO6, HB6⟩
      · rw [if_neg d3, show wrap64 (i + 1) = i + 1 by have := HM.out; unfold wrap64; omega] at H
        have d3b : decide (0 < t) = false := decide_eq_false d3
        have H' := Aside0.mk H
        clear H d3
        go_wp2_with (first
          | (go_at_call 61; refine (arcs_Producers _ _ _ _ _ _).mono ?_; rintro e w4 ⟨rfl, hb⟩; have HB4 := Aside0.mk (HB1.out.trans (hb.mono HB1.out.size)); clear hb)
          | (go_at_call 55; refine (net_weight.calls k1 _ _ _ _ _ _ (Kd.C_below G.out (HB.out.trans (HB4.out.mono HB.out.size))) M.out HT.out).mono ?_; rintro e w5 ⟨rfl, hb⟩; have HB5 := Aside0.mk (HB4.out.trans (hb.mono HB4.out.size)); clear hb))
        go_roundg k1
        case measure => have := HJ.out; omega
        case rel => exact ⟨_, _, (by congr 1; have := HM.out; (first | omega | (unfold wrap64; omega) | (show wrap64 _ = _; unfold wrap64; omega))), H', ⟨by have := HJ.out; omega⟩, ⟨Kd.R_below HO.out HB5.out⟩, ⟨HB.out.trans (HB5.out.mono HB.out.size)⟩⟩
theorem net_Producers.calls (k : Nat) (a0_0 : ByteArray) (A0_1 : Option Addr) (c0_1 : Nat) (l0_1 : List (S50)) (A0_2 : Option Addr) (c0_2 : Nat) (l0_2 : List (S53)) (a1 : Int) (r : List Int) (w : World) (hr0_1 : Kd.C k50 w A0_1 l0_1.length l0_1) (hc0_1 : l0_1.length ≤ c0_1) (hr0_2 : Kd.C k53 w A0_2 l0_2.length l0_2) (hc0_2 : l0_2.length ≤ c0_2) (h : net_Producers.f k a0_0 l0_1 l0_2 a1 = some r) :
    Calls Try.prog 37 #[.agg #[.string a0_0, .slice A0_1 l0_1.length c0_1, .slice A0_2 l0_2.length c0_2], .int .i64 a1] w fun e w' => ∃ v0_ : Value, e = .returned (v0_) ∧ Kd.R (Kd.int .i64) 3 w' w.heap.size (fun _ => True) v0_ r ∧ Below w.heap.size w w' := by
  have hu1 := Try.underlying25
  have HB := Aside0.mk (show Below w.heap.size w (w.alloc (.cells #[.string a0_0, .slice A0_1 l0_1.length c0_1, .slice A0_2 l0_2.length c0_2] 25)) from below_alloc (Below.refl _ _) _)
  have HR1 := Aside0.mk (Kd.C_below hr0_1 HB.out)
  have HC1 := Aside0.mk hc0_1
  have HR2 := Aside0.mk (Kd.C_below hr0_2 HB.out)
  have HC2 := Aside0.mk hc0_2
  have H := Aside0.mk h
  obtain ⟨cx0, cx1, cx2⟩ := net_facts (alloc_new w (.cells #[.string a0_0, .slice A0_1 l0_1.length c0_1, .slice A0_2 l0_2.length c0_2] 25))
  clear hr0_1 hc0_1 hr0_2 hc0_2 h
  go_enter Try.func37, Try.ntmps37
  go_wp2_with (first | (go_at_call 60; refine (users_Producers k _ _ _ _ _ _ _ _ _ _ HR1.out HC1.out HR2.out HC2.out H.out).mono ?_; rintro e w3 ⟨v3, rfl, ho, hb⟩; have HO := Aside0.mk (Kd.R_lower ho HB.out.size); have HB3 := Aside0.mk (HB.out.trans (hb.mono HB.out.size)); clear ho hb))
  go_ret
  exact ⟨_, rfl, HO.out, HB3.out⟩

end Go.Proofs.Ytboonibkibhmhaa.P
