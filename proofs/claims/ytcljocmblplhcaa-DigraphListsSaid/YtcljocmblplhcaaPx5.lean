-- LAID BY OUR PROGRAM OVER THE PRINT (xprint.py): Lean checks it.
import Derived.Test.YtcljocmblplhcaaPx0
import Derived.Test.YtcljocmblplhcaaPx1
namespace Go.Proofs.Ytcljocmblplhcaa.P
open Go.RowKit Go.Proofs.YtcljocmblplhcaaW.PrintWords Go.Proofs.YtcljocmblplhcaaW.PrintLast Go.Proofs.YtcljocmblplhcaaW.PrintMore
attribute [local go_sem] max2_int min2_int max_two min_two max_three min_three max_four min_four   -- for this text's walks alone
set_option linter.unusedVariables false
set_option linter.unusedSimpArgs false

/-! ### digraph_distances: function 34 -/
mutual
def digraph_distances.l0 : Nat → List (List Int) → Int → List Int → Int → Int → Option (List Int)
  | 0, _, _, _, _, _ => none
  | k + 1, x0, x1, x5, x15, x16 => if x16 < x15 then (if 0 ≤ x16 then (if x16 < (x5.length : Int) then (digraph_distances.l0 k x0 x1 (x5.set (x16 : Int).toNat (-1)) x15 (wrap64 (x16 + 1))) else (none)) else (none)) else (if 0 ≤ x1 then (if x1 < (x5.length : Int) then (digraph_distances.l1 k x0 (x5.set (x1 : Int).toNat 0) (([x1] : List Int))) else (none)) else (none))
def digraph_distances.l1 : Nat → List (List Int) → List Int → List Int → Option (List Int)
  | 0, _, _, _ => none
  | k + 1, x0, x5, x7 => if (x7.length : Int) > 0 then (if 0 < (x7.length : Int) then (if 1 ≤ (x7.length : Int) then (if 0 ≤ (rd x7 0) then (if (rd x7 0) < (x0.length : Int) then (digraph_distances.l2 k x0 x5 (x7.drop (1 : Int).toNat) (rd x7 0) (rd_L1 x0 (rd x7 0)) ((rd_L1 x0 (rd x7 0)).length : Int) 0) else (none)) else (none)) else (none)) else (none)) else (some x5)
def digraph_distances.l2 : Nat → List (List Int) → List Int → List Int → Int → List Int → Int → Int → Option (List Int)
  | 0, _, _, _, _, _, _, _ => none
  | k + 1, x0, x5, x7, x8, x39, x40, x41 => if x41 < x40 then (if 0 ≤ x41 then (if x41 < (x39.length : Int) then ((digraph_inside.f x0 (rd x39 x41)).bind fun t155 => (if t155 = true then (if 0 ≤ (rd x39 x41) then (if (rd x39 x41) < (x5.length : Int) then (if (rd x5 (rd x39 x41)) < 0 then (if 0 ≤ x8 then (if x8 < (x5.length : Int) then (if x7.length < 17592186044416 then (digraph_distances.l2 k x0 (x5.set ((rd x39 x41) : Int).toNat (wrap64 ((rd x5 x8) + 1))) (x7 ++ [rd x39 x41]) x8 x39 x40 (wrap64 (x41 + 1))) else (none)) else (none)) else (none)) else (digraph_distances.l2 k x0 x5 x7 x8 x39 x40 (wrap64 (x41 + 1)))) else (none)) else (none)) else (digraph_distances.l2 k x0 x5 x7 x8 x39 x40 (wrap64 (x41 + 1))))) else (none)) else (none)) else (digraph_distances.l1 k x0 x5 x7)
end
def digraph_distances.f (k : Nat) (l0 : List (List Int)) (a1 : Int) : Option (List Int) := if 0 ≤ (l0.length : Int) then (if ((l0.length : Int) : Int).toNat ≤ 35184372088832 then ((some (List.replicate ((l0.length : Int) : Int).toNat 0 : List Int)).bind fun y141 => (digraph_distances.l0 k l0 a1 y141 (y141.length : Int) 0)) else (none)) else (none)
theorem digraph_distances.mono_l : ∀ k, (∀ y0 y1 y2 y3 y4, LeO (digraph_distances.l0 k y0 y1 y2 y3 y4) (digraph_distances.l0 (k + 1) y0 y1 y2 y3 y4)) ∧ (∀ y0 y1 y2, LeO (digraph_distances.l1 k y0 y1 y2) (digraph_distances.l1 (k + 1) y0 y1 y2)) ∧ (∀ y0 y1 y2 y3 y4 y5 y6, LeO (digraph_distances.l2 k y0 y1 y2 y3 y4 y5 y6) (digraph_distances.l2 (k + 1) y0 y1 y2 y3 y4 y5 y6))
  | 0 => ⟨fun _ _ _ _ _ r h => by simp [digraph_distances.l0] at h, fun _ _ _ r h => by simp [digraph_distances.l1] at h, fun _ _ _ _ _ _ _ r h => by simp [digraph_distances.l2] at h⟩
  | k + 1 => by
    obtain ⟨ih0, ih1, ih2⟩ := digraph_distances.mono_l k
    refine ⟨?_, ?_, ?_⟩
    · intro y0 y1 y2 y3 y4
      unfold digraph_distances.l0
      repeat' first
      | (with_reducible exact ih0 _ _ _ _ _)
      | (with_reducible exact ih1 _ _ _)
      | (with_reducible exact ih2 _ _ _ _ _ _ _)
      | (with_reducible exact LeO.refl _)
      | (with_reducible exact LeO.none _)
      | (with_reducible refine LeO.ite ?_ ?_)
      | (with_reducible refine LeO.bind ?_ (fun _ => ?_))
      | exact ih0 _ _ _ _ _
      | exact ih1 _ _ _
      | exact ih2 _ _ _ _ _ _ _
      | exact LeO.none _
      | refine LeO.ite ?_ ?_
      | refine LeO.bind ?_ (fun _ => ?_)
    · intro y0 y1 y2
      unfold digraph_distances.l1
      repeat' first
      | (with_reducible exact ih0 _ _ _ _ _)
      | (with_reducible exact ih1 _ _ _)
      | (with_reducible exact ih2 _ _ _ _ _ _ _)
      | (with_reducible exact LeO.refl _)
      | (with_reducible exact LeO.none _)
      | (with_reducible refine LeO.ite ?_ ?_)
      | (with_reducible refine LeO.bind ?_ (fun _ => ?_))
      | exact ih0 _ _ _ _ _
      | exact ih1 _ _ _
      | exact ih2 _ _ _ _ _ _ _
      | exact LeO.none _
      | refine LeO.ite ?_ ?_
      | refine LeO.bind ?_ (fun _ => ?_)
    · intro y0 y1 y2 y3 y4 y5 y6
      unfold digraph_distances.l2
      repeat' first
      | (with_reducible exact ih0 _ _ _ _ _)
      | (with_reducible exact ih1 _ _ _)
      | (with_reducible exact ih2 _ _ _ _ _ _ _)
      | (with_reducible exact LeO.refl _)
      | (with_reducible exact LeO.none _)
      | (with_reducible refine LeO.ite ?_ ?_)
      | (with_reducible refine LeO.bind ?_ (fun _ => ?_))
      | exact ih0 _ _ _ _ _
      | exact ih1 _ _ _
      | exact ih2 _ _ _ _ _ _ _
      | exact LeO.none _
      | refine LeO.ite ?_ ?_
      | refine LeO.bind ?_ (fun _ => ?_)
theorem digraph_distances.mono : ∀ a0 a1 k, LeO (digraph_distances.f k a0 a1) (digraph_distances.f (k + 1) a0 a1) := by
  intro a0 a1 k
  obtain ⟨ih0, ih1, ih2⟩ := digraph_distances.mono_l k
  unfold digraph_distances.f
  repeat' first
      | (with_reducible exact ih0 _ _ _ _ _)
      | (with_reducible exact ih1 _ _ _)
      | (with_reducible exact ih2 _ _ _ _ _ _ _)
      | (with_reducible exact LeO.refl _)
      | (with_reducible exact LeO.none _)
      | (with_reducible refine LeO.ite ?_ ?_)
      | (with_reducible refine LeO.bind ?_ (fun _ => ?_))
      | exact ih0 _ _ _ _ _
      | exact ih1 _ _ _
      | exact ih2 _ _ _ _ _ _ _
      | exact LeO.none _
      | refine LeO.ite ?_ ?_
      | refine LeO.bind ?_ (fun _ => ?_)
set_option maxHeartbeats 8000000 in
set_option maxRecDepth 100000 in
theorem digraph_distances.calls (k : Nat) (A0 : Option Addr) (c0 : Nat) (l0 : List (List Int)) (a1 : Int) (r : List Int) (w : World) (hr0 : Kd.C (Kd.slice 3 (Kd.int .i64)) w A0 l0.length l0) (hc0 : l0.length ≤ c0) (h : digraph_distances.f k l0 a1 = some r) :
    Calls Try.prog 34 #[.slice A0 l0.length c0, .int .i64 a1] w fun e w' => ∃ v0_ : Value, e = .returned (v0_) ∧ Kd.R (Kd.int .i64) 3 w' w.heap.size (fun _ => True) v0_ r ∧ Below w.heap.size w w' := by
  have HR0 := Aside0.mk hr0
  have HC0 := Aside0.mk hc0
  clear hr0 hc0
  have HB := Aside0.mk (Below.refl w.heap.size w)
  have H : (if 0 ≤ (l0.length : Int) then (if ((l0.length : Int) : Int).toNat ≤ 35184372088832 then ((some (List.replicate ((l0.length : Int) : Int).toNat 0 : List Int)).bind fun y141 => (digraph_distances.l0 k l0 a1 y141 (y141.length : Int) 0)) else (none)) else (none)) = some r := h
  clear h
  by_cases c3 : 0 ≤ (l0.length : Int)
  · rw [if_pos c3] at H
    have c3b0 := eq_true c3
    have c3b1 : decide (0 ≤ (l0.length : Int)) = true := decide_eq_true c3
    clear c3
    by_cases c4 : ((l0.length : Int) : Int).toNat ≤ 35184372088832
    · rw [if_pos c4] at H
      have c4b0 := eq_true c4
      have c4b1 : decide (((l0.length : Int) : Int).toNat ≤ 35184372088832) = true := decide_eq_true c4
      clear c4
      obtain ⟨y141, hy141⟩ : ∃ y_ : List Int, y_ = (List.replicate ((l0.length : Int) : Int).toNat 0) := ⟨_, rfl⟩
      replace H : (digraph_distances.l0 k l0 a1 y141 (y141.length : Int) 0) = some r := by first | (rw [hy141]; with_reducible exact H) | (have H2_ := (Option.bind_some _ _).symm.trans H; rw [hy141]; with_reducible exact H2_) | (have H2_ := (Option.bind_some _ _).symm.trans H; with_reducible exact H2_) | with_reducible exact H | (rw [hy141]; exact H) | exact H
      have Ny141 := Aside0.mk hy141
      clear hy141
      have H' := Aside0.mk H
      clear H
      go_enter Try.func34, Try.ntmps34
      go_wp2_with (first | ((with_reducible refine gate_dst (N := 13) rfl ?_); refine Kd.R_make (Kd.int .i64) _ 3 rfl (N := 13) rfl 26 _ _ rfl (l0.length : Int) rfl rfl Try.underlying26 (.int .i64 0) 8 info3 rfl (by decide) (by omega) 0 (ok := fun _ => True) (okp := fun _ => True) rfl (fun _ hk => hk) trivial (of_decide_eq_true (by first | (with_reducible assumption) | assumption)) (Nat.le_trans (Nat.mul_le_mul_right _ (of_decide_eq_true (by first | (with_reducible assumption) | assumption) : (l0.length : Int).toNat ≤ 35184372088832)) (by omega)) (Below.refl _ _) (Nat.le_refl _) ?_; intro v142 w5 ho6 hb hg_ hnew_; clear hg_ hnew_; (first | rw [← Ny141.out] at ho6 | (simp only [Int.reduceToNat] at ho6; rw [← Ny141.out] at ho6)); have n0_ := Aside0.mk (Kd.R_lower ho6 (below_size (by repeat (first | (with_reducible first | exact HB.out | apply below_alloc | apply pw_below_drewN | apply below_drew1) | exact HB.out)))); have n1_ := Aside0.mk (below_step (by repeat (first | (with_reducible first | exact HB.out | apply below_alloc | apply pw_below_drewN | apply below_drew1) | exact HB.out)) hb); clear HB; have HO143 := n0_; have HB := n1_; clear n0_ n1_; clear hb ho6; obtain ⟨Ao7, co7, eo7⟩ := Kd.R_slice HO143.out; subst eo7))
      go_loopg [16] k (fun kq v16 w' => ∃ (x5_1 : List Int) (x16_1 : Int), v16 = .int .i64 x16_1 ∧ Aside0 (digraph_distances.l0 kq l0 a1 x5_1 (y141.length : Int) x16_1 = some r) ∧ Aside0 (kq ≤ k) ∧ Aside0 (Kd.R (Kd.int .i64) 3 w' w.heap.size (fun _ => True) (.slice Ao7 y141.length co7) x5_1) ∧ Aside0 (Below w.heap.size w w'))
      case atStart => exact ⟨(y141), (0), (by first | rfl | (simp; done) | (simp [*]; done)), H', ⟨Nat.le_refl _⟩, ⟨by (with_reducible repeat (first | apply Kd.R_alloc | apply Kd.R_drewN | apply Kd.R_drew)); exact HO143.out⟩, ⟨by repeat (first | (with_reducible first | exact HB.out | apply below_alloc | apply pw_below_drewN | apply below_drew1) | exact HB.out)⟩⟩
      case round =>
        clear H'
        try clear p2
        try clear c3
        try clear c3b0
        try clear c3b1
        try clear c4
        try clear c4b0
        try clear c4b1
        obtain ⟨x5_1, x16_1, rfl, HA, HK1, HO_5, HB⟩ := hrel
        have hl5_1 := (Kd.R_reads' HO_5.out).1
        rw [hl5_1] at HO_5
        (try simp only [hl5_1])
        cases gk with
        | zero => exact absurd HA.out (by simp [digraph_distances.l0])
        | succ k1 =>
          have H := HA.out
          clear HA
          simp only [digraph_distances.l0] at H
          by_cases c8 : x16_1 < (y141.length : Int)
          · rw [if_pos c8] at H
            have c8b0 : decide (x16_1 < (y141.length : Int)) = true := decide_eq_true c8
            clear c8
            by_cases c9 : 0 ≤ x16_1
            · rw [if_pos c9] at H
              have c9b0 : decide (0 ≤ x16_1) = true := decide_eq_true c9
              clear c9
              by_cases c10 : x16_1 < (x5_1.length : Int)
              · rw [if_pos c10] at H
                have c10b0 : decide (x16_1 < (x5_1.length : Int)) = true := decide_eq_true c10
                clear c10
                obtain ⟨y144, hy144⟩ : ∃ y_ : List Int, y_ = (x5_1.set (x16_1 : Int).toNat (-1)) := ⟨_, rfl⟩
                replace H : (digraph_distances.l0 k1 l0 a1 y144 (y141.length : Int) (wrap64 (x16_1 + 1))) = some r := by first | (rw [hy144]; with_reducible exact H) | (have H2_ := (Option.bind_some _ _).symm.trans H; rw [hy144]; with_reducible exact H2_) | (have H2_ := (Option.bind_some _ _).symm.trans H; with_reducible exact H2_) | with_reducible exact H | (rw [hy144]; exact H) | exact H
                have Ny144 := Aside0.mk hy144
                clear hy144
                have H' := Aside0.mk H
                clear H
                have p11 : 0 ≤ (x16_1 : Int) := of_decide_eq_true (by first | (with_reducible assumption) | assumption)
                have q11 : (x16_1 : Int) < ((x5_1.length : Int) : Int) := of_decide_eq_true (by first | (with_reducible assumption) | assumption)
                obtain ⟨go11, co11, eo11, gb11, gl11, cl11, HG11⟩ := Kd.R_form HO_5.out (by omega)
                (first | cases eo11 | (injection eo11 with ea_ en_ ec_; (first | subst ea_ | (injection ea_ with ea_; subst ea_)); subst ec_; clear en_))
                have GB11 := Aside0.mk gb11
                have GG11 := Aside0.mk HG11
                clear gb11 gl11 HG11
                obtain ⟨hx11_0, hf11_0⟩ := Kd.R_celln 0 HO_5.out (x16_1 : Int) p11 q11
                replace p11 := eq_true p11
                replace q11 := eq_true q11
                have HP12 := Kd.R_putg HO_5.out (x16_1 : Int) (-1)
                go_wp2_with (first | ((with_reducible refine gate_store (t := 3) (p := 21) rfl ?_); refine store_event (t := 3) (p := 21) (v := ?vo_w13) (w1 := (wr.setCell ⟨go11, (x16_1 : Int).toNat, none⟩ (.int .i64 (-1)))) ?hg ?ho ?hn ?hr ?_; (case ho => rfl); (case hg => rfl); (case hn => rfl); (case hr => first | (go_simp; done) | (go_simp; rfl)); intro w13 hw; have hg : wr.grownBy w13 (some go11) := (by rw [hw]; exact HP12.2); have hp_ : Kd.R (Kd.int .i64) 3 w13 w.heap.size (fun _ => True) (.slice (some ⟨go11, 0, none⟩) x5_1.length co7) y144 := (by rw [hw, Ny144.out]; exact HP12.1); clear HP12; have n0_ := Aside0.mk (hp_); have n1_ := Aside0.mk ((by rw [hw]; exact below_set (HB.out) GB11.out : Below w.heap.size w w13)); clear HO_5; clear HB; have HO_5 := n0_; have HB := n1_; clear n0_ n1_; clear hg hw hp_))
                (try simp only [← hl5_1])
                go_roundg k1
                case measure => have := HK1.out; omega
                case rel => exact ⟨(y144), (wrap64 (x16_1 + 1)), (by first | rfl | (simp; done) | (simp [*]; done)), H', ⟨by have := HK1.out; omega⟩, ⟨by (try simp only [hl5_1]); (with_reducible repeat (first | apply Kd.R_alloc | apply Kd.R_drewN | apply Kd.R_drew)); exact HO_5.out⟩, ⟨by repeat (first | (with_reducible first | exact HB.out | apply below_alloc | apply pw_below_drewN | apply below_drew1) | exact HB.out)⟩⟩
              · rw [if_neg c10] at H
                exact absurd H (by simp)
            · rw [if_neg c9] at H
              exact absurd H (by simp)
          · rw [if_neg c8] at H
            have c8b0 : decide (x16_1 < (y141.length : Int)) = false := decide_eq_false c8
            have c8b9 : decide (x16_1 < (x5_1.length : Int)) = false := by rw [← hl5_1]; exact c8b0
            clear c8
            by_cases c14 : 0 ≤ a1
            · rw [if_pos c14] at H
              have c14b0 : decide (0 ≤ a1) = true := decide_eq_true c14
              clear c14
              by_cases c15 : a1 < (x5_1.length : Int)
              · rw [if_pos c15] at H
                have c15b0 : decide (a1 < (x5_1.length : Int)) = true := decide_eq_true c15
                clear c15
                obtain ⟨y145, hy145⟩ : ∃ y_ : List Int, y_ = (x5_1.set (a1 : Int).toNat 0) := ⟨_, rfl⟩
                replace H : (digraph_distances.l1 k1 l0 y145 (([a1] : List Int))) = some r := by first | (rw [hy145]; with_reducible exact H) | (have H2_ := (Option.bind_some _ _).symm.trans H; rw [hy145]; with_reducible exact H2_) | (have H2_ := (Option.bind_some _ _).symm.trans H; with_reducible exact H2_) | with_reducible exact H | (rw [hy145]; exact H) | exact H
                have Ny145 := Aside0.mk hy145
                clear hy145
                obtain ⟨y146, hy146⟩ : ∃ y_ : List Int, y_ = (([a1] : List Int)) := ⟨_, rfl⟩
                replace H : (digraph_distances.l1 k1 l0 y145 y146) = some r := by first | (rw [hy146]; with_reducible exact H) | (have H2_ := (Option.bind_some _ _).symm.trans H; rw [hy146]; with_reducible exact H2_) | (have H2_ := (Option.bind_some _ _).symm.trans H; with_reducible exact H2_) | with_reducible exact H | (rw [hy146]; exact H) | exact H
                have Ny146 := Aside0.mk hy146
                clear hy146
                have H' := Aside0.mk H
                clear H
                have p16 : 0 ≤ (a1 : Int) := of_decide_eq_true (by first | (with_reducible assumption) | assumption)
                have q16 : (a1 : Int) < ((x5_1.length : Int) : Int) := of_decide_eq_true (by first | (with_reducible assumption) | assumption)
                obtain ⟨go16, co16, eo16, gb16, gl16, cl16, HG16⟩ := Kd.R_form HO_5.out (by omega)
                (first | cases eo16 | (injection eo16 with ea_ en_ ec_; (first | subst ea_ | (injection ea_ with ea_; subst ea_)); subst ec_; clear en_))
                have GB16 := Aside0.mk gb16
                have GG16 := Aside0.mk HG16
                clear gb16 gl16 HG16
                obtain ⟨hx16_0, hf16_0⟩ := Kd.R_celln 0 HO_5.out (a1 : Int) p16 q16
                replace p16 := eq_true p16
                replace q16 := eq_true q16
                have HP17 := Kd.R_putg HO_5.out (a1 : Int) 0
                go_wp2_with (first | ((with_reducible refine gate_store (t := 3) (p := 25) rfl ?_); refine store_event (t := 3) (p := 25) (v := ?vo_w18) (w1 := (wr.setCell ⟨go16, (a1 : Int).toNat, none⟩ (.int .i64 0))) ?hg ?ho ?hn ?hr ?_; (case ho => rfl); (case hg => rfl); (case hn => rfl); (case hr => first | (go_simp; done) | (go_simp; rfl)); intro w18 hw; have hg : wr.grownBy w18 (some go16) := (by rw [hw]; exact HP17.2); have hp_ : Kd.R (Kd.int .i64) 3 w18 w.heap.size (fun _ => True) (.slice (some ⟨go16, 0, none⟩) x5_1.length co7) y145 := (by rw [hw, Ny145.out]; exact HP17.1); clear HP17; have n0_ := Aside0.mk (hp_); have n1_ := Aside0.mk ((by rw [hw]; exact below_set (HB.out) GB16.out : Below w.heap.size w w18)); clear HO_5; clear HB; have HO_5 := n0_; have HB := n1_; clear n0_ n1_; clear hg hw hp_) | ((with_reducible refine gate_dst (N := 27) rfl ?_); refine Kd.R_lit (Kd.int .i64) _ 3 ?hg (N := 27) ?hd (xs := ([a1] : List Int)) (inner := [.int .i64 a1]) (ok := fun _ => True) (okp := fun _ => True) ?hr ?hp (fun _ hk => hk) trivial (Below.refl _ _) (Nat.le_refl _) (by simp) ?_; (case hd => rfl); (case hg => rfl); (case hr => first | (go_simp; done) | (go_simp; rfl)); (case hp => exact (Reps.one (show Kd.M (Kd.int .i64) _ _ _ a1 [.int .i64 a1] from rfl) (Reps.none _ _))); intro v147 w19 ho20 hb hg_ hnew_; clear hg_ hnew_; (first | rw [← Ny146.out] at ho20 | (simp only [Int.reduceToNat] at ho20; rw [← Ny146.out] at ho20)); have n0_ := Aside0.mk (Kd.R_elder' (by (with_reducible repeat (first | apply Kd.R_alloc | apply Kd.R_drewN | apply Kd.R_drew)); exact HO_5.out) (Kd.R_base ho20) hb); have n1_ := Aside0.mk (Kd.R_lower (Kd.R_new' ho20 (Kd.R_lt (by (with_reducible repeat (first | apply Kd.R_alloc | apply Kd.R_drewN | apply Kd.R_drew)); exact HO_5.out))) (below_size (by repeat (first | (with_reducible first | exact HB.out | apply below_alloc | apply pw_below_drewN | apply below_drew1) | exact HB.out)))); have n2_ := Aside0.mk (below_step (by repeat (first | (with_reducible first | exact HB.out | apply below_alloc | apply pw_below_drewN | apply below_drew1) | exact HB.out)) hb); clear HO_5; clear HB; have HO_5 := n0_; have HO148 := n1_; have HB := n2_; clear n0_ n1_ n2_; clear hb ho20))
                go_loopg [7] k1 (fun kq v7 w' => ∃ (x5_2 : List Int) (x7_2 : List Int), Aside0 (digraph_distances.l1 kq l0 x5_2 x7_2 = some r) ∧ Aside0 (kq ≤ k1) ∧ Aside0 (Kd.R (Kd.int .i64) 3 w' w.heap.size (fun k_ => some k_ ≠ (v7 : Value).ownBlock) (.slice (some ⟨go16, 0, none⟩) x5_1.length co7) x5_2) ∧ Aside0 (Kd.Q (Kd.int .i64) 3 w' w.heap.size (fun k_ => some k_ ≠ ((.slice (some ⟨go16, 0, none⟩) x5_1.length co7) : Value).ownBlock) v7 x7_2) ∧ Aside0 (Below w.heap.size w w'))
                case atStart => exact ⟨(y145), (y146), H', ⟨Nat.le_refl _⟩, ⟨by (try simp only [hl5_1]); (with_reducible repeat (first | apply Kd.R_alloc | apply Kd.R_drewN | apply Kd.R_drew)); exact Kd.R_mono HO_5.out (fun _ hk => hk.2)⟩, ⟨Kd.Q_of_R (by (try simp only [hl5_1]); (with_reducible repeat (first | apply Kd.R_alloc | apply Kd.R_drewN | apply Kd.R_drew)); exact Kd.R_mono HO148.out (fun _ hk => hk.2))⟩, ⟨by repeat (first | (with_reducible first | exact HB.out | apply below_alloc | apply pw_below_drewN | apply below_drew1) | exact HB.out)⟩⟩
                case round =>
                  clear H'
                  try clear c1
                  try clear p1
                  try clear q1
                  try clear hx1
                  try clear p2
                  try clear c3
                  try clear c3b0
                  try clear c3b1
                  try clear c4
                  try clear c4b0
                  try clear c4b1
                  try clear p6
                  try clear c8
                  try clear c8b0
                  try clear c9
                  try clear c9b0
                  try clear c10
                  try clear c10b0
                  try clear p11
                  try clear q11
                  try clear hx11
                  try clear hf11
                  try clear c14
                  try clear c14b0
                  try clear c15
                  try clear c15b0
                  try clear p16
                  try clear q16
                  try clear hx16
                  try clear hf16
                  try clear hx11_0
                  try clear hx16_0
                  try clear p11
                  try clear p16
                  try clear p2
                  try clear q11
                  try clear q16
                  obtain ⟨x5_2, x7_2, HA, HK2, HO_5, HO_7, HB⟩ := hrel
                  have hl5_2 := (Kd.R_reads' HO_5.out).1
                  rw [hl5_2] at HO_5
                  (try simp only [hl5_2])
                  (try simp only [hl5_2] at HO_7)
                  cases gk with
                  | zero => exact absurd HA.out (by simp [digraph_distances.l1])
                  | succ k2 =>
                    have H := HA.out
                    clear HA
                    simp only [digraph_distances.l1] at H
                    by_cases c21 : (x7_2.length : Int) > 0
                    · rw [if_pos c21] at H
                      have c21b0 : decide (0 < (x7_2.length : Int)) = true := decide_eq_true c21
                      have c21b1 : decide (0 < x7_2.length) = true := decide_eq_true (by omega)
                      clear c21
                      by_cases c22 : 0 < (x7_2.length : Int)
                      · rw [if_pos c22] at H
                        have c22b0 : decide (0 < (x7_2.length : Int)) = true := decide_eq_true c22
                        have c22b1 : decide (0 < x7_2.length) = true := decide_eq_true (by omega)
                        clear c22
                        by_cases c23 : 1 ≤ (x7_2.length : Int)
                        · rw [if_pos c23] at H
                          have c23b0 := eq_true c23
                          have c23b1 : decide (1 ≤ (x7_2.length : Int)) = true := decide_eq_true c23
                          clear c23
                          obtain ⟨y150, hy150⟩ : ∃ y_ : List Int, y_ = (x7_2.drop (1 : Int).toNat) := ⟨_, rfl⟩
                          replace H : (if 0 ≤ (rd x7_2 0) then (if (rd x7_2 0) < (l0.length : Int) then (digraph_distances.l2 k2 l0 x5_2 y150 (rd x7_2 0) (rd_L1 l0 (rd x7_2 0)) ((rd_L1 l0 (rd x7_2 0)).length : Int) 0) else (none)) else (none)) = some r := by first | (rw [hy150]; with_reducible exact H) | (have H2_ := (Option.bind_some _ _).symm.trans H; rw [hy150]; with_reducible exact H2_) | (have H2_ := (Option.bind_some _ _).symm.trans H; with_reducible exact H2_) | with_reducible exact H | (rw [hy150]; exact H) | exact H
                          have Ny150 := Aside0.mk hy150
                          clear hy150
                          by_cases c24 : 0 ≤ (rd x7_2 0)
                          · rw [if_pos c24] at H
                            have c24b0 : decide (0 ≤ (rd x7_2 0)) = true := decide_eq_true c24
                            clear c24
                            by_cases c25 : (rd x7_2 0) < (l0.length : Int)
                            · rw [if_pos c25] at H
                              have c25b0 : decide ((rd x7_2 0) < (l0.length : Int)) = true := decide_eq_true c25
                              clear c25
                              have H' := Aside0.mk H
                              clear H
                              obtain ⟨Ao26, co26, eo26, _⟩ := Kd.Q_slice HO_7.out
                              subst eo26
                              have p149 : 0 ≤ (0 : Int) := (by omega)
                              have q149 : 0 < (x7_2.length : Int) := of_decide_eq_true (by first | (with_reducible assumption) | assumption)
                              obtain ⟨ad149, e149, hx149_0⟩ := Kd.at_int (Kd.Q_reads' HO_7.out).2.2 0 p149 q149
                              cases e149
                              have qi149 : (0 < x7_2.length) = True := eq_true (by omega)
                              (try rw [show ((0 : Int)).toNat = 0 from rfl] at hx149_0)
                              (try rw [Addr.add_zero'] at hx149_0)
                              replace p149 := eq_true p149
                              replace q149 := eq_true q149
                              have q27 : (1 : Int) ≤ ((x7_2.length : Int) : Int) := of_decide_eq_true (by first | (with_reducible assumption) | assumption)
                              obtain ⟨i027, hi027, _, hsz27, _⟩ := info_parts info3
                              have hcut27 := cut_from (P := Try.prog) 26 3 .i64 Try.underlying26 hi027 1 hsz27 (some ad149) x7_2.length co26 1 (by omega) q27
                              have hr27 := Kd.Q_drop (k := (1 : Int).toNat) HO_7.out (by omega)
                              obtain ⟨A27, hA27⟩ : ∃ A1, A1 = (if co26 = (1 : Int).toNat then (some ad149) else ((some ad149) : Option Addr).map (·.add ((1 : Int).toNat * 1))) := ⟨_, rfl⟩
                              obtain ⟨c27, hc27⟩ : ∃ c1, c1 = co26 - (1 : Int).toNat := ⟨_, rfl⟩
                              have hy27 : y150.length = x7_2.length - (1 : Int).toNat := (by rw [Ny150.out, List.length_drop])
                              rw [← Ny150.out] at hr27
                              rw [← hy27, ← hA27, ← hc27] at hcut27
                              replace hr27 : Kd.Q (Kd.int .i64) 3 wr w.heap.size (fun k_ => some k_ ≠ (.slice (some ⟨go16, 0, none⟩) x5_2.length co7 : Value).ownBlock) (.slice A27 y150.length c27) y150 := (by rw [hA27, hc27, hy27]; exact hr27)
                              have HE27 : Aside0 ((Value.slice A27 y150.length c27).ownBlock = (.slice (some ad149) x7_2.length co26 : Value).ownBlock) := ⟨by rw [hA27]; split <;> (cases ((some ad149) : Option Addr) <;> rfl)⟩
                              clear hy27 hi027 hsz27 HO_7 hA27 hc27
                              have HO152 := Aside0.mk hr27
                              clear hr27
                              replace q27 := eq_true q27
                              have n_ := Aside0.mk (Kd.R_mono (ok' := fun k_ => some k_ ≠ (.slice A27 y150.length c27 : Value).ownBlock) HO_5.out (fun k_ hk => (by rw [HE27.out]; exact hk)))
                              clear HO_5
                              have HO_5 := n_
                              clear n_
                              have p153 : 0 ≤ ((rd x7_2 0) : Int) := of_decide_eq_true (by first | (with_reducible assumption) | assumption)
                              have q153 : (rd x7_2 0) < (l0.length : Int) := of_decide_eq_true (by first | (with_reducible assumption) | assumption)
                              obtain ⟨ad153, A153_0, c153_0, e153, hx153_0, hl153_0, hi153_0⟩ := at_L1 HR0.out (rd x7_2 0) p153 q153
                              cases e153
                              replace hx153_0 := (HB.out.cell (World.block_lt_of_cell? w _ hx153_0)).trans hx153_0
                              have HR153_0 := Aside0.mk hi153_0
                              have HC153_0 := Aside0.mk hl153_0
                              clear hi153_0 hl153_0
                              replace p153 := eq_true p153
                              replace q153 := eq_true q153
                              go_wp2
                              go_loopg [7, 41] k2 (fun kq v7 v41 w' => ∃ (x5_3 : List Int) (x7_3 : List Int) (x41_3 : Int), v41 = .int .i64 x41_3 ∧ Aside0 (digraph_distances.l2 kq l0 x5_3 x7_3 (rd x7_2 0) (rd_L1 l0 (rd x7_2 0)) ((rd_L1 l0 (rd x7_2 0)).length : Int) x41_3 = some r) ∧ Aside0 (kq ≤ k2) ∧ Aside0 (Kd.R (Kd.int .i64) 3 w' w.heap.size (fun k_ => some k_ ≠ (v7 : Value).ownBlock) (.slice (some ⟨go16, 0, none⟩) x5_2.length co7) x5_3) ∧ Aside0 (Kd.Q (Kd.int .i64) 3 w' w.heap.size (fun k_ => some k_ ≠ ((.slice (some ⟨go16, 0, none⟩) x5_2.length co7) : Value).ownBlock) v7 x7_3) ∧ Aside0 (Below w.heap.size w w'))
                              case atStart => exact ⟨(x5_2), (y150), (0), (by first | rfl | (simp; done) | (simp [*]; done)), H', ⟨Nat.le_refl _⟩, ⟨by (try simp only [hl5_1]); (try simp only [hl5_2]); (with_reducible repeat (first | apply Kd.R_alloc | apply Kd.R_drewN | apply Kd.R_drew)); exact HO_5.out⟩, ⟨by (try simp only [hl5_1]); (try simp only [hl5_2]); (with_reducible repeat (first | apply Kd.Q_alloc | apply Kd.Q_drewN | apply Kd.Q_drew)); exact HO152.out⟩, ⟨by repeat (first | (with_reducible first | exact HB.out | apply below_alloc | apply pw_below_drewN | apply below_drew1) | exact HB.out)⟩⟩
                              case round =>
                                clear H'
                                try clear c1
                                try clear p1
                                try clear q1
                                try clear hx1
                                try clear qi1
                                try clear c2
                                try clear p2
                                try clear q2
                                try clear c3
                                try clear c3b0
                                try clear c3b1
                                try clear c4
                                try clear c4b0
                                try clear c4b1
                                try clear p6
                                try clear c8
                                try clear c8b0
                                try clear c9
                                try clear c9b0
                                try clear c10
                                try clear c10b0
                                try clear p11
                                try clear q11
                                try clear hx11
                                try clear hf11
                                try clear c14
                                try clear c14b0
                                try clear p14
                                try clear q14
                                try clear hx14
                                try clear qi14
                                try clear c15
                                try clear c15b0
                                try clear p15
                                try clear q15
                                try clear hx15
                                try clear p16
                                try clear q16
                                try clear hx16
                                try clear hf16
                                try clear c21
                                try clear c21b0
                                try clear c21b1
                                try clear c22
                                try clear c22b0
                                try clear c22b1
                                try clear c23
                                try clear c23b0
                                try clear c23b1
                                try clear c24
                                try clear c24b0
                                try clear c25
                                try clear c25b0
                                try clear c27
                                try clear q27
                                try clear hx11_0
                                try clear hx149_0
                                try clear hx153_0
                                try clear hx16_0
                                try clear p1
                                try clear p11
                                try clear p149
                                try clear p153
                                try clear p16
                                try clear p2
                                try clear p6
                                try clear q1
                                try clear q11
                                try clear q149
                                try clear q153
                                try clear q16
                                try clear q27
                                obtain ⟨x5_3, x7_3, x41_3, rfl, HA, HK3, HO_5, HO_7, HB⟩ := hrel
                                have hl5_3 := (Kd.R_reads' HO_5.out).1
                                rw [hl5_3] at HO_5
                                (try simp only [hl5_3])
                                (try simp only [hl5_3] at HO_7)
                                cases gk with
                                | zero => exact absurd HA.out (by simp [digraph_distances.l2])
                                | succ k3 =>
                                  have H := HA.out
                                  clear HA
                                  simp only [digraph_distances.l2] at H
                                  by_cases c28 : x41_3 < ((rd_L1 l0 (rd x7_2 0)).length : Int)
                                  · rw [if_pos c28] at H
                                    have c28b0 : decide (x41_3 < ((rd_L1 l0 (rd x7_2 0)).length : Int)) = true := decide_eq_true c28
                                    clear c28
                                    by_cases c29 : 0 ≤ x41_3
                                    · rw [if_pos c29] at H
                                      have c29b0 : decide (0 ≤ x41_3) = true := decide_eq_true c29
                                      clear c29
                                      by_cases c30 : x41_3 < ((rd_L1 l0 (rd x7_2 0)).length : Int)
                                      · rw [if_pos c30] at H
                                        have c30b0 : decide (x41_3 < ((rd_L1 l0 (rd x7_2 0)).length : Int)) = true := decide_eq_true c30
                                        clear c30
                                        replace H := Option.bind_eq_some_iff.mp H
                                        obtain ⟨t155, A310, H⟩ := H
                                        replace H : (if t155 = true then (if 0 ≤ (rd (rd_L1 l0 (rd x7_2 0)) x41_3) then (if (rd (rd_L1 l0 (rd x7_2 0)) x41_3) < (x5_3.length : Int) then (if (rd x5_3 (rd (rd_L1 l0 (rd x7_2 0)) x41_3)) < 0 then (if 0 ≤ (rd x7_2 0) then (if (rd x7_2 0) < (x5_3.length : Int) then (if x7_3.length < 17592186044416 then (digraph_distances.l2 k3 l0 (x5_3.set ((rd (rd_L1 l0 (rd x7_2 0)) x41_3) : Int).toNat (wrap64 ((rd x5_3 (rd x7_2 0)) + 1))) (x7_3 ++ [rd (rd_L1 l0 (rd x7_2 0)) x41_3]) (rd x7_2 0) (rd_L1 l0 (rd x7_2 0)) ((rd_L1 l0 (rd x7_2 0)).length : Int) (wrap64 (x41_3 + 1))) else (none)) else (none)) else (none)) else (digraph_distances.l2 k3 l0 x5_3 x7_3 (rd x7_2 0) (rd_L1 l0 (rd x7_2 0)) ((rd_L1 l0 (rd x7_2 0)).length : Int) (wrap64 (x41_3 + 1)))) else (none)) else (none)) else (digraph_distances.l2 k3 l0 x5_3 x7_3 (rd x7_2 0) (rd_L1 l0 (rd x7_2 0)) ((rd_L1 l0 (rd x7_2 0)).length : Int) (wrap64 (x41_3 + 1)))) = some r := H
                                        have A31 := Aside0.mk A310
                                        clear A310
                                        by_cases c32 : t155 = true
                                        · subst c32
                                          have H1 : (if 0 ≤ (rd (rd_L1 l0 (rd x7_2 0)) x41_3) then (if (rd (rd_L1 l0 (rd x7_2 0)) x41_3) < (x5_3.length : Int) then (if (rd x5_3 (rd (rd_L1 l0 (rd x7_2 0)) x41_3)) < 0 then (if 0 ≤ (rd x7_2 0) then (if (rd x7_2 0) < (x5_3.length : Int) then (if x7_3.length < 17592186044416 then (digraph_distances.l2 k3 l0 (x5_3.set ((rd (rd_L1 l0 (rd x7_2 0)) x41_3) : Int).toNat (wrap64 ((rd x5_3 (rd x7_2 0)) + 1))) (x7_3 ++ [rd (rd_L1 l0 (rd x7_2 0)) x41_3]) (rd x7_2 0) (rd_L1 l0 (rd x7_2 0)) ((rd_L1 l0 (rd x7_2 0)).length : Int) (wrap64 (x41_3 + 1))) else (none)) else (none)) else (none)) else (digraph_distances.l2 k3 l0 x5_3 x7_3 (rd x7_2 0) (rd_L1 l0 (rd x7_2 0)) ((rd_L1 l0 (rd x7_2 0)).length : Int) (wrap64 (x41_3 + 1)))) else (none)) else (none)) = some r := by rw [if_pos rfl] at H; exact H
                                          clear H
                                          have H := H1
                                          clear H1
                                          by_cases c33 : 0 ≤ (rd (rd_L1 l0 (rd x7_2 0)) x41_3)
                                          · rw [if_pos c33] at H
                                            have c33b0 : decide (0 ≤ (rd (rd_L1 l0 (rd x7_2 0)) x41_3)) = true := decide_eq_true c33
                                            clear c33
                                            by_cases c34 : (rd (rd_L1 l0 (rd x7_2 0)) x41_3) < (x5_3.length : Int)
                                            · rw [if_pos c34] at H
                                              have c34b0 : decide ((rd (rd_L1 l0 (rd x7_2 0)) x41_3) < (x5_3.length : Int)) = true := decide_eq_true c34
                                              clear c34
                                              by_cases c35 : (rd x5_3 (rd (rd_L1 l0 (rd x7_2 0)) x41_3)) < 0
                                              · rw [if_pos c35] at H
                                                have c35b0 : decide ((rd x5_3 (rd (rd_L1 l0 (rd x7_2 0)) x41_3)) < 0) = true := decide_eq_true c35
                                                clear c35
                                                by_cases c36 : 0 ≤ (rd x7_2 0)
                                                · rw [if_pos c36] at H
                                                  have c36b0 : decide (0 ≤ (rd x7_2 0)) = true := decide_eq_true c36
                                                  clear c36
                                                  by_cases c37 : (rd x7_2 0) < (x5_3.length : Int)
                                                  · rw [if_pos c37] at H
                                                    have c37b0 : decide ((rd x7_2 0) < (x5_3.length : Int)) = true := decide_eq_true c37
                                                    clear c37
                                                    obtain ⟨y158, hy158⟩ : ∃ y_ : List Int, y_ = (x5_3.set ((rd (rd_L1 l0 (rd x7_2 0)) x41_3) : Int).toNat (wrap64 ((rd x5_3 (rd x7_2 0)) + 1))) := ⟨_, rfl⟩
                                                    replace H : (if x7_3.length < 17592186044416 then (digraph_distances.l2 k3 l0 y158 (x7_3 ++ [rd (rd_L1 l0 (rd x7_2 0)) x41_3]) (rd x7_2 0) (rd_L1 l0 (rd x7_2 0)) ((rd_L1 l0 (rd x7_2 0)).length : Int) (wrap64 (x41_3 + 1))) else (none)) = some r := by first | (rw [hy158]; with_reducible exact H) | (have H2_ := (Option.bind_some _ _).symm.trans H; rw [hy158]; with_reducible exact H2_) | (have H2_ := (Option.bind_some _ _).symm.trans H; with_reducible exact H2_) | with_reducible exact H | (rw [hy158]; exact H) | exact H
                                                    have Ny158 := Aside0.mk hy158
                                                    clear hy158
                                                    by_cases c39 : x7_3.length < 17592186044416
                                                    · rw [if_pos c39] at H
                                                      have LMc39 := Aside0.mk c39
                                                      clear c39
                                                      obtain ⟨y159, hy159⟩ : ∃ y_ : List Int, y_ = (x7_3 ++ [rd (rd_L1 l0 (rd x7_2 0)) x41_3]) := ⟨_, rfl⟩
                                                      replace H : (digraph_distances.l2 k3 l0 y158 y159 (rd x7_2 0) (rd_L1 l0 (rd x7_2 0)) ((rd_L1 l0 (rd x7_2 0)).length : Int) (wrap64 (x41_3 + 1))) = some r := by first | (rw [hy159]; with_reducible exact H) | (have H2_ := (Option.bind_some _ _).symm.trans H; rw [hy159]; with_reducible exact H2_) | (have H2_ := (Option.bind_some _ _).symm.trans H; with_reducible exact H2_) | with_reducible exact H | (rw [hy159]; exact H) | exact H
                                                      have Ny159 := Aside0.mk hy159
                                                      clear hy159
                                                      have H' := Aside0.mk H
                                                      clear H
                                                      have p154 : 0 ≤ (x41_3 : Int) := of_decide_eq_true (by first | (with_reducible assumption) | assumption)
                                                      have q154 : x41_3 < ((rd_L1 l0 (rd x7_2 0)).length : Int) := of_decide_eq_true (by first | (with_reducible assumption) | assumption)
                                                      obtain ⟨ad154, e154, hx154_0⟩ := Kd.at_int HR153_0.out x41_3 p154 q154
                                                      cases e154
                                                      replace hx154_0 := (HB.out.cell (World.block_lt_of_cell? w _ hx154_0)).trans hx154_0
                                                      replace p154 := eq_true p154
                                                      replace q154 := eq_true q154
                                                      go_wp2_with (first | ((with_reducible refine gate_callee (f := 32) rfl ?_); refine goesL_ (some 47) rfl rfl Try.func32 (by kernel_rfl) rfl #[.slice (some ad153) l0.length c0, .int .i64 (rd (rd_L1 l0 (rd x7_2 0)) x41_3)] rfl (by (try simp only [List.map_toArray, List.map_cons, List.map_nil]); first | done | rfl | (simp only [List.length_drop, List.length_take]; rfl)) ?_; (with_reducible refine (digraph_inside.calls _ _ l0 (rd (rd_L1 l0 (rd x7_2 0)) x41_3) true _ ?side1 ?side2 A31.out).mono ?_); (case side1 => repeat (first | exact (Kd.C_below HR0.out HB.out) | (with_reducible refine Kd.C_alloc ?_ _) | (with_reducible refine Kd.C_drewN ?_ _) | (with_reducible refine Kd.C_drew ?_))); (case side2 => exact HC0.out); rintro e w' ⟨rfl, ⟨nd, rfl⟩⟩; refine ⟨_, rfl, ?_⟩; (try (rw [drewN_self wr]; generalize hq_ : World.drewN wr _ = wr; have n0_ : Aside0 (Kd.R (Kd.int .i64) 3 wr w.heap.size (fun k_ => some k_ ≠ (u7 : Value).ownBlock) (.slice (some ⟨go16, 0, none⟩) x5_3.length co7) x5_3) := ⟨by rw [← hq_]; exact (by (with_reducible repeat (first | apply Kd.R_alloc | apply Kd.R_drewN | apply Kd.R_drew)); exact HO_5.out)⟩; have n1_ : Aside0 (Kd.Q (Kd.int .i64) 3 wr w.heap.size (fun k_ => some k_ ≠ (.slice (some ⟨go16, 0, none⟩) x5_3.length co7 : Value).ownBlock) u7 x7_3) := ⟨by rw [← hq_]; exact (by (with_reducible repeat (first | apply Kd.Q_alloc | apply Kd.Q_drewN | apply Kd.Q_drew)); exact HO_7.out)⟩; have n2_ : Aside0 (Below w.heap.size w wr) := ⟨by rw [← hq_]; exact (by repeat (first | (with_reducible first | exact HB.out | apply below_alloc | apply pw_below_drewN | apply below_drew1) | exact HB.out))⟩; clear HO_5 HO_7 HB hq_; have HO_5 := n0_; have HO_7 := n1_; have HB := n2_; clear n0_ n1_ n2_)); have p156 : 0 ≤ ((rd (rd_L1 l0 (rd x7_2 0)) x41_3) : Int) := of_decide_eq_true (by first | (with_reducible assumption) | assumption); have q156 : (rd (rd_L1 l0 (rd x7_2 0)) x41_3) < (x5_3.length : Int) := of_decide_eq_true (by first | (with_reducible assumption) | assumption); obtain ⟨ad156, e156, hx156_0⟩ := Kd.at_int (Kd.R_reads' HO_5.out).2.2 (rd (rd_L1 l0 (rd x7_2 0)) x41_3) p156 q156; obtain rfl : (⟨go16, 0, none⟩ : Addr) = ad156 := (by injection e156); (first | simp only [add_plain] at hx156_0 | simp only [add_at] at hx156_0 | simp only [Addr.add, Nat.zero_add] at hx156_0 | skip); replace p156 := eq_true p156; replace q156 := eq_true q156; have p157 : 0 ≤ ((rd x7_2 0) : Int) := of_decide_eq_true (by first | (with_reducible assumption) | assumption); have q157 : (rd x7_2 0) < (x5_3.length : Int) := of_decide_eq_true (by first | (with_reducible assumption) | assumption); obtain ⟨ad157, e157, hx157_0⟩ := Kd.at_int (Kd.R_reads' HO_5.out).2.2 (rd x7_2 0) p157 q157; obtain rfl : (⟨go16, 0, none⟩ : Addr) = ad157 := (by injection e157); (first | simp only [add_plain] at hx157_0 | simp only [add_at] at hx157_0 | simp only [Addr.add, Nat.zero_add] at hx157_0 | skip); replace p157 := eq_true p157; replace q157 := eq_true q157; have p38 : 0 ≤ ((rd (rd_L1 l0 (rd x7_2 0)) x41_3) : Int) := of_decide_eq_true (by first | (with_reducible assumption) | assumption); have q38 : ((rd (rd_L1 l0 (rd x7_2 0)) x41_3) : Int) < ((x5_3.length : Int) : Int) := of_decide_eq_true (by first | (with_reducible assumption) | assumption); obtain ⟨hx38_0, hf38_0⟩ := Kd.R_celln 0 HO_5.out ((rd (rd_L1 l0 (rd x7_2 0)) x41_3) : Int) p38 q38; replace p38 := eq_true p38; replace q38 := eq_true q38; obtain ⟨hy40_, hz40_⟩ := Kd.R_celln 0 HO_5.out ((rd (rd_L1 l0 (rd x7_2 0)) x41_3) : Int) (of_decide_eq_true (by first | (with_reducible assumption) | assumption)) (of_decide_eq_true (by first | (with_reducible assumption) | assumption)); have HP40 := Kd.R_putg HO_5.out ((rd (rd_L1 l0 (rd x7_2 0)) x41_3) : Int) (wrap64 ((rd x5_3 (rd x7_2 0)) + 1))) | ((with_reducible refine gate_store (t := 3) (p := 62) rfl ?_); refine store_event (t := 3) (p := 62) (v := ?vo_w41) (w1 := (wr.setCell ⟨go16, ((rd (rd_L1 l0 (rd x7_2 0)) x41_3) : Int).toNat, none⟩ (.int .i64 (wrap64 ((rd x5_3 (rd x7_2 0)) + 1))))) ?hg ?ho ?hn ?hr ?_; (case ho => rfl); (case hg => rfl); (case hn => rfl); (case hr => first | (go_simp; done) | (go_simp; rfl)); intro w41 hw; have hg : wr.grownBy w41 (some go16) := (by rw [hw]; exact HP40.2); have hp_ : Kd.R (Kd.int .i64) 3 w41 w.heap.size (fun k_ => some k_ ≠ (u7 : Value).ownBlock) (.slice (some ⟨go16, 0, none⟩) x5_3.length co7) y158 := (by rw [hw, Ny158.out]; exact HP40.1); clear HP40; have n0_ := Aside0.mk (hp_); have n1_ := Aside0.mk (Kd.Q_after (v := (.slice (some ⟨go16, 0, none⟩) x5_3.length co7)) (v1 := (.slice (some ⟨go16, 0, none⟩) x5_3.length co7)) (ok := (fun _ => True)) (by (with_reducible repeat (first | apply Kd.Q_alloc | apply Kd.Q_drewN | apply Kd.Q_drew)); exact Kd.Q_mono HO_7.out (fun _ hk => ⟨trivial, hk⟩)) hg (.inl rfl)); have n2_ := Aside0.mk ((by rw [hw]; exact below_set (HB.out) GB16.out : Below w.heap.size w w41)); clear HO_5; clear HO_7; clear HB; have HO_5 := n0_; have HO_7 := n1_; have HB := n2_; clear n0_ n1_ n2_; clear hg hw hp_) | ((with_reducible refine gate_builtin (b := .append) (xs := #[.tmp 63, .tmp 65]) rfl ?_); at_builtin; refine Kd.Q_append (Kd.int .i64) (w0 := w) w.heap.size rfl (.tmp 63) (.tmp 65) 26 3 (.int .i64 0) 8 rfl Try.underlying26 info3 rfl (by decide) (by omega) u7 x7_3 (rd (rd_L1 l0 (rd x7_2 0)) x41_3) [.int .i64 (rd (rd_L1 l0 (rd x7_2 0)) x41_3)] (fun k_ => some k_ ≠ (.slice (some ⟨go16, 0, none⟩) x5_3.length co7 : Value).ownBlock) (fun _ => False) rfl rfl ?aP (fun _ hk => hk.elim) ?aF ?aO ?aB ?aS ?aL ?_; (case aP => exact rfl); (case aB => exact (by repeat (first | (with_reducible first | exact HB.out | apply below_alloc | apply pw_below_drewN | apply below_drew1) | exact HB.out))); (case aF => exact (fun k_ hk => Kd.fresh' (Kd.R_lt (by (with_reducible repeat (first | apply Kd.R_alloc | apply Kd.R_drewN | apply Kd.R_drew)); exact HO_5.out)) k_ hk)); (case aO => exact (by (with_reducible repeat (first | apply Kd.Q_alloc | apply Kd.Q_drewN | apply Kd.Q_drew)); exact Kd.Q_mono HO_7.out (fun _ hk => hk.2))); (case aS => exact (below_size (by repeat (first | (with_reducible first | exact HB.out | apply below_alloc | apply pw_below_drewN | apply below_drew1) | exact HB.out)))); (case aL => have := LMc39.out; omega); intro v160 w42 ho hb hg hat; rw [← Ny159.out] at ho; have n0_ := Aside0.mk (Kd.R_after (ok := (fun _ => True)) (by (with_reducible repeat (first | apply Kd.R_alloc | apply Kd.R_drewN | apply Kd.R_drew)); exact Kd.R_mono HO_5.out (fun _ hk => ⟨trivial, hk⟩)) hg hat); have n1_ := Aside0.mk (hb); have n2_ := Aside0.mk (ho); clear HO_5; clear HB; clear HO_7; have HO_5 := n0_; have HB := n1_; have HO161 := n2_; clear n0_ n1_ n2_; clear ho hb hg hat))
                                                      (try simp only [← hl5_3])
                                                      go_roundg k3
                                                      case measure => have := HK1.out; have := HK2.out; have := HK3.out; omega
                                                      case rel => exact ⟨(y158), (y159), (wrap64 (x41_3 + 1)), (by first | rfl | (simp; done) | (simp [*]; done)), H', ⟨by have := HK1.out; have := HK2.out; have := HK3.out; omega⟩, ⟨by (try simp only [hl5_1]); (try simp only [hl5_2]); (try simp only [hl5_3]); (with_reducible repeat (first | apply Kd.R_alloc | apply Kd.R_drewN | apply Kd.R_drew)); exact Kd.R_mono HO_5.out (fun _ hk => hk.2)⟩, ⟨by (try simp only [hl5_1]); (try simp only [hl5_2]); (try simp only [hl5_3]); (with_reducible repeat (first | apply Kd.Q_alloc | apply Kd.Q_drewN | apply Kd.Q_drew)); exact HO161.out⟩, ⟨by repeat (first | (with_reducible first | exact HB.out | apply below_alloc | apply pw_below_drewN | apply below_drew1) | exact HB.out)⟩⟩
                                                    · rw [if_neg c39] at H
                                                      exact absurd H (by simp)
                                                  · rw [if_neg c37] at H
                                                    exact absurd H (by simp)
                                                · rw [if_neg c36] at H
                                                  exact absurd H (by simp)
                                              · rw [if_neg c35] at H
                                                have c35b0 : decide ((rd x5_3 (rd (rd_L1 l0 (rd x7_2 0)) x41_3)) < 0) = false := decide_eq_false c35
                                                clear c35
                                                have H' := Aside0.mk H
                                                clear H
                                                have p154 : 0 ≤ (x41_3 : Int) := of_decide_eq_true (by first | (with_reducible assumption) | assumption)
                                                have q154 : x41_3 < ((rd_L1 l0 (rd x7_2 0)).length : Int) := of_decide_eq_true (by first | (with_reducible assumption) | assumption)
                                                obtain ⟨ad154, e154, hx154_0⟩ := Kd.at_int HR153_0.out x41_3 p154 q154
                                                cases e154
                                                replace hx154_0 := (HB.out.cell (World.block_lt_of_cell? w _ hx154_0)).trans hx154_0
                                                replace p154 := eq_true p154
                                                replace q154 := eq_true q154
                                                go_wp2_with (first | ((with_reducible refine gate_callee (f := 32) rfl ?_); refine goesL_ (some 47) rfl rfl Try.func32 (by kernel_rfl) rfl #[.slice (some ad153) l0.length c0, .int .i64 (rd (rd_L1 l0 (rd x7_2 0)) x41_3)] rfl (by (try simp only [List.map_toArray, List.map_cons, List.map_nil]); first | done | rfl | (simp only [List.length_drop, List.length_take]; rfl)) ?_; (with_reducible refine (digraph_inside.calls _ _ l0 (rd (rd_L1 l0 (rd x7_2 0)) x41_3) true _ ?side1 ?side2 A31.out).mono ?_); (case side1 => repeat (first | exact (Kd.C_below HR0.out HB.out) | (with_reducible refine Kd.C_alloc ?_ _) | (with_reducible refine Kd.C_drewN ?_ _) | (with_reducible refine Kd.C_drew ?_))); (case side2 => exact HC0.out); rintro e w' ⟨rfl, ⟨nd, rfl⟩⟩; refine ⟨_, rfl, ?_⟩; have p156 : 0 ≤ ((rd (rd_L1 l0 (rd x7_2 0)) x41_3) : Int) := of_decide_eq_true (by first | (with_reducible assumption) | assumption); have q156 : (rd (rd_L1 l0 (rd x7_2 0)) x41_3) < (x5_3.length : Int) := of_decide_eq_true (by first | (with_reducible assumption) | assumption); obtain ⟨ad156, e156, hx156_0⟩ := Kd.at_int (Kd.R_reads' HO_5.out).2.2 (rd (rd_L1 l0 (rd x7_2 0)) x41_3) p156 q156; obtain rfl : (⟨go16, 0, none⟩ : Addr) = ad156 := (by injection e156); (first | simp only [add_plain] at hx156_0 | simp only [add_at] at hx156_0 | simp only [Addr.add, Nat.zero_add] at hx156_0 | skip); replace p156 := eq_true p156; replace q156 := eq_true q156))
                                                (try simp only [← hl5_3])
                                                go_roundg k3
                                                case measure => have := HK1.out; have := HK2.out; have := HK3.out; omega
                                                case rel => exact ⟨(x5_3), (x7_3), (wrap64 (x41_3 + 1)), (by first | rfl | (simp; done) | (simp [*]; done)), H', ⟨by have := HK1.out; have := HK2.out; have := HK3.out; omega⟩, ⟨by (try simp only [hl5_1]); (try simp only [hl5_2]); (try simp only [hl5_3]); (with_reducible repeat (first | apply Kd.R_alloc | apply Kd.R_drewN | apply Kd.R_drew)); exact HO_5.out⟩, ⟨by (try simp only [hl5_1]); (try simp only [hl5_2]); (try simp only [hl5_3]); (with_reducible repeat (first | apply Kd.Q_alloc | apply Kd.Q_drewN | apply Kd.Q_drew)); exact HO_7.out⟩, ⟨by repeat (first | (with_reducible first | exact HB.out | apply below_alloc | apply pw_below_drewN | apply below_drew1) | exact HB.out)⟩⟩
                                            · rw [if_neg c34] at H
                                              exact absurd H (by simp)
                                          · rw [if_neg c33] at H
                                            exact absurd H (by simp)
                                        · replace c32 := Bool.eq_false_iff.mpr c32
                                          subst c32
                                          have H1 : (digraph_distances.l2 k3 l0 x5_3 x7_3 (rd x7_2 0) (rd_L1 l0 (rd x7_2 0)) ((rd_L1 l0 (rd x7_2 0)).length : Int) (wrap64 (x41_3 + 1))) = some r := by rw [if_neg (show ¬ (false = true) by decide)] at H; exact H
                                          clear H
                                          have H := H1
                                          clear H1
                                          have H' := Aside0.mk H
                                          clear H
                                          have p154 : 0 ≤ (x41_3 : Int) := of_decide_eq_true (by first | (with_reducible assumption) | assumption)
                                          have q154 : x41_3 < ((rd_L1 l0 (rd x7_2 0)).length : Int) := of_decide_eq_true (by first | (with_reducible assumption) | assumption)
                                          obtain ⟨ad154, e154, hx154_0⟩ := Kd.at_int HR153_0.out x41_3 p154 q154
                                          cases e154
                                          replace hx154_0 := (HB.out.cell (World.block_lt_of_cell? w _ hx154_0)).trans hx154_0
                                          replace p154 := eq_true p154
                                          replace q154 := eq_true q154
                                          go_wp2_with (first | ((with_reducible refine gate_callee (f := 32) rfl ?_); refine goesL_ (some 47) rfl rfl Try.func32 (by kernel_rfl) rfl #[.slice (some ad153) l0.length c0, .int .i64 (rd (rd_L1 l0 (rd x7_2 0)) x41_3)] rfl (by (try simp only [List.map_toArray, List.map_cons, List.map_nil]); first | done | rfl | (simp only [List.length_drop, List.length_take]; rfl)) ?_; (with_reducible refine (digraph_inside.calls _ _ l0 (rd (rd_L1 l0 (rd x7_2 0)) x41_3) false _ ?side1 ?side2 A31.out).mono ?_); (case side1 => repeat (first | exact (Kd.C_below HR0.out HB.out) | (with_reducible refine Kd.C_alloc ?_ _) | (with_reducible refine Kd.C_drewN ?_ _) | (with_reducible refine Kd.C_drew ?_))); (case side2 => exact HC0.out); rintro e w' ⟨rfl, ⟨nd, rfl⟩⟩; refine ⟨_, rfl, ?_⟩))
                                          (try simp only [← hl5_3])
                                          go_roundg k3
                                          case measure => have := HK1.out; have := HK2.out; have := HK3.out; omega
                                          case rel => exact ⟨(x5_3), (x7_3), (wrap64 (x41_3 + 1)), (by first | rfl | (simp; done) | (simp [*]; done)), H', ⟨by have := HK1.out; have := HK2.out; have := HK3.out; omega⟩, ⟨by (try simp only [hl5_1]); (try simp only [hl5_2]); (try simp only [hl5_3]); (with_reducible repeat (first | apply Kd.R_alloc | apply Kd.R_drewN | apply Kd.R_drew)); exact HO_5.out⟩, ⟨by (try simp only [hl5_1]); (try simp only [hl5_2]); (try simp only [hl5_3]); (with_reducible repeat (first | apply Kd.Q_alloc | apply Kd.Q_drewN | apply Kd.Q_drew)); exact HO_7.out⟩, ⟨by repeat (first | (with_reducible first | exact HB.out | apply below_alloc | apply pw_below_drewN | apply below_drew1) | exact HB.out)⟩⟩
                                      · rw [if_neg c30] at H
                                        exact absurd H (by simp)
                                    · rw [if_neg c29] at H
                                      exact absurd H (by simp)
                                  · rw [if_neg c28] at H
                                    have c28b0 : decide (x41_3 < ((rd_L1 l0 (rd x7_2 0)).length : Int)) = false := decide_eq_false c28
                                    clear c28
                                    have H' := Aside0.mk H
                                    clear H
                                    go_wp2
                                    (try simp only [← hl5_2, ← hl5_3])
                                    go_roundg k3
                                    case measure => have := HK1.out; have := HK2.out; have := HK3.out; omega
                                    case rel => exact ⟨(x5_3), (x7_3), H', ⟨by have := HK1.out; have := HK2.out; have := HK3.out; omega⟩, ⟨by (try simp only [hl5_1]); (try simp only [hl5_2]); (try simp only [hl5_3]); (with_reducible repeat (first | apply Kd.R_alloc | apply Kd.R_drewN | apply Kd.R_drew)); exact HO_5.out⟩, ⟨by (try simp only [hl5_1]); (try simp only [hl5_2]); (try simp only [hl5_3]); (with_reducible repeat (first | apply Kd.Q_alloc | apply Kd.Q_drewN | apply Kd.Q_drew)); exact HO_7.out⟩, ⟨by repeat (first | (with_reducible first | exact HB.out | apply below_alloc | apply pw_below_drewN | apply below_drew1) | exact HB.out)⟩⟩
                            · rw [if_neg c25] at H
                              exact absurd H (by simp)
                          · rw [if_neg c24] at H
                            exact absurd H (by simp)
                        · rw [if_neg c23] at H
                          exact absurd H (by simp)
                      · rw [if_neg c22] at H
                        exact absurd H (by simp)
                    · rw [if_neg c21] at H
                      have c21b0 : decide (0 < (x7_2.length : Int)) = false := decide_eq_false c21
                      have c21b1 : decide (0 < x7_2.length) = false := decide_eq_false (by omega)
                      clear c21
                      obtain rfl := Option.some.inj H
                      obtain ⟨Ao43, co43, eo43, _⟩ := Kd.Q_slice HO_7.out
                      subst eo43
                      go_wp2
                      go_ret
                      exact ⟨_, by first | rfl | (simp [errW_none, errW_some] <;> rfl) | (simp [*, errW_none, errW_some] <;> rfl), by (with_reducible repeat (first | apply Kd.R_alloc | apply Kd.R_drewN | apply Kd.R_drew)); exact Kd.R_mono HO_5.out (fun _ hk => trivial), by repeat (first | (with_reducible first | exact HB.out | apply below_alloc | apply pw_below_drewN | apply below_drew1) | exact HB.out)⟩
              · rw [if_neg c15] at H
                exact absurd H (by simp)
            · rw [if_neg c14] at H
              exact absurd H (by simp)
    · rw [if_neg c4] at H
      exact absurd H (by simp)
  · rw [if_neg c3] at H
    exact absurd H (by simp)

end Go.Proofs.Ytcljocmblplhcaa.P
