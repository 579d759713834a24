-- LAID BY OUR PROGRAM OVER THE PRINT (xprint.py, part.py): Lean checks it.
import Derived.Test.YteknagfpiadaiaaPx0
import Derived.Test.YteknagfpiadaiaaPx2
import Derived.Test.YteknagfpiadaiaaPx4
import Derived.Test.YteknagfpiadaiaaPx13
import Derived.Test.YteknagfpiadaiaaPx18
namespace Go.Proofs.Yteknagfpiadaiaa.P
open Go.RowKit Go.Proofs.YteknagfpiadaiaaW.PrintWords Go.Proofs.YteknagfpiadaiaaW.PrintLast Go.Proofs.YteknagfpiadaiaaW.PrintMore
attribute [local go_sem] max2_int min2_int max_two min_two max_three min_three max_four min_four   -- for this text's walks alone
set_option linter.unusedVariables false
set_option linter.unusedSimpArgs false

/-! ### r22_Path: function 32 -/
mutual
def r22_Path.l0 : Nat → List (S48) → Int → List Int → Int → Option (List Int)
 | 0, _, _, _, _ => none
 | k + 1, x0, x1, x5, x6 => if x6 ≤ (x0.length : Int) then (if x1 < 0 then (r22_Path.j1 k x0 x1 x5 x6 true) else (r22_Path.j1 k x0 x1 x5 x6 (decide (x1 ≥ (x0.length : Int))))) else (some ([] : List Int))
def r22_Path.j1 : Nat → List (S48) → Int → List Int → Int → Bool → Option (List Int)
 | 0, _, _, _, _, _ => none
 | k + 1, x0, x1, x5, x6, bI => if bI = true then (some ([] : List Int)) else (if x1 = 0 then (some x5) else (if 0 ≤ x1 then (if x1 < (x0.length : Int) then (r22_Path.l1 k x0 x1 x5 x6 (([(rd_T48 x0 x1).f1] : List Int)) 0) else (none)) else (none)))
def r22_Path.l1 : Nat → List (S48) → Int → List Int → Int → List Int → Int → Option (List Int)
 | 0, _, _, _, _, _, _ => none
 | k + 1, x0, x1, x5, x6, x7, x8 => if x8 < (x5.length : Int) then (if 0 ≤ x8 then (if x7.length < 17592186044416 then (r22_Path.l1 k x0 x1 x5 x6 (x7 ++ [rd x5 x8]) (wrap64 (x8 + 1))) else (none)) else (none)) else (if 0 ≤ x1 then (if x1 < (x0.length : Int) then (r22_Path.l0 k x0 ((rd_T48 x0 x1).f0) x7 (wrap64 (x6 + 1))) else (none)) else (none))
end
def r22_Path.f (k : Nat) (l0 : List (S48)) (a1 : Int) : Option (List Int) := r22_Path.l0 k l0 a1 ([] : List Int) 0
theorem r22_Path.mono_l : ∀ k, M4 r22_Path.l0 k ∧ M5 r22_Path.j1 k ∧ M6 r22_Path.l1 k
 | 0 => ⟨fun _ _ _ _ r h => by simp [r22_Path.l0] at h, fun _ _ _ _ _ r h => by simp [r22_Path.j1] at h, fun _ _ _ _ _ _ r h => by simp [r22_Path.l1] at h⟩
 | k + 1 => by
  obtain ⟨bh, bi, bj⟩ := r22_Path.mono_l k
  refine ⟨?_, ?_, ?_⟩ <;> dsimp only [M4, M5, M6] <;> intros <;> (first | unfold r22_Path.l0 | unfold r22_Path.j1 | unfold r22_Path.l1) <;> repeat' first | (with_reducible first | apply bh | apply bi | apply bj | apply lr | apply ln | apply li | refine lb ?_ fun _ => ?_)
theorem r22_Path.mono : ∀ a0 a1 k, LeO (r22_Path.f k a0 a1) (r22_Path.f (k + 1) a0 a1) := by
 intro a0 a1 k
 obtain ⟨bh, bi, bj⟩ := r22_Path.mono_l k
 unfold r22_Path.f
 repeat' first | (with_reducible first | apply bh | apply bi | apply bj | apply lr | apply ln | apply li | refine lb ?_ fun _ => ?_)
set_option maxHeartbeats 8000000 in
set_option maxRecDepth 100000 in
theorem r22_Path.calls (k : Nat) (A0 : Option Addr) (c0 : Nat) (l0 : List (S48)) (a1 : Int) (r : List Int) (w : World) (bw : Kd.C k48 w A0 l0.length l0) (hc0 : l0.length ≤ c0) (h : r22_Path.f k l0 a1 = some r) :
  Calls Try.prog 32 #[.slice A0 l0.length c0, .int .i64 a1] w fun e w' => ∃ v0_ : Value, e = .returned (v0_) ∧ Kd.R (Kd.int .i64) 3 w' w.heap.size (fun _ => True) v0_ r ∧ Below w.heap.size w w' := by
 have bn := am bw
 have bJ := am hc0
 clear bw hc0
 have HB := am (Below.refl w.heap.size w)
 have H := h
 unfold r22_Path.f at H
 clear h
 have H' := am H
 clear H
 go_enter Try.func32, Try.ntmps32
 go_wp2
 go_loopg [1, 5, 6] k (fun kq v1 v5 v6 w' => ∃ (ab : Int) (ac : List Int) (af : Int), v1 = .int .i64 ab ∧ v6 = .int .i64 af ∧ Aside0 (r22_Path.l0 kq l0 ab ac af = some r) ∧ Aside0 (kq ≤ k) ∧ Aside0 (Kd.R (Kd.int .i64) 3 w' w.heap.size (fun _ => True) v5 ac) ∧ Aside0 (Below w.heap.size w w'))
 case atStart => exact ⟨(a1), (([] : List Int)), (0), prs, prs, H', ⟨Nat.le_refl _⟩, ⟨knl⟩, ⟨pbg⟩⟩
 clear H'
 obtain ⟨ab, ac, af, rfl, rfl, HA, ax, aa, HB⟩ := hrel
 obtain _ | k1 := gk
 ·exact absurd HA.1 (by simp [r22_Path.l0])
 have H := HA.1
 clear HA
 simp only [r22_Path.l0] at H
 replace H := ifl H
 rcases H with ⟨aw, H⟩ | ⟨aw, H⟩
 rotate_left
 ·obtain rfl := Option.some.inj H
  go_wp2
  go_ret
  exact ⟨_, per, knl, pbg⟩
 have a5 := am H
 clear H
 go_upto_region 5 with (fail)
 go_cut [22] (fun bF wc => ∃ (kq : Nat) (ah : Bool), bF = .bool ah ∧ Aside0 (r22_Path.j1 kq l0 ab ac af ah = some r) ∧ Aside0 (kq ≤ k1) ∧ Aside0 (Kd.R (Kd.int .i64) 3 wc w.heap.size (fun _ => True) u5 ac) ∧ Aside0 (Below w.heap.size w wc))
 case first =>
  have H := a5.1
  clear a5
  replace H := ifl H
  rcases H with ⟨ag, H⟩ | ⟨ag, H⟩
  ·(first | rw [ag] | (simp only [i64_w, i32_w]; rw [ag]) | skip)
   have H' := am H
   clear H
   go_wp2
   go_meet
   case rel => exact ⟨_, (true), prs, H', ⟨by have := ax.1; first | omega | exact Nat.le_refl _⟩, ⟨pkr aa.1⟩, ⟨pbg⟩⟩
  (first | rw [ag] | (simp only [i64_w, i32_w]; rw [ag]) | skip)
  have H' := am H
  clear H
  go_wp2
  go_meet
  case rel => exact ⟨_, (decide (ab ≥ (l0.length : Int))), prs, H', ⟨by have := ax.1; first | omega | exact Nat.le_refl _⟩, ⟨pkr aa.1⟩, ⟨pbg⟩⟩
 clear a5
 try clear aw c5 ag
 obtain ⟨kq, ah, rfl, HA, aR, aa, HB⟩ := hcut
 obtain _ | bk := kq
 ·exact absurd HA.1 (by simp [r22_Path.j1])
 have H := HA.1
 clear HA
 simp only [r22_Path.j1] at H
 cases ah
 rotate_left
 ·rw [if_pos rfl] at H
  obtain rfl := Option.some.inj H
  go_wp2
  go_ret
  exact ⟨_, per, knl, pbg⟩
 rw [if_neg Bool.false_ne_true] at H
 replace H := ife H
 rcases H with ⟨aI, aJ, H⟩ | ⟨aI, aJ, H⟩
 ·obtain rfl := Option.some.inj H
  go_wp2
  go_ret
  exact ⟨_, per, by (with_reducible repeat (first | apply Kd.R_alloc | apply Kd.R_drewN | apply Kd.R_drew)); exact aa.1, pbg⟩
 replace H := ifp H
 obtain ⟨c8, H⟩ := H
 have a8 := decide_eq_true c8
 clear c8
 replace H := ifp H
 obtain ⟨c9, H⟩ := H
 have a9 := decide_eq_true c9
 clear c9
 obtain ⟨aK, ak⟩ : ∃ y_ : List Int, y_ = (([(rd_T48 l0 ab).f1] : List Int)) := ⟨_, rfl⟩
 replace H : (r22_Path.l1 bk l0 ab ac af aK 0) = some r := hrp ak H
 have au := am ak
 clear ak
 have H' := am H
 clear H
 obtain ⟨bl, bm, aD, a3, a6, bb, ao, ap, aq, ar, aN, aU⟩ := bT48 bn.1 HB.1 ab
 cases bb
 go_wp2_with (first | ((with_reducible refine gate_dst (N := 31) rfl ?_); (try (refine gate_guard (by rfl) ?_; dsimp only)); refine Kd.R_lit (Kd.int .i64) _ 3 ?hg (N := 31) ?hd (xs := ([(rd_T48 l0 ab).f1] : List Int)) (inner := [.int .i64 ((rd_T48 l0 ab).f1)]) (ok := fun _ => True) (okp := fun _ => True) ?hr ?hp (fun _ hk => hk) trivial (Below.refl _ _) (Nat.le_refl _) (by simp) ?_; (case hd => rfl); (case hg => rfl); (case hr => first | (go_simp; done) | (go_simp; rfl)); (case hp => exact (Reps.one (show Kd.M (Kd.int .i64) _ _ _ ((rd_T48 l0 ab).f1) [.int .i64 ((rd_T48 l0 ab).f1)] from rfl) (Reps.none _ _))); intro bG bK ai hb hg_ hnew_; clear hg_ hnew_; (first | rw [← au.1] at ai | (simp only [Int.reduceToNat] at ai; rw [← au.1] at ai)); have ay := am (Kd.R_lower (Kd.R_new' ai (Kd.R_lt (pkr aa.1))) (below_size pbl)); replace aa := am (Kd.R_elder' (pkr aa.1) (Kd.R_base ai) hb); replace HB := bsl hb; clear hb ai))
 go_loopg [7, 8] bk (fun kq v7 v8 w' => ∃ (aj : List Int) (ae : Int), v8 = .int .i64 ae ∧ Aside0 (r22_Path.l1 kq l0 ab ac af aj ae = some r) ∧ Aside0 (kq ≤ bk) ∧ Aside0 (Kd.R (Kd.int .i64) 3 w' w.heap.size (fun k_ => some k_ ≠ (v7 : Value).ownBlock) u5 ac) ∧ Aside0 (Kd.R (Kd.int .i64) 3 w' w.heap.size (fun k_ => some k_ ≠ (u5 : Value).ownBlock) v7 aj) ∧ Aside0 (Below w.heap.size w w'))
 case atStart => exact ⟨(aK), (0), prs, H', ⟨Nat.le_refl _⟩, ⟨by (with_reducible repeat (first | apply Kd.R_alloc | apply Kd.R_drewN | apply Kd.R_drew)); exact Kd.R_mono aa.1 (fun _ hk => hk.2)⟩, ⟨by (with_reducible repeat (first | apply Kd.R_alloc | apply Kd.R_drewN | apply Kd.R_drew)); exact Kd.R_mono ay.1 (fun _ hk => hk.2)⟩, ⟨pbg⟩⟩
 clear H'
 try clear c3 aw c5 ag c6 aI aJ c8 a8 c9 a9 ao ap aq ar bl bm
 obtain ⟨aj, ae, rfl, HA, aT, aa, av, HB⟩ := hrel
 obtain _ | k3 := gk
 ·exact absurd HA.1 (by simp [r22_Path.l1])
 have H := HA.1
 clear HA
 simp only [r22_Path.l1] at H
 replace H := ifl H
 rcases H with ⟨aH, H⟩ | ⟨aH, H⟩
 rotate_left
 ·replace H := ifp H
  obtain ⟨br, H⟩ := H
  have bs := decide_eq_true br
  clear br
  replace H := ifp H
  obtain ⟨bu, H⟩ := H
  have bv := decide_eq_true bu
  clear bu
  have H' := am H
  clear H
  obtain ⟨bz, bA, bg⟩ := Kd.R_slice aa.1
  subst bg
  obtain ⟨bC, bE, aG, a4, a7, bd, aX, aY, aZ, a2, aQ, aV⟩ := bT48 bn.1 HB.1 ab
  obtain rfl : aD = aG := (by injection bd)
  go_wp2
  go_roundg k3
  case measure => have := ax.1; have := aR.1; have := aT.1; omega
  case rel => exact ⟨((rd_T48 l0 ab).f0), (aj), (wrap64 (af + 1)), prs, prs, H', ⟨by have := ax.1; have := aR.1; have := aT.1; omega⟩, ⟨by (with_reducible repeat (first | apply Kd.R_alloc | apply Kd.R_drewN | apply Kd.R_drew)); exact Kd.R_mono av.1 (fun _ hk => trivial)⟩, ⟨pbg⟩⟩
 replace H := ifp H
 obtain ⟨bo, H⟩ := H
 have bp := decide_eq_true bo
 clear bo
 replace H := ifp H
 obtain ⟨bq, H⟩ := H
 have aA := am bq
 clear bq
 obtain ⟨aM, al⟩ : ∃ y_ : List Int, y_ = (aj ++ [rd ac ae]) := ⟨_, rfl⟩
 replace H : (r22_Path.l1 k3 l0 ab ac af aM (wrap64 (ae + 1))) = some r := hrp al H
 have aC := am al
 clear al
 have H' := am H
 clear H
 obtain ⟨bx, ba, bf⟩ := Kd.R_slice aa.1
 subst bf
 obtain ⟨bB, bD, aE, bc, aW⟩ := dint (Kd.R_reads' aa.1).2.2 ae
 cases bc
 go_wp2_with (first | ((with_reducible refine gate_builtin (b := .append) (xs := #[.tmp 38, .tmp 43]) rfl ?_); (try (refine gate_guard (by rfl) ?_; dsimp only)); at_builtin; refine Kd.R_append (Kd.int .i64) (w0 := w) w.heap.size rfl (.tmp 38) (.tmp 43) 26 3 (.int .i64 0) 8 rfl Try.underlying26 info3 rfl (by decide) (by omega) u7 aj (rd ac ae) [.int .i64 (rd ac ae)] (fun k_ => some k_ ≠ (.slice (some aE) ac.length ba : Value).ownBlock) (fun _ => False) rfl rfl ?aP (fun _ hk => hk.elim) ?aF ?aO ?aB ?aS ?aL ?_; (case aP => exact rfl); (case aB => exact pbl); (case aF => exact (fun k_ hk => Kd.fresh' (Kd.R_lt (pkr aa.1)) k_ hk)); (case aO => exact (pkr av.1)); (case aS => exact (below_size pbl)); (case aL => have := aA.1; omega); intro bH bL ho hb hg hat; rw [← aC.1] at ho; have az := am ho; replace aa := am (Kd.R_after (ok := (fun _ => True)) (by (with_reducible repeat (first | apply Kd.R_alloc | apply Kd.R_drewN | apply Kd.R_drew)); exact Kd.R_mono aa.1 (fun _ hk => ⟨trivial, hk⟩)) hg hat); replace HB := am hb; clear av; clear ho hb hg hat))
 go_roundg k3
 case measure => have := ax.1; have := aR.1; have := aT.1; omega
 case rel => exact ⟨(aM), (wrap64 (ae + 1)), prs, H', ⟨by have := ax.1; have := aR.1; have := aT.1; omega⟩, ⟨by (with_reducible repeat (first | apply Kd.R_alloc | apply Kd.R_drewN | apply Kd.R_drew)); exact Kd.R_mono aa.1 (fun _ hk => hk.2)⟩, ⟨pkr az.1⟩, ⟨pbg⟩⟩

/-! ### r22_Unbounded: function 33 -/
mutual
def r22_Unbounded.l0 : Nat → List (S48) → Int → Int → Option (List Int)
 | 0, _, _, _ => none
 | k + 1, x0, x3, x4 => if x4 < (x0.length : Int) then (if 0 ≤ x4 then (r22_Unbounded.l0 k x0 (mx x3 (((rd_T48 x0 x4).f2).length : Int)) (wrap64 (x4 + 1))) else (none)) else (r22_Unbounded.l1 k x0 x3 ([] : List Int) 0)
def r22_Unbounded.l1 : Nat → List (S48) → Int → List Int → Int → Option (List Int)
 | 0, _, _, _, _ => none
 | k + 1, x0, x3, x5, x6 => if x6 < x3 then (r22_Unbounded.l2 k x0 x3 x5 x6 false 0) else (some x5)
def r22_Unbounded.l2 : Nat → List (S48) → Int → List Int → Int → Bool → Int → Option (List Int)
 | 0, _, _, _, _, _, _ => none
 | k + 1, x0, x3, x5, x6, x7, x8 => if x8 < (x0.length : Int) then (if x7 = true then (r22_Unbounded.l2 k x0 x3 x5 x6 true (wrap64 (x8 + 1))) else (if 0 ≤ x8 then (if x6 < (((rd_T48 x0 x8).f2).length : Int) then (if 0 ≤ x6 then (r22_Unbounded.l2 k x0 x3 x5 x6 ((rd ((rd_T48 x0 x8).f2) x6) == (-1)) (wrap64 (x8 + 1))) else (none)) else (r22_Unbounded.l2 k x0 x3 x5 x6 false (wrap64 (x8 + 1)))) else (none))) else (if x7 = true then (if x5.length < 17592186044416 then (r22_Unbounded.l1 k x0 x3 (x5 ++ [x6]) (wrap64 (x6 + 1))) else (none)) else (r22_Unbounded.l1 k x0 x3 x5 (wrap64 (x6 + 1))))
end
def r22_Unbounded.f (k : Nat) (l0 : List (S48)) : Option (List Int) := r22_Unbounded.l0 k l0 0 0
theorem r22_Unbounded.mono_l : ∀ k, M3 r22_Unbounded.l0 k ∧ M4 r22_Unbounded.l1 k ∧ M6 r22_Unbounded.l2 k
 | 0 => ⟨fun _ _ _ r h => by simp [r22_Unbounded.l0] at h, fun _ _ _ _ r h => by simp [r22_Unbounded.l1] at h, fun _ _ _ _ _ _ r h => by simp [r22_Unbounded.l2] at h⟩
 | k + 1 => by
  obtain ⟨bg, bh, bi⟩ := r22_Unbounded.mono_l k
  refine ⟨?_, ?_, ?_⟩ <;> dsimp only [M3, M4, M6] <;> intros <;> (first | unfold r22_Unbounded.l0 | unfold r22_Unbounded.l1 | unfold r22_Unbounded.l2) <;> repeat' first | (with_reducible first | apply bg | apply bh | apply bi | apply lr | apply ln | apply li | refine lb ?_ fun _ => ?_)
theorem r22_Unbounded.mono : ∀ a0 k, LeO (r22_Unbounded.f k a0) (r22_Unbounded.f (k + 1) a0) := by
 intro a0 k
 obtain ⟨bg, bh, bi⟩ := r22_Unbounded.mono_l k
 unfold r22_Unbounded.f
 repeat' first | (with_reducible first | apply bg | apply bh | apply bi | apply lr | apply ln | apply li | refine lb ?_ fun _ => ?_)
set_option maxHeartbeats 8000000 in
set_option maxRecDepth 100000 in
theorem r22_Unbounded.calls (k : Nat) (A0 : Option Addr) (c0 : Nat) (l0 : List (S48)) (r : List Int) (w : World) (bq : Kd.C k48 w A0 l0.length l0) (hc0 : l0.length ≤ c0) (h : r22_Unbounded.f k l0 = some r) :
  Calls Try.prog 33 #[.slice A0 l0.length c0] w fun e w' => ∃ v0_ : Value, e = .returned (v0_) ∧ Kd.R (Kd.int .i64) 3 w' w.heap.size (fun _ => True) v0_ r ∧ Below w.heap.size w w' := by
 have aZ := am bq
 have bz := am hc0
 clear bq hc0
 have HB := am (Below.refl w.heap.size w)
 have H : (r22_Unbounded.l0 k l0 0 0) = some r := h
 clear h
 have H' := am H
 clear H
 go_enter Try.func33, Try.ntmps33
 go_wp2
 go_loopg [3, 4] k (fun kq v3 v4 w' => ∃ (ae : Int) (af : Int), v3 = .int .i64 ae ∧ v4 = .int .i64 af ∧ Aside0 (r22_Unbounded.l0 kq l0 ae af = some r) ∧ Aside0 (kq ≤ k) ∧ Aside0 (Below w.heap.size w w'))
 case atStart => exact ⟨(0), (0), prs, prs, H', ⟨Nat.le_refl _⟩, ⟨pbg⟩⟩
 clear H'
 obtain ⟨ae, af, rfl, rfl, HA, ao, HB⟩ := hrel
 obtain _ | k1 := gk
 ·exact absurd HA.1 (by simp [r22_Unbounded.l0])
 have H := HA.1
 clear HA
 simp only [r22_Unbounded.l0] at H
 replace H := ifl H
 rcases H with ⟨aH, H⟩ | ⟨aH, H⟩
 ·replace H := ifp H
  obtain ⟨c3, H⟩ := H
  have aR := decide_eq_true c3
  clear c3
  obtain ⟨bj, ay⟩ : ∃ j_ : Int, (mx ae (((rd_T48 l0 af).f2).length : Int)) = j_ := ⟨_, rfl⟩
  replace H : (r22_Unbounded.l0 k1 l0 bj (wrap64 (af + 1))) = some r := by first | (rw [ay] at H; exact H) | (simp only [ay] at H ⊢; exact H)
  have hji4_ : (if ae < (((rd_T48 l0 af).f2).length : Int) then (((rd_T48 l0 af).f2).length : Int) else ae) = bj := ay
  have H' := am H
  clear H
  obtain ⟨aU, aV, bm, a6, a8, bc, ah, ai, aj, ak, aX, a1⟩ := bT48 aZ.1 HB.1 af
  cases bc
  go_wp2
  go_roundg k1
  case measure => have := ao.1; omega
  case rel => exact ⟨(bj), (wrap64 (af + 1)), (by first | rfl | (simp; done) | (simp only [← ay] <;> (first | rfl | simp)) | (simp [*]; done)), prs, H', ⟨by have := ao.1; omega⟩, ⟨pbg⟩⟩
 have H' := am H
 clear H
 go_wp2
 go_loopg [5, 6] k1 (fun kq v5 v6 w' => ∃ (ag : List Int) (aa : Int), v6 = .int .i64 aa ∧ Aside0 (r22_Unbounded.l1 kq l0 ae ag aa = some r) ∧ Aside0 (kq ≤ k1) ∧ Aside0 (Kd.R (Kd.int .i64) 3 w' w.heap.size (fun _ => True) v5 ag) ∧ Aside0 (Below w.heap.size w w'))
 case atStart => exact ⟨(([] : List Int)), (0), prs, H', ⟨Nat.le_refl _⟩, ⟨knl⟩, ⟨pbg⟩⟩
 clear H'
 try clear aH c3 aR ah ai aj ak aU aV
 obtain ⟨ag, aa, rfl, HA, ar, ac, HB⟩ := hrel
 obtain _ | k2 := gk
 ·exact absurd HA.1 (by simp [r22_Unbounded.l1])
 have H := HA.1
 clear HA
 simp only [r22_Unbounded.l1] at H
 replace H := ifl H
 rcases H with ⟨aT, H⟩ | ⟨aT, H⟩
 rotate_left
 ·obtain rfl := Option.some.inj H
  go_wp2
  go_ret
  exact ⟨_, per, by (with_reducible repeat (first | apply Kd.R_alloc | apply Kd.R_drewN | apply Kd.R_drew)); exact ac.1, pbg⟩
 have H' := am H
 clear H
 go_wp2
 go_loopg [7, 8] k2 (fun kq v7 v8 w' => ∃ (aq : Bool) (ab : Int), v7 = .bool aq ∧ v8 = .int .i64 ab ∧ Aside0 (r22_Unbounded.l2 kq l0 ae ag aa aq ab = some r) ∧ Aside0 (kq ≤ k2) ∧ Aside0 (Kd.R (Kd.int .i64) 3 w' w.heap.size (fun _ => True) u5 ag) ∧ Aside0 (Below w.heap.size w w'))
 case atStart => exact ⟨(false), (0), prs, prs, H', ⟨Nat.le_refl _⟩, ⟨pkr ac.1⟩, ⟨pbg⟩⟩
 clear H'
 try clear c2 aH c3 aR aT ah ai aj ak aU aV
 obtain ⟨aq, ab, rfl, rfl, HA, au, ac, HB⟩ := hrel
 obtain _ | k3 := gk
 ·exact absurd HA.1 (by simp [r22_Unbounded.l2])
 have H := HA.1
 clear HA
 simp only [r22_Unbounded.l2] at H
 replace H := ifl H
 rcases H with ⟨ba, H⟩ | ⟨ba, H⟩
 rotate_left
 ·cases aq
  ·rw [if_neg Bool.false_ne_true] at H
   have H' := am H
   clear H
   go_wp2
   go_roundg k3
   case measure => have := ao.1; have := ar.1; have := au.1; omega
   case rel => exact ⟨(ag), (wrap64 (aa + 1)), prs, H', ⟨by have := ao.1; have := ar.1; have := au.1; omega⟩, ⟨pkr ac.1⟩, ⟨pbg⟩⟩
  rw [if_pos rfl] at H
  replace H := ifp H
  obtain ⟨bp, H⟩ := H
  have aM := am bp
  clear bp
  obtain ⟨aW, ap⟩ : ∃ y_ : List Int, y_ = (ag ++ [aa]) := ⟨_, rfl⟩
  replace H : (r22_Unbounded.l1 k3 l0 ae aW (wrap64 (aa + 1))) = some r := hrp ap H
  have aN := am ap
  clear ap
  have H' := am H
  clear H
  go_wp2_with (first | ((with_reducible refine gate_builtin (b := .append) (xs := #[.tmp 57, .tmp 59]) rfl ?_); (try (refine gate_guard (by rfl) ?_; dsimp only)); at_builtin; refine Kd.R_append (Kd.int .i64) (w0 := w) w.heap.size rfl (.tmp 57) (.tmp 59) 26 3 (.int .i64 0) 8 rfl Try.underlying26 info3 rfl (by decide) (by omega) u5 ag aa [.int .i64 aa] (fun _ => True) (fun _ => False) rfl rfl ?aP (fun _ hk => hk.elim) ?aF ?aO ?aB ?aS ?aL ?_; (case aP => exact rfl); (case aB => exact pbl); (case aF => exact (fun _ _ => trivial)); (case aO => exact (pkr ac.1)); (case aS => exact (below_size pbl)); (case aL => have := aM.1; omega); intro bx bA ho hb hg hat; rw [← aN.1] at ho; have aK := am ho; replace HB := am hb; clear ac; clear ho hb hg hat))
  go_roundg k3
  case measure => have := ao.1; have := ar.1; have := au.1; omega
  case rel => exact ⟨(aW), (wrap64 (aa + 1)), prs, H', ⟨by have := ao.1; have := ar.1; have := au.1; omega⟩, ⟨pkr aK.1⟩, ⟨pbg⟩⟩
 cases aq
 rotate_left
 ·rw [if_pos rfl] at H
  have H' := am H
  clear H
  go_wp2
  go_roundg k3
  case measure => have := ao.1; have := ar.1; have := au.1; omega
  case rel => exact ⟨(true), (wrap64 (ab + 1)), prs, prs, H', ⟨by have := ao.1; have := ar.1; have := au.1; omega⟩, ⟨pkr ac.1⟩, ⟨pbg⟩⟩
 rw [if_neg Bool.false_ne_true] at H
 replace H := ifp H
 obtain ⟨c8, H⟩ := H
 have br := decide_eq_true c8
 clear c8
 replace H := ifl H
 rcases H with ⟨bb, H⟩ | ⟨bb, H⟩
 rotate_left
 ·have H' := am H
  clear H
  obtain ⟨bk, bl, aE, aG, aI, aJ, az, aA, al, aC, av, aw⟩ := bT48 aZ.1 HB.1 ab
  cases aJ
  go_wp2
  go_roundg k3
  case measure => have := ao.1; have := ar.1; have := au.1; omega
  case rel => exact ⟨(false), (wrap64 (ab + 1)), prs, prs, H', ⟨by have := ao.1; have := ar.1; have := au.1; omega⟩, ⟨pkr ac.1⟩, ⟨pbg⟩⟩
 replace H := ifp H
 obtain ⟨c10, H⟩ := H
 have bo := decide_eq_true c10
 clear c10
 have H' := am H
 clear H
 obtain ⟨bk, bl, aE, aG, aI, aJ, az, aA, al, aC, av, aw⟩ := bT48 aZ.1 HB.1 ab
 cases aJ
 obtain ⟨bs, bv, aQ, a7, a9, bd, a2, a3, aD, a4, aY, ax⟩ := bT48 aZ.1 HB.1 ab
 obtain rfl : aE = aQ := (by injection bd)
 have ea_ := Option.some.inj (al.symm.trans aD)
 injection ea_ with ea_ en_ ec_
 subst ea_
 subst ec_
 clear en_
 obtain ⟨bu, bw, bn, bf, a5⟩ := bint ax.1 HB.1 aa
 cases bf
 go_wp2
 go_roundg k3
 case measure => have := ao.1; have := ar.1; have := au.1; omega
 case rel => exact ⟨(((rd ((rd_T48 l0 ab).f2) aa) == (-1))), (wrap64 (ab + 1)), prs, prs, H', ⟨by have := ao.1; have := ar.1; have := au.1; omega⟩, ⟨pkr ac.1⟩, ⟨pbg⟩⟩

/-! ### petrinetlaw22_KarpmillerReads: function 8 -/
def petrinetlaw22_KarpmillerReads.f (k : Nat) (l0 : List (S48)) (a1 : Int) : Option (Bool) := (petrinetlaw22_few.f k l0).bind fun ak => (if ak = true then ((karpmiller_Path.f k l0 a1).bind fun ag => ((r22_Path.f k l0 a1).bind fun ah => ((r04_Same.f k ag ah).bind fun ao => (if ao = true then ((karpmiller_Unbounded.f k l0).bind fun ai => ((r22_Unbounded.f k l0).bind fun aj => ((r04_Same.f k ai aj).bind fun ap => (if ap = true then ((petrinetlaw22_alive.f k).bind fun aq => (some aq)) else (none))))) else (none))))) else ((petrinetlaw22_alive.f k).bind fun al => (some al)))
theorem petrinetlaw22_KarpmillerReads.mono : ∀ a0 a1 k, LeO (petrinetlaw22_KarpmillerReads.f k a0 a1) (petrinetlaw22_KarpmillerReads.f (k + 1) a0 a1) := by
 intro a0 a1 k
 unfold petrinetlaw22_KarpmillerReads.f
 repeat' first | (with_reducible first | apply karpmiller_Path.mono | apply karpmiller_Unbounded.mono | apply petrinetlaw22_alive.mono | apply petrinetlaw22_few.mono | apply r04_Same.mono | apply r22_Path.mono | apply r22_Unbounded.mono | apply lr | apply ln | apply li | refine lb ?_ fun _ => ?_)
set_option maxHeartbeats 8000000 in
set_option maxRecDepth 100000 in
theorem petrinetlaw22_KarpmillerReads.calls (k : Nat) (A0 : Option Addr) (c0 : Nat) (l0 : List (S48)) (a1 : Int) (r : Bool) (w : World) (az : Kd.C k48 w A0 l0.length l0) (hc0 : l0.length ≤ c0) (h : petrinetlaw22_KarpmillerReads.f k l0 a1 = some r) :
  Calls Try.prog 8 #[.slice A0 l0.length c0, .int .i64 a1] w fun e w' => e = .returned (.bool r) ∧ Below w.heap.size w w' := by
 have au := am az
 have ar := am hc0
 clear az hc0
 have HB := am (Below.refl w.heap.size w)
 have H := h
 unfold petrinetlaw22_KarpmillerReads.f at H
 clear h
 replace H := bnd H
 obtain ⟨ak, A3, H⟩ := H
 (try dsimp only at H)
 cases ak
 ·rw [if_neg Bool.false_ne_true] at H
  replace H := bnd H
  obtain ⟨al, aA, H⟩ := H
  (try dsimp only at H)
  obtain rfl := Option.some.inj H
  go_enter Try.func8, Try.ntmps8
  go_wp2_with (first | ((with_reducible refine gate_callee (f := 22) rfl ?_); refine gC 6 Try.func22 _ (petrinetlaw22_few.calls k _ _ l0 false _ (csd au.1) ar.1 A3.1) ?_; rintro e w' ⟨rfl, ⟨nd, rfl⟩⟩; refine ⟨_, rfl, ?_⟩) | ((with_reducible refine gate_callee (f := 11) rfl ?_); refine gC 8 Try.func11 _ (petrinetlaw22_alive.calls k  al _ aA.1) ?_; rintro e aS ⟨rfl, hb⟩; refine ⟨_, rfl, ?_⟩; replace HB := bsl hb; (try clear hb)))
  go_ret
  exact ⟨per, pbg⟩
 rw [if_pos rfl] at H
 replace H := bnd H
 obtain ⟨ag, A5, H⟩ := H
 (try dsimp only at H)
 replace H := bnd H
 obtain ⟨ah, A6, H⟩ := H
 (try dsimp only at H)
 replace H := bnd H
 obtain ⟨ao, A7, H⟩ := H
 (try dsimp only at H)
 cases ao
 ·rw [if_neg Bool.false_ne_true] at H
  exact absurd H (by simp)
 rw [if_pos rfl] at H
 replace H := bnd H
 obtain ⟨ai, A9, H⟩ := H
 (try dsimp only at H)
 replace H := bnd H
 obtain ⟨aj, A10, H⟩ := H
 (try dsimp only at H)
 replace H := bnd H
 obtain ⟨ap, A11, H⟩ := H
 (try dsimp only at H)
 cases ap
 ·rw [if_neg Bool.false_ne_true] at H
  exact absurd H (by simp)
 rw [if_pos rfl] at H
 replace H := bnd H
 obtain ⟨aq, A13, H⟩ := H
 (try dsimp only at H)
 obtain rfl := Option.some.inj H
 go_enter Try.func8, Try.ntmps8
 go_wp2_with (first | ((with_reducible refine gate_callee (f := 22) rfl ?_); refine gC 6 Try.func22 _ (petrinetlaw22_few.calls k _ _ l0 true _ (csd au.1) ar.1 A3.1) ?_; rintro e w' ⟨rfl, ⟨nd, rfl⟩⟩; refine ⟨_, rfl, ?_⟩) | ((with_reducible refine gate_callee (f := 31) rfl ?_); refine gC 11 Try.func31 _ (karpmiller_Path.calls k _ _ l0 a1 ag _ (csd au.1) ar.1 A5.1) ?_; rintro e aN ⟨aJ, rfl, af, hb⟩; refine ⟨_, rfl, ?_⟩; have aa := am (Kd.R_lower af (below_size pbl)); replace HB := bsl hb; (try clear hb); (try clear af)) | ((with_reducible refine gate_callee (f := 32) rfl ?_); refine gC 14 Try.func32 _ (r22_Path.calls k _ _ l0 a1 ah _ (csb au HB) ar.1 A6.1) ?_; rintro e aO ⟨aK, rfl, af, hb⟩; refine ⟨_, rfl, ?_⟩; have ab := am (Kd.R_lower (Kd.R_new' af (Kd.R_lt (pkr aa.1))) (below_size pbl)); replace aa := am (Kd.R_elder' (pkr aa.1) (Kd.R_base af) hb); replace HB := bsl hb; (try clear hb); (try clear af); obtain ⟨aB, aF, av⟩ := Kd.R_slice aa.1; subst av; obtain ⟨aC, aG, aw⟩ := Kd.R_slice ab.1; subst aw) | ((with_reducible refine gate_callee (f := 14) rfl ?_); refine gC 15 Try.func14 _ (r04_Same.calls k _ _ ag _ _ ah true _ (csd ((Kd.R_reads' aa.1).2.2)) ((Kd.R_reads' aa.1).2.1) (csd ((Kd.R_reads' ab.1).2.2)) ((Kd.R_reads' ab.1).2.1) A7.1) ?_; rintro e w' ⟨rfl, ⟨nd, rfl⟩⟩; refine ⟨_, rfl, ?_⟩) | (go_at_call 30; (with_reducible refine (karpmiller_Unbounded.calls k _ _ l0 ai _ ?side1 ?side2 A9.1).mono ?_); (case side1 => exact csd ((Kd.C_below au.1 pbl))); (case side2 => exact ar.1); rintro e aP ⟨aL, rfl, af, hb⟩; have ac := am (Kd.R_lower (Kd.R_new' (Kd.R_new' af (Kd.R_lt (pkr aa.1))) (Kd.R_lt (pkr ab.1))) (below_size pbl)); replace aa := am (Kd.R_elder' (pkr aa.1) (Kd.R_base af) hb); replace ab := am (Kd.R_elder' (pkr ab.1) (Kd.R_base af) hb); replace HB := bsl hb; (try clear hb); (try clear af)) | (go_at_call 33; (with_reducible refine (r22_Unbounded.calls k _ _ l0 aj _ ?side1 ?side2 A10.1).mono ?_); (case side1 => exact csb au HB); (case side2 => exact ar.1); rintro e aQ ⟨aM, rfl, af, hb⟩; have ae := am (Kd.R_lower (Kd.R_new' (Kd.R_new' (Kd.R_new' af (Kd.R_lt (pkr aa.1))) (Kd.R_lt (pkr ab.1))) (Kd.R_lt (pkr ac.1))) (below_size pbl)); replace aa := am (Kd.R_elder' (pkr aa.1) (Kd.R_base af) hb); replace ab := am (Kd.R_elder' (pkr ab.1) (Kd.R_base af) hb); replace ac := am (Kd.R_elder' (pkr ac.1) (Kd.R_base af) hb); replace HB := bsl hb; (try clear hb); (try clear af); obtain ⟨aD, aH, ax⟩ := Kd.R_slice ac.1; subst ax; obtain ⟨aE, aI, ay⟩ := Kd.R_slice ae.1; subst ay) | (go_at_call 14; (with_reducible refine (r04_Same.calls k _ _ ai _ _ aj true _ ?side1 ?side2 ?side3 ?side4 A11.1).mono ?_); (case side1 => exact csd ((Kd.R_reads' ac.1).2.2)); (case side2 => exact (Kd.R_reads' ac.1).2.1); (case side3 => exact csd ((Kd.R_reads' ae.1).2.2)); (case side4 => exact (Kd.R_reads' ae.1).2.1); rintro e w' ⟨rfl, ⟨nd, rfl⟩⟩) | (go_at_call 11; (with_reducible refine (petrinetlaw22_alive.calls k  aq _ A13.1).mono ?_); rintro e aR ⟨rfl, hb⟩; replace aa := rbw aa hb; replace ab := rbw ab hb; replace ac := rbw ac hb; replace ae := rbw ae hb; replace HB := bsl hb; (try clear hb)))
 go_ret
 exact ⟨per, pbg⟩

end Go.Proofs.Yteknagfpiadaiaa.P
