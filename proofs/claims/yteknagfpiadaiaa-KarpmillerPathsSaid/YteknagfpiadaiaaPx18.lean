-- LAID BY OUR PROGRAM OVER THE PRINT (xprint.py, part.py): Lean checks it.
import Derived.Test.YteknagfpiadaiaaPx0
namespace Go.Proofs.Yteknagfpiadaiaa.P
open Go.RowKit Go.Proofs.YteknagfpiadaiaaW.PrintWords Go.Proofs.YteknagfpiadaiaaW.PrintLast Go.Proofs.YteknagfpiadaiaaW.PrintMore
attribute [local go_sem] max2_int min2_int max_two min_two max_three min_three max_four min_four   -- for this text's walks alone
set_option linter.unusedVariables false
set_option linter.unusedSimpArgs false

/-! ### karpmiller_Path: function 31 -/
theorem R_make0 {P : Program} {ops : Array Oper} {rest : List Oper} {o : Oper} {a : Act} {Q : Exit → Act → World → Prop} {W : World} {α : Type} (d : Kd α) (base e : Nat) (hgd : o.guard = none) (t : Nat) (kx : Operand) (ky : Operand) (ho : o.op = .makeSlice t kx ky) (n : Nat) (hx : a.eval kx = .int .i64 0) (hy : a.eval ky = .int .i64 (n : Int))
  (ht : P.underlying t = some (.slice e)) (z : Value) (bytes : Nat) (hinfo : (P.info? e).map (fun i => (i.zero, i.size, i.bytes)) = some (some z, d.sz, bytes)) (hl : bytes * n ≤ 281474976710656) (hm : n ≤ maxLen) (hbase : base ≤ W.heap.size)
  (h : ∀ v1 w1, d.R e w1 base (fun k => W.heap.size ≤ k) v1 [] → W.grownBy w1 none → wpList P ops Q rest (a.put o.dst v1) w1) : wpList P ops Q (o :: rest) a W := by
 obtain ⟨i0, hi, hzz⟩ := Option.map_eq_some_iff.1 hinfo
 simp only [Prod.mk.injEq] at hzz
 obtain ⟨hz0, hz1, hz2⟩ := hzz
 refine wpList_make_own W hgd kx ky t ho base e i0 z d.sz ht hi hz0 hz1 .i64 .i64 (n : Int) n hx hy rfl (by rw [hz2]; exact hl) hm hbase (fun w' hown hg => h _ _ ⟨fun k hk => ?_, [], hown, Reps.none _ _⟩ hg)
 have : W.heap.size = k := by simpa [Value.ownBlock] using hk
 omega
mutual
def karpmiller_Path.l0 : Nat → List (S48) → Int → List Int → Int → Option (List Int)
 | 0, _, _, _, _ => none
 | k + 1, x0, x1, x5, x6 => if x1 = 0 then (if (x0.length : Int) = 0 then (some ([] : List Int)) else (if x5.length ≤ 35184372088832 then (karpmiller_Path.l1 k x5 ([] : List Int) (wrap64 ((x5.length : Int) - 1))) else none)) else (if x1 < 0 then (some ([] : List Int)) else (if x1 ≥ (x0.length : Int) then (some ([] : List Int)) else (if x6 ≥ (x0.length : Int) then (some ([] : List Int)) else (if 0 ≤ x1 then (if x1 < (x0.length : Int) then (if x5.length < 17592186044416 then (karpmiller_Path.l0 k x0 ((rd_T48 x0 x1).f0) (x5 ++ [(rd_T48 x0 x1).f1]) (wrap64 (x6 + 1))) else (none)) else (none)) else (none)))))
def karpmiller_Path.l1 : Nat → List Int → List Int → Int → Option (List Int)
 | 0, _, _, _ => none
 | k + 1, x5, x7, x8 => if x8 ≥ 0 then (if 0 ≤ x8 then (if x8 < (x5.length : Int) then (if x7.length < 17592186044416 then (karpmiller_Path.l1 k x5 (x7 ++ [rd x5 x8]) (wrap64 (x8 - 1))) else (none)) else (none)) else (none)) else (some x7)
end
def karpmiller_Path.f (k : Nat) (l0 : List (S48)) (a1 : Int) : Option (List Int) := karpmiller_Path.l0 k l0 a1 ([] : List Int) 0
theorem karpmiller_Path.mono_l : ∀ k, M4 karpmiller_Path.l0 k ∧ M3 karpmiller_Path.l1 k
 | 0 => ⟨fun _ _ _ _ r h => by simp [karpmiller_Path.l0] at h, fun _ _ _ r h => by simp [karpmiller_Path.l1] at h⟩
 | k + 1 => by
  obtain ⟨bi, bj⟩ := karpmiller_Path.mono_l k
  refine ⟨?_, ?_⟩ <;> dsimp only [M3, M4] <;> intros <;> (first | unfold karpmiller_Path.l0 | unfold karpmiller_Path.l1) <;> repeat' first | (with_reducible first | apply bi | apply bj | apply lr | apply ln | apply li | refine lb ?_ fun _ => ?_)
theorem karpmiller_Path.mono : ∀ a0 a1 k, LeO (karpmiller_Path.f k a0 a1) (karpmiller_Path.f (k + 1) a0 a1) := by
 intro a0 a1 k
 obtain ⟨bi, bj⟩ := karpmiller_Path.mono_l k
 unfold karpmiller_Path.f
 repeat' first | (with_reducible first | apply bi | apply bj | apply lr | apply ln | apply li | refine lb ?_ fun _ => ?_)
set_option maxHeartbeats 8000000 in
set_option maxRecDepth 100000 in
theorem karpmiller_Path.calls (k : Nat) (A0 : Option Addr) (c0 : Nat) (l0 : List (S48)) (a1 : Int) (r : List Int) (w : World) (br : Kd.C k48 w A0 l0.length l0) (hc0 : l0.length ≤ c0) (h : karpmiller_Path.f k l0 a1 = some r) :
  Calls Try.prog 31 #[.slice A0 l0.length c0, .int .i64 a1] w fun e w' => ∃ v0_ : Value, e = .returned (v0_) ∧ Kd.R (Kd.int .i64) 3 w' w.heap.size (fun _ => True) v0_ r ∧ Below w.heap.size w w' := by
 have bl := am br
 have bD := am hc0
 clear br hc0
 have HB := am (Below.refl w.heap.size w)
 have H := h
 unfold karpmiller_Path.f at H
 clear h
 have H' := am H
 clear H
 go_enter Try.func31, Try.ntmps31
 go_wp2
 go_loopg [1, 5, 6] k (fun kq v1 v5 v6 w' => ∃ (ac : Int) (aa : List Int) (ap : Int), v1 = .int .i64 ac ∧ v6 = .int .i64 ap ∧ Aside0 (karpmiller_Path.l0 kq l0 ac aa ap = some r) ∧ Aside0 (kq ≤ k) ∧ Aside0 (Kd.R (Kd.int .i64) 3 w' w.heap.size (fun _ => True) v5 aa) ∧ Aside0 (Below w.heap.size w w'))
 case atStart => exact ⟨(a1), (([] : List Int)), (0), prs, prs, H', ⟨Nat.le_refl _⟩, ⟨knl⟩, ⟨pbg⟩⟩
 clear H'
 obtain ⟨ac, aa, ap, rfl, rfl, HA, aV, ab, HB⟩ := hrel
 obtain _ | k1 := gk
 ·exact absurd HA.1 (by simp [karpmiller_Path.l0])
 have H := HA.1
 clear HA
 simp only [karpmiller_Path.l0] at H
 replace H := ife H
 rcases H with ⟨aJ, aK, H⟩ | ⟨aJ, aK, H⟩
 rotate_left
 ·replace H := ifl H
  rcases H with ⟨aG, H⟩ | ⟨aG, H⟩
  ·obtain rfl := Option.some.inj H
   go_wp2
   go_ret
   exact ⟨_, per, knl, pbg⟩
  replace H := ifh H
  rcases H with ⟨aH, H⟩ | ⟨aH, H⟩
  ·obtain rfl := Option.some.inj H
   go_wp2
   go_ret
   exact ⟨_, per, knl, pbg⟩
  replace H := ifh H
  rcases H with ⟨aI, H⟩ | ⟨aI, H⟩
  ·obtain rfl := Option.some.inj H
   go_wp2
   go_ret
   exact ⟨_, per, knl, pbg⟩
  replace H := ifp H
  obtain ⟨bm, H⟩ := H
  have bn := decide_eq_true bm
  clear bm
  replace H := ifp H
  obtain ⟨bo, H⟩ := H
  have bp := decide_eq_true bo
  clear bo
  replace H := ifp H
  obtain ⟨bq, H⟩ := H
  have ay := am bq
  clear bq
  obtain ⟨aQ, al⟩ : ∃ y_ : List Int, y_ = (aa ++ [(rd_T48 l0 ac).f1]) := ⟨_, rfl⟩
  replace H : (karpmiller_Path.l0 k1 l0 ((rd_T48 l0 ac).f0) aQ (wrap64 (ap + 1))) = some r := hrp al H
  have az := am al
  clear al
  have H' := am H
  clear H
  obtain ⟨bw, bz, aC, a6, bb, bf, aZ, a2, a3, a4, aT, aW⟩ := bT48 bl.1 HB.1 ac
  cases bf
  go_wp2_with (first | ((with_reducible refine gate_builtin (b := .append) (xs := #[.tmp 27, .tmp 33]) rfl ?_); (try (refine gate_guard (by rfl) ?_; dsimp only)); at_builtin; refine Kd.R_append (Kd.int .i64) (w0 := w) w.heap.size rfl (.tmp 27) (.tmp 33) 26 3 (.int .i64 0) 8 rfl Try.underlying26 info3 rfl (by decide) (by omega) u5 aa ((rd_T48 l0 ac).f1) [.int .i64 ((rd_T48 l0 ac).f1)] (fun _ => True) (fun _ => False) rfl rfl ?aP (fun _ hk => hk.elim) ?aF ?aO ?aB ?aS ?aL ?_; (case aP => exact rfl); (case aB => exact pbl); (case aF => exact (fun _ _ => trivial)); (case aO => exact (pkr ab.1)); (case aS => exact (below_size pbl)); (case aL => have := ay.1; omega); intro bB bF ho hb hg hat; rw [← az.1] at ho; have aw := am ho; replace HB := am hb; clear ab; clear ho hb hg hat; have au : 0 ≤ (ac : Int) := dq; have av : ac < (l0.length : Int) := dq; obtain ⟨aD, a7, bc, bg, ah, ai, aj, ak, ag, af⟩ := at_T48 bl.1 ac au av; obtain rfl : aC = aD := (by injection bg); replace ah := cbl HB.1 ah; replace ai := cbl HB.1 ai; replace aj := cbl HB.1 aj; replace ak := cbl HB.1 ak; have aX := am af; have aU := am ag; clear af ag; replace au := eq_true au; replace av := eq_true av))
  go_roundg k1
  case measure => have := aV.1; omega
  case rel => exact ⟨((rd_T48 l0 ac).f0), (aQ), (wrap64 (ap + 1)), prs, prs, H', ⟨by have := aV.1; omega⟩, ⟨pkr aw.1⟩, ⟨pbg⟩⟩
 by_cases c4 : (l0.length : Int) = 0
 ·rw [if_pos c4] at H
  have aM : ((l0.length : Int) == 0) = true := beq_iff_eq.mpr c4
  have aN : ((l0.length : Int) != 0) = false := bne_eq_false_iff_eq.mpr c4
  clear c4
  obtain rfl := Option.some.inj H
  go_wp2
  go_ret
  exact ⟨_, per, knl, pbg⟩
 rw [if_neg c4] at H
 have aM : ((l0.length : Int) == 0) = false := beq_eq_false_iff_ne.mpr c4
 have aN : ((l0.length : Int) != 0) = true := bne_iff_ne.mpr c4
 have ba : ¬ (l0 = []) := fun h_ => c4 (by rw [h_]; rfl)
 replace H := ifp H
 obtain ⟨cM, H⟩ := H
 have CM := am cM
 clear cM
 have H' := am H
 clear H
 obtain ⟨a8, aY, bv⟩ := Kd.R_slice ab.1
 subst bv
 go_wp2_with (first | ((with_reducible refine gate_dst (N := 45) rfl ?_); refine R_make0 (Kd.int .i64) w.heap.size 3 (by rfl) 26 (.const (.int .i64 0)) (.tmp 44) (by rfl) aa.length (by rfl) (by rfl) Try.underlying26 (.int .i64 0) 8 info3 (by have := CM.1; omega) (by have := CM.1; simp only [maxLen]; omega) (below_size pbg) ?_; intro v7 w7 hown hg; have HN := am (Kd.R_mono (ok' := fun k_ => some k_ ≠ (.slice a8 aa.length aY : Value).ownBlock) hown (fun k_ hk_ e_ => by have := Kd.R_lt ab.1 k_ e_.symm; omega)); have HE := am (show ∀ k_, v7.ownBlock = some k_ → wr.heap.size ≤ k_ from hown.1); have LT := am (Kd.R_lt ab.1); replace ab := am (Kd.R_step ab.1 (fun k_ _ hl_ => hg.block k_ hl_ (by simp))); replace HB := am (below_step HB.1 ⟨hg.os, hg.tape, hg.output, hg.size, fun k_ hk_ => hg.block k_ hk_ (by simp)⟩); clear hown hg))
 go_loopg [7, 8] k1 (fun kq v7 v8 w' => ∃ (aq : List Int) (ae : Int), v8 = .int .i64 ae ∧ Aside0 (karpmiller_Path.l1 kq aa aq ae = some r) ∧ Aside0 (kq ≤ k1) ∧ Aside0 (Kd.R (Kd.int .i64) 3 w' w.heap.size (fun k_ => some k_ ≠ (v7 : Value).ownBlock) (.slice a8 aa.length aY) aa) ∧ Aside0 (Kd.R (Kd.int .i64) 3 w' w.heap.size (fun k_ => some k_ ≠ ((.slice a8 aa.length aY) : Value).ownBlock) v7 aq) ∧ Aside0 (Below w.heap.size w w'))
 case atStart => exact ⟨(([] : List Int)), (wrap64 ((aa.length : Int) - 1)), prs, H', ⟨Nat.le_refl _⟩, ⟨Kd.R_mono (Kd.R_tight rfl ab.1) (fun k_ hk_ e_ => by have := HE.1 k_ e_.symm; have := LT.1 k_ hk_.symm; omega)⟩, ⟨HN.1⟩, ⟨pbg⟩⟩
 clear H'
 try clear c3 aJ aK c4 aM aN ba
 obtain ⟨aq, ae, rfl, HA, bk, ab, ar, HB⟩ := hrel
 obtain _ | k2 := gk
 ·exact absurd HA.1 (by simp [karpmiller_Path.l1])
 have H := HA.1
 clear HA
 simp only [karpmiller_Path.l1] at H
 replace H := ifh H
 rcases H with ⟨bd, H⟩ | ⟨bd, H⟩
 rotate_left
 ·obtain rfl := Option.some.inj H
  go_wp2
  go_ret
  exact ⟨_, per, by (with_reducible repeat (first | apply Kd.R_alloc | apply Kd.R_drewN | apply Kd.R_drew)); exact Kd.R_mono ar.1 (fun _ hk => trivial), pbg⟩
 replace H := ifp H
 obtain ⟨c7, H⟩ := H
 have bs := decide_eq_true c7
 clear c7
 replace H := ifp H
 obtain ⟨c8, H⟩ := H
 have bu := decide_eq_true c8
 clear c8
 replace H := ifp H
 obtain ⟨c9, H⟩ := H
 have a9 := am c9
 clear c9
 obtain ⟨aR, ao⟩ : ∃ y_ : List Int, y_ = (aq ++ [rd aa ae]) := ⟨_, rfl⟩
 replace H : (karpmiller_Path.l1 k2 aa aR (wrap64 (ae - 1))) = some r := hrp ao H
 have aA := am ao
 clear ao
 have H' := am H
 clear H
 obtain ⟨bx, bA, aE, bh, a5⟩ := dint (Kd.R_reads' ab.1).2.2 ae
 cases bh
 go_wp2_with (first | ((with_reducible refine gate_builtin (b := .append) (xs := #[.tmp 53, .tmp 58]) rfl ?_); (try (refine gate_guard (by rfl) ?_; dsimp only)); at_builtin; refine Kd.R_append (Kd.int .i64) (w0 := w) w.heap.size rfl (.tmp 53) (.tmp 58) 26 3 (.int .i64 0) 8 rfl Try.underlying26 info3 rfl (by decide) (by omega) u7 aq (rd aa ae) [.int .i64 (rd aa ae)] (fun k_ => some k_ ≠ (.slice (some aE) aa.length aY : Value).ownBlock) (fun _ => False) rfl rfl ?aP (fun _ hk => hk.elim) ?aF ?aO ?aB ?aS ?aL ?_; (case aP => exact rfl); (case aB => exact pbl); (case aF => exact (fun k_ hk => Kd.fresh' (Kd.R_lt (pkr ab.1)) k_ hk)); (case aO => exact (pkr ar.1)); (case aS => exact (below_size pbl)); (case aL => have := a9.1; omega); intro bC bE ho hb hg hat; rw [← aA.1] at ho; have ax := am ho; replace ab := am (Kd.R_after (ok := (fun _ => True)) (by (with_reducible repeat (first | apply Kd.R_alloc | apply Kd.R_drewN | apply Kd.R_drew)); exact Kd.R_mono ab.1 (fun _ hk => ⟨trivial, hk⟩)) hg hat); replace HB := am hb; clear ar; clear ho hb hg hat))
 go_roundg k2
 case measure => have := aV.1; have := bk.1; omega
 case rel => exact ⟨(aR), (wrap64 (ae - 1)), prs, H', ⟨by have := aV.1; have := bk.1; omega⟩, ⟨by (with_reducible repeat (first | apply Kd.R_alloc | apply Kd.R_drewN | apply Kd.R_drew)); exact Kd.R_mono ab.1 (fun _ hk => hk.2)⟩, ⟨pkr ax.1⟩, ⟨pbg⟩⟩

end Go.Proofs.Yteknagfpiadaiaa.P
