-- LAID BY OUR PROGRAM OVER THE PRINT (xprint.py, part.py): Lean checks it.
import Derived.Test.YteknagfpiadaiaaPx0
import Derived.Test.YteknagfpiadaiaaPx1
import Derived.Test.YteknagfpiadaiaaPx2
import Derived.Test.YteknagfpiadaiaaPx6
import Derived.Test.YteknagfpiadaiaaPx9
import Derived.Test.YteknagfpiadaiaaPx10
namespace Go.Proofs.Yteknagfpiadaiaa.P
open Go.RowKit Go.Proofs.YteknagfpiadaiaaW.PrintWords Go.Proofs.YteknagfpiadaiaaW.PrintLast Go.Proofs.YteknagfpiadaiaaW.PrintMore
attribute [local go_sem] max2_int min2_int max_two min_two max_three min_three max_four min_four   -- for this text's walks alone
set_option linter.unusedVariables false
set_option linter.unusedSimpArgs false

/-! ### r04_Copy: function 81 -/
def r04_Copy.l0 : Nat → List Int → List Int → Int → Option (List Int)
 | 0, _, _, _ => none
 | k + 1, x0, x3, x4 => if x4 < (x0.length : Int) then (if 0 ≤ x4 then (if x3.length < 17592186044416 then (r04_Copy.l0 k x0 (x3 ++ [rd x0 x4]) (wrap64 (x4 + 1))) else (none)) else (none)) else (some x3)
def r04_Copy.f (k : Nat) (l0 : List Int) : Option (List Int) := r04_Copy.l0 k l0 ([] : List Int) 0
theorem r04_Copy.mono_l : ∀ k, M3 r04_Copy.l0 k
 | 0 => fun _ _ _ r h => by simp [r04_Copy.l0] at h
 | k + 1 => by
  have ao := r04_Copy.mono_l k
  ·intro y0 y1 y2
   unfold r04_Copy.l0
   repeat' first | (with_reducible first | apply ao | apply lr | apply ln | apply li | refine lb ?_ fun _ => ?_)
theorem r04_Copy.mono : ∀ a0 k, LeO (r04_Copy.f k a0) (r04_Copy.f (k + 1) a0) := by
 intro a0 k
 have ao := r04_Copy.mono_l k
 unfold r04_Copy.f
 repeat' first | (with_reducible first | apply ao | apply lr | apply ln | apply li | refine lb ?_ fun _ => ?_)
set_option maxHeartbeats 8000000 in
set_option maxRecDepth 100000 in
theorem r04_Copy.calls (k : Nat) (A0 : Option Addr) (c0 : Nat) (l0 : List Int) (r : List Int) (w : World) (ar : Kd.C (Kd.int .i64) w A0 l0.length l0) (hc0 : l0.length ≤ c0) (h : r04_Copy.f k l0 = some r) :
  Calls Try.prog 81 #[.slice A0 l0.length c0] w fun e w' => ∃ v0_ : Value, e = .returned (v0_) ∧ Kd.R (Kd.int .i64) 3 w' w.heap.size (fun _ => True) v0_ r ∧ Below w.heap.size w w' := by
 have au := am ar
 have az := am hc0
 clear ar hc0
 have HB := am (Below.refl w.heap.size w)
 have H : (r04_Copy.l0 k l0 ([] : List Int) 0) = some r := h
 clear h
 have H' := am H
 clear H
 go_enter Try.func81, Try.ntmps81
 go_wp2
 go_loopg [3, 4] k (fun kq v3 v4 w' => ∃ (ac : List Int) (aa : Int), v4 = .int .i64 aa ∧ Aside0 (r04_Copy.l0 kq l0 ac aa = some r) ∧ Aside0 (kq ≤ k) ∧ Aside0 (Kd.R (Kd.int .i64) 3 w' w.heap.size (fun _ => True) v3 ac) ∧ Aside0 (Below w.heap.size w w'))
 case atStart => exact ⟨(([] : List Int)), (0), prs, H', ⟨Nat.le_refl _⟩, ⟨knl⟩, ⟨pbg⟩⟩
 clear H'
 obtain ⟨ac, aa, rfl, HA, ap, ae, HB⟩ := hrel
 obtain _ | k1 := gk
 ·exact absurd HA.1 (by simp [r04_Copy.l0])
 have H := HA.1
 clear HA
 simp only [r04_Copy.l0] at H
 replace H := ifl H
 rcases H with ⟨ak, H⟩ | ⟨ak, H⟩
 rotate_left
 ·obtain rfl := Option.some.inj H
  go_wp2
  go_ret
  exact ⟨_, per, by (with_reducible repeat (first | apply Kd.R_alloc | apply Kd.R_drewN | apply Kd.R_drew)); exact ae.1, pbg⟩
 replace H := ifp H
 obtain ⟨c3, H⟩ := H
 have av := decide_eq_true c3
 clear c3
 replace H := ifp H
 obtain ⟨c4, H⟩ := H
 have aj := am c4
 clear c4
 obtain ⟨ah, ab⟩ : ∃ y_ : List Int, y_ = (ac ++ [rd l0 aa]) := ⟨_, rfl⟩
 replace H : (r04_Copy.l0 k1 l0 ah (wrap64 (aa + 1))) = some r := hrp ab H
 have ag := am ab
 clear ab
 have H' := am H
 clear H
 obtain ⟨aw, ax, aq, al, ai⟩ := bint au.1 HB.1 aa
 cases al
 go_wp2_with (first | ((with_reducible refine gate_builtin (b := .append) (xs := #[.tmp 11, .tmp 16]) rfl ?_); at_builtin; refine Kd.R_append (Kd.int .i64) (w0 := w) w.heap.size rfl (.tmp 11) (.tmp 16) 26 3 (.int .i64 0) 8 rfl Try.underlying26 info3 rfl (by decide) (by omega) u3 ac (rd l0 aa) [.int .i64 (rd l0 aa)] (fun _ => True) (fun _ => False) rfl rfl ?aP (fun _ hk => hk.elim) ?aF ?aO ?aB ?aS ?aL ?_; (case aP => exact rfl); (case aB => exact pbl); (case aF => exact (fun _ _ => trivial)); (case aO => exact (pkr ae.1)); (case aS => exact (below_size pbl)); (case aL => have := aj.1; omega); intro ay w5 ho hb hg hat; rw [← ag.1] at ho; have af := am ho; replace HB := am hb; clear ae; clear ho hb hg hat))
 go_roundg k1
 case measure => have := ap.1; omega
 case rel => exact ⟨(ah), (wrap64 (aa + 1)), prs, H', ⟨by have := ap.1; omega⟩, ⟨pkr af.1⟩, ⟨pbg⟩⟩

/-! ### r05_Accelerate: function 73 -/
def r05_Accelerate.l0 : Nat → List Int → List Int → List Int → Int → Option (List Int)
 | 0, _, _, _, _ => none
 | k + 1, x0, x1, x5, x6 => if x6 < (x5.length : Int) then (if 0 ≤ x6 then (if x6 < (x1.length : Int) then (if x6 < (x0.length : Int) then ((r05_more.f (rd x1 x6) (rd x0 x6)).bind fun aE => (if aE = true then (r05_Accelerate.l0 k x0 x1 (x5.set (x6 : Int).toNat (-1)) (wrap64 (x6 + 1))) else (r05_Accelerate.l0 k x0 x1 x5 (wrap64 (x6 + 1))))) else (none)) else (none)) else (none)) else (some x5)
def r05_Accelerate.f (k : Nat) (l0 : List Int) (l1 : List Int) : Option (List Int) := (r04_Copy.f k l1).bind fun ae => ((r05_Leq.f k l0 l1).bind fun aD => (if aD = true then (r05_Accelerate.l0 k l0 l1 ae 0) else (some ae)))
theorem r05_Accelerate.mono_l : ∀ k, M4 r05_Accelerate.l0 k
 | 0 => fun _ _ _ _ r h => by simp [r05_Accelerate.l0] at h
 | k + 1 => by
  have aV := r05_Accelerate.mono_l k
  ·intro y0 y1 y2 y3
   unfold r05_Accelerate.l0
   repeat' first | (with_reducible first | apply aV | apply r04_Copy.mono | apply r05_Leq.mono | apply lr | apply ln | apply li | refine lb ?_ fun _ => ?_)
theorem r05_Accelerate.mono : ∀ a0 a1 k, LeO (r05_Accelerate.f k a0 a1) (r05_Accelerate.f (k + 1) a0 a1) := by
 intro a0 a1 k
 have aV := r05_Accelerate.mono_l k
 unfold r05_Accelerate.f
 repeat' first | (with_reducible first | apply aV | apply r04_Copy.mono | apply r05_Leq.mono | apply lr | apply ln | apply li | refine lb ?_ fun _ => ?_)
set_option maxHeartbeats 8000000 in
set_option maxRecDepth 100000 in
theorem r05_Accelerate.calls (k : Nat) (A0 : Option Addr) (c0 : Nat) (l0 : List Int) (A1 : Option Addr) (c1 : Nat) (l1 : List Int) (r : List Int) (w : World) (a5 : Kd.C (Kd.int .i64) w A0 l0.length l0) (hc0 : l0.length ≤ c0) (a6 : Kd.C (Kd.int .i64) w A1 l1.length l1) (a4 : l1.length ≤ c1) (h : r05_Accelerate.f k l0 l1 = some r) :
  Calls Try.prog 73 #[.slice A0 l0.length c0, .slice A1 l1.length c1] w fun e w' => ∃ v0_ : Value, e = .returned (v0_) ∧ Kd.R (Kd.int .i64) 3 w' w.heap.size (fun _ => True) v0_ r ∧ Below w.heap.size w w' := by
 have aG := am a5
 have aL := am hc0
 clear a5 hc0
 have ao := am a6
 have av := am a4
 clear a6 a4
 have HB := am (Below.refl w.heap.size w)
 have H := h
 unfold r05_Accelerate.f at H
 clear h
 replace H := bnd H
 obtain ⟨ae, A3, H⟩ := H
 (try dsimp only at H)
 replace H := bnd H
 obtain ⟨aD, A4, H⟩ := H
 (try dsimp only at H)
 cases aD
 ·rw [if_neg Bool.false_ne_true] at H
  obtain rfl := Option.some.inj H
  go_enter Try.func73, Try.ntmps73
  iterate 4 (try go_wp2_with (first | (go_at_call 81; (with_reducible refine (r04_Copy.calls k _ _ l1 ae _ ?side1 ?side2 A3.1).mono ?_); (case side1 => exact csd ao.1); (case side2 => exact av.1); rintro e bf ⟨au, rfl, ak, hb⟩; have ac := am (Kd.R_lower ak (below_size pbl)); replace HB := bsl hb; (try clear hb); (try clear ak)) | (go_at_call 34; (with_reducible refine (r05_Leq.calls k _ _ l0 _ _ l1 false _ ?side1 ?side2 ?side3 ?side4 A4.1).mono ?_); (case side1 => exact csb aG HB); (case side2 => exact aL.1); (case side3 => exact csb ao HB); (case side4 => exact av.1); rintro e w' ⟨rfl, ⟨nd, rfl⟩⟩; (try first | exact ⟨rfl, _, World.drewN_drewN _ _ _⟩ | exact ⟨rfl, _, Eq.trans (World.drewN_drewN _ _ _) (congrArg (World.drewN _) (Nat.add_assoc _ _ _))⟩))); try go_quiet (first | (go_at_call 81; (with_reducible refine (r04_Copy.calls k _ _ l1 ae _ ?side1 ?side2 A3.1).mono ?_); (case side1 => exact csd ao.1); (case side2 => exact av.1); rintro e bf ⟨au, rfl, ak, hb⟩; have ac := am (Kd.R_lower ak (below_size pbl)); replace HB := bsl hb; (try clear hb); (try clear ak)) | (go_at_call 34; (with_reducible refine (r05_Leq.calls k _ _ l0 _ _ l1 false _ ?side1 ?side2 ?side3 ?side4 A4.1).mono ?_); (case side1 => exact csb aG HB); (case side2 => exact aL.1); (case side3 => exact csb ao HB); (case side4 => exact av.1); rintro e w' ⟨rfl, ⟨nd, rfl⟩⟩; (try first | exact ⟨rfl, _, World.drewN_drewN _ _ _⟩ | exact ⟨rfl, _, Eq.trans (World.drewN_drewN _ _ _) (congrArg (World.drewN _) (Nat.add_assoc _ _ _))⟩))))
  go_ret
  exact ⟨_, per, by (with_reducible repeat (first | apply Kd.R_alloc | apply Kd.R_drewN | apply Kd.R_drew)); exact ac.1, pbg⟩
 rw [if_pos rfl] at H
 have H' := am H
 clear H
 go_enter Try.func73, Try.ntmps73
 iterate 4 (try go_wp2_with (first | (go_at_call 81; (with_reducible refine (r04_Copy.calls k _ _ l1 ae _ ?side1 ?side2 A3.1).mono ?_); (case side1 => exact csd ao.1); (case side2 => exact av.1); rintro e w6 ⟨au, rfl, ak, hb⟩; have ac := am (Kd.R_lower ak (below_size pbl)); replace HB := bsl hb; (try clear hb); (try clear ak)) | (go_at_call 34; (with_reducible refine (r05_Leq.calls k _ _ l0 _ _ l1 true _ ?side1 ?side2 ?side3 ?side4 A4.1).mono ?_); (case side1 => exact csb aG HB); (case side2 => exact aL.1); (case side3 => exact csb ao HB); (case side4 => exact av.1); rintro e w' ⟨rfl, ⟨nd, rfl⟩⟩; (try first | exact ⟨rfl, _, World.drewN_drewN _ _ _⟩ | exact ⟨rfl, _, Eq.trans (World.drewN_drewN _ _ _) (congrArg (World.drewN _) (Nat.add_assoc _ _ _))⟩))); try go_quiet (first | (go_at_call 81; (with_reducible refine (r04_Copy.calls k _ _ l1 ae _ ?side1 ?side2 A3.1).mono ?_); (case side1 => exact csd ao.1); (case side2 => exact av.1); rintro e w6 ⟨au, rfl, ak, hb⟩; have ac := am (Kd.R_lower ak (below_size pbl)); replace HB := bsl hb; (try clear hb); (try clear ak)) | (go_at_call 34; (with_reducible refine (r05_Leq.calls k _ _ l0 _ _ l1 true _ ?side1 ?side2 ?side3 ?side4 A4.1).mono ?_); (case side1 => exact csb aG HB); (case side2 => exact aL.1); (case side3 => exact csb ao HB); (case side4 => exact av.1); rintro e w' ⟨rfl, ⟨nd, rfl⟩⟩; (try first | exact ⟨rfl, _, World.drewN_drewN _ _ _⟩ | exact ⟨rfl, _, Eq.trans (World.drewN_drewN _ _ _) (congrArg (World.drewN _) (Nat.add_assoc _ _ _))⟩))))
 go_loopg [6] k (fun kq v6 w' => ∃ (af : List Int) (aa : Int), v6 = .int .i64 aa ∧ Aside0 (r05_Accelerate.l0 kq l0 l1 af aa = some r) ∧ Aside0 (kq ≤ k) ∧ Aside0 (Kd.R (Kd.int .i64) 3 w' w.heap.size (fun _ => True) au af) ∧ Aside0 (Below w.heap.size w w'))
 case atStart => exact ⟨(ae), (0), prs, H', ⟨Nat.le_refl _⟩, ⟨pkr ac.1⟩, ⟨pbg⟩⟩
 clear H'
 try clear c1
 obtain ⟨af, aa, rfl, HA, aM, ab, HB⟩ := hrel
 obtain _ | k1 := gk
 ·exact absurd HA.1 (by simp [r05_Accelerate.l0])
 have H := HA.1
 clear HA
 simp only [r05_Accelerate.l0] at H
 replace H := ifl H
 rcases H with ⟨aO, H⟩ | ⟨aO, H⟩
 rotate_left
 ·obtain rfl := Option.some.inj H
  obtain ⟨a9, bd, aU⟩ := Kd.R_slice ab.1
  subst aU
  go_wp2
  repeat (go_quiet (fail); try go_wp2)
  go_ret
  exact ⟨_, per, by (with_reducible repeat (first | apply Kd.R_alloc | apply Kd.R_drewN | apply Kd.R_drew)); exact ab.1, pbg⟩
 replace H := ifp H
 obtain ⟨c8, H⟩ := H
 have ba := decide_eq_true c8
 clear c8
 replace H := ifp H
 obtain ⟨c9, H⟩ := H
 have bb := decide_eq_true c9
 clear c9
 replace H := ifp H
 obtain ⟨c10, H⟩ := H
 have a3 := decide_eq_true c10
 clear c10
 replace H := bnd H
 obtain ⟨aE, A11, H⟩ := H
 (try dsimp only at H)
 cases aE
 ·rw [if_neg Bool.false_ne_true] at H
  have H' := am H
  clear H
  obtain ⟨a8, bc, aT⟩ := Kd.R_slice ab.1
  subst aT
  obtain ⟨aW, aY, aJ, aw, aq⟩ := bint ao.1 HB.1 aa
  cases aw
  obtain ⟨aX, aZ, aK, ax, ar⟩ := bint aG.1 HB.1 aa
  cases ax
  iterate 4 (try go_wp2_with (first | (go_at_call 60; (with_reducible refine (r05_more.calls (rd l1 aa) (rd l0 aa) false _ A11.1).mono ?_); rintro e w' ⟨rfl, ⟨nd, rfl⟩⟩; (try first | exact ⟨rfl, _, World.drewN_drewN _ _ _⟩ | exact ⟨rfl, _, Eq.trans (World.drewN_drewN _ _ _) (congrArg (World.drewN _) (Nat.add_assoc _ _ _))⟩))); try go_quiet (first | (go_at_call 60; (with_reducible refine (r05_more.calls (rd l1 aa) (rd l0 aa) false _ A11.1).mono ?_); rintro e w' ⟨rfl, ⟨nd, rfl⟩⟩; (try first | exact ⟨rfl, _, World.drewN_drewN _ _ _⟩ | exact ⟨rfl, _, Eq.trans (World.drewN_drewN _ _ _) (congrArg (World.drewN _) (Nat.add_assoc _ _ _))⟩))))
  go_roundg k1
  case measure => have := aM.1; omega
  case rel => exact ⟨(af), (wrap64 (aa + 1)), prs, H', ⟨by have := aM.1; omega⟩, ⟨pkr ab.1⟩, ⟨pbg⟩⟩
 rw [if_pos rfl] at H
 obtain ⟨aF, al⟩ : ∃ y_ : List Int, y_ = (af.set (aa : Int).toNat (-1)) := ⟨_, rfl⟩
 replace H : (r05_Accelerate.l0 k1 l0 l1 aF (wrap64 (aa + 1))) = some r := hrp al H
 have aI := am al
 clear al
 have H' := am H
 clear H
 obtain ⟨a7, aR, aS⟩ := Kd.R_slice ab.1
 subst aS
 obtain ⟨aW, aY, aJ, aw, aq⟩ := bint ao.1 HB.1 aa
 cases aw
 obtain ⟨aX, aZ, aK, ax, ar⟩ := bint aG.1 HB.1 aa
 cases ax
 iterate 4 (try go_wp2_with (first | (go_at_call 60; (with_reducible refine (r05_more.calls (rd l1 aa) (rd l0 aa) true _ A11.1).mono ?_); rintro e w' ⟨rfl, ⟨nd, rfl⟩⟩; (try first | exact ⟨rfl, _, World.drewN_drewN _ _ _⟩ | exact ⟨rfl, _, Eq.trans (World.drewN_drewN _ _ _) (congrArg (World.drewN _) (Nat.add_assoc _ _ _))⟩); have aB : 0 ≤ (aa : Int) := dq; have aC : (aa : Int) < ((af.length : Int) : Int) := dq; obtain ⟨ap, aQ, ai, aj, ay, aP, ag⟩ := Kd.R_form ab.1 (by omega); (first | cases ai | (injection ai with ea_ en_ ec_; (first | subst ea_ | (injection ea_ with ea_; subst ea_)); subst ec_; clear en_)); have aH := am aj; have aN := am ag; clear aj ay ag; obtain ⟨aA, az⟩ := Kd.R_celln 0 ab.1 (aa : Int) aB aC; replace aB := eq_true aB; replace aC := eq_true aC; obtain ⟨hy15_, hz15_⟩ := Kd.R_celln 0 ab.1 (aa : Int) (dq) (dq); have ah := Kd.R_putg ab.1 (aa : Int) (-1)) | ((with_reducible refine gate_store (t := 3) (p := 31) rfl ?_); (try (rw [drewN_self wr]; generalize hq_ : World.drewN wr _ = wr; replace ab := am (Kd.R_at hq_ ab.1); replace HB := am (below_at hq_ HB.1); clear hq_; (try (obtain ⟨hy15_, hz15_⟩ := Kd.R_celln 0 ab.1 (aa : Int) (dq) (dq))); (try (have ah := Kd.R_putg ab.1 (aa : Int) (-1))))); refine store_event (t := 3) (p := 31) (v := ?vo_w16) (w1 := (wr.setCell ⟨ap, (aa : Int).toNat, none⟩ (.int .i64 (-1)))) ?hg ?ho ?hn ?hr ?_; (case ho => rfl); (case hg => rfl); (case hn => rfl); (case hr => first | (go_simp; done) | (go_simp; rfl)); intro a2 hw; have hg : wr.grownBy a2 (some ap) := (by rw [hw]; exact ah.2); have hp_ : Kd.R (Kd.int .i64) 3 a2 w.heap.size (fun _ => True) (.slice (some ⟨ap, 0, none⟩) af.length aR) aF := (by rw [hw, aI.1]; exact ah.1); clear ah; replace ab := am hp_; replace HB := am ((by rw [hw]; exact below_set (HB.1) aH.1 : Below w.heap.size w a2)); clear hg hw hp_)); try go_quiet (first | (go_at_call 60; (with_reducible refine (r05_more.calls (rd l1 aa) (rd l0 aa) true _ A11.1).mono ?_); rintro e w' ⟨rfl, ⟨nd, rfl⟩⟩; (try first | exact ⟨rfl, _, World.drewN_drewN _ _ _⟩ | exact ⟨rfl, _, Eq.trans (World.drewN_drewN _ _ _) (congrArg (World.drewN _) (Nat.add_assoc _ _ _))⟩); have aB : 0 ≤ (aa : Int) := dq; have aC : (aa : Int) < ((af.length : Int) : Int) := dq; obtain ⟨ap, aQ, ai, aj, ay, aP, ag⟩ := Kd.R_form ab.1 (by omega); (first | cases ai | (injection ai with ea_ en_ ec_; (first | subst ea_ | (injection ea_ with ea_; subst ea_)); subst ec_; clear en_)); have aH := am aj; have aN := am ag; clear aj ay ag; obtain ⟨aA, az⟩ := Kd.R_celln 0 ab.1 (aa : Int) aB aC; replace aB := eq_true aB; replace aC := eq_true aC; obtain ⟨hy15_, hz15_⟩ := Kd.R_celln 0 ab.1 (aa : Int) (dq) (dq); have ah := Kd.R_putg ab.1 (aa : Int) (-1))))
 go_roundg k1
 case measure => have := aM.1; omega
 case rel => exact ⟨(aF), (wrap64 (aa + 1)), prs, H', ⟨by have := aM.1; omega⟩, ⟨pkr ab.1⟩, ⟨pbg⟩⟩

/-! ### r22_child: function 50 -/
def r22_child.l0 : Nat → List (S48) → List Int → Int → Option (List Int)
 | 0, _, _, _ => none
 | k + 1, x0, x2, x7 => if x7 ≥ 0 then (if 0 ≤ x7 then (if x7 < (x0.length : Int) then ((r05_Accelerate.f k ((rd_T48 x0 x7).f2) x2).bind fun al => (r22_child.l0 k x0 al ((rd_T48 x0 x7).f0))) else (none)) else (none)) else (some x2)
def r22_child.f (k : Nat) (l0 : List (S48)) (a1 : Int) (l2 : List Int) : Option (List Int) := r22_child.l0 k l0 l2 a1
theorem r22_child.mono_l : ∀ k, M3 r22_child.l0 k
 | 0 => fun _ _ _ r h => by simp [r22_child.l0] at h
 | k + 1 => by
  have aK := r22_child.mono_l k
  ·intro y0 y1 y2
   unfold r22_child.l0
   repeat' first | (with_reducible first | apply aK | apply r05_Accelerate.mono | apply lr | apply ln | apply li | refine lb ?_ fun _ => ?_)
theorem r22_child.mono : ∀ a0 a1 a2 k, LeO (r22_child.f k a0 a1 a2) (r22_child.f (k + 1) a0 a1 a2) := by
 intro a0 a1 a2 k
 have aK := r22_child.mono_l k
 unfold r22_child.f
 repeat' first | (with_reducible first | apply aK | apply r05_Accelerate.mono | apply lr | apply ln | apply li | refine lb ?_ fun _ => ?_)
set_option maxHeartbeats 8000000 in
set_option maxRecDepth 100000 in
theorem r22_child.calls (k : Nat) (A0 : Option Addr) (c0 : Nat) (l0 : List (S48)) (a1 : Int) (P2_ : Nat → Prop) (A2 : Option Addr) (c2 : Nat) (l2 : List Int) (r : List Int) (w : World) (aN : Kd.C k48 w A0 l0.length l0) (hc0 : l0.length ≤ c0) (aS : Kd.V (Kd.int .i64) 3 w w.heap.size (fun k_ => P2_ k_) (.slice A2 l2.length c2) l2) (h : r22_child.f k l0 a1 l2 = some r) :
  Calls Try.prog 50 #[.slice A0 l0.length c0, .int .i64 a1, .slice A2 l2.length c2] w fun e w' => ∃ v0_ : Value, e = .returned (v0_) ∧ Kd.V (Kd.int .i64) 3 w' w.heap.size (fun k_ => (P2_ k_ ∨ w.heap.size ≤ k_)) v0_ r ∧ Below w.heap.size w w' := by
 have aM := am aN
 have aX := am hc0
 clear aN hc0
 have aO := am (show Kd.V (Kd.int .i64) 3 w w.heap.size (fun k_ => (P2_ k_ ∨ w.heap.size ≤ k_)) (.slice A2 l2.length c2) l2 from Kd.V_mono aS (fun k_ hk => .inl hk))
 have HB := am (Below.refl w.heap.size w)
 have H : (r22_child.l0 k l0 l2 a1) = some r := h
 clear h
 have H' := am H
 clear H
 go_enter Try.func50, Try.ntmps50
 go_wp2
 go_loopg [2, 7] k (fun kq v2 v7 w' => ∃ (ao : List Int) (aa : Int), v7 = .int .i64 aa ∧ Aside0 (r22_child.l0 kq l0 ao aa = some r) ∧ Aside0 (kq ≤ k) ∧ Aside0 (Kd.V (Kd.int .i64) 3 w' w.heap.size (fun k_ => (P2_ k_ ∨ w.heap.size ≤ k_)) v2 ao) ∧ Aside0 (Below w.heap.size w w'))
 case atStart => exact ⟨(l2), (a1), prs, H', ⟨Nat.le_refl _⟩, ⟨pkv aO.1⟩, ⟨pbg⟩⟩
 clear H'
 try clear c2
 obtain ⟨ao, aa, rfl, HA, aL, ai, HB⟩ := hrel
 obtain _ | k1 := gk
 ·exact absurd HA.1 (by simp [r22_child.l0])
 have H := HA.1
 clear HA
 simp only [r22_child.l0] at H
 replace H := ifh H
 rcases H with ⟨aG, H⟩ | ⟨aG, H⟩
 rotate_left
 ·obtain rfl := Option.some.inj H
  go_wp2
  go_ret
  exact ⟨_, per, by (with_reducible repeat (first | apply Kd.V_alloc | apply Kd.V_drewN | apply Kd.V_drew)); exact ai.1, pbg⟩
 replace H := ifp H
 obtain ⟨c5, H⟩ := H
 have aP := decide_eq_true c5
 clear c5
 replace H := ifp H
 obtain ⟨c6, H⟩ := H
 have aQ := decide_eq_true c6
 clear c6
 replace H := bnd H
 obtain ⟨al, A7, H⟩ := H
 (try dsimp only at H)
 have H' := am H
 clear H
 obtain ⟨aT, aU, au, aC, aE, aH, ay, az, aA, aB, aj, ak⟩ := bT48 aM.1 HB.1 aa
 cases aH
 obtain ⟨aW, aY, aR⟩ := Kd.V_slice ai.1
 subst aR
 go_wp2_with (first | ((with_reducible refine gate_callee (f := 73) rfl ?_); refine gC 22 Try.func73 _ (r05_Accelerate.calls k1 _ _ ((rd_T48 l0 aa).f2) _ _ ao al _ (csb ak HB) aj.1 (csd ((Kd.V_reads' ai.1).2.2)) ((Kd.V_reads' ai.1).2.1) A7.1) ?_; rintro e w9 ⟨aV, rfl, aJ, hb⟩; refine ⟨_, rfl, ?_⟩; have ar := am (Kd.R_lower (Kd.R_newM (M := fun k_ => (w.heap.size ≤ k_)) aJ (below_size pbl) (fun k_ h_ => h_)) (below_size pbl)); replace ai := am (Kd.V_elder' (pkv ai.1) (Kd.R_base aJ) hb); replace HB := bsl hb; (try clear hb); (try clear aJ); have ap : 0 ≤ (aa : Int) := dq; have aq : aa < (l0.length : Int) := dq; obtain ⟨av, aD, aF, aI, ae, af, ag, ah, ac, ab⟩ := at_T48 aM.1 aa ap aq; obtain rfl : au = av := (by injection aI); replace ae := cbl HB.1 ae; replace af := cbl HB.1 af; replace ag := cbl HB.1 ag; replace ah := cbl HB.1 ah; have ax := am ab; have aw := am ac; clear ab ac; replace ap := eq_true ap; replace aq := eq_true aq))
 go_roundg k1
 case measure => have := aL.1; omega
 case rel => exact ⟨(al), ((rd_T48 l0 aa).f0), prs, H', ⟨by have := aL.1; omega⟩, ⟨Kd.V_mono (Kd.R_V (by (with_reducible repeat (first | apply Kd.R_alloc | apply Kd.R_drewN | apply Kd.R_drew)); exact Kd.R_mono ar.1 (fun _ hk => hk.1))) (fun k_ hk => by first | exact ⟨(.inr (hk.1)), hk.2⟩ | exact (.inr (hk)))⟩, ⟨pbg⟩⟩

/-! ### r22_seen: function 51 -/
def r22_seen.l0 : Nat → List (S48) → List Int → Int → Option (Bool)
 | 0, _, _, _ => none
 | k + 1, x0, x1, x5 => if x5 < (x0.length : Int) then (if 0 ≤ x5 then ((r04_Same.f k ((rd_T48 x0 x5).f2) x1).bind fun al => (if al = true then (some true) else (r22_seen.l0 k x0 x1 (wrap64 (x5 + 1))))) else (none)) else (some false)
def r22_seen.f (k : Nat) (l0 : List (S48)) (l1 : List Int) : Option (Bool) := r22_seen.l0 k l0 l1 0
theorem r22_seen.mono_l : ∀ k, M3 r22_seen.l0 k
 | 0 => fun _ _ _ r h => by simp [r22_seen.l0] at h
 | k + 1 => by
  have aq := r22_seen.mono_l k
  ·intro y0 y1 y2
   unfold r22_seen.l0
   repeat' first | (with_reducible first | apply aq | apply r04_Same.mono | apply lr | apply ln | apply li | refine lb ?_ fun _ => ?_)
theorem r22_seen.mono : ∀ a0 a1 k, LeO (r22_seen.f k a0 a1) (r22_seen.f (k + 1) a0 a1) := by
 intro a0 a1 k
 have aq := r22_seen.mono_l k
 unfold r22_seen.f
 repeat' first | (with_reducible first | apply aq | apply r04_Same.mono | apply lr | apply ln | apply li | refine lb ?_ fun _ => ?_)
set_option maxHeartbeats 8000000 in
set_option maxRecDepth 100000 in
theorem r22_seen.calls (k : Nat) (A0 : Option Addr) (c0 : Nat) (l0 : List (S48)) (A1 : Option Addr) (c1 : Nat) (l1 : List Int) (r : Bool) (w : World) (aA : Kd.C k48 w A0 l0.length l0) (hc0 : l0.length ≤ c0) (aB : Kd.C (Kd.int .i64) w A1 l1.length l1) (az : l1.length ≤ c1) (h : r22_seen.f k l0 l1 = some r) :
  Calls Try.prog 51 #[.slice A0 l0.length c0, .slice A1 l1.length c1] w fun e w' => e = .returned (.bool r) ∧ Drawn0 w w' := by
 have ax := am aA
 have aD := am hc0
 clear aA hc0
 have ay := am aB
 have av := am az
 clear aB az
 have H : (r22_seen.l0 k l0 l1 0) = some r := h
 clear h
 have H' := am H
 clear H
 go_enter Try.func51, Try.ntmps51
 go_wp2
 go_loopg [5] k (fun kq v5 w' => ∃ (ac : Int), v5 = .int .i64 ac ∧ Aside0 (r22_seen.l0 kq l0 l1 ac = some r) ∧ Aside0 (kq ≤ k) ∧ Drawn0 w w')
 case atStart => exact ⟨(0), prs, H', ⟨Nat.le_refl _⟩, pdr⟩
 clear H'
 try clear c1
 obtain ⟨ac, rfl, HA, aw, ⟨m1, rfl⟩⟩ := hrel
 obtain _ | k1 := gk
 ·exact absurd HA.1 (by simp [r22_seen.l0])
 have H := HA.1
 clear HA
 simp only [r22_seen.l0] at H
 replace H := ifl H
 rcases H with ⟨ap, H⟩ | ⟨ap, H⟩
 rotate_left
 ·obtain rfl := Option.some.inj H
  go_wp2
  go_ret
  exact ⟨prs, pdr⟩
 replace H := ifp H
 obtain ⟨c4, H⟩ := H
 have aC := decide_eq_true c4
 clear c4
 replace H := bnd H
 obtain ⟨al, A5, H⟩ := H
 (try dsimp only at H)
 cases al
 rotate_left
 ·rw [if_pos rfl] at H
  obtain rfl := Option.some.inj H
  obtain ⟨ar, au, ao, ai, aj, ak, ae, af, ag, ah, aa, ab⟩ := dT48 ax.1 ac
  cases ak
  go_wp2_with (first | ((with_reducible refine gate_callee (f := 14) rfl ?_); refine gC 18 Try.func14 _ (r04_Same.calls k1 _ _ ((rd_T48 l0 ac).f2) _ _ l1 true _ (csd ab.1) aa.1 (csd ay.1) av.1 A5.1) ?_; rintro e w' ⟨rfl, ⟨nd, rfl⟩⟩; refine ⟨_, rfl, ?_⟩))
  go_ret
  exact ⟨prs, pdr⟩
 rw [if_neg Bool.false_ne_true] at H
 have H' := am H
 clear H
 obtain ⟨ar, au, ao, ai, aj, ak, ae, af, ag, ah, aa, ab⟩ := dT48 ax.1 ac
 cases ak
 go_wp2_with (first | ((with_reducible refine gate_callee (f := 14) rfl ?_); refine gC 18 Try.func14 _ (r04_Same.calls k1 _ _ ((rd_T48 l0 ac).f2) _ _ l1 false _ (csd ab.1) aa.1 (csd ay.1) av.1 A5.1) ?_; rintro e w' ⟨rfl, ⟨nd, rfl⟩⟩; refine ⟨_, rfl, ?_⟩))
 go_roundg k1
 case measure => have := aw.1; omega
 case rel => exact ⟨(wrap64 (ac + 1)), prs, H', ⟨by have := aw.1; omega⟩, pdr⟩

/-! ### r22_Tree: function 19 -/
mutual
def r22_Tree.j0 : Nat → Int → Bool → ByteArray → List (S57) → List (S60) → Option ((List (S48)) × Bool × Int)
 | 0, _, _, _, _, _ => none
 | k + 1, x1, ep, ay, az, aA => if ep = true then (some (([] : List (S48)), false, 1)) else ((r09_Initial.f k ay az aA).bind fun bC => (r22_Tree.l0 k x1 (([(⟨(-1), (-1), bC, false⟩ : S48)] : List (S48))) 0 ay az aA))
def r22_Tree.l0 : Nat → Int → List (S48) → Int → ByteArray → List (S57) → List (S60) → Option ((List (S48)) × Bool × Int)
 | 0, _, _, _, _, _, _ => none
 | k + 1, x1, x7, x8, ay, az, aA => if x8 < (x7.length : Int) then (if 0 ≤ x8 then (if (rd_T48 x7 x8).f3 = true then (r22_Tree.l0 k x1 x7 (wrap64 (x8 + 1)) ay az aA) else ((r22_Enabled.f k ay az aA ((rd_T48 x7 x8).f2)).bind fun aw => (r22_Tree.l1 k x1 x7 x8 aw 0 ay az aA))) else (none)) else (some (x7, true, 0))
def r22_Tree.l1 : Nat → Int → List (S48) → Int → List Int → Int → ByteArray → List (S57) → List (S60) → Option ((List (S48)) × Bool × Int)
 | 0, _, _, _, _, _, _, _, _ => none
 | k + 1, x1, x7, x8, x9, x10, ay, az, aA => if x10 < (x9.length : Int) then (if 0 ≤ x8 then (if x8 < (x7.length : Int) then (if 0 ≤ x10 then ((r22_Fire.f k ay az aA ((rd_T48 x7 x8).f2) (rd x9 x10)).bind fun cb => (if cb.2 = true then (if (x7.length : Int) = x1 then (some (x7, false, 0)) else ((r22_child.f k x7 x8 cb.1).bind fun bv => ((r22_seen.f k x7 bv).bind fun bI => (if x7.length < 2932031007402 then (r22_Tree.l1 k x1 (x7 ++ [(⟨x8, rd x9 x10, bv, bI⟩ : S48)]) x8 x9 (wrap64 (x10 + 1)) ay az aA) else (none))))) else (some (([] : List (S48)), false, 3)))) else (none)) else (none)) else (none)) else (r22_Tree.l0 k x1 x7 (wrap64 (x8 + 1)) ay az aA)
end
def r22_Tree.f (k : Nat) (ak : ByteArray) (ai : List (S57)) (aj : List (S60)) (a1 : Int) : Option ((List (S48)) × Bool × Int) := (r09_Valid.f k ak ai aj).bind fun cp => (if cp = true then ((r09_Plain.f k ak ai aj).bind fun cq => (if cq = true then (if a1 < 1 then (r22_Tree.j0 k a1 true ak ai aj) else (r22_Tree.j0 k a1 (decide (a1 > 20000)) ak ai aj)) else (some (([] : List (S48)), false, 12)))) else ((r09_Check.f k ak ai aj).bind fun cG => (some (([] : List (S48)), false, cG.1))))
theorem r22_Tree.mono_l : ∀ k, M5 r22_Tree.j0 k ∧ M6 r22_Tree.l0 k ∧ M8 r22_Tree.l1 k
 | 0 => ⟨fun _ _ _ _ _ r h => by simp [r22_Tree.j0] at h, fun _ _ _ _ _ _ r h => by simp [r22_Tree.l0] at h, fun _ _ _ _ _ _ _ _ r h => by simp [r22_Tree.l1] at h⟩
 | k + 1 => by
  obtain ⟨dy, dz, dA⟩ := r22_Tree.mono_l k
  refine ⟨?_, ?_, ?_⟩ <;> dsimp only [M5, M6, M8] <;> intros <;> (first | unfold r22_Tree.j0 | unfold r22_Tree.l0 | unfold r22_Tree.l1) <;> repeat' first | (with_reducible first | apply dy | apply dz | apply dA | apply r09_Check.mono | apply r09_Initial.mono | apply r09_Plain.mono | apply r09_Valid.mono | apply r22_Enabled.mono | apply r22_Fire.mono | apply r22_child.mono | apply r22_seen.mono | apply lr | apply ln | apply li | refine lb ?_ fun _ => ?_)
theorem r22_Tree.mono : ∀ a0 a1 a2 a3 k, LeO (r22_Tree.f k a0 a1 a2 a3) (r22_Tree.f (k + 1) a0 a1 a2 a3) := by
 intro a0 a1 a2 a3 k
 obtain ⟨dy, dz, dA⟩ := r22_Tree.mono_l k
 unfold r22_Tree.f
 repeat' first | (with_reducible first | apply dy | apply dz | apply dA | apply r09_Check.mono | apply r09_Initial.mono | apply r09_Plain.mono | apply r09_Valid.mono | apply r22_Enabled.mono | apply r22_Fire.mono | apply r22_child.mono | apply r22_seen.mono | apply lr | apply ln | apply li | refine lb ?_ fun _ => ?_)
def r22_Tree.T12 : Bool × List (List Nat × List Nat) := (true, [([], []), ([], []), ([], []), ([1, 2], [1, 2]), ([3], [3]), ([4], [4]), ([0, 5], [0, 5]), ([6, 6, 0, 1, 2, 3, 4, 5, 6], [6])])
def r22_Tree.B12 : List Nat := [0, 0, 0, 6, 14, 30, 63, 127]
theorem r22_Tree.tab12 : rtab .any (opsOf Try.f19 12) = r22_Tree.T12 := by kernel_rfl
theorem r22_Tree.bits12 : waitsOk r22_Tree.T12.2 r22_Tree.B12 = true := by kernel_rfl
def r22_Tree.T16 : Bool × List (List Nat × List Nat) := (true, [([], []), ([], []), ([], []), ([1, 2], [1, 2]), ([3], [3]), ([4], [4]), ([], []), ([], []), ([6, 7], [6, 7]), ([8], [8]), ([0, 5, 9], [0, 5, 9]), ([10], [10]), ([11], [11]), ([11], [11]), ([12, 10, 0, 1, 2, 3, 4, 5, 6, 7, 8, 9, 10, 11, 12], [12]), ([13, 14, 0, 1, 2, 3, 4, 5, 6, 7, 8, 9, 10, 11, 12, 13, 14], [13])])
def r22_Tree.B16 : List Nat := [0, 0, 0, 6, 14, 30, 0, 0, 192, 448, 1023, 2047, 4095, 4095, 8191, 32767]
theorem r22_Tree.tab16 : rtab .any (opsOf Try.f19 16) = r22_Tree.T16 := by kernel_rfl
theorem r22_Tree.bits16 : waitsOk r22_Tree.T16.2 r22_Tree.B16 = true := by kernel_rfl
def r22_Tree.T22 : Bool × List (List Nat × List Nat) := (true, [([], []), ([], []), ([], []), ([], []), ([2, 3], [2, 3]), ([4], [4]), ([], []), ([], []), ([], []), ([7, 8], [7, 8]), ([1, 5, 6, 9], [1, 5, 6, 9]), ([10], [10]), ([0, 11, 9], [0, 11]), ([12, 12, 0, 1, 2, 3, 4, 5, 6, 7, 8, 9, 10, 11, 12], [0, 7, 12])])
def r22_Tree.B22 : List Nat := [0, 0, 0, 0, 12, 28, 0, 0, 0, 384, 1022, 2046, 4095, 8191]
theorem r22_Tree.tab22 : rtab .any (opsOf Try.f19 22) = r22_Tree.T22 := by kernel_rfl
theorem r22_Tree.bits22 : waitsOk r22_Tree.T22.2 r22_Tree.B22 = true := by kernel_rfl
set_option maxHeartbeats 8000000 in
set_option maxRecDepth 100000 in
theorem r22_Tree.calls (k : Nat) (ak : ByteArray) (a6 : Option Addr) (a8 : Nat) (ai : List (S57)) (a7 : Option Addr) (a9 : Nat) (aj : List (S60)) (a1 : Int) (r1 : List (S48)) (r2 : Bool) (r3 : Int) (w : World) (ch : Kd.C k57 w a6 ai.length ai) (cf : ai.length ≤ a8) (ci : Kd.C k60 w a7 aj.length aj) (cg : aj.length ≤ a9) (h : r22_Tree.f k ak ai aj a1 = some (r1, r2, r3)) :
  Calls Try.prog 19 #[.agg #[.string ak, .slice a6 ai.length a8, .slice a7 aj.length a9], .int .i64 a1] w fun e w' => ∃ v0_ : Value, e = .returned (.tuple #[v0_, .bool r2, .int .i64 r3]) ∧ Kd.N k48 48 w' w.heap.size (fun k_ => (w.heap.size ≤ k_)) v0_ r1 ∧ Below w.heap.size w w' := by
 have dx : ∀ (x0 x1 : Value) (W : World), (Instr.field 66 (.agg #[x0, x1]) 0).run Try.prog W = .ok x0 W := fun x0 x1 W => by kernel_rfl
 have ed := Try.underlying25
 have ee := Try.underlying48
 have aW := am ch
 have aT := am cf
 clear ch cf
 have aX := am ci
 have aU := am cg
 clear ci cg
 have HB := am (Below.refl w.heap.size w)
 have H := h
 unfold r22_Tree.f at H
 clear h
 replace H := bnd H
 obtain ⟨cp, A3, H⟩ := H
 (try dsimp only at H)
 cases cp
 ·rw [if_neg Bool.false_ne_true] at H
  replace H := bnd H
  obtain ⟨⟨dB, dC⟩, dS, H⟩ := H
  (try dsimp only at H)
  simp only [Option.some.injEq, Prod.mk.injEq] at H
  obtain ⟨rfl, rfl, rfl⟩ := H
  go_enter Try.func19, Try.ntmps19
  go_wp2_with (first | ((with_reducible refine gate_dst (N := 2) rfl ?_); refine box_ev ?_; intro af hg eI hbox hb; have aa := am hbox; have bE := gwl hg; have b9 := bE; replace HB := bsl hb; clear hb hbox hg; have z66 := cf3 aa.1) | ((with_reducible refine gate_callee (f := 25) rfl ?_); refine gC 14 Try.func25 _ (r09_Valid.calls k ak _ _ ai _ _ aj false _ (csb aW HB) aT.1 (csb aX HB) aU.1 A3.1) ?_; rintro e eJ ⟨rfl, hb⟩; refine ⟨_, rfl, ?_⟩; replace aa := bbh aa hb; replace HB := bst hb; (try clear hb); have eM := cf3 aa.1) | ((with_reducible refine gate_callee (f := 48) rfl ?_); refine gC 17 Try.func48 _ (r09_Check.calls k ak _ _ ai _ _ aj dB dC _ (csb aW HB) aT.1 (csb aX HB) aU.1 dS.1) ?_; rintro e eK ⟨rfl, hb⟩; refine ⟨_, rfl, ?_⟩; replace aa := bbh aa hb; replace HB := bst hb; (try clear hb)))
  go_ret3
  exact ⟨_, per, knl, pbg⟩
 rw [if_pos rfl] at H
 replace H := bnd H
 obtain ⟨cq, A5, H⟩ := H
 (try dsimp only at H)
 cases cq
 ·rw [if_neg Bool.false_ne_true] at H
  simp only [Option.some.injEq, Prod.mk.injEq] at H
  obtain ⟨rfl, rfl, rfl⟩ := H
  go_enter Try.func19, Try.ntmps19
  go_wp2_with (first | ((with_reducible refine gate_dst (N := 2) rfl ?_); refine box_ev ?_; intro af hg eF hbox hb; have aa := am hbox; have bE := gwl hg; have b9 := bE; replace HB := bsl hb; clear hb hbox hg; have z60 := cf3 aa.1) | ((with_reducible refine gate_callee (f := 25) rfl ?_); refine gC 14 Try.func25 _ (r09_Valid.calls k ak _ _ ai _ _ aj true _ (csb aW HB) aT.1 (csb aX HB) aU.1 A3.1) ?_; rintro e eG ⟨rfl, hb⟩; refine ⟨_, rfl, ?_⟩; replace aa := bbh aa hb; replace HB := bst hb; (try clear hb); have eL := cf3 aa.1) | ((with_reducible refine gate_callee (f := 49) rfl ?_); refine gC 20 Try.func49 _ (r09_Plain.calls k ak _ _ ai _ _ aj false _ (csb aW HB) aT.1 (csb aX HB) aU.1 A5.1) ?_; rintro e eH ⟨rfl, hb⟩; refine ⟨_, rfl, ?_⟩; replace aa := bbh aa hb; replace HB := bst hb; (try clear hb)))
  go_ret3
  exact ⟨_, per, knl, pbg⟩
 rw [if_pos rfl] at H
 have dg := am H
 clear H
 go_enter Try.func19, Try.ntmps19
 go_upto_region 5 with (first | ((with_reducible refine gate_dst (N := 2) rfl ?_); refine box_ev ?_; intro af hg w8 hbox hb; have aa := am hbox; have bE := gwl hg; have b9 := bE; replace HB := bsl hb; clear hb hbox hg; have z9 := cf3 aa.1) | ((with_reducible refine gate_callee (f := 25) rfl ?_); refine gC 14 Try.func25 _ (r09_Valid.calls k ak _ _ ai _ _ aj true _ (csb aW HB) aT.1 (csb aX HB) aU.1 A3.1) ?_; rintro e es ⟨rfl, hb⟩; refine ⟨_, rfl, ?_⟩; replace aa := bbh aa hb; replace HB := bst hb; (try clear hb); have dE := cf3 aa.1) | ((with_reducible refine gate_callee (f := 49) rfl ?_); refine gC 20 Try.func49 _ (r09_Plain.calls k ak _ _ ai _ _ aj true _ (csb aW HB) aT.1 (csb aX HB) aU.1 A5.1) ?_; rintro e et ⟨rfl, hb⟩; refine ⟨_, rfl, ?_⟩; replace aa := bbh aa hb; replace HB := bst hb; (try clear hb)))
 (try simp only [Act.put, List.setIfInBounds_toArray, List.set_cons_zero, List.set_cons_succ])
 go_cut [27] (fun ei wc => ∃ (kq : Nat) (bR : Bool), ei = .bool bR ∧ Aside0 (r22_Tree.j0 kq a1 bR ak ai aj = some (r1, r2, r3)) ∧ Aside0 (kq ≤ k) ∧ Aside0 (wc.heap[af]? = some (.cells #[.string ak, (.slice a6 ai.length a8), (.slice a7 aj.length a9)] 25 (0, 0))) ∧ Aside0 (Below w.heap.size w wc))
 case first =>
  have H := dg.1
  clear dg
  replace H := ifl H
  rcases H with ⟨bj, H⟩ | ⟨bj, H⟩
  ·(first | rw [bj] | (simp only [i64_w, i32_w]; rw [bj]) | skip)
   have H' := am H
   clear H
   go_wp2
   go_meet
   case rel => exact ⟨_, (true), prs, H', ⟨by first | omega | exact Nat.le_refl _⟩, ⟨pbk aa.1⟩, ⟨pbg⟩⟩
  (first | rw [bj] | (simp only [i64_w, i32_w]; rw [bj]) | skip)
  have H' := am H
  clear H
  go_wp2
  go_meet
  case rel => exact ⟨_, (decide (a1 > 20000)), prs, H', ⟨by first | omega | exact Nat.le_refl _⟩, ⟨pbk aa.1⟩, ⟨pbg⟩⟩
 clear dg
 try clear c4 dF bj dE z9
 obtain ⟨kq, bR, rfl, HA, cr, aa, HB⟩ := hcut
 obtain _ | db := kq
 ·exact absurd HA.1 (by simp [r22_Tree.j0])
 have H := HA.1
 clear HA
 simp only [r22_Tree.j0] at H
 cases bR
 rotate_left
 ·rw [if_pos rfl] at H
  simp only [Option.some.injEq, Prod.mk.injEq] at H
  obtain ⟨rfl, rfl, rfl⟩ := H
  go_wp2
  go_ret3
  exact ⟨_, per, knl, pbg⟩
 rw [if_neg Bool.false_ne_true] at H
 replace H := bnd H
 obtain ⟨bC, A15, H⟩ := H
 (try dsimp only at H)
 obtain ⟨cY, b1⟩ : ∃ y_ : List (S48), y_ = (([(⟨(-1), (-1), bC, false⟩ : S48)] : List (S48))) := ⟨_, rfl⟩
 replace H : (r22_Tree.l0 db a1 cY 0 ak ai aj) = some (r1, r2, r3) := hrp b1 H
 have ca := am b1
 clear b1
 have H' := am H
 clear H
 have dO := cf3 aa.1
 go_wp2_with (first | ((with_reducible refine gate_callee (f := 26) rfl ?_); refine gC 29 Try.func26 _ (r09_Initial.calls db ak _ _ ai _ _ aj bC _ (csb aW HB) aT.1 (csb aX HB) aU.1 A15.1) ?_; rintro e en ⟨ej, rfl, bg, hb⟩; refine ⟨_, rfl, ?_⟩; have bJ := am (Kd.R_lower (Kd.R_newM (M := fun k_ => (w.heap.size ≤ k_)) bg (below_size pbg) (fun k_ h_ => h_)) (below_size pbg)); replace aa := bbh aa hb; replace HB := bst hb; (try clear hb); (try clear bg); obtain ⟨cv, cN, dk⟩ := Kd.R_slice bJ.1; subst dk) | ((with_reducible refine gate_dst (N := 31) rfl ?_); refine Kd.N_lit k48 _ 48 ?hg (N' := 31) ?hd (xs := ([(⟨(-1), (-1), bC, false⟩ : S48)] : List (S48))) (inner := [.int .i64 (-1), .int .i64 (-1), .slice cv bC.length cN, .bool false]) (ok := (fun k_ => (w.heap.size ≤ k_) ∧ k_ ≠ af)) (okp := (fun k_ => (w.heap.size ≤ k_) ∧ k_ ≠ af)) ?hr ?hp (fun _ hk => hk) ((show ∀ k_, en.heap.size ≤ k_ → (fun k_ => (w.heap.size ≤ k_) ∧ k_ ≠ af) k_ from fun k_ hk => ⟨(Nat.le_trans (below_size pbg) hk), Kd.freshB (g := af) (o := .cells #[.string ak, .slice a6 ai.length a8, .slice a7 aj.length a9] 25 (0, 0)) (by exact pbk aa.1) k_ hk⟩) _ (Nat.le_refl _)) (Below.refl _ _) (Nat.le_refl _) (by simp) ?_; (case hd => rfl); (case hg => rfl); (case hr => first | (go_simp; done) | (go_simp; rfl)); (case hp => exact (Reps.c4 (show Kd.FK k48 _ _ (⟨(-1), (-1), bC, false⟩ : S48) [.int .i64 (-1), .int .i64 (-1), .slice cv bC.length cN, .bool false] from (k48_mkF _ _ (⟨(-1), (-1), bC, false⟩ : S48) (Kd.R_reads' (Kd.R_mono (ok' := (fun k_ => (w.heap.size ≤ k_) ∧ k_ ≠ af)) (Kd.R_types (bJ.1) aa.1 (by decide)) (fun k_ hk => ⟨hk.1.1, hk.2⟩))).2.1 (Kd.R_F (Kd.R_mono (ok' := (fun k_ => (w.heap.size ≤ k_) ∧ k_ ≠ af)) (Kd.R_types (bJ.1) aa.1 (by decide)) (fun k_ hk => ⟨hk.1.1, hk.2⟩))))) (Reps.none _ _))); intro ek eu b0 hb hg_ hnew_; clear hg_ hnew_; (first | rw [← ca.1] at b0 | (simp only [Int.reduceToNat] at b0; rw [← ca.1] at b0)); have cy := am (Kd.N_lower b0 (below_size pbg)); replace aa := bbh aa hb; replace HB := bst hb; clear bJ; clear hb b0))
 go_loopg [7, 8] db (fun kq v7 v8 w' => ∃ (aM : List (S48)) (ab : Int), v8 = .int .i64 ab ∧ Aside0 (r22_Tree.l0 kq a1 aM ab ak ai aj = some (r1, r2, r3)) ∧ Aside0 (kq ≤ db) ∧ Aside0 (Kd.N k48 48 w' w.heap.size (fun k_ => (w.heap.size ≤ k_) ∧ k_ ≠ af) v7 aM) ∧ Aside0 (w'.heap[af]? = some (.cells #[.string ak, (.slice a6 ai.length a8), (.slice a7 aj.length a9)] 25 (0, 0))) ∧ Aside0 (Below w.heap.size w w'))
 case atStart => exact ⟨(cY), (0), prs, H', ⟨Nat.le_refl _⟩, ⟨pkn cy.1⟩, ⟨pbk aa.1⟩, ⟨pbg⟩⟩
 clear H'
 try clear c4 c6 dF bj dE dO z9
 obtain ⟨aM, ab, rfl, HA, cu, ac, aa, HB⟩ := hrel
 obtain _ | k2 := gk
 ·exact absurd HA.1 (by simp [r22_Tree.l0])
 have H := HA.1
 clear HA
 simp only [r22_Tree.l0] at H
 replace H := ifl H
 rcases H with ⟨cd, H⟩ | ⟨cd, H⟩
 rotate_left
 ·simp only [Option.some.injEq, Prod.mk.injEq] at H
  obtain ⟨rfl, rfl, rfl⟩ := H
  obtain ⟨d3, ec, dv⟩ := Kd.N_slice ac.1
  subst dv
  go_wp2
  go_ret3
  exact ⟨_, per, by (with_reducible repeat (first | apply Kd.N_alloc | apply Kd.N_drewN | apply Kd.N_drew)); exact Kd.N_mono ac.1 (fun _ hk => hk.1), pbg⟩
 replace H := ifp H
 obtain ⟨dh, H⟩ := H
 have cH := decide_eq_true dh
 clear dh
 obtain ⟨cF, bY⟩ : ∃ b_ : Bool, b_ = ((rd_T48 aM ab).f3) := ⟨_, rfl⟩
 replace H : (if cF = true then (r22_Tree.l0 k2 a1 aM (wrap64 (ab + 1)) ak ai aj) else ((r22_Enabled.f k2 ak ai aj ((rd_T48 aM ab).f2)).bind fun aw => (r22_Tree.l1 k2 a1 aM ab aw 0 ak ai aj))) = some (r1, r2, r3) := by rw [← bY] at H; exact H
 have bw := am bY
 clear bY
 by_cases cI : cF = true
 ·subst cI
  rw [if_pos rfl] at H
  have H' := am H
  clear H
  obtain ⟨dU, d4, dl⟩ := Kd.N_slice ac.1
  subst dl
  have bs : 0 ≤ (ab : Int) := dq
  have bu : ab < (aM.length : Int) := dq
  obtain ⟨bc, cj, ck, cm, bM, bN, bl, bm, bf, bd⟩ := at_T48 (Kd.N_reads' ac.1).2.2 ab bs bu
  (try rw [← bw.1] at bm)
  cases cm
  obtain ⟨cM, bH, bG, bq⟩ := Kd.N_get ac.1 z48 ab bs (by first | exact bu | exact dq | (have e_ := (Kd.N_reads' ac.1).1; omega))
  obtain ⟨b7, b8, rfl, aQ, aN⟩ := k48_openF bG
  have aD := bq 2 _ rfl
  rw [add_field _ _ 2 (by omega)] at aD
  replace aD := Option.some.inj (aD.symm.trans bl)
  injection aD with hva_ hvn_ hvc_
  rw [hva_] at aN
  rw [hvc_] at aQ
  have a4 := am (show Kd.V (Kd.int .i64) 3 _ w.heap.size _ _ ((rd_T48 aM ab).f2) from Kd.V_mk aQ aN)
  clear hva_ hvn_ hvc_ aN aQ bq bH
  have a5 := am bd
  have b5 := am bf
  clear bd bf
  replace bs := eq_true bs
  replace bu := eq_true bu
  go_wp2
  go_roundg k2
  case measure => have := cr.1; have := cu.1; omega
  case rel => exact ⟨(aM), (wrap64 (ab + 1)), prs, H', ⟨by have := cr.1; have := cu.1; omega⟩, ⟨pkn ac.1⟩, ⟨pbk aa.1⟩, ⟨pbg⟩⟩
 replace cI := Bool.eq_false_iff.mpr cI
 subst cI
 rw [if_neg Bool.false_ne_true] at H
 replace H := bnd H
 obtain ⟨aw, dP, H⟩ := H
 (try dsimp only at H)
 have H' := am H
 clear H
 obtain ⟨dV, d5, dm⟩ := Kd.N_slice ac.1
 subst dm
 have bs : 0 ≤ (ab : Int) := dq
 have bu : ab < (aM.length : Int) := dq
 obtain ⟨bc, cj, ck, cm, bM, bN, bl, bm, bf, bd⟩ := at_T48 (Kd.N_reads' ac.1).2.2 ab bs bu
 (try rw [← bw.1] at bm)
 cases cm
 obtain ⟨cM, bH, bG, bq⟩ := Kd.N_get ac.1 z48 ab bs (by first | exact bu | exact dq | (have e_ := (Kd.N_reads' ac.1).1; omega))
 obtain ⟨b7, b8, rfl, aQ, aN⟩ := k48_openF bG
 have aD := bq 2 _ rfl
 rw [add_field _ _ 2 (by omega)] at aD
 replace aD := Option.some.inj (aD.symm.trans bl)
 injection aD with hva_ hvn_ hvc_
 rw [hva_] at aN
 rw [hvc_] at aQ
 have a4 := am (show Kd.V (Kd.int .i64) 3 _ w.heap.size _ _ ((rd_T48 aM ab).f2) from Kd.V_mk aQ aN)
 clear hva_ hvn_ hvc_ aN aQ bq bH
 have a5 := am bd
 have b5 := am bf
 clear bd bf
 replace bs := eq_true bs
 replace bu := eq_true bu
 try go_wp2
 replace ac := am (Kd.N_drew ac.1)
 replace a4 := am (Kd.V_drew a4.1)
 replace aa := am (blk_drew aa.1)
 replace a5 := am (Kd.C_drew a5.1)
 replace HB := am (below_drew1 HB.1)
 have b3 : 0 ≤ (ab : Int) := dq
 have b4 : ab < (aM.length : Int) := dq
 obtain ⟨cD, bU, bV, di, bA, bB, bn, bo, bL, bK⟩ := at_T48 (Kd.N_reads' ac.1).2.2 ab b3 b4
 (try rw [← bw.1] at bo)
 obtain rfl : bc = cD := (by injection di)
 obtain ⟨dN, co, cn, bZ⟩ := Kd.N_get ac.1 z48 ab b3 (by first | exact b4 | exact dq | (have e_ := (Kd.N_reads' ac.1).1; omega))
 obtain ⟨dc, de, rfl, bD, bz⟩ := k48_openF cn
 have bk := bZ 2 _ rfl
 rw [add_field _ _ 2 (by omega)] at bk
 replace bk := Option.some.inj (bk.symm.trans bn)
 injection bk with hva_ hvn_ hvc_
 rw [hva_] at bz
 rw [hvc_] at bD
 have bx := am (show Kd.V (Kd.int .i64) 3 _ w.heap.size _ _ ((rd_T48 aM ab).f2) from Kd.V_mk bD bz)
 clear hva_ hvn_ hvc_ bz bD bZ co
 have bb := am bK
 have b6 := am bL
 clear bK bL
 replace b3 := eq_true b3
 replace b4 := eq_true b4
 refine start_ (n := 8) (S := fun w' => w'.cell? ⟨af, 0, none⟩ = some (.string ak) ∧ w'.cell? ⟨af, 1, none⟩ = some (.slice a6 ai.length a8) ∧ w'.cell? ⟨af, 2, none⟩ = some (.slice a7 aj.length a9) ∧ w'.cell? (bc.add ((ab).toNat * 4)) = some (.int .i64 ((rd_T48 aM ab).f0)) ∧ w'.cell? ⟨(bc.add ((ab).toNat * 4)).block, (bc.add ((ab).toNat * 4)).off + 1, none⟩ = some (.int .i64 ((rd_T48 aM ab).f1)) ∧ w'.cell? ⟨(bc.add ((ab).toNat * 4)).block, (bc.add ((ab).toNat * 4)).off + 2, none⟩ = some (.slice bU ((rd_T48 aM ab).f2).length bV) ∧ w'.cell? ⟨(bc.add ((ab).toNat * 4)).block, (bc.add ((ab).toNat * 4)).off + 3, none⟩ = some (.bool (false))) (ds := []) #[false, false, false, false, false, false, false, false] (by kernel_rfl) rfl rfl ⟨(blk_cell aa.1 0).trans rfl, (blk_cell aa.1 1).trans rfl, (blk_cell aa.1 2).trans rfl, bA, bB, bn, bo⟩ (fun hHeld => ?_); refine with_tabW r22_Tree.tab12 r22_Tree.bits12 (fun HT_ HW_ => ?_)
 generalize wr.drew = ev at ac a4 aa a5 HB bx bb bA bB bn bo hHeld ⊢
 refine pu HT_.1 1 44 ?_
 refine pu HT_.1 2 45 ?_
 refine pu HT_.1 3 46 ?_
 refine pu HT_.1 4 47 ?_
 refine tk HT_.1 HW_.1 hHeld 0 43 ?_
 refine tk HT_.1 HW_.1 hHeld 5 48 ?_
 refine on HT_.1 6 (some 49) rfl fun K hK => ?_
 refine goes_ Try.func16 (by kernel_rfl) rfl #[.agg #[.string ak, .slice a6 ai.length a8, .slice a7 aj.length a9], .slice bU ((rd_T48 aM ab).f2).length bV] (by rfl) rfl rfl pgz ?_
 with_reducible refine (r22_Enabled.calls k2 ak _ _ ai _ _ aj _ _ ((rd_T48 aM ab).f2) aw _ ?side1 ?side2 ?side3 ?side4 ?side5 ?side6 dP.1).mono ?_
 (case side1 => exact csb aW HB)
 (case side2 => exact aT.1)
 (case side3 => exact csb aX HB)
 (case side4 => exact aU.1)
 (case side5 => repeat (first | exact (by repeat (first | (with_reducible exact bb.1) | (with_reducible refine Kd.C_alloc ?_ _) | (with_reducible refine Kd.C_drewN ?_ _) | (with_reducible refine Kd.C_drew ?_) | exact bb.1)) | (with_reducible refine Kd.C_alloc ?_ _) | (with_reducible refine Kd.C_drewN ?_ _) | (with_reducible refine Kd.C_drew ?_)))
 (case side6 => exact b6.1)
 rintro e ew ⟨cW, rfl, bg, hb⟩
 have HS3_ := (hb.cell (World.block_lt_of_cell? _ _ (hHeld.2.2.2.1))).trans (hHeld.2.2.2.1)
 have HS4_ := (hb.cell (World.block_lt_of_cell? _ _ (hHeld.2.2.2.2.1))).trans (hHeld.2.2.2.2.1)
 have HS5_ := (hb.cell (World.block_lt_of_cell? _ _ (hHeld.2.2.2.2.2.1))).trans (hHeld.2.2.2.2.2.1)
 have HS6_ := (hb.cell (World.block_lt_of_cell? _ _ (hHeld.2.2.2.2.2.2))).trans (hHeld.2.2.2.2.2.2)
 refine ⟨_, rfl, ?_⟩
 have cz := am (Kd.R_lower (Kd.R_newM (M := fun k_ => (w.heap.size ≤ k_)) bg (below_size pbg) (fun k_ h_ => h_)) (below_size pbg))
 replace ac := am (Kd.N_elder' (pkn ac.1) (Kd.R_base bg) hb)
 replace a4 := am (Kd.V_elder' (pkv a4.1) (Kd.R_base bg) hb)
 replace bx := am (Kd.V_elder' (pkv bx.1) (Kd.R_base bg) hb)
 replace aa := bbh aa hb
 replace a5 := cbb a5 hb
 replace bb := cbb bb hb
 replace HB := bst hb
 (try clear hb)
 (try clear dw)
 (try clear hk)
 (try clear hi)
 (try clear bg)
 refine hK.out _ _ ⟨(blk_cell aa.1 0).trans rfl, (blk_cell aa.1 1).trans rfl, (blk_cell aa.1 2).trans rfl, HS3_, HS4_, HS5_, HS6_⟩ (fun hHeld => ?_)
 clear hK K
 refine nm_ 49 ?_
 refine pu HT_.1 7 9 ?_
 refine done_ (done_of HT_.1 (by kernel_rfl)) ?_
 try go_wp2
 go_loopg [7, 10] k2 (fun kq v7 eh w' => ∃ (ao : List (S48)) (al : Int), eh = .int .i64 al ∧ Aside0 (r22_Tree.l1 kq a1 ao ab aw al ak ai aj = some (r1, r2, r3)) ∧ Aside0 (kq ≤ k2) ∧ Aside0 (Kd.N k48 48 w' w.heap.size (fun k_ => (w.heap.size ≤ k_) ∧ some k_ ≠ (cW : Value).ownBlock ∧ k_ ≠ af) v7 ao) ∧ Aside0 (Kd.R (Kd.int .i64) 3 w' w.heap.size (fun k_ => (w.heap.size ≤ k_)) cW aw) ∧ Aside0 (w'.heap[af]? = some (.cells #[.string ak, (.slice a6 ai.length a8), (.slice a7 aj.length a9)] 25 (0, 0))) ∧ Aside0 (Below w.heap.size w w'))
 case atStart => exact ⟨(aM), (0), prs, H', ⟨Nat.le_refl _⟩, ⟨by (with_reducible repeat (first | apply Kd.N_alloc | apply Kd.N_drewN | apply Kd.N_drew)); exact Kd.N_mono ac.1 (fun _ hk => ⟨hk.1.1, ⟨hk.2, hk.1.2⟩⟩)⟩, ⟨by (with_reducible repeat (first | apply Kd.R_alloc | apply Kd.R_drewN | apply Kd.R_drew)); exact Kd.R_mono cz.1 (fun _ hk => hk.1)⟩, ⟨pbk aa.1⟩, ⟨pbg⟩⟩
 clear H'
 try clear c4 c6 dF bj eq er cd dh cH cI dE dO z9 bM bN bl bm bA bB bn bo bs b3 bu b4
 obtain ⟨ao, al, rfl, HA, da, ac, ap, aa, HB⟩ := hrel
 obtain _ | k3 := gk
 ·exact absurd HA.1 (by simp [r22_Tree.l1])
 have H := HA.1
 clear HA
 simp only [r22_Tree.l1] at H
 replace H := ifl H
 rcases H with ⟨cJ, H⟩ | ⟨cJ, H⟩
 rotate_left
 ·have H' := am H
  clear H
  obtain ⟨d2, ea, du⟩ := Kd.R_slice ap.1
  subst du
  go_wp2
  go_roundg k3
  case measure => have := cr.1; have := cu.1; have := da.1; omega
  case rel => exact ⟨(ao), (wrap64 (ab + 1)), prs, H', ⟨by have := cr.1; have := cu.1; have := da.1; omega⟩, ⟨by (with_reducible repeat (first | apply Kd.N_alloc | apply Kd.N_drewN | apply Kd.N_drew)); exact Kd.N_mono ac.1 (fun _ hk => ⟨hk.1, hk.2.2⟩)⟩, ⟨pbk aa.1⟩, ⟨pbg⟩⟩
 replace H := ifp H
 obtain ⟨dG, H⟩ := H
 have dH := decide_eq_true dG
 clear dG
 replace H := ifp H
 obtain ⟨dI, H⟩ := H
 have dJ := decide_eq_true dI
 clear dI
 replace H := ifp H
 obtain ⟨dK, H⟩ := H
 have dL := decide_eq_true dK
 clear dK
 replace H := bnd H
 obtain ⟨⟨bT, dD⟩, df, H⟩ := H
 (try dsimp only at H)
 cases dD
 ·rw [if_neg Bool.false_ne_true] at H
  simp only [Option.some.injEq, Prod.mk.injEq] at H
  obtain ⟨rfl, rfl, rfl⟩ := H
  obtain ⟨d0, d8, dt⟩ := Kd.R_slice ap.1
  subst dt
  try go_wp2
  replace ac := am (Kd.N_drew ac.1)
  replace ap := am (Kd.R_drew ap.1)
  replace aa := am (blk_drew aa.1)
  replace HB := am (below_drew1 HB.1)
  obtain ⟨d1, d9, cT⟩ := Kd.N_slice ac.1
  (first | subst cT | (injection cT with f1_ f2_ f3_; have f4_ := f1_.symm; have f5_ := f3_.symm; clear f1_ f2_ f3_; subst f4_; subst f5_))
  have bh : 0 ≤ (ab : Int) := dq
  have bi : ab < (ao.length : Int) := dq
  obtain ⟨ah, aR, aY, bW, aI, aJ, au, av, aH, aG⟩ := at_T48 (Kd.N_reads' ac.1).2.2 ab bh bi
  (try rw [← bw.1] at av)
  cases bW
  obtain ⟨ce, br, bp, aZ⟩ := Kd.N_get ac.1 z48 ab bh (by first | exact bi | exact dq | (have e_ := (Kd.N_reads' ac.1).1; omega))
  obtain ⟨bP, bQ, rfl, ax, ar⟩ := k48_openF bp
  have aq := aZ 2 _ rfl
  rw [add_field _ _ 2 (by omega)] at aq
  replace aq := Option.some.inj (aq.symm.trans au)
  injection aq with hva_ hvn_ hvc_
  rw [hva_] at ar
  rw [hvc_] at ax
  have ag := am (show Kd.V (Kd.int .i64) 3 _ w.heap.size _ _ ((rd_T48 ao ab).f2) from Kd.V_mk ax ar)
  clear hva_ hvn_ hvc_ ar ax aZ br
  have ae := am aG
  have ba := am aH
  clear aG aH
  replace bh := eq_true bh
  replace bi := eq_true bi
  obtain ⟨cU, cV, aE, bX, aK⟩ := dint (Kd.R_reads' ap.1).2.2 al
  cases bX
  refine start_ (n := 16) (S := fun w' => w'.cell? ⟨af, 0, none⟩ = some (.string ak) ∧ w'.cell? ⟨af, 1, none⟩ = some (.slice a6 ai.length a8) ∧ w'.cell? ⟨af, 2, none⟩ = some (.slice a7 aj.length a9) ∧ w'.cell? (ah.add ((ab).toNat * 4)) = some (.int .i64 ((rd_T48 ao ab).f0)) ∧ w'.cell? ⟨(ah.add ((ab).toNat * 4)).block, (ah.add ((ab).toNat * 4)).off + 1, none⟩ = some (.int .i64 ((rd_T48 ao ab).f1)) ∧ w'.cell? ⟨(ah.add ((ab).toNat * 4)).block, (ah.add ((ab).toNat * 4)).off + 2, none⟩ = some (.slice aR ((rd_T48 ao ab).f2).length aY) ∧ w'.cell? ⟨(ah.add ((ab).toNat * 4)).block, (ah.add ((ab).toNat * 4)).off + 3, none⟩ = some (.bool ((rd_T48 ao ab).f3)) ∧ w'.cell? (aE.add (al).toNat) = some (.int .i64 (rd aw al))) (ds := []) #[false, false, false, false, false, false, false, false, false, false, false, false, false, false, false, false] (by kernel_rfl) rfl rfl ⟨(blk_cell aa.1 0).trans rfl, (blk_cell aa.1 1).trans rfl, (blk_cell aa.1 2).trans rfl, aI, aJ, au, av, aK⟩ (fun hHeld => ?_); refine with_tabW r22_Tree.tab16 r22_Tree.bits16 (fun HT_ HW_ => ?_)
  generalize wr.drew = eD at ac ap aa HB ag ae aI aJ au av aK hHeld ⊢
  refine pu HT_.1 1 58 ?_
  refine pu HT_.1 2 59 ?_
  refine pu HT_.1 3 60 ?_
  refine pu HT_.1 4 61 ?_
  refine pu HT_.1 6 63 ?_
  refine pu HT_.1 7 64 ?_
  refine pu HT_.1 8 65 ?_
  refine tk HT_.1 HW_.1 hHeld 0 57 ?_
  refine tk HT_.1 HW_.1 hHeld 5 62 ?_
  refine tk HT_.1 HW_.1 hHeld 9 66 ?_
  refine on HT_.1 10 (some 67) rfl fun K hK => ?_
  refine goes_ Try.func13 (by kernel_rfl) rfl #[.agg #[.string ak, .slice a6 ai.length a8, .slice a7 aj.length a9], .slice aR ((rd_T48 ao ab).f2).length aY, .int .i64 (rd aw al)] (by rfl) rfl rfl pgz ?_
  with_reducible refine (r22_Fire.calls k3 ak _ _ ai _ _ aj _ _ ((rd_T48 ao ab).f2) (rd aw al) bT false _ ?side1 ?side2 ?side3 ?side4 ?side5 ?side6 df.1).mono ?_
  (case side1 => exact csb aW HB)
  (case side2 => exact aT.1)
  (case side3 => exact csb aX HB)
  (case side4 => exact aU.1)
  (case side5 => repeat (first | exact (by repeat (first | (with_reducible exact ae.1) | (with_reducible refine Kd.C_alloc ?_ _) | (with_reducible refine Kd.C_drewN ?_ _) | (with_reducible refine Kd.C_drew ?_) | exact ae.1)) | (with_reducible refine Kd.C_alloc ?_ _) | (with_reducible refine Kd.C_drewN ?_ _) | (with_reducible refine Kd.C_drew ?_)))
  (case side6 => exact ba.1)
  rintro e eE ⟨cX, rfl, bg, hb⟩
  have HS3_ := (hb.cell (World.block_lt_of_cell? _ _ (hHeld.2.2.2.1))).trans (hHeld.2.2.2.1)
  have HS4_ := (hb.cell (World.block_lt_of_cell? _ _ (hHeld.2.2.2.2.1))).trans (hHeld.2.2.2.2.1)
  have HS5_ := (hb.cell (World.block_lt_of_cell? _ _ (hHeld.2.2.2.2.2.1))).trans (hHeld.2.2.2.2.2.1)
  have HS6_ := (hb.cell (World.block_lt_of_cell? _ _ (hHeld.2.2.2.2.2.2.1))).trans (hHeld.2.2.2.2.2.2.1)
  have HS7_ := (hb.cell (World.block_lt_of_cell? _ _ (hHeld.2.2.2.2.2.2.2))).trans (hHeld.2.2.2.2.2.2.2)
  refine ⟨_, rfl, ?_⟩
  have aC := am (Kd.R_lower (Kd.R_new' (Kd.R_newM (M := fun k_ => (w.heap.size ≤ k_)) bg (below_size pbg) (fun k_ h_ => h_)) (Kd.R_lt (pkr ap.1))) (below_size pbg))
  replace ac := am (Kd.N_elder' (pkn ac.1) (Kd.R_base bg) hb)
  replace ap := am (Kd.R_elder' (pkr ap.1) (Kd.R_base bg) hb)
  replace ag := am (Kd.V_elder' (pkv ag.1) (Kd.R_base bg) hb)
  replace aa := bbh aa hb
  replace ae := cbb ae hb
  replace HB := bst hb
  (try clear hb)
  (try clear dw)
  (try clear hk)
  (try clear hi)
  (try clear bg)
  refine hK.out _ _ ⟨(blk_cell aa.1 0).trans rfl, (blk_cell aa.1 1).trans rfl, (blk_cell aa.1 2).trans rfl, HS3_, HS4_, HS5_, HS6_, HS7_⟩ (fun hHeld => ?_)
  clear hK K
  refine nm_ 67 ?_
  refine pu HT_.1 11 56 ?_
  refine pu HT_.1 12 68 ?_
  refine pu HT_.1 13 69 ?_
  refine pu HT_.1 14 11 ?_
  refine pu HT_.1 15 12 ?_
  refine done_ (done_of HT_.1 (by kernel_rfl)) ?_
  try go_wp2
  go_ret3
  exact ⟨_, per, knl, pbg⟩
 rw [if_pos rfl] at H
 replace H := ife H
 rcases H with ⟨cK, cL, H⟩ | ⟨cK, cL, H⟩
 ·simp only [Option.some.injEq, Prod.mk.injEq] at H
  obtain ⟨rfl, rfl, rfl⟩ := H
  obtain ⟨dW, d6, dn⟩ := Kd.R_slice ap.1
  subst dn
  try go_wp2
  replace ac := am (Kd.N_drew ac.1)
  replace ap := am (Kd.R_drew ap.1)
  replace aa := am (blk_drew aa.1)
  replace HB := am (below_drew1 HB.1)
  obtain ⟨dX, d7, cQ⟩ := Kd.N_slice ac.1
  (first | subst cQ | (injection cQ with f1_ f2_ f3_; have f4_ := f1_.symm; have f5_ := f3_.symm; clear f1_ f2_ f3_; subst f4_; subst f5_))
  have bh : 0 ≤ (ab : Int) := dq
  have bi : ab < (ao.length : Int) := dq
  obtain ⟨ah, aR, aY, bW, aI, aJ, au, av, aH, aG⟩ := at_T48 (Kd.N_reads' ac.1).2.2 ab bh bi
  (try rw [← bw.1] at av)
  cases bW
  obtain ⟨ce, br, bp, aZ⟩ := Kd.N_get ac.1 z48 ab bh (by first | exact bi | exact dq | (have e_ := (Kd.N_reads' ac.1).1; omega))
  obtain ⟨bP, bQ, rfl, ax, ar⟩ := k48_openF bp
  have aq := aZ 2 _ rfl
  rw [add_field _ _ 2 (by omega)] at aq
  replace aq := Option.some.inj (aq.symm.trans au)
  injection aq with hva_ hvn_ hvc_
  rw [hva_] at ar
  rw [hvc_] at ax
  have ag := am (show Kd.V (Kd.int .i64) 3 _ w.heap.size _ _ ((rd_T48 ao ab).f2) from Kd.V_mk ax ar)
  clear hva_ hvn_ hvc_ ar ax aZ br
  have ae := am aG
  have ba := am aH
  clear aG aH
  replace bh := eq_true bh
  replace bi := eq_true bi
  obtain ⟨cU, cV, aE, bX, aK⟩ := dint (Kd.R_reads' ap.1).2.2 al
  cases bX
  refine start_ (n := 16) (S := fun w' => w'.cell? ⟨af, 0, none⟩ = some (.string ak) ∧ w'.cell? ⟨af, 1, none⟩ = some (.slice a6 ai.length a8) ∧ w'.cell? ⟨af, 2, none⟩ = some (.slice a7 aj.length a9) ∧ w'.cell? (ah.add ((ab).toNat * 4)) = some (.int .i64 ((rd_T48 ao ab).f0)) ∧ w'.cell? ⟨(ah.add ((ab).toNat * 4)).block, (ah.add ((ab).toNat * 4)).off + 1, none⟩ = some (.int .i64 ((rd_T48 ao ab).f1)) ∧ w'.cell? ⟨(ah.add ((ab).toNat * 4)).block, (ah.add ((ab).toNat * 4)).off + 2, none⟩ = some (.slice aR ((rd_T48 ao ab).f2).length aY) ∧ w'.cell? ⟨(ah.add ((ab).toNat * 4)).block, (ah.add ((ab).toNat * 4)).off + 3, none⟩ = some (.bool ((rd_T48 ao ab).f3)) ∧ w'.cell? (aE.add (al).toNat) = some (.int .i64 (rd aw al))) (ds := []) #[false, false, false, false, false, false, false, false, false, false, false, false, false, false, false, false] (by kernel_rfl) rfl rfl ⟨(blk_cell aa.1 0).trans rfl, (blk_cell aa.1 1).trans rfl, (blk_cell aa.1 2).trans rfl, aI, aJ, au, av, aK⟩ (fun hHeld => ?_); refine with_tabW r22_Tree.tab16 r22_Tree.bits16 (fun HT_ HW_ => ?_)
  generalize wr.drew = ex at ac ap aa HB ag ae aI aJ au av aK hHeld ⊢
  refine pu HT_.1 1 58 ?_
  refine pu HT_.1 2 59 ?_
  refine pu HT_.1 3 60 ?_
  refine pu HT_.1 4 61 ?_
  refine pu HT_.1 6 63 ?_
  refine pu HT_.1 7 64 ?_
  refine pu HT_.1 8 65 ?_
  refine tk HT_.1 HW_.1 hHeld 0 57 ?_
  refine tk HT_.1 HW_.1 hHeld 5 62 ?_
  refine tk HT_.1 HW_.1 hHeld 9 66 ?_
  refine on HT_.1 10 (some 67) rfl fun K hK => ?_
  refine goes_ Try.func13 (by kernel_rfl) rfl #[.agg #[.string ak, .slice a6 ai.length a8, .slice a7 aj.length a9], .slice aR ((rd_T48 ao ab).f2).length aY, .int .i64 (rd aw al)] (by rfl) rfl rfl pgz ?_
  with_reducible refine (r22_Fire.calls k3 ak _ _ ai _ _ aj _ _ ((rd_T48 ao ab).f2) (rd aw al) bT true _ ?side1 ?side2 ?side3 ?side4 ?side5 ?side6 df.1).mono ?_
  (case side1 => exact csb aW HB)
  (case side2 => exact aT.1)
  (case side3 => exact csb aX HB)
  (case side4 => exact aU.1)
  (case side5 => repeat (first | exact (by repeat (first | (with_reducible exact ae.1) | (with_reducible refine Kd.C_alloc ?_ _) | (with_reducible refine Kd.C_drewN ?_ _) | (with_reducible refine Kd.C_drew ?_) | exact ae.1)) | (with_reducible refine Kd.C_alloc ?_ _) | (with_reducible refine Kd.C_drewN ?_ _) | (with_reducible refine Kd.C_drew ?_)))
  (case side6 => exact ba.1)
  rintro e ey ⟨cX, rfl, bg, hb⟩
  have HS3_ := (hb.cell (World.block_lt_of_cell? _ _ (hHeld.2.2.2.1))).trans (hHeld.2.2.2.1)
  have HS4_ := (hb.cell (World.block_lt_of_cell? _ _ (hHeld.2.2.2.2.1))).trans (hHeld.2.2.2.2.1)
  have HS5_ := (hb.cell (World.block_lt_of_cell? _ _ (hHeld.2.2.2.2.2.1))).trans (hHeld.2.2.2.2.2.1)
  have HS6_ := (hb.cell (World.block_lt_of_cell? _ _ (hHeld.2.2.2.2.2.2.1))).trans (hHeld.2.2.2.2.2.2.1)
  have HS7_ := (hb.cell (World.block_lt_of_cell? _ _ (hHeld.2.2.2.2.2.2.2))).trans (hHeld.2.2.2.2.2.2.2)
  refine ⟨_, rfl, ?_⟩
  have aC := am (Kd.R_lower (Kd.R_new' (Kd.R_newM (M := fun k_ => (w.heap.size ≤ k_)) bg (below_size pbg) (fun k_ h_ => h_)) (Kd.R_lt (pkr ap.1))) (below_size pbg))
  replace ac := am (Kd.N_elder' (pkn ac.1) (Kd.R_base bg) hb)
  replace ap := am (Kd.R_elder' (pkr ap.1) (Kd.R_base bg) hb)
  replace ag := am (Kd.V_elder' (pkv ag.1) (Kd.R_base bg) hb)
  replace aa := bbh aa hb
  replace ae := cbb ae hb
  replace HB := bst hb
  (try clear hb)
  (try clear dw)
  (try clear hk)
  (try clear hi)
  (try clear bg)
  refine hK.out _ _ ⟨(blk_cell aa.1 0).trans rfl, (blk_cell aa.1 1).trans rfl, (blk_cell aa.1 2).trans rfl, HS3_, HS4_, HS5_, HS6_, HS7_⟩ (fun hHeld => ?_)
  clear hK K
  refine nm_ 67 ?_
  refine pu HT_.1 11 56 ?_
  refine pu HT_.1 12 68 ?_
  refine pu HT_.1 13 69 ?_
  refine pu HT_.1 14 11 ?_
  refine pu HT_.1 15 12 ?_
  refine done_ (done_of HT_.1 (by kernel_rfl)) ?_
  try go_wp2
  go_ret3
  exact ⟨_, per, by (with_reducible repeat (first | apply Kd.N_alloc | apply Kd.N_drewN | apply Kd.N_drew)); exact Kd.N_mono ac.1 (fun _ hk => hk.1.1), pbg⟩
 replace H := bnd H
 obtain ⟨bv, dQ, H⟩ := H
 (try dsimp only at H)
 replace H := bnd H
 obtain ⟨bI, dR, H⟩ := H
 (try dsimp only at H)
 replace H := ifp H
 obtain ⟨dM, H⟩ := H
 have cB := am dM
 clear dM
 obtain ⟨cZ, b2⟩ : ∃ y_ : List (S48), y_ = (ao ++ [(⟨ab, rd aw al, bv, bI⟩ : S48)]) := ⟨_, rfl⟩
 replace H : (r22_Tree.l1 k3 a1 cZ ab aw (wrap64 (al + 1)) ak ai aj) = some (r1, r2, r3) := hrp b2 H
 have cC := am b2
 clear b2
 have H' := am H
 clear H
 obtain ⟨dY, bF, dp⟩ := Kd.R_slice ap.1
 subst dp
 try go_wp2
 replace ac := am (Kd.N_drew ac.1)
 replace ap := am (Kd.R_drew ap.1)
 replace aa := am (blk_drew aa.1)
 replace HB := am (below_drew1 HB.1)
 obtain ⟨dZ, bS, cR⟩ := Kd.N_slice ac.1
 (first | subst cR | (injection cR with f1_ f2_ f3_; have f4_ := f1_.symm; have f5_ := f3_.symm; clear f1_ f2_ f3_; subst f4_; subst f5_))
 have bh : 0 ≤ (ab : Int) := dq
 have bi : ab < (ao.length : Int) := dq
 obtain ⟨ah, aR, aY, bW, aI, aJ, au, av, aH, aG⟩ := at_T48 (Kd.N_reads' ac.1).2.2 ab bh bi
 (try rw [← bw.1] at av)
 cases bW
 obtain ⟨ce, br, bp, aZ⟩ := Kd.N_get ac.1 z48 ab bh (by first | exact bi | exact dq | (have e_ := (Kd.N_reads' ac.1).1; omega))
 obtain ⟨bP, bQ, rfl, ax, ar⟩ := k48_openF bp
 have aq := aZ 2 _ rfl
 rw [add_field _ _ 2 (by omega)] at aq
 replace aq := Option.some.inj (aq.symm.trans au)
 injection aq with hva_ hvn_ hvc_
 rw [hva_] at ar
 rw [hvc_] at ax
 have ag := am (show Kd.V (Kd.int .i64) 3 _ w.heap.size _ _ ((rd_T48 ao ab).f2) from Kd.V_mk ax ar)
 clear hva_ hvn_ hvc_ ar ax aZ br
 have ae := am aG
 have ba := am aH
 clear aG aH
 replace bh := eq_true bh
 replace bi := eq_true bi
 obtain ⟨cU, cV, aE, bX, aK⟩ := dint (Kd.R_reads' ap.1).2.2 al
 cases bX
 refine start_ (n := 16) (S := fun w' => w'.cell? ⟨af, 0, none⟩ = some (.string ak) ∧ w'.cell? ⟨af, 1, none⟩ = some (.slice a6 ai.length a8) ∧ w'.cell? ⟨af, 2, none⟩ = some (.slice a7 aj.length a9) ∧ w'.cell? (ah.add ((ab).toNat * 4)) = some (.int .i64 ((rd_T48 ao ab).f0)) ∧ w'.cell? ⟨(ah.add ((ab).toNat * 4)).block, (ah.add ((ab).toNat * 4)).off + 1, none⟩ = some (.int .i64 ((rd_T48 ao ab).f1)) ∧ w'.cell? ⟨(ah.add ((ab).toNat * 4)).block, (ah.add ((ab).toNat * 4)).off + 2, none⟩ = some (.slice aR ((rd_T48 ao ab).f2).length aY) ∧ w'.cell? ⟨(ah.add ((ab).toNat * 4)).block, (ah.add ((ab).toNat * 4)).off + 3, none⟩ = some (.bool ((rd_T48 ao ab).f3)) ∧ w'.cell? (aE.add (al).toNat) = some (.int .i64 (rd aw al))) (ds := []) #[false, false, false, false, false, false, false, false, false, false, false, false, false, false, false, false] (by kernel_rfl) rfl rfl ⟨(blk_cell aa.1 0).trans rfl, (blk_cell aa.1 1).trans rfl, (blk_cell aa.1 2).trans rfl, aI, aJ, au, av, aK⟩ (fun hHeld => ?_); refine with_tabW r22_Tree.tab16 r22_Tree.bits16 (fun HT_ HW_ => ?_)
 generalize wr.drew = ez at ac ap aa HB ag ae aI aJ au av aK hHeld ⊢
 refine pu HT_.1 1 58 ?_
 refine pu HT_.1 2 59 ?_
 refine pu HT_.1 3 60 ?_
 refine pu HT_.1 4 61 ?_
 refine pu HT_.1 6 63 ?_
 refine pu HT_.1 7 64 ?_
 refine pu HT_.1 8 65 ?_
 refine tk HT_.1 HW_.1 hHeld 0 57 ?_
 refine tk HT_.1 HW_.1 hHeld 5 62 ?_
 refine tk HT_.1 HW_.1 hHeld 9 66 ?_
 refine on HT_.1 10 (some 67) rfl fun K hK => ?_
 refine goes_ Try.func13 (by kernel_rfl) rfl #[.agg #[.string ak, .slice a6 ai.length a8, .slice a7 aj.length a9], .slice aR ((rd_T48 ao ab).f2).length aY, .int .i64 (rd aw al)] (by rfl) rfl rfl pgz ?_
 with_reducible refine (r22_Fire.calls k3 ak _ _ ai _ _ aj _ _ ((rd_T48 ao ab).f2) (rd aw al) bT true _ ?side1 ?side2 ?side3 ?side4 ?side5 ?side6 df.1).mono ?_
 (case side1 => exact csb aW HB)
 (case side2 => exact aT.1)
 (case side3 => exact csb aX HB)
 (case side4 => exact aU.1)
 (case side5 => repeat (first | exact (by repeat (first | (with_reducible exact ae.1) | (with_reducible refine Kd.C_alloc ?_ _) | (with_reducible refine Kd.C_drewN ?_ _) | (with_reducible refine Kd.C_drew ?_) | exact ae.1)) | (with_reducible refine Kd.C_alloc ?_ _) | (with_reducible refine Kd.C_drewN ?_ _) | (with_reducible refine Kd.C_drew ?_)))
 (case side6 => exact ba.1)
 rintro e eA ⟨cX, rfl, bg, hb⟩
 have HS3_ := (hb.cell (World.block_lt_of_cell? _ _ (hHeld.2.2.2.1))).trans (hHeld.2.2.2.1)
 have HS4_ := (hb.cell (World.block_lt_of_cell? _ _ (hHeld.2.2.2.2.1))).trans (hHeld.2.2.2.2.1)
 have HS5_ := (hb.cell (World.block_lt_of_cell? _ _ (hHeld.2.2.2.2.2.1))).trans (hHeld.2.2.2.2.2.1)
 have HS6_ := (hb.cell (World.block_lt_of_cell? _ _ (hHeld.2.2.2.2.2.2.1))).trans (hHeld.2.2.2.2.2.2.1)
 have HS7_ := (hb.cell (World.block_lt_of_cell? _ _ (hHeld.2.2.2.2.2.2.2))).trans (hHeld.2.2.2.2.2.2.2)
 refine ⟨_, rfl, ?_⟩
 have aC := am (Kd.R_lower (Kd.R_new' (Kd.R_newM (M := fun k_ => (w.heap.size ≤ k_)) bg (below_size pbg) (fun k_ h_ => h_)) (Kd.R_lt (pkr ap.1))) (below_size pbg))
 replace ac := am (Kd.N_elder' (pkn ac.1) (Kd.R_base bg) hb)
 replace ap := am (Kd.R_elder' (pkr ap.1) (Kd.R_base bg) hb)
 replace ag := am (Kd.V_elder' (pkv ag.1) (Kd.R_base bg) hb)
 replace aa := bbh aa hb
 replace ae := cbb ae hb
 replace HB := bst hb
 (try clear hb)
 (try clear dw)
 (try clear hk)
 (try clear hi)
 (try clear bg)
 refine hK.out _ _ ⟨(blk_cell aa.1 0).trans rfl, (blk_cell aa.1 1).trans rfl, (blk_cell aa.1 2).trans rfl, HS3_, HS4_, HS5_, HS6_, HS7_⟩ (fun hHeld => ?_)
 clear hK K
 refine nm_ 67 ?_
 refine pu HT_.1 11 56 ?_
 refine pu HT_.1 12 68 ?_
 refine pu HT_.1 13 69 ?_
 refine pu HT_.1 14 11 ?_
 refine pu HT_.1 15 12 ?_
 refine done_ (done_of HT_.1 (by kernel_rfl)) ?_
 obtain ⟨cw, cO, dr⟩ := Kd.R_slice aC.1
 subst dr
 try go_wp2_with (first | ((with_reducible refine gate_callee (f := 50) rfl ?_); refine gC 80 Try.func50 _ (r22_child.calls k3 _ _ ao ab (fun k_ => some k_ = (.slice cw bT.length cO : Value).ownBlock) _ _ bT bv _ (csd ((Kd.N_reads' ac.1).2.2)) ((Kd.N_reads' ac.1).2.1) (Kd.R_V (Kd.R_tight rfl (Kd.R_types (Kd.R_apart' (aC.1) (Kd.N_typed ac.1) (by decide)) aa.1 (by decide)))) dQ.1) ?_; rintro e eo ⟨el, rfl, bg, hb⟩; refine ⟨_, rfl, ?_⟩; have aV := am (Kd.V_lower (Kd.V_mono (ok' := fun k_ => (w.heap.size ≤ k_) ∧ some k_ ≠ (.slice (some ah) ao.length bS : Value).ownBlock ∧ some k_ ≠ (.slice (some aE) aw.length bF : Value).ownBlock ∧ k_ ≠ af) bg (fun k_ hk_ => ⟨Or.elim hk_ (fun hs_ => ((Kd.R_types (Kd.R_apart' (aC.1) (Kd.N_typed ac.1) (by decide)) aa.1 (by decide)).1 k_ hs_.symm).1.1.1.1) (fun hn_ => (Nat.le_trans (below_size pbg) hn_)), Or.elim hk_ (fun hs_ => ((Kd.R_types (Kd.R_apart' (aC.1) (Kd.N_typed ac.1) (by decide)) aa.1 (by decide)).1 k_ hs_.symm).1.2) (fun hn_ => (Kd.fresh' (Kd.N_lt (pkn ac.1)) k_ hn_)), Or.elim hk_ (fun hs_ => ((Kd.R_types (Kd.R_apart' (aC.1) (Kd.N_typed ac.1) (by decide)) aa.1 (by decide)).1 k_ hs_.symm).1.1.2) (fun hn_ => (Kd.fresh' (Kd.R_lt (pkr ap.1)) k_ hn_)), Or.elim hk_ (fun hs_ => ((Kd.R_types (Kd.R_apart' (aC.1) (Kd.N_typed ac.1) (by decide)) aa.1 (by decide)).1 k_ hs_.symm).2) (fun hn_ => (Kd.freshB (g := af) (o := .cells #[.string ak, .slice a6 ai.length a8, .slice a7 aj.length a9] 25 (0, 0)) (by exact pbk aa.1) k_ hn_))⟩)) (below_size pbg)); replace ac := nbw ac hb; replace ap := rbw ap hb; replace ag := vbw ag hb; replace aC := rbw aC hb; replace aa := bbh aa hb; replace ae := cbb ae hb; replace HB := bst hb; (try clear hb); (try clear bg)))
 replace ac := am (Kd.N_drew ac.1)
 replace ap := am (Kd.R_drew ap.1)
 replace ag := am (Kd.V_drew ag.1)
 replace aC := am (Kd.R_drew aC.1)
 replace aV := am (Kd.V_drew aV.1)
 replace aa := am (blk_drew aa.1)
 replace ae := am (Kd.C_drew ae.1)
 replace HB := am (below_drew1 HB.1)
 obtain ⟨ef, eg, cE, dj, bO⟩ := dint (Kd.R_reads' ap.1).2.2 al
 obtain rfl : aE = cE := (by injection dj)
 obtain ⟨cx, cP, cS⟩ := Kd.V_slice aV.1
 (first | subst cS | (injection cS with f1_ f2_ f3_; have f4_ := f1_.symm; have f5_ := f3_.symm; clear f1_ f2_ f3_; subst f4_; subst f5_))
 refine start_ (n := 14) (S := fun w' => w'.cell? (aE.add (al).toNat) = some (.int .i64 (rd aw al))) (ds := [11, 12]) #[false, false, false, false, false, false, false, false, false, false, false, false, false, false] (by kernel_rfl) rfl rfl (bO) (fun hHeld => ?_); refine with_tabW r22_Tree.tab22 r22_Tree.bits22 (fun HT_ HW_ => ?_)
 generalize eo.drew = eB at ac ap ag aC aV aa ae HB bO hHeld ⊢
 refine pu HT_.1 0 81 ?_
 refine pu HT_.1 1 82 ?_
 refine pu HT_.1 2 83 ?_
 refine pu HT_.1 3 84 ?_
 refine pu HT_.1 4 85 ?_
 refine pu HT_.1 6 87 ?_
 refine pu HT_.1 7 88 ?_
 refine pu HT_.1 8 89 ?_
 refine take_ (i := 5) (N := some 86) (v := ?_) (a' := ?_) #[true, true, true, true, true, true, true, true, true, false, false, false, false, false] rfl rfl (take_ofW HT_.1 HW_.1 (by kernel_rfl)) (fun _ _ _ h => h) (Or.inl ⟨by rfl, ?_⟩) hHeld ?_ ?_
 rotate_left
 ·intro w' s0
  go_simp
  with_reducible rfl
 rotate_left
 ·simp only [Act.put, List.setIfInBounds_toArray, List.set_cons_zero, List.set_cons_succ, i64_w, i32_w]
  rfl
 refine on HT_.1 9 (some 90) rfl fun K hK => ?_
 refine goes_ Try.func51 (by kernel_rfl) rfl #[.slice (some ah) ao.length bS, .slice cx bv.length cP] (by rfl) rfl rfl pgz ?_
 with_reducible refine (r22_seen.calls k3 _ _ ao _ _ bv bI _ ?side1 ?side2 ?side3 ?side4 dR.1).mono ?_
 (case side1 => exact csd ((Kd.N_reads' ac.1).2.2))
 (case side2 => exact (Kd.N_reads' ac.1).2.1)
 (case side3 => exact csd ((Kd.V_reads' aV.1).2.2))
 (case side4 => exact (Kd.V_reads' aV.1).2.1)
 rintro e w' ⟨rfl, ⟨nd, rfl⟩⟩
 refine ⟨_, rfl, ?_⟩
 refine hK.out _ _ (hHeld) (fun hHeld => ?_)
 clear hK K
 refine nm_ 90 ?_
 refine pu HT_.1 10 91 ?_
 refine la HT_.1 11 (some 92) rfl fun K hK => ?_
 refine value_ (w1 := ?_) (v := ?_) (by rfl) rfl ?_ ?_
 rotate_left 2
 ·go_simp
  constructor
  ·rfl
  ·rfl
 refine hK.out _ _ ?_
 clear hK K
 refine nm_ 92 ?_
 refine la HT_.1 12 (some 93) rfl fun K hK => ?_
 refine Kd.N_append_step k48 (w0 := w) w.heap.size (by rfl) (.tmp 81) (.tmp 92) 36 48 (.agg #[(.int .i64 0), (.int .i64 0), (.slice none 0 0), (.bool false)]) 48 rfl Try.underlying36 info48 rfl (by decide) (by omega) (.slice (some ah) ao.length bS) ao (⟨ab, rd aw al, bv, bI⟩ : S48) [.int .i64 ab, .int .i64 (rd aw al), .slice cx bv.length cP, .bool bI] (fun k_ => (w.heap.size ≤ k_) ∧ some k_ ≠ (.slice (some aE) aw.length bF : Value).ownBlock ∧ k_ ≠ af) (fun k_ => ((fun k_ => (w.heap.size ≤ k_) ∧ some k_ ≠ (.slice (some aE) aw.length bF : Value).ownBlock ∧ k_ ≠ af)) k_ ∧ some k_ ≠ (.slice (some ah) ao.length bS : Value).ownBlock) rfl rfl ?aP (fun _ hk => hk) ?aF ?aO ?aB ?aS ?aL ?_
 (case aP => exact (k48_mkF _ _ (⟨ab, rd aw al, bv, bI⟩ : S48) (Kd.V_reads' (Kd.V_mono (ok' := (fun k_ => ((fun k_ => (w.heap.size ≤ k_) ∧ some k_ ≠ (.slice (some aE) aw.length bF : Value).ownBlock ∧ k_ ≠ af)) k_ ∧ some k_ ≠ (.slice (some ah) ao.length bS : Value).ownBlock)) (aV.1) (fun k_ hk => ⟨⟨hk.1, ⟨hk.2.2.1, hk.2.2.2⟩⟩, hk.2.1⟩))).2.1 (Kd.V_F (e := 0) (base := 0) (Kd.V_mono (e := 0) (base := 0) (ok' := (fun k_ => ((fun k_ => (w.heap.size ≤ k_) ∧ some k_ ≠ (.slice (some aE) aw.length bF : Value).ownBlock ∧ k_ ≠ af)) k_ ∧ some k_ ≠ (.slice (some ah) ao.length bS : Value).ownBlock)) (aV.1) (fun k_ hk => ⟨⟨hk.1, ⟨hk.2.2.1, hk.2.2.2⟩⟩, hk.2.1⟩)))))
 (case aB => exact pbg)
 (case aF => exact (fun k_ hk => ⟨(Nat.le_trans (below_size pbg) hk), Kd.fresh' (Kd.R_lt (pkr ap.1)) k_ hk, Kd.freshB (g := af) (o := .cells #[.string ak, .slice a6 ai.length a8, .slice a7 aj.length a9] 25 (0, 0)) (by exact pbk aa.1) k_ hk⟩))
 (case aO => exact (by (with_reducible repeat (first | apply Kd.N_alloc | apply Kd.N_drewN | apply Kd.N_drew)); exact Kd.N_mono ac.1 (fun _ hk => ⟨hk.1.1, ⟨hk.1.2.1, hk.1.2.2⟩⟩)))
 (case aS => exact (below_size pbg))
 (case aL => have := cB.1; omega)
 intro em eC ho hb hg hat
 rw [← cC.1] at ho
 have n0_ := am (Kd.R_over' (pkr ap.1) (Kd.N_typed (pkn ac.1)) (by decide) hg)
 have n1_ := (bgr aa hg (Kd.N_ne ac.1 aa.1 (by decide)))
 have n2_ := am (Kd.V_afterv (ok := (fun k_ => (w.heap.size ≤ k_) ∧ some k_ ≠ (.slice (some aE) aw.length bF : Value).ownBlock ∧ some k_ ≠ (.slice cw bT.length cO : Value).ownBlock ∧ k_ ≠ af)) (by (with_reducible repeat (first | apply Kd.V_alloc | apply Kd.V_drewN | apply Kd.V_drew)); exact Kd.V_mono ag.1 (fun _ hk => ⟨⟨hk.1.1.1, ⟨hk.1.1.2.1, ⟨hk.2, hk.1.1.2.2⟩⟩⟩, hk.1.2⟩)) hg hat)
 have n3_ := am (Kd.R_over' (pkr aC.1) (Kd.N_typed (pkn ac.1)) (by decide) hg)
 have n4_ := am (Kd.V_afterv (ok := (fun k_ => (w.heap.size ≤ k_) ∧ some k_ ≠ (.slice (some aE) aw.length bF : Value).ownBlock ∧ k_ ≠ af)) (by (with_reducible repeat (first | apply Kd.V_alloc | apply Kd.V_drewN | apply Kd.V_drew)); exact Kd.V_mono aV.1 (fun _ hk => ⟨⟨hk.1, ⟨hk.2.2.1, hk.2.2.2⟩⟩, hk.2.1⟩)) hg hat)
 have n5_ := am hb
 have n6_ := am ho
 clear ap aa ag aC aV HB ac
 have ap := n0_
 have aa := n1_
 have ag := n2_
 have aC := n3_
 have aV := n4_
 have HB := n5_
 have cA := n6_
 clear n0_ n1_ n2_ n3_ n4_ n5_ n6_ ho hb hg hat
 refine hK.out _ _ ?_
 clear hK K
 refine nm_ 93 ?_
 refine pu HT_.1 13 7 ?_
 refine done_ (done_of HT_.1 (by kernel_rfl)) ?_
 try go_wp2
 go_roundg k3
 case measure => have := cr.1; have := cu.1; have := da.1; omega
 case rel => exact ⟨(cZ), (wrap64 (al + 1)), prs, H', ⟨by have := cr.1; have := cu.1; have := da.1; omega⟩, ⟨pkn cA.1⟩, ⟨by (with_reducible repeat (first | apply Kd.R_alloc | apply Kd.R_drewN | apply Kd.R_drew)); exact Kd.R_mono ap.1 (fun _ hk => hk.1)⟩, ⟨pbk aa.1⟩, ⟨pbg⟩⟩

/-! ### r22_Same: function 20 -/
def r22_Same.l0 : Nat → List (S48) → List (S48) → Int → Option (Bool)
 | 0, _, _, _ => none
 | k + 1, x0, x1, x5 => if x5 < (x0.length : Int) then (if 0 ≤ x5 then (if x5 < (x1.length : Int) then (if ((rd_T48 x0 x5).f0) = ((rd_T48 x1 x5).f0) then (if ((rd_T48 x0 x5).f1) = ((rd_T48 x1 x5).f1) then (if (((rd_T48 x0 x5).f3) != ((rd_T48 x1 x5).f3)) = true then (some false) else ((r04_Same.f k ((rd_T48 x0 x5).f2) ((rd_T48 x1 x5).f2)).bind fun cL => (if cL = true then (r22_Same.l0 k x0 x1 (wrap64 (x5 + 1))) else (some false)))) else (some false)) else (some false)) else (none)) else (none)) else (some true)
def r22_Same.f (k : Nat) (l0 : List (S48)) (l1 : List (S48)) : Option (Bool) := if (l0.length : Int) = (l1.length : Int) then (r22_Same.l0 k l0 l1 0) else (some false)
theorem r22_Same.mono_l : ∀ k, M3 r22_Same.l0 k
 | 0 => fun _ _ _ r h => by simp [r22_Same.l0] at h
 | k + 1 => by
  have cX := r22_Same.mono_l k
  ·intro y0 y1 y2
   unfold r22_Same.l0
   repeat' first | (with_reducible first | apply cX | apply r04_Same.mono | apply lr | apply ln | apply li | refine lb ?_ fun _ => ?_)
theorem r22_Same.mono : ∀ a0 a1 k, LeO (r22_Same.f k a0 a1) (r22_Same.f (k + 1) a0 a1) := by
 intro a0 a1 k
 have cX := r22_Same.mono_l k
 unfold r22_Same.f
 repeat' first | (with_reducible first | apply cX | apply r04_Same.mono | apply lr | apply ln | apply li | refine lb ?_ fun _ => ?_)
def r22_Same.T6 : Bool × List (List Nat × List Nat) := (true, [([], []), ([], []), ([0, 1], [0, 1]), ([2], [2]), ([3], [3]), ([], []), ([], []), ([5, 6], [5, 6]), ([7], [7]), ([8], [8]), ([4, 9], [4, 9]), ([10], [10]), ([11], [11]), ([11], [11]), ([12, 13, 11], [11, 12, 13]), ([14, 11], [11, 14]), ([15, 11], [11, 15]), ([11], [11]), ([11], [11]), ([17, 18, 11], [11, 17, 18]), ([19, 11], [11, 19]), ([20, 11], [11, 20]), ([16, 21, 11], [11, 16, 21]), ([11, 22], [11, 22]), ([23, 11], [23]), ([24], [24]), ([24], [24]), ([25, 26, 24], [24, 25, 26]), ([27, 24], [24, 27]), ([28, 24], [24, 28]), ([24], [24]), ([24], [24]), ([30, 31, 24], [24, 30, 31]), ([32, 24], [24, 32]), ([33, 24], [24, 33]), ([29, 34, 24], [24, 29, 34]), ([24, 35], [24, 35]), ([36, 24], [36]), ([37], [37]), ([37], [37]), ([38, 39, 37], [37, 38, 39]), ([40, 37], [37, 40]), ([41, 37], [37, 41]), ([37], [37]), ([37], [37]), ([43, 44, 37], [37, 43, 44]), ([45, 37], [37, 45]), ([46, 37], [37, 46]), ([42, 47, 37, 37], [37, 42, 47]), ([48, 37], [37, 48]), ([37, 49], [37, 49])])
def r22_Same.B6 : List Nat := [0, 0, 3, 7, 15, 0, 0, 96, 224, 480, 1023, 2047, 4095, 4095, 16383, 32767, 65535, 4095, 4095, 397311, 921599, 1970175, 4194303, 8388607, 16777215, 33554431, 33554431, 134217727, 268435455, 536870911, 33554431, 33554431, 3254779903, 7549747199, 16139681791, 34359738367, 68719476735, 137438953471, 274877906943, 274877906943, 1099511627775, 2199023255551, 4398046511103, 274877906943, 274877906943, 26663156973567, 61847529062399, 132216273240063, 281474976710655, 562949953421311, 1125899906842623]
theorem r22_Same.tab6 : rtab .any (opsOf Try.f20 6) = r22_Same.T6 := by kernel_rfl
theorem r22_Same.bits6 : waitsOk r22_Same.T6.2 r22_Same.B6 = true := by kernel_rfl
set_option maxHeartbeats 8000000 in
set_option maxRecDepth 100000 in
theorem r22_Same.calls (k : Nat) (A0 : Option Addr) (c0 : Nat) (l0 : List (S48)) (A1 : Option Addr) (c1 : Nat) (l1 : List (S48)) (r : Bool) (w : World) (da : Kd.C k48 w A0 l0.length l0) (hc0 : l0.length ≤ c0) (db : Kd.C k48 w A1 l1.length l1) (cZ : l1.length ≤ c1) (h : r22_Same.f k l0 l1 = some r) :
  Calls Try.prog 20 #[.slice A0 l0.length c0, .slice A1 l1.length c1] w fun e w' => e = .returned (.bool r) ∧ Below w.heap.size w w' := by
 have cv := am da
 have dg := am hc0
 clear da hc0
 have cw := am db
 have dh := am cZ
 clear db cZ
 have HB := am (Below.refl w.heap.size w)
 have H := h
 unfold r22_Same.f at H
 clear h
 by_cases c3 : (l0.length : Int) = (l1.length : Int)
 rotate_left
 ·rw [if_neg c3] at H
  have cM : ((l0.length : Int) == (l1.length : Int)) = false := beq_eq_false_iff_ne.mpr c3
  have cN : ((l0.length : Int) != (l1.length : Int)) = true := bne_iff_ne.mpr c3
  have cO : (l0.length == l1.length) = false := by first | simpa using c3 | (simp at c3 ⊢; omega)
  obtain rfl := Option.some.inj H
  go_enter Try.func20, Try.ntmps20
  go_wp2
  go_ret
  exact ⟨per, pbg⟩
 rw [if_pos c3] at H
 have cM : ((l0.length : Int) == (l1.length : Int)) = true := beq_iff_eq.mpr c3
 have cN : ((l0.length : Int) != (l1.length : Int)) = false := bne_eq_false_iff_eq.mpr c3
 have cO : (l0.length == l1.length) = true := by first | simpa using c3 | (simp at c3 ⊢; omega)
 clear c3
 have H' := am H
 clear H
 go_enter Try.func20, Try.ntmps20
 go_wp2
 go_loopg [5] k (fun kq v5 w' => ∃ (aa : Int), v5 = .int .i64 aa ∧ Aside0 (r22_Same.l0 kq l0 l1 aa = some r) ∧ Aside0 (kq ≤ k) ∧ Aside0 (Below w.heap.size w w'))
 case atStart => exact ⟨(0), prs, H', ⟨Nat.le_refl _⟩, ⟨pbg⟩⟩
 clear H'
 try clear c1 c3 cM cN cO
 obtain ⟨aa, rfl, HA, cY, HB⟩ := hrel
 obtain _ | k1 := gk
 ·exact absurd HA.1 (by simp [r22_Same.l0])
 have H := HA.1
 clear HA
 simp only [r22_Same.l0] at H
 replace H := ifl H
 rcases H with ⟨cP, H⟩ | ⟨cP, H⟩
 rotate_left
 ·obtain rfl := Option.some.inj H
  go_wp2
  go_ret
  exact ⟨per, pbg⟩
 replace H := ifp H
 obtain ⟨c5, H⟩ := H
 have dc := decide_eq_true c5
 clear c5
 replace H := ifp H
 obtain ⟨c6, H⟩ := H
 have de := decide_eq_true c6
 clear c6
 replace H := ife H
 rcases H with ⟨cQ, cR, H⟩ | ⟨cQ, cR, H⟩
 rotate_left
 ·obtain rfl := Option.some.inj H
  try go_wp2
  replace HB := am (below_drew1 HB.1)
  have bB : 0 ≤ (aa : Int) := dq
  have bD : aa < (l0.length : Int) := dq
  obtain ⟨ab, aA, aC, cb, ag, ah, ae, ai, aG, aE⟩ := at_T48 cv.1 aa bB bD
  have aV := ai
  have aU := ae
  have aT := ah
  have aS := ag
  cases cb
  replace ag := cbl HB.1 ag
  replace ah := cbl HB.1 ah
  replace ae := cbl HB.1 ae
  replace ai := cbl HB.1 ai
  have a4 := am aE
  have bZ := am aG
  clear aE aG
  replace bB := eq_true bB
  replace bD := eq_true bD
  have bC : 0 ≤ (aa : Int) := dq
  have bE : aa < (l1.length : Int) := dq
  obtain ⟨ac, aB, aD, cd, aj, ak, af, al, aH, aF⟩ := at_T48 cw.1 aa bC bE
  have aZ := al
  have aY := af
  have aX := ak
  have aW := aj
  cases cd
  replace aj := cbl HB.1 aj
  replace ak := cbl HB.1 ak
  replace af := cbl HB.1 af
  replace al := cbl HB.1 al
  have a5 := am aF
  have b0 := am aH
  clear aF aH
  replace bC := eq_true bC
  replace bE := eq_true bE
  refine start_ (n := 51) (S := fun w' => w'.cell? (ab.add ((aa).toNat * 4)) = some (.int .i64 ((rd_T48 l0 aa).f0)) ∧ w'.cell? ⟨(ab.add ((aa).toNat * 4)).block, (ab.add ((aa).toNat * 4)).off + 1, none⟩ = some (.int .i64 ((rd_T48 l0 aa).f1)) ∧ w'.cell? ⟨(ab.add ((aa).toNat * 4)).block, (ab.add ((aa).toNat * 4)).off + 2, none⟩ = some (.slice aA ((rd_T48 l0 aa).f2).length aC) ∧ w'.cell? ⟨(ab.add ((aa).toNat * 4)).block, (ab.add ((aa).toNat * 4)).off + 3, none⟩ = some (.bool ((rd_T48 l0 aa).f3)) ∧ w'.cell? (ac.add ((aa).toNat * 4)) = some (.int .i64 ((rd_T48 l1 aa).f0)) ∧ w'.cell? ⟨(ac.add ((aa).toNat * 4)).block, (ac.add ((aa).toNat * 4)).off + 1, none⟩ = some (.int .i64 ((rd_T48 l1 aa).f1)) ∧ w'.cell? ⟨(ac.add ((aa).toNat * 4)).block, (ac.add ((aa).toNat * 4)).off + 2, none⟩ = some (.slice aB ((rd_T48 l1 aa).f2).length aD) ∧ w'.cell? ⟨(ac.add ((aa).toNat * 4)).block, (ac.add ((aa).toNat * 4)).off + 3, none⟩ = some (.bool ((rd_T48 l1 aa).f3))) (ds := []) #[false, false, false, false, false, false, false, false, false, false, false, false, false, false, false, false, false, false, false, false, false, false, false, false, false, false, false, false, false, false, false, false, false, false, false, false, false, false, false, false, false, false, false, false, false, false, false, false, false, false, false] (by kernel_rfl) rfl rfl ⟨(cbl HB.1 aS), (cbl HB.1 aT), (cbl HB.1 aU), (cbl HB.1 aV), (cbl HB.1 aW), (cbl HB.1 aX), (cbl HB.1 aY), (cbl HB.1 aZ)⟩ (fun hHeld => ?_); refine with_tabW r22_Same.tab6 r22_Same.bits6 (fun HT_ HW_ => ?_)
  generalize wr.drew = dm at HB a4 a5 ag ah ae ai aj ak af al hHeld ⊢
  refine pu HT_.1 0 17 ?_
  refine pu HT_.1 1 18 ?_
  refine pu HT_.1 2 19 ?_
  refine pu HT_.1 3 20 ?_
  refine pu HT_.1 5 22 ?_
  refine pu HT_.1 6 23 ?_
  refine pu HT_.1 7 24 ?_
  refine pu HT_.1 8 25 ?_
  refine tk HT_.1 HW_.1 hHeld 4 21 ?_
  refine tk HT_.1 HW_.1 hHeld 9 26 ?_
  refine pu HT_.1 10 27 ?_
  refine pu HT_.1 11 28 ?_
  refine pd HT_.1 12 29 ?_
  refine pd HT_.1 13 30 ?_
  refine pd HT_.1 14 31 ?_
  refine pd HT_.1 15 32 ?_
  refine pd HT_.1 16 33 ?_
  refine pd HT_.1 17 34 ?_
  refine pd HT_.1 18 35 ?_
  refine pd HT_.1 19 36 ?_
  refine pd HT_.1 20 37 ?_
  refine pd HT_.1 21 38 ?_
  refine pd HT_.1 22 39 ?_
  refine pu HT_.1 23 40 ?_
  refine pu HT_.1 24 41 ?_
  refine pd HT_.1 25 42 ?_
  refine pd HT_.1 26 43 ?_
  refine pd HT_.1 27 44 ?_
  refine pd HT_.1 28 45 ?_
  refine pd HT_.1 29 46 ?_
  refine pd HT_.1 30 47 ?_
  refine pd HT_.1 31 48 ?_
  refine pd HT_.1 32 49 ?_
  refine pd HT_.1 33 50 ?_
  refine pd HT_.1 34 51 ?_
  refine pd HT_.1 35 52 ?_
  refine pu HT_.1 36 53 ?_
  refine pu HT_.1 37 54 ?_
  refine pd HT_.1 38 55 ?_
  refine pd HT_.1 39 56 ?_
  refine pd HT_.1 40 57 ?_
  refine pd HT_.1 41 58 ?_
  refine pd HT_.1 42 59 ?_
  refine pd HT_.1 43 60 ?_
  refine pd HT_.1 44 61 ?_
  refine pd HT_.1 45 62 ?_
  refine pd HT_.1 46 63 ?_
  refine pd HT_.1 47 64 ?_
  refine pd HT_.1 48 65 ?_
  refine pd HT_.1 49 66 ?_
  refine pu HT_.1 50 67 ?_
  refine done_ (done_of HT_.1 (by kernel_rfl)) ?_
  try go_wp2
  go_ret
  exact ⟨per, pbg⟩
 replace H := ife H
 rcases H with ⟨cS, cT, H⟩ | ⟨cS, cT, H⟩
 rotate_left
 ·obtain rfl := Option.some.inj H
  try go_wp2
  replace HB := am (below_drew1 HB.1)
  have bB : 0 ≤ (aa : Int) := dq
  have bD : aa < (l0.length : Int) := dq
  obtain ⟨ab, aA, aC, cb, ag, ah, ae, ai, aG, aE⟩ := at_T48 cv.1 aa bB bD
  have aV := ai
  have aU := ae
  have aT := ah
  have aS := ag
  cases cb
  replace ag := cbl HB.1 ag
  replace ah := cbl HB.1 ah
  replace ae := cbl HB.1 ae
  replace ai := cbl HB.1 ai
  have a4 := am aE
  have bZ := am aG
  clear aE aG
  replace bB := eq_true bB
  replace bD := eq_true bD
  have bC : 0 ≤ (aa : Int) := dq
  have bE : aa < (l1.length : Int) := dq
  obtain ⟨ac, aB, aD, cd, aj, ak, af, al, aH, aF⟩ := at_T48 cw.1 aa bC bE
  have aZ := al
  have aY := af
  have aX := ak
  have aW := aj
  cases cd
  replace aj := cbl HB.1 aj
  replace ak := cbl HB.1 ak
  replace af := cbl HB.1 af
  replace al := cbl HB.1 al
  have a5 := am aF
  have b0 := am aH
  clear aF aH
  replace bC := eq_true bC
  replace bE := eq_true bE
  have bF : 0 ≤ (aa : Int) := dq
  have bH : aa < (l0.length : Int) := dq
  obtain ⟨b1, cg, ci, ck, aq, ar, ao, au, aQ, aO⟩ := at_T48 cv.1 aa bF bH
  have a9 := au
  have a8 := ao
  have a7 := ar
  have a6 := aq
  obtain rfl : ab = b1 := (by injection ck)
  replace aq := cbl HB.1 aq
  replace ar := cbl HB.1 ar
  replace ao := cbl HB.1 ao
  replace au := cbl HB.1 au
  have bp := am aO
  have b7 := am aQ
  clear aO aQ
  replace bF := eq_true bF
  replace bH := eq_true bH
  have ea_ := Option.some.inj (ae.symm.trans ao)
  injection ea_ with ea_ en_ ec_
  subst ea_
  subst ec_
  clear en_
  have bG : 0 ≤ (aa : Int) := dq
  have bI : aa < (l1.length : Int) := dq
  obtain ⟨b2, ch, cj, cm, av, aw, ap, ax, aR, aP⟩ := at_T48 cw.1 aa bG bI
  have bd := ax
  have bc := ap
  have bb := aw
  have ba := av
  obtain rfl : ac = b2 := (by injection cm)
  replace av := cbl HB.1 av
  replace aw := cbl HB.1 aw
  replace ap := cbl HB.1 ap
  replace ax := cbl HB.1 ax
  have bq := am aP
  have b8 := am aR
  clear aP aR
  replace bG := eq_true bG
  replace bI := eq_true bI
  have ea_ := Option.some.inj (af.symm.trans ap)
  injection ea_ with ea_ en_ ec_
  subst ea_
  subst ec_
  clear en_
  refine start_ (n := 51) (S := fun w' => w'.cell? (ab.add ((aa).toNat * 4)) = some (.int .i64 ((rd_T48 l0 aa).f0)) ∧ w'.cell? ⟨(ab.add ((aa).toNat * 4)).block, (ab.add ((aa).toNat * 4)).off + 1, none⟩ = some (.int .i64 ((rd_T48 l0 aa).f1)) ∧ w'.cell? ⟨(ab.add ((aa).toNat * 4)).block, (ab.add ((aa).toNat * 4)).off + 2, none⟩ = some (.slice aA ((rd_T48 l0 aa).f2).length aC) ∧ w'.cell? ⟨(ab.add ((aa).toNat * 4)).block, (ab.add ((aa).toNat * 4)).off + 3, none⟩ = some (.bool ((rd_T48 l0 aa).f3)) ∧ w'.cell? (ac.add ((aa).toNat * 4)) = some (.int .i64 ((rd_T48 l1 aa).f0)) ∧ w'.cell? ⟨(ac.add ((aa).toNat * 4)).block, (ac.add ((aa).toNat * 4)).off + 1, none⟩ = some (.int .i64 ((rd_T48 l1 aa).f1)) ∧ w'.cell? ⟨(ac.add ((aa).toNat * 4)).block, (ac.add ((aa).toNat * 4)).off + 2, none⟩ = some (.slice aB ((rd_T48 l1 aa).f2).length aD) ∧ w'.cell? ⟨(ac.add ((aa).toNat * 4)).block, (ac.add ((aa).toNat * 4)).off + 3, none⟩ = some (.bool ((rd_T48 l1 aa).f3)) ∧ w'.cell? (ab.add ((aa).toNat * 4)) = some (.int .i64 ((rd_T48 l0 aa).f0)) ∧ w'.cell? ⟨(ab.add ((aa).toNat * 4)).block, (ab.add ((aa).toNat * 4)).off + 1, none⟩ = some (.int .i64 ((rd_T48 l0 aa).f1)) ∧ w'.cell? ⟨(ab.add ((aa).toNat * 4)).block, (ab.add ((aa).toNat * 4)).off + 2, none⟩ = some (.slice aA ((rd_T48 l0 aa).f2).length aC) ∧ w'.cell? ⟨(ab.add ((aa).toNat * 4)).block, (ab.add ((aa).toNat * 4)).off + 3, none⟩ = some (.bool ((rd_T48 l0 aa).f3)) ∧ w'.cell? (ac.add ((aa).toNat * 4)) = some (.int .i64 ((rd_T48 l1 aa).f0)) ∧ w'.cell? ⟨(ac.add ((aa).toNat * 4)).block, (ac.add ((aa).toNat * 4)).off + 1, none⟩ = some (.int .i64 ((rd_T48 l1 aa).f1)) ∧ w'.cell? ⟨(ac.add ((aa).toNat * 4)).block, (ac.add ((aa).toNat * 4)).off + 2, none⟩ = some (.slice aB ((rd_T48 l1 aa).f2).length aD) ∧ w'.cell? ⟨(ac.add ((aa).toNat * 4)).block, (ac.add ((aa).toNat * 4)).off + 3, none⟩ = some (.bool ((rd_T48 l1 aa).f3))) (ds := []) #[false, false, false, false, false, false, false, false, false, false, false, false, false, false, false, false, false, false, false, false, false, false, false, false, false, false, false, false, false, false, false, false, false, false, false, false, false, false, false, false, false, false, false, false, false, false, false, false, false, false, false] (by kernel_rfl) rfl rfl ⟨(cbl HB.1 aS), (cbl HB.1 aT), (cbl HB.1 aU), (cbl HB.1 aV), (cbl HB.1 aW), (cbl HB.1 aX), (cbl HB.1 aY), (cbl HB.1 aZ), (cbl HB.1 a6), (cbl HB.1 a7), (cbl HB.1 a8), (cbl HB.1 a9), (cbl HB.1 ba), (cbl HB.1 bb), (cbl HB.1 bc), (cbl HB.1 bd)⟩ (fun hHeld => ?_); refine with_tabW r22_Same.tab6 r22_Same.bits6 (fun HT_ HW_ => ?_)
  generalize wr.drew = dl at HB a4 a5 bp bq ag ah ae ai aj ak af al aq ar ao au av aw ap ax hHeld ⊢
  refine pu HT_.1 0 17 ?_
  refine pu HT_.1 1 18 ?_
  refine pu HT_.1 2 19 ?_
  refine pu HT_.1 3 20 ?_
  refine pu HT_.1 5 22 ?_
  refine pu HT_.1 6 23 ?_
  refine pu HT_.1 7 24 ?_
  refine pu HT_.1 8 25 ?_
  refine tk HT_.1 HW_.1 hHeld 4 21 ?_
  refine tk HT_.1 HW_.1 hHeld 9 26 ?_
  refine pu HT_.1 10 27 ?_
  refine pu HT_.1 11 28 ?_
  refine pu HT_.1 12 29 ?_
  refine pu HT_.1 13 30 ?_
  refine pu HT_.1 14 31 ?_
  refine pu HT_.1 15 32 ?_
  refine pu HT_.1 17 34 ?_
  refine pu HT_.1 18 35 ?_
  refine pu HT_.1 19 36 ?_
  refine pu HT_.1 20 37 ?_
  refine tk HT_.1 HW_.1 hHeld 16 33 ?_
  refine tk HT_.1 HW_.1 hHeld 21 38 ?_
  refine pu HT_.1 22 39 ?_
  refine pu HT_.1 23 40 ?_
  refine pu HT_.1 24 41 ?_
  refine pd HT_.1 25 42 ?_
  refine pd HT_.1 26 43 ?_
  refine pd HT_.1 27 44 ?_
  refine pd HT_.1 28 45 ?_
  refine pd HT_.1 29 46 ?_
  refine pd HT_.1 30 47 ?_
  refine pd HT_.1 31 48 ?_
  refine pd HT_.1 32 49 ?_
  refine pd HT_.1 33 50 ?_
  refine pd HT_.1 34 51 ?_
  refine pd HT_.1 35 52 ?_
  refine pu HT_.1 36 53 ?_
  refine pu HT_.1 37 54 ?_
  refine pd HT_.1 38 55 ?_
  refine pd HT_.1 39 56 ?_
  refine pd HT_.1 40 57 ?_
  refine pd HT_.1 41 58 ?_
  refine pd HT_.1 42 59 ?_
  refine pd HT_.1 43 60 ?_
  refine pd HT_.1 44 61 ?_
  refine pd HT_.1 45 62 ?_
  refine pd HT_.1 46 63 ?_
  refine pd HT_.1 47 64 ?_
  refine pd HT_.1 48 65 ?_
  refine pd HT_.1 49 66 ?_
  refine pu HT_.1 50 67 ?_
  refine done_ (done_of HT_.1 (by kernel_rfl)) ?_
  try go_wp2
  go_ret
  exact ⟨per, pbg⟩
 by_cases c9 : (((rd_T48 l0 aa).f3) != ((rd_T48 l1 aa).f3)) = true
 ·rw [if_pos c9] at H
  have cU : (((rd_T48 l0 aa).f3) != ((rd_T48 l1 aa).f3)) = true := c9
  (try (have cV : decide (((rd_T48 l0 aa).f3) = ((rd_T48 l1 aa).f3)) = false := by simpa using c9))
  (try (have cW : (((rd_T48 l0 aa).f3) == ((rd_T48 l1 aa).f3)) = false := by simpa using c9))
  (try (have df : ¬ (((rd_T48 l0 aa).f3) = ((rd_T48 l1 aa).f3)) := by simpa using c9))
  clear c9
  obtain rfl := Option.some.inj H
  try go_wp2
  replace HB := am (below_drew1 HB.1)
  have bB : 0 ≤ (aa : Int) := dq
  have bD : aa < (l0.length : Int) := dq
  obtain ⟨ab, aA, aC, cb, ag, ah, ae, ai, aG, aE⟩ := at_T48 cv.1 aa bB bD
  have aV := ai
  have aU := ae
  have aT := ah
  have aS := ag
  cases cb
  replace ag := cbl HB.1 ag
  replace ah := cbl HB.1 ah
  replace ae := cbl HB.1 ae
  replace ai := cbl HB.1 ai
  have a4 := am aE
  have bZ := am aG
  clear aE aG
  replace bB := eq_true bB
  replace bD := eq_true bD
  have bC : 0 ≤ (aa : Int) := dq
  have bE : aa < (l1.length : Int) := dq
  obtain ⟨ac, aB, aD, cd, aj, ak, af, al, aH, aF⟩ := at_T48 cw.1 aa bC bE
  have aZ := al
  have aY := af
  have aX := ak
  have aW := aj
  cases cd
  replace aj := cbl HB.1 aj
  replace ak := cbl HB.1 ak
  replace af := cbl HB.1 af
  replace al := cbl HB.1 al
  have a5 := am aF
  have b0 := am aH
  clear aF aH
  replace bC := eq_true bC
  replace bE := eq_true bE
  have bF : 0 ≤ (aa : Int) := dq
  have bH : aa < (l0.length : Int) := dq
  obtain ⟨b1, cg, ci, ck, aq, ar, ao, au, aQ, aO⟩ := at_T48 cv.1 aa bF bH
  have a9 := au
  have a8 := ao
  have a7 := ar
  have a6 := aq
  obtain rfl : ab = b1 := (by injection ck)
  replace aq := cbl HB.1 aq
  replace ar := cbl HB.1 ar
  replace ao := cbl HB.1 ao
  replace au := cbl HB.1 au
  have bp := am aO
  have b7 := am aQ
  clear aO aQ
  replace bF := eq_true bF
  replace bH := eq_true bH
  have ea_ := Option.some.inj (ae.symm.trans ao)
  injection ea_ with ea_ en_ ec_
  subst ea_
  subst ec_
  clear en_
  have bG : 0 ≤ (aa : Int) := dq
  have bI : aa < (l1.length : Int) := dq
  obtain ⟨b2, ch, cj, cm, av, aw, ap, ax, aR, aP⟩ := at_T48 cw.1 aa bG bI
  have bd := ax
  have bc := ap
  have bb := aw
  have ba := av
  obtain rfl : ac = b2 := (by injection cm)
  replace av := cbl HB.1 av
  replace aw := cbl HB.1 aw
  replace ap := cbl HB.1 ap
  replace ax := cbl HB.1 ax
  have bq := am aP
  have b8 := am aR
  clear aP aR
  replace bG := eq_true bG
  replace bI := eq_true bI
  have ea_ := Option.some.inj (af.symm.trans ap)
  injection ea_ with ea_ en_ ec_
  subst ea_
  subst ec_
  clear en_
  have b3 : 0 ≤ (aa : Int) := dq
  have b5 : aa < (l0.length : Int) := dq
  obtain ⟨ce, cx, cB, cD, aI, aJ, ay, aK, bn, bl⟩ := at_T48 cv.1 aa b3 b5
  have bv := aK
  have bu := ay
  have bs := aJ
  have br := aI
  obtain rfl : ab = ce := (by injection cD)
  replace aI := cbl HB.1 aI
  replace aJ := cbl HB.1 aJ
  replace ay := cbl HB.1 ay
  replace aK := cbl HB.1 aK
  have bJ := am bl
  have cr := am bn
  clear bl bn
  replace b3 := eq_true b3
  replace b5 := eq_true b5
  have ea_ := Option.some.inj (ae.symm.trans ay)
  injection ea_ with ea_ en_ ec_
  subst ea_
  subst ec_
  clear en_
  have b4 : 0 ≤ (aa : Int) := dq
  have b6 : aa < (l1.length : Int) := dq
  obtain ⟨cf, cy, cC, cE, aL, aM, az, aN, bo, bm⟩ := at_T48 cw.1 aa b4 b6
  have bA := aN
  have bz := az
  have bx := aM
  have bw := aL
  obtain rfl : ac = cf := (by injection cE)
  replace aL := cbl HB.1 aL
  replace aM := cbl HB.1 aM
  replace az := cbl HB.1 az
  replace aN := cbl HB.1 aN
  have bK := am bm
  have cu := am bo
  clear bm bo
  replace b4 := eq_true b4
  replace b6 := eq_true b6
  have ea_ := Option.some.inj (af.symm.trans az)
  injection ea_ with ea_ en_ ec_
  subst ea_
  subst ec_
  clear en_
  refine start_ (n := 51) (S := fun w' => w'.cell? (ab.add ((aa).toNat * 4)) = some (.int .i64 ((rd_T48 l0 aa).f0)) ∧ w'.cell? ⟨(ab.add ((aa).toNat * 4)).block, (ab.add ((aa).toNat * 4)).off + 1, none⟩ = some (.int .i64 ((rd_T48 l0 aa).f1)) ∧ w'.cell? ⟨(ab.add ((aa).toNat * 4)).block, (ab.add ((aa).toNat * 4)).off + 2, none⟩ = some (.slice aA ((rd_T48 l0 aa).f2).length aC) ∧ w'.cell? ⟨(ab.add ((aa).toNat * 4)).block, (ab.add ((aa).toNat * 4)).off + 3, none⟩ = some (.bool ((rd_T48 l0 aa).f3)) ∧ w'.cell? (ac.add ((aa).toNat * 4)) = some (.int .i64 ((rd_T48 l1 aa).f0)) ∧ w'.cell? ⟨(ac.add ((aa).toNat * 4)).block, (ac.add ((aa).toNat * 4)).off + 1, none⟩ = some (.int .i64 ((rd_T48 l1 aa).f1)) ∧ w'.cell? ⟨(ac.add ((aa).toNat * 4)).block, (ac.add ((aa).toNat * 4)).off + 2, none⟩ = some (.slice aB ((rd_T48 l1 aa).f2).length aD) ∧ w'.cell? ⟨(ac.add ((aa).toNat * 4)).block, (ac.add ((aa).toNat * 4)).off + 3, none⟩ = some (.bool ((rd_T48 l1 aa).f3)) ∧ w'.cell? (ab.add ((aa).toNat * 4)) = some (.int .i64 ((rd_T48 l0 aa).f0)) ∧ w'.cell? ⟨(ab.add ((aa).toNat * 4)).block, (ab.add ((aa).toNat * 4)).off + 1, none⟩ = some (.int .i64 ((rd_T48 l0 aa).f1)) ∧ w'.cell? ⟨(ab.add ((aa).toNat * 4)).block, (ab.add ((aa).toNat * 4)).off + 2, none⟩ = some (.slice aA ((rd_T48 l0 aa).f2).length aC) ∧ w'.cell? ⟨(ab.add ((aa).toNat * 4)).block, (ab.add ((aa).toNat * 4)).off + 3, none⟩ = some (.bool ((rd_T48 l0 aa).f3)) ∧ w'.cell? (ac.add ((aa).toNat * 4)) = some (.int .i64 ((rd_T48 l1 aa).f0)) ∧ w'.cell? ⟨(ac.add ((aa).toNat * 4)).block, (ac.add ((aa).toNat * 4)).off + 1, none⟩ = some (.int .i64 ((rd_T48 l1 aa).f1)) ∧ w'.cell? ⟨(ac.add ((aa).toNat * 4)).block, (ac.add ((aa).toNat * 4)).off + 2, none⟩ = some (.slice aB ((rd_T48 l1 aa).f2).length aD) ∧ w'.cell? ⟨(ac.add ((aa).toNat * 4)).block, (ac.add ((aa).toNat * 4)).off + 3, none⟩ = some (.bool ((rd_T48 l1 aa).f3)) ∧ w'.cell? (ab.add ((aa).toNat * 4)) = some (.int .i64 ((rd_T48 l0 aa).f0)) ∧ w'.cell? ⟨(ab.add ((aa).toNat * 4)).block, (ab.add ((aa).toNat * 4)).off + 1, none⟩ = some (.int .i64 ((rd_T48 l0 aa).f1)) ∧ w'.cell? ⟨(ab.add ((aa).toNat * 4)).block, (ab.add ((aa).toNat * 4)).off + 2, none⟩ = some (.slice aA ((rd_T48 l0 aa).f2).length aC) ∧ w'.cell? ⟨(ab.add ((aa).toNat * 4)).block, (ab.add ((aa).toNat * 4)).off + 3, none⟩ = some (.bool ((rd_T48 l0 aa).f3)) ∧ w'.cell? (ac.add ((aa).toNat * 4)) = some (.int .i64 ((rd_T48 l1 aa).f0)) ∧ w'.cell? ⟨(ac.add ((aa).toNat * 4)).block, (ac.add ((aa).toNat * 4)).off + 1, none⟩ = some (.int .i64 ((rd_T48 l1 aa).f1)) ∧ w'.cell? ⟨(ac.add ((aa).toNat * 4)).block, (ac.add ((aa).toNat * 4)).off + 2, none⟩ = some (.slice aB ((rd_T48 l1 aa).f2).length aD) ∧ w'.cell? ⟨(ac.add ((aa).toNat * 4)).block, (ac.add ((aa).toNat * 4)).off + 3, none⟩ = some (.bool ((rd_T48 l1 aa).f3))) (ds := []) #[false, false, false, false, false, false, false, false, false, false, false, false, false, false, false, false, false, false, false, false, false, false, false, false, false, false, false, false, false, false, false, false, false, false, false, false, false, false, false, false, false, false, false, false, false, false, false, false, false, false, false] (by kernel_rfl) rfl rfl ⟨(cbl HB.1 aS), (cbl HB.1 aT), (cbl HB.1 aU), (cbl HB.1 aV), (cbl HB.1 aW), (cbl HB.1 aX), (cbl HB.1 aY), (cbl HB.1 aZ), (cbl HB.1 a6), (cbl HB.1 a7), (cbl HB.1 a8), (cbl HB.1 a9), (cbl HB.1 ba), (cbl HB.1 bb), (cbl HB.1 bc), (cbl HB.1 bd), (cbl HB.1 br), (cbl HB.1 bs), (cbl HB.1 bu), (cbl HB.1 bv), (cbl HB.1 bw), (cbl HB.1 bx), (cbl HB.1 bz), (cbl HB.1 bA)⟩ (fun hHeld => ?_); refine with_tabW r22_Same.tab6 r22_Same.bits6 (fun HT_ HW_ => ?_)
  generalize wr.drew = di at HB a4 a5 bp bq bJ bK ag ah ae ai aj ak af al aq ar ao au av aw ap ax aI aJ ay aK aL aM az aN hHeld ⊢
  refine pu HT_.1 0 17 ?_
  refine pu HT_.1 1 18 ?_
  refine pu HT_.1 2 19 ?_
  refine pu HT_.1 3 20 ?_
  refine pu HT_.1 5 22 ?_
  refine pu HT_.1 6 23 ?_
  refine pu HT_.1 7 24 ?_
  refine pu HT_.1 8 25 ?_
  refine tk HT_.1 HW_.1 hHeld 4 21 ?_
  refine tk HT_.1 HW_.1 hHeld 9 26 ?_
  refine pu HT_.1 10 27 ?_
  refine pu HT_.1 11 28 ?_
  refine pu HT_.1 12 29 ?_
  refine pu HT_.1 13 30 ?_
  refine pu HT_.1 14 31 ?_
  refine pu HT_.1 15 32 ?_
  refine pu HT_.1 17 34 ?_
  refine pu HT_.1 18 35 ?_
  refine pu HT_.1 19 36 ?_
  refine pu HT_.1 20 37 ?_
  refine tk HT_.1 HW_.1 hHeld 16 33 ?_
  refine tk HT_.1 HW_.1 hHeld 21 38 ?_
  refine pu HT_.1 22 39 ?_
  refine pu HT_.1 23 40 ?_
  refine pu HT_.1 24 41 ?_
  refine pu HT_.1 25 42 ?_
  refine pu HT_.1 26 43 ?_
  refine pu HT_.1 27 44 ?_
  refine pu HT_.1 28 45 ?_
  refine pu HT_.1 30 47 ?_
  refine pu HT_.1 31 48 ?_
  refine pu HT_.1 32 49 ?_
  refine pu HT_.1 33 50 ?_
  refine tk HT_.1 HW_.1 hHeld 29 46 ?_
  refine tk HT_.1 HW_.1 hHeld 34 51 ?_
  refine pu HT_.1 35 52 ?_
  refine pu HT_.1 36 53 ?_
  refine pu HT_.1 37 54 ?_
  refine pd HT_.1 38 55 ?_
  refine pd HT_.1 39 56 ?_
  refine pd HT_.1 40 57 ?_
  refine pd HT_.1 41 58 ?_
  refine pd HT_.1 42 59 ?_
  refine pd HT_.1 43 60 ?_
  refine pd HT_.1 44 61 ?_
  refine pd HT_.1 45 62 ?_
  refine pd HT_.1 46 63 ?_
  refine pd HT_.1 47 64 ?_
  refine pd HT_.1 48 65 ?_
  refine pd HT_.1 49 66 ?_
  refine pu HT_.1 50 67 ?_
  refine done_ (done_of HT_.1 (by kernel_rfl)) ?_
  try go_wp2
  go_ret
  exact ⟨per, pbg⟩
 rw [if_neg c9] at H
 have cU : (((rd_T48 l0 aa).f3) != ((rd_T48 l1 aa).f3)) = false := by simpa using c9
 (try (have cV : decide (((rd_T48 l0 aa).f3) = ((rd_T48 l1 aa).f3)) = true := by simpa using c9))
 (try (have cW : (((rd_T48 l0 aa).f3) == ((rd_T48 l1 aa).f3)) = true := by simpa using c9))
 clear c9
 replace H := bnd H
 obtain ⟨cL, A11, H⟩ := H
 (try dsimp only at H)
 cases cL
 rotate_left
 ·rw [if_pos rfl] at H
  have H' := am H
  clear H
  try go_wp2
  replace HB := am (below_drew1 HB.1)
  have bB : 0 ≤ (aa : Int) := dq
  have bD : aa < (l0.length : Int) := dq
  obtain ⟨ab, aA, aC, cb, ag, ah, ae, ai, aG, aE⟩ := at_T48 cv.1 aa bB bD
  have aV := ai
  have aU := ae
  have aT := ah
  have aS := ag
  cases cb
  replace ag := cbl HB.1 ag
  replace ah := cbl HB.1 ah
  replace ae := cbl HB.1 ae
  replace ai := cbl HB.1 ai
  have a4 := am aE
  have bZ := am aG
  clear aE aG
  replace bB := eq_true bB
  replace bD := eq_true bD
  have bC : 0 ≤ (aa : Int) := dq
  have bE : aa < (l1.length : Int) := dq
  obtain ⟨ac, aB, aD, cd, aj, ak, af, al, aH, aF⟩ := at_T48 cw.1 aa bC bE
  have aZ := al
  have aY := af
  have aX := ak
  have aW := aj
  cases cd
  replace aj := cbl HB.1 aj
  replace ak := cbl HB.1 ak
  replace af := cbl HB.1 af
  replace al := cbl HB.1 al
  have a5 := am aF
  have b0 := am aH
  clear aF aH
  replace bC := eq_true bC
  replace bE := eq_true bE
  have bF : 0 ≤ (aa : Int) := dq
  have bH : aa < (l0.length : Int) := dq
  obtain ⟨b1, cg, ci, ck, aq, ar, ao, au, aQ, aO⟩ := at_T48 cv.1 aa bF bH
  have a9 := au
  have a8 := ao
  have a7 := ar
  have a6 := aq
  obtain rfl : ab = b1 := (by injection ck)
  replace aq := cbl HB.1 aq
  replace ar := cbl HB.1 ar
  replace ao := cbl HB.1 ao
  replace au := cbl HB.1 au
  have bp := am aO
  have b7 := am aQ
  clear aO aQ
  replace bF := eq_true bF
  replace bH := eq_true bH
  have ea_ := Option.some.inj (ae.symm.trans ao)
  injection ea_ with ea_ en_ ec_
  subst ea_
  subst ec_
  clear en_
  have bG : 0 ≤ (aa : Int) := dq
  have bI : aa < (l1.length : Int) := dq
  obtain ⟨b2, ch, cj, cm, av, aw, ap, ax, aR, aP⟩ := at_T48 cw.1 aa bG bI
  have bd := ax
  have bc := ap
  have bb := aw
  have ba := av
  obtain rfl : ac = b2 := (by injection cm)
  replace av := cbl HB.1 av
  replace aw := cbl HB.1 aw
  replace ap := cbl HB.1 ap
  replace ax := cbl HB.1 ax
  have bq := am aP
  have b8 := am aR
  clear aP aR
  replace bG := eq_true bG
  replace bI := eq_true bI
  have ea_ := Option.some.inj (af.symm.trans ap)
  injection ea_ with ea_ en_ ec_
  subst ea_
  subst ec_
  clear en_
  have b3 : 0 ≤ (aa : Int) := dq
  have b5 : aa < (l0.length : Int) := dq
  obtain ⟨ce, cx, cB, cD, aI, aJ, ay, aK, bn, bl⟩ := at_T48 cv.1 aa b3 b5
  have bv := aK
  have bu := ay
  have bs := aJ
  have br := aI
  obtain rfl : ab = ce := (by injection cD)
  replace aI := cbl HB.1 aI
  replace aJ := cbl HB.1 aJ
  replace ay := cbl HB.1 ay
  replace aK := cbl HB.1 aK
  have bJ := am bl
  have cr := am bn
  clear bl bn
  replace b3 := eq_true b3
  replace b5 := eq_true b5
  have ea_ := Option.some.inj (ae.symm.trans ay)
  injection ea_ with ea_ en_ ec_
  subst ea_
  subst ec_
  clear en_
  have b4 : 0 ≤ (aa : Int) := dq
  have b6 : aa < (l1.length : Int) := dq
  obtain ⟨cf, cy, cC, cE, aL, aM, az, aN, bo, bm⟩ := at_T48 cw.1 aa b4 b6
  have bA := aN
  have bz := az
  have bx := aM
  have bw := aL
  obtain rfl : ac = cf := (by injection cE)
  replace aL := cbl HB.1 aL
  replace aM := cbl HB.1 aM
  replace az := cbl HB.1 az
  replace aN := cbl HB.1 aN
  have bK := am bm
  have cu := am bo
  clear bm bo
  replace b4 := eq_true b4
  replace b6 := eq_true b6
  have ea_ := Option.some.inj (af.symm.trans az)
  injection ea_ with ea_ en_ ec_
  subst ea_
  subst ec_
  clear en_
  have cn : 0 ≤ (aa : Int) := dq
  have cp : aa < (l0.length : Int) := dq
  obtain ⟨cz, cF, cH, cJ, bf, bg, a2, bh, bP, bN⟩ := at_T48 cv.1 aa cn cp
  have bU := bh
  have bT := a2
  have bS := bg
  have bR := bf
  obtain rfl : ab = cz := (by injection cJ)
  replace bf := cbl HB.1 bf
  replace bg := cbl HB.1 bg
  replace a2 := cbl HB.1 a2
  replace bh := cbl HB.1 bh
  have bL := am bN
  have b9 := am bP
  clear bN bP
  replace cn := eq_true cn
  replace cp := eq_true cp
  have ea_ := Option.some.inj (ae.symm.trans a2)
  injection ea_ with ea_ en_ ec_
  subst ea_
  subst ec_
  clear en_
  have co : 0 ≤ (aa : Int) := dq
  have cq : aa < (l1.length : Int) := dq
  obtain ⟨cA, cG, cI, cK, bi, bj, a3, bk, bQ, bO⟩ := at_T48 cw.1 aa co cq
  have bY := bk
  have bX := a3
  have bW := bj
  have bV := bi
  obtain rfl : ac = cA := (by injection cK)
  replace bi := cbl HB.1 bi
  replace bj := cbl HB.1 bj
  replace a3 := cbl HB.1 a3
  replace bk := cbl HB.1 bk
  have bM := am bO
  have ca := am bQ
  clear bO bQ
  replace co := eq_true co
  replace cq := eq_true cq
  have ea_ := Option.some.inj (af.symm.trans a3)
  injection ea_ with ea_ en_ ec_
  subst ea_
  subst ec_
  clear en_
  refine start_ (n := 51) (S := fun w' => w'.cell? (ab.add ((aa).toNat * 4)) = some (.int .i64 ((rd_T48 l0 aa).f0)) ∧ w'.cell? ⟨(ab.add ((aa).toNat * 4)).block, (ab.add ((aa).toNat * 4)).off + 1, none⟩ = some (.int .i64 ((rd_T48 l0 aa).f1)) ∧ w'.cell? ⟨(ab.add ((aa).toNat * 4)).block, (ab.add ((aa).toNat * 4)).off + 2, none⟩ = some (.slice aA ((rd_T48 l0 aa).f2).length aC) ∧ w'.cell? ⟨(ab.add ((aa).toNat * 4)).block, (ab.add ((aa).toNat * 4)).off + 3, none⟩ = some (.bool ((rd_T48 l0 aa).f3)) ∧ w'.cell? (ac.add ((aa).toNat * 4)) = some (.int .i64 ((rd_T48 l1 aa).f0)) ∧ w'.cell? ⟨(ac.add ((aa).toNat * 4)).block, (ac.add ((aa).toNat * 4)).off + 1, none⟩ = some (.int .i64 ((rd_T48 l1 aa).f1)) ∧ w'.cell? ⟨(ac.add ((aa).toNat * 4)).block, (ac.add ((aa).toNat * 4)).off + 2, none⟩ = some (.slice aB ((rd_T48 l1 aa).f2).length aD) ∧ w'.cell? ⟨(ac.add ((aa).toNat * 4)).block, (ac.add ((aa).toNat * 4)).off + 3, none⟩ = some (.bool ((rd_T48 l1 aa).f3)) ∧ w'.cell? (ab.add ((aa).toNat * 4)) = some (.int .i64 ((rd_T48 l0 aa).f0)) ∧ w'.cell? ⟨(ab.add ((aa).toNat * 4)).block, (ab.add ((aa).toNat * 4)).off + 1, none⟩ = some (.int .i64 ((rd_T48 l0 aa).f1)) ∧ w'.cell? ⟨(ab.add ((aa).toNat * 4)).block, (ab.add ((aa).toNat * 4)).off + 2, none⟩ = some (.slice aA ((rd_T48 l0 aa).f2).length aC) ∧ w'.cell? ⟨(ab.add ((aa).toNat * 4)).block, (ab.add ((aa).toNat * 4)).off + 3, none⟩ = some (.bool ((rd_T48 l0 aa).f3)) ∧ w'.cell? (ac.add ((aa).toNat * 4)) = some (.int .i64 ((rd_T48 l1 aa).f0)) ∧ w'.cell? ⟨(ac.add ((aa).toNat * 4)).block, (ac.add ((aa).toNat * 4)).off + 1, none⟩ = some (.int .i64 ((rd_T48 l1 aa).f1)) ∧ w'.cell? ⟨(ac.add ((aa).toNat * 4)).block, (ac.add ((aa).toNat * 4)).off + 2, none⟩ = some (.slice aB ((rd_T48 l1 aa).f2).length aD) ∧ w'.cell? ⟨(ac.add ((aa).toNat * 4)).block, (ac.add ((aa).toNat * 4)).off + 3, none⟩ = some (.bool ((rd_T48 l1 aa).f3)) ∧ w'.cell? (ab.add ((aa).toNat * 4)) = some (.int .i64 ((rd_T48 l0 aa).f0)) ∧ w'.cell? ⟨(ab.add ((aa).toNat * 4)).block, (ab.add ((aa).toNat * 4)).off + 1, none⟩ = some (.int .i64 ((rd_T48 l0 aa).f1)) ∧ w'.cell? ⟨(ab.add ((aa).toNat * 4)).block, (ab.add ((aa).toNat * 4)).off + 2, none⟩ = some (.slice aA ((rd_T48 l0 aa).f2).length aC) ∧ w'.cell? ⟨(ab.add ((aa).toNat * 4)).block, (ab.add ((aa).toNat * 4)).off + 3, none⟩ = some (.bool ((rd_T48 l0 aa).f3)) ∧ w'.cell? (ac.add ((aa).toNat * 4)) = some (.int .i64 ((rd_T48 l1 aa).f0)) ∧ w'.cell? ⟨(ac.add ((aa).toNat * 4)).block, (ac.add ((aa).toNat * 4)).off + 1, none⟩ = some (.int .i64 ((rd_T48 l1 aa).f1)) ∧ w'.cell? ⟨(ac.add ((aa).toNat * 4)).block, (ac.add ((aa).toNat * 4)).off + 2, none⟩ = some (.slice aB ((rd_T48 l1 aa).f2).length aD) ∧ w'.cell? ⟨(ac.add ((aa).toNat * 4)).block, (ac.add ((aa).toNat * 4)).off + 3, none⟩ = some (.bool ((rd_T48 l1 aa).f3)) ∧ w'.cell? (ab.add ((aa).toNat * 4)) = some (.int .i64 ((rd_T48 l0 aa).f0)) ∧ w'.cell? ⟨(ab.add ((aa).toNat * 4)).block, (ab.add ((aa).toNat * 4)).off + 1, none⟩ = some (.int .i64 ((rd_T48 l0 aa).f1)) ∧ w'.cell? ⟨(ab.add ((aa).toNat * 4)).block, (ab.add ((aa).toNat * 4)).off + 2, none⟩ = some (.slice aA ((rd_T48 l0 aa).f2).length aC) ∧ w'.cell? ⟨(ab.add ((aa).toNat * 4)).block, (ab.add ((aa).toNat * 4)).off + 3, none⟩ = some (.bool ((rd_T48 l0 aa).f3)) ∧ w'.cell? (ac.add ((aa).toNat * 4)) = some (.int .i64 ((rd_T48 l1 aa).f0)) ∧ w'.cell? ⟨(ac.add ((aa).toNat * 4)).block, (ac.add ((aa).toNat * 4)).off + 1, none⟩ = some (.int .i64 ((rd_T48 l1 aa).f1)) ∧ w'.cell? ⟨(ac.add ((aa).toNat * 4)).block, (ac.add ((aa).toNat * 4)).off + 2, none⟩ = some (.slice aB ((rd_T48 l1 aa).f2).length aD) ∧ w'.cell? ⟨(ac.add ((aa).toNat * 4)).block, (ac.add ((aa).toNat * 4)).off + 3, none⟩ = some (.bool ((rd_T48 l1 aa).f3))) (ds := []) #[false, false, false, false, false, false, false, false, false, false, false, false, false, false, false, false, false, false, false, false, false, false, false, false, false, false, false, false, false, false, false, false, false, false, false, false, false, false, false, false, false, false, false, false, false, false, false, false, false, false, false] (by kernel_rfl) rfl rfl ⟨(cbl HB.1 aS), (cbl HB.1 aT), (cbl HB.1 aU), (cbl HB.1 aV), (cbl HB.1 aW), (cbl HB.1 aX), (cbl HB.1 aY), (cbl HB.1 aZ), (cbl HB.1 a6), (cbl HB.1 a7), (cbl HB.1 a8), (cbl HB.1 a9), (cbl HB.1 ba), (cbl HB.1 bb), (cbl HB.1 bc), (cbl HB.1 bd), (cbl HB.1 br), (cbl HB.1 bs), (cbl HB.1 bu), (cbl HB.1 bv), (cbl HB.1 bw), (cbl HB.1 bx), (cbl HB.1 bz), (cbl HB.1 bA), (cbl HB.1 bR), (cbl HB.1 bS), (cbl HB.1 bT), (cbl HB.1 bU), (cbl HB.1 bV), (cbl HB.1 bW), (cbl HB.1 bX), (cbl HB.1 bY)⟩ (fun hHeld => ?_); refine with_tabW r22_Same.tab6 r22_Same.bits6 (fun HT_ HW_ => ?_)
  generalize wr.drew = dj at HB a4 a5 bp bq bJ bK bL bM ag ah ae ai aj ak af al aq ar ao au av aw ap ax aI aJ ay aK aL aM az aN bf bg a2 bh bi bj a3 bk hHeld ⊢
  refine pu HT_.1 0 17 ?_
  refine pu HT_.1 1 18 ?_
  refine pu HT_.1 2 19 ?_
  refine pu HT_.1 3 20 ?_
  refine pu HT_.1 5 22 ?_
  refine pu HT_.1 6 23 ?_
  refine pu HT_.1 7 24 ?_
  refine pu HT_.1 8 25 ?_
  refine tk HT_.1 HW_.1 hHeld 4 21 ?_
  refine tk HT_.1 HW_.1 hHeld 9 26 ?_
  refine pu HT_.1 10 27 ?_
  refine pu HT_.1 11 28 ?_
  refine pu HT_.1 12 29 ?_
  refine pu HT_.1 13 30 ?_
  refine pu HT_.1 14 31 ?_
  refine pu HT_.1 15 32 ?_
  refine pu HT_.1 17 34 ?_
  refine pu HT_.1 18 35 ?_
  refine pu HT_.1 19 36 ?_
  refine pu HT_.1 20 37 ?_
  refine tk HT_.1 HW_.1 hHeld 16 33 ?_
  refine tk HT_.1 HW_.1 hHeld 21 38 ?_
  refine pu HT_.1 22 39 ?_
  refine pu HT_.1 23 40 ?_
  refine pu HT_.1 24 41 ?_
  refine pu HT_.1 25 42 ?_
  refine pu HT_.1 26 43 ?_
  refine pu HT_.1 27 44 ?_
  refine pu HT_.1 28 45 ?_
  refine pu HT_.1 30 47 ?_
  refine pu HT_.1 31 48 ?_
  refine pu HT_.1 32 49 ?_
  refine pu HT_.1 33 50 ?_
  refine tk HT_.1 HW_.1 hHeld 29 46 ?_
  refine tk HT_.1 HW_.1 hHeld 34 51 ?_
  refine pu HT_.1 35 52 ?_
  refine pu HT_.1 36 53 ?_
  refine pu HT_.1 37 54 ?_
  refine pu HT_.1 38 55 ?_
  refine pu HT_.1 39 56 ?_
  refine pu HT_.1 40 57 ?_
  refine pu HT_.1 41 58 ?_
  refine pu HT_.1 43 60 ?_
  refine pu HT_.1 44 61 ?_
  refine pu HT_.1 45 62 ?_
  refine pu HT_.1 46 63 ?_
  refine tk HT_.1 HW_.1 hHeld 42 59 ?_
  refine tk HT_.1 HW_.1 hHeld 47 64 ?_
  refine on HT_.1 48 (some 65) rfl fun K hK => ?_
  refine goes_ Try.func14 (by kernel_rfl) rfl #[.slice aA ((rd_T48 l0 aa).f2).length aC, .slice aB ((rd_T48 l1 aa).f2).length aD] (by rfl) rfl rfl pgz ?_
  with_reducible refine (r04_Same.calls k1 _ _ ((rd_T48 l0 aa).f2) _ _ ((rd_T48 l1 aa).f2) true _ ?side1 ?side2 ?side3 ?side4 A11.1).mono ?_
  (case side1 => exact csb bL HB)
  (case side2 => exact b9.1)
  (case side3 => exact csb bM HB)
  (case side4 => exact ca.1)
  rintro e w' ⟨rfl, ⟨nd, rfl⟩⟩
  refine ⟨_, rfl, ?_⟩
  refine hK.out _ _ ⟨(cbl HB.1 aS), (cbl HB.1 aT), (cbl HB.1 aU), (cbl HB.1 aV), (cbl HB.1 aW), (cbl HB.1 aX), (cbl HB.1 aY), (cbl HB.1 aZ), (cbl HB.1 a6), (cbl HB.1 a7), (cbl HB.1 a8), (cbl HB.1 a9), (cbl HB.1 ba), (cbl HB.1 bb), (cbl HB.1 bc), (cbl HB.1 bd), (cbl HB.1 br), (cbl HB.1 bs), (cbl HB.1 bu), (cbl HB.1 bv), (cbl HB.1 bw), (cbl HB.1 bx), (cbl HB.1 bz), (cbl HB.1 bA), (cbl HB.1 bR), (cbl HB.1 bS), (cbl HB.1 bT), (cbl HB.1 bU), (cbl HB.1 bV), (cbl HB.1 bW), (cbl HB.1 bX), (cbl HB.1 bY)⟩ (fun hHeld => ?_)
  clear hK K
  refine nm_ 65 ?_
  refine pu HT_.1 49 66 ?_
  refine pu HT_.1 50 67 ?_
  refine done_ (done_of HT_.1 (by kernel_rfl)) ?_
  try go_wp2
  go_roundg k1
  case measure => have := cY.1; omega
  case rel => exact ⟨(wrap64 (aa + 1)), prs, H', ⟨by have := cY.1; omega⟩, ⟨pbg⟩⟩
 rw [if_neg Bool.false_ne_true] at H
 obtain rfl := Option.some.inj H
 try go_wp2
 replace HB := am (below_drew1 HB.1)
 have bB : 0 ≤ (aa : Int) := dq
 have bD : aa < (l0.length : Int) := dq
 obtain ⟨ab, aA, aC, cb, ag, ah, ae, ai, aG, aE⟩ := at_T48 cv.1 aa bB bD
 have aV := ai
 have aU := ae
 have aT := ah
 have aS := ag
 cases cb
 replace ag := cbl HB.1 ag
 replace ah := cbl HB.1 ah
 replace ae := cbl HB.1 ae
 replace ai := cbl HB.1 ai
 have a4 := am aE
 have bZ := am aG
 clear aE aG
 replace bB := eq_true bB
 replace bD := eq_true bD
 have bC : 0 ≤ (aa : Int) := dq
 have bE : aa < (l1.length : Int) := dq
 obtain ⟨ac, aB, aD, cd, aj, ak, af, al, aH, aF⟩ := at_T48 cw.1 aa bC bE
 have aZ := al
 have aY := af
 have aX := ak
 have aW := aj
 cases cd
 replace aj := cbl HB.1 aj
 replace ak := cbl HB.1 ak
 replace af := cbl HB.1 af
 replace al := cbl HB.1 al
 have a5 := am aF
 have b0 := am aH
 clear aF aH
 replace bC := eq_true bC
 replace bE := eq_true bE
 have bF : 0 ≤ (aa : Int) := dq
 have bH : aa < (l0.length : Int) := dq
 obtain ⟨b1, cg, ci, ck, aq, ar, ao, au, aQ, aO⟩ := at_T48 cv.1 aa bF bH
 have a9 := au
 have a8 := ao
 have a7 := ar
 have a6 := aq
 obtain rfl : ab = b1 := (by injection ck)
 replace aq := cbl HB.1 aq
 replace ar := cbl HB.1 ar
 replace ao := cbl HB.1 ao
 replace au := cbl HB.1 au
 have bp := am aO
 have b7 := am aQ
 clear aO aQ
 replace bF := eq_true bF
 replace bH := eq_true bH
 have ea_ := Option.some.inj (ae.symm.trans ao)
 injection ea_ with ea_ en_ ec_
 subst ea_
 subst ec_
 clear en_
 have bG : 0 ≤ (aa : Int) := dq
 have bI : aa < (l1.length : Int) := dq
 obtain ⟨b2, ch, cj, cm, av, aw, ap, ax, aR, aP⟩ := at_T48 cw.1 aa bG bI
 have bd := ax
 have bc := ap
 have bb := aw
 have ba := av
 obtain rfl : ac = b2 := (by injection cm)
 replace av := cbl HB.1 av
 replace aw := cbl HB.1 aw
 replace ap := cbl HB.1 ap
 replace ax := cbl HB.1 ax
 have bq := am aP
 have b8 := am aR
 clear aP aR
 replace bG := eq_true bG
 replace bI := eq_true bI
 have ea_ := Option.some.inj (af.symm.trans ap)
 injection ea_ with ea_ en_ ec_
 subst ea_
 subst ec_
 clear en_
 have b3 : 0 ≤ (aa : Int) := dq
 have b5 : aa < (l0.length : Int) := dq
 obtain ⟨ce, cx, cB, cD, aI, aJ, ay, aK, bn, bl⟩ := at_T48 cv.1 aa b3 b5
 have bv := aK
 have bu := ay
 have bs := aJ
 have br := aI
 obtain rfl : ab = ce := (by injection cD)
 replace aI := cbl HB.1 aI
 replace aJ := cbl HB.1 aJ
 replace ay := cbl HB.1 ay
 replace aK := cbl HB.1 aK
 have bJ := am bl
 have cr := am bn
 clear bl bn
 replace b3 := eq_true b3
 replace b5 := eq_true b5
 have ea_ := Option.some.inj (ae.symm.trans ay)
 injection ea_ with ea_ en_ ec_
 subst ea_
 subst ec_
 clear en_
 have b4 : 0 ≤ (aa : Int) := dq
 have b6 : aa < (l1.length : Int) := dq
 obtain ⟨cf, cy, cC, cE, aL, aM, az, aN, bo, bm⟩ := at_T48 cw.1 aa b4 b6
 have bA := aN
 have bz := az
 have bx := aM
 have bw := aL
 obtain rfl : ac = cf := (by injection cE)
 replace aL := cbl HB.1 aL
 replace aM := cbl HB.1 aM
 replace az := cbl HB.1 az
 replace aN := cbl HB.1 aN
 have bK := am bm
 have cu := am bo
 clear bm bo
 replace b4 := eq_true b4
 replace b6 := eq_true b6
 have ea_ := Option.some.inj (af.symm.trans az)
 injection ea_ with ea_ en_ ec_
 subst ea_
 subst ec_
 clear en_
 have cn : 0 ≤ (aa : Int) := dq
 have cp : aa < (l0.length : Int) := dq
 obtain ⟨cz, cF, cH, cJ, bf, bg, a2, bh, bP, bN⟩ := at_T48 cv.1 aa cn cp
 have bU := bh
 have bT := a2
 have bS := bg
 have bR := bf
 obtain rfl : ab = cz := (by injection cJ)
 replace bf := cbl HB.1 bf
 replace bg := cbl HB.1 bg
 replace a2 := cbl HB.1 a2
 replace bh := cbl HB.1 bh
 have bL := am bN
 have b9 := am bP
 clear bN bP
 replace cn := eq_true cn
 replace cp := eq_true cp
 have ea_ := Option.some.inj (ae.symm.trans a2)
 injection ea_ with ea_ en_ ec_
 subst ea_
 subst ec_
 clear en_
 have co : 0 ≤ (aa : Int) := dq
 have cq : aa < (l1.length : Int) := dq
 obtain ⟨cA, cG, cI, cK, bi, bj, a3, bk, bQ, bO⟩ := at_T48 cw.1 aa co cq
 have bY := bk
 have bX := a3
 have bW := bj
 have bV := bi
 obtain rfl : ac = cA := (by injection cK)
 replace bi := cbl HB.1 bi
 replace bj := cbl HB.1 bj
 replace a3 := cbl HB.1 a3
 replace bk := cbl HB.1 bk
 have bM := am bO
 have ca := am bQ
 clear bO bQ
 replace co := eq_true co
 replace cq := eq_true cq
 have ea_ := Option.some.inj (af.symm.trans a3)
 injection ea_ with ea_ en_ ec_
 subst ea_
 subst ec_
 clear en_
 refine start_ (n := 51) (S := fun w' => w'.cell? (ab.add ((aa).toNat * 4)) = some (.int .i64 ((rd_T48 l0 aa).f0)) ∧ w'.cell? ⟨(ab.add ((aa).toNat * 4)).block, (ab.add ((aa).toNat * 4)).off + 1, none⟩ = some (.int .i64 ((rd_T48 l0 aa).f1)) ∧ w'.cell? ⟨(ab.add ((aa).toNat * 4)).block, (ab.add ((aa).toNat * 4)).off + 2, none⟩ = some (.slice aA ((rd_T48 l0 aa).f2).length aC) ∧ w'.cell? ⟨(ab.add ((aa).toNat * 4)).block, (ab.add ((aa).toNat * 4)).off + 3, none⟩ = some (.bool ((rd_T48 l0 aa).f3)) ∧ w'.cell? (ac.add ((aa).toNat * 4)) = some (.int .i64 ((rd_T48 l1 aa).f0)) ∧ w'.cell? ⟨(ac.add ((aa).toNat * 4)).block, (ac.add ((aa).toNat * 4)).off + 1, none⟩ = some (.int .i64 ((rd_T48 l1 aa).f1)) ∧ w'.cell? ⟨(ac.add ((aa).toNat * 4)).block, (ac.add ((aa).toNat * 4)).off + 2, none⟩ = some (.slice aB ((rd_T48 l1 aa).f2).length aD) ∧ w'.cell? ⟨(ac.add ((aa).toNat * 4)).block, (ac.add ((aa).toNat * 4)).off + 3, none⟩ = some (.bool ((rd_T48 l1 aa).f3)) ∧ w'.cell? (ab.add ((aa).toNat * 4)) = some (.int .i64 ((rd_T48 l0 aa).f0)) ∧ w'.cell? ⟨(ab.add ((aa).toNat * 4)).block, (ab.add ((aa).toNat * 4)).off + 1, none⟩ = some (.int .i64 ((rd_T48 l0 aa).f1)) ∧ w'.cell? ⟨(ab.add ((aa).toNat * 4)).block, (ab.add ((aa).toNat * 4)).off + 2, none⟩ = some (.slice aA ((rd_T48 l0 aa).f2).length aC) ∧ w'.cell? ⟨(ab.add ((aa).toNat * 4)).block, (ab.add ((aa).toNat * 4)).off + 3, none⟩ = some (.bool ((rd_T48 l0 aa).f3)) ∧ w'.cell? (ac.add ((aa).toNat * 4)) = some (.int .i64 ((rd_T48 l1 aa).f0)) ∧ w'.cell? ⟨(ac.add ((aa).toNat * 4)).block, (ac.add ((aa).toNat * 4)).off + 1, none⟩ = some (.int .i64 ((rd_T48 l1 aa).f1)) ∧ w'.cell? ⟨(ac.add ((aa).toNat * 4)).block, (ac.add ((aa).toNat * 4)).off + 2, none⟩ = some (.slice aB ((rd_T48 l1 aa).f2).length aD) ∧ w'.cell? ⟨(ac.add ((aa).toNat * 4)).block, (ac.add ((aa).toNat * 4)).off + 3, none⟩ = some (.bool ((rd_T48 l1 aa).f3)) ∧ w'.cell? (ab.add ((aa).toNat * 4)) = some (.int .i64 ((rd_T48 l0 aa).f0)) ∧ w'.cell? ⟨(ab.add ((aa).toNat * 4)).block, (ab.add ((aa).toNat * 4)).off + 1, none⟩ = some (.int .i64 ((rd_T48 l0 aa).f1)) ∧ w'.cell? ⟨(ab.add ((aa).toNat * 4)).block, (ab.add ((aa).toNat * 4)).off + 2, none⟩ = some (.slice aA ((rd_T48 l0 aa).f2).length aC) ∧ w'.cell? ⟨(ab.add ((aa).toNat * 4)).block, (ab.add ((aa).toNat * 4)).off + 3, none⟩ = some (.bool ((rd_T48 l0 aa).f3)) ∧ w'.cell? (ac.add ((aa).toNat * 4)) = some (.int .i64 ((rd_T48 l1 aa).f0)) ∧ w'.cell? ⟨(ac.add ((aa).toNat * 4)).block, (ac.add ((aa).toNat * 4)).off + 1, none⟩ = some (.int .i64 ((rd_T48 l1 aa).f1)) ∧ w'.cell? ⟨(ac.add ((aa).toNat * 4)).block, (ac.add ((aa).toNat * 4)).off + 2, none⟩ = some (.slice aB ((rd_T48 l1 aa).f2).length aD) ∧ w'.cell? ⟨(ac.add ((aa).toNat * 4)).block, (ac.add ((aa).toNat * 4)).off + 3, none⟩ = some (.bool ((rd_T48 l1 aa).f3)) ∧ w'.cell? (ab.add ((aa).toNat * 4)) = some (.int .i64 ((rd_T48 l0 aa).f0)) ∧ w'.cell? ⟨(ab.add ((aa).toNat * 4)).block, (ab.add ((aa).toNat * 4)).off + 1, none⟩ = some (.int .i64 ((rd_T48 l0 aa).f1)) ∧ w'.cell? ⟨(ab.add ((aa).toNat * 4)).block, (ab.add ((aa).toNat * 4)).off + 2, none⟩ = some (.slice aA ((rd_T48 l0 aa).f2).length aC) ∧ w'.cell? ⟨(ab.add ((aa).toNat * 4)).block, (ab.add ((aa).toNat * 4)).off + 3, none⟩ = some (.bool ((rd_T48 l0 aa).f3)) ∧ w'.cell? (ac.add ((aa).toNat * 4)) = some (.int .i64 ((rd_T48 l1 aa).f0)) ∧ w'.cell? ⟨(ac.add ((aa).toNat * 4)).block, (ac.add ((aa).toNat * 4)).off + 1, none⟩ = some (.int .i64 ((rd_T48 l1 aa).f1)) ∧ w'.cell? ⟨(ac.add ((aa).toNat * 4)).block, (ac.add ((aa).toNat * 4)).off + 2, none⟩ = some (.slice aB ((rd_T48 l1 aa).f2).length aD) ∧ w'.cell? ⟨(ac.add ((aa).toNat * 4)).block, (ac.add ((aa).toNat * 4)).off + 3, none⟩ = some (.bool ((rd_T48 l1 aa).f3))) (ds := []) #[false, false, false, false, false, false, false, false, false, false, false, false, false, false, false, false, false, false, false, false, false, false, false, false, false, false, false, false, false, false, false, false, false, false, false, false, false, false, false, false, false, false, false, false, false, false, false, false, false, false, false] (by kernel_rfl) rfl rfl ⟨(cbl HB.1 aS), (cbl HB.1 aT), (cbl HB.1 aU), (cbl HB.1 aV), (cbl HB.1 aW), (cbl HB.1 aX), (cbl HB.1 aY), (cbl HB.1 aZ), (cbl HB.1 a6), (cbl HB.1 a7), (cbl HB.1 a8), (cbl HB.1 a9), (cbl HB.1 ba), (cbl HB.1 bb), (cbl HB.1 bc), (cbl HB.1 bd), (cbl HB.1 br), (cbl HB.1 bs), (cbl HB.1 bu), (cbl HB.1 bv), (cbl HB.1 bw), (cbl HB.1 bx), (cbl HB.1 bz), (cbl HB.1 bA), (cbl HB.1 bR), (cbl HB.1 bS), (cbl HB.1 bT), (cbl HB.1 bU), (cbl HB.1 bV), (cbl HB.1 bW), (cbl HB.1 bX), (cbl HB.1 bY)⟩ (fun hHeld => ?_); refine with_tabW r22_Same.tab6 r22_Same.bits6 (fun HT_ HW_ => ?_)
 generalize wr.drew = dk at HB a4 a5 bp bq bJ bK bL bM ag ah ae ai aj ak af al aq ar ao au av aw ap ax aI aJ ay aK aL aM az aN bf bg a2 bh bi bj a3 bk hHeld ⊢
 refine pu HT_.1 0 17 ?_
 refine pu HT_.1 1 18 ?_
 refine pu HT_.1 2 19 ?_
 refine pu HT_.1 3 20 ?_
 refine pu HT_.1 5 22 ?_
 refine pu HT_.1 6 23 ?_
 refine pu HT_.1 7 24 ?_
 refine pu HT_.1 8 25 ?_
 refine tk HT_.1 HW_.1 hHeld 4 21 ?_
 refine tk HT_.1 HW_.1 hHeld 9 26 ?_
 refine pu HT_.1 10 27 ?_
 refine pu HT_.1 11 28 ?_
 refine pu HT_.1 12 29 ?_
 refine pu HT_.1 13 30 ?_
 refine pu HT_.1 14 31 ?_
 refine pu HT_.1 15 32 ?_
 refine pu HT_.1 17 34 ?_
 refine pu HT_.1 18 35 ?_
 refine pu HT_.1 19 36 ?_
 refine pu HT_.1 20 37 ?_
 refine tk HT_.1 HW_.1 hHeld 16 33 ?_
 refine tk HT_.1 HW_.1 hHeld 21 38 ?_
 refine pu HT_.1 22 39 ?_
 refine pu HT_.1 23 40 ?_
 refine pu HT_.1 24 41 ?_
 refine pu HT_.1 25 42 ?_
 refine pu HT_.1 26 43 ?_
 refine pu HT_.1 27 44 ?_
 refine pu HT_.1 28 45 ?_
 refine pu HT_.1 30 47 ?_
 refine pu HT_.1 31 48 ?_
 refine pu HT_.1 32 49 ?_
 refine pu HT_.1 33 50 ?_
 refine tk HT_.1 HW_.1 hHeld 29 46 ?_
 refine tk HT_.1 HW_.1 hHeld 34 51 ?_
 refine pu HT_.1 35 52 ?_
 refine pu HT_.1 36 53 ?_
 refine pu HT_.1 37 54 ?_
 refine pu HT_.1 38 55 ?_
 refine pu HT_.1 39 56 ?_
 refine pu HT_.1 40 57 ?_
 refine pu HT_.1 41 58 ?_
 refine pu HT_.1 43 60 ?_
 refine pu HT_.1 44 61 ?_
 refine pu HT_.1 45 62 ?_
 refine pu HT_.1 46 63 ?_
 refine tk HT_.1 HW_.1 hHeld 42 59 ?_
 refine tk HT_.1 HW_.1 hHeld 47 64 ?_
 refine on HT_.1 48 (some 65) rfl fun K hK => ?_
 refine goes_ Try.func14 (by kernel_rfl) rfl #[.slice aA ((rd_T48 l0 aa).f2).length aC, .slice aB ((rd_T48 l1 aa).f2).length aD] (by rfl) rfl rfl pgz ?_
 with_reducible refine (r04_Same.calls k1 _ _ ((rd_T48 l0 aa).f2) _ _ ((rd_T48 l1 aa).f2) false _ ?side1 ?side2 ?side3 ?side4 A11.1).mono ?_
 (case side1 => exact csb bL HB)
 (case side2 => exact b9.1)
 (case side3 => exact csb bM HB)
 (case side4 => exact ca.1)
 rintro e w' ⟨rfl, ⟨nd, rfl⟩⟩
 refine ⟨_, rfl, ?_⟩
 refine hK.out _ _ ⟨(cbl HB.1 aS), (cbl HB.1 aT), (cbl HB.1 aU), (cbl HB.1 aV), (cbl HB.1 aW), (cbl HB.1 aX), (cbl HB.1 aY), (cbl HB.1 aZ), (cbl HB.1 a6), (cbl HB.1 a7), (cbl HB.1 a8), (cbl HB.1 a9), (cbl HB.1 ba), (cbl HB.1 bb), (cbl HB.1 bc), (cbl HB.1 bd), (cbl HB.1 br), (cbl HB.1 bs), (cbl HB.1 bu), (cbl HB.1 bv), (cbl HB.1 bw), (cbl HB.1 bx), (cbl HB.1 bz), (cbl HB.1 bA), (cbl HB.1 bR), (cbl HB.1 bS), (cbl HB.1 bT), (cbl HB.1 bU), (cbl HB.1 bV), (cbl HB.1 bW), (cbl HB.1 bX), (cbl HB.1 bY)⟩ (fun hHeld => ?_)
 clear hK K
 refine nm_ 65 ?_
 refine pu HT_.1 49 66 ?_
 refine pu HT_.1 50 67 ?_
 refine done_ (done_of HT_.1 (by kernel_rfl)) ?_
 try go_wp2
 go_ret
 exact ⟨per, pbg⟩

end Go.Proofs.Yteknagfpiadaiaa.P
