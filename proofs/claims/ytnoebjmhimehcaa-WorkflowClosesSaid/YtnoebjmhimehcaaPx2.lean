-- LAID BY OUR PROGRAM OVER THE PRINT (xprint.py, part.py): Lean checks it.
import Derived.Test.YtnoebjmhimehcaaPx0
namespace Go.Proofs.Ytnoebjmhimehcaa.P
open Go.RowKit Go.Proofs.YtnoebjmhimehcaaW.PrintWords Go.Proofs.YtnoebjmhimehcaaW.PrintLast Go.Proofs.YtnoebjmhimehcaaW.PrintMore
attribute [local go_sem] max2_int min2_int max_two min_two max_three min_three max_four min_four   -- for this text's walks alone
set_option linter.unusedVariables false
set_option linter.unusedSimpArgs false

/-! ### _YtnoebjmhimehcaaPx2: function 0 -/
theorem eqA52 (d : Nat) (w : World) (x0 y0 : ByteArray) (x1 y1 : Int) (x2 y2 : Int) :
  (Op.equalIn (d + 2) 52 (.agg #[.string x0, .int .i64 x1, .int .i64 x2]) (.agg #[.string y0, .int .i64 y1, .int .i64 y2])).run Try.prog w = .ok (x0.toList == y0.toList && (x1 == y1 && (x2 == y2))) w := by
 refine eqA_of Try.underlying52 (by kernel_rfl) ?_
 refine eqf_cons (by rfl) (by go_simp; rfl) (by go_simp; rfl) (by go_simp) ?_
 refine eqf_cons (by rfl) (by go_simp; rfl) (by go_simp; rfl) (by go_simp) ?_
 exact eqf_last (by rfl) (by go_simp; rfl) (by go_simp; rfl) (by go_simp)

/-! ### _YtnoebjmhimehcaaPx3: function 0 -/
theorem eqA55 (d : Nat) (w : World) (x0 y0 : Int) (x1 y1 : Int) :
  (Op.equalIn (d + 2) 55 (.agg #[.int .i64 x0, .int .i64 x1]) (.agg #[.int .i64 y0, .int .i64 y1])).run Try.prog w = .ok (x0 == y0 && (x1 == y1)) w := by
 refine eqA_of Try.underlying55 (by kernel_rfl) ?_
 refine eqf_cons (by rfl) (by go_simp; rfl) (by go_simp; rfl) (by go_simp) ?_
 exact eqf_last (by rfl) (by go_simp; rfl) (by go_simp; rfl) (by go_simp)

/-! ### r09_SameArcs: function 48 -/
attribute [local go_sem high] eqA52 eqA55
def r09_SameArcs.l0 : Nat → List (S55) → List (S55) → Int → Option (Bool)
 | 0, _, _, _ => none
 | k + 1, x0, x1, x5 => if x5 < (x0.length : Int) then (if 0 ≤ x5 then (if x5 < (x1.length : Int) then (if (!(((rd_T55 x0 x5).f0) == ((rd_T55 x1 x5).f0)) || (!(((rd_T55 x0 x5).f1) == ((rd_T55 x1 x5).f1)))) = true then (some false) else (r09_SameArcs.l0 k x0 x1 (wrap64 (x5 + 1)))) else (none)) else (none)) else (some true)
def r09_SameArcs.f (k : Nat) (l0 : List (S55)) (l1 : List (S55)) : Option (Bool) := if (l0.length : Int) = (l1.length : Int) then (r09_SameArcs.l0 k l0 l1 0) else (some false)
theorem r09_SameArcs.mono_l : ∀ k, M3 r09_SameArcs.l0 k
 | 0 => fun _ _ _ r h => by simp [r09_SameArcs.l0] at h
 | k + 1 => by
  have ar := r09_SameArcs.mono_l k
  ·intro y0 y1 y2
   unfold r09_SameArcs.l0
   repeat' first | (with_reducible first | apply ar | apply lr | apply ln | apply li | refine lb ?_ fun _ => ?_)
theorem r09_SameArcs.mono : ∀ a0 a1 k, LeO (r09_SameArcs.f k a0 a1) (r09_SameArcs.f (k + 1) a0 a1) := by
 intro a0 a1 k
 have ar := r09_SameArcs.mono_l k
 unfold r09_SameArcs.f
 repeat' first | (with_reducible first | apply ar | apply lr | apply ln | apply li | refine lb ?_ fun _ => ?_)
set_option maxHeartbeats 8000000 in
set_option maxRecDepth 100000 in
theorem r09_SameArcs.calls (k : Nat) (A0 : Option Addr) (c0 : Nat) (l0 : List (S55)) (A1 : Option Addr) (c1 : Nat) (l1 : List (S55)) (r : Bool) (w : World) (aC : Kd.C k55 w A0 l0.length l0) (hc0 : l0.length ≤ c0) (hr1 : Kd.C k55 w A1 l1.length l1) (aB : l1.length ≤ c1) (h : r09_SameArcs.f k l0 l1 = some r) :
  Calls Try.prog 48 #[.slice A0 l0.length c0, .slice A1 l1.length c1] w fun e w' => e = .returned (.bool r) ∧ Drawn0 w w' := by
 have aF := Try.underlying55
 have az := am aC
 have aG := am hc0
 clear aC hc0
 have aA := am hr1
 have aH := am aB
 clear hr1 aB
 have H := h
 unfold r09_SameArcs.f at H
 clear h
 by_cases c3 : (l0.length : Int) = (l1.length : Int)
 rotate_left
 ·rw [if_neg c3] at H
  have ak : ((l0.length : Int) == (l1.length : Int)) = false := beq_eq_false_iff_ne.mpr c3
  have al : ((l0.length : Int) != (l1.length : Int)) = true := bne_iff_ne.mpr c3
  have ao : (l0.length == l1.length) = false := by first | simpa using c3 | (simp at c3 ⊢; omega)
  obtain rfl := Option.some.inj H
  go_enter Try.func48, Try.ntmps48
  go_wp2
  repeat (go_quiet (fail); try go_wp2)
  go_ret
  exact ⟨prs, pdr⟩
 rw [if_pos c3] at H
 have ak : ((l0.length : Int) == (l1.length : Int)) = true := beq_iff_eq.mpr c3
 have al : ((l0.length : Int) != (l1.length : Int)) = false := bne_eq_false_iff_eq.mpr c3
 have ao : (l0.length == l1.length) = true := by first | simpa using c3 | (simp at c3 ⊢; omega)
 clear c3
 have H' := am H
 clear H
 go_enter Try.func48, Try.ntmps48
 go_wp2
 repeat (go_quiet (fail); try go_wp2)
 go_loopg [5] k (fun kq v5 w' => ∃ (aa : Int), v5 = .int .i64 aa ∧ Aside0 (r09_SameArcs.l0 kq l0 l1 aa = some r) ∧ Aside0 (kq ≤ k) ∧ Drawn0 w w')
 case atStart => exact ⟨(0), prs, H', ⟨Nat.le_refl _⟩, pdr⟩
 clear H'
 try clear c1 c3 ak al ao
 obtain ⟨aa, rfl, HA, ay, ⟨m1, rfl⟩⟩ := hrel
 obtain _ | k1 := gk
 ·exact absurd HA.1 (by simp [r09_SameArcs.l0])
 have H := HA.1
 clear HA
 simp only [r09_SameArcs.l0] at H
 replace H := ifl H
 rcases H with ⟨ap, H⟩ | ⟨ap, H⟩
 rotate_left
 ·obtain rfl := Option.some.inj H
  go_wp2
  repeat (go_quiet (fail); try go_wp2)
  go_ret
  exact ⟨prs, pdr⟩
 replace H := ifp H
 obtain ⟨c5, H⟩ := H
 have aD := decide_eq_true c5
 clear c5
 replace H := ifp H
 obtain ⟨c6, H⟩ := H
 have aE := decide_eq_true c6
 clear c6
 by_cases c7 : (!(((rd_T55 l0 aa).f0) == ((rd_T55 l1 aa).f0)) || (!(((rd_T55 l0 aa).f1) == ((rd_T55 l1 aa).f1)))) = true
 ·rw [if_pos c7] at H
  have aq : (!(((rd_T55 l0 aa).f0) == ((rd_T55 l1 aa).f0)) || (!(((rd_T55 l0 aa).f1) == ((rd_T55 l1 aa).f1)))) = true := c7
  clear c7
  obtain rfl := Option.some.inj H
  obtain ⟨au, aw, ai, ag, ab, ac⟩ := dT55 az.1 aa
  cases ag
  obtain ⟨av, ax, aj, ah, ae, af⟩ := dT55 aA.1 aa
  cases ah
  go_wp2
  repeat (go_quiet (fail); try go_wp2)
  go_ret
  exact ⟨prs, pdr⟩
 rw [if_neg c7] at H
 have aq : (!(((rd_T55 l0 aa).f0) == ((rd_T55 l1 aa).f0)) || (!(((rd_T55 l0 aa).f1) == ((rd_T55 l1 aa).f1)))) = false := by simpa using c7
 clear c7
 have H' := am H
 clear H
 obtain ⟨au, aw, ai, ag, ab, ac⟩ := dT55 az.1 aa
 cases ag
 obtain ⟨av, ax, aj, ah, ae, af⟩ := dT55 aA.1 aa
 cases ah
 go_wp2
 repeat (go_quiet (fail); try go_wp2)
 go_roundg k1
 case measure => have := ay.1; omega
 case rel => exact ⟨(wrap64 (aa + 1)), prs, H', ⟨by have := ay.1; omega⟩, pdr⟩

/-! ### r09_Equal: function 27 -/
attribute [local go_sem high] eqA52 eqA55
mutual
def r09_Equal.j0 : Nat → Bool → ByteArray → List (S52) → List (S48) → ByteArray → List (S52) → List (S48) → Option (Bool)
 | 0, _, _, _, _, _, _, _ => none
 | k + 1, gH, bd, a7, aP, bf, a8, aQ => if gH = true then (some false) else (r09_Equal.l0 k 0 bd a7 aP bf a8 aQ)
def r09_Equal.l0 : Nat → Int → ByteArray → List (S52) → List (S48) → ByteArray → List (S52) → List (S48) → Option (Bool)
 | 0, _, _, _, _, _, _, _ => none
 | k + 1, x5, bd, a7, aP, bf, a8, aQ => if x5 < (a7.length : Int) then (if 0 ≤ x5 then (if x5 < (a8.length : Int) then (if (!((((rd_T52 a7 x5).f0).toList) == (((rd_T52 a8 x5).f0).toList)) || (!(((rd_T52 a7 x5).f1) == ((rd_T52 a8 x5).f1)) || (!(((rd_T52 a7 x5).f2) == ((rd_T52 a8 x5).f2))))) = true then (some false) else (r09_Equal.l0 k (wrap64 (x5 + 1)) bd a7 aP bf a8 aQ)) else (none)) else (none)) else (r09_Equal.l1 k 0 bd a7 aP bf a8 aQ)
def r09_Equal.l1 : Nat → Int → ByteArray → List (S52) → List (S48) → ByteArray → List (S52) → List (S48) → Option (Bool)
 | 0, _, _, _, _, _, _, _ => none
 | k + 1, x6, bd, a7, aP, bf, a8, aQ => if x6 < (aP.length : Int) then (if 0 ≤ x6 then (if x6 < (aQ.length : Int) then (if ((rd_T48 aP x6).f0).toList = ((rd_T48 aQ x6).f0).toList then (if ((rd_T48 aP x6).f4) = ((rd_T48 aQ x6).f4) then ((r09_SameArcs.f k ((rd_T48 aP x6).f1) ((rd_T48 aQ x6).f1)).bind fun cR => (if cR = true then ((r09_SameArcs.f k ((rd_T48 aP x6).f2) ((rd_T48 aQ x6).f2)).bind fun cS => (if cS = true then ((r09_SameArcs.f k ((rd_T48 aP x6).f3) ((rd_T48 aQ x6).f3)).bind fun cT => (if cT = true then (r09_Equal.l1 k (wrap64 (x6 + 1)) bd a7 aP bf a8 aQ) else (some false))) else (some false))) else (some false))) else (some false)) else (some false)) else (none)) else (none)) else (some true)
end
def r09_Equal.f (k : Nat) (a9 : ByteArray) (az : List (S52)) (av : List (S48)) (ba : ByteArray) (aA : List (S52)) (aw : List (S48)) : Option (Bool) := if a9.toList = ba.toList then (if (az.length : Int) = (aA.length : Int) then (r09_Equal.j0 k ((av.length : Int) != (aw.length : Int)) a9 az av ba aA aw) else (r09_Equal.j0 k true a9 az av ba aA aw)) else (r09_Equal.j0 k true a9 az av ba aA aw)
theorem r09_Equal.mono_l : ∀ k, M7 r09_Equal.j0 k ∧ M7 r09_Equal.l0 k ∧ M7 r09_Equal.l1 k
 | 0 => ⟨fun _ _ _ _ _ _ _ r h => by simp [r09_Equal.j0] at h, fun _ _ _ _ _ _ _ r h => by simp [r09_Equal.l0] at h, fun _ _ _ _ _ _ _ r h => by simp [r09_Equal.l1] at h⟩
 | k + 1 => by
  obtain ⟨fb, fc, fd⟩ := r09_Equal.mono_l k
  refine ⟨?_, ?_, ?_⟩ <;> dsimp only [M7] <;> intros <;> (first | unfold r09_Equal.j0 | unfold r09_Equal.l0 | unfold r09_Equal.l1) <;> repeat' first | (with_reducible first | apply fb | apply fc | apply fd | apply r09_SameArcs.mono | apply lr | apply ln | apply li | refine lb ?_ fun _ => ?_)
theorem r09_Equal.mono : ∀ a0 a1 a2 a3 a4 a5 k, LeO (r09_Equal.f k a0 a1 a2 a3 a4 a5) (r09_Equal.f (k + 1) a0 a1 a2 a3 a4 a5) := by
 intro a0 a1 a2 a3 a4 a5 k
 obtain ⟨fb, fc, fd⟩ := r09_Equal.mono_l k
 unfold r09_Equal.f
 repeat' first | (with_reducible first | apply fb | apply fc | apply fd | apply r09_SameArcs.mono | apply lr | apply ln | apply li | refine lb ?_ fun _ => ?_)
def r09_Equal.T6 : Bool × List (List Nat × List Nat) := (true, [([], []), ([0], [0]), ([], []), ([1, 2], [1, 2]), ([3], [3]), ([], []), ([5], [5]), ([], []), ([6, 7], [6, 7]), ([8], [8]), ([4, 9], [4, 9])])
def r09_Equal.B6 : List Nat := [0, 1, 0, 7, 15, 0, 32, 0, 224, 480, 1023]
theorem r09_Equal.tab6 : rtab .any (opsOf Try.f27 6) = r09_Equal.T6 := by kernel_rfl
theorem r09_Equal.bits6 : waitsOk r09_Equal.T6.2 r09_Equal.B6 = true := by kernel_rfl
def r09_Equal.T11 : Bool × List (List Nat × List Nat) := (true, [([], []), ([0], [0]), ([], []), ([1, 2], [1, 2]), ([3], [3]), ([], []), ([5], [5]), ([], []), ([6, 7], [6, 7]), ([8], [8]), ([], []), ([], []), ([10, 4, 0, 1, 2, 3, 4, 10, 11], [4, 10]), ([11, 9, 12, 0, 1, 2, 3, 4, 5, 6, 7, 8, 9, 10, 11, 12], [9, 11])])
def r09_Equal.B11 : List Nat := [0, 1, 0, 7, 15, 0, 32, 0, 224, 480, 0, 0, 3103, 8191]
theorem r09_Equal.tab11 : rtab .any (opsOf Try.f27 11) = r09_Equal.T11 := by kernel_rfl
theorem r09_Equal.bits11 : waitsOk r09_Equal.T11.2 r09_Equal.B11 = true := by kernel_rfl
set_option maxHeartbeats 8000000 in
set_option maxRecDepth 100000 in
theorem r09_Equal.calls (k : Nat) (a9 : ByteArray) (bD : Option Addr) (bj : Nat) (az : List (S52)) (bU : Option Addr) (bk : Nat) (av : List (S48)) (ba : ByteArray) (bE : Option Addr) (bl : Nat) (aA : List (S52)) (bV : Option Addr) (bm : Nat) (aw : List (S48)) (r : Bool) (w : World) (cF : Kd.C k52 w bD az.length az) (cB : az.length ≤ bj) (cG : Kd.C k48 w bU av.length av) (cC : av.length ≤ bk) (cH : Kd.C k52 w bE aA.length aA) (cD : aA.length ≤ bl) (cI : Kd.C k48 w bV aw.length aw) (cE : aw.length ≤ bm) (h : r09_Equal.f k a9 az av ba aA aw = some r) :
  Calls Try.prog 27 #[.agg #[.string a9, .slice bD az.length bj, .slice bU av.length bk], .agg #[.string ba, .slice bE aA.length bl, .slice bV aw.length bm]] w fun e w' => e = .returned (.bool r) ∧ Below w.heap.size w w' := by
 have gA := Try.underlying25
 have gD := Try.underlying52
 have gB := Try.underlying48
 have cx := am cF
 have fm := am cB
 clear cF cB
 have cW := am cG
 have fo := am cC
 clear cG cC
 have cy := am cH
 have fp := am cD
 clear cH cD
 have cX := am cI
 have fq := am cE
 clear cI cE
 have HB := am (Below.refl w.heap.size w)
 have H := h
 unfold r09_Equal.f at H
 clear h
 have en := am H
 clear H
 go_enter Try.func27, Try.ntmps27
 go_upto_region 1 with (first | ((with_reducible refine gate_dst (N := 2) rfl ?_); (try (refine gate_guard (by rfl) ?_; dsimp only)); refine box_ev ?_; intro aB hg w4 hbox hb; have ab := am hbox; have cU := gwl hg; have fk := cU; replace HB := bsl hb; clear hb hbox hg) | ((with_reducible refine gate_dst (N := 3) rfl ?_); (try (refine gate_guard (by rfl) ?_; dsimp only)); refine box_ev ?_; intro aC hg w5 hbox hb; have ac := am hbox; have cV := gwb hg; have fl := cV; have aR := nlt hg ab; have aS := ngt hg ab; replace ab := bbh ab hb; replace HB := bst hb; clear hb hbox hg))
 (try simp only [Act.put, List.setIfInBounds_toArray, List.set_cons_zero, List.set_cons_succ])
 go_cut [31] (fun gE wc => ∃ (kq : Nat) (cq : Bool), gE = .bool cq ∧ Aside0 (r09_Equal.j0 kq cq a9 az av ba aA aw = some r) ∧ Aside0 (kq ≤ k) ∧ Aside0 (wc.heap[aB]? = some (.cells #[.string a9, (.slice bD az.length bj), (.slice bU av.length bk)] 25 (0, 0))) ∧ Aside0 (wc.heap[aC]? = some (.cells #[.string ba, (.slice bE aA.length bl), (.slice bV aw.length bm)] 25 (0, 0))) ∧ Aside0 (Below w.heap.size w wc))
 case first =>
  have H := en.1
  clear en
  by_cases c6 : a9.toList = ba.toList
  rotate_left
  ·rw [if_neg c6] at H
   have bP : (a9.toList == ba.toList) = false := beq_eq_false_iff_ne.mpr c6
   have cr : (a9.toList != ba.toList) = true := bne_iff_ne.mpr c6
   (first | rw [bP] | (simp only [i64_w, i32_w]; rw [bP]) | skip)
   have H' := am H
   clear H
   have fJ := aR.1
   have fZ := aS.1
   have fh := cf3 ab.1
   have fi := cf3 ac.1
   go_wp2
   go_meet
   case rel => exact ⟨_, (true), prs, H', ⟨by first | omega | exact Nat.le_refl _⟩, ⟨pbk ab.1⟩, ⟨pbk ac.1⟩, ⟨pbg⟩⟩
  rw [if_pos c6] at H
  have bP : (a9.toList == ba.toList) = true := beq_iff_eq.mpr c6
  have cr : (a9.toList != ba.toList) = false := bne_eq_false_iff_eq.mpr c6
  clear c6
  (first | rw [bP] | (simp only [i64_w, i32_w]; rw [bP]) | skip)
  by_cases c7 : (az.length : Int) = (aA.length : Int)
  rotate_left
  ·rw [if_neg c7] at H
   have cu : ((az.length : Int) == (aA.length : Int)) = false := beq_eq_false_iff_ne.mpr c7
   have cv : ((az.length : Int) != (aA.length : Int)) = true := bne_iff_ne.mpr c7
   have cw : (az.length == aA.length) = false := by first | simpa using c7 | (simp at c7 ⊢; omega)
   have H' := am H
   clear H
   have fI := aR.1
   have fY := aS.1
   have ff := cf3 ab.1
   have fg := cf3 ac.1
   go_wp2
   go_meet
   case rel => exact ⟨_, (true), prs, H', ⟨by first | omega | exact Nat.le_refl _⟩, ⟨pbk ab.1⟩, ⟨pbk ac.1⟩, ⟨pbg⟩⟩
  rw [if_pos c7] at H
  have cu : ((az.length : Int) == (aA.length : Int)) = true := beq_iff_eq.mpr c7
  have cv : ((az.length : Int) != (aA.length : Int)) = false := bne_eq_false_iff_eq.mpr c7
  have cw : (az.length == aA.length) = true := by first | simpa using c7 | (simp at c7 ⊢; omega)
  clear c7
  have H' := am H
  clear H
  have gm := aR.1
  have gn := aS.1
  have z9 := cf3 ab.1
  have fe := cf3 ac.1
  go_wp2
  go_meet
  case rel => exact ⟨_, (((av.length : Int) != (aw.length : Int))), prs, H', ⟨by first | omega | exact Nat.le_refl _⟩, ⟨pbk ab.1⟩, ⟨pbk ac.1⟩, ⟨pbg⟩⟩
 clear en
 try clear c6 bP cr c7 cu cv cw fe ff fg fh fi z9
 obtain ⟨kq, cq, rfl, HA, dh, ab, ac, HB⟩ := hcut
 obtain _ | gl := kq
 ·exact absurd HA.1 (by simp [r09_Equal.j0])
 have H := HA.1
 clear HA
 simp only [r09_Equal.j0] at H
 cases cq
 rotate_left
 ·rw [if_pos rfl] at H
  obtain rfl := Option.some.inj H
  go_wp2
  go_ret
  exact ⟨per, pbg⟩
 rw [if_neg Bool.false_ne_true] at H
 have H' := am H
 clear H
 go_wp2
 go_loopg [5] gl (fun kq v5 w' => ∃ (ao : Int), v5 = .int .i64 ao ∧ Aside0 (r09_Equal.l0 kq ao a9 az av ba aA aw = some r) ∧ Aside0 (kq ≤ gl) ∧ Aside0 (w'.heap[aB]? = some (.cells #[.string a9, (.slice bD az.length bj), (.slice bU av.length bk)] 25 (0, 0))) ∧ Aside0 (w'.heap[aC]? = some (.cells #[.string ba, (.slice bE aA.length bl), (.slice bV aw.length bm)] 25 (0, 0))) ∧ Aside0 (Below w.heap.size w w'))
 case atStart => exact ⟨(0), prs, H', ⟨Nat.le_refl _⟩, ⟨pbk ab.1⟩, ⟨pbk ac.1⟩, ⟨pbg⟩⟩
 clear H'
 try clear c6 bP cr c7 cu cv cw fe ff fg fh fi z9
 obtain ⟨ao, rfl, HA, di, ab, ac, HB⟩ := hrel
 obtain _ | k2 := gk
 ·exact absurd HA.1 (by simp [r09_Equal.l0])
 have H := HA.1
 clear HA
 simp only [r09_Equal.l0] at H
 replace H := ifl H
 rcases H with ⟨cz, H⟩ | ⟨cz, H⟩
 ·replace H := ifp H
  obtain ⟨eo, H⟩ := H
  have cY := decide_eq_true eo
  clear eo
  replace H := ifp H
  obtain ⟨ep, H⟩ := H
  have cZ := decide_eq_true ep
  clear ep
  by_cases cJ : (!((((rd_T52 az ao).f0).toList) == (((rd_T52 aA ao).f0).toList)) || (!(((rd_T52 az ao).f1) == ((rd_T52 aA ao).f1)) || (!(((rd_T52 az ao).f2) == ((rd_T52 aA ao).f2))))) = true
  ·rw [if_pos cJ] at H
   have cA : (!((((rd_T52 az ao).f0).toList) == (((rd_T52 aA ao).f0).toList)) || (!(((rd_T52 az ao).f1) == ((rd_T52 aA ao).f1)) || (!(((rd_T52 az ao).f2) == ((rd_T52 aA ao).f2))))) = true := cJ
   clear cJ
   obtain rfl := Option.some.inj H
   have fK := aR.1
   have f5 := aS.1
   have gR := cf3 ab.1
   try go_wp2
   replace ab := am (blk_drew ab.1)
   replace ac := am (blk_drew ac.1)
   replace HB := am (below_drew1 HB.1)
   have bQ : 0 ≤ (ao : Int) := dq
   have bS : ao < (az.length : Int) := dq
   obtain ⟨bb, cL, aV, aW, aX⟩ := at_T52 cx.1 ao bQ bS
   have bL := aX
   have bK := aW
   have bJ := aV
   cases cL
   replace aV := cbl HB.1 aV
   replace aW := cbl HB.1 aW
   replace aX := cbl HB.1 aX
   replace bQ := eq_true bQ
   replace bS := eq_true bS
   have bR : 0 ≤ (ao : Int) := dq
   have bT : ao < (aA.length : Int) := dq
   obtain ⟨bc, cM, aY, aZ, a6⟩ := at_T52 cy.1 ao bR bT
   have bO := a6
   have bN := aZ
   have bM := aY
   cases cM
   replace aY := cbl HB.1 aY
   replace aZ := cbl HB.1 aZ
   replace a6 := cbl HB.1 a6
   replace bR := eq_true bR
   replace bT := eq_true bT
   refine start_ (n := 11) (S := fun w' => w'.cell? ⟨aB, 0, none⟩ = some (.string a9) ∧ w'.cell? ⟨aB, 1, none⟩ = some (.slice (some bb) az.length bj) ∧ w'.cell? ⟨aB, 2, none⟩ = some (.slice bU av.length bk) ∧ w'.cell? ⟨aC, 0, none⟩ = some (.string ba) ∧ w'.cell? ⟨aC, 1, none⟩ = some (.slice (some bc) aA.length bl) ∧ w'.cell? ⟨aC, 2, none⟩ = some (.slice bV aw.length bm) ∧ w'.cell? (bb.add ((ao).toNat * 3)) = some (.string ((rd_T52 az ao).f0)) ∧ w'.cell? ⟨(bb.add ((ao).toNat * 3)).block, (bb.add ((ao).toNat * 3)).off + 1, none⟩ = some (.int .i64 ((rd_T52 az ao).f1)) ∧ w'.cell? ⟨(bb.add ((ao).toNat * 3)).block, (bb.add ((ao).toNat * 3)).off + 2, none⟩ = some (.int .i64 ((rd_T52 az ao).f2)) ∧ w'.cell? (bc.add ((ao).toNat * 3)) = some (.string ((rd_T52 aA ao).f0)) ∧ w'.cell? ⟨(bc.add ((ao).toNat * 3)).block, (bc.add ((ao).toNat * 3)).off + 1, none⟩ = some (.int .i64 ((rd_T52 aA ao).f1)) ∧ w'.cell? ⟨(bc.add ((ao).toNat * 3)).block, (bc.add ((ao).toNat * 3)).off + 2, none⟩ = some (.int .i64 ((rd_T52 aA ao).f2))) (ds := []) #[false, false, false, false, false, false, false, false, false, false, false] (by kernel_rfl) rfl rfl ⟨(blk_cell ab.1 0).trans rfl, (blk_cell ab.1 1).trans rfl, (blk_cell ab.1 2).trans rfl, (blk_cell ac.1 0).trans rfl, (blk_cell ac.1 1).trans rfl, (blk_cell ac.1 2).trans rfl, (cbl HB.1 bJ), (cbl HB.1 bK), (cbl HB.1 bL), (cbl HB.1 bM), (cbl HB.1 bN), (cbl HB.1 bO)⟩ (fun hHeld => ?_); refine with_tabW r09_Equal.tab6 r09_Equal.bits6 (fun HT_ HW_ => ?_)
   generalize wr.drew = gV at ab ac HB aV aW aX aY aZ a6 hHeld ⊢
   refine pu HT_.1 0 39 ?_
   refine pu HT_.1 2 41 ?_
   refine pu HT_.1 5 44 ?_
   refine pu HT_.1 7 46 ?_
   refine tk HT_.1 HW_.1 hHeld 1 40 ?_
   refine pu HT_.1 3 42 ?_
   refine tk HT_.1 HW_.1 hHeld 4 43 ?_
   refine tk HT_.1 HW_.1 hHeld 6 45 ?_
   refine pu HT_.1 8 47 ?_
   refine tk HT_.1 HW_.1 hHeld 9 48 ?_
   refine pu HT_.1 10 49 ?_
   refine done_ (done_of HT_.1 (by kernel_rfl)) ?_
   try go_wp2
   go_ret
   exact ⟨per, pbg⟩
  rw [if_neg cJ] at H
  have cA : (!((((rd_T52 az ao).f0).toList) == (((rd_T52 aA ao).f0).toList)) || (!(((rd_T52 az ao).f1) == ((rd_T52 aA ao).f1)) || (!(((rd_T52 az ao).f2) == ((rd_T52 aA ao).f2))))) = false := by simpa using cJ
  clear cJ
  have H' := am H
  clear H
  have fL := aR.1
  have f6 := aS.1
  have gS := cf3 ab.1
  try go_wp2
  replace ab := am (blk_drew ab.1)
  replace ac := am (blk_drew ac.1)
  replace HB := am (below_drew1 HB.1)
  have bQ : 0 ≤ (ao : Int) := dq
  have bS : ao < (az.length : Int) := dq
  obtain ⟨bb, cL, aV, aW, aX⟩ := at_T52 cx.1 ao bQ bS
  have bL := aX
  have bK := aW
  have bJ := aV
  cases cL
  replace aV := cbl HB.1 aV
  replace aW := cbl HB.1 aW
  replace aX := cbl HB.1 aX
  replace bQ := eq_true bQ
  replace bS := eq_true bS
  have bR : 0 ≤ (ao : Int) := dq
  have bT : ao < (aA.length : Int) := dq
  obtain ⟨bc, cM, aY, aZ, a6⟩ := at_T52 cy.1 ao bR bT
  have bO := a6
  have bN := aZ
  have bM := aY
  cases cM
  replace aY := cbl HB.1 aY
  replace aZ := cbl HB.1 aZ
  replace a6 := cbl HB.1 a6
  replace bR := eq_true bR
  replace bT := eq_true bT
  refine start_ (n := 11) (S := fun w' => w'.cell? ⟨aB, 0, none⟩ = some (.string a9) ∧ w'.cell? ⟨aB, 1, none⟩ = some (.slice (some bb) az.length bj) ∧ w'.cell? ⟨aB, 2, none⟩ = some (.slice bU av.length bk) ∧ w'.cell? ⟨aC, 0, none⟩ = some (.string ba) ∧ w'.cell? ⟨aC, 1, none⟩ = some (.slice (some bc) aA.length bl) ∧ w'.cell? ⟨aC, 2, none⟩ = some (.slice bV aw.length bm) ∧ w'.cell? (bb.add ((ao).toNat * 3)) = some (.string ((rd_T52 az ao).f0)) ∧ w'.cell? ⟨(bb.add ((ao).toNat * 3)).block, (bb.add ((ao).toNat * 3)).off + 1, none⟩ = some (.int .i64 ((rd_T52 az ao).f1)) ∧ w'.cell? ⟨(bb.add ((ao).toNat * 3)).block, (bb.add ((ao).toNat * 3)).off + 2, none⟩ = some (.int .i64 ((rd_T52 az ao).f2)) ∧ w'.cell? (bc.add ((ao).toNat * 3)) = some (.string ((rd_T52 aA ao).f0)) ∧ w'.cell? ⟨(bc.add ((ao).toNat * 3)).block, (bc.add ((ao).toNat * 3)).off + 1, none⟩ = some (.int .i64 ((rd_T52 aA ao).f1)) ∧ w'.cell? ⟨(bc.add ((ao).toNat * 3)).block, (bc.add ((ao).toNat * 3)).off + 2, none⟩ = some (.int .i64 ((rd_T52 aA ao).f2))) (ds := []) #[false, false, false, false, false, false, false, false, false, false, false] (by kernel_rfl) rfl rfl ⟨(blk_cell ab.1 0).trans rfl, (blk_cell ab.1 1).trans rfl, (blk_cell ab.1 2).trans rfl, (blk_cell ac.1 0).trans rfl, (blk_cell ac.1 1).trans rfl, (blk_cell ac.1 2).trans rfl, (cbl HB.1 bJ), (cbl HB.1 bK), (cbl HB.1 bL), (cbl HB.1 bM), (cbl HB.1 bN), (cbl HB.1 bO)⟩ (fun hHeld => ?_); refine with_tabW r09_Equal.tab6 r09_Equal.bits6 (fun HT_ HW_ => ?_)
  generalize wr.drew = gW at ab ac HB aV aW aX aY aZ a6 hHeld ⊢
  refine pu HT_.1 0 39 ?_
  refine pu HT_.1 2 41 ?_
  refine pu HT_.1 5 44 ?_
  refine pu HT_.1 7 46 ?_
  refine tk HT_.1 HW_.1 hHeld 1 40 ?_
  refine pu HT_.1 3 42 ?_
  refine tk HT_.1 HW_.1 hHeld 4 43 ?_
  refine tk HT_.1 HW_.1 hHeld 6 45 ?_
  refine pu HT_.1 8 47 ?_
  refine tk HT_.1 HW_.1 hHeld 9 48 ?_
  refine pu HT_.1 10 49 ?_
  refine done_ (done_of HT_.1 (by kernel_rfl)) ?_
  try go_wp2
  go_roundg k2
  case measure => have := dh.1; have := di.1; omega
  case rel => exact ⟨(wrap64 (ao + 1)), prs, H', ⟨by have := dh.1; have := di.1; omega⟩, ⟨pbk ab.1⟩, ⟨pbk ac.1⟩, ⟨pbg⟩⟩
 have H' := am H
 clear H
 have fM := aR.1
 have f7 := aS.1
 have gT := cf3 ab.1
 go_wp2
 go_loopg [6] k2 (fun kq v6 w' => ∃ (aa : Int), v6 = .int .i64 aa ∧ Aside0 (r09_Equal.l1 kq aa a9 az av ba aA aw = some r) ∧ Aside0 (kq ≤ k2) ∧ Aside0 (w'.heap[aB]? = some (.cells #[.string a9, (.slice bD az.length bj), (.slice bU av.length bk)] 25 (0, 0))) ∧ Aside0 (w'.heap[aC]? = some (.cells #[.string ba, (.slice bE aA.length bl), (.slice bV aw.length bm)] 25 (0, 0))) ∧ Aside0 (Below w.heap.size w w'))
 case atStart => exact ⟨(0), prs, H', ⟨Nat.le_refl _⟩, ⟨pbk ab.1⟩, ⟨pbk ac.1⟩, ⟨pbg⟩⟩
 clear H'
 try clear c6 bP cr c7 cu cv cw gU cz eo cY ep cZ cJ cA fe ff fg fh fi gR gS gT z9 aV aW aX aY aZ a6 bQ bR bS bT
 obtain ⟨aa, rfl, HA, ft, ab, ac, HB⟩ := hrel
 obtain _ | k3 := gk
 ·exact absurd HA.1 (by simp [r09_Equal.l1])
 have H := HA.1
 clear HA
 simp only [r09_Equal.l1] at H
 replace H := ifl H
 rcases H with ⟨da, H⟩ | ⟨da, H⟩
 rotate_left
 ·obtain rfl := Option.some.inj H
  have eM := aR.1
  have fa := aS.1
  have gQ := cf3 ab.1
  go_wp2
  go_ret
  exact ⟨per, pbg⟩
 replace H := ifp H
 obtain ⟨fu, H⟩ := H
 have fv := decide_eq_true fu
 clear fu
 replace H := ifp H
 obtain ⟨fw, H⟩ := H
 have fx := decide_eq_true fw
 clear fw
 have HZ_ := am H
 clear H
 have fN := aR.1
 have f8 := aS.1
 have gY := cf3 ab.1
 try go_wp2
 replace ab := am (blk_drew ab.1)
 replace ac := am (blk_drew ac.1)
 replace HB := am (below_drew1 HB.1)
 have cN : 0 ≤ (aa : Int) := dq
 have cP : aa < (av.length : Int) := dq
 obtain ⟨ax, bW, b2, bX, b3, bY, b4, eq, br, bs, bu, bv, bw, cj, cd, ck, ce, cm, cf⟩ := at_T48 cW.1 aa cN cP
 have aJ := bw
 have aI := bv
 have aH := bu
 have aG := bs
 have aF := br
 cases eq
 replace br := cbl HB.1 br
 replace bs := cbl HB.1 bs
 replace bu := cbl HB.1 bu
 replace bv := cbl HB.1 bv
 replace bw := cbl HB.1 bw
 have bh := am cd
 have bn := am cj
 clear cd cj
 have bp := am ce
 have bF := am ck
 clear ce ck
 have bH := am cf
 have ca := am cm
 clear cf cm
 replace cN := eq_true cN
 replace cP := eq_true cP
 have cO : 0 ≤ (aa : Int) := dq
 have cQ : aa < (aw.length : Int) := dq
 obtain ⟨ay, bZ, b5, b0, b6, b1, b7, er, bx, bz, bA, bB, bC, cn, cg, co, ch, cp, ci⟩ := at_T48 cX.1 aa cO cQ
 have aO := bC
 have aN := bB
 have aM := bA
 have aL := bz
 have aK := bx
 cases er
 replace bx := cbl HB.1 bx
 replace bz := cbl HB.1 bz
 replace bA := cbl HB.1 bA
 replace bB := cbl HB.1 bB
 replace bC := cbl HB.1 bC
 have bi := am cg
 have bo := am cn
 clear cg cn
 have bq := am ch
 have bG := am co
 clear ch co
 have bI := am ci
 have cb := am cp
 clear ci cp
 replace cO := eq_true cO
 replace cQ := eq_true cQ
 refine start_ (n := 14) (S := fun w' => w'.cell? ⟨aB, 0, none⟩ = some (.string a9) ∧ w'.cell? ⟨aB, 1, none⟩ = some (.slice bD az.length bj) ∧ w'.cell? ⟨aB, 2, none⟩ = some (.slice (some ax) av.length bk) ∧ w'.cell? ⟨aC, 0, none⟩ = some (.string ba) ∧ w'.cell? ⟨aC, 1, none⟩ = some (.slice bE aA.length bl) ∧ w'.cell? ⟨aC, 2, none⟩ = some (.slice (some ay) aw.length bm) ∧ w'.cell? (ax.add ((aa).toNat * 5)) = some (.string ((rd_T48 av aa).f0)) ∧ w'.cell? ⟨(ax.add ((aa).toNat * 5)).block, (ax.add ((aa).toNat * 5)).off + 1, none⟩ = some (.slice bW ((rd_T48 av aa).f1).length b2) ∧ w'.cell? ⟨(ax.add ((aa).toNat * 5)).block, (ax.add ((aa).toNat * 5)).off + 2, none⟩ = some (.slice bX ((rd_T48 av aa).f2).length b3) ∧ w'.cell? ⟨(ax.add ((aa).toNat * 5)).block, (ax.add ((aa).toNat * 5)).off + 3, none⟩ = some (.slice bY ((rd_T48 av aa).f3).length b4) ∧ w'.cell? ⟨(ax.add ((aa).toNat * 5)).block, (ax.add ((aa).toNat * 5)).off + 4, none⟩ = some (.int .i64 ((rd_T48 av aa).f4)) ∧ w'.cell? (ay.add ((aa).toNat * 5)) = some (.string ((rd_T48 aw aa).f0)) ∧ w'.cell? ⟨(ay.add ((aa).toNat * 5)).block, (ay.add ((aa).toNat * 5)).off + 1, none⟩ = some (.slice bZ ((rd_T48 aw aa).f1).length b5) ∧ w'.cell? ⟨(ay.add ((aa).toNat * 5)).block, (ay.add ((aa).toNat * 5)).off + 2, none⟩ = some (.slice b0 ((rd_T48 aw aa).f2).length b6) ∧ w'.cell? ⟨(ay.add ((aa).toNat * 5)).block, (ay.add ((aa).toNat * 5)).off + 3, none⟩ = some (.slice b1 ((rd_T48 aw aa).f3).length b7) ∧ w'.cell? ⟨(ay.add ((aa).toNat * 5)).block, (ay.add ((aa).toNat * 5)).off + 4, none⟩ = some (.int .i64 ((rd_T48 aw aa).f4))) (ds := []) #[false, false, false, false, false, false, false, false, false, false, false, false, false, false] (by kernel_rfl) rfl rfl ⟨(blk_cell ab.1 0).trans rfl, (blk_cell ab.1 1).trans rfl, (blk_cell ab.1 2).trans rfl, (blk_cell ac.1 0).trans rfl, (blk_cell ac.1 1).trans rfl, (blk_cell ac.1 2).trans rfl, (cbl HB.1 aF), (cbl HB.1 aG), (cbl HB.1 aH), (cbl HB.1 aI), (cbl HB.1 aJ), (cbl HB.1 aK), (cbl HB.1 aL), (cbl HB.1 aM), (cbl HB.1 aN), (cbl HB.1 aO)⟩ (fun hHeld => ?_); refine with_tabW r09_Equal.tab11 r09_Equal.bits11 (fun HT_ HW_ => ?_)
 generalize wr.drew = gX at ab ac HB bh bp bH bi bq bI br bs bu bv bw bx bz bA bB bC hHeld ⊢
 refine pu HT_.1 0 57 ?_
 refine pu HT_.1 2 59 ?_
 refine pu HT_.1 5 62 ?_
 refine pu HT_.1 7 64 ?_
 refine tk HT_.1 HW_.1 hHeld 1 58 ?_
 refine pu HT_.1 3 60 ?_
 refine tk HT_.1 HW_.1 hHeld 4 61 ?_
 refine tk HT_.1 HW_.1 hHeld 6 63 ?_
 refine pu HT_.1 8 65 ?_
 refine tk HT_.1 HW_.1 hHeld 9 66 ?_
 refine join_ (σ := Nat × Nat) 2 #[true, true, true, true, true, true, true, true, true, true, true, true, false, false] (fun s_ => [(7, .pointer (some ⟨s_.1, 0, none⟩)), (8, .pointer (some ⟨s_.2, 0, none⟩))]) (fun s_ w' => (w'.cell? ⟨aB, 0, none⟩ = some (.string a9) ∧ w'.cell? ⟨aB, 1, none⟩ = some (.slice bD az.length bj) ∧ w'.cell? ⟨aB, 2, none⟩ = some (.slice (some ax) av.length bk) ∧ w'.cell? ⟨aC, 0, none⟩ = some (.string ba) ∧ w'.cell? ⟨aC, 1, none⟩ = some (.slice bE aA.length bl) ∧ w'.cell? ⟨aC, 2, none⟩ = some (.slice (some ay) aw.length bm) ∧ w'.cell? (ax.add ((aa).toNat * 5)) = some (.string ((rd_T48 av aa).f0)) ∧ w'.cell? ⟨(ax.add ((aa).toNat * 5)).block, (ax.add ((aa).toNat * 5)).off + 1, none⟩ = some (.slice bW ((rd_T48 av aa).f1).length b2) ∧ w'.cell? ⟨(ax.add ((aa).toNat * 5)).block, (ax.add ((aa).toNat * 5)).off + 2, none⟩ = some (.slice bX ((rd_T48 av aa).f2).length b3) ∧ w'.cell? ⟨(ax.add ((aa).toNat * 5)).block, (ax.add ((aa).toNat * 5)).off + 3, none⟩ = some (.slice bY ((rd_T48 av aa).f3).length b4) ∧ w'.cell? ⟨(ax.add ((aa).toNat * 5)).block, (ax.add ((aa).toNat * 5)).off + 4, none⟩ = some (.int .i64 ((rd_T48 av aa).f4)) ∧ w'.cell? (ay.add ((aa).toNat * 5)) = some (.string ((rd_T48 aw aa).f0)) ∧ w'.cell? ⟨(ay.add ((aa).toNat * 5)).block, (ay.add ((aa).toNat * 5)).off + 1, none⟩ = some (.slice bZ ((rd_T48 aw aa).f1).length b5) ∧ w'.cell? ⟨(ay.add ((aa).toNat * 5)).block, (ay.add ((aa).toNat * 5)).off + 2, none⟩ = some (.slice b0 ((rd_T48 aw aa).f2).length b6) ∧ w'.cell? ⟨(ay.add ((aa).toNat * 5)).block, (ay.add ((aa).toNat * 5)).off + 3, none⟩ = some (.slice b1 ((rd_T48 aw aa).f3).length b7) ∧ w'.cell? ⟨(ay.add ((aa).toNat * 5)).block, (ay.add ((aa).toNat * 5)).off + 4, none⟩ = some (.int .i64 ((rd_T48 aw aa).f4))) ∧ (w'.heap[aB]? = some (.cells #[.string a9, .slice bD az.length bj, .slice (some ax) av.length bk] 25 (0, 0))) ∧ (w'.heap[aC]? = some (.cells #[.string ba, .slice bE aA.length bl, .slice (some ay) aw.length bm] 25 (0, 0))) ∧ (w'.heap[s_.1]? = some (.cells #[.string (⟨#[]⟩ : ByteArray), .slice none 0 0, .slice none 0 0, .slice none 0 0, .int .i64 0] 48 (0, 0))) ∧ (w'.heap[s_.2]? = some (.cells #[.string (⟨#[]⟩ : ByteArray), .slice none 0 0, .slice none 0 0, .slice none 0 0, .int .i64 0] 48 (0, 0))) ∧ (w.heap.size ≤ s_.1) ∧ (w.heap.size ≤ s_.1) ∧ (aB ≠ s_.1) ∧ (s_.1 ≠ aB) ∧ (aC ≠ s_.1) ∧ (s_.1 ≠ aC) ∧ (s_.2 ≠ s_.1) ∧ (s_.1 ≠ s_.2) ∧ (w.heap.size ≤ s_.2) ∧ (w.heap.size ≤ s_.2) ∧ (aB ≠ s_.2) ∧ (s_.2 ≠ aB) ∧ (aC ≠ s_.2) ∧ (s_.2 ≠ aC) ∧ (Below w.heap.size w w')) ?_ ?_
 rotate_left
 ·intro hCont
  refine two_ (i := 10) (j := 11) (Ni := some 7) (Nj := some 8) #[true, true, true, true, true, true, true, true, true, true, true, false, false, false] #[true, true, true, true, true, true, true, true, true, true, false, true, false, false] rfl rfl rfl rfl (two_of HT_.1 (by kernel_rfl)) (by decide) (by decide) (fun K hK => ?_) (fun K hK => ?_)
  ·skip
   refine box_step ?hg (N := 7) ?hd (cs := #[.string (⟨#[]⟩ : ByteArray), .slice none 0 0, .slice none 0 0, .slice none 0 0, .int .i64 0]) (t := 48) ?hr ?_; (case hd => rfl); (case hg => rfl); (case hr => first | (go_simp; done) | (go_simp; rfl))
   intro aT hg gF hbox hb
   have n0_ := bbh ab hb
   have n1_ := bbh ac hb
   have n2_ := bst hb
   have n3_ := am hbox
   have n4_ := gwb hg
   have n5_ := gwb hg
   have n6_ := nlt hg ab
   have n7_ := ngt hg ab
   have n8_ := nlt hg ac
   have n9_ := ngt hg ac
   clear ab ac HB
   have ab := n0_
   have ac := n1_
   have HB := n2_
   have aD := n3_
   have ak := n4_
   have b8 := n5_
   have ae := n6_
   have ap := n7_
   have ag := n8_
   have aq := n9_
   clear n0_ n1_ n2_ n3_ n4_ n5_ n6_ n7_ n8_ n9_ hb hbox hg
   refine hK.out _ _ ⟨(blk_cell ab.1 0).trans rfl, (blk_cell ab.1 1).trans rfl, (blk_cell ab.1 2).trans rfl, (blk_cell ac.1 0).trans rfl, (blk_cell ac.1 1).trans rfl, (blk_cell ac.1 2).trans rfl, (cbl HB.1 aF), (cbl HB.1 aG), (cbl HB.1 aH), (cbl HB.1 aI), (cbl HB.1 aJ), (cbl HB.1 aK), (cbl HB.1 aL), (cbl HB.1 aM), (cbl HB.1 aN), (cbl HB.1 aO)⟩ (fun hHeld => ?_)
   clear hK K
   refine nm_ 7 ?_
   refine on HT_.1 11 (some 8) rfl fun K hK => ?_
   refine box_step ?hg (N := 8) ?hd (cs := #[.string (⟨#[]⟩ : ByteArray), .slice none 0 0, .slice none 0 0, .slice none 0 0, .int .i64 0]) (t := 48) ?hr ?_; (case hd => rfl); (case hg => rfl); (case hr => first | (go_simp; done) | (go_simp; rfl))
   intro aU hg gG hbox hb
   have n0_ := bbh ab hb
   have n1_ := bbh ac hb
   have n2_ := bbh aD hb
   have n3_ := bst hb
   have n4_ := am hbox
   have n5_ := gwb hg
   have n6_ := gwb hg
   have n7_ := nlt hg ab
   have n8_ := ngt hg ab
   have n9_ := nlt hg ac
   have n10_ := ngt hg ac
   have n11_ := nlt hg aD
   have n12_ := ngt hg aD
   clear ab ac aD HB
   have ab := n0_
   have ac := n1_
   have aD := n2_
   have HB := n3_
   have aE := n4_
   have al := n5_
   have b9 := n6_
   have af := n7_
   have ar := n8_
   have ah := n9_
   have au := n10_
   have ai := n11_
   have aj := n12_
   clear n0_ n1_ n2_ n3_ n4_ n5_ n6_ n7_ n8_ n9_ n10_ n11_ n12_ hb hbox hg
   refine hK.out _ _ ⟨(blk_cell ab.1 0).trans rfl, (blk_cell ab.1 1).trans rfl, (blk_cell ab.1 2).trans rfl, (blk_cell ac.1 0).trans rfl, (blk_cell ac.1 1).trans rfl, (blk_cell ac.1 2).trans rfl, (cbl HB.1 aF), (cbl HB.1 aG), (cbl HB.1 aH), (cbl HB.1 aI), (cbl HB.1 aJ), (cbl HB.1 aK), (cbl HB.1 aL), (cbl HB.1 aM), (cbl HB.1 aN), (cbl HB.1 aO)⟩ (fun hHeld => ?_)
   clear hK K
   refine nm_ 8 ?_
   exact norm_ (by simp only [putAll, Act.put, List.setIfInBounds_toArray, List.set_cons_zero, List.set_cons_succ]) (hCont (aT, aU) _ ⟨hHeld, (by exact pbk ab.1), (by exact pbk ac.1), (by exact pbk aD.1), (by exact pbk aE.1), ak.1, b8.1, ae.1, ap.1, ag.1, aq.1, aj.1, ai.1, al.1, b9.1, af.1, ar.1, ah.1, au.1, pbg⟩)
  ·skip
   refine box_step ?hg (N := 8) ?hd (cs := #[.string (⟨#[]⟩ : ByteArray), .slice none 0 0, .slice none 0 0, .slice none 0 0, .int .i64 0]) (t := 48) ?hr ?_; (case hd => rfl); (case hg => rfl); (case hr => first | (go_simp; done) | (go_simp; rfl))
   intro aU hg gF hbox hb
   have n0_ := bbh ab hb
   have n1_ := bbh ac hb
   have n2_ := bst hb
   have n3_ := am hbox
   have n4_ := gwb hg
   have n5_ := gwb hg
   have n6_ := nlt hg ab
   have n7_ := ngt hg ab
   have n8_ := nlt hg ac
   have n9_ := ngt hg ac
   clear ab ac HB
   have ab := n0_
   have ac := n1_
   have HB := n2_
   have aE := n3_
   have al := n4_
   have b9 := n5_
   have af := n6_
   have ar := n7_
   have ah := n8_
   have au := n9_
   clear n0_ n1_ n2_ n3_ n4_ n5_ n6_ n7_ n8_ n9_ hb hbox hg
   refine hK.out _ _ ⟨(blk_cell ab.1 0).trans rfl, (blk_cell ab.1 1).trans rfl, (blk_cell ab.1 2).trans rfl, (blk_cell ac.1 0).trans rfl, (blk_cell ac.1 1).trans rfl, (blk_cell ac.1 2).trans rfl, (cbl HB.1 aF), (cbl HB.1 aG), (cbl HB.1 aH), (cbl HB.1 aI), (cbl HB.1 aJ), (cbl HB.1 aK), (cbl HB.1 aL), (cbl HB.1 aM), (cbl HB.1 aN), (cbl HB.1 aO)⟩ (fun hHeld => ?_)
   clear hK K
   refine nm_ 8 ?_
   refine on HT_.1 10 (some 7) rfl fun K hK => ?_
   refine box_step ?hg (N := 7) ?hd (cs := #[.string (⟨#[]⟩ : ByteArray), .slice none 0 0, .slice none 0 0, .slice none 0 0, .int .i64 0]) (t := 48) ?hr ?_; (case hd => rfl); (case hg => rfl); (case hr => first | (go_simp; done) | (go_simp; rfl))
   intro aT hg gG hbox hb
   have n0_ := bbh ab hb
   have n1_ := bbh ac hb
   have n2_ := bbh aE hb
   have n3_ := bst hb
   have n4_ := am hbox
   have n5_ := gwb hg
   have n6_ := gwb hg
   have n7_ := nlt hg ab
   have n8_ := ngt hg ab
   have n9_ := nlt hg ac
   have n10_ := ngt hg ac
   have n11_ := nlt hg aE
   have n12_ := ngt hg aE
   clear ab ac aE HB
   have ab := n0_
   have ac := n1_
   have aE := n2_
   have HB := n3_
   have aD := n4_
   have ak := n5_
   have b8 := n6_
   have ae := n7_
   have ap := n8_
   have ag := n9_
   have aq := n10_
   have aj := n11_
   have ai := n12_
   clear n0_ n1_ n2_ n3_ n4_ n5_ n6_ n7_ n8_ n9_ n10_ n11_ n12_ hb hbox hg
   refine hK.out _ _ ⟨(blk_cell ab.1 0).trans rfl, (blk_cell ab.1 1).trans rfl, (blk_cell ab.1 2).trans rfl, (blk_cell ac.1 0).trans rfl, (blk_cell ac.1 1).trans rfl, (blk_cell ac.1 2).trans rfl, (cbl HB.1 aF), (cbl HB.1 aG), (cbl HB.1 aH), (cbl HB.1 aI), (cbl HB.1 aJ), (cbl HB.1 aK), (cbl HB.1 aL), (cbl HB.1 aM), (cbl HB.1 aN), (cbl HB.1 aO)⟩ (fun hHeld => ?_)
   clear hK K
   refine nm_ 7 ?_
   exact norm_ (by simp only [putAll, Act.put, List.setIfInBounds_toArray, List.set_cons_zero, List.set_cons_succ]) (hCont (aT, aU) _ ⟨hHeld, (by exact pbk ab.1), (by exact pbk ac.1), (by exact pbk aD.1), (by exact pbk aE.1), ak.1, b8.1, ae.1, ap.1, ag.1, aq.1, aj.1, ai.1, al.1, b9.1, af.1, ar.1, ah.1, au.1, pbg⟩)
 rintro ⟨aT, aU⟩ bg ⟨hS_, h0_, h1_, h2_, h3_, h4_, h5_, h6_, h7_, h8_, h9_, h10_, h11_, h12_, h13_, h14_, h15_, h16_, h17_, h18_⟩
 have aD : Aside0 (bg.heap[aT]? = some (.cells #[.string (⟨#[]⟩ : ByteArray), .slice none 0 0, .slice none 0 0, .slice none 0 0, .int .i64 0] 48 (0, 0))) := ⟨h2_⟩
 have aE : Aside0 (bg.heap[aU]? = some (.cells #[.string (⟨#[]⟩ : ByteArray), .slice none 0 0, .slice none 0 0, .slice none 0 0, .int .i64 0] 48 (0, 0))) := ⟨h3_⟩
 have ak : Aside0 (w.heap.size ≤ aT) := ⟨h4_⟩
 have b8 : Aside0 (w.heap.size ≤ aT) := ⟨h5_⟩
 have ae : Aside0 (aB ≠ aT) := ⟨h6_⟩
 have ap : Aside0 (aT ≠ aB) := ⟨h7_⟩
 have ag : Aside0 (aC ≠ aT) := ⟨h8_⟩
 have aq : Aside0 (aT ≠ aC) := ⟨h9_⟩
 have aj : Aside0 (aU ≠ aT) := ⟨h10_⟩
 have ai : Aside0 (aT ≠ aU) := ⟨h11_⟩
 have al : Aside0 (w.heap.size ≤ aU) := ⟨h12_⟩
 have b9 : Aside0 (w.heap.size ≤ aU) := ⟨h13_⟩
 have af : Aside0 (aB ≠ aU) := ⟨h14_⟩
 have ar : Aside0 (aU ≠ aB) := ⟨h15_⟩
 have ah : Aside0 (aC ≠ aU) := ⟨h16_⟩
 have au : Aside0 (aU ≠ aC) := ⟨h17_⟩
 replace ab : Aside0 (bg.heap[aB]? = some (.cells #[.string a9, .slice bD az.length bj, .slice (some ax) av.length bk] 25 (0, 0))) := ⟨h0_⟩
 replace ac : Aside0 (bg.heap[aC]? = some (.cells #[.string ba, .slice bE aA.length bl, .slice (some ay) aw.length bm] 25 (0, 0))) := ⟨h1_⟩
 replace HB : Aside0 (Below w.heap.size w bg) := ⟨h18_⟩
 (try clear h0_ h1_ h2_ h3_ h4_ h5_ h6_ h7_ h8_ h9_ h10_ h11_ h12_ h13_ h14_ h15_ h16_ h17_ h18_)
 have hHeld : bg.cell? ⟨aB, 0, none⟩ = some (.string a9) ∧ bg.cell? ⟨aB, 1, none⟩ = some (.slice bD az.length bj) ∧ bg.cell? ⟨aB, 2, none⟩ = some (.slice (some ax) av.length bk) ∧ bg.cell? ⟨aC, 0, none⟩ = some (.string ba) ∧ bg.cell? ⟨aC, 1, none⟩ = some (.slice bE aA.length bl) ∧ bg.cell? ⟨aC, 2, none⟩ = some (.slice (some ay) aw.length bm) ∧ bg.cell? (ax.add ((aa).toNat * 5)) = some (.string ((rd_T48 av aa).f0)) ∧ bg.cell? ⟨(ax.add ((aa).toNat * 5)).block, (ax.add ((aa).toNat * 5)).off + 1, none⟩ = some (.slice bW ((rd_T48 av aa).f1).length b2) ∧ bg.cell? ⟨(ax.add ((aa).toNat * 5)).block, (ax.add ((aa).toNat * 5)).off + 2, none⟩ = some (.slice bX ((rd_T48 av aa).f2).length b3) ∧ bg.cell? ⟨(ax.add ((aa).toNat * 5)).block, (ax.add ((aa).toNat * 5)).off + 3, none⟩ = some (.slice bY ((rd_T48 av aa).f3).length b4) ∧ bg.cell? ⟨(ax.add ((aa).toNat * 5)).block, (ax.add ((aa).toNat * 5)).off + 4, none⟩ = some (.int .i64 ((rd_T48 av aa).f4)) ∧ bg.cell? (ay.add ((aa).toNat * 5)) = some (.string ((rd_T48 aw aa).f0)) ∧ bg.cell? ⟨(ay.add ((aa).toNat * 5)).block, (ay.add ((aa).toNat * 5)).off + 1, none⟩ = some (.slice bZ ((rd_T48 aw aa).f1).length b5) ∧ bg.cell? ⟨(ay.add ((aa).toNat * 5)).block, (ay.add ((aa).toNat * 5)).off + 2, none⟩ = some (.slice b0 ((rd_T48 aw aa).f2).length b6) ∧ bg.cell? ⟨(ay.add ((aa).toNat * 5)).block, (ay.add ((aa).toNat * 5)).off + 3, none⟩ = some (.slice b1 ((rd_T48 aw aa).f3).length b7) ∧ bg.cell? ⟨(ay.add ((aa).toNat * 5)).block, (ay.add ((aa).toNat * 5)).off + 4, none⟩ = some (.int .i64 ((rd_T48 aw aa).f4)) := hS_
 refine norm_ (a' := ?_) ?_ ?_
 rotate_left
 ·simp only [putAll, Act.put, List.setIfInBounds_toArray, List.set_cons_zero, List.set_cons_succ]
  rfl
 refine on HT_.1 12 none rfl fun K hK => ?_
 have gp : bg.cell? ⟨aT, 0, none⟩ = some (.string (⟨#[]⟩ : ByteArray)) := (blk_cell aD.1 0).trans rfl
 have fy := blk_frozen aD.1 0
 have dQ := ae.1
 have dR := ag.1
 have dS := aj.1
 have dj := ap.1
 have dk := aq.1
 have dl := ai.1
 have gq : bg.cell? ⟨aT, 1, none⟩ = some (.slice none 0 0) := (blk_cell aD.1 1).trans rfl
 have fz := blk_frozen aD.1 1
 have dU := ae.1
 have dV := ag.1
 have dW := aj.1
 have dm := ap.1
 have dn := aq.1
 have dp := ai.1
 have gr : bg.cell? ⟨aT, 2, none⟩ = some (.slice none 0 0) := (blk_cell aD.1 2).trans rfl
 have fA := blk_frozen aD.1 2
 have dX := ae.1
 have dY := ag.1
 have dZ := aj.1
 have dr := ap.1
 have dt := aq.1
 have du := ai.1
 have gs : bg.cell? ⟨aT, 3, none⟩ = some (.slice none 0 0) := (blk_cell aD.1 3).trans rfl
 have fB := blk_frozen aD.1 3
 have d0 := ae.1
 have d1 := ag.1
 have d2 := aj.1
 have dv := ap.1
 have dw := aq.1
 have dx := ai.1
 have gu : bg.cell? ⟨aT, 4, none⟩ = some (.int .i64 0) := (blk_cell aD.1 4).trans rfl
 have fC := blk_frozen aD.1 4
 have d3 := ae.1
 have d4 := ag.1
 have d5 := aj.1
 have dy := ap.1
 have dz := aq.1
 have dA := ai.1
 refine skip_ (w1 := ?_) (by rfl) rfl ?_ ?_
 rotate_left
 ·go_simp
  rfl
 refine hK.out _ _ ⟨((far5 ae.1).trans (hHeld.1)), ((far5 ae.1).trans (hHeld.2.1)), ((far5 ae.1).trans (hHeld.2.2.1)), ((far5 ag.1).trans (hHeld.2.2.2.1)), ((far5 ag.1).trans (hHeld.2.2.2.2.1)), ((far5 ag.1).trans (hHeld.2.2.2.2.2.1)), ((far5 (by first | exact Nat.ne_of_lt (Nat.lt_of_lt_of_le (by have := World.block_lt_of_cell? _ _ aF; first | rwa [add_block] at this | exact this) ak.1) | (rw [add_block]; exact Nat.ne_of_lt (Nat.lt_of_lt_of_le (by have := World.block_lt_of_cell? _ _ aF; first | rwa [add_block] at this | exact this) ak.1)) | (show (Addr.add _ _).block ≠ _; rw [add_block]; exact Nat.ne_of_lt (Nat.lt_of_lt_of_le (by have := World.block_lt_of_cell? _ _ aF; first | rwa [add_block] at this | exact this) ak.1)) | (dsimp only; exact Nat.ne_of_lt (Nat.lt_of_lt_of_le (by have := World.block_lt_of_cell? _ _ aF; first | rwa [add_block] at this | exact this) ak.1)))).trans (hHeld.2.2.2.2.2.2.1)), ((far5 (by first | exact Nat.ne_of_lt (Nat.lt_of_lt_of_le (by have := World.block_lt_of_cell? _ _ aG; first | rwa [add_block] at this | exact this) ak.1) | (rw [add_block]; exact Nat.ne_of_lt (Nat.lt_of_lt_of_le (by have := World.block_lt_of_cell? _ _ aG; first | rwa [add_block] at this | exact this) ak.1)) | (show (Addr.add _ _).block ≠ _; rw [add_block]; exact Nat.ne_of_lt (Nat.lt_of_lt_of_le (by have := World.block_lt_of_cell? _ _ aG; first | rwa [add_block] at this | exact this) ak.1)) | (dsimp only; exact Nat.ne_of_lt (Nat.lt_of_lt_of_le (by have := World.block_lt_of_cell? _ _ aG; first | rwa [add_block] at this | exact this) ak.1)))).trans (hHeld.2.2.2.2.2.2.2.1)), ((far5 (by first | exact Nat.ne_of_lt (Nat.lt_of_lt_of_le (by have := World.block_lt_of_cell? _ _ aH; first | rwa [add_block] at this | exact this) ak.1) | (rw [add_block]; exact Nat.ne_of_lt (Nat.lt_of_lt_of_le (by have := World.block_lt_of_cell? _ _ aH; first | rwa [add_block] at this | exact this) ak.1)) | (show (Addr.add _ _).block ≠ _; rw [add_block]; exact Nat.ne_of_lt (Nat.lt_of_lt_of_le (by have := World.block_lt_of_cell? _ _ aH; first | rwa [add_block] at this | exact this) ak.1)) | (dsimp only; exact Nat.ne_of_lt (Nat.lt_of_lt_of_le (by have := World.block_lt_of_cell? _ _ aH; first | rwa [add_block] at this | exact this) ak.1)))).trans (hHeld.2.2.2.2.2.2.2.2.1)), ((far5 (by first | exact Nat.ne_of_lt (Nat.lt_of_lt_of_le (by have := World.block_lt_of_cell? _ _ aI; first | rwa [add_block] at this | exact this) ak.1) | (rw [add_block]; exact Nat.ne_of_lt (Nat.lt_of_lt_of_le (by have := World.block_lt_of_cell? _ _ aI; first | rwa [add_block] at this | exact this) ak.1)) | (show (Addr.add _ _).block ≠ _; rw [add_block]; exact Nat.ne_of_lt (Nat.lt_of_lt_of_le (by have := World.block_lt_of_cell? _ _ aI; first | rwa [add_block] at this | exact this) ak.1)) | (dsimp only; exact Nat.ne_of_lt (Nat.lt_of_lt_of_le (by have := World.block_lt_of_cell? _ _ aI; first | rwa [add_block] at this | exact this) ak.1)))).trans (hHeld.2.2.2.2.2.2.2.2.2.1)), ((far5 (by first | exact Nat.ne_of_lt (Nat.lt_of_lt_of_le (by have := World.block_lt_of_cell? _ _ aJ; first | rwa [add_block] at this | exact this) ak.1) | (rw [add_block]; exact Nat.ne_of_lt (Nat.lt_of_lt_of_le (by have := World.block_lt_of_cell? _ _ aJ; first | rwa [add_block] at this | exact this) ak.1)) | (show (Addr.add _ _).block ≠ _; rw [add_block]; exact Nat.ne_of_lt (Nat.lt_of_lt_of_le (by have := World.block_lt_of_cell? _ _ aJ; first | rwa [add_block] at this | exact this) ak.1)) | (dsimp only; exact Nat.ne_of_lt (Nat.lt_of_lt_of_le (by have := World.block_lt_of_cell? _ _ aJ; first | rwa [add_block] at this | exact this) ak.1)))).trans (hHeld.2.2.2.2.2.2.2.2.2.2.1)), ((far5 (by first | exact Nat.ne_of_lt (Nat.lt_of_lt_of_le (by have := World.block_lt_of_cell? _ _ aK; first | rwa [add_block] at this | exact this) ak.1) | (rw [add_block]; exact Nat.ne_of_lt (Nat.lt_of_lt_of_le (by have := World.block_lt_of_cell? _ _ aK; first | rwa [add_block] at this | exact this) ak.1)) | (show (Addr.add _ _).block ≠ _; rw [add_block]; exact Nat.ne_of_lt (Nat.lt_of_lt_of_le (by have := World.block_lt_of_cell? _ _ aK; first | rwa [add_block] at this | exact this) ak.1)) | (dsimp only; exact Nat.ne_of_lt (Nat.lt_of_lt_of_le (by have := World.block_lt_of_cell? _ _ aK; first | rwa [add_block] at this | exact this) ak.1)))).trans (hHeld.2.2.2.2.2.2.2.2.2.2.2.1)), ((far5 (by first | exact Nat.ne_of_lt (Nat.lt_of_lt_of_le (by have := World.block_lt_of_cell? _ _ aL; first | rwa [add_block] at this | exact this) ak.1) | (rw [add_block]; exact Nat.ne_of_lt (Nat.lt_of_lt_of_le (by have := World.block_lt_of_cell? _ _ aL; first | rwa [add_block] at this | exact this) ak.1)) | (show (Addr.add _ _).block ≠ _; rw [add_block]; exact Nat.ne_of_lt (Nat.lt_of_lt_of_le (by have := World.block_lt_of_cell? _ _ aL; first | rwa [add_block] at this | exact this) ak.1)) | (dsimp only; exact Nat.ne_of_lt (Nat.lt_of_lt_of_le (by have := World.block_lt_of_cell? _ _ aL; first | rwa [add_block] at this | exact this) ak.1)))).trans (hHeld.2.2.2.2.2.2.2.2.2.2.2.2.1)), ((far5 (by first | exact Nat.ne_of_lt (Nat.lt_of_lt_of_le (by have := World.block_lt_of_cell? _ _ aM; first | rwa [add_block] at this | exact this) ak.1) | (rw [add_block]; exact Nat.ne_of_lt (Nat.lt_of_lt_of_le (by have := World.block_lt_of_cell? _ _ aM; first | rwa [add_block] at this | exact this) ak.1)) | (show (Addr.add _ _).block ≠ _; rw [add_block]; exact Nat.ne_of_lt (Nat.lt_of_lt_of_le (by have := World.block_lt_of_cell? _ _ aM; first | rwa [add_block] at this | exact this) ak.1)) | (dsimp only; exact Nat.ne_of_lt (Nat.lt_of_lt_of_le (by have := World.block_lt_of_cell? _ _ aM; first | rwa [add_block] at this | exact this) ak.1)))).trans (hHeld.2.2.2.2.2.2.2.2.2.2.2.2.2.1)), ((far5 (by first | exact Nat.ne_of_lt (Nat.lt_of_lt_of_le (by have := World.block_lt_of_cell? _ _ aN; first | rwa [add_block] at this | exact this) ak.1) | (rw [add_block]; exact Nat.ne_of_lt (Nat.lt_of_lt_of_le (by have := World.block_lt_of_cell? _ _ aN; first | rwa [add_block] at this | exact this) ak.1)) | (show (Addr.add _ _).block ≠ _; rw [add_block]; exact Nat.ne_of_lt (Nat.lt_of_lt_of_le (by have := World.block_lt_of_cell? _ _ aN; first | rwa [add_block] at this | exact this) ak.1)) | (dsimp only; exact Nat.ne_of_lt (Nat.lt_of_lt_of_le (by have := World.block_lt_of_cell? _ _ aN; first | rwa [add_block] at this | exact this) ak.1)))).trans (hHeld.2.2.2.2.2.2.2.2.2.2.2.2.2.2.1)), ((far5 (by first | exact Nat.ne_of_lt (Nat.lt_of_lt_of_le (by have := World.block_lt_of_cell? _ _ aO; first | rwa [add_block] at this | exact this) ak.1) | (rw [add_block]; exact Nat.ne_of_lt (Nat.lt_of_lt_of_le (by have := World.block_lt_of_cell? _ _ aO; first | rwa [add_block] at this | exact this) ak.1)) | (show (Addr.add _ _).block ≠ _; rw [add_block]; exact Nat.ne_of_lt (Nat.lt_of_lt_of_le (by have := World.block_lt_of_cell? _ _ aO; first | rwa [add_block] at this | exact this) ak.1)) | (dsimp only; exact Nat.ne_of_lt (Nat.lt_of_lt_of_le (by have := World.block_lt_of_cell? _ _ aO; first | rwa [add_block] at this | exact this) ak.1)))).trans (hHeld.2.2.2.2.2.2.2.2.2.2.2.2.2.2.2))⟩ (fun hHeld => ?_)
 clear hK K
 refine on HT_.1 13 none rfl fun K hK => ?_
 have gv : bg.cell? ⟨aU, 0, none⟩ = some (.string (⟨#[]⟩ : ByteArray)) := (blk_cell aE.1 0).trans rfl
 have fD := blk_frozen aE.1 0
 have d6 := af.1
 have d7 := ah.1
 have d8 := ai.1
 have dB := ar.1
 have dC := au.1
 have dD := aj.1
 have gw : bg.cell? ⟨aU, 1, none⟩ = some (.slice none 0 0) := (blk_cell aE.1 1).trans rfl
 have fE := blk_frozen aE.1 1
 have d9 := af.1
 have ea := ah.1
 have ec := ai.1
 have dE := ar.1
 have dF := au.1
 have dG := aj.1
 have gx : bg.cell? ⟨aU, 2, none⟩ = some (.slice none 0 0) := (blk_cell aE.1 2).trans rfl
 have fF := blk_frozen aE.1 2
 have ed := af.1
 have ee := ah.1
 have ef := ai.1
 have dH := ar.1
 have dI := au.1
 have dJ := aj.1
 have gy : bg.cell? ⟨aU, 3, none⟩ = some (.slice none 0 0) := (blk_cell aE.1 3).trans rfl
 have fG := blk_frozen aE.1 3
 have eg := af.1
 have eh := ah.1
 have ei := ai.1
 have dK := ar.1
 have dL := au.1
 have dM := aj.1
 have gz : bg.cell? ⟨aU, 4, none⟩ = some (.int .i64 0) := (blk_cell aE.1 4).trans rfl
 have fH := blk_frozen aE.1 4
 have ej := af.1
 have ek := ah.1
 have el := ai.1
 have dN := ar.1
 have dO := au.1
 have dP := aj.1
 refine skip_ (w1 := ?_) (by rfl) rfl ?_ ?_
 rotate_left
 ·go_simp
  rfl
 refine hK.out _ _ ⟨((far5 af.1).trans (hHeld.1)), ((far5 af.1).trans (hHeld.2.1)), ((far5 af.1).trans (hHeld.2.2.1)), ((far5 ah.1).trans (hHeld.2.2.2.1)), ((far5 ah.1).trans (hHeld.2.2.2.2.1)), ((far5 ah.1).trans (hHeld.2.2.2.2.2.1)), ((far5 (by first | exact Nat.ne_of_lt (Nat.lt_of_lt_of_le (by have := World.block_lt_of_cell? _ _ aF; first | rwa [add_block] at this | exact this) al.1) | (rw [add_block]; exact Nat.ne_of_lt (Nat.lt_of_lt_of_le (by have := World.block_lt_of_cell? _ _ aF; first | rwa [add_block] at this | exact this) al.1)) | (show (Addr.add _ _).block ≠ _; rw [add_block]; exact Nat.ne_of_lt (Nat.lt_of_lt_of_le (by have := World.block_lt_of_cell? _ _ aF; first | rwa [add_block] at this | exact this) al.1)) | (dsimp only; exact Nat.ne_of_lt (Nat.lt_of_lt_of_le (by have := World.block_lt_of_cell? _ _ aF; first | rwa [add_block] at this | exact this) al.1)))).trans (hHeld.2.2.2.2.2.2.1)), ((far5 (by first | exact Nat.ne_of_lt (Nat.lt_of_lt_of_le (by have := World.block_lt_of_cell? _ _ aG; first | rwa [add_block] at this | exact this) al.1) | (rw [add_block]; exact Nat.ne_of_lt (Nat.lt_of_lt_of_le (by have := World.block_lt_of_cell? _ _ aG; first | rwa [add_block] at this | exact this) al.1)) | (show (Addr.add _ _).block ≠ _; rw [add_block]; exact Nat.ne_of_lt (Nat.lt_of_lt_of_le (by have := World.block_lt_of_cell? _ _ aG; first | rwa [add_block] at this | exact this) al.1)) | (dsimp only; exact Nat.ne_of_lt (Nat.lt_of_lt_of_le (by have := World.block_lt_of_cell? _ _ aG; first | rwa [add_block] at this | exact this) al.1)))).trans (hHeld.2.2.2.2.2.2.2.1)), ((far5 (by first | exact Nat.ne_of_lt (Nat.lt_of_lt_of_le (by have := World.block_lt_of_cell? _ _ aH; first | rwa [add_block] at this | exact this) al.1) | (rw [add_block]; exact Nat.ne_of_lt (Nat.lt_of_lt_of_le (by have := World.block_lt_of_cell? _ _ aH; first | rwa [add_block] at this | exact this) al.1)) | (show (Addr.add _ _).block ≠ _; rw [add_block]; exact Nat.ne_of_lt (Nat.lt_of_lt_of_le (by have := World.block_lt_of_cell? _ _ aH; first | rwa [add_block] at this | exact this) al.1)) | (dsimp only; exact Nat.ne_of_lt (Nat.lt_of_lt_of_le (by have := World.block_lt_of_cell? _ _ aH; first | rwa [add_block] at this | exact this) al.1)))).trans (hHeld.2.2.2.2.2.2.2.2.1)), ((far5 (by first | exact Nat.ne_of_lt (Nat.lt_of_lt_of_le (by have := World.block_lt_of_cell? _ _ aI; first | rwa [add_block] at this | exact this) al.1) | (rw [add_block]; exact Nat.ne_of_lt (Nat.lt_of_lt_of_le (by have := World.block_lt_of_cell? _ _ aI; first | rwa [add_block] at this | exact this) al.1)) | (show (Addr.add _ _).block ≠ _; rw [add_block]; exact Nat.ne_of_lt (Nat.lt_of_lt_of_le (by have := World.block_lt_of_cell? _ _ aI; first | rwa [add_block] at this | exact this) al.1)) | (dsimp only; exact Nat.ne_of_lt (Nat.lt_of_lt_of_le (by have := World.block_lt_of_cell? _ _ aI; first | rwa [add_block] at this | exact this) al.1)))).trans (hHeld.2.2.2.2.2.2.2.2.2.1)), ((far5 (by first | exact Nat.ne_of_lt (Nat.lt_of_lt_of_le (by have := World.block_lt_of_cell? _ _ aJ; first | rwa [add_block] at this | exact this) al.1) | (rw [add_block]; exact Nat.ne_of_lt (Nat.lt_of_lt_of_le (by have := World.block_lt_of_cell? _ _ aJ; first | rwa [add_block] at this | exact this) al.1)) | (show (Addr.add _ _).block ≠ _; rw [add_block]; exact Nat.ne_of_lt (Nat.lt_of_lt_of_le (by have := World.block_lt_of_cell? _ _ aJ; first | rwa [add_block] at this | exact this) al.1)) | (dsimp only; exact Nat.ne_of_lt (Nat.lt_of_lt_of_le (by have := World.block_lt_of_cell? _ _ aJ; first | rwa [add_block] at this | exact this) al.1)))).trans (hHeld.2.2.2.2.2.2.2.2.2.2.1)), ((far5 (by first | exact Nat.ne_of_lt (Nat.lt_of_lt_of_le (by have := World.block_lt_of_cell? _ _ aK; first | rwa [add_block] at this | exact this) al.1) | (rw [add_block]; exact Nat.ne_of_lt (Nat.lt_of_lt_of_le (by have := World.block_lt_of_cell? _ _ aK; first | rwa [add_block] at this | exact this) al.1)) | (show (Addr.add _ _).block ≠ _; rw [add_block]; exact Nat.ne_of_lt (Nat.lt_of_lt_of_le (by have := World.block_lt_of_cell? _ _ aK; first | rwa [add_block] at this | exact this) al.1)) | (dsimp only; exact Nat.ne_of_lt (Nat.lt_of_lt_of_le (by have := World.block_lt_of_cell? _ _ aK; first | rwa [add_block] at this | exact this) al.1)))).trans (hHeld.2.2.2.2.2.2.2.2.2.2.2.1)), ((far5 (by first | exact Nat.ne_of_lt (Nat.lt_of_lt_of_le (by have := World.block_lt_of_cell? _ _ aL; first | rwa [add_block] at this | exact this) al.1) | (rw [add_block]; exact Nat.ne_of_lt (Nat.lt_of_lt_of_le (by have := World.block_lt_of_cell? _ _ aL; first | rwa [add_block] at this | exact this) al.1)) | (show (Addr.add _ _).block ≠ _; rw [add_block]; exact Nat.ne_of_lt (Nat.lt_of_lt_of_le (by have := World.block_lt_of_cell? _ _ aL; first | rwa [add_block] at this | exact this) al.1)) | (dsimp only; exact Nat.ne_of_lt (Nat.lt_of_lt_of_le (by have := World.block_lt_of_cell? _ _ aL; first | rwa [add_block] at this | exact this) al.1)))).trans (hHeld.2.2.2.2.2.2.2.2.2.2.2.2.1)), ((far5 (by first | exact Nat.ne_of_lt (Nat.lt_of_lt_of_le (by have := World.block_lt_of_cell? _ _ aM; first | rwa [add_block] at this | exact this) al.1) | (rw [add_block]; exact Nat.ne_of_lt (Nat.lt_of_lt_of_le (by have := World.block_lt_of_cell? _ _ aM; first | rwa [add_block] at this | exact this) al.1)) | (show (Addr.add _ _).block ≠ _; rw [add_block]; exact Nat.ne_of_lt (Nat.lt_of_lt_of_le (by have := World.block_lt_of_cell? _ _ aM; first | rwa [add_block] at this | exact this) al.1)) | (dsimp only; exact Nat.ne_of_lt (Nat.lt_of_lt_of_le (by have := World.block_lt_of_cell? _ _ aM; first | rwa [add_block] at this | exact this) al.1)))).trans (hHeld.2.2.2.2.2.2.2.2.2.2.2.2.2.1)), ((far5 (by first | exact Nat.ne_of_lt (Nat.lt_of_lt_of_le (by have := World.block_lt_of_cell? _ _ aN; first | rwa [add_block] at this | exact this) al.1) | (rw [add_block]; exact Nat.ne_of_lt (Nat.lt_of_lt_of_le (by have := World.block_lt_of_cell? _ _ aN; first | rwa [add_block] at this | exact this) al.1)) | (show (Addr.add _ _).block ≠ _; rw [add_block]; exact Nat.ne_of_lt (Nat.lt_of_lt_of_le (by have := World.block_lt_of_cell? _ _ aN; first | rwa [add_block] at this | exact this) al.1)) | (dsimp only; exact Nat.ne_of_lt (Nat.lt_of_lt_of_le (by have := World.block_lt_of_cell? _ _ aN; first | rwa [add_block] at this | exact this) al.1)))).trans (hHeld.2.2.2.2.2.2.2.2.2.2.2.2.2.2.1)), ((far5 (by first | exact Nat.ne_of_lt (Nat.lt_of_lt_of_le (by have := World.block_lt_of_cell? _ _ aO; first | rwa [add_block] at this | exact this) al.1) | (rw [add_block]; exact Nat.ne_of_lt (Nat.lt_of_lt_of_le (by have := World.block_lt_of_cell? _ _ aO; first | rwa [add_block] at this | exact this) al.1)) | (show (Addr.add _ _).block ≠ _; rw [add_block]; exact Nat.ne_of_lt (Nat.lt_of_lt_of_le (by have := World.block_lt_of_cell? _ _ aO; first | rwa [add_block] at this | exact this) al.1)) | (dsimp only; exact Nat.ne_of_lt (Nat.lt_of_lt_of_le (by have := World.block_lt_of_cell? _ _ aO; first | rwa [add_block] at this | exact this) al.1)))).trans (hHeld.2.2.2.2.2.2.2.2.2.2.2.2.2.2.2))⟩ (fun hHeld => ?_)
 clear hK K
 refine done_ (done_of HT_.1 (by kernel_rfl)) ?_
 have H := HZ_.1
 clear HZ_
 by_cases cK : ((rd_T48 av aa).f0).toList = ((rd_T48 aw aa).f0).toList
 rotate_left
 ·rw [if_neg cK] at H
  have db : (((rd_T48 av aa).f0).toList == ((rd_T48 aw aa).f0).toList) = false := beq_eq_false_iff_ne.mpr cK
  have dc : (((rd_T48 av aa).f0).toList != ((rd_T48 aw aa).f0).toList) = true := bne_iff_ne.mpr cK
  obtain rfl := Option.some.inj H
  have eH := ap.1
  have e5 := ae.1
  have eI := aq.1
  have e6 := ag.1
  have eJ := ai.1
  have e7 := aj.1
  have gO := cf5 aD.1
  have eK := ar.1
  have e8 := af.1
  have eL := au.1
  have e9 := ah.1
  have gP := cf5 aE.1
  try go_wp2
  go_ret
  exact ⟨per, pbg⟩
 rw [if_pos cK] at H
 have db : (((rd_T48 av aa).f0).toList == ((rd_T48 aw aa).f0).toList) = true := beq_iff_eq.mpr cK
 have dc : (((rd_T48 av aa).f0).toList != ((rd_T48 aw aa).f0).toList) = false := bne_eq_false_iff_eq.mpr cK
 clear cK
 replace H := ife H
 rcases H with ⟨de, df, H⟩ | ⟨de, df, H⟩
 rotate_left
 ·obtain rfl := Option.some.inj H
  have eC := ap.1
  have eX := ae.1
  have eD := aq.1
  have eY := ag.1
  have eE := ai.1
  have eZ := aj.1
  have gM := cf5 aD.1
  have eF := ar.1
  have e0 := af.1
  have eG := au.1
  have e4 := ah.1
  have gN := cf5 aE.1
  try go_wp2
  go_ret
  exact ⟨per, pbg⟩
 replace H := bnd H
 obtain ⟨cR, dg, H⟩ := H
 (try dsimp only at H)
 cases cR
 ·rw [if_neg Bool.false_ne_true] at H
  obtain rfl := Option.some.inj H
  have ex := ap.1
  have eS := ae.1
  have ey := aq.1
  have eT := ag.1
  have ez := ai.1
  have eU := aj.1
  have gK := cf5 aD.1
  have eA := ar.1
  have eV := af.1
  have eB := au.1
  have eW := ah.1
  have gL := cf5 aE.1
  try go_wp2_with (first | (go_at_call 48; (with_reducible refine (r09_SameArcs.calls k3 _ _ ((rd_T48 av aa).f1) _ _ ((rd_T48 aw aa).f1) false _ ?side1 ?side2 ?side3 ?side4 dg.1).mono ?_); (case side1 => exact Kd.C_below bh.1 pbg); (case side2 => exact bn.1); (case side3 => exact Kd.C_below bi.1 pbg); (case side4 => exact bo.1); rintro e w' ⟨rfl, ⟨nd, rfl⟩⟩))
  go_ret
  exact ⟨per, pbg⟩
 rw [if_pos rfl] at H
 replace H := bnd H
 obtain ⟨cS, em, H⟩ := H
 (try dsimp only at H)
 cases cS
 ·rw [if_neg Bool.false_ne_true] at H
  obtain rfl := Option.some.inj H
  have es := ap.1
  have eN := ae.1
  have et := aq.1
  have eO := ag.1
  have eu := ai.1
  have eP := aj.1
  have gI := cf5 aD.1
  have ev := ar.1
  have eQ := af.1
  have ew := au.1
  have eR := ah.1
  have gJ := cf5 aE.1
  try go_wp2_with (first | (go_at_call 48; (with_reducible refine (r09_SameArcs.calls k3 _ _ ((rd_T48 av aa).f1) _ _ ((rd_T48 aw aa).f1) true _ ?side1 ?side2 ?side3 ?side4 dg.1).mono ?_); (case side1 => exact Kd.C_below bh.1 pbg); (case side2 => exact bn.1); (case side3 => exact Kd.C_below bi.1 pbg); (case side4 => exact bo.1); rintro e w' ⟨rfl, ⟨nd, rfl⟩⟩) | (go_at_call 48; (with_reducible refine (r09_SameArcs.calls k3 _ _ ((rd_T48 av aa).f2) _ _ ((rd_T48 aw aa).f2) false _ ?side1 ?side2 ?side3 ?side4 em.1).mono ?_); (case side1 => exact Kd.C_below bp.1 pbg); (case side2 => exact bF.1); (case side3 => exact Kd.C_below bq.1 pbg); (case side4 => exact bG.1); rintro e w' ⟨rfl, ⟨nd, rfl⟩⟩))
  go_ret
  exact ⟨per, pbg⟩
 rw [if_pos rfl] at H
 replace H := bnd H
 obtain ⟨cT, fj, H⟩ := H
 (try dsimp only at H)
 cases cT
 ·rw [if_neg Bool.false_ne_true] at H
  obtain rfl := Option.some.inj H
  have fT := ap.1
  have gf := ae.1
  have fU := aq.1
  have gg := ag.1
  have fV := ai.1
  have gh := aj.1
  have g4 := cf5 aD.1
  have fW := ar.1
  have gi := af.1
  have fX := au.1
  have gj := ah.1
  have g5 := cf5 aE.1
  try go_wp2_with (first | (go_at_call 48; (with_reducible refine (r09_SameArcs.calls k3 _ _ ((rd_T48 av aa).f1) _ _ ((rd_T48 aw aa).f1) true _ ?side1 ?side2 ?side3 ?side4 dg.1).mono ?_); (case side1 => exact Kd.C_below bh.1 pbg); (case side2 => exact bn.1); (case side3 => exact Kd.C_below bi.1 pbg); (case side4 => exact bo.1); rintro e w' ⟨rfl, ⟨nd, rfl⟩⟩) | (go_at_call 48; (with_reducible refine (r09_SameArcs.calls k3 _ _ ((rd_T48 av aa).f2) _ _ ((rd_T48 aw aa).f2) true _ ?side1 ?side2 ?side3 ?side4 em.1).mono ?_); (case side1 => exact Kd.C_below bp.1 pbg); (case side2 => exact bF.1); (case side3 => exact Kd.C_below bq.1 pbg); (case side4 => exact bG.1); rintro e w' ⟨rfl, ⟨nd, rfl⟩⟩) | (go_at_call 48; (with_reducible refine (r09_SameArcs.calls k3 _ _ ((rd_T48 av aa).f3) _ _ ((rd_T48 aw aa).f3) false _ ?side1 ?side2 ?side3 ?side4 fj.1).mono ?_); (case side1 => exact Kd.C_below bH.1 pbg); (case side2 => exact ca.1); (case side3 => exact Kd.C_below bI.1 pbg); (case side4 => exact cb.1); rintro e w' ⟨rfl, ⟨nd, rfl⟩⟩))
  go_ret
  exact ⟨per, pbg⟩
 rw [if_pos rfl] at H
 have H' := am H
 clear H
 have fO := ap.1
 have f9 := ae.1
 have fP := aq.1
 have ga := ag.1
 have fQ := ai.1
 have gb := aj.1
 have z60 := cf5 aD.1
 have fR := ar.1
 have gc := af.1
 have fS := au.1
 have ge := ah.1
 have gZ := cf5 aE.1
 try go_wp2_with (first | (go_at_call 48; (with_reducible refine (r09_SameArcs.calls k3 _ _ ((rd_T48 av aa).f1) _ _ ((rd_T48 aw aa).f1) true _ ?side1 ?side2 ?side3 ?side4 dg.1).mono ?_); (case side1 => exact Kd.C_below bh.1 pbg); (case side2 => exact bn.1); (case side3 => exact Kd.C_below bi.1 pbg); (case side4 => exact bo.1); rintro e w' ⟨rfl, ⟨nd, rfl⟩⟩) | (go_at_call 48; (with_reducible refine (r09_SameArcs.calls k3 _ _ ((rd_T48 av aa).f2) _ _ ((rd_T48 aw aa).f2) true _ ?side1 ?side2 ?side3 ?side4 em.1).mono ?_); (case side1 => exact Kd.C_below bp.1 pbg); (case side2 => exact bF.1); (case side3 => exact Kd.C_below bq.1 pbg); (case side4 => exact bG.1); rintro e w' ⟨rfl, ⟨nd, rfl⟩⟩) | (go_at_call 48; (with_reducible refine (r09_SameArcs.calls k3 _ _ ((rd_T48 av aa).f3) _ _ ((rd_T48 aw aa).f3) true _ ?side1 ?side2 ?side3 ?side4 fj.1).mono ?_); (case side1 => exact Kd.C_below bH.1 pbg); (case side2 => exact ca.1); (case side3 => exact Kd.C_below bI.1 pbg); (case side4 => exact cb.1); rintro e w' ⟨rfl, ⟨nd, rfl⟩⟩))
 go_roundg k3
 case measure => have := dh.1; have := di.1; have := ft.1; omega
 case rel => exact ⟨(wrap64 (aa + 1)), prs, H', ⟨by have := dh.1; have := di.1; have := ft.1; omega⟩, ⟨by (with_reducible repeat (first | refine blk_drewN ?_ _ | refine blk_drew ?_ | refine blk_alloc ?_ _)); refine blk_far ?_ af.1 _; (with_reducible repeat (first | refine blk_drewN ?_ _ | refine blk_drew ?_ | refine blk_alloc ?_ _)); refine blk_far ?_ af.1 _; (with_reducible repeat (first | refine blk_drewN ?_ _ | refine blk_drew ?_ | refine blk_alloc ?_ _)); refine blk_far ?_ af.1 _; (with_reducible repeat (first | refine blk_drewN ?_ _ | refine blk_drew ?_ | refine blk_alloc ?_ _)); refine blk_far ?_ af.1 _; (with_reducible repeat (first | refine blk_drewN ?_ _ | refine blk_drew ?_ | refine blk_alloc ?_ _)); refine blk_far ?_ af.1 _; (with_reducible repeat (first | refine blk_drewN ?_ _ | refine blk_drew ?_ | refine blk_alloc ?_ _)); refine blk_far ?_ ae.1 _; (with_reducible repeat (first | refine blk_drewN ?_ _ | refine blk_drew ?_ | refine blk_alloc ?_ _)); refine blk_far ?_ ae.1 _; (with_reducible repeat (first | refine blk_drewN ?_ _ | refine blk_drew ?_ | refine blk_alloc ?_ _)); refine blk_far ?_ ae.1 _; (with_reducible repeat (first | refine blk_drewN ?_ _ | refine blk_drew ?_ | refine blk_alloc ?_ _)); refine blk_far ?_ ae.1 _; (with_reducible repeat (first | refine blk_drewN ?_ _ | refine blk_drew ?_ | refine blk_alloc ?_ _)); refine blk_far ?_ ae.1 _; exact pbk ab.1⟩, ⟨by (with_reducible repeat (first | refine blk_drewN ?_ _ | refine blk_drew ?_ | refine blk_alloc ?_ _)); refine blk_far ?_ ah.1 _; (with_reducible repeat (first | refine blk_drewN ?_ _ | refine blk_drew ?_ | refine blk_alloc ?_ _)); refine blk_far ?_ ah.1 _; (with_reducible repeat (first | refine blk_drewN ?_ _ | refine blk_drew ?_ | refine blk_alloc ?_ _)); refine blk_far ?_ ah.1 _; (with_reducible repeat (first | refine blk_drewN ?_ _ | refine blk_drew ?_ | refine blk_alloc ?_ _)); refine blk_far ?_ ah.1 _; (with_reducible repeat (first | refine blk_drewN ?_ _ | refine blk_drew ?_ | refine blk_alloc ?_ _)); refine blk_far ?_ ah.1 _; (with_reducible repeat (first | refine blk_drewN ?_ _ | refine blk_drew ?_ | refine blk_alloc ?_ _)); refine blk_far ?_ ag.1 _; (with_reducible repeat (first | refine blk_drewN ?_ _ | refine blk_drew ?_ | refine blk_alloc ?_ _)); refine blk_far ?_ ag.1 _; (with_reducible repeat (first | refine blk_drewN ?_ _ | refine blk_drew ?_ | refine blk_alloc ?_ _)); refine blk_far ?_ ag.1 _; (with_reducible repeat (first | refine blk_drewN ?_ _ | refine blk_drew ?_ | refine blk_alloc ?_ _)); refine blk_far ?_ ag.1 _; (with_reducible repeat (first | refine blk_drewN ?_ _ | refine blk_drew ?_ | refine blk_alloc ?_ _)); refine blk_far ?_ ag.1 _; exact pbk ac.1⟩, ⟨pbg⟩⟩

end Go.Proofs.Ytnoebjmhimehcaa.P
